/- Contract of the reference's draw DrawSteering. -/
import Derived.Test.YtkfekgmdjemkbaaDrawSt3
import Derived.Test.YtkfekgmdjemkbaaDrawL9
namespace Go.Proofs.Ytkfekgmdjemkbaa
set_option linter.unusedSimpArgs false
set_option linter.unusedVariables false
open Go.RowKit Go.ChangeShapes Go.WideShapes
/-- A drawn steering with packets. -/
def DrawSd (w : World) (e : Ending) (w' : World) : Prop := ∃ (rs : List Rule) (ls : List Slot) (key : ByteArray) (tb : List Int) (q : Int) (v : Value) (lp : List Packet) (A4 : Option Addr) (c4 : Nat), (steerB rs ls key tb q = true ∧ 1 ≤ q ∧ q ≤ 4 ∧ rs.length ≤ 4 ∧ ls.length = 8 ∧ tb.length ≤ 8 ∧ 1 ≤ lp.length ∧ lp.length ≤ 8 ∧ ∀ x ∈ lp, superB x = true) ∧ e = .returned (.tuple #[v, .int .i64 q, .slice A4 lp.length c4]) ∧ SteO w.heap.size rs ls key tb w' v ∧ w'.ownsRow w.heap.size 41 16 (.slice A4 lp.length c4) lp.length (lp.flatMap Packet.cells) ∧ Below w.heap.size w w'
set_option maxRecDepth 100000 in
set_option maxHeartbeats 4000000 in
theorem drawSteering_c (A : Option Addr) (n c : Nat) (l : List Int) (w : World) (hn : l.length = n) (hm : n ≤ 1048576) (hr : Reads w w.heap.size 1 A n (l.flatMap fun x : Int => [Value.int .u8 x])) (hb : ∀ x ∈ l, 0 ≤ x ∧ x ≤ 255) :
    Calls Try.prog 6 #[.slice A n c] w (DrawSd w) := by
  have HN := Lib.hid hn
  go_enter Try.func6, Try.ntmps6
  go_wp2_with fail
  refine (l01New_c A n c l _ HN.out hm (hr.to (by go_grown)) hb).mono ?_
  rintro e w1 ⟨g, rfl, hg0, q, hbW⟩
  have k1 : Below w.heap.size w w1 := ext_step (by go_grown) (by go_size) hbW
  have hk0 := (Blk.new w 32 [.slice none 0 0, .slice none 0 0, .string ⟨#[]⟩, .slice none 0 0]).ext hbW
  have hz1 := hbW.size
  simp only [World.size_alloc] at hg0 hz1
  have hr1 : Reads w1 g 1 A n (l.flatMap fun x : Int => [Value.int .u8 x]) := (hr.below k1).more (by omega)
  have hlt0 := q.lt
  have ne0 : some g ≠ some w.heap.size := fun e => by injection e with e; omega
  have gg : w1.grownBy w1 (some g) := World.grownBy.refl _ _
  clear hbW hn
  go_wp2_with fail
  refine (l15Steering_c g A n c l _ q HN.out hm (reads_cur hr1 gg hlt0) hb).mono ?_
  rintro e w2 ⟨rs, ls, key, tb, qn, v, ⟨hsb, hq1, hq4, hrl, hll, htl⟩, rfl, ⟨A1, c1, A2, c2, A3, c3, hv, o1, o2, o3⟩, q2, hh⟩
  subst hv
  replace hk0 := blk_kept hk0 hh ne0
  replace gg := grown_trans gg hh
  replace q := q2
  have z2 := gg.size
  clear hh q2
  obtain ⟨nr, hnr⟩ : ∃ m, rs.length = m := ⟨_, rfl⟩
  obtain ⟨nt, hnt⟩ : ∃ m, tb.length = m := ⟨_, rfl⟩
  rw [hnr] at hrl o1
  rw [hll] at o2
  rw [hnt] at htl o3
  rw [hnr, hll, hnt]
  have HR := Lib.hid hnr
  have HT := Lib.hid hnt
  have HL := Lib.hid hll
  have HS := Lib.hid hsb
  clear hnr hnt hll hsb
  have hlt1 : g < w1.heap.size := hlt0
  have ne1 : some g ≠ some w2.heap.size := fun e => by injection e with e; omega
  have n1 : w.heap.size < w2.heap.size := hk0.lt
  go_upto_region 3 with fail
  obtain ⟨w3, hW0⟩ : ∃ W, W = w2.alloc (.cells #[.slice A1 nr c1, .slice A2 8 c2, .string key, .slice A3 nt c3] 32) := ⟨_, rfl⟩
  have kk : Below w2.heap.size w2 w3 := by rw [hW0]; exact (Below.refl _ _).alloc (Nat.le_refl _) _
  have hk1 : Blk w3 w2.heap.size 32 [.slice A1 nr c1, .slice A2 8 c2, .string key, .slice A3 nt c3] := by rw [hW0]; exact Blk.new _ _ _
  rw [← hW0]
  clear hW0
  replace hk0 := hk0.ext kk
  replace o1 := own_ext o1 kk
  replace o2 := own_ext o2 kk
  replace o3 := own_ext o3 kk
  replace q := cur_below q kk
  replace gg := only_below gg kk
  have z3 := gg.size
  generalize w2.heap.size = b1 at *
  clear kk
  have hdr : Below w3.heap.size w3 w3.drew := (Below.refl _ _).drew
  replace hk0 := hk0.ext hdr
  replace hk1 := hk1.ext hdr
  replace o1 := own_ext o1 hdr
  replace o2 := own_ext o2 hdr
  replace o3 := own_ext o3 hdr
  replace q : Cur w3.drew g A n c := q
  replace gg : w1.grownBy w3.drew (some g) := ⟨gg.os, gg.tape, gg.output, gg.size, gg.block⟩
  have s0 := hk1.at_ 0 _ rfl
  have s1 := hk1.at_ 1 _ rfl
  have s2 := hk1.at_ 2 _ rfl
  have s3 := hk1.at_ 3 _ rfl
  clear hdr
  go_region_law (go_simp; (go_at_call 18; have zb := gg.size; refine (l09List_c g A n c l _ q HN.out hm (reads_cur hr1 gg hlt0) hb).mono ?_; rintro e w4 ⟨lp, A4, c4, ⟨hp1, hp8, hpo⟩, rfl, o4, q4, hh⟩; replace o1 := own_cur o1 hh hlt1; replace o2 := own_cur o2 hh hlt1; replace o3 := own_cur o3 hh hlt1; replace hk0 := blk_kept hk0 hh ne0; replace hk1 := blk_kept hk1 hh ne1; replace gg := grown_trans gg hh; replace s0 := hk1.at_ 0 _ rfl; replace s1 := hk1.at_ 1 _ rfl; replace s2 := hk1.at_ 2 _ rfl; replace s3 := hk1.at_ 3 _ rfl; have z0 := hk0.at_ 0 _ rfl; have z1 := hk0.at_ 1 _ rfl; have z2 := hk0.at_ 2 _ rfl; have z3 := hk0.at_ 3 _ rfl; have fz0 := hk0.frozen 0; have fz1 := hk0.frozen 1; have fz2 := hk0.frozen 2; have fz3 := hk0.frozen 3; clear hh; obtain ⟨np, hnp⟩ : ∃ m, lp.length = m := ⟨_, rfl⟩; rw [hnp] at hp1 hp8 o4 ⊢))
  all_goals
    skip
    go_wp2
    have zq := gg.size
    have o4b := own_base o4 (base' := w.heap.size) (by omega)
    have ch_ : ChgA w.heap.size w4 ((((w4.setCell ⟨w.heap.size, 0, none⟩ (.slice A1 nr c1)).setCell ⟨w.heap.size, 1, none⟩ (.slice A2 8 c2)).setCell ⟨w.heap.size, 2, none⟩ (.string key)).setCell ⟨w.heap.size, 3, none⟩ (.slice A3 nt c3)) := (((((ChgA.refl _ _).set 0 (.slice A1 nr c1)).set 1 (.slice A2 8 c2)).set 2 (.string key)).set 3 (.slice A3 nt c3))
    have hkr : Blk ((((w4.setCell ⟨w.heap.size, 0, none⟩ (.slice A1 nr c1)).setCell ⟨w.heap.size, 1, none⟩ (.slice A2 8 c2)).setCell ⟨w.heap.size, 2, none⟩ (.string key)).setCell ⟨w.heap.size, 3, none⟩ (.slice A3 nt c3)) w.heap.size 32 [.slice A1 nr c1, .slice A2 8 c2, .string key, .slice A3 nt c3] := ((((hk0.set_ 0 (.slice A1 nr c1)).set_ 1 (.slice A2 8 c2)).set_ 2 (.string key)).set_ 3 (.slice A3 nt c3))
    have r1 := own_base (own_chgA o1 ch_ (own_ty o1 hk0 (by decide))) (base' := w.heap.size) k1.size
    have r2 := own_base (own_chgA o2 ch_ (own_ty o2 hk0 (by decide))) (base' := w.heap.size) k1.size
    have r3 := own_base (own_chgA o3 ch_ (own_ty o3 hk0 (by decide))) (base' := w.heap.size) k1.size
    have r4 := own_chgA o4b ch_ (own_ty o4b hk0 (by decide))
    have kf := ch_.below (B := w.heap.size) (Nat.le_refl _) (Below.grown k1 gg k1.size (fun k hk => by injection hk with hk; omega))
    have hv := loadVar_blk (P := Try.prog) hkr (n := 4) rfl (by simp [go_sem]) (by simp [go_sem])
    refine bodyPost_ret (v := .tuple #[.agg #[.slice A1 nr c1, .slice A2 8 c2, .string key, .slice A3 nt c3], .int .i64 qn, .slice A4 np c4]) (by simp [results, Try.results6, Act.put, asAddr, Result.andThen, hv]) rfl ?_
    have hr1 := HR.out
    have ht1 := HT.out
    have hl1 := HL.out
    exact ⟨rs, ls, key, tb, qn, _, lp, A4, c4, ⟨HS.out, hq1, hq4, by omega, hl1, by omega, by omega, by omega, hpo⟩, by rw [hnp], ⟨A1, c1, A2, c2, A3, c3, by rw [hr1, hl1, ht1], by rw [hr1]; exact r1, by rw [hl1]; exact r2, by rw [ht1]; exact r3⟩, by rw [hnp]; exact r4, kf⟩
end Go.Proofs.Ytkfekgmdjemkbaa
