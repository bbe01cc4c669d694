/- Contract of the reference's draw l15Steering. -/
import Derived.Test.YtkfekgmdjemkbaaDrawSt2
import Derived.Test.YtkfekgmdjemkbaaStLaw
import Derived.Test.YtkfekgmdjemkbaaStPf
import Derived.Test.YtkfekgmdjemkbaaConvSt2
import Derived.Deep.CutRange
namespace Go.Proofs.Ytkfekgmdjemkbaa
set_option linter.unusedSimpArgs false
set_option linter.unusedVariables false
open Go.RowKit Go.ChangeShapes Go.WideShapes
theorem row_cell9 {w : World} {g n k : Nat} {cs : List Value} {M : List Rule} {x : Rule} (hb : Blk w g 58 cs) (ht : cs.take (n * 9) = M.flatMap Rule.cells) (hx : M[k]? = some x) (hk : k < n) : w.cell? ⟨g, k * 9 + 8, none⟩ = some (.int .i64 x.queue) := by
  have h1 : (M.flatMap Rule.cells)[k * 9 + 8]? = some (.int .i64 x.queue) := by
    rw [flatMap_get Rule.cells 9 (fun _ => rfl) (by decide), show (k * 9 + 8) / 9 = k by omega, show (k * 9 + 8) % 9 = 8 by omega, hx]; rfl
  rw [← ht, List.getElem?_take] at h1
  rw [hb.cell]
  rwa [if_pos (by omega)] at h1
/-- A drawn steering: a sound one. -/
def DrawSg (g : Nat) (A : Option Addr) (n c : Nat) (w : World) (e : Ending) (w' : World) : Prop := ∃ (rs : List Rule) (l : List Slot) (key : ByteArray) (tb : List Int) (q : Int) (v : Value), (steerB rs l key tb q = true ∧ 1 ≤ q ∧ q ≤ 4 ∧ rs.length ≤ 4 ∧ l.length = 8 ∧ tb.length ≤ 8) ∧ e = .returned (.tuple #[v, .int .i64 q]) ∧ SteO w.heap.size rs l key tb w' v ∧ Cur w' g A n c ∧ w.grownBy w' (some g)
theorem zero_table : tableB (List.replicate 8 zeroS) = true ∧ ∀ x ∈ List.replicate 8 zeroS, x.queue < (1 : Int) := ⟨by decide, by decide⟩
theorem rule_mod {r : Rule} {q : Int} (h : ruleB r = true) (h1 : 1 ≤ q) (h4 : q ≤ 4) : ruleB ⟨r.prio, r.kind, r.sip, r.sbits, r.fport, r.lport, r.vlan, r.action, r.queue % q⟩ = true := by
  have a := Int.emod_nonneg r.queue (show q ≠ 0 by omega)
  have b := Int.emod_lt_of_pos r.queue (show 0 < q by omega)
  have z : r.queue = 0 → r.queue % q = 0 := fun e => by rw [e]; exact Int.zero_emod q
  simp only [ruleB, inB, Bool.and_eq_true, Bool.or_eq_true, decide_eq_true_eq] at *
  generalize r.queue % q = m at *
  omega
set_option maxRecDepth 100000 in
set_option maxHeartbeats 4000000 in
theorem l15Steering_c (g : Nat) (A : Option Addr) (n c : Nat) (l : List Int) (w : World) (hcur : Cur w g A n c) (hn : l.length = n) (hm : n ≤ 1048576) (hr : Reads w g 1 A n (l.flatMap fun x : Int => [Value.int .u8 x])) (hb : ∀ x ∈ l, 0 ≤ x ∧ x ≤ 255) :
    Calls Try.prog 17 #[.pointer (some ⟨g, 0, none⟩)] w (DrawSg g A n c w) := by
  have hlt0 := hcur.lt
  have HN := Lib.hid hn
  clear hn
  go_enter Try.func17, Try.ntmps17
  have q := hcur
  have gg : w.grownBy w (some g) := World.grownBy.refl _ _
  go_wp2_with fail
  obtain ⟨wa, hW0⟩ : ∃ W, W = w.alloc (.cells #[.slice none 0 0, .slice none 0 0, .string ⟨#[]⟩, .slice none 0 0] 32) := ⟨_, rfl⟩
  have kk : Below w.heap.size w wa := by rw [hW0]; exact (Below.refl _ _).alloc (Nat.le_refl _) _
  have hk0 : Blk wa w.heap.size 32 [.slice none 0 0, .slice none 0 0, .string ⟨#[]⟩, .slice none 0 0] := by rw [hW0]; exact Blk.new _ _ _
  replace gg : w.grownBy wa (some g) := by rw [hW0]; exact grown_al gg _
  rw [← hW0]
  clear hW0
  replace q := cur_below q kk
  have sz_ := gg.size
  have kz_ := kk.size
  have lt_ := hk0.lt
  have ne0 : some g ≠ some w.heap.size := fun e => by injection e with e; omega
  refine (newTable_c _).mono ?_
  rintro e w1 ⟨g1, rfl, hg1, hB1, kk⟩
  replace hk0 := hk0.ext kk
  replace q := cur_below q kk
  replace gg := only_below gg kk
  have o_s := hB1.own (base := w.heap.size) (size := 7) (n := 8) (by omega) (by rw [flatMap_len _ 7 (fun _ => rfl), List.length_replicate]) (by unfold maxLen; omega) rfl
  have z1 := gg.size
  have y1 := kk.size
  have n01 := hk0.lt
  clear hB1 kk sz_ kz_ lt_
  go_wp2_with fail
  obtain ⟨wb, hW0⟩ : ∃ W, W = w1.alloc (.cells #[.slice none 0 0, .slice (some ⟨g1, 0, none⟩) 8 8, .string ⟨#[]⟩, .slice none 0 0] 32) := ⟨_, rfl⟩
  have kk : Below w1.heap.size w1 wb := by rw [hW0]; exact (Below.refl _ _).alloc (Nat.le_refl _) _
  have hk1 : Blk wb w1.heap.size 32 [.slice none 0 0, .slice (some ⟨g1, 0, none⟩) 8 8, .string ⟨#[]⟩, .slice none 0 0] := by rw [hW0]; exact Blk.new _ _ _
  replace gg : w.grownBy wb (some g) := by rw [hW0]; exact grown_al gg _
  rw [← hW0]
  clear hW0
  replace o_s := own_ext o_s kk
  replace hk0 := hk0.ext kk
  replace q := cur_below q kk
  have sz_ := gg.size
  have kz_ := kk.size
  have lt_ := hk1.lt
  have ne1 : some g ≠ some w1.heap.size := fun e => by injection e with e; omega
  have zb := gg.size
  refine (l12Spread_c g A n c l _ q HN.out hm (reads_cur hr gg hlt0) hb).mono ?_
  rintro e w2 ⟨key, tb, A3, c3, qn, ⟨hsp, hq1, hq4, htl⟩, rfl, o_t, q1, hh⟩
  replace o_s := own_cur o_s hh hlt0
  replace hk0 := blk_kept hk0 hh ne0
  replace hk1 := blk_kept hk1 hh ne1
  replace gg := grown_trans gg hh
  replace q := q1
  have z2 := gg.size
  have y2 := hh.size
  clear q1 hh sz_ kz_ lt_ kk
  replace o_t := own_base o_t (base' := w.heap.size) (by omega)
  obtain ⟨nt, hnt⟩ : ∃ m, tb.length = m := ⟨_, rfl⟩
  rw [hnt] at htl o_t ⊢
  have HT := Lib.hid hnt
  have HS := Lib.hid hsp
  clear hnt hsp
  go_upto_region 3 with fail
  obtain ⟨w3, hW0⟩ : ∃ W, W = w2.alloc (.cells #[.string key, .slice A3 nt c3] 30) := ⟨_, rfl⟩
  have kk : Below w2.heap.size w2 w3 := by rw [hW0]; exact (Below.refl _ _).alloc (Nat.le_refl _) _
  have hk2 : Blk w3 w2.heap.size 30 [.string key, .slice A3 nt c3] := by rw [hW0]; exact Blk.new _ _ _
  replace gg : w.grownBy w3 (some g) := by rw [hW0]; exact grown_al gg _
  rw [← hW0]
  clear hW0
  replace o_s := own_ext o_s kk
  replace o_t := own_ext o_t kk
  replace hk0 := hk0.ext kk
  replace hk1 := hk1.ext kk
  replace q := cur_below q kk
  have sz_ := gg.size
  have kz_ := kk.size
  have lt_ := hk2.lt
  have hb1w : w1.heap.size < w3.heap.size := hk1.lt
  have hb10 : w1.heap.size ≠ w.heap.size := by omega
  have hb1g : w1.heap.size ≠ g := by omega
  have hb1l : w.heap.size ≤ w1.heap.size := z1
  generalize w1.heap.size = b1 at *
  have c2 := hk1.at_ 2 _ rfl
  have c3_ := hk1.at_ 3 _ rfl
  have f2 := hk1.frozen 2
  have f3 := hk1.frozen 3
  have s0 := hk2.at_ 0 _ rfl
  have s1 := hk2.at_ 1 _ rfl
  go_upto_region 4 with fail
  obtain ⟨w4, hW0⟩ : ∃ W, W = ((w3.setCell ⟨b1, 2, none⟩ (.string key)).setCell ⟨b1, 3, none⟩ (.slice A3 nt c3)) := ⟨_, rfl⟩
  have ch_ : ChgA b1 w3 w4 := by rw [hW0]; exact (((ChgA.refl _ _).set 2 (.string key)).set 3 (.slice A3 nt c3))
  replace o_s := own_chgA o_s ch_ (own_ty o_s hk1 (by decide))
  replace o_t := own_chgA o_t ch_ (own_ty o_t hk1 (by decide))
  replace hk0 := hk0.chgA ch_ (by omega)
  replace hk1 : Blk w4 b1 32 [.slice none 0 0, .slice (some ⟨g1, 0, none⟩) 8 8, .string key, .slice A3 nt c3] := by rw [hW0]; exact ((hk1.set_ 2 (.string key)).set_ 3 (.slice A3 nt c3))
  replace q : Cur w4 g A n c := by rw [hW0]; exact (cur_fr (cur_fr q (p := ⟨b1, 2, none⟩) hb1g (.string key)) (p := ⟨b1, 3, none⟩) hb1g (.slice A3 nt c3))
  replace gg : w.grownBy w4 (some g) := by rw [hW0]; exact (only_setCell (only_setCell gg (p := ⟨b1, 2, none⟩) (.inr hb1l) (.string key)) (p := ⟨b1, 3, none⟩) (.inr hb1l) (.slice A3 nt c3))
  rw [← hW0]
  clear hW0 ch_
  clear hk2 s0 s1 c2 c3_ f2 f3 kk sz_ kz_ lt_
  have z4 := gg.size
  go_wp2_with fail
  refine (l01Once_c g A n c l _ q HN.out hm (reads_cur hr gg hlt0) hb 2 (by omega) (by omega)).mono ?_
  rintro e w5 ⟨u, rfl, q1, hh⟩
  replace o_s := own_cur o_s hh hlt0
  replace o_t := own_cur o_t hh hlt0
  replace hk0 := blk_kept hk0 hh ne0
  replace hk1 := blk_kept hk1 hh ne1
  replace gg := grown_trans gg hh
  replace q := q1
  have zw5 := gg.size
  have yw5 := hh.size
  clear q1 hh
  go_upto_if 19 with fail
  go_cut [] from 18 to 22 (fun wx => ∃ (rs : List Rule) (Ar : Option Addr) (nr cr : Nat), Hid (rs.length = nr ∧ ∀ x ∈ rs, ruleB x = true) ∧ nr ≤ 4 ∧ Blk wx w.heap.size 32 [.slice none 0 0, .slice none 0 0, .string ⟨#[]⟩, .slice none 0 0] ∧ Blk wx b1 32 [.slice Ar nr cr, .slice (some ⟨g1, 0, none⟩) 8 8, .string key, .slice A3 nt c3] ∧ wx.ownsRow w.heap.size 58 9 (.slice Ar nr cr) nr (rs.flatMap Rule.cells) ∧ wx.ownsRow w.heap.size 61 7 (.slice (some ⟨g1, 0, none⟩) 8 8) 8 ((List.replicate 8 zeroS).flatMap Slot.cells) ∧ wx.ownsRow w.heap.size 3 1 (.slice A3 nt c3) nt (tb.flatMap (fun x : Int => [Value.int .i64 x])) ∧ Cur wx g A n c ∧ w.grownBy wx (some g))
  case first =>
    cases u
    · go_wp2_with fail
      go_meet
      exact ⟨[], none, 0, 0, ⟨rfl, by simp⟩, by omega, hk0, hk1, own_nil _ _ _ _, o_s, o_t, q, gg⟩
    · go_wp2_with fail
      refine (l14Rules_c g A n c l _ q HN.out hm (reads_cur hr gg hlt0) hb).mono ?_
      rintro e w6 ⟨rs, Ar, cr, ⟨hrl, hrb⟩, rfl, o_r, q1, hh⟩
      replace o_s := own_cur o_s hh hlt0
      replace o_t := own_cur o_t hh hlt0
      replace hk0 := blk_kept hk0 hh ne0
      replace hk1 := blk_kept hk1 hh ne1
      replace gg := grown_trans gg hh
      replace q := q1
      have zw6 := gg.size
      have yw6 := hh.size
      clear q1 hh
      obtain ⟨nr, hnr⟩ : ∃ m, rs.length = m := ⟨_, rfl⟩
      rw [hnr] at hrl o_r ⊢
      have HR := Lib.hid (show rs.length = nr ∧ ∀ x ∈ rs, ruleB x = true from ⟨hnr, hrb⟩)
      clear hnr hrb
      replace o_r := own_base o_r (base' := w.heap.size) zw5
      have c0 := hk1.at_ 0 _ rfl
      have f0 := hk1.frozen 0
      have l1_ := hk1.lt
      go_wp2_with fail
      obtain ⟨w7, hW0⟩ : ∃ W, W = (w6.setCell ⟨b1, 0, none⟩ (.slice Ar nr cr)) := ⟨_, rfl⟩
      have ch_ : ChgA b1 w6 w7 := by rw [hW0]; exact ((ChgA.refl _ _).set 0 (.slice Ar nr cr))
      replace o_s := own_chgA o_s ch_ (own_ty o_s hk1 (by decide))
      replace o_t := own_chgA o_t ch_ (own_ty o_t hk1 (by decide))
      replace o_r := own_chgA o_r ch_ (own_ty o_r hk1 (by decide))
      replace hk0 := hk0.chgA ch_ (by omega)
      replace hk1 : Blk w7 b1 32 [.slice Ar nr cr, .slice (some ⟨g1, 0, none⟩) 8 8, .string key, .slice A3 nt c3] := by rw [hW0]; exact (hk1.set_ 0 (.slice Ar nr cr))
      replace q : Cur w7 g A n c := by rw [hW0]; exact (cur_fr q (p := ⟨b1, 0, none⟩) hb1g (.slice Ar nr cr))
      replace gg : w.grownBy w7 (some g) := by rw [hW0]; exact (only_setCell gg (p := ⟨b1, 0, none⟩) (.inr hb1l) (.slice Ar nr cr))
      rw [← hW0]
      clear hW0 ch_
      go_meet
      exact ⟨rs, Ar, nr, cr, HR, hrl, hk0, hk1, o_r, o_s, o_t, q, gg⟩
  case rest =>
    clear hk0 hk1 o_s o_t q gg
    obtain ⟨rs, Ar, nr, cr, HR, hnr, hk0, hk1, o_r, o_s, o_t, q, gg⟩ := hcut
    have zc := gg.size
    generalize hW0 : wc = w8 at *
    clear hW0
    go_wp2_with fail
    go_loopw [7] (fun i wr => ∃ (k : Nat) (rs : List Rule), i = .int .i64 (k : Int) ∧ k ≤ nr ∧ Hid (rs.length = nr ∧ (∀ x ∈ rs, ruleB x = true) ∧ ∀ (j : Nat) (x : Rule), j < k → rs[j]? = some x → x.queue < qn) ∧ Blk wr w.heap.size 32 [.slice none 0 0, .slice none 0 0, .string ⟨#[]⟩, .slice none 0 0] ∧ Blk wr b1 32 [.slice Ar nr cr, .slice (some ⟨g1, 0, none⟩) 8 8, .string key, .slice A3 nt c3] ∧ wr.ownsRow w.heap.size 58 9 (.slice Ar nr cr) nr (rs.flatMap Rule.cells) ∧ wr.ownsRow w.heap.size 61 7 (.slice (some ⟨g1, 0, none⟩) 8 8) 8 ((List.replicate 8 zeroS).flatMap Slot.cells) ∧ wr.ownsRow w.heap.size 3 1 (.slice A3 nt c3) nt (tb.flatMap (fun x : Int => [Value.int .i64 x])) ∧ Cur wr g A n c ∧ w.grownBy wr (some g)) (fun i _ => nr - (intOf i).toNat)
    case atStart => exact ⟨0, rs, rfl, Nat.zero_le _, ⟨HR.out.1, HR.out.2, fun j x hj _ => absurd hj (Nat.not_lt_zero _)⟩, hk0, hk1, o_r, o_s, o_t, q, gg⟩
    case round =>
      clear hk0 hk1 o_r o_s o_t q gg HR
      obtain ⟨k, rs, rfl, hk, HR, hk0, hk1, o_r, o_s, o_t, q, gg⟩ := hrel
      have zr := gg.size
      have l0_ := hk0.lt
      have l1_ := hk1.lt
      by_cases hlt : k < nr
      · obtain ⟨gr, csr, hAr, hbg, hrow, hnc, hcm, hcl, htk⟩ := own_blk o_r (by omega)
        obtain ⟨x, hx⟩ : ∃ x, rs[k]? = some x := ⟨rs[k]'(by rw [HR.out.1]; exact hlt), List.getElem?_eq_getElem _⟩
        have hgr0 : gr ≠ w.heap.size := own_ty o_r hk0 (by decide) gr (by rw [hAr]; rfl)
        have hgr1 : gr ≠ b1 := own_ty o_r hk1 (by decide) gr (by rw [hAr]; rfl)
        have hxr := HR.out.2.1 x (List.mem_of_getElem? hx)
        have hxq := (ruleB_t hxr).2.2.2.2.2.2
        have hrc := row_cell9 hrow htk hx hlt
        have HX := Lib.hid hx
        have HTK := Lib.hid htk
        subst hAr
        clear hx htk
        have s0w := hk1.at_ 0 _ rfl
        have hkn : (k : Int) < (nr : Int) := by omega
        go_wp2_with fail
        have hdr : Below wr.heap.size wr wr.drew := (Below.refl _ _).drew
        replace hrc := ccell hdr _ _ _ hrc
        replace hrow := hrow.ext hdr
        replace hk0 := hk0.ext hdr
        replace hk1 := hk1.ext hdr
        replace o_s := own_ext o_s hdr
        replace o_t := own_ext o_t hdr
        replace q : Cur wr.drew g A n c := q
        replace gg : w.grownBy wr.drew (some g) := ⟨gg.os, gg.tape, gg.output, gg.size, gg.block⟩
        clear hdr
        have s0 := hk1.at_ 0 _ rfl
        have fr8 := hrow.frozen (k * 9 + 8)
        have hx0 : 0 ≤ x.queue := by omega
        have htm : x.queue.tmod qn = x.queue % qn := Int.tmod_eq_emod_of_nonneg hx0
        have hqn0 : ¬ qn = 0 := by omega
        have hqb : (qn == 0) = false := by simp; omega
        go_region
        all_goals
          obtain ⟨w9, hW0⟩ : ∃ W, W = (wr.setCell ⟨gr, k * 9 + 8, none⟩ (.int .i64 (x.queue % qn))).drew := ⟨_, rfl⟩
          have ch_ : ChgA gr wr.drew w9 := by rw [hW0]; exact (ChgA.refl gr wr.drew).set _ _
          have hbr : w.heap.size ≤ gr := hbg
          replace o_s := own_chgA o_s ch_ (own_ty o_s hrow (by decide))
          replace o_t := own_chgA o_t ch_ (own_ty o_t hrow (by decide))
          replace hk0 := hk0.chgA ch_ (by omega)
          replace hk1 := hk1.chgA ch_ (by omega)
          replace hrow : Blk w9 gr 58 (csr.set (k * 9 + 8) (.int .i64 (x.queue % qn))) := by rw [hW0]; exact hrow.set_ _ _
          replace q : Cur w9 g A n c := by rw [hW0]; exact cur_fr q (p := ⟨gr, k * 9 + 8, none⟩) (show gr ≠ g by omega) _
          replace gg : w.grownBy w9 (some g) := by rw [hW0]; exact only_setCell gg (p := ⟨gr, k * 9 + 8, none⟩) (.inr hbr) _
          rw [← hW0]
          clear hW0 ch_ s0w s0 hrc fr8
          have hfl := flat_set1 (cells := Rule.cells) (size := 9) (fun _ => rfl) rs k 8 (.int .i64 (x.queue % qn)) x ⟨x.prio, x.kind, x.sip, x.sbits, x.fport, x.lport, x.vlan, x.action, x.queue % qn⟩ HX.out (by decide) rfl
          have hql := Int.emod_lt_of_pos x.queue (show 0 < qn by omega)
          have hkl : k < rs.length := by rw [HR.out.1]; exact hlt
          have o_r9 := own_mk (xs := (rs.set k ⟨x.prio, x.kind, x.sip, x.sbits, x.fport, x.lport, x.vlan, x.action, x.queue % qn⟩).flatMap Rule.cells) hbg hrow hnc hcm (by rw [List.length_set]; exact hcl) (by rw [List.take_set, HTK.out]; exact hfl) (by rw [flatMap_len _ 9 (fun _ => rfl), List.length_set, HR.out.1])
          have HR9 : Hid ((rs.set k ⟨x.prio, x.kind, x.sip, x.sbits, x.fport, x.lport, x.vlan, x.action, x.queue % qn⟩).length = nr ∧ (∀ y ∈ rs.set k ⟨x.prio, x.kind, x.sip, x.sbits, x.fport, x.lport, x.vlan, x.action, x.queue % qn⟩, ruleB y = true) ∧ ∀ (j : Nat) (y : Rule), j < k + 1 → (rs.set k ⟨x.prio, x.kind, x.sip, x.sbits, x.fport, x.lport, x.vlan, x.action, x.queue % qn⟩)[j]? = some y → y.queue < qn) := by
            refine ⟨by rw [List.length_set]; exact HR.out.1, fun y hy => ?_, fun j y hj hy => ?_⟩
            · rcases List.mem_or_eq_of_mem_set hy with hy | rfl
              · exact HR.out.2.1 y hy
              · exact rule_mod hxr hq1 hq4
            · by_cases e : k = j
              · subst e
                rw [List.getElem?_set_self hkl] at hy
                injection hy with hy
                rw [← hy]; exact hql
              · rw [List.getElem?_set_ne e] at hy
                exact HR.out.2.2 j y (by omega) hy
          clear hfl hql hkl hrow hcl
          go_wp2
          go_roundw
          case rel => exact ⟨k + 1, _, by go_num, by omega, HR9, hk0, hk1, o_r9, o_s, o_t, q, gg⟩
          case measure => simp [intOf]; omega
      · have hkk : k = nr := by omega
        subst hkk
        have s0w := hk1.at_ 0 _ rfl
        go_wp2_with fail
        refine (l01Below_c g A n c l _ q HN.out hm (reads_cur hr gg hlt0) hb 4 (by omega) (by omega)).mono ?_
        rintro e w10 ⟨m, ⟨m0, m1⟩, rfl, q1, hh⟩
        replace o_r := own_cur o_r hh hlt0
        replace o_s := own_cur o_s hh hlt0
        replace o_t := own_cur o_t hh hlt0
        replace hk0 := blk_kept hk0 hh ne0
        replace hk1 := blk_kept hk1 hh ne1
        replace gg := grown_trans gg hh
        replace q := q1
        have zw10 := gg.size
        have yw10 := hh.size
        clear q1 hh
        clear s0w
        go_wp2_with fail
        go_loopw [8] (fun i wr => ∃ (mm : Int) (ls : List Slot) (As : Option Addr) (cs : Nat), i = .int .i64 mm ∧ (0 ≤ mm ∧ mm ≤ 3) ∧ Hid (ls.length = 8 ∧ tableB ls = true ∧ ∀ x ∈ ls, x.queue < qn) ∧ Blk wr w.heap.size 32 [.slice none 0 0, .slice none 0 0, .string ⟨#[]⟩, .slice none 0 0] ∧ Blk wr b1 32 [.slice Ar k cr, .slice As 8 cs, .string key, .slice A3 nt c3] ∧ wr.ownsRow w.heap.size 58 9 (.slice Ar k cr) k (rs.flatMap Rule.cells) ∧ wr.ownsRow w.heap.size 61 7 (.slice As 8 cs) 8 (ls.flatMap Slot.cells) ∧ wr.ownsRow w.heap.size 3 1 (.slice A3 nt c3) nt (tb.flatMap (fun x : Int => [Value.int .i64 x])) ∧ Cur wr g A n c ∧ w.grownBy wr (some g)) (fun i _ => (intOf i).toNat)
        case atStart => exact ⟨m, _, _, 8, rfl, ⟨m0, by omega⟩, ⟨by decide, zero_table.1, fun x hx => Int.lt_of_lt_of_le (zero_table.2 x hx) hq1⟩, hk0, hk1, o_r, o_s, o_t, q, gg⟩
        case round =>
          clear hk0 hk1 o_r o_s o_t q gg m0 m1
          obtain ⟨mm, ls, As, cs, rfl, ⟨mm0, mm3⟩, HL, hk0, hk1, o_r, o_s, o_t, q, gg⟩ := hrel
          have zr := gg.size
          have l0_ := hk0.lt
          have l1_ := hk1.lt
          by_cases hlt : 0 < mm
          · have s1w := hk1.at_ 1 _ rfl
            go_wp2_with fail
            clear s1w
            have hdr : Below wr.heap.size wr wr.drew := (Below.refl _ _).drew
            replace hk0 := hk0.ext hdr
            replace hk1 := hk1.ext hdr
            replace o_r := own_ext o_r hdr
            replace o_s := own_ext o_s hdr
            replace o_t := own_ext o_t hdr
            replace q : Cur wr.drew g A n c := q
            replace gg : w.grownBy wr.drew (some g) := ⟨gg.os, gg.tape, gg.output, gg.size, gg.block⟩
            have s1 := hk1.at_ 1 _ rfl
            have zq := gg.size
            clear hdr
            go_region_law (go_simp; first
              | (go_at_call 42; refine (l11Flow_c g A n c l _ q HN.out hm (reads_cur hr gg hlt0) hb).mono ?_; rintro e wf ⟨fl, rfl, q1, hh⟩; replace o_r := own_cur o_r hh hlt0; replace o_s := own_cur o_s hh hlt0; replace o_t := own_cur o_t hh hlt0; replace hk0 := blk_kept hk0 hh ne0; replace hk1 := blk_kept hk1 hh ne1; replace gg := grown_trans gg hh; replace q := q1; replace s1 := hk1.at_ 1 _ rfl; replace zq := gg.size; clear hh q1)
              | (go_at_call 40; refine (l01Below_c g A n c l _ q HN.out hm (reads_cur hr gg hlt0) hb qn (by omega) (by omega)).mono ?_; rintro e wy ⟨y, ⟨y0, y1⟩, rfl, q1, hh⟩; replace o_r := own_cur o_r hh hlt0; replace o_s := own_cur o_s hh hlt0; replace o_t := own_cur o_t hh hlt0; replace hk0 := blk_kept hk0 hh ne0; replace hk1 := blk_kept hk1 hh ne1; replace gg := grown_trans gg hh; replace q := q1; replace s1 := hk1.at_ 1 _ rfl; replace zq := gg.size; clear hh q1)
              | (go_at_call 41; refine (specPutFlow_c As 8 cs ls fl y _ HL.out.1 (by omega) (Reads.of_own o_s)).mono ?_; rintro e wp_ ⟨A5, c5, rfl, o5, kk⟩; replace o_r := own_ext o_r kk; replace o_t := own_ext o_t kk; replace hk0 := hk0.ext kk; replace hk1 := hk1.ext kk; replace q := cur_below q kk; replace gg := only_below gg kk; replace s1 := hk1.at_ 1 _ rfl; replace o_s := own_base o5 zq; replace zq := gg.size; have f1 := hk1.frozen 1; clear kk o5))
            all_goals
              obtain ⟨w12, hW0⟩ : ∃ W, W = (wp_.setCell ⟨b1, 1, none⟩ (.slice A5 8 c5)) := ⟨_, rfl⟩
              have ch_ : ChgA b1 wp_ w12 := by rw [hW0]; exact ((ChgA.refl _ _).set 1 (.slice A5 8 c5))
              replace o_r := own_chgA o_r ch_ (own_ty o_r hk1 (by decide))
              replace o_s := own_chgA o_s ch_ (own_ty o_s hk1 (by decide))
              replace o_t := own_chgA o_t ch_ (own_ty o_t hk1 (by decide))
              replace hk0 := hk0.chgA ch_ (by omega)
              replace hk1 : Blk w12 b1 32 [.slice Ar k cr, .slice A5 8 c5, .string key, .slice A3 nt c3] := by rw [hW0]; exact (hk1.set_ 1 (.slice A5 8 c5))
              replace q : Cur w12 g A n c := by rw [hW0]; exact (cur_fr q (p := ⟨b1, 1, none⟩) hb1g (.slice A5 8 c5))
              replace gg : w.grownBy w12 (some g) := by rw [hW0]; exact (only_setCell gg (p := ⟨b1, 1, none⟩) (.inr hb1l) (.slice A5 8 c5))
              rw [← hW0]
              clear hW0 ch_
              have hmm1 : 0 ≤ mm - 1 ∧ mm - 1 ≤ 3 := by omega
              go_wp2
              go_roundw
              case rel => exact ⟨mm - 1, tpL ls fl y, A5, c5, by go_num, hmm1, ⟨by rw [tpL_len]; exact HL.out.1, put_table HL.out.2.1, put_queue HL.out.2.2 y1⟩, hk0, hk1, o_r, o_s, o_t, q, gg⟩
              case measure => simp [intOf]; omega
          · have hmm : mm = 0 := by omega
            subst hmm
            have s0 := hk1.at_ 0 _ rfl
            have s1 := hk1.at_ 1 _ rfl
            have s2 := hk1.at_ 2 _ rfl
            have s3 := hk1.at_ 3 _ rfl
            have z0 := hk0.at_ 0 _ rfl
            have z1 := hk0.at_ 1 _ rfl
            have z2 := hk0.at_ 2 _ rfl
            have z3 := hk0.at_ 3 _ rfl
            have fz0 := hk0.frozen 0
            have fz1 := hk0.frozen 1
            have fz2 := hk0.frozen 2
            have fz3 := hk0.frozen 3
            have hb0g : w.heap.size ≠ g := by omega
            have hb0l : w.heap.size ≤ w.heap.size := Nat.le_refl _
            go_wp2
            obtain ⟨w13, hW0⟩ : ∃ W, W = ((((wr.setCell ⟨w.heap.size, 0, none⟩ (.slice Ar k cr)).setCell ⟨w.heap.size, 1, none⟩ (.slice As 8 cs)).setCell ⟨w.heap.size, 2, none⟩ (.string key)).setCell ⟨w.heap.size, 3, none⟩ (.slice A3 nt c3)) := ⟨_, rfl⟩
            have ch_ : ChgA w.heap.size wr w13 := by rw [hW0]; exact (((((ChgA.refl _ _).set 0 (.slice Ar k cr)).set 1 (.slice As 8 cs)).set 2 (.string key)).set 3 (.slice A3 nt c3))
            replace o_r := own_chgA o_r ch_ (own_ty o_r hk0 (by decide))
            replace o_s := own_chgA o_s ch_ (own_ty o_s hk0 (by decide))
            replace o_t := own_chgA o_t ch_ (own_ty o_t hk0 (by decide))
            replace hk0 : Blk w13 w.heap.size 32 [.slice Ar k cr, .slice As 8 cs, .string key, .slice A3 nt c3] := by rw [hW0]; exact ((((hk0.set_ 0 (.slice Ar k cr)).set_ 1 (.slice As 8 cs)).set_ 2 (.string key)).set_ 3 (.slice A3 nt c3))
            replace q : Cur w13 g A n c := by rw [hW0]; exact (cur_fr (cur_fr (cur_fr (cur_fr q (p := ⟨w.heap.size, 0, none⟩) hb0g (.slice Ar k cr)) (p := ⟨w.heap.size, 1, none⟩) hb0g (.slice As 8 cs)) (p := ⟨w.heap.size, 2, none⟩) hb0g (.string key)) (p := ⟨w.heap.size, 3, none⟩) hb0g (.slice A3 nt c3))
            replace gg : w.grownBy w13 (some g) := by rw [hW0]; exact (only_setCell (only_setCell (only_setCell (only_setCell gg (p := ⟨w.heap.size, 0, none⟩) (.inr hb0l) (.slice Ar k cr)) (p := ⟨w.heap.size, 1, none⟩) (.inr hb0l) (.slice As 8 cs)) (p := ⟨w.heap.size, 2, none⟩) (.inr hb0l) (.string key)) (p := ⟨w.heap.size, 3, none⟩) (.inr hb0l) (.slice A3 nt c3))
            rw [← hW0]
            clear hW0 ch_
            have hv := loadVar_blk (P := Try.prog) hk0 (n := 4) rfl (by simp [go_sem]) (by simp [go_sem])
            refine bodyPost_ret (v := .tuple #[.agg #[.slice Ar k cr, .slice As 8 cs, .string key, .slice A3 nt c3], .int .i64 qn]) (by simp [results, Try.results17, asAddr, Result.andThen, hv]) rfl ?_
            obtain ⟨hr1, hr2, hr3⟩ := HR.out
            obtain ⟨hl1, hl2, hl3⟩ := HL.out
            have ht1 := HT.out
            have hrs : rulesB rs = true := by rw [rulesB, Bool.and_eq_true, List.all_eq_true, decide_eq_true_eq]; exact ⟨hr2, by omega⟩
            have hsb : steerB rs ls key tb qn = true := steerB_split.2 ⟨hrs, hl2, HS.out, fun r hr => by obtain ⟨j, hj⟩ := List.getElem?_of_mem hr; have h9 := (List.getElem?_eq_some_iff.1 hj).1; exact hr3 j r (by omega) hj, hl3⟩
            exact ⟨rs, ls, key, tb, qn, _, ⟨hsb, hq1, hq4, by omega, hl1, by omega⟩, rfl, ⟨Ar, cr, As, cs, A3, c3, by rw [hr1, hl1, ht1], by rw [hr1]; exact o_r, by rw [hl1]; exact o_s, by rw [ht1]; exact o_t⟩, q, gg⟩
end Go.Proofs.Ytkfekgmdjemkbaa
