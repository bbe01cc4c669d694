/- Contracts of TxOk: impl and spec. -/
import Derived.Test.YtnkcomclhmlefaaTxP
import Derived.Test.YtnkcomclhmlefaaRingOk
import Derived.Test.YtnkcomclhmlefaaGiveBuf
import Derived.Test.YtnkcomclhmlefaaWhole
import Derived.Test.YtnkcomclhmlefaaSlots4
namespace Go.Proofs.Ytnkcomclhmlefaa
set_option linter.unusedSimpArgs false
set_option linter.unusedVariables false
open Go.RowKit Go.ChangeShapes Go.WideShapes
theorem infoZ_Sent : (Try.prog.info? 52).map (·.size) = some 3 := by kernel_rfl
theorem info_int8 : (Try.prog.info? 3).map (fun i => (i.zero, i.size, i.bytes)) = some (some (.int .i64 0), 1, 8) := by kernel_rfl
theorem oneS (x : SentH) : ∀ v ∈ ([.int .i64 x.cookie, .int .i64 x.slots, .slice x.A x.n x.c] : List Value), v.oneCell' = true := by
  intro v hv
  simp only [List.mem_cons, List.not_mem_nil, or_false] at hv
  rcases hv with rfl | rfl | rfl <;> rfl
theorem allB_len {w : World} {B : Nat} {L : List SentH} (h : InRd w B L) : (allB (L.map SentH.v)).length = totB L := by
  induction L with
  | nil => rfl
  | cons x L ih =>
    have h1 := ih (h.sub fun y hy => List.mem_cons_of_mem _ hy)
    have h2 := (h x (List.mem_cons_self ..)).1
    simp only [allB, totB, List.map_cons, List.flatMap_cons, List.length_append, List.sum_cons, SentH.v] at *
    omega
set_option maxRecDepth 100000 in
set_option maxHeartbeats 4000000 in
theorem implTxOk_c (rb rs rh rt pb ps pc : Int) (Ap : Option Addr) (np cp : Nat) (free : List Int) (As : Option Addr) (ns cs : Nat) (L : List SentH) (next : Int) (w : World) (h1 : I64 rh) (h2 : I64 rt) (hn1 : free.length = np) (hr1 : Reads w w.heap.size 1 Ap np (ints free)) (hn2 : L.length = ns) (hr2 : Reads w w.heap.size 3 As ns (L.flatMap SentH.cells)) (hi : InRd w w.heap.size L) (hm : np + ns + totB L ≤ 1048576) :
    Calls Try.prog 8 #[.agg #[.int .i64 rb, .int .i64 rs, .int .i64 rh, .int .i64 rt, .int .i64 pb, .int .i64 ps, .int .i64 pc, .slice Ap np cp, .slice As ns cs, .int .i64 next]] w fun e w' => e = .returned (.bool (txB ⟨rb, rs, rh, rt, pb, ps, pc, free, L.map SentH.v, next⟩)) ∧ Below w.heap.size w w' := by
  have r_p := hr1
  have hn_p := hn1
  obtain ⟨i0, hi0, hz0, hz1, hz2⟩ := info_parts info_int8
  cases e1 : ringB rb rs rh rt
  · go_enter Try.func8, Try.ntmps8
    go_wp2_with fail
    have k0 : Below w.heap.size w (w.alloc (.cells #[.int .i64 rb, .int .i64 rs, .int .i64 rh, .int .i64 rt, .int .i64 pb, .int .i64 ps, .int .i64 pc, .slice Ap np cp, .slice As ns cs, .int .i64 next] 36)) := by go_grown
    have bl0 : w.heap.size < (w.alloc (.cells #[.int .i64 rb, .int .i64 rs, .int .i64 rh, .int .i64 rt, .int .i64 pb, .int .i64 ps, .int .i64 pc, .slice Ap np cp, .slice As ns cs, .int .i64 next] 36)).heap.size := by go_size
    have hk0 : Blk (w.alloc (.cells #[.int .i64 rb, .int .i64 rs, .int .i64 rh, .int .i64 rt, .int .i64 pb, .int .i64 ps, .int .i64 pc, .slice Ap np cp, .slice As ns cs, .int .i64 next] 36)) (w.heap.size) 36 [.int .i64 rb, .int .i64 rs, .int .i64 rh, .int .i64 rt, .int .i64 pb, .int .i64 ps, .int .i64 pc, .slice Ap np cp, .slice As ns cs, .int .i64 next] := by simpa using Blk.new w 36 [.int .i64 rb, .int .i64 rs, .int .i64 rh, .int .i64 rt, .int .i64 pb, .int .i64 ps, .int .i64 pc, .slice Ap np cp, .slice As ns cs, .int .i64 next]
    have r_p := r_p.below k0
    have p0 := k0.size
    generalize hW0 : (w.alloc (.cells #[.int .i64 rb, .int .i64 rs, .int .i64 rh, .int .i64 rt, .int .i64 pb, .int .i64 ps, .int .i64 pc, .slice Ap np cp, .slice As ns cs, .int .i64 next] 36)) = w0 at *
    clear hW0
    refine (calls_bool (implRingOk_c _ _ _ _ _ h1 h2) e1).mono ?_
    rintro e w1 ⟨rfl, hb⟩
    have k1 : Below w.heap.size w w1 := ext_step k0 (by omega) hb
    have p1 := hb.size
    replace hk0 := hk0.ext hb
    have bl0 := Nat.lt_of_lt_of_le bl0 hb.size
    replace r_p := r_p.below (hb.mono (by omega))
    clear hb
    have bx0_0 := hk0.at_ 0 _ rfl
    have bx0_1 := hk0.at_ 1 _ rfl
    have bx0_2 := hk0.at_ 2 _ rfl
    have bx0_3 := hk0.at_ 3 _ rfl
    have bx0_4 := hk0.at_ 4 _ rfl
    have bx0_5 := hk0.at_ 5 _ rfl
    have bx0_6 := hk0.at_ 6 _ rfl
    have bx0_7 := hk0.at_ 7 _ rfl
    have bx0_8 := hk0.at_ 8 _ rfl
    have bx0_9 := hk0.at_ 9 _ rfl
    go_wp2
    go_ret
    exact ⟨ret_bool (by simp [txB, e1]), k1⟩
  cases e2 : poolB pb ps pc free
  · go_enter Try.func8, Try.ntmps8
    go_wp2_with fail
    have k0 : Below w.heap.size w (w.alloc (.cells #[.int .i64 rb, .int .i64 rs, .int .i64 rh, .int .i64 rt, .int .i64 pb, .int .i64 ps, .int .i64 pc, .slice Ap np cp, .slice As ns cs, .int .i64 next] 36)) := by go_grown
    have bl0 : w.heap.size < (w.alloc (.cells #[.int .i64 rb, .int .i64 rs, .int .i64 rh, .int .i64 rt, .int .i64 pb, .int .i64 ps, .int .i64 pc, .slice Ap np cp, .slice As ns cs, .int .i64 next] 36)).heap.size := by go_size
    have hk0 : Blk (w.alloc (.cells #[.int .i64 rb, .int .i64 rs, .int .i64 rh, .int .i64 rt, .int .i64 pb, .int .i64 ps, .int .i64 pc, .slice Ap np cp, .slice As ns cs, .int .i64 next] 36)) (w.heap.size) 36 [.int .i64 rb, .int .i64 rs, .int .i64 rh, .int .i64 rt, .int .i64 pb, .int .i64 ps, .int .i64 pc, .slice Ap np cp, .slice As ns cs, .int .i64 next] := by simpa using Blk.new w 36 [.int .i64 rb, .int .i64 rs, .int .i64 rh, .int .i64 rt, .int .i64 pb, .int .i64 ps, .int .i64 pc, .slice Ap np cp, .slice As ns cs, .int .i64 next]
    have r_p := r_p.below k0
    have p0 := k0.size
    generalize hW0 : (w.alloc (.cells #[.int .i64 rb, .int .i64 rs, .int .i64 rh, .int .i64 rt, .int .i64 pb, .int .i64 ps, .int .i64 pc, .slice Ap np cp, .slice As ns cs, .int .i64 next] 36)) = w0 at *
    clear hW0
    refine (calls_bool (implRingOk_c _ _ _ _ _ h1 h2) e1).mono ?_
    rintro e w1 ⟨rfl, hb⟩
    have k1 : Below w.heap.size w w1 := ext_step k0 (by omega) hb
    have p1 := hb.size
    replace hk0 := hk0.ext hb
    have bl0 := Nat.lt_of_lt_of_le bl0 hb.size
    replace r_p := r_p.below (hb.mono (by omega))
    clear hb
    have bx0_0 := hk0.at_ 0 _ rfl
    have bx0_1 := hk0.at_ 1 _ rfl
    have bx0_2 := hk0.at_ 2 _ rfl
    have bx0_3 := hk0.at_ 3 _ rfl
    have bx0_4 := hk0.at_ 4 _ rfl
    have bx0_5 := hk0.at_ 5 _ rfl
    have bx0_6 := hk0.at_ 6 _ rfl
    have bx0_7 := hk0.at_ 7 _ rfl
    have bx0_8 := hk0.at_ 8 _ rfl
    have bx0_9 := hk0.at_ 9 _ rfl
    go_wp2_with fail
    refine (calls_bool (implPoolOk_c _ _ _ _ _ _ free _ hn1 (by omega) (r_p.more (by omega))) e2).mono ?_
    rintro e w2 ⟨rfl, hb⟩
    have k2 : Below w.heap.size w w2 := ext_step k1 (by omega) hb
    have p2 := hb.size
    replace hk0 := hk0.ext hb
    clear bx0_0 bx0_1 bx0_2 bx0_3 bx0_4 bx0_5 bx0_6 bx0_7 bx0_8 bx0_9
    have bl0 := Nat.lt_of_lt_of_le bl0 hb.size
    replace r_p := r_p.below (hb.mono (by omega))
    clear hb
    have bx0_0 := hk0.at_ 0 _ rfl
    have bx0_1 := hk0.at_ 1 _ rfl
    have bx0_2 := hk0.at_ 2 _ rfl
    have bx0_3 := hk0.at_ 3 _ rfl
    have bx0_4 := hk0.at_ 4 _ rfl
    have bx0_5 := hk0.at_ 5 _ rfl
    have bx0_6 := hk0.at_ 6 _ rfl
    have bx0_7 := hk0.at_ 7 _ rfl
    have bx0_8 := hk0.at_ 8 _ rfl
    have bx0_9 := hk0.at_ 9 _ rfl
    go_wp2
    go_ret
    exact ⟨ret_bool (by simp [txB, e1, e2]), k2⟩
  cases e3 : inB next 0 65535
  · go_enter Try.func8, Try.ntmps8
    go_wp2_with fail
    have k0 : Below w.heap.size w (w.alloc (.cells #[.int .i64 rb, .int .i64 rs, .int .i64 rh, .int .i64 rt, .int .i64 pb, .int .i64 ps, .int .i64 pc, .slice Ap np cp, .slice As ns cs, .int .i64 next] 36)) := by go_grown
    have bl0 : w.heap.size < (w.alloc (.cells #[.int .i64 rb, .int .i64 rs, .int .i64 rh, .int .i64 rt, .int .i64 pb, .int .i64 ps, .int .i64 pc, .slice Ap np cp, .slice As ns cs, .int .i64 next] 36)).heap.size := by go_size
    have hk0 : Blk (w.alloc (.cells #[.int .i64 rb, .int .i64 rs, .int .i64 rh, .int .i64 rt, .int .i64 pb, .int .i64 ps, .int .i64 pc, .slice Ap np cp, .slice As ns cs, .int .i64 next] 36)) (w.heap.size) 36 [.int .i64 rb, .int .i64 rs, .int .i64 rh, .int .i64 rt, .int .i64 pb, .int .i64 ps, .int .i64 pc, .slice Ap np cp, .slice As ns cs, .int .i64 next] := by simpa using Blk.new w 36 [.int .i64 rb, .int .i64 rs, .int .i64 rh, .int .i64 rt, .int .i64 pb, .int .i64 ps, .int .i64 pc, .slice Ap np cp, .slice As ns cs, .int .i64 next]
    have r_p := r_p.below k0
    have p0 := k0.size
    generalize hW0 : (w.alloc (.cells #[.int .i64 rb, .int .i64 rs, .int .i64 rh, .int .i64 rt, .int .i64 pb, .int .i64 ps, .int .i64 pc, .slice Ap np cp, .slice As ns cs, .int .i64 next] 36)) = w0 at *
    clear hW0
    refine (calls_bool (implRingOk_c _ _ _ _ _ h1 h2) e1).mono ?_
    rintro e w1 ⟨rfl, hb⟩
    have k1 : Below w.heap.size w w1 := ext_step k0 (by omega) hb
    have p1 := hb.size
    replace hk0 := hk0.ext hb
    have bl0 := Nat.lt_of_lt_of_le bl0 hb.size
    replace r_p := r_p.below (hb.mono (by omega))
    clear hb
    have bx0_0 := hk0.at_ 0 _ rfl
    have bx0_1 := hk0.at_ 1 _ rfl
    have bx0_2 := hk0.at_ 2 _ rfl
    have bx0_3 := hk0.at_ 3 _ rfl
    have bx0_4 := hk0.at_ 4 _ rfl
    have bx0_5 := hk0.at_ 5 _ rfl
    have bx0_6 := hk0.at_ 6 _ rfl
    have bx0_7 := hk0.at_ 7 _ rfl
    have bx0_8 := hk0.at_ 8 _ rfl
    have bx0_9 := hk0.at_ 9 _ rfl
    go_wp2_with fail
    refine (calls_bool (implPoolOk_c _ _ _ _ _ _ free _ hn1 (by omega) (r_p.more (by omega))) e2).mono ?_
    rintro e w2 ⟨rfl, hb⟩
    have k2 : Below w.heap.size w w2 := ext_step k1 (by omega) hb
    have p2 := hb.size
    replace hk0 := hk0.ext hb
    clear bx0_0 bx0_1 bx0_2 bx0_3 bx0_4 bx0_5 bx0_6 bx0_7 bx0_8 bx0_9
    have bl0 := Nat.lt_of_lt_of_le bl0 hb.size
    replace r_p := r_p.below (hb.mono (by omega))
    clear hb
    have bx0_0 := hk0.at_ 0 _ rfl
    have bx0_1 := hk0.at_ 1 _ rfl
    have bx0_2 := hk0.at_ 2 _ rfl
    have bx0_3 := hk0.at_ 3 _ rfl
    have bx0_4 := hk0.at_ 4 _ rfl
    have bx0_5 := hk0.at_ 5 _ rfl
    have bx0_6 := hk0.at_ 6 _ rfl
    have bx0_7 := hk0.at_ 7 _ rfl
    have bx0_8 := hk0.at_ 8 _ rfl
    have bx0_9 := hk0.at_ 9 _ rfl
    have e3x := e3
    go_wp2_with (go_at_call 28; refine (calls_bool (between_c _ _ _ _) (by assumption)).mono ?_; rintro e w2 ⟨rfl, rfl⟩)
    go_ret
    exact ⟨ret_bool (by simp [txB, e1, e2, e3]), k2⟩
  have hrs := ringB_size e1
  obtain ⟨hrs1, hrs2, _⟩ := hrs
  go_enter Try.func8, Try.ntmps8
  go_wp2_with fail
  have k0 : Below w.heap.size w (w.alloc (.cells #[.int .i64 rb, .int .i64 rs, .int .i64 rh, .int .i64 rt, .int .i64 pb, .int .i64 ps, .int .i64 pc, .slice Ap np cp, .slice As ns cs, .int .i64 next] 36)) := by go_grown
  have bl0 : w.heap.size < (w.alloc (.cells #[.int .i64 rb, .int .i64 rs, .int .i64 rh, .int .i64 rt, .int .i64 pb, .int .i64 ps, .int .i64 pc, .slice Ap np cp, .slice As ns cs, .int .i64 next] 36)).heap.size := by go_size
  have hk0 : Blk (w.alloc (.cells #[.int .i64 rb, .int .i64 rs, .int .i64 rh, .int .i64 rt, .int .i64 pb, .int .i64 ps, .int .i64 pc, .slice Ap np cp, .slice As ns cs, .int .i64 next] 36)) (w.heap.size) 36 [.int .i64 rb, .int .i64 rs, .int .i64 rh, .int .i64 rt, .int .i64 pb, .int .i64 ps, .int .i64 pc, .slice Ap np cp, .slice As ns cs, .int .i64 next] := by simpa using Blk.new w 36 [.int .i64 rb, .int .i64 rs, .int .i64 rh, .int .i64 rt, .int .i64 pb, .int .i64 ps, .int .i64 pc, .slice Ap np cp, .slice As ns cs, .int .i64 next]
  have r_p := r_p.below k0
  have p0 := k0.size
  generalize hW0 : (w.alloc (.cells #[.int .i64 rb, .int .i64 rs, .int .i64 rh, .int .i64 rt, .int .i64 pb, .int .i64 ps, .int .i64 pc, .slice Ap np cp, .slice As ns cs, .int .i64 next] 36)) = w0 at *
  clear hW0
  refine (calls_bool (implRingOk_c _ _ _ _ _ h1 h2) e1).mono ?_
  rintro e w1 ⟨rfl, hb⟩
  have k1 : Below w.heap.size w w1 := ext_step k0 (by omega) hb
  have p1 := hb.size
  replace hk0 := hk0.ext hb
  have bl0 := Nat.lt_of_lt_of_le bl0 hb.size
  replace r_p := r_p.below (hb.mono (by omega))
  clear hb
  have bx0_0 := hk0.at_ 0 _ rfl
  have bx0_1 := hk0.at_ 1 _ rfl
  have bx0_2 := hk0.at_ 2 _ rfl
  have bx0_3 := hk0.at_ 3 _ rfl
  have bx0_4 := hk0.at_ 4 _ rfl
  have bx0_5 := hk0.at_ 5 _ rfl
  have bx0_6 := hk0.at_ 6 _ rfl
  have bx0_7 := hk0.at_ 7 _ rfl
  have bx0_8 := hk0.at_ 8 _ rfl
  have bx0_9 := hk0.at_ 9 _ rfl
  go_wp2_with fail
  refine (calls_bool (implPoolOk_c _ _ _ _ _ _ free _ hn1 (by omega) (r_p.more (by omega))) e2).mono ?_
  rintro e w2 ⟨rfl, hb⟩
  have k2 : Below w.heap.size w w2 := ext_step k1 (by omega) hb
  have p2 := hb.size
  replace hk0 := hk0.ext hb
  clear bx0_0 bx0_1 bx0_2 bx0_3 bx0_4 bx0_5 bx0_6 bx0_7 bx0_8 bx0_9
  have bl0 := Nat.lt_of_lt_of_le bl0 hb.size
  replace r_p := r_p.below (hb.mono (by omega))
  clear hb
  have bx0_0 := hk0.at_ 0 _ rfl
  have bx0_1 := hk0.at_ 1 _ rfl
  have bx0_2 := hk0.at_ 2 _ rfl
  have bx0_3 := hk0.at_ 3 _ rfl
  have bx0_4 := hk0.at_ 4 _ rfl
  have bx0_5 := hk0.at_ 5 _ rfl
  have bx0_6 := hk0.at_ 6 _ rfl
  have bx0_7 := hk0.at_ 7 _ rfl
  have bx0_8 := hk0.at_ 8 _ rfl
  have bx0_9 := hk0.at_ 9 _ rfl
  have e3x := e3
  go_wp2_with (go_at_call 28; refine (calls_bool (between_c _ _ _ _) (by assumption)).mono ?_; rintro e w2 ⟨rfl, rfl⟩)
  go_loopw [3, 4, 32] (fun lf al i wr => ∃ (k : Nat) (A' : Option Addr) (c' : Nat), k ≤ ns ∧ i = .int .i64 k ∧ lf = .int .i64 (rs - sumS ((L.take k).map SentH.v)) ∧ al = .slice A' (totB (L.take k)) c' ∧ Below w.heap.size w wr ∧ Blk wr w.heap.size 36 [.int .i64 rb, .int .i64 rs, .int .i64 rh, .int .i64 rt, .int .i64 pb, .int .i64 ps, .int .i64 pc, .slice Ap np cp, .slice As ns cs, .int .i64 next] ∧ Hid (((L.take k).map SentH.v).all sentB = true ∧ sumS ((L.take k).map SentH.v) ≤ rs) ∧ wr.ownsRow (w.heap.size + 1) 3 1 (.slice A' (totB (L.take k)) c') (totB (L.take k)) (ints (allB ((L.take k).map SentH.v)))) (fun _ _ i _ => ns - (intOf i).toNat)
  case atStart => exact ⟨0, _, 0, Nat.zero_le _, rfl, by simp [sumS], rfl, by go_grown, hk0.alloc _, by (simp [Hid, sumS]; try omega), own_empty (Blk.new _ _ []) (by omega)⟩
  case round =>
    obtain ⟨k, A', c', hk, rfl, rfl, rfl, hbw, hbx, hall, hown⟩ := hrel
    have hsz := hbw.size
    have hlx := hbx.lt
    have ha1 := hall.out.1
    have ha2 := hall.out.2
    have htt := totB_take L k
    by_cases hlt : k < ns
    · obtain ⟨b, o, x, rfl, hbl, hx, hc⟩ := hr2.el (fun _ => rfl) (by decide) hn2 hlt
      have hR : wr.rangeAt b (o + k * 3) [.int .i64 x.cookie, .int .i64 x.slots, .slice x.A x.n x.c] := range_below hc hbw hbl
      have hxm := List.mem_of_getElem? hx
      have hxn := totB_mem hxm
      have hxr := (hi x hxm).2
      have hxl := (hi x hxm).1
      have l1 : (k : Int) < (ns : Int) := by omega
      skip
      obtain ⟨S, hS⟩ : ∃ S, sumS ((L.take k).map SentH.v) = S := ⟨_, rfl⟩
      have hS0 : 0 ≤ S := by have h9 := sumS_ge ha1; rw [hS] at h9; omega
      rw [hS] at ha2
      simp only [hS]
      by_cases g1 : x.slots < 1
      · have HB := Lib.hid (waitB_bad (size := rs) hx (.inl (by exact Bool.and_eq_false_iff.2 (.inl (decide_eq_false (show ¬ (1 ≤ x.slots) by omega))))))
        go_wp2_with (first | (with_reducible_and_instances show wpList _ _ _ (⟨_, .load 52 (.tmp 34), _, _, _, _⟩ :: _) _ _; refine wpList_load_mid rfl _ _ rfl _ _ (by simp [go_sem]) [.int .i64 x.cookie, .int .i64 x.slots, .slice x.A x.n x.c] _ hR Try.underlying52 rfl infoZ_Sent ?_) | (with_reducible_and_instances show wpList _ _ _ (⟨_, .store 52 (.tmp 6) (.tmp 35), _, _, _, _⟩ :: _) _ _; refine wpList_store_new (w := wr) (t := 52) (zs := [.int .i64 0, .int .i64 0, .slice none 0 0]) rfl _ _ _ rfl [.int .i64 x.cookie, .int .i64 x.slots, .slice x.A x.n x.c] (by simp [go_sem]) (by simp [go_sem]) rfl infoZ_Sent (oneS x) ?_; intro W1 hkr hbW hs1; have kW : Below w.heap.size w W1 := ext_step hbw hsz hbW; have hbx := hbx.ext hbW; have s0 := hkr.at_ 0 _ rfl; have s1 := hkr.at_ 1 _ rfl; have s2 := hkr.at_ 2 _ rfl; have q0 := hbx.at_ 0 _ rfl; have q1 := hbx.at_ 1 _ rfl; have q2 := hbx.at_ 2 _ rfl; have q3 := hbx.at_ 3 _ rfl; have q4 := hbx.at_ 4 _ rfl; have q5 := hbx.at_ 5 _ rfl; have q6 := hbx.at_ 6 _ rfl; have q7 := hbx.at_ 7 _ rfl; have q8 := hbx.at_ 8 _ rfl; have q9 := hbx.at_ 9 _ rfl; have hown := own_ext hown hbW; have hsrc := hxr.to kW; clear hR) | (go_at_call 28; refine (calls_bool (between_c _ _ _ _) (by assumption)).mono ?_; rintro e w2 ⟨rfl, rfl⟩))
        go_ret
        exact ⟨ret_bool (by simp [txB, HB.out]), kW⟩
      have g1' : 1 ≤ x.slots := by omega
      by_cases g2 : rs - S < x.slots
      · have HB := Lib.hid (waitB_bad (size := rs) hx (.inr (by omega)))
        go_wp2_with (first | (with_reducible_and_instances show wpList _ _ _ (⟨_, .load 52 (.tmp 34), _, _, _, _⟩ :: _) _ _; refine wpList_load_mid rfl _ _ rfl _ _ (by simp [go_sem]) [.int .i64 x.cookie, .int .i64 x.slots, .slice x.A x.n x.c] _ hR Try.underlying52 rfl infoZ_Sent ?_) | (with_reducible_and_instances show wpList _ _ _ (⟨_, .store 52 (.tmp 6) (.tmp 35), _, _, _, _⟩ :: _) _ _; refine wpList_store_new (w := wr) (t := 52) (zs := [.int .i64 0, .int .i64 0, .slice none 0 0]) rfl _ _ _ rfl [.int .i64 x.cookie, .int .i64 x.slots, .slice x.A x.n x.c] (by simp [go_sem]) (by simp [go_sem]) rfl infoZ_Sent (oneS x) ?_; intro W1 hkr hbW hs1; have kW : Below w.heap.size w W1 := ext_step hbw hsz hbW; have hbx := hbx.ext hbW; have s0 := hkr.at_ 0 _ rfl; have s1 := hkr.at_ 1 _ rfl; have s2 := hkr.at_ 2 _ rfl; have q0 := hbx.at_ 0 _ rfl; have q1 := hbx.at_ 1 _ rfl; have q2 := hbx.at_ 2 _ rfl; have q3 := hbx.at_ 3 _ rfl; have q4 := hbx.at_ 4 _ rfl; have q5 := hbx.at_ 5 _ rfl; have q6 := hbx.at_ 6 _ rfl; have q7 := hbx.at_ 7 _ rfl; have q8 := hbx.at_ 8 _ rfl; have q9 := hbx.at_ 9 _ rfl; have hown := own_ext hown hbW; have hsrc := hxr.to kW; clear hR) | (go_at_call 28; refine (calls_bool (between_c _ _ _ _) (by assumption)).mono ?_; rintro e w2 ⟨rfl, rfl⟩))
        go_ret
        exact ⟨ret_bool (by simp [txB, HB.out]), kW⟩
      cases e4 : inB x.cookie 0 65535
      · have HB := Lib.hid (waitB_bad (size := rs) hx (.inl (by simp [sentB, SentH.v, e4])))
        go_wp2_with (first | (with_reducible_and_instances show wpList _ _ _ (⟨_, .load 52 (.tmp 34), _, _, _, _⟩ :: _) _ _; refine wpList_load_mid rfl _ _ rfl _ _ (by simp [go_sem]) [.int .i64 x.cookie, .int .i64 x.slots, .slice x.A x.n x.c] _ hR Try.underlying52 rfl infoZ_Sent ?_) | (with_reducible_and_instances show wpList _ _ _ (⟨_, .store 52 (.tmp 6) (.tmp 35), _, _, _, _⟩ :: _) _ _; refine wpList_store_new (w := wr) (t := 52) (zs := [.int .i64 0, .int .i64 0, .slice none 0 0]) rfl _ _ _ rfl [.int .i64 x.cookie, .int .i64 x.slots, .slice x.A x.n x.c] (by simp [go_sem]) (by simp [go_sem]) rfl infoZ_Sent (oneS x) ?_; intro W1 hkr hbW hs1; have kW : Below w.heap.size w W1 := ext_step hbw hsz hbW; have hbx := hbx.ext hbW; have s0 := hkr.at_ 0 _ rfl; have s1 := hkr.at_ 1 _ rfl; have s2 := hkr.at_ 2 _ rfl; have q0 := hbx.at_ 0 _ rfl; have q1 := hbx.at_ 1 _ rfl; have q2 := hbx.at_ 2 _ rfl; have q3 := hbx.at_ 3 _ rfl; have q4 := hbx.at_ 4 _ rfl; have q5 := hbx.at_ 5 _ rfl; have q6 := hbx.at_ 6 _ rfl; have q7 := hbx.at_ 7 _ rfl; have q8 := hbx.at_ 8 _ rfl; have q9 := hbx.at_ 9 _ rfl; have hown := own_ext hown hbW; have hsrc := hxr.to kW; clear hR) | (go_at_call 28; refine (calls_bool (between_c _ _ _ _) (by assumption)).mono ?_; rintro e w2 ⟨rfl, rfl⟩))
        go_ret
        exact ⟨ret_bool (by simp [txB, HB.out]), kW⟩
      · have HA := Lib.hid (show ((L.take (k + 1)).map SentH.v).all sentB = true by rw [take_next hx, List.map_append, List.all_append, ha1]; simp [sentB, SentH.v, e4, g1'])
        have hA1 := allB_next hx
        have hA2 := totB_next hx
        have hA3 := Lib.hid (sumS_next hx)
        have hA4 := totB_take L (k + 1)
        go_wp2_with (first | (with_reducible_and_instances show wpList _ _ _ (⟨_, .load 52 (.tmp 34), _, _, _, _⟩ :: _) _ _; refine wpList_load_mid rfl _ _ rfl _ _ (by simp [go_sem]) [.int .i64 x.cookie, .int .i64 x.slots, .slice x.A x.n x.c] _ hR Try.underlying52 rfl infoZ_Sent ?_) | (with_reducible_and_instances show wpList _ _ _ (⟨_, .store 52 (.tmp 6) (.tmp 35), _, _, _, _⟩ :: _) _ _; refine wpList_store_new (w := wr) (t := 52) (zs := [.int .i64 0, .int .i64 0, .slice none 0 0]) rfl _ _ _ rfl [.int .i64 x.cookie, .int .i64 x.slots, .slice x.A x.n x.c] (by simp [go_sem]) (by simp [go_sem]) rfl infoZ_Sent (oneS x) ?_; intro W1 hkr hbW hs1; have kW : Below w.heap.size w W1 := ext_step hbw hsz hbW; have hbx := hbx.ext hbW; have s0 := hkr.at_ 0 _ rfl; have s1 := hkr.at_ 1 _ rfl; have s2 := hkr.at_ 2 _ rfl; have q0 := hbx.at_ 0 _ rfl; have q1 := hbx.at_ 1 _ rfl; have q2 := hbx.at_ 2 _ rfl; have q3 := hbx.at_ 3 _ rfl; have q4 := hbx.at_ 4 _ rfl; have q5 := hbx.at_ 5 _ rfl; have q6 := hbx.at_ 6 _ rfl; have q7 := hbx.at_ 7 _ rfl; have q8 := hbx.at_ 8 _ rfl; have q9 := hbx.at_ 9 _ rfl; have hown := own_ext hown hbW; have hsrc := hxr.to kW; clear hR) | (go_at_call 28; refine (calls_bool (between_c _ _ _ _) (by assumption)).mono ?_; rintro e w2 ⟨rfl, rfl⟩) | (at_builtin; refine wpList_append_any _ rfl _ _ 24 rfl (w.heap.size + 1) 3 i0 (.int .i64 0) 1 8 Try.underlying24 hi0 hz0 hz1 hz2 rfl (by decide) _ _ _ rfl hown W1.heap.size _ _ _ (ints x.bufs) rfl hsrc (one_flat fun x u hu => by simp [] at hu; subst hu; rfl) (by unfold maxLen; omega) (by omega) (by omega) ?_; intro v3 w3 hown3 hg3 hat3; have k3 : Below w.heap.size w w3 := below_app kW (own_base hown (by omega)) hg3 (by omega); have hbx3 := blk_grown hbx hg3 (fun e => by have := (hown.lt _ e).1; omega); clear hg3 hat3))
        obtain ⟨A3, c3, rfl, _, _, _⟩ := own_form hown3
        rw [← ints_app, ← hA1, ← hA2] at hown3
        go_roundw
        case rel => exact ⟨k + 1, A3, c3, by omega, by go_num, by first | (rw [hA3.out, hS]; congr 1; omega) | (rw [hA3.out, hS]), by rw [hA2], k3, hbx3, ⟨HA.out, by rw [hA3.out, hS]; omega⟩, hown3⟩
        case measure => simp [intOf]; omega
    · have hkn : k = ns := by omega
      subst hkn
      rw [List.take_of_length_le (Nat.le_of_eq hn2)] at hown ha1 ha2
      rw [List.take_of_length_le (Nat.le_of_eq hn2)]
      have hal : (allB (L.map SentH.v)).length = totB L := allB_len hi
      have hsrc := Reads.of_own hown
      have hp1 := hr1.to hbw
      have p4 := hbx.at_ 4 _ rfl
      have p5 := hbx.at_ 5 _ rfl
      have p6 := hbx.at_ 6 _ rfl
      have p7 := hbx.at_ 7 _ rfl
      have p8 := hbx.at_ 8 _ rfl
      have hSz : 0 ≤ sumS (L.map SentH.v) := by have h9 := sumS_ge ha1; omega
      cases e5 : gvOk pb ps pc free (allB (L.map SentH.v))
      all_goals have g3 := ha2
      all_goals
        go_wp2_with (go_at_call 29; refine (implGiveBuffers_c _ _ _ _ _ _ _ _ _ free (allB (L.map SentH.v)) _ hn1 hal (by omega) (by omega) (hp1.to (by go_grown)) (hsrc.to (by go_grown))).mono ?_; rintro e w4 ⟨A5, c5, rfl, _, hb⟩; rw [e5]; have k4 : Below w.heap.size w w4 := ext_step hbw hsz hb; have k4s := k4.size; clear hb)
        go_ret
        exact ⟨ret_bool (by have h5 := e5; simp only [gvOk, e2, Bool.true_and] at h5; simp [txB, waitB, e1, e2, e3, ha1, h5, g3]), by go_grown⟩
set_option maxRecDepth 100000 in
set_option maxHeartbeats 4000000 in
theorem specTxOk_c (rb rs rh rt pb ps pc : Int) (Ap : Option Addr) (np cp : Nat) (free : List Int) (As : Option Addr) (ns cs : Nat) (L : List SentH) (next : Int) (w : World) (h1 : I64 rh) (h2 : I64 rt) (hn1 : free.length = np) (hr1 : Reads w w.heap.size 1 Ap np (ints free)) (hn2 : L.length = ns) (hr2 : Reads w w.heap.size 3 As ns (L.flatMap SentH.cells)) (hi : InRd w w.heap.size L) (hm : np + ns + totB L ≤ 1048576) :
    Calls Try.prog 6 #[.agg #[.int .i64 rb, .int .i64 rs, .int .i64 rh, .int .i64 rt, .int .i64 pb, .int .i64 ps, .int .i64 pc, .slice Ap np cp, .slice As ns cs, .int .i64 next]] w fun e w' => e = .returned (.bool (txB ⟨rb, rs, rh, rt, pb, ps, pc, free, L.map SentH.v, next⟩)) ∧ Below w.heap.size w w' := by
  have r_p := hr1
  have hn_p := hn1
  obtain ⟨i0, hi0, hz0, hz1, hz2⟩ := info_parts info_int8
  cases e1 : ringB rb rs rh rt
  · go_enter Try.func6, Try.ntmps6
    go_wp2_with fail
    have k0 : Below w.heap.size w (w.alloc (.cells #[.int .i64 rb, .int .i64 rs, .int .i64 rh, .int .i64 rt, .int .i64 pb, .int .i64 ps, .int .i64 pc, .slice Ap np cp, .slice As ns cs, .int .i64 next] 36)) := by go_grown
    have bl0 : w.heap.size < (w.alloc (.cells #[.int .i64 rb, .int .i64 rs, .int .i64 rh, .int .i64 rt, .int .i64 pb, .int .i64 ps, .int .i64 pc, .slice Ap np cp, .slice As ns cs, .int .i64 next] 36)).heap.size := by go_size
    have hk0 : Blk (w.alloc (.cells #[.int .i64 rb, .int .i64 rs, .int .i64 rh, .int .i64 rt, .int .i64 pb, .int .i64 ps, .int .i64 pc, .slice Ap np cp, .slice As ns cs, .int .i64 next] 36)) (w.heap.size) 36 [.int .i64 rb, .int .i64 rs, .int .i64 rh, .int .i64 rt, .int .i64 pb, .int .i64 ps, .int .i64 pc, .slice Ap np cp, .slice As ns cs, .int .i64 next] := by simpa using Blk.new w 36 [.int .i64 rb, .int .i64 rs, .int .i64 rh, .int .i64 rt, .int .i64 pb, .int .i64 ps, .int .i64 pc, .slice Ap np cp, .slice As ns cs, .int .i64 next]
    have r_p := r_p.below k0
    have p0 := k0.size
    generalize hW0 : (w.alloc (.cells #[.int .i64 rb, .int .i64 rs, .int .i64 rh, .int .i64 rt, .int .i64 pb, .int .i64 ps, .int .i64 pc, .slice Ap np cp, .slice As ns cs, .int .i64 next] 36)) = w0 at *
    clear hW0
    refine (calls_bool (specRingOk_c _ _ _ _ _ h1 h2) e1).mono ?_
    rintro e w1 ⟨rfl, hb⟩
    have k1 : Below w.heap.size w w1 := ext_step k0 (by omega) hb
    have p1 := hb.size
    replace hk0 := hk0.ext hb
    have bl0 := Nat.lt_of_lt_of_le bl0 hb.size
    replace r_p := r_p.below (hb.mono (by omega))
    clear hb
    have bx0_0 := hk0.at_ 0 _ rfl
    have bx0_1 := hk0.at_ 1 _ rfl
    have bx0_2 := hk0.at_ 2 _ rfl
    have bx0_3 := hk0.at_ 3 _ rfl
    have bx0_4 := hk0.at_ 4 _ rfl
    have bx0_5 := hk0.at_ 5 _ rfl
    have bx0_6 := hk0.at_ 6 _ rfl
    have bx0_7 := hk0.at_ 7 _ rfl
    have bx0_8 := hk0.at_ 8 _ rfl
    have bx0_9 := hk0.at_ 9 _ rfl
    go_wp2
    go_ret
    exact ⟨ret_bool (by simp [txB, e1]), k1⟩
  cases e2 : poolB pb ps pc free
  · go_enter Try.func6, Try.ntmps6
    go_wp2_with fail
    have k0 : Below w.heap.size w (w.alloc (.cells #[.int .i64 rb, .int .i64 rs, .int .i64 rh, .int .i64 rt, .int .i64 pb, .int .i64 ps, .int .i64 pc, .slice Ap np cp, .slice As ns cs, .int .i64 next] 36)) := by go_grown
    have bl0 : w.heap.size < (w.alloc (.cells #[.int .i64 rb, .int .i64 rs, .int .i64 rh, .int .i64 rt, .int .i64 pb, .int .i64 ps, .int .i64 pc, .slice Ap np cp, .slice As ns cs, .int .i64 next] 36)).heap.size := by go_size
    have hk0 : Blk (w.alloc (.cells #[.int .i64 rb, .int .i64 rs, .int .i64 rh, .int .i64 rt, .int .i64 pb, .int .i64 ps, .int .i64 pc, .slice Ap np cp, .slice As ns cs, .int .i64 next] 36)) (w.heap.size) 36 [.int .i64 rb, .int .i64 rs, .int .i64 rh, .int .i64 rt, .int .i64 pb, .int .i64 ps, .int .i64 pc, .slice Ap np cp, .slice As ns cs, .int .i64 next] := by simpa using Blk.new w 36 [.int .i64 rb, .int .i64 rs, .int .i64 rh, .int .i64 rt, .int .i64 pb, .int .i64 ps, .int .i64 pc, .slice Ap np cp, .slice As ns cs, .int .i64 next]
    have r_p := r_p.below k0
    have p0 := k0.size
    generalize hW0 : (w.alloc (.cells #[.int .i64 rb, .int .i64 rs, .int .i64 rh, .int .i64 rt, .int .i64 pb, .int .i64 ps, .int .i64 pc, .slice Ap np cp, .slice As ns cs, .int .i64 next] 36)) = w0 at *
    clear hW0
    refine (calls_bool (specRingOk_c _ _ _ _ _ h1 h2) e1).mono ?_
    rintro e w1 ⟨rfl, hb⟩
    have k1 : Below w.heap.size w w1 := ext_step k0 (by omega) hb
    have p1 := hb.size
    replace hk0 := hk0.ext hb
    have bl0 := Nat.lt_of_lt_of_le bl0 hb.size
    replace r_p := r_p.below (hb.mono (by omega))
    clear hb
    have bx0_0 := hk0.at_ 0 _ rfl
    have bx0_1 := hk0.at_ 1 _ rfl
    have bx0_2 := hk0.at_ 2 _ rfl
    have bx0_3 := hk0.at_ 3 _ rfl
    have bx0_4 := hk0.at_ 4 _ rfl
    have bx0_5 := hk0.at_ 5 _ rfl
    have bx0_6 := hk0.at_ 6 _ rfl
    have bx0_7 := hk0.at_ 7 _ rfl
    have bx0_8 := hk0.at_ 8 _ rfl
    have bx0_9 := hk0.at_ 9 _ rfl
    go_wp2_with fail
    refine (calls_bool (specPoolOk_c _ _ _ _ _ _ free _ hn1 (by omega) (r_p.more (by omega))) e2).mono ?_
    rintro e w2 ⟨rfl, hb⟩
    have k2 : Below w.heap.size w w2 := ext_step k1 (by omega) hb
    have p2 := hb.size
    replace hk0 := hk0.ext hb
    clear bx0_0 bx0_1 bx0_2 bx0_3 bx0_4 bx0_5 bx0_6 bx0_7 bx0_8 bx0_9
    have bl0 := Nat.lt_of_lt_of_le bl0 hb.size
    replace r_p := r_p.below (hb.mono (by omega))
    clear hb
    have bx0_0 := hk0.at_ 0 _ rfl
    have bx0_1 := hk0.at_ 1 _ rfl
    have bx0_2 := hk0.at_ 2 _ rfl
    have bx0_3 := hk0.at_ 3 _ rfl
    have bx0_4 := hk0.at_ 4 _ rfl
    have bx0_5 := hk0.at_ 5 _ rfl
    have bx0_6 := hk0.at_ 6 _ rfl
    have bx0_7 := hk0.at_ 7 _ rfl
    have bx0_8 := hk0.at_ 8 _ rfl
    have bx0_9 := hk0.at_ 9 _ rfl
    go_wp2
    go_ret
    exact ⟨ret_bool (by simp [txB, e1, e2]), k2⟩
  cases e3 : inB next 0 65535
  · go_enter Try.func6, Try.ntmps6
    go_wp2_with fail
    have k0 : Below w.heap.size w (w.alloc (.cells #[.int .i64 rb, .int .i64 rs, .int .i64 rh, .int .i64 rt, .int .i64 pb, .int .i64 ps, .int .i64 pc, .slice Ap np cp, .slice As ns cs, .int .i64 next] 36)) := by go_grown
    have bl0 : w.heap.size < (w.alloc (.cells #[.int .i64 rb, .int .i64 rs, .int .i64 rh, .int .i64 rt, .int .i64 pb, .int .i64 ps, .int .i64 pc, .slice Ap np cp, .slice As ns cs, .int .i64 next] 36)).heap.size := by go_size
    have hk0 : Blk (w.alloc (.cells #[.int .i64 rb, .int .i64 rs, .int .i64 rh, .int .i64 rt, .int .i64 pb, .int .i64 ps, .int .i64 pc, .slice Ap np cp, .slice As ns cs, .int .i64 next] 36)) (w.heap.size) 36 [.int .i64 rb, .int .i64 rs, .int .i64 rh, .int .i64 rt, .int .i64 pb, .int .i64 ps, .int .i64 pc, .slice Ap np cp, .slice As ns cs, .int .i64 next] := by simpa using Blk.new w 36 [.int .i64 rb, .int .i64 rs, .int .i64 rh, .int .i64 rt, .int .i64 pb, .int .i64 ps, .int .i64 pc, .slice Ap np cp, .slice As ns cs, .int .i64 next]
    have r_p := r_p.below k0
    have p0 := k0.size
    generalize hW0 : (w.alloc (.cells #[.int .i64 rb, .int .i64 rs, .int .i64 rh, .int .i64 rt, .int .i64 pb, .int .i64 ps, .int .i64 pc, .slice Ap np cp, .slice As ns cs, .int .i64 next] 36)) = w0 at *
    clear hW0
    refine (calls_bool (specRingOk_c _ _ _ _ _ h1 h2) e1).mono ?_
    rintro e w1 ⟨rfl, hb⟩
    have k1 : Below w.heap.size w w1 := ext_step k0 (by omega) hb
    have p1 := hb.size
    replace hk0 := hk0.ext hb
    have bl0 := Nat.lt_of_lt_of_le bl0 hb.size
    replace r_p := r_p.below (hb.mono (by omega))
    clear hb
    have bx0_0 := hk0.at_ 0 _ rfl
    have bx0_1 := hk0.at_ 1 _ rfl
    have bx0_2 := hk0.at_ 2 _ rfl
    have bx0_3 := hk0.at_ 3 _ rfl
    have bx0_4 := hk0.at_ 4 _ rfl
    have bx0_5 := hk0.at_ 5 _ rfl
    have bx0_6 := hk0.at_ 6 _ rfl
    have bx0_7 := hk0.at_ 7 _ rfl
    have bx0_8 := hk0.at_ 8 _ rfl
    have bx0_9 := hk0.at_ 9 _ rfl
    go_wp2_with fail
    refine (calls_bool (specPoolOk_c _ _ _ _ _ _ free _ hn1 (by omega) (r_p.more (by omega))) e2).mono ?_
    rintro e w2 ⟨rfl, hb⟩
    have k2 : Below w.heap.size w w2 := ext_step k1 (by omega) hb
    have p2 := hb.size
    replace hk0 := hk0.ext hb
    clear bx0_0 bx0_1 bx0_2 bx0_3 bx0_4 bx0_5 bx0_6 bx0_7 bx0_8 bx0_9
    have bl0 := Nat.lt_of_lt_of_le bl0 hb.size
    replace r_p := r_p.below (hb.mono (by omega))
    clear hb
    have bx0_0 := hk0.at_ 0 _ rfl
    have bx0_1 := hk0.at_ 1 _ rfl
    have bx0_2 := hk0.at_ 2 _ rfl
    have bx0_3 := hk0.at_ 3 _ rfl
    have bx0_4 := hk0.at_ 4 _ rfl
    have bx0_5 := hk0.at_ 5 _ rfl
    have bx0_6 := hk0.at_ 6 _ rfl
    have bx0_7 := hk0.at_ 7 _ rfl
    have bx0_8 := hk0.at_ 8 _ rfl
    have bx0_9 := hk0.at_ 9 _ rfl
    have e3x := e3
    go_wp2_with (go_at_call 21; refine (calls_bool (l01In_c _ _ _ _) (by assumption)).mono ?_; rintro e w2 ⟨rfl, rfl⟩)
    go_ret
    exact ⟨ret_bool (by simp [txB, e1, e2, e3]), k2⟩
  have hrs := ringB_size e1
  obtain ⟨hrs1, hrs2, _⟩ := hrs
  go_enter Try.func6, Try.ntmps6
  go_wp2_with fail
  have k0 : Below w.heap.size w (w.alloc (.cells #[.int .i64 rb, .int .i64 rs, .int .i64 rh, .int .i64 rt, .int .i64 pb, .int .i64 ps, .int .i64 pc, .slice Ap np cp, .slice As ns cs, .int .i64 next] 36)) := by go_grown
  have bl0 : w.heap.size < (w.alloc (.cells #[.int .i64 rb, .int .i64 rs, .int .i64 rh, .int .i64 rt, .int .i64 pb, .int .i64 ps, .int .i64 pc, .slice Ap np cp, .slice As ns cs, .int .i64 next] 36)).heap.size := by go_size
  have hk0 : Blk (w.alloc (.cells #[.int .i64 rb, .int .i64 rs, .int .i64 rh, .int .i64 rt, .int .i64 pb, .int .i64 ps, .int .i64 pc, .slice Ap np cp, .slice As ns cs, .int .i64 next] 36)) (w.heap.size) 36 [.int .i64 rb, .int .i64 rs, .int .i64 rh, .int .i64 rt, .int .i64 pb, .int .i64 ps, .int .i64 pc, .slice Ap np cp, .slice As ns cs, .int .i64 next] := by simpa using Blk.new w 36 [.int .i64 rb, .int .i64 rs, .int .i64 rh, .int .i64 rt, .int .i64 pb, .int .i64 ps, .int .i64 pc, .slice Ap np cp, .slice As ns cs, .int .i64 next]
  have r_p := r_p.below k0
  have p0 := k0.size
  generalize hW0 : (w.alloc (.cells #[.int .i64 rb, .int .i64 rs, .int .i64 rh, .int .i64 rt, .int .i64 pb, .int .i64 ps, .int .i64 pc, .slice Ap np cp, .slice As ns cs, .int .i64 next] 36)) = w0 at *
  clear hW0
  refine (calls_bool (specRingOk_c _ _ _ _ _ h1 h2) e1).mono ?_
  rintro e w1 ⟨rfl, hb⟩
  have k1 : Below w.heap.size w w1 := ext_step k0 (by omega) hb
  have p1 := hb.size
  replace hk0 := hk0.ext hb
  have bl0 := Nat.lt_of_lt_of_le bl0 hb.size
  replace r_p := r_p.below (hb.mono (by omega))
  clear hb
  have bx0_0 := hk0.at_ 0 _ rfl
  have bx0_1 := hk0.at_ 1 _ rfl
  have bx0_2 := hk0.at_ 2 _ rfl
  have bx0_3 := hk0.at_ 3 _ rfl
  have bx0_4 := hk0.at_ 4 _ rfl
  have bx0_5 := hk0.at_ 5 _ rfl
  have bx0_6 := hk0.at_ 6 _ rfl
  have bx0_7 := hk0.at_ 7 _ rfl
  have bx0_8 := hk0.at_ 8 _ rfl
  have bx0_9 := hk0.at_ 9 _ rfl
  go_wp2_with fail
  refine (calls_bool (specPoolOk_c _ _ _ _ _ _ free _ hn1 (by omega) (r_p.more (by omega))) e2).mono ?_
  rintro e w2 ⟨rfl, hb⟩
  have k2 : Below w.heap.size w w2 := ext_step k1 (by omega) hb
  have p2 := hb.size
  replace hk0 := hk0.ext hb
  clear bx0_0 bx0_1 bx0_2 bx0_3 bx0_4 bx0_5 bx0_6 bx0_7 bx0_8 bx0_9
  have bl0 := Nat.lt_of_lt_of_le bl0 hb.size
  replace r_p := r_p.below (hb.mono (by omega))
  clear hb
  have bx0_0 := hk0.at_ 0 _ rfl
  have bx0_1 := hk0.at_ 1 _ rfl
  have bx0_2 := hk0.at_ 2 _ rfl
  have bx0_3 := hk0.at_ 3 _ rfl
  have bx0_4 := hk0.at_ 4 _ rfl
  have bx0_5 := hk0.at_ 5 _ rfl
  have bx0_6 := hk0.at_ 6 _ rfl
  have bx0_7 := hk0.at_ 7 _ rfl
  have bx0_8 := hk0.at_ 8 _ rfl
  have bx0_9 := hk0.at_ 9 _ rfl
  have e3x := e3
  go_wp2_with (go_at_call 21; refine (calls_bool (l01In_c _ _ _ _) (by assumption)).mono ?_; rintro e w2 ⟨rfl, rfl⟩)
  go_loopw [3, 4, 5] (fun lf al i wr => ∃ (k : Nat) (A' : Option Addr) (c' : Nat), k ≤ ns ∧ i = .int .i64 k ∧ lf = .int .i64 (sumS ((L.take k).map SentH.v)) ∧ al = .slice A' (totB (L.take k)) c' ∧ Below w.heap.size w wr ∧ Blk wr w.heap.size 36 [.int .i64 rb, .int .i64 rs, .int .i64 rh, .int .i64 rt, .int .i64 pb, .int .i64 ps, .int .i64 pc, .slice Ap np cp, .slice As ns cs, .int .i64 next] ∧ Hid (((L.take k).map SentH.v).all sentB = true ∧ sumS ((L.take k).map SentH.v) ≤ k * 16) ∧ wr.ownsRow (w.heap.size + 1) 3 1 (.slice A' (totB (L.take k)) c') (totB (L.take k)) (ints (allB ((L.take k).map SentH.v)))) (fun _ _ i _ => ns - (intOf i).toNat)
  case atStart => exact ⟨0, _, 0, Nat.zero_le _, rfl, by simp [sumS], rfl, by go_grown, hk0.alloc _, by (simp [Hid, sumS]; try omega), own_empty (Blk.new _ _ []) (by omega)⟩
  case round =>
    obtain ⟨k, A', c', hk, rfl, rfl, rfl, hbw, hbx, hall, hown⟩ := hrel
    have hsz := hbw.size
    have hlx := hbx.lt
    have ha1 := hall.out.1
    have ha2 := hall.out.2
    have htt := totB_take L k
    by_cases hlt : k < ns
    · obtain ⟨b, o, x, rfl, hbl, hx, hc⟩ := hr2.el (fun _ => rfl) (by decide) hn2 hlt
      have hR : wr.rangeAt b (o + k * 3) [.int .i64 x.cookie, .int .i64 x.slots, .slice x.A x.n x.c] := range_below hc hbw hbl
      have hxm := List.mem_of_getElem? hx
      have hxn := totB_mem hxm
      have hxr := (hi x hxm).2
      have hxl := (hi x hxm).1
      have l1 : (k : Int) < (ns : Int) := by omega
      have p8 := hbx.at_ 8 _ rfl
      have p1 := hbx.at_ 1 _ rfl
      obtain ⟨S, hS⟩ : ∃ S, sumS ((L.take k).map SentH.v) = S := ⟨_, rfl⟩
      have hS0 : 0 ≤ S := by have h9 := sumS_ge ha1; rw [hS] at h9; omega
      rw [hS] at ha2
      simp only [hS]
      cases e5 : inB x.slots 1 rs
      · have HB := Lib.hid (waitB_bad (size := rs) hx (by rcases inB_f e5 with h | h; exact .inl (by exact Bool.and_eq_false_iff.2 (.inl (decide_eq_false (show ¬ (1 ≤ x.slots) by omega)))); exact .inr (by omega)))
        go_wp2_with (first | (with_reducible_and_instances show wpList _ _ _ (⟨_, .load 52 (.tmp 36), _, _, _, _⟩ :: _) _ _; refine wpList_load_mid rfl _ _ rfl _ _ (by simp [go_sem]) [.int .i64 x.cookie, .int .i64 x.slots, .slice x.A x.n x.c] _ hR Try.underlying52 rfl infoZ_Sent ?_) | (with_reducible_and_instances show wpList _ _ _ (⟨_, .store 52 (.tmp 6) (.tmp 37), _, _, _, _⟩ :: _) _ _; refine wpList_store_new (w := wr) (t := 52) (zs := [.int .i64 0, .int .i64 0, .slice none 0 0]) rfl _ _ _ rfl [.int .i64 x.cookie, .int .i64 x.slots, .slice x.A x.n x.c] (by simp [go_sem]) (by simp [go_sem]) rfl infoZ_Sent (oneS x) ?_; intro W1 hkr hbW hs1; have kW : Below w.heap.size w W1 := ext_step hbw hsz hbW; have hbx := hbx.ext hbW; have s0 := hkr.at_ 0 _ rfl; have s1 := hkr.at_ 1 _ rfl; have s2 := hkr.at_ 2 _ rfl; have q0 := hbx.at_ 0 _ rfl; have q1 := hbx.at_ 1 _ rfl; have q2 := hbx.at_ 2 _ rfl; have q3 := hbx.at_ 3 _ rfl; have q4 := hbx.at_ 4 _ rfl; have q5 := hbx.at_ 5 _ rfl; have q6 := hbx.at_ 6 _ rfl; have q7 := hbx.at_ 7 _ rfl; have q8 := hbx.at_ 8 _ rfl; have q9 := hbx.at_ 9 _ rfl; have hown := own_ext hown hbW; have hsrc := hxr.to kW; clear hR) | (go_at_call 21; refine (calls_bool (l01In_c _ _ _ _) (by assumption)).mono ?_; rintro e w2 ⟨rfl, rfl⟩))
        go_ret
        exact ⟨ret_bool (by simp [txB, HB.out]), kW⟩
      · obtain ⟨g1', g2⟩ := inB_t e5
        cases e4 : inB x.cookie 0 65535
        · have HB := Lib.hid (waitB_bad (size := rs) hx (.inl (by simp [sentB, SentH.v, e4])))
          go_wp2_with (first | (with_reducible_and_instances show wpList _ _ _ (⟨_, .load 52 (.tmp 36), _, _, _, _⟩ :: _) _ _; refine wpList_load_mid rfl _ _ rfl _ _ (by simp [go_sem]) [.int .i64 x.cookie, .int .i64 x.slots, .slice x.A x.n x.c] _ hR Try.underlying52 rfl infoZ_Sent ?_) | (with_reducible_and_instances show wpList _ _ _ (⟨_, .store 52 (.tmp 6) (.tmp 37), _, _, _, _⟩ :: _) _ _; refine wpList_store_new (w := wr) (t := 52) (zs := [.int .i64 0, .int .i64 0, .slice none 0 0]) rfl _ _ _ rfl [.int .i64 x.cookie, .int .i64 x.slots, .slice x.A x.n x.c] (by simp [go_sem]) (by simp [go_sem]) rfl infoZ_Sent (oneS x) ?_; intro W1 hkr hbW hs1; have kW : Below w.heap.size w W1 := ext_step hbw hsz hbW; have hbx := hbx.ext hbW; have s0 := hkr.at_ 0 _ rfl; have s1 := hkr.at_ 1 _ rfl; have s2 := hkr.at_ 2 _ rfl; have q0 := hbx.at_ 0 _ rfl; have q1 := hbx.at_ 1 _ rfl; have q2 := hbx.at_ 2 _ rfl; have q3 := hbx.at_ 3 _ rfl; have q4 := hbx.at_ 4 _ rfl; have q5 := hbx.at_ 5 _ rfl; have q6 := hbx.at_ 6 _ rfl; have q7 := hbx.at_ 7 _ rfl; have q8 := hbx.at_ 8 _ rfl; have q9 := hbx.at_ 9 _ rfl; have hown := own_ext hown hbW; have hsrc := hxr.to kW; clear hR) | (go_at_call 21; refine (calls_bool (l01In_c _ _ _ _) (by assumption)).mono ?_; rintro e w2 ⟨rfl, rfl⟩))
          go_ret
          exact ⟨ret_bool (by simp [txB, HB.out]), kW⟩
        · have HA := Lib.hid (show ((L.take (k + 1)).map SentH.v).all sentB = true by rw [take_next hx, List.map_append, List.all_append, ha1]; simp [sentB, SentH.v, e4, g1'])
          have hA1 := allB_next hx
          have hA2 := totB_next hx
          have hA3 := Lib.hid (sumS_next hx)
          have hA4 := totB_take L (k + 1)
          go_wp2_with (first | (with_reducible_and_instances show wpList _ _ _ (⟨_, .load 52 (.tmp 36), _, _, _, _⟩ :: _) _ _; refine wpList_load_mid rfl _ _ rfl _ _ (by simp [go_sem]) [.int .i64 x.cookie, .int .i64 x.slots, .slice x.A x.n x.c] _ hR Try.underlying52 rfl infoZ_Sent ?_) | (with_reducible_and_instances show wpList _ _ _ (⟨_, .store 52 (.tmp 6) (.tmp 37), _, _, _, _⟩ :: _) _ _; refine wpList_store_new (w := wr) (t := 52) (zs := [.int .i64 0, .int .i64 0, .slice none 0 0]) rfl _ _ _ rfl [.int .i64 x.cookie, .int .i64 x.slots, .slice x.A x.n x.c] (by simp [go_sem]) (by simp [go_sem]) rfl infoZ_Sent (oneS x) ?_; intro W1 hkr hbW hs1; have kW : Below w.heap.size w W1 := ext_step hbw hsz hbW; have hbx := hbx.ext hbW; have s0 := hkr.at_ 0 _ rfl; have s1 := hkr.at_ 1 _ rfl; have s2 := hkr.at_ 2 _ rfl; have q0 := hbx.at_ 0 _ rfl; have q1 := hbx.at_ 1 _ rfl; have q2 := hbx.at_ 2 _ rfl; have q3 := hbx.at_ 3 _ rfl; have q4 := hbx.at_ 4 _ rfl; have q5 := hbx.at_ 5 _ rfl; have q6 := hbx.at_ 6 _ rfl; have q7 := hbx.at_ 7 _ rfl; have q8 := hbx.at_ 8 _ rfl; have q9 := hbx.at_ 9 _ rfl; have hown := own_ext hown hbW; have hsrc := hxr.to kW; clear hR) | (go_at_call 21; refine (calls_bool (l01In_c _ _ _ _) (by assumption)).mono ?_; rintro e w2 ⟨rfl, rfl⟩) | (at_builtin; refine wpList_append_any _ rfl _ _ 24 rfl (w.heap.size + 1) 3 i0 (.int .i64 0) 1 8 Try.underlying24 hi0 hz0 hz1 hz2 rfl (by decide) _ _ _ rfl hown W1.heap.size _ _ _ (ints x.bufs) rfl hsrc (one_flat fun x u hu => by simp [] at hu; subst hu; rfl) (by unfold maxLen; omega) (by omega) (by omega) ?_; intro v3 w3 hown3 hg3 hat3; have k3 : Below w.heap.size w w3 := below_app kW (own_base hown (by omega)) hg3 (by omega); have hbx3 := blk_grown hbx hg3 (fun e => by have := (hown.lt _ e).1; omega); clear hg3 hat3))
          obtain ⟨A3, c3, rfl, _, _, _⟩ := own_form hown3
          rw [← ints_app, ← hA1, ← hA2] at hown3
          go_roundw
          case rel => exact ⟨k + 1, A3, c3, by omega, by go_num, by first | (rw [hA3.out, hS]; congr 1; omega) | (rw [hA3.out, hS]), by rw [hA2], k3, hbx3, ⟨HA.out, by rw [hA3.out, hS]; omega⟩, hown3⟩
          case measure => simp [intOf]; omega
    · have hkn : k = ns := by omega
      subst hkn
      rw [List.take_of_length_le (Nat.le_of_eq hn2)] at hown ha1 ha2
      rw [List.take_of_length_le (Nat.le_of_eq hn2)]
      have hal : (allB (L.map SentH.v)).length = totB L := allB_len hi
      have hsrc := Reads.of_own hown
      have hp1 := hr1.to hbw
      have p1 := hbx.at_ 1 _ rfl
      have p4 := hbx.at_ 4 _ rfl
      have p5 := hbx.at_ 5 _ rfl
      have p6 := hbx.at_ 6 _ rfl
      have p7 := hbx.at_ 7 _ rfl
      have p8 := hbx.at_ 8 _ rfl
      have hSz : 0 ≤ sumS (L.map SentH.v) := by have h9 := sumS_ge ha1; omega
      cases e5 : gvOk pb ps pc free (allB (L.map SentH.v))
      all_goals by_cases g3 : sumS (L.map SentH.v) ≤ rs
      all_goals
        go_wp2_with (go_at_call 22; refine (specGiveBuffers_c _ _ _ _ _ _ _ _ _ free (allB (L.map SentH.v)) _ hn1 hal (by omega) (by omega) (hp1.to (by go_grown)) (hsrc.to (by go_grown))).mono ?_; rintro e w4 ⟨A5, c5, rfl, _, hb⟩; rw [e5]; have k4 : Below w.heap.size w w4 := ext_step hbw hsz hb; have k4s := k4.size; have hbx4 := hbx.ext hb; have hlx4 := hbx4.lt; have p1 := hbx4.at_ 1 _ rfl; clear hb)
        go_ret
        exact ⟨ret_bool (by have h5 := e5; simp only [gvOk, e2, Bool.true_and] at h5; simp [txB, waitB, e1, e2, e3, ha1, h5, g3]), by go_grown⟩
end Go.Proofs.Ytnkcomclhmlefaa
