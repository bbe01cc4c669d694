/- Contract of CompletePackets: spec. -/
import Derived.Test.YtnkcomclhmlefaaTxE
import Derived.Deep.RegionLaw
namespace Go.Proofs.Ytnkcomclhmlefaa
set_option linter.unusedSimpArgs false
set_option linter.unusedVariables false
open Go.RowKit Go.ChangeShapes Go.WideShapes
theorem Reads.grownNe {w w1 : World} {B size n : Nat} {A : Option Addr} {xs : List Value} {row : Option Nat} (h : Reads w B size A n xs) (hg : w.grownBy w1 row) (hB : B ≤ w.heap.size) (hne : n = 0 ∨ ∃ b o, A = some ⟨b, o, none⟩ ∧ row ≠ some b) : Reads w1 B size A n xs :=
  ⟨h.1, fun hn => by
    obtain ⟨b, o, e, hb, hc⟩ := h.2 hn
    refine ⟨b, o, e, hb, fun j u hu => ?_⟩
    have hr : row ≠ some b := by
      rcases hne with h0 | ⟨b', o', e', h0⟩
      · omega
      · rw [e] at e'; injection e' with e'; injection e' with e1 e2; rw [e1]; exact h0
    exact (World.cell?_of_block (hg.block b (by omega) (fun e => hr e.symm))).trans (hc j u hu)⟩
theorem giveL_next2 {pb ps pc : Int} {fr : List Int} {L : List SentH} {k : Nat} {x : SentH} (hx : L[k]? = some x) : giveL pb ps pc fr ((L.map SentH.v).take (k + 1)) = gvF pb ps pc (giveL pb ps pc fr ((L.map SentH.v).take k)) x.bufs := by
  rw [← List.map_take, ← List.map_take]; exact giveL_next hx
theorem giveL_len2 {w : World} {B : Nat} {pb ps pc : Int} {fr : List Int} {L : List SentH} (h : InRd w B L) (k : Nat) : (giveL pb ps pc fr ((L.map SentH.v).take k)).length ≤ fr.length + totB (L.take k) := by
  rw [← List.map_take]; exact giveL_len h k
theorem TxR.grown {w w1 : World} {B : Nat} {H : TxH} {row : Option Nat} (h : TxR w B H) (hg : w.grownBy w1 row) (hB : B ≤ w.heap.size) (hr : ∀ g, row = some g → B ≤ g) : TxR w1 B H :=
  h.below ((Below.refl _ _).grown hg hB hr)
set_option maxRecDepth 100000 in
set_option maxHeartbeats 8000000 in
theorem specCompletePackets_c (rb rs rh rt pb ps pc : Int) (Ap : Option Addr) (np cp : Nat) (free : List Int) (As : Option Addr) (ns cs : Nat) (L : List SentH) (next : Int) (q : TxV) (n : Int) (w : World) (hv : TxH.v (⟨rb, rs, rh, rt, pb, ps, pc, Ap, np, cp, free, As, ns, cs, L, next⟩ : TxH) = q) (hq : q.sz ≤ 1048576) (h1 : I64 q.rh) (h2 : I64 q.rt) (hcap1 : ns ≤ cs) (hcap2 : cs ≤ 9223372036854775807) (r : TxR w w.heap.size (⟨rb, rs, rh, rt, pb, ps, pc, Ap, np, cp, free, As, ns, cs, L, next⟩ : TxH)) :
    Calls Try.prog 10 #[.agg #[.int .i64 rb, .int .i64 rs, .int .i64 rh, .int .i64 rt, .int .i64 pb, .int .i64 ps, .int .i64 pc, .slice Ap np cp, .slice As ns cs, .int .i64 next], .int .i64 n] w fun e w' => ∃ (H' : TxH) (A : Option Addr) (c : Nat), e = .returned (.tuple #[.agg #[.int .i64 H'.rb, .int .i64 H'.rs, .int .i64 H'.rh, .int .i64 H'.rt, .int .i64 H'.pb, .int .i64 H'.ps, .int .i64 H'.pc, .slice H'.Ap H'.np H'.cp, .slice H'.As H'.ns H'.cs, .int .i64 H'.next], .slice A (compC q n).length c]) ∧ H'.v = compV q n ∧ TxR w' w'.heap.size H' ∧ Reads w' w'.heap.size 1 A (compC q n).length (ints (compC q n)) ∧ Below w.heap.size w w' := by
  have hLn : L.length = ns := r.2.1.1
  have hr2 := r.2.1.2
  have hi : InRd w w.heap.size L := r.2.2
  have hwl : q.wait.length = ns := by rw [← hv]; simp [TxH.v, hLn]
  have hz := r.sz hv
  dsimp only at hz hr2
  obtain ⟨i0, hi0, hI0, hI1, hI2⟩ := info_parts info_intT
  cases e1 : txB q
  · have hO : compOk q n = false := by simp [compOk, e1]
    obtain ⟨hF1, hF2⟩ : compV q n = q ∧ compC q n = [] := ⟨by rw [compV, if_neg (by rw [hO]; decide)], by rw [compC, if_neg (by rw [hO]; decide)]⟩
    rw [hF1, hF2]
    clear hF1 hF2
    have r_a := r
    go_enter Try.func10, Try.ntmps10
    go_wp2_with fail
    have k0 : Below w.heap.size w ((w.alloc (.cells #[.int .i64 rb, .int .i64 rs, .int .i64 rh, .int .i64 rt, .int .i64 pb, .int .i64 ps, .int .i64 pc, .slice Ap np cp, .slice As ns cs, .int .i64 next] 36)).alloc (.cells #[.int .i64 0, .int .i64 0, .int .i64 0, .int .i64 0, .int .i64 0, .int .i64 0, .int .i64 0, .slice none 0 0, .slice none 0 0, .int .i64 0] 36)) := by go_grown
    have bl0 : w.heap.size < ((w.alloc (.cells #[.int .i64 rb, .int .i64 rs, .int .i64 rh, .int .i64 rt, .int .i64 pb, .int .i64 ps, .int .i64 pc, .slice Ap np cp, .slice As ns cs, .int .i64 next] 36)).alloc (.cells #[.int .i64 0, .int .i64 0, .int .i64 0, .int .i64 0, .int .i64 0, .int .i64 0, .int .i64 0, .slice none 0 0, .slice none 0 0, .int .i64 0] 36)).heap.size := by go_size
    have hk0 : Blk ((w.alloc (.cells #[.int .i64 rb, .int .i64 rs, .int .i64 rh, .int .i64 rt, .int .i64 pb, .int .i64 ps, .int .i64 pc, .slice Ap np cp, .slice As ns cs, .int .i64 next] 36)).alloc (.cells #[.int .i64 0, .int .i64 0, .int .i64 0, .int .i64 0, .int .i64 0, .int .i64 0, .int .i64 0, .slice none 0 0, .slice none 0 0, .int .i64 0] 36)) (w.heap.size) 36 [.int .i64 rb, .int .i64 rs, .int .i64 rh, .int .i64 rt, .int .i64 pb, .int .i64 ps, .int .i64 pc, .slice Ap np cp, .slice As ns cs, .int .i64 next] := by simpa using (Blk.new w 36 [.int .i64 rb, .int .i64 rs, .int .i64 rh, .int .i64 rt, .int .i64 pb, .int .i64 ps, .int .i64 pc, .slice Ap np cp, .slice As ns cs, .int .i64 next]).alloc (.cells #[.int .i64 0, .int .i64 0, .int .i64 0, .int .i64 0, .int .i64 0, .int .i64 0, .int .i64 0, .slice none 0 0, .slice none 0 0, .int .i64 0] 36)
    have bl1 : w.heap.size + 1 < ((w.alloc (.cells #[.int .i64 rb, .int .i64 rs, .int .i64 rh, .int .i64 rt, .int .i64 pb, .int .i64 ps, .int .i64 pc, .slice Ap np cp, .slice As ns cs, .int .i64 next] 36)).alloc (.cells #[.int .i64 0, .int .i64 0, .int .i64 0, .int .i64 0, .int .i64 0, .int .i64 0, .int .i64 0, .slice none 0 0, .slice none 0 0, .int .i64 0] 36)).heap.size := by go_size
    have hk1 : Blk ((w.alloc (.cells #[.int .i64 rb, .int .i64 rs, .int .i64 rh, .int .i64 rt, .int .i64 pb, .int .i64 ps, .int .i64 pc, .slice Ap np cp, .slice As ns cs, .int .i64 next] 36)).alloc (.cells #[.int .i64 0, .int .i64 0, .int .i64 0, .int .i64 0, .int .i64 0, .int .i64 0, .int .i64 0, .slice none 0 0, .slice none 0 0, .int .i64 0] 36)) (w.heap.size + 1) 36 [.int .i64 0, .int .i64 0, .int .i64 0, .int .i64 0, .int .i64 0, .int .i64 0, .int .i64 0, .slice none 0 0, .slice none 0 0, .int .i64 0] := by simpa using Blk.new (w.alloc (.cells #[.int .i64 rb, .int .i64 rs, .int .i64 rh, .int .i64 rt, .int .i64 pb, .int .i64 ps, .int .i64 pc, .slice Ap np cp, .slice As ns cs, .int .i64 next] 36)) 36 [.int .i64 0, .int .i64 0, .int .i64 0, .int .i64 0, .int .i64 0, .int .i64 0, .int .i64 0, .slice none 0 0, .slice none 0 0, .int .i64 0]
    have r_a := r_a.below k0
    have p0 := k0.size
    generalize hW0 : ((w.alloc (.cells #[.int .i64 rb, .int .i64 rs, .int .i64 rh, .int .i64 rt, .int .i64 pb, .int .i64 ps, .int .i64 pc, .slice Ap np cp, .slice As ns cs, .int .i64 next] 36)).alloc (.cells #[.int .i64 0, .int .i64 0, .int .i64 0, .int .i64 0, .int .i64 0, .int .i64 0, .int .i64 0, .slice none 0 0, .slice none 0 0, .int .i64 0] 36)) = w0 at *
    clear hW0
    refine (l22Copy2_c (⟨rb, rs, rh, rt, pb, ps, pc, Ap, np, cp, free, As, ns, cs, L, next⟩ : TxH) q _ hv hq (r_a.more (by omega))).mono ?_
    rintro e w1 ⟨H2, rfl, hv2, r2, hb⟩
    have k1 : Below w.heap.size w w1 := ext_step k0 (by omega) hb
    have p1 := hb.size
    replace hk0 := hk0.ext hb
    replace hk1 := hk1.ext hb
    have bl0 := Nat.lt_of_lt_of_le bl0 hb.size
    have bl1 := Nat.lt_of_lt_of_le bl1 hb.size
    replace r_a := r_a.below (hb.mono (by omega))
    clear hb
    replace r2 := r2.lower (base' := w.heap.size + 1 + 1) (by omega)
    have hblk2 : ∀ g, H2.blk g → g < w1.heap.size := fun g hg => (r2.lt hg).2
    have bx0_0 := hk0.at_ 0 _ rfl
    have bx0_1 := hk0.at_ 1 _ rfl
    have bx0_2 := hk0.at_ 2 _ rfl
    have bx0_3 := hk0.at_ 3 _ rfl
    have bx0_4 := hk0.at_ 4 _ rfl
    have bx0_5 := hk0.at_ 5 _ rfl
    have bx0_6 := hk0.at_ 6 _ rfl
    have bx0_7 := hk0.at_ 7 _ rfl
    have bx0_8 := hk0.at_ 8 _ rfl
    have bx0_9 := hk0.at_ 9 _ rfl
    go_wp2_with fail
    obtain ⟨w2, hW0⟩ : ∃ W, W = (w1.alloc (.cells #[.int .i64 H2.rb, .int .i64 H2.rs, .int .i64 H2.rh, .int .i64 H2.rt, .int .i64 H2.pb, .int .i64 H2.ps, .int .i64 H2.pc, .slice H2.Ap H2.np H2.cp, .slice H2.As H2.ns H2.cs, .int .i64 H2.next] 36)) := ⟨_, rfl⟩
    have hb : Below w1.heap.size w1 w2 := by rw [hW0]; go_grown
    have bl2 : w1.heap.size < w2.heap.size := by rw [hW0]; go_size
    have hk2 : Blk w2 (w1.heap.size) 36 [.int .i64 H2.rb, .int .i64 H2.rs, .int .i64 H2.rh, .int .i64 H2.rt, .int .i64 H2.pb, .int .i64 H2.ps, .int .i64 H2.pc, .slice H2.Ap H2.np H2.cp, .slice H2.As H2.ns H2.cs, .int .i64 H2.next] := by rw [hW0]; exact Blk.new _ _ _
    have hzb2 : Hid (w2.heap.size = w1.heap.size + 1) := by rw [hW0]; simp [Hid]
    rw [← hW0]
    clear hW0
    have k2 := ext_step k1 (by omega) hb
    have p2 := hb.size
    replace r2 := r2.ext hb
    replace hk0 := hk0.ext hb
    replace hk1 := hk1.ext hb
    clear bx0_0 bx0_1 bx0_2 bx0_3 bx0_4 bx0_5 bx0_6 bx0_7 bx0_8 bx0_9
    have bl0 := Nat.lt_of_lt_of_le bl0 hb.size
    have bl1 := Nat.lt_of_lt_of_le bl1 hb.size
    replace r_a := r_a.below (hb.mono (by omega))
    clear hb
    obtain ⟨w3, hW0⟩ : ∃ W, W = (w2.alloc (.cells #[] 3)) := ⟨_, rfl⟩
    have hb : Below w2.heap.size w2 w3 := by rw [hW0]; go_grown
    have bl3 : w2.heap.size < w3.heap.size := by rw [hW0]; go_size
    have hk3 : Blk w3 (w2.heap.size) 3 [] := by rw [hW0]; exact Blk.new _ _ _
    have hzb3 : Hid (w3.heap.size = w2.heap.size + 1) := by rw [hW0]; simp [Hid]
    rw [← hW0]
    clear hW0
    have k3 := ext_step k2 (by omega) hb
    have p3 := hb.size
    replace r2 := r2.ext hb
    replace hk0 := hk0.ext hb
    replace hk1 := hk1.ext hb
    replace hk2 := hk2.ext hb
    have bl0 := Nat.lt_of_lt_of_le bl0 hb.size
    have bl1 := Nat.lt_of_lt_of_le bl1 hb.size
    have bl2 := Nat.lt_of_lt_of_le bl2 hb.size
    replace r_a := r_a.below (hb.mono (by omega))
    clear hb
    refine (calls_bool (specTx_c (⟨rb, rs, rh, rt, pb, ps, pc, Ap, np, cp, free, As, ns, cs, L, next⟩ : TxH) q _ hv hq h1 h2 (r_a.more (by omega))) e1).mono ?_
    rintro e w4 ⟨rfl, hb⟩
    have k4 : Below w.heap.size w w4 := ext_step k3 (by omega) hb
    have p4 := hb.size
    replace r2 := r2.ext hb
    replace hk0 := hk0.ext hb
    replace hk1 := hk1.ext hb
    replace hk2 := hk2.ext hb
    replace hk3 := hk3.ext hb
    have bl0 := Nat.lt_of_lt_of_le bl0 hb.size
    have bl1 := Nat.lt_of_lt_of_le bl1 hb.size
    have bl2 := Nat.lt_of_lt_of_le bl2 hb.size
    have bl3 := Nat.lt_of_lt_of_le bl3 hb.size
    replace r_a := r_a.below (hb.mono (by omega))
    clear hb
    have bx0_8 := hk0.at_ 8 _ rfl
    go_wp2_with (first | (go_at_call 21; refine (calls_bool (l01In_c _ _ _ _) (by assumption)).mono ?_; rintro e w_ ⟨rfl, rfl⟩) | (with_reducible_and_instances show wpList _ _ _ (⟨_, .load 36 (.tmp 6), _, _, _, _⟩ :: _) _ _; refine wpList_load_mid rfl _ _ rfl (w1.heap.size) 0 (by simp [go_sem]) [.int .i64 H2.rb, .int .i64 H2.rs, .int .i64 H2.rh, .int .i64 H2.rt, .int .i64 H2.pb, .int .i64 H2.ps, .int .i64 H2.pc, .slice H2.Ap H2.np H2.cp, .slice H2.As H2.ns H2.cs, .int .i64 H2.next] _ hk2.range Try.underlying36 rfl infoZ_Tx ?_) | (with_reducible_and_instances show wpList _ _ _ (⟨_, .store 36 (.tmp 4) (.tmp 23), _, _, _, _⟩ :: _) _ _; refine wpList_store_blk rfl _ _ _ rfl [.int .i64 H2.rb, .int .i64 H2.rs, .int .i64 H2.rh, .int .i64 H2.rt, .int .i64 H2.pb, .int .i64 H2.ps, .int .i64 H2.pc, .slice H2.Ap H2.np H2.cp, .slice H2.As H2.ns H2.cs, .int .i64 H2.next] hk1 (by simp [go_sem]) (by simp [go_sem]) rfl infoZ_Tx (oneQ _ _ _ _ _ _ _ _ _ _ _ _ _ _) ?_; intro W9 hk9 hc9))
    have hv9 := loadVar_blk (P := Try.prog) hk9 (n := 10) rfl (by simp [go_sem]) (by simp [go_sem])
    refine bodyPost_ret (v := .tuple #[.agg #[.int .i64 H2.rb, .int .i64 H2.rs, .int .i64 H2.rh, .int .i64 H2.rt, .int .i64 H2.pb, .int .i64 H2.ps, .int .i64 H2.pc, .slice H2.Ap H2.np H2.cp, .slice H2.As H2.ns H2.cs, .int .i64 H2.next], .slice (some ⟨w2.heap.size, 0, none⟩) 0 0]) (by simp [results, Try.results10, Act.put, asAddr, Result.andThen, hv9, hzb2.out]) rfl ?_
    have hk3 := hk3.chgA hc9 (by omega)
    exact ⟨H2, _, _, rfl, hv2, TxN.rd (TxN.chgA r2 hc9 (fun g hg => by have := (r2.lt hg).1; omega)), Reads.of_own (own_empty hk3 (Nat.zero_le _)), hc9.below (by omega) k4⟩
  cases e2 : inB n 0 ns
  · have hO : compOk q n = false := by simp [compOk, hwl, e2]
    obtain ⟨hF1, hF2⟩ : compV q n = q ∧ compC q n = [] := ⟨by rw [compV, if_neg (by rw [hO]; decide)], by rw [compC, if_neg (by rw [hO]; decide)]⟩
    rw [hF1, hF2]
    clear hF1 hF2
    have r_a := r
    go_enter Try.func10, Try.ntmps10
    go_wp2_with fail
    have k0 : Below w.heap.size w ((w.alloc (.cells #[.int .i64 rb, .int .i64 rs, .int .i64 rh, .int .i64 rt, .int .i64 pb, .int .i64 ps, .int .i64 pc, .slice Ap np cp, .slice As ns cs, .int .i64 next] 36)).alloc (.cells #[.int .i64 0, .int .i64 0, .int .i64 0, .int .i64 0, .int .i64 0, .int .i64 0, .int .i64 0, .slice none 0 0, .slice none 0 0, .int .i64 0] 36)) := by go_grown
    have bl0 : w.heap.size < ((w.alloc (.cells #[.int .i64 rb, .int .i64 rs, .int .i64 rh, .int .i64 rt, .int .i64 pb, .int .i64 ps, .int .i64 pc, .slice Ap np cp, .slice As ns cs, .int .i64 next] 36)).alloc (.cells #[.int .i64 0, .int .i64 0, .int .i64 0, .int .i64 0, .int .i64 0, .int .i64 0, .int .i64 0, .slice none 0 0, .slice none 0 0, .int .i64 0] 36)).heap.size := by go_size
    have hk0 : Blk ((w.alloc (.cells #[.int .i64 rb, .int .i64 rs, .int .i64 rh, .int .i64 rt, .int .i64 pb, .int .i64 ps, .int .i64 pc, .slice Ap np cp, .slice As ns cs, .int .i64 next] 36)).alloc (.cells #[.int .i64 0, .int .i64 0, .int .i64 0, .int .i64 0, .int .i64 0, .int .i64 0, .int .i64 0, .slice none 0 0, .slice none 0 0, .int .i64 0] 36)) (w.heap.size) 36 [.int .i64 rb, .int .i64 rs, .int .i64 rh, .int .i64 rt, .int .i64 pb, .int .i64 ps, .int .i64 pc, .slice Ap np cp, .slice As ns cs, .int .i64 next] := by simpa using (Blk.new w 36 [.int .i64 rb, .int .i64 rs, .int .i64 rh, .int .i64 rt, .int .i64 pb, .int .i64 ps, .int .i64 pc, .slice Ap np cp, .slice As ns cs, .int .i64 next]).alloc (.cells #[.int .i64 0, .int .i64 0, .int .i64 0, .int .i64 0, .int .i64 0, .int .i64 0, .int .i64 0, .slice none 0 0, .slice none 0 0, .int .i64 0] 36)
    have bl1 : w.heap.size + 1 < ((w.alloc (.cells #[.int .i64 rb, .int .i64 rs, .int .i64 rh, .int .i64 rt, .int .i64 pb, .int .i64 ps, .int .i64 pc, .slice Ap np cp, .slice As ns cs, .int .i64 next] 36)).alloc (.cells #[.int .i64 0, .int .i64 0, .int .i64 0, .int .i64 0, .int .i64 0, .int .i64 0, .int .i64 0, .slice none 0 0, .slice none 0 0, .int .i64 0] 36)).heap.size := by go_size
    have hk1 : Blk ((w.alloc (.cells #[.int .i64 rb, .int .i64 rs, .int .i64 rh, .int .i64 rt, .int .i64 pb, .int .i64 ps, .int .i64 pc, .slice Ap np cp, .slice As ns cs, .int .i64 next] 36)).alloc (.cells #[.int .i64 0, .int .i64 0, .int .i64 0, .int .i64 0, .int .i64 0, .int .i64 0, .int .i64 0, .slice none 0 0, .slice none 0 0, .int .i64 0] 36)) (w.heap.size + 1) 36 [.int .i64 0, .int .i64 0, .int .i64 0, .int .i64 0, .int .i64 0, .int .i64 0, .int .i64 0, .slice none 0 0, .slice none 0 0, .int .i64 0] := by simpa using Blk.new (w.alloc (.cells #[.int .i64 rb, .int .i64 rs, .int .i64 rh, .int .i64 rt, .int .i64 pb, .int .i64 ps, .int .i64 pc, .slice Ap np cp, .slice As ns cs, .int .i64 next] 36)) 36 [.int .i64 0, .int .i64 0, .int .i64 0, .int .i64 0, .int .i64 0, .int .i64 0, .int .i64 0, .slice none 0 0, .slice none 0 0, .int .i64 0]
    have r_a := r_a.below k0
    have p0 := k0.size
    generalize hW0 : ((w.alloc (.cells #[.int .i64 rb, .int .i64 rs, .int .i64 rh, .int .i64 rt, .int .i64 pb, .int .i64 ps, .int .i64 pc, .slice Ap np cp, .slice As ns cs, .int .i64 next] 36)).alloc (.cells #[.int .i64 0, .int .i64 0, .int .i64 0, .int .i64 0, .int .i64 0, .int .i64 0, .int .i64 0, .slice none 0 0, .slice none 0 0, .int .i64 0] 36)) = w0 at *
    clear hW0
    refine (l22Copy2_c (⟨rb, rs, rh, rt, pb, ps, pc, Ap, np, cp, free, As, ns, cs, L, next⟩ : TxH) q _ hv hq (r_a.more (by omega))).mono ?_
    rintro e w1 ⟨H2, rfl, hv2, r2, hb⟩
    have k1 : Below w.heap.size w w1 := ext_step k0 (by omega) hb
    have p1 := hb.size
    replace hk0 := hk0.ext hb
    replace hk1 := hk1.ext hb
    have bl0 := Nat.lt_of_lt_of_le bl0 hb.size
    have bl1 := Nat.lt_of_lt_of_le bl1 hb.size
    replace r_a := r_a.below (hb.mono (by omega))
    clear hb
    replace r2 := r2.lower (base' := w.heap.size + 1 + 1) (by omega)
    have hblk2 : ∀ g, H2.blk g → g < w1.heap.size := fun g hg => (r2.lt hg).2
    have bx0_0 := hk0.at_ 0 _ rfl
    have bx0_1 := hk0.at_ 1 _ rfl
    have bx0_2 := hk0.at_ 2 _ rfl
    have bx0_3 := hk0.at_ 3 _ rfl
    have bx0_4 := hk0.at_ 4 _ rfl
    have bx0_5 := hk0.at_ 5 _ rfl
    have bx0_6 := hk0.at_ 6 _ rfl
    have bx0_7 := hk0.at_ 7 _ rfl
    have bx0_8 := hk0.at_ 8 _ rfl
    have bx0_9 := hk0.at_ 9 _ rfl
    go_wp2_with fail
    obtain ⟨w2, hW0⟩ : ∃ W, W = (w1.alloc (.cells #[.int .i64 H2.rb, .int .i64 H2.rs, .int .i64 H2.rh, .int .i64 H2.rt, .int .i64 H2.pb, .int .i64 H2.ps, .int .i64 H2.pc, .slice H2.Ap H2.np H2.cp, .slice H2.As H2.ns H2.cs, .int .i64 H2.next] 36)) := ⟨_, rfl⟩
    have hb : Below w1.heap.size w1 w2 := by rw [hW0]; go_grown
    have bl2 : w1.heap.size < w2.heap.size := by rw [hW0]; go_size
    have hk2 : Blk w2 (w1.heap.size) 36 [.int .i64 H2.rb, .int .i64 H2.rs, .int .i64 H2.rh, .int .i64 H2.rt, .int .i64 H2.pb, .int .i64 H2.ps, .int .i64 H2.pc, .slice H2.Ap H2.np H2.cp, .slice H2.As H2.ns H2.cs, .int .i64 H2.next] := by rw [hW0]; exact Blk.new _ _ _
    have hzb2 : Hid (w2.heap.size = w1.heap.size + 1) := by rw [hW0]; simp [Hid]
    rw [← hW0]
    clear hW0
    have k2 := ext_step k1 (by omega) hb
    have p2 := hb.size
    replace r2 := r2.ext hb
    replace hk0 := hk0.ext hb
    replace hk1 := hk1.ext hb
    clear bx0_0 bx0_1 bx0_2 bx0_3 bx0_4 bx0_5 bx0_6 bx0_7 bx0_8 bx0_9
    have bl0 := Nat.lt_of_lt_of_le bl0 hb.size
    have bl1 := Nat.lt_of_lt_of_le bl1 hb.size
    replace r_a := r_a.below (hb.mono (by omega))
    clear hb
    obtain ⟨w3, hW0⟩ : ∃ W, W = (w2.alloc (.cells #[] 3)) := ⟨_, rfl⟩
    have hb : Below w2.heap.size w2 w3 := by rw [hW0]; go_grown
    have bl3 : w2.heap.size < w3.heap.size := by rw [hW0]; go_size
    have hk3 : Blk w3 (w2.heap.size) 3 [] := by rw [hW0]; exact Blk.new _ _ _
    have hzb3 : Hid (w3.heap.size = w2.heap.size + 1) := by rw [hW0]; simp [Hid]
    rw [← hW0]
    clear hW0
    have k3 := ext_step k2 (by omega) hb
    have p3 := hb.size
    replace r2 := r2.ext hb
    replace hk0 := hk0.ext hb
    replace hk1 := hk1.ext hb
    replace hk2 := hk2.ext hb
    have bl0 := Nat.lt_of_lt_of_le bl0 hb.size
    have bl1 := Nat.lt_of_lt_of_le bl1 hb.size
    have bl2 := Nat.lt_of_lt_of_le bl2 hb.size
    replace r_a := r_a.below (hb.mono (by omega))
    clear hb
    refine (calls_bool (specTx_c (⟨rb, rs, rh, rt, pb, ps, pc, Ap, np, cp, free, As, ns, cs, L, next⟩ : TxH) q _ hv hq h1 h2 (r_a.more (by omega))) e1).mono ?_
    rintro e w4 ⟨rfl, hb⟩
    have k4 : Below w.heap.size w w4 := ext_step k3 (by omega) hb
    have p4 := hb.size
    replace r2 := r2.ext hb
    replace hk0 := hk0.ext hb
    replace hk1 := hk1.ext hb
    replace hk2 := hk2.ext hb
    replace hk3 := hk3.ext hb
    have bl0 := Nat.lt_of_lt_of_le bl0 hb.size
    have bl1 := Nat.lt_of_lt_of_le bl1 hb.size
    have bl2 := Nat.lt_of_lt_of_le bl2 hb.size
    have bl3 := Nat.lt_of_lt_of_le bl3 hb.size
    replace r_a := r_a.below (hb.mono (by omega))
    clear hb
    have bx0_8 := hk0.at_ 8 _ rfl
    go_wp2_with (first | (go_at_call 21; refine (calls_bool (l01In_c _ _ _ _) (by assumption)).mono ?_; rintro e w_ ⟨rfl, rfl⟩) | (with_reducible_and_instances show wpList _ _ _ (⟨_, .load 36 (.tmp 6), _, _, _, _⟩ :: _) _ _; refine wpList_load_mid rfl _ _ rfl (w1.heap.size) 0 (by simp [go_sem]) [.int .i64 H2.rb, .int .i64 H2.rs, .int .i64 H2.rh, .int .i64 H2.rt, .int .i64 H2.pb, .int .i64 H2.ps, .int .i64 H2.pc, .slice H2.Ap H2.np H2.cp, .slice H2.As H2.ns H2.cs, .int .i64 H2.next] _ hk2.range Try.underlying36 rfl infoZ_Tx ?_) | (with_reducible_and_instances show wpList _ _ _ (⟨_, .store 36 (.tmp 4) (.tmp 23), _, _, _, _⟩ :: _) _ _; refine wpList_store_blk rfl _ _ _ rfl [.int .i64 H2.rb, .int .i64 H2.rs, .int .i64 H2.rh, .int .i64 H2.rt, .int .i64 H2.pb, .int .i64 H2.ps, .int .i64 H2.pc, .slice H2.Ap H2.np H2.cp, .slice H2.As H2.ns H2.cs, .int .i64 H2.next] hk1 (by simp [go_sem]) (by simp [go_sem]) rfl infoZ_Tx (oneQ _ _ _ _ _ _ _ _ _ _ _ _ _ _) ?_; intro W9 hk9 hc9))
    have hv9 := loadVar_blk (P := Try.prog) hk9 (n := 10) rfl (by simp [go_sem]) (by simp [go_sem])
    refine bodyPost_ret (v := .tuple #[.agg #[.int .i64 H2.rb, .int .i64 H2.rs, .int .i64 H2.rh, .int .i64 H2.rt, .int .i64 H2.pb, .int .i64 H2.ps, .int .i64 H2.pc, .slice H2.Ap H2.np H2.cp, .slice H2.As H2.ns H2.cs, .int .i64 H2.next], .slice (some ⟨w2.heap.size, 0, none⟩) 0 0]) (by simp [results, Try.results10, Act.put, asAddr, Result.andThen, hv9, hzb2.out]) rfl ?_
    have hk3 := hk3.chgA hc9 (by omega)
    exact ⟨H2, _, _, rfl, hv2, TxN.rd (TxN.chgA r2 hc9 (fun g hg => by have := (r2.lt hg).1; omega)), Reads.of_own (own_empty hk3 (Nat.zero_le _)), hc9.below (by omega) k4⟩
  have hO : compOk q n = true := by simp [compOk, e1, hwl, e2]
  obtain ⟨hn0, hn1⟩ := inB_t e2
  obtain ⟨nn, rfl⟩ := Int.eq_ofNat_of_zero_le hn0
  have hnn : nn ≤ ns := by omega
  obtain ⟨hF1, hF2⟩ := compOk_at (n := nn) hO
  rw [hF2]
  have r_a := r
  go_enter Try.func10, Try.ntmps10
  go_wp2_with fail
  have k0 : Below w.heap.size w ((w.alloc (.cells #[.int .i64 rb, .int .i64 rs, .int .i64 rh, .int .i64 rt, .int .i64 pb, .int .i64 ps, .int .i64 pc, .slice Ap np cp, .slice As ns cs, .int .i64 next] 36)).alloc (.cells #[.int .i64 0, .int .i64 0, .int .i64 0, .int .i64 0, .int .i64 0, .int .i64 0, .int .i64 0, .slice none 0 0, .slice none 0 0, .int .i64 0] 36)) := by go_grown
  have bl0 : w.heap.size < ((w.alloc (.cells #[.int .i64 rb, .int .i64 rs, .int .i64 rh, .int .i64 rt, .int .i64 pb, .int .i64 ps, .int .i64 pc, .slice Ap np cp, .slice As ns cs, .int .i64 next] 36)).alloc (.cells #[.int .i64 0, .int .i64 0, .int .i64 0, .int .i64 0, .int .i64 0, .int .i64 0, .int .i64 0, .slice none 0 0, .slice none 0 0, .int .i64 0] 36)).heap.size := by go_size
  have hk0 : Blk ((w.alloc (.cells #[.int .i64 rb, .int .i64 rs, .int .i64 rh, .int .i64 rt, .int .i64 pb, .int .i64 ps, .int .i64 pc, .slice Ap np cp, .slice As ns cs, .int .i64 next] 36)).alloc (.cells #[.int .i64 0, .int .i64 0, .int .i64 0, .int .i64 0, .int .i64 0, .int .i64 0, .int .i64 0, .slice none 0 0, .slice none 0 0, .int .i64 0] 36)) (w.heap.size) 36 [.int .i64 rb, .int .i64 rs, .int .i64 rh, .int .i64 rt, .int .i64 pb, .int .i64 ps, .int .i64 pc, .slice Ap np cp, .slice As ns cs, .int .i64 next] := by simpa using (Blk.new w 36 [.int .i64 rb, .int .i64 rs, .int .i64 rh, .int .i64 rt, .int .i64 pb, .int .i64 ps, .int .i64 pc, .slice Ap np cp, .slice As ns cs, .int .i64 next]).alloc (.cells #[.int .i64 0, .int .i64 0, .int .i64 0, .int .i64 0, .int .i64 0, .int .i64 0, .int .i64 0, .slice none 0 0, .slice none 0 0, .int .i64 0] 36)
  have bl1 : w.heap.size + 1 < ((w.alloc (.cells #[.int .i64 rb, .int .i64 rs, .int .i64 rh, .int .i64 rt, .int .i64 pb, .int .i64 ps, .int .i64 pc, .slice Ap np cp, .slice As ns cs, .int .i64 next] 36)).alloc (.cells #[.int .i64 0, .int .i64 0, .int .i64 0, .int .i64 0, .int .i64 0, .int .i64 0, .int .i64 0, .slice none 0 0, .slice none 0 0, .int .i64 0] 36)).heap.size := by go_size
  have hk1 : Blk ((w.alloc (.cells #[.int .i64 rb, .int .i64 rs, .int .i64 rh, .int .i64 rt, .int .i64 pb, .int .i64 ps, .int .i64 pc, .slice Ap np cp, .slice As ns cs, .int .i64 next] 36)).alloc (.cells #[.int .i64 0, .int .i64 0, .int .i64 0, .int .i64 0, .int .i64 0, .int .i64 0, .int .i64 0, .slice none 0 0, .slice none 0 0, .int .i64 0] 36)) (w.heap.size + 1) 36 [.int .i64 0, .int .i64 0, .int .i64 0, .int .i64 0, .int .i64 0, .int .i64 0, .int .i64 0, .slice none 0 0, .slice none 0 0, .int .i64 0] := by simpa using Blk.new (w.alloc (.cells #[.int .i64 rb, .int .i64 rs, .int .i64 rh, .int .i64 rt, .int .i64 pb, .int .i64 ps, .int .i64 pc, .slice Ap np cp, .slice As ns cs, .int .i64 next] 36)) 36 [.int .i64 0, .int .i64 0, .int .i64 0, .int .i64 0, .int .i64 0, .int .i64 0, .int .i64 0, .slice none 0 0, .slice none 0 0, .int .i64 0]
  have r_a := r_a.below k0
  have p0 := k0.size
  generalize hW0 : ((w.alloc (.cells #[.int .i64 rb, .int .i64 rs, .int .i64 rh, .int .i64 rt, .int .i64 pb, .int .i64 ps, .int .i64 pc, .slice Ap np cp, .slice As ns cs, .int .i64 next] 36)).alloc (.cells #[.int .i64 0, .int .i64 0, .int .i64 0, .int .i64 0, .int .i64 0, .int .i64 0, .int .i64 0, .slice none 0 0, .slice none 0 0, .int .i64 0] 36)) = w0 at *
  clear hW0
  refine (l22Copy2_c (⟨rb, rs, rh, rt, pb, ps, pc, Ap, np, cp, free, As, ns, cs, L, next⟩ : TxH) q _ hv hq (r_a.more (by omega))).mono ?_
  rintro e w1 ⟨H2, rfl, hv2, r2, hb⟩
  have k1 : Below w.heap.size w w1 := ext_step k0 (by omega) hb
  have p1 := hb.size
  replace hk0 := hk0.ext hb
  replace hk1 := hk1.ext hb
  have bl0 := Nat.lt_of_lt_of_le bl0 hb.size
  have bl1 := Nat.lt_of_lt_of_le bl1 hb.size
  replace r_a := r_a.below (hb.mono (by omega))
  clear hb
  replace r2 := r2.lower (base' := w.heap.size + 1 + 1) (by omega)
  have hblk2 : ∀ g, H2.blk g → g < w1.heap.size := fun g hg => (r2.lt hg).2
  have bx0_0 := hk0.at_ 0 _ rfl
  have bx0_1 := hk0.at_ 1 _ rfl
  have bx0_2 := hk0.at_ 2 _ rfl
  have bx0_3 := hk0.at_ 3 _ rfl
  have bx0_4 := hk0.at_ 4 _ rfl
  have bx0_5 := hk0.at_ 5 _ rfl
  have bx0_6 := hk0.at_ 6 _ rfl
  have bx0_7 := hk0.at_ 7 _ rfl
  have bx0_8 := hk0.at_ 8 _ rfl
  have bx0_9 := hk0.at_ 9 _ rfl
  go_wp2_with fail
  obtain ⟨w2, hW0⟩ : ∃ W, W = (w1.alloc (.cells #[.int .i64 H2.rb, .int .i64 H2.rs, .int .i64 H2.rh, .int .i64 H2.rt, .int .i64 H2.pb, .int .i64 H2.ps, .int .i64 H2.pc, .slice H2.Ap H2.np H2.cp, .slice H2.As H2.ns H2.cs, .int .i64 H2.next] 36)) := ⟨_, rfl⟩
  have hb : Below w1.heap.size w1 w2 := by rw [hW0]; go_grown
  have bl2 : w1.heap.size < w2.heap.size := by rw [hW0]; go_size
  have hk2 : Blk w2 (w1.heap.size) 36 [.int .i64 H2.rb, .int .i64 H2.rs, .int .i64 H2.rh, .int .i64 H2.rt, .int .i64 H2.pb, .int .i64 H2.ps, .int .i64 H2.pc, .slice H2.Ap H2.np H2.cp, .slice H2.As H2.ns H2.cs, .int .i64 H2.next] := by rw [hW0]; exact Blk.new _ _ _
  have hzb2 : Hid (w2.heap.size = w1.heap.size + 1) := by rw [hW0]; simp [Hid]
  rw [← hW0]
  clear hW0
  have k2 := ext_step k1 (by omega) hb
  have p2 := hb.size
  replace r2 := r2.ext hb
  replace hk0 := hk0.ext hb
  replace hk1 := hk1.ext hb
  clear bx0_0 bx0_1 bx0_2 bx0_3 bx0_4 bx0_5 bx0_6 bx0_7 bx0_8 bx0_9
  have bl0 := Nat.lt_of_lt_of_le bl0 hb.size
  have bl1 := Nat.lt_of_lt_of_le bl1 hb.size
  replace r_a := r_a.below (hb.mono (by omega))
  clear hb
  obtain ⟨w3, hW0⟩ : ∃ W, W = (w2.alloc (.cells #[] 3)) := ⟨_, rfl⟩
  have hb : Below w2.heap.size w2 w3 := by rw [hW0]; go_grown
  have bl3 : w2.heap.size < w3.heap.size := by rw [hW0]; go_size
  have hk3 : Blk w3 (w2.heap.size) 3 [] := by rw [hW0]; exact Blk.new _ _ _
  have hzb3 : Hid (w3.heap.size = w2.heap.size + 1) := by rw [hW0]; simp [Hid]
  rw [← hW0]
  clear hW0
  have k3 := ext_step k2 (by omega) hb
  have p3 := hb.size
  replace r2 := r2.ext hb
  replace hk0 := hk0.ext hb
  replace hk1 := hk1.ext hb
  replace hk2 := hk2.ext hb
  have bl0 := Nat.lt_of_lt_of_le bl0 hb.size
  have bl1 := Nat.lt_of_lt_of_le bl1 hb.size
  have bl2 := Nat.lt_of_lt_of_le bl2 hb.size
  replace r_a := r_a.below (hb.mono (by omega))
  clear hb
  refine (calls_bool (specTx_c (⟨rb, rs, rh, rt, pb, ps, pc, Ap, np, cp, free, As, ns, cs, L, next⟩ : TxH) q _ hv hq h1 h2 (r_a.more (by omega))) e1).mono ?_
  rintro e w4 ⟨rfl, hb⟩
  have k4 : Below w.heap.size w w4 := ext_step k3 (by omega) hb
  have p4 := hb.size
  replace r2 := r2.ext hb
  replace hk0 := hk0.ext hb
  replace hk1 := hk1.ext hb
  replace hk2 := hk2.ext hb
  replace hk3 := hk3.ext hb
  have bl0 := Nat.lt_of_lt_of_le bl0 hb.size
  have bl1 := Nat.lt_of_lt_of_le bl1 hb.size
  have bl2 := Nat.lt_of_lt_of_le bl2 hb.size
  have bl3 := Nat.lt_of_lt_of_le bl3 hb.size
  replace r_a := r_a.below (hb.mono (by omega))
  clear hb
  have bx0_8 := hk0.at_ 8 _ rfl
  go_wp2_with (go_at_call 21; refine (calls_bool (l01In_c _ _ _ _) (by assumption)).mono ?_; rintro e w_ ⟨rfl, rfl⟩)
  rw [← hzb2.out]
  obtain ⟨b3, hB3⟩ : ∃ b, b = w2.heap.size := ⟨_, rfl⟩
  obtain ⟨b2, hB2⟩ : ∃ b, b = w1.heap.size := ⟨_, rfl⟩
  rw [← hB3] at hk3 ⊢
  rw [← hB2] at hk2 hblk2 ⊢
  have hfr : H2.free = free := congrArg TxV.free (hv2.trans hv.symm)
  have hfn : H2.free.length = np := by rw [hfr]; exact r.1.1
  clear hfr
  have hle2 : w.heap.size + 1 < b2 ∧ b2 < w4.heap.size := ⟨by omega, hk2.lt⟩
  have hle3 : b2 < b3 := by have := hzb2.out; omega
  clear hB3 hB2 hzb2 hzb3
  have hlen : ∀ k, k ≤ nn → (((L.take k).map SentH.v).map (fun x => x.cookie)).length = k := fun k hk => by simp [List.length_take, hLn]; omega
  go_loopw [7, 8] (fun ck i wr => ∃ (k m : Nat) (Af : Option Addr) (cf : Nat) (Ac : Option Addr) (cc : Nat), k ≤ nn ∧ i = .int .i64 k ∧ ck = .slice Ac k cc ∧ Below w.heap.size w wr ∧ Blk wr w.heap.size 36 [.int .i64 rb, .int .i64 rs, .int .i64 rh, .int .i64 rt, .int .i64 pb, .int .i64 ps, .int .i64 pc, .slice Ap np cp, .slice As ns cs, .int .i64 next] ∧ Blk wr (w.heap.size + 1) 36 [.int .i64 0, .int .i64 0, .int .i64 0, .int .i64 0, .int .i64 0, .int .i64 0, .int .i64 0, .slice none 0 0, .slice none 0 0, .int .i64 0] ∧ Blk wr b2 36 [.int .i64 H2.rb, .int .i64 H2.rs, .int .i64 H2.rh, .int .i64 H2.rt, .int .i64 H2.pb, .int .i64 H2.ps, .int .i64 H2.pc, .slice Af m cf, .slice H2.As H2.ns H2.cs, .int .i64 H2.next] ∧ TxN wr (w.heap.size + 1 + 1) H2 ∧ Hid (m = (giveL H2.pb H2.ps H2.pc H2.free ((L.map SentH.v).take k)).length) ∧ wr.ownsRow (w.heap.size + 1 + 1) 3 1 (.slice Af m cf) m (ints (giveL H2.pb H2.ps H2.pc H2.free ((L.map SentH.v).take k))) ∧ wr.ownsRow (b2 + 1) 3 1 (.slice Ac k cc) k (ints (((L.take k).map SentH.v).map (fun x => x.cookie))) ∧ Hid (∀ g, (Value.slice Af m cf).ownBlock = some g → (Value.slice Ac k cc).ownBlock = some g → False)) (fun _ i _ => nn - (intOf i).toNat)
  case atStart =>
    have hap0 : Hid (∀ g, (Value.slice H2.Ap H2.np H2.cp).ownBlock = some g → (Value.slice (some ⟨b3, 0, none⟩) 0 0).ownBlock = some g → False) := by
      intro g e5 e6
      have h3 := hblk2 g (.inl e5)
      have h4 : b3 = g := by simpa [Value.ownBlock] using e6
      omega
    exact ⟨0, H2.np, H2.Ap, H2.cp, some ⟨b3, 0, none⟩, 0, Nat.zero_le _, rfl, rfl, k4, hk0, hk1, hk2, r2, r2.1.1.symm, r2.1.2, own_empty hk3 (by omega), hap0⟩
  case round =>
    obtain ⟨k, m, Af, cf, Ac, cc, hk, rfl, rfl, hbw, hb0, hb1, hb2, hrb, hml, op, oc, hap⟩ := hrel
    clear hk0 hk1 hk2 hk3 r2 r_a
    have hsz := hbw.size
    have hl2 := hb2.lt
    have hl0 := hb0.lt
    have hml := hml.out.symm
    have uc := fun g hg => (oc.lt g hg).2
    have lc := fun g hg => (oc.lt g hg).1
    by_cases hlt : k < nn
    · skip
      obtain ⟨b, o, x, rfl, hbl, hx, hc⟩ := hr2.el (fun _ => rfl) (by decide) hLn (show k < ns by omega)
      have c0 := (hbw.cell (p := ⟨b, o + k * 3, none⟩) hbl).trans (by simpa using hc 0 _ rfl)
      have c2w : w.cell? ⟨b, o + k * 3 + 2, none⟩ = some (.slice x.A x.n x.c) := by simpa using hc 2 _ rfl
      have p8 := hb0.at_ 8 _ rfl
      have l1 : (k : Int) < (ns : Int) := by omega
      have hxm := List.mem_of_getElem? hx
      have hxn := totB_mem hxm
      have hxr := (hi x hxm).2
      have hxl := (hi x hxm).1
      have hgl := giveL_len2 (pb := H2.pb) (ps := H2.ps) (pc := H2.pc) (fr := H2.free) hi k
      have htt := totB_take L k
      have hgn := giveL_next2 (pb := H2.pb) (ps := H2.ps) (pc := H2.pc) (fr := H2.free) hx
      have hcn := cook_next hx
      have HGN := Lib.hid hgn
      have HCN := Lib.hid hcn
      clear hx hc hgn hcn
      go_wp2_with (first | (at_builtin; refine wpList_append_any _ rfl _ _ 24 rfl (b2 + 1) 3 i0 (.int .i64 0) 1 8 Try.underlying24 hi0 hI0 hI1 hI2 rfl (by decide) _ _ _ rfl (oc.alloc _) (wr.heap.size + 1) _ 1 1 [.int .i64 x.cookie] rfl (new_readsS _ _ _ rfl) (by intro u hu; simp only [List.mem_cons, List.not_mem_nil, or_false] at hu; subst hu; rfl) (by unfold maxLen; omega) (by omega) (by simp only [World.size_alloc]; omega) ?_; intro v4 W4 hown4 hg4 hat4; have k4 : Below w.heap.size w W4 := below_app (hbw.alloc hbw.size _) (own_base (oc.alloc _) (by omega)) hg4 (by simp only [World.size_alloc]; omega); have hg4s := hg4.size; have hb04 := Blk.grow (hb0.alloc _) (oc.alloc _) hg4 (by decide); have hb14 := Blk.grow (hb1.alloc _) (oc.alloc _) hg4 (by decide); have hb24 := Blk.grow (hb2.alloc _) (oc.alloc _) hg4 (by decide); have hrb4 := (TxN.ext hrb ((Below.refl _ _).alloc (Nat.le_refl _) (.cells #[.int .i64 x.cookie] 3))).far hg4 (fun g h1 h2 => by have := lc g h2; have := hblk2 g h1; omega); have op4 := own_far (op.alloc (.cells #[.int .i64 x.cookie] 3)) hg4 (fun g h1 h2 => hap.out g h1 h2); have c2 := (k4.cell (p := ⟨b, o + k * 3 + 2, none⟩) hbl).trans c2w; have p8 := hb04.at_ 8 _ rfl; have f4 := hb24.at_ 4 _ rfl; have f5 := hb24.at_ 5 _ rfl; have f6 := hb24.at_ 6 _ rfl; have f7 := hb24.at_ 7 _ rfl; have hl24 := hb24.lt))
      obtain ⟨A4, c4, rfl, _, _, _⟩ := own_form hown4
      have hown4 : W4.ownsRow (b2 + 1) 3 1 (.slice A4 (k + 1) c4) (k + 1) (ints (((L.take (k + 1)).map SentH.v).map (fun x => x.cookie))) := by rw [HCN.out, ints_app]; exact hown4
      clear hat4 hg4 hb0 hb1 hb2 hrb op oc c0
      have hdr : Below W4.heap.size W4 W4.drew := (Below.refl _ _).drew
      have hrpD := Reads.of_own (own_ext op4 hdr)
      have hsrcD := (hxr.to k4).to hdr
      clear hdr
      have u4 := fun g hg => (hown4.lt g hg).2
      go_wp2_with fail
      go_region_law (go_simp; go_at_call 22; refine (specGiveBuffers_c _ _ _ _ _ _ _ _ _ (giveL H2.pb H2.ps H2.pc H2.free ((L.map SentH.v).take k)) x.bufs _ hml hxl (by omega) (by omega) hrpD hsrcD).mono ?_; rintro e w5_ ⟨A5, c5, rfl, o5, hb⟩; have hg5 : Below W4.heap.size W4 w5_ := below_undrew hb; have kG : Below w.heap.size w w5_ := ext_step k4 k4.size hg5; have hb05 := hb04.ext hg5; have hb15 := hb14.ext hg5; have hb25 := hb24.ext hg5; have oc5 := own_ext hown4 hg5; have hrb5 := TxN.ext hrb4 hg5; have u5 := fun g hg => (o5.lt g hg).1; have f4 := hb25.at_ 4 _ rfl; have f5 := hb25.at_ 5 _ rfl; have f6 := hb25.at_ 6 _ rfl; have f7 := hb25.at_ 7 _ rfl; have e4 := hb25.frozen 4; have e5 := hb25.frozen 5; have e6 := hb25.frozen 6; have e7 := hb25.frozen 7; have hg5s := hg5.size; clear hb hg5)
      all_goals
        rw [← HGN.out] at o5 u5 ⊢
        have hb26 : Blk _ b2 36 [.int .i64 H2.rb, .int .i64 H2.rs, .int .i64 H2.rh, .int .i64 H2.rt, .int .i64 H2.pb, .int .i64 H2.ps, .int .i64 H2.pc, .slice A5 (giveL H2.pb H2.ps H2.pc H2.free ((L.map SentH.v).take (k + 1))).length c5, .slice H2.As H2.ns H2.cs, .int .i64 H2.next] := ((((hb25.set_ 4 (.int .i64 H2.pb)).set_ 5 (.int .i64 H2.ps)).set_ 6 (.int .i64 H2.pc)).set_ 7 (.slice A5 (giveL H2.pb H2.ps H2.pc H2.free ((L.map SentH.v).take (k + 1))).length c5))
        have hc6 := (((((ChgA.refl b2 w5_).set 4 (.int .i64 H2.pb)).set 5 (.int .i64 H2.ps)).set 6 (.int .i64 H2.pc)).set 7 (.slice A5 (giveL H2.pb H2.ps H2.pc H2.free ((L.map SentH.v).take (k + 1))).length c5))
        have oc6 := own_chgA oc5 hc6 (own_ty oc5 hb25 (by decide))
        have o56 := own_base (own_chgA o5 hc6 (own_ty o5 hb25 (by decide))) (base' := w.heap.size + 1 + 1) (by simp only [World.size_drew]; omega)
        have hrb6 := TxN.chgA hrb5 hc6 (fun g hg => by have := hblk2 g hg; omega)
        have hb06 := hb05.chgA hc6 (by omega)
        have hb16 := hb15.chgA hc6 (by omega)
        have k6 := hc6.below (B := w.heap.size) (by omega) kG
        have hap6 : Hid (∀ g, (Value.slice A5 (giveL H2.pb H2.ps H2.pc H2.free ((L.map SentH.v).take (k + 1))).length c5).ownBlock = some g → (Value.slice A4 (k + 1) c4).ownBlock = some g → False) := fun g h1 h2 => by
          have h3 := u5 g h1
          have h4 := u4 g h2
          simp only [World.size_drew] at h3
          omega
        go_wp2
        go_roundw
        case rel => exact ⟨k + 1, _, A5, c5, A4, c4, by omega, by go_num, rfl, k6, hb06, hb16, hb26, hrb6, rfl, o56, oc6, hap6⟩
        case measure => simp [intOf]; omega
    · skip
      have hkn : k = nn := by omega
      subst hkn
      have hcp := own_cap hrb.2.1.2
      have hH2n : H2.L.length = L.length := map_v_len (congrArg TxV.wait (hv2.trans hv.symm))
      have hns : H2.ns = ns := by have := hrb.2.1.1; omega
      have hcap3 : (H2.ns : Int) ≤ (H2.cs : Int) := by omega
      have hkn2 : (k : Int) ≤ (H2.ns : Int) := by omega
      have q8 := hb2.at_ 8 _ rfl
      have g8 := hb2.frozen 8
      have HNS := Lib.hid hns
      have HH2 := Lib.hid hH2n
      clear hns hH2n
      by_cases hc : H2.cs = k
      · skip
        have hc6 := (ChgA.refl b2 wr).set 8 (.slice H2.As (H2.ns - k) 0)
        have hb26 := hb2.set_ 8 (.slice H2.As (H2.ns - k) 0)
        go_wp2_with (first | (with_reducible_and_instances show wpList _ _ _ (⟨_, .load 36 (.tmp 6), _, _, _, _⟩ :: _) _ _; refine wpList_load_mid rfl _ _ rfl b2 0 (by simp [go_sem]) [.int .i64 H2.rb, .int .i64 H2.rs, .int .i64 H2.rh, .int .i64 H2.rt, .int .i64 H2.pb, .int .i64 H2.ps, .int .i64 H2.pc, .slice Af m cf, .slice H2.As (H2.ns - k) 0, .int .i64 H2.next] _ (Blk.range hb26) Try.underlying36 rfl infoZ_Tx ?_) | (with_reducible_and_instances show wpList _ _ _ (⟨_, .store 36 (.tmp 4) (.tmp 57), _, _, _, _⟩ :: _) _ _; refine wpList_store_blk rfl _ _ _ rfl [.int .i64 H2.rb, .int .i64 H2.rs, .int .i64 H2.rh, .int .i64 H2.rt, .int .i64 H2.pb, .int .i64 H2.ps, .int .i64 H2.pc, .slice Af m cf, .slice H2.As (H2.ns - k) 0, .int .i64 H2.next] (Blk.chgA hb1 hc6 (by omega)) (by simp [go_sem]) (by simp [go_sem]) rfl infoZ_Tx (oneQ _ _ _ _ _ _ _ _ _ _ _ _ _ _) ?_; intro W9 hk9 hc9))
        have hv9 := loadVar_blk (P := Try.prog) hk9 (n := 10) rfl (by simp [go_sem]) (by simp [go_sem])
        refine bodyPost_ret (v := .tuple #[.agg #[.int .i64 H2.rb, .int .i64 H2.rs, .int .i64 H2.rh, .int .i64 H2.rt, .int .i64 H2.pb, .int .i64 H2.ps, .int .i64 H2.pc, .slice Af m cf, .slice H2.As (H2.ns - k) 0, .int .i64 H2.next], .slice Ac k cc]) (by simp [results, Try.results10, Act.put, asAddr, Result.andThen, hv9]) rfl ?_
        have hrb9 := TxN.chgA (TxN.chgA hrb hc6 (fun g hg => by have := hblk2 g hg; omega)) hc9 (fun g hg => by have := (hrb.lt hg).1; omega)
        have hsrc9 := (Reads.of_own hrb9.2.1.2).cut (k := k) (by omega) hcp.1
        rw [if_pos hc, ← flat_dropS] at hsrc9
        have tt : ∀ {e : TypeId} {b s n : Nat} {v : Value} {xs : List Value}, wr.ownsRow b e s v n xs → e ≠ 36 → W9.ownsRow b e s v n xs := fun ho hne => own_chgA (own_chgA ho hc6 (own_ty ho hb2 hne)) hc9 (own_ty (own_chgA ho hc6 (own_ty ho hb2 hne)) (Blk.chgA hb1 hc6 (by omega)) hne)
        have op9 := Reads.of_own (tt op (by decide))
        have oc9 := Reads.of_own (tt oc (by decide))
        have hwt : q.wait.take k = (L.take k).map SentH.v := by rw [← hv]; simp [TxH.v, List.map_take]
        rw [hwt, hlen k (Nat.le_refl _)]
        have hLd : (H2.L.drop k).map SentH.v = (L.drop k).map SentH.v := by rw [List.map_drop, List.map_drop]; exact congrArg (List.drop k) (congrArg TxV.wait (hv2.trans hv.symm))
        have hld : (H2.L.drop k).length = H2.ns - k := by rw [List.length_drop, hrb.2.1.1]
        refine ⟨⟨H2.rb, H2.rs, H2.rh, H2.rt, H2.pb, H2.ps, H2.pc, Af, m, cf, (giveL H2.pb H2.ps H2.pc H2.free ((L.map SentH.v).take k)), H2.As, H2.ns - k, 0, H2.L.drop k, H2.next⟩, Ac, cc, rfl, ?_, ⟨⟨hml, op9⟩, ⟨hld, hsrc9⟩, hrb9.rd.2.2.sub fun y hy => List.mem_of_mem_drop hy⟩, oc9, hc9.below (by omega) (hc6.below (by omega) hbw)⟩
        have hcv := compV_eq (n := k) (m := m) (cf := cf) (ns := H2.ns - k) (c6 := 0) (Af := Af) (A6 := H2.As) hv hv2 hLd
        dsimp only at hcv
        rw [List.map_take] at hcv
        rw [hF1]
        exact hcv
      · skip
        have hc6 := (ChgA.refl b2 wr).set 8 (.slice (Option.map (fun x => x.add (k * 3)) H2.As) (H2.ns - k) (H2.cs - k))
        have hb26 := hb2.set_ 8 (.slice (Option.map (fun x => x.add (k * 3)) H2.As) (H2.ns - k) (H2.cs - k))
        go_wp2_with (first | (with_reducible_and_instances show wpList _ _ _ (⟨_, .load 36 (.tmp 6), _, _, _, _⟩ :: _) _ _; refine wpList_load_mid rfl _ _ rfl b2 0 (by simp [go_sem]) [.int .i64 H2.rb, .int .i64 H2.rs, .int .i64 H2.rh, .int .i64 H2.rt, .int .i64 H2.pb, .int .i64 H2.ps, .int .i64 H2.pc, .slice Af m cf, .slice (Option.map (fun x => x.add (k * 3)) H2.As) (H2.ns - k) (H2.cs - k), .int .i64 H2.next] _ (Blk.range hb26) Try.underlying36 rfl infoZ_Tx ?_) | (with_reducible_and_instances show wpList _ _ _ (⟨_, .store 36 (.tmp 4) (.tmp 57), _, _, _, _⟩ :: _) _ _; refine wpList_store_blk rfl _ _ _ rfl [.int .i64 H2.rb, .int .i64 H2.rs, .int .i64 H2.rh, .int .i64 H2.rt, .int .i64 H2.pb, .int .i64 H2.ps, .int .i64 H2.pc, .slice Af m cf, .slice (Option.map (fun x => x.add (k * 3)) H2.As) (H2.ns - k) (H2.cs - k), .int .i64 H2.next] (Blk.chgA hb1 hc6 (by omega)) (by simp [go_sem]) (by simp [go_sem]) rfl infoZ_Tx (oneQ _ _ _ _ _ _ _ _ _ _ _ _ _ _) ?_; intro W9 hk9 hc9))
        have hv9 := loadVar_blk (P := Try.prog) hk9 (n := 10) rfl (by simp [go_sem]) (by simp [go_sem])
        refine bodyPost_ret (v := .tuple #[.agg #[.int .i64 H2.rb, .int .i64 H2.rs, .int .i64 H2.rh, .int .i64 H2.rt, .int .i64 H2.pb, .int .i64 H2.ps, .int .i64 H2.pc, .slice Af m cf, .slice (Option.map (fun x => x.add (k * 3)) H2.As) (H2.ns - k) (H2.cs - k), .int .i64 H2.next], .slice Ac k cc]) (by simp [results, Try.results10, Act.put, asAddr, Result.andThen, hv9]) rfl ?_
        have hrb9 := TxN.chgA (TxN.chgA hrb hc6 (fun g hg => by have := hblk2 g hg; omega)) hc9 (fun g hg => by have := (hrb.lt hg).1; omega)
        have hsrc9 := (Reads.of_own hrb9.2.1.2).cut (k := k) (by omega) hcp.1
        rw [if_neg hc, ← flat_dropS] at hsrc9
        have tt : ∀ {e : TypeId} {b s n : Nat} {v : Value} {xs : List Value}, wr.ownsRow b e s v n xs → e ≠ 36 → W9.ownsRow b e s v n xs := fun ho hne => own_chgA (own_chgA ho hc6 (own_ty ho hb2 hne)) hc9 (own_ty (own_chgA ho hc6 (own_ty ho hb2 hne)) (Blk.chgA hb1 hc6 (by omega)) hne)
        have op9 := Reads.of_own (tt op (by decide))
        have oc9 := Reads.of_own (tt oc (by decide))
        have hwt : q.wait.take k = (L.take k).map SentH.v := by rw [← hv]; simp [TxH.v, List.map_take]
        rw [hwt, hlen k (Nat.le_refl _)]
        have hLd : (H2.L.drop k).map SentH.v = (L.drop k).map SentH.v := by rw [List.map_drop, List.map_drop]; exact congrArg (List.drop k) (congrArg TxV.wait (hv2.trans hv.symm))
        have hld : (H2.L.drop k).length = H2.ns - k := by rw [List.length_drop, hrb.2.1.1]
        refine ⟨⟨H2.rb, H2.rs, H2.rh, H2.rt, H2.pb, H2.ps, H2.pc, Af, m, cf, (giveL H2.pb H2.ps H2.pc H2.free ((L.map SentH.v).take k)), (Option.map (fun x => x.add (k * 3)) H2.As), H2.ns - k, (H2.cs - k), H2.L.drop k, H2.next⟩, Ac, cc, rfl, ?_, ⟨⟨hml, op9⟩, ⟨hld, hsrc9⟩, hrb9.rd.2.2.sub fun y hy => List.mem_of_mem_drop hy⟩, oc9, hc9.below (by omega) (hc6.below (by omega) hbw)⟩
        have hcv := compV_eq (n := k) (m := m) (cf := cf) (ns := H2.ns - k) (c6 := (H2.cs - k)) (Af := Af) (A6 := (Option.map (fun x => x.add (k * 3)) H2.As)) hv hv2 hLd
        dsimp only at hcv
        rw [List.map_take] at hcv
        rw [hF1]
        exact hcv
end Go.Proofs.Ytnkcomclhmlefaa
