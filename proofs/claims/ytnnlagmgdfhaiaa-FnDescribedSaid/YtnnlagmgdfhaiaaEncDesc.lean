/- Contracts of EncodeDesc: impl and spec. -/
import Derived.Test.YtnnlagmgdfhaiaaWord
import Derived.Test.YtnnlagmgdfhaiaaDescOk
import Derived.Test.YtnnlagmgdfhaiaaSlots
namespace Go.Proofs.Ytnnlagmgdfhaiaa
set_option linter.unusedSimpArgs false
set_option linter.unusedVariables false
open Go.RowKit Go.ChangeShapes Go.WideShapes
/-- The sixteen bytes of a descriptor. -/
def encB (op fl ln at_ sz ck : Int) : ByteArray :=
  if descB op fl ln at_ sz ck then strOfNums [op, fl] ++ w16 ln ++ w32 at_ ++ w16 sz ++ w16 ck ++ w32 0 else ByteArray.empty
/-- Block b of the world W begins with two bytes. -/
def Byt (W : World) (b : Nat) (x y : Int) : Prop := W.cell? ⟨b, 0, none⟩ = some (.int .u8 x) ∧ W.cell? ⟨b, 1, none⟩ = some (.int .u8 y)
theorem byt_mono {W w1 : World} {x y : Int} (hb : Below W.heap.size W w1) : ∀ b, Byt W b x y → Byt w1 b x y := fun b ⟨h1, h2⟩ => ⟨ccell hb _ _ _ h1, ccell hb _ _ _ h2⟩
theorem byt_new (W : World) (x y : Int) (e : TypeId) : Byt (W.alloc (.cells #[.int .u8 x, .int .u8 y] e)) W.heap.size x y := ⟨by simp [go_sem], by simp [go_sem]⟩
theorem byt_conv (x y : Int) (W : World) (b : Nat) (h : Byt W b x y) : (convert 22 9 (.slice (some ⟨b, 0, none⟩) 2 2)).run Try.prog W = .ok (.string (strOfNums [x, y])) W :=
  run_convert_bytes_arg _ 22 5 Try.underlying22 Try.underlying5 b 0 2 2 [x, y] rfl (fun i hi => by
    match i, hi with
    | 0, _ => simpa using h.1
    | 1, _ => simpa using h.2) 9 Try.underlying9
set_option maxRecDepth 100000 in
set_option maxHeartbeats 4000000 in
theorem implEncodeDesc_c (op fl ln at_ sz ck : Int) (w : World) (h2 : I64 ln) (h3 : I64 at_) (h4 : I64 sz) (h5 : I64 ck) :
    Calls Try.prog 60 #[.agg #[.int .i64 op, .int .i64 fl, .int .i64 ln, .int .i64 at_, .int .i64 sz, .int .i64 ck]] w fun e w' => e = .returned (.string (encB op fl ln at_ sz ck)) ∧ Below w.heap.size w w' := by
  cases hok : descB op fl ln at_ sz ck
  · go_enter Try.func60, Try.ntmps60
    go_wp2_with (go_at_call 62; refine (calls_bool (implDescOk_c _ _ _ _ _ _ _) hok).mono ?_; rintro e w1 ⟨rfl, hb⟩; have hk : Below w.heap.size w w1 := ext_step (by go_grown) (by go_size) hb; have hz : w.heap.size < w1.heap.size := Nat.lt_of_lt_of_le (by go_size) hb.size; have hcs : w1.cell? ⟨w.heap.size, 0, none⟩ = some (.int .i64 op) ∧ w1.cell? ⟨w.heap.size, 1, none⟩ = some (.int .i64 fl) ∧ w1.cell? ⟨w.heap.size, 2, none⟩ = some (.int .i64 ln) ∧ w1.cell? ⟨w.heap.size, 3, none⟩ = some (.int .i64 at_) ∧ w1.cell? ⟨w.heap.size, 4, none⟩ = some (.int .i64 sz) ∧ w1.cell? ⟨w.heap.size, 5, none⟩ = some (.int .i64 ck) := ⟨(hb.cell (by go_size)).trans (by first | assumption | simp [go_sem]), (hb.cell (by go_size)).trans (by first | assumption | simp [go_sem]), (hb.cell (by go_size)).trans (by first | assumption | simp [go_sem]), (hb.cell (by go_size)).trans (by first | assumption | simp [go_sem]), (hb.cell (by go_size)).trans (by first | assumption | simp [go_sem]), (hb.cell (by go_size)).trans (by first | assumption | simp [go_sem])⟩; obtain ⟨hc0, hc1, hc2, hc3, hc4, hc5⟩ := hcs; clear hb)
    go_ret
    exact ⟨ret_string (by simp [encB, hok]; rfl), hk⟩
  · have hr := hok
    simp only [descB, Bool.and_eq_true] at hr
    obtain ⟨⟨⟨⟨⟨r1, r2⟩, r3⟩, r4⟩, r5⟩, r6⟩ := hr
    obtain ⟨o1, o2⟩ := inB_t r1
    obtain ⟨f1, f2⟩ := inB_t r2
    have u1 : op % 256 = op := by omega
    have u2 : fl % 256 = fl := by omega
    have z0 : (strOfNums [op, fl]).size = 2 := rfl
    have z1 := w16_size r3
    have z2 := w32_size r6
    have z3 := w16_size r4
    have z4 := w16_size r5
    have z5 : (w32 0).size = 4 := w32_size (by decide)
    have i0 : I64 0 := ⟨by omega, by omega⟩
    have k1 : IntKind.u8.wrap op = op := by rw [IntKind.wrap_u8']; omega
    have k2 : IntKind.u8.wrap fl = fl := by rw [IntKind.wrap_u8']; omega
    clear u1 u2
    go_enter Try.func60, Try.ntmps60
    go_wp2_with (go_at_call 62; refine (calls_bool (implDescOk_c _ _ _ _ _ _ _) hok).mono ?_; rintro e w1 ⟨rfl, hb⟩; have hk : Below w.heap.size w w1 := ext_step (by go_grown) (by go_size) hb; have hz : w.heap.size < w1.heap.size := Nat.lt_of_lt_of_le (by go_size) hb.size; have hcs : w1.cell? ⟨w.heap.size, 0, none⟩ = some (.int .i64 op) ∧ w1.cell? ⟨w.heap.size, 1, none⟩ = some (.int .i64 fl) ∧ w1.cell? ⟨w.heap.size, 2, none⟩ = some (.int .i64 ln) ∧ w1.cell? ⟨w.heap.size, 3, none⟩ = some (.int .i64 at_) ∧ w1.cell? ⟨w.heap.size, 4, none⟩ = some (.int .i64 sz) ∧ w1.cell? ⟨w.heap.size, 5, none⟩ = some (.int .i64 ck) := ⟨(hb.cell (by go_size)).trans (by first | assumption | simp [go_sem]), (hb.cell (by go_size)).trans (by first | assumption | simp [go_sem]), (hb.cell (by go_size)).trans (by first | assumption | simp [go_sem]), (hb.cell (by go_size)).trans (by first | assumption | simp [go_sem]), (hb.cell (by go_size)).trans (by first | assumption | simp [go_sem]), (hb.cell (by go_size)).trans (by first | assumption | simp [go_sem])⟩; obtain ⟨hc0, hc1, hc2, hc3, hc4, hc5⟩ := hcs; clear hb)
    refine wp_region_slots [(6, fun _ v => v = .pointer (some ⟨w.heap.size, 0, none⟩)), (7, fun _ v => v = .int .i64 op), (8, fun _ v => v = .int .u8 op), (9, fun _ v => v = .pointer (some ⟨w.heap.size, 1, none⟩)), (10, fun _ v => v = .int .i64 fl), (11, fun _ v => v = .int .u8 fl), (12, fun w v => ∃ b, v = .slice (some ⟨b, 0, none⟩) 2 2 ∧ Byt w b op fl), (13, fun _ v => v = .string (strOfNums [op, fl])), (14, fun _ v => v = .pointer (some ⟨w.heap.size, 2, none⟩)), (15, fun _ v => v = .int .i64 ln), (16, fun _ v => v = .string (w16 ln)), (17, fun _ v => v = .string (strOfNums [op, fl] ++ w16 ln)), (18, fun _ v => v = .pointer (some ⟨w.heap.size, 3, none⟩)), (19, fun _ v => v = .int .i64 at_), (20, fun _ v => v = .string (w32 at_)), (21, fun _ v => v = .string (strOfNums [op, fl] ++ w16 ln ++ w32 at_)), (22, fun _ v => v = .pointer (some ⟨w.heap.size, 4, none⟩)), (23, fun _ v => v = .int .i64 sz), (24, fun _ v => v = .string (w16 sz)), (25, fun _ v => v = .string (strOfNums [op, fl] ++ w16 ln ++ w32 at_ ++ w16 sz)), (26, fun _ v => v = .pointer (some ⟨w.heap.size, 5, none⟩)), (27, fun _ v => v = .int .i64 ck), (28, fun _ v => v = .string (w16 ck)), (29, fun _ v => v = .string (strOfNums [op, fl] ++ w16 ln ++ w32 at_ ++ w16 sz ++ w16 ck)), (30, fun _ v => v = .string (w32 0)), (31, fun _ v => v = .string (strOfNums [op, fl] ++ w16 ln ++ w32 at_ ++ w16 sz ++ w16 ck ++ w32 0)), (2, fun _ v => v = .string (strOfNums [op, fl] ++ w16 ln ++ w32 at_ ++ w16 sz ++ w16 ck ++ w32 0))] (by kernel_rfl) (by kernel_rfl) (by kernel_rfl) (by kernel_rfl) ?hG ?hsteps ?hfin
    case hG =>
      intro p hp
      simp only [List.mem_cons, List.not_mem_nil, or_false] at hp
      rcases hp with rfl | rfl | rfl | rfl | rfl | rfl | rfl | rfl | rfl | rfl | rfl | rfl | rfl | rfl | rfl | rfl | rfl | rfl | rfl | rfl | rfl | rfl | rfl | rfl | rfl | rfl | rfl
      all_goals (intro w w' v hb hv)
      all_goals first | exact hv | (obtain ⟨b, rfl, h⟩ := hv; exact ⟨b, rfl, byt_mono hb _ h⟩)
    case hsteps =>
      intro o ho
      simp only [List.mem_cons, List.not_mem_nil, or_false] at ho
      rcases ho with rfl | rfl | rfl | rfl | rfl | rfl | rfl | rfl | rfl | rfl | rfl | rfl | rfl | rfl | rfl | rfl | rfl | rfl | rfl | rfl | rfl | rfl | rfl | rfl | rfl | rfl | rfl
      all_goals (refine stepOk_plain rfl ?_; intro a w2 hb hl K Q hK)
      all_goals have hd0 := ccell hb _ _ _ hc0
      all_goals have hd1 := ccell hb _ _ _ hc1
      all_goals have hd2 := ccell hb _ _ _ hc2
      all_goals have hd3 := ccell hb _ _ _ hc3
      all_goals have hd4 := ccell hb _ _ _ hc4
      all_goals have hd5 := ccell hb _ _ _ hc5
      all_goals try (simp [Oper.looksAt, Op.operands, Hold] at hl; go_simp; exact hK _ _ (Below.refl _ _) (by intro d hd; cases hd; exact rfl))
      · have h8 : a.tmps[8]?.getD undef = .int .u8 op := gd (hl 8 (by decide))
        have h11 : a.tmps[11]?.getD undef = .int .u8 fl := gd (hl 11 (by decide))
        go_simp
        exact hK _ _ (by go_grown) (by intro d hd; cases hd; exact ⟨_, rfl, byt_new _ _ _ _⟩)
      · obtain ⟨b, hb12, hbyt⟩ : ∃ b, a.tmps.getD 12 undef = .slice (some ⟨b, 0, none⟩) 2 2 ∧ Byt w2 b op fl := hl 12 (by decide)
        have hb13 := gd hb12
        have hcv := byt_conv op fl w2 b hbyt
        go_simp
        exact hK _ _ (Below.refl _ _) (by intro d hd; cases hd; exact rfl)
      · have hx : a.tmps[15]?.getD undef = .int .i64 ln := gd (hl 15 (by decide))
        go_simp
        refine (implWord16_c _ _ h2).mono ?_
        rintro e w' ⟨rfl, hb'⟩
        exact hK _ _ hb' (by intro d hd; cases hd; exact rfl)
      · have hx : a.tmps[19]?.getD undef = .int .i64 at_ := gd (hl 19 (by decide))
        go_simp
        refine (implWord32_c _ _ h3).mono ?_
        rintro e w' ⟨rfl, hb'⟩
        exact hK _ _ hb' (by intro d hd; cases hd; exact rfl)
      · have hx : a.tmps[23]?.getD undef = .int .i64 sz := gd (hl 23 (by decide))
        go_simp
        refine (implWord16_c _ _ h4).mono ?_
        rintro e w' ⟨rfl, hb'⟩
        exact hK _ _ hb' (by intro d hd; cases hd; exact rfl)
      · have hx : a.tmps[27]?.getD undef = .int .i64 ck := gd (hl 27 (by decide))
        go_simp
        refine (implWord16_c _ _ h5).mono ?_
        rintro e w' ⟨rfl, hb'⟩
        exact hK _ _ hb' (by intro d hd; cases hd; exact rfl)
      · go_simp
        refine (implWord32_c _ _ i0).mono ?_
        rintro e w' ⟨rfl, hb'⟩
        exact hK _ _ hb' (by intro d hd; cases hd; exact rfl)
    case hfin =>
      intro a' w' hb hd hn hl
      obtain ⟨⟨l⟩, D⟩ := a'
      have hd : D = [] := hd
      subst hd
      match l, hn with
      | [x0, x1, x2, x3, x4, x5, x6, x7, x8, x9, x10, x11, x12, x13, x14, x15, x16, x17, x18, x19, x20, x21, x22, x23, x24, x25, x26, x27, x28, x29, x30, x31], _ =>
        have e2 : x2 = .string (strOfNums [op, fl] ++ w16 ln ++ w32 at_ ++ w16 sz ++ w16 ck ++ w32 0) := hl 2
        clear hl
        subst e2
        go_wp2
        go_ret
        exact ⟨ret_string (by simp [encB, hok]), ext_step hk (by go_size) hb⟩
end Go.Proofs.Ytnnlagmgdfhaiaa
