/- Contract of CompletePackets: impl. Plain words on it. -/
import Derived.Test.YtnkcomclhmlefaaTxD
namespace Go.Proofs.Ytnkcomclhmlefaa
set_option linter.unusedSimpArgs false
set_option linter.unusedVariables false
open Go.RowKit Go.ChangeShapes Go.WideShapes
def compOk (q : TxV) (n : Int) : Bool := txB q && inB n 0 q.wait.length
def giveL (pb ps pc : Int) (fr : List Int) (l : List SentV) : List Int := l.foldl (fun f x => gvF pb ps pc f x.bufs) fr
def compV (q : TxV) (n : Int) : TxV := if compOk q n then { q with free := giveL q.pb q.ps q.pc q.free (q.wait.take n.toNat), wait := q.wait.drop n.toNat } else q
def compC (q : TxV) (n : Int) : List Int := if compOk q n then (q.wait.take n.toNat).map (fun x => x.cookie) else []
theorem giveL_next {pb ps pc : Int} {fr : List Int} {L : List SentH} {k : Nat} {x : SentH} (hx : L[k]? = some x) : giveL pb ps pc fr ((L.take (k + 1)).map SentH.v) = gvF pb ps pc (giveL pb ps pc fr ((L.take k).map SentH.v)) x.bufs := by
  rw [take_next hx, List.map_append, giveL, List.foldl_append]; rfl
theorem cook_next {L : List SentH} {k : Nat} {x : SentH} (hx : L[k]? = some x) : ((L.take (k + 1)).map SentH.v).map (fun x => x.cookie) = ((L.take k).map SentH.v).map (fun x => x.cookie) ++ [x.cookie] := by
  rw [take_next hx]; simp [SentH.v]
theorem gvF_len2 (base size count : Int) (l l2 : List Int) : (gvF base size count l l2).length ≤ l.length + l2.length := by
  unfold gvF; split <;> simp
theorem giveL_len {w : World} {B : Nat} {pb ps pc : Int} {fr : List Int} {L : List SentH} (h : InRd w B L) : ∀ k, (giveL pb ps pc fr ((L.take k).map SentH.v)).length ≤ fr.length + totB (L.take k)
  | 0 => by simp [giveL, totB]
  | k + 1 => by
    have ih := giveL_len (pb := pb) (ps := ps) (pc := pc) (fr := fr) h k
    cases hx : L[k]? with
    | none =>
      have hk : L.length ≤ k := List.getElem?_eq_none_iff.1 hx
      rw [List.take_of_length_le (by omega)]
      rwa [List.take_of_length_le hk] at ih
    | some x =>
      have h1 := gvF_len2 pb ps pc (giveL pb ps pc fr ((L.take k).map SentH.v)) x.bufs
      have h2 := totB_next hx
      have h3 := (h x (List.mem_of_getElem? hx)).1
      rw [giveL_next hx]
      omega
theorem gvF_poolB {pb ps pc : Int} {l l2 : List Int} : True := trivial
theorem copyTx2_c (H : TxH) (q : TxV) (w : World) (hv : H.v = q) (hq : q.sz ≤ 1048576) (r : TxR w w.heap.size H) :
    Calls Try.prog 34 #[.agg #[.int .i64 H.rb, .int .i64 H.rs, .int .i64 H.rh, .int .i64 H.rt, .int .i64 H.pb, .int .i64 H.ps, .int .i64 H.pc, .slice H.Ap H.np H.cp, .slice H.As H.ns H.cs, .int .i64 H.next]] w fun e w' => ∃ H' : TxH, e = .returned (.agg #[.int .i64 H'.rb, .int .i64 H'.rs, .int .i64 H'.rh, .int .i64 H'.rt, .int .i64 H'.pb, .int .i64 H'.ps, .int .i64 H'.pc, .slice H'.Ap H'.np H'.cp, .slice H'.As H'.ns H'.cs, .int .i64 H'.next]) ∧ H'.v = q ∧ TxO w' w.heap.size H' ∧ Below w.heap.size w w' := by
  have hz := r.sz hv
  subst hv
  exact copyTx_c H.rb H.rs H.rh H.rt H.pb H.ps H.pc H.Ap H.np H.cp H.free H.As H.ns H.cs H.L H.next w r.1.1 r.1.2 r.2.1.1 r.2.1.2 r.2.2 (by omega)
theorem l22Copy2_c (H : TxH) (q : TxV) (w : World) (hv : H.v = q) (hq : q.sz ≤ 1048576) (r : TxR w w.heap.size H) :
    Calls Try.prog 33 #[.agg #[.int .i64 H.rb, .int .i64 H.rs, .int .i64 H.rh, .int .i64 H.rt, .int .i64 H.pb, .int .i64 H.ps, .int .i64 H.pc, .slice H.Ap H.np H.cp, .slice H.As H.ns H.cs, .int .i64 H.next]] w fun e w' => ∃ H' : TxH, e = .returned (.agg #[.int .i64 H'.rb, .int .i64 H'.rs, .int .i64 H'.rh, .int .i64 H'.rt, .int .i64 H'.pb, .int .i64 H'.ps, .int .i64 H'.pc, .slice H'.Ap H'.np H'.cp, .slice H'.As H'.ns H'.cs, .int .i64 H'.next]) ∧ H'.v = q ∧ TxN w' w.heap.size H' ∧ Below w.heap.size w w' := by
  have hz := r.sz hv
  subst hv
  exact l22Copy_c H.rb H.rs H.rh H.rt H.pb H.ps H.pc H.Ap H.np H.cp H.free H.As H.ns H.cs H.L H.next w r.1.1 r.1.2 r.2.1.1 r.2.1.2 r.2.2 (by omega)
/-- Cells are stored into a part of a box. -/
theorem wpList_store_part {P : Program} {ops : Array Oper} {rest : List Oper} {op : Oper} {a : Act} {w : World} {Q : Exit → Act → World → Prop} {b : Nat} {t : TypeId} {zs : List Value} (hgd : op.guard = none) (ty : TypeId) (x y : Operand) (ho : op.op = .store ty x y)
    (o : Nat) (cs : List Value) (hk : Blk w b t zs) (hx : a.eval x = .pointer (some ⟨b, o, none⟩)) (hy : a.eval y = .agg cs.toArray) (hl : o + cs.length ≤ zs.length) (hi : (P.info? ty).map (·.size) = some cs.length) (h1 : ∀ v ∈ cs, v.oneCell' = true)
    (h : ∀ W1, Blk W1 b t (setsAt zs o cs) → ChgA b w W1 → wpList P ops Q rest (a.put op.dst undef) W1) : wpList P ops Q (op :: rest) a w := by
  refine wpList_store_mid hgd ty x y ho b o cs.toArray hx hy (hk.there_at o _ (by simpa using hl)) (by simpa using hi) (all_oneCell_toArray h1) ?_
  exact h _ (by simpa using Blk.setCells cs o hk) (by simpa using chgA_setCells cs o (ChgA.refl b w))
theorem oneP4 (a b c : Int) (A : Option Addr) (n m : Nat) : ∀ v ∈ ([.int .i64 a, .int .i64 b, .int .i64 c, .slice A n m] : List Value), v.oneCell' = true := by
  intro v hv
  simp only [List.mem_cons, List.not_mem_nil, or_false] at hv
  rcases hv with rfl | rfl | rfl | rfl <;> rfl
theorem infoZ_Pool : (Try.prog.info? 33).map (·.size) = some 4 := by kernel_rfl
theorem own_cap2 {w : World} {base : Nat} {H : TxH} (h : TxO w base H) : H.ns ≤ H.cs ∧ H.cs ≤ 9223372036854775807 := own_cap h.2.1.2
theorem flat_dropS (L : List SentH) (k : Nat) : (L.drop k).flatMap SentH.cells = (L.flatMap SentH.cells).drop (k * 3) := by
  induction k generalizing L with
  | zero => simp
  | succ k ih => cases L with
    | nil => simp
    | cons x L =>
      rw [List.drop_succ_cons, ih, List.flatMap_cons, Nat.add_mul, Nat.one_mul, Nat.add_comm, ← List.drop_drop]
      rfl
theorem compOk_at {q : TxV} {n : Nat} (h : compOk q n = true) : compV q n = { q with free := giveL q.pb q.ps q.pc q.free (q.wait.take n), wait := q.wait.drop n } ∧ compC q n = (q.wait.take n).map (fun x => x.cookie) := by
  rw [compV, if_pos h, compC, if_pos h]; exact ⟨rfl, rfl⟩
theorem compV_eq {H H2 : TxH} {q : TxV} {n m cf ns c6 : Nat} {Af A6 : Option Addr} {L6 : List SentH} (hv : H.v = q) (hv2 : H2.v = q) (hL : L6.map SentH.v = (H.L.drop n).map SentH.v) :
    TxH.v ⟨H2.rb, H2.rs, H2.rh, H2.rt, H2.pb, H2.ps, H2.pc, Af, m, cf, giveL H2.pb H2.ps H2.pc H2.free ((H.L.take n).map SentH.v), A6, ns, c6, L6, H2.next⟩ = { q with free := giveL q.pb q.ps q.pc q.free (q.wait.take n), wait := q.wait.drop n } := by
  subst hv
  have e2 := hv2
  simp only [TxH.v, TxV.mk.injEq] at e2 ⊢
  obtain ⟨e0, e1, e3, e4, e5, e6, e7, e8, e9, e10⟩ := e2
  rw [hL, e5, e6, e7, e8]
  exact ⟨e0, e1, e3, e4, rfl, rfl, rfl, by rw [List.map_take], by rw [List.map_drop], e10⟩
set_option maxRecDepth 100000 in
set_option maxHeartbeats 8000000 in
theorem implCompletePackets_c (rb rs rh rt pb ps pc : Int) (Ap : Option Addr) (np cp : Nat) (free : List Int) (As : Option Addr) (ns cs : Nat) (L : List SentH) (next : Int) (q : TxV) (n : Int) (w : World) (hv : TxH.v (⟨rb, rs, rh, rt, pb, ps, pc, Ap, np, cp, free, As, ns, cs, L, next⟩ : TxH) = q) (hq : q.sz ≤ 1048576) (h1 : I64 q.rh) (h2 : I64 q.rt) (hcap1 : ns ≤ cs) (hcap2 : cs ≤ 9223372036854775807) (r : TxR w w.heap.size (⟨rb, rs, rh, rt, pb, ps, pc, Ap, np, cp, free, As, ns, cs, L, next⟩ : TxH)) :
    Calls Try.prog 11 #[.agg #[.int .i64 rb, .int .i64 rs, .int .i64 rh, .int .i64 rt, .int .i64 pb, .int .i64 ps, .int .i64 pc, .slice Ap np cp, .slice As ns cs, .int .i64 next], .int .i64 n] w fun e w' => ∃ (H' : TxH) (A : Option Addr) (c : Nat), e = .returned (.tuple #[.agg #[.int .i64 H'.rb, .int .i64 H'.rs, .int .i64 H'.rh, .int .i64 H'.rt, .int .i64 H'.pb, .int .i64 H'.ps, .int .i64 H'.pc, .slice H'.Ap H'.np H'.cp, .slice H'.As H'.ns H'.cs, .int .i64 H'.next], .slice A (compC q n).length c]) ∧ H'.v = compV q n ∧ TxO w' w.heap.size H' ∧ w'.ownsRow w.heap.size 3 1 (.slice A (compC q n).length c) (compC q n).length (ints (compC q n)) ∧ (∀ g, H'.blk g → (Value.slice A (compC q n).length c).ownBlock = some g → False) ∧ Below w.heap.size w w' := by
  have hLn : L.length = ns := r.2.1.1
  have hr2 := r.2.1.2
  have hi : InRd w w.heap.size L := r.2.2
  have hwl : q.wait.length = ns := by rw [← hv]; simp [TxH.v, hLn]
  have hz := r.sz hv
  dsimp only at hz hr2
  obtain ⟨i0, hi0, hI0, hI1, hI2⟩ := info_parts info_intT
  cases e1 : txB q
  · have hO : compOk q n = false := by simp [compOk, e1]
    obtain ⟨hF1, hF2⟩ : compV q n = q ∧ compC q n = [] := ⟨by rw [compV, if_neg (by rw [hO]; decide)], by rw [compC, if_neg (by rw [hO]; decide)]⟩
    rw [hF1, hF2]
    clear hF1 hF2
    have r_a := r
    go_enter Try.func11, Try.ntmps11
    go_wp2_with fail
    have k0 : Below w.heap.size w ((w.alloc (.cells #[.int .i64 rb, .int .i64 rs, .int .i64 rh, .int .i64 rt, .int .i64 pb, .int .i64 ps, .int .i64 pc, .slice Ap np cp, .slice As ns cs, .int .i64 next] 36)).alloc (.cells #[.int .i64 0, .int .i64 0, .int .i64 0, .int .i64 0, .int .i64 0, .int .i64 0, .int .i64 0, .slice none 0 0, .slice none 0 0, .int .i64 0] 36)) := by go_grown
    have bl0 : w.heap.size < ((w.alloc (.cells #[.int .i64 rb, .int .i64 rs, .int .i64 rh, .int .i64 rt, .int .i64 pb, .int .i64 ps, .int .i64 pc, .slice Ap np cp, .slice As ns cs, .int .i64 next] 36)).alloc (.cells #[.int .i64 0, .int .i64 0, .int .i64 0, .int .i64 0, .int .i64 0, .int .i64 0, .int .i64 0, .slice none 0 0, .slice none 0 0, .int .i64 0] 36)).heap.size := by go_size
    have hk0 : Blk ((w.alloc (.cells #[.int .i64 rb, .int .i64 rs, .int .i64 rh, .int .i64 rt, .int .i64 pb, .int .i64 ps, .int .i64 pc, .slice Ap np cp, .slice As ns cs, .int .i64 next] 36)).alloc (.cells #[.int .i64 0, .int .i64 0, .int .i64 0, .int .i64 0, .int .i64 0, .int .i64 0, .int .i64 0, .slice none 0 0, .slice none 0 0, .int .i64 0] 36)) (w.heap.size) 36 [.int .i64 rb, .int .i64 rs, .int .i64 rh, .int .i64 rt, .int .i64 pb, .int .i64 ps, .int .i64 pc, .slice Ap np cp, .slice As ns cs, .int .i64 next] := by simpa using (Blk.new w 36 [.int .i64 rb, .int .i64 rs, .int .i64 rh, .int .i64 rt, .int .i64 pb, .int .i64 ps, .int .i64 pc, .slice Ap np cp, .slice As ns cs, .int .i64 next]).alloc (.cells #[.int .i64 0, .int .i64 0, .int .i64 0, .int .i64 0, .int .i64 0, .int .i64 0, .int .i64 0, .slice none 0 0, .slice none 0 0, .int .i64 0] 36)
    have bl1 : w.heap.size + 1 < ((w.alloc (.cells #[.int .i64 rb, .int .i64 rs, .int .i64 rh, .int .i64 rt, .int .i64 pb, .int .i64 ps, .int .i64 pc, .slice Ap np cp, .slice As ns cs, .int .i64 next] 36)).alloc (.cells #[.int .i64 0, .int .i64 0, .int .i64 0, .int .i64 0, .int .i64 0, .int .i64 0, .int .i64 0, .slice none 0 0, .slice none 0 0, .int .i64 0] 36)).heap.size := by go_size
    have hk1 : Blk ((w.alloc (.cells #[.int .i64 rb, .int .i64 rs, .int .i64 rh, .int .i64 rt, .int .i64 pb, .int .i64 ps, .int .i64 pc, .slice Ap np cp, .slice As ns cs, .int .i64 next] 36)).alloc (.cells #[.int .i64 0, .int .i64 0, .int .i64 0, .int .i64 0, .int .i64 0, .int .i64 0, .int .i64 0, .slice none 0 0, .slice none 0 0, .int .i64 0] 36)) (w.heap.size + 1) 36 [.int .i64 0, .int .i64 0, .int .i64 0, .int .i64 0, .int .i64 0, .int .i64 0, .int .i64 0, .slice none 0 0, .slice none 0 0, .int .i64 0] := by simpa using Blk.new (w.alloc (.cells #[.int .i64 rb, .int .i64 rs, .int .i64 rh, .int .i64 rt, .int .i64 pb, .int .i64 ps, .int .i64 pc, .slice Ap np cp, .slice As ns cs, .int .i64 next] 36)) 36 [.int .i64 0, .int .i64 0, .int .i64 0, .int .i64 0, .int .i64 0, .int .i64 0, .int .i64 0, .slice none 0 0, .slice none 0 0, .int .i64 0]
    have r_a := r_a.below k0
    have p0 := k0.size
    generalize hW0 : ((w.alloc (.cells #[.int .i64 rb, .int .i64 rs, .int .i64 rh, .int .i64 rt, .int .i64 pb, .int .i64 ps, .int .i64 pc, .slice Ap np cp, .slice As ns cs, .int .i64 next] 36)).alloc (.cells #[.int .i64 0, .int .i64 0, .int .i64 0, .int .i64 0, .int .i64 0, .int .i64 0, .int .i64 0, .slice none 0 0, .slice none 0 0, .int .i64 0] 36)) = w0 at *
    clear hW0
    refine (copyTx2_c (⟨rb, rs, rh, rt, pb, ps, pc, Ap, np, cp, free, As, ns, cs, L, next⟩ : TxH) q _ hv hq (r_a.more (by omega))).mono ?_
    rintro e w1 ⟨H2, rfl, hv2, o2, hb⟩
    have k1 : Below w.heap.size w w1 := ext_step k0 (by omega) hb
    have p1 := hb.size
    replace hk0 := hk0.ext hb
    replace hk1 := hk1.ext hb
    have bl0 := Nat.lt_of_lt_of_le bl0 hb.size
    have bl1 := Nat.lt_of_lt_of_le bl1 hb.size
    replace r_a := r_a.below (hb.mono (by omega))
    clear hb
    replace o2 := o2.lower (base' := w.heap.size + 1 + 1) (by omega)
    have bx0_0 := hk0.at_ 0 _ rfl
    have bx0_1 := hk0.at_ 1 _ rfl
    have bx0_2 := hk0.at_ 2 _ rfl
    have bx0_3 := hk0.at_ 3 _ rfl
    have bx0_4 := hk0.at_ 4 _ rfl
    have bx0_5 := hk0.at_ 5 _ rfl
    have bx0_6 := hk0.at_ 6 _ rfl
    have bx0_7 := hk0.at_ 7 _ rfl
    have bx0_8 := hk0.at_ 8 _ rfl
    have bx0_9 := hk0.at_ 9 _ rfl
    go_wp2_with fail
    obtain ⟨w2, hW0⟩ : ∃ W, W = (w1.alloc (.cells #[.int .i64 H2.rb, .int .i64 H2.rs, .int .i64 H2.rh, .int .i64 H2.rt, .int .i64 H2.pb, .int .i64 H2.ps, .int .i64 H2.pc, .slice H2.Ap H2.np H2.cp, .slice H2.As H2.ns H2.cs, .int .i64 H2.next] 36)) := ⟨_, rfl⟩
    have hb : Below w1.heap.size w1 w2 := by rw [hW0]; go_grown
    have bl2 : w1.heap.size < w2.heap.size := by rw [hW0]; go_size
    have hk2 : Blk w2 (w1.heap.size) 36 [.int .i64 H2.rb, .int .i64 H2.rs, .int .i64 H2.rh, .int .i64 H2.rt, .int .i64 H2.pb, .int .i64 H2.ps, .int .i64 H2.pc, .slice H2.Ap H2.np H2.cp, .slice H2.As H2.ns H2.cs, .int .i64 H2.next] := by rw [hW0]; exact Blk.new _ _ _
    have hzb2 : Hid (w2.heap.size = w1.heap.size + 1) := by rw [hW0]; simp [Hid]
    rw [← hW0]
    clear hW0
    have k2 := ext_step k1 (by omega) hb
    have p2 := hb.size
    replace o2 := o2.ext hb
    replace hk0 := hk0.ext hb
    replace hk1 := hk1.ext hb
    clear bx0_0 bx0_1 bx0_2 bx0_3 bx0_4 bx0_5 bx0_6 bx0_7 bx0_8 bx0_9
    have bl0 := Nat.lt_of_lt_of_le bl0 hb.size
    have bl1 := Nat.lt_of_lt_of_le bl1 hb.size
    replace r_a := r_a.below (hb.mono (by omega))
    clear hb
    refine (calls_bool (implTx_c (⟨rb, rs, rh, rt, pb, ps, pc, Ap, np, cp, free, As, ns, cs, L, next⟩ : TxH) q _ hv hq h1 h2 (r_a.more (by omega))) e1).mono ?_
    rintro e w3 ⟨rfl, hb⟩
    have k3 : Below w.heap.size w w3 := ext_step k2 (by omega) hb
    have p3 := hb.size
    replace o2 := o2.ext hb
    replace hk0 := hk0.ext hb
    replace hk1 := hk1.ext hb
    replace hk2 := hk2.ext hb
    have bl0 := Nat.lt_of_lt_of_le bl0 hb.size
    have bl1 := Nat.lt_of_lt_of_le bl1 hb.size
    have bl2 := Nat.lt_of_lt_of_le bl2 hb.size
    replace r_a := r_a.below (hb.mono (by omega))
    clear hb
    have bx0_8 := hk0.at_ 8 _ rfl
    go_wp2_with (first | (go_at_call 28; refine (calls_bool (between_c _ _ _ _) (by assumption)).mono ?_; rintro e w_ ⟨rfl, rfl⟩) | (with_reducible_and_instances show wpList _ _ _ (⟨_, .load 36 (.tmp 6), _, _, _, _⟩ :: _) _ _; refine wpList_load_mid rfl _ _ rfl (w1.heap.size) 0 (by simp [go_sem]) [.int .i64 H2.rb, .int .i64 H2.rs, .int .i64 H2.rh, .int .i64 H2.rt, .int .i64 H2.pb, .int .i64 H2.ps, .int .i64 H2.pc, .slice H2.Ap H2.np H2.cp, .slice H2.As H2.ns H2.cs, .int .i64 H2.next] _ hk2.range Try.underlying36 rfl infoZ_Tx ?_) | (with_reducible_and_instances show wpList _ _ _ (⟨_, .store 36 (.tmp 4) (.tmp 23), _, _, _, _⟩ :: _) _ _; refine wpList_store_blk rfl _ _ _ rfl [.int .i64 H2.rb, .int .i64 H2.rs, .int .i64 H2.rh, .int .i64 H2.rt, .int .i64 H2.pb, .int .i64 H2.ps, .int .i64 H2.pc, .slice H2.Ap H2.np H2.cp, .slice H2.As H2.ns H2.cs, .int .i64 H2.next] hk1 (by simp [go_sem]) (by simp [go_sem]) rfl infoZ_Tx (oneQ _ _ _ _ _ _ _ _ _ _ _ _ _ _) ?_; intro W9 hk9 hc9))
    have hv9 := loadVar_blk (P := Try.prog) hk9 (n := 10) rfl (by simp [go_sem]) (by simp [go_sem])
    refine bodyPost_ret (v := .tuple #[.agg #[.int .i64 H2.rb, .int .i64 H2.rs, .int .i64 H2.rh, .int .i64 H2.rt, .int .i64 H2.pb, .int .i64 H2.ps, .int .i64 H2.pc, .slice H2.Ap H2.np H2.cp, .slice H2.As H2.ns H2.cs, .int .i64 H2.next], .slice none 0 0]) (by simp [results, Try.results11, Act.put, asAddr, Result.andThen, hv9]) rfl ?_
    exact ⟨H2, none, 0, rfl, hv2, (o2.chgA hc9 (by omega)).lower (by omega), own_nil _ _ _ _, (fun _ _ h => by cases h), hc9.below (by omega) k3⟩
  cases e2 : inB n 0 ns
  · have hO : compOk q n = false := by simp [compOk, hwl, e2]
    obtain ⟨hF1, hF2⟩ : compV q n = q ∧ compC q n = [] := ⟨by rw [compV, if_neg (by rw [hO]; decide)], by rw [compC, if_neg (by rw [hO]; decide)]⟩
    rw [hF1, hF2]
    clear hF1 hF2
    have r_a := r
    go_enter Try.func11, Try.ntmps11
    go_wp2_with fail
    have k0 : Below w.heap.size w ((w.alloc (.cells #[.int .i64 rb, .int .i64 rs, .int .i64 rh, .int .i64 rt, .int .i64 pb, .int .i64 ps, .int .i64 pc, .slice Ap np cp, .slice As ns cs, .int .i64 next] 36)).alloc (.cells #[.int .i64 0, .int .i64 0, .int .i64 0, .int .i64 0, .int .i64 0, .int .i64 0, .int .i64 0, .slice none 0 0, .slice none 0 0, .int .i64 0] 36)) := by go_grown
    have bl0 : w.heap.size < ((w.alloc (.cells #[.int .i64 rb, .int .i64 rs, .int .i64 rh, .int .i64 rt, .int .i64 pb, .int .i64 ps, .int .i64 pc, .slice Ap np cp, .slice As ns cs, .int .i64 next] 36)).alloc (.cells #[.int .i64 0, .int .i64 0, .int .i64 0, .int .i64 0, .int .i64 0, .int .i64 0, .int .i64 0, .slice none 0 0, .slice none 0 0, .int .i64 0] 36)).heap.size := by go_size
    have hk0 : Blk ((w.alloc (.cells #[.int .i64 rb, .int .i64 rs, .int .i64 rh, .int .i64 rt, .int .i64 pb, .int .i64 ps, .int .i64 pc, .slice Ap np cp, .slice As ns cs, .int .i64 next] 36)).alloc (.cells #[.int .i64 0, .int .i64 0, .int .i64 0, .int .i64 0, .int .i64 0, .int .i64 0, .int .i64 0, .slice none 0 0, .slice none 0 0, .int .i64 0] 36)) (w.heap.size) 36 [.int .i64 rb, .int .i64 rs, .int .i64 rh, .int .i64 rt, .int .i64 pb, .int .i64 ps, .int .i64 pc, .slice Ap np cp, .slice As ns cs, .int .i64 next] := by simpa using (Blk.new w 36 [.int .i64 rb, .int .i64 rs, .int .i64 rh, .int .i64 rt, .int .i64 pb, .int .i64 ps, .int .i64 pc, .slice Ap np cp, .slice As ns cs, .int .i64 next]).alloc (.cells #[.int .i64 0, .int .i64 0, .int .i64 0, .int .i64 0, .int .i64 0, .int .i64 0, .int .i64 0, .slice none 0 0, .slice none 0 0, .int .i64 0] 36)
    have bl1 : w.heap.size + 1 < ((w.alloc (.cells #[.int .i64 rb, .int .i64 rs, .int .i64 rh, .int .i64 rt, .int .i64 pb, .int .i64 ps, .int .i64 pc, .slice Ap np cp, .slice As ns cs, .int .i64 next] 36)).alloc (.cells #[.int .i64 0, .int .i64 0, .int .i64 0, .int .i64 0, .int .i64 0, .int .i64 0, .int .i64 0, .slice none 0 0, .slice none 0 0, .int .i64 0] 36)).heap.size := by go_size
    have hk1 : Blk ((w.alloc (.cells #[.int .i64 rb, .int .i64 rs, .int .i64 rh, .int .i64 rt, .int .i64 pb, .int .i64 ps, .int .i64 pc, .slice Ap np cp, .slice As ns cs, .int .i64 next] 36)).alloc (.cells #[.int .i64 0, .int .i64 0, .int .i64 0, .int .i64 0, .int .i64 0, .int .i64 0, .int .i64 0, .slice none 0 0, .slice none 0 0, .int .i64 0] 36)) (w.heap.size + 1) 36 [.int .i64 0, .int .i64 0, .int .i64 0, .int .i64 0, .int .i64 0, .int .i64 0, .int .i64 0, .slice none 0 0, .slice none 0 0, .int .i64 0] := by simpa using Blk.new (w.alloc (.cells #[.int .i64 rb, .int .i64 rs, .int .i64 rh, .int .i64 rt, .int .i64 pb, .int .i64 ps, .int .i64 pc, .slice Ap np cp, .slice As ns cs, .int .i64 next] 36)) 36 [.int .i64 0, .int .i64 0, .int .i64 0, .int .i64 0, .int .i64 0, .int .i64 0, .int .i64 0, .slice none 0 0, .slice none 0 0, .int .i64 0]
    have r_a := r_a.below k0
    have p0 := k0.size
    generalize hW0 : ((w.alloc (.cells #[.int .i64 rb, .int .i64 rs, .int .i64 rh, .int .i64 rt, .int .i64 pb, .int .i64 ps, .int .i64 pc, .slice Ap np cp, .slice As ns cs, .int .i64 next] 36)).alloc (.cells #[.int .i64 0, .int .i64 0, .int .i64 0, .int .i64 0, .int .i64 0, .int .i64 0, .int .i64 0, .slice none 0 0, .slice none 0 0, .int .i64 0] 36)) = w0 at *
    clear hW0
    refine (copyTx2_c (⟨rb, rs, rh, rt, pb, ps, pc, Ap, np, cp, free, As, ns, cs, L, next⟩ : TxH) q _ hv hq (r_a.more (by omega))).mono ?_
    rintro e w1 ⟨H2, rfl, hv2, o2, hb⟩
    have k1 : Below w.heap.size w w1 := ext_step k0 (by omega) hb
    have p1 := hb.size
    replace hk0 := hk0.ext hb
    replace hk1 := hk1.ext hb
    have bl0 := Nat.lt_of_lt_of_le bl0 hb.size
    have bl1 := Nat.lt_of_lt_of_le bl1 hb.size
    replace r_a := r_a.below (hb.mono (by omega))
    clear hb
    replace o2 := o2.lower (base' := w.heap.size + 1 + 1) (by omega)
    have bx0_0 := hk0.at_ 0 _ rfl
    have bx0_1 := hk0.at_ 1 _ rfl
    have bx0_2 := hk0.at_ 2 _ rfl
    have bx0_3 := hk0.at_ 3 _ rfl
    have bx0_4 := hk0.at_ 4 _ rfl
    have bx0_5 := hk0.at_ 5 _ rfl
    have bx0_6 := hk0.at_ 6 _ rfl
    have bx0_7 := hk0.at_ 7 _ rfl
    have bx0_8 := hk0.at_ 8 _ rfl
    have bx0_9 := hk0.at_ 9 _ rfl
    go_wp2_with fail
    obtain ⟨w2, hW0⟩ : ∃ W, W = (w1.alloc (.cells #[.int .i64 H2.rb, .int .i64 H2.rs, .int .i64 H2.rh, .int .i64 H2.rt, .int .i64 H2.pb, .int .i64 H2.ps, .int .i64 H2.pc, .slice H2.Ap H2.np H2.cp, .slice H2.As H2.ns H2.cs, .int .i64 H2.next] 36)) := ⟨_, rfl⟩
    have hb : Below w1.heap.size w1 w2 := by rw [hW0]; go_grown
    have bl2 : w1.heap.size < w2.heap.size := by rw [hW0]; go_size
    have hk2 : Blk w2 (w1.heap.size) 36 [.int .i64 H2.rb, .int .i64 H2.rs, .int .i64 H2.rh, .int .i64 H2.rt, .int .i64 H2.pb, .int .i64 H2.ps, .int .i64 H2.pc, .slice H2.Ap H2.np H2.cp, .slice H2.As H2.ns H2.cs, .int .i64 H2.next] := by rw [hW0]; exact Blk.new _ _ _
    have hzb2 : Hid (w2.heap.size = w1.heap.size + 1) := by rw [hW0]; simp [Hid]
    rw [← hW0]
    clear hW0
    have k2 := ext_step k1 (by omega) hb
    have p2 := hb.size
    replace o2 := o2.ext hb
    replace hk0 := hk0.ext hb
    replace hk1 := hk1.ext hb
    clear bx0_0 bx0_1 bx0_2 bx0_3 bx0_4 bx0_5 bx0_6 bx0_7 bx0_8 bx0_9
    have bl0 := Nat.lt_of_lt_of_le bl0 hb.size
    have bl1 := Nat.lt_of_lt_of_le bl1 hb.size
    replace r_a := r_a.below (hb.mono (by omega))
    clear hb
    refine (calls_bool (implTx_c (⟨rb, rs, rh, rt, pb, ps, pc, Ap, np, cp, free, As, ns, cs, L, next⟩ : TxH) q _ hv hq h1 h2 (r_a.more (by omega))) e1).mono ?_
    rintro e w3 ⟨rfl, hb⟩
    have k3 : Below w.heap.size w w3 := ext_step k2 (by omega) hb
    have p3 := hb.size
    replace o2 := o2.ext hb
    replace hk0 := hk0.ext hb
    replace hk1 := hk1.ext hb
    replace hk2 := hk2.ext hb
    have bl0 := Nat.lt_of_lt_of_le bl0 hb.size
    have bl1 := Nat.lt_of_lt_of_le bl1 hb.size
    have bl2 := Nat.lt_of_lt_of_le bl2 hb.size
    replace r_a := r_a.below (hb.mono (by omega))
    clear hb
    have bx0_8 := hk0.at_ 8 _ rfl
    go_wp2_with (first | (go_at_call 28; refine (calls_bool (between_c _ _ _ _) (by assumption)).mono ?_; rintro e w_ ⟨rfl, rfl⟩) | (with_reducible_and_instances show wpList _ _ _ (⟨_, .load 36 (.tmp 6), _, _, _, _⟩ :: _) _ _; refine wpList_load_mid rfl _ _ rfl (w1.heap.size) 0 (by simp [go_sem]) [.int .i64 H2.rb, .int .i64 H2.rs, .int .i64 H2.rh, .int .i64 H2.rt, .int .i64 H2.pb, .int .i64 H2.ps, .int .i64 H2.pc, .slice H2.Ap H2.np H2.cp, .slice H2.As H2.ns H2.cs, .int .i64 H2.next] _ hk2.range Try.underlying36 rfl infoZ_Tx ?_) | (with_reducible_and_instances show wpList _ _ _ (⟨_, .store 36 (.tmp 4) (.tmp 23), _, _, _, _⟩ :: _) _ _; refine wpList_store_blk rfl _ _ _ rfl [.int .i64 H2.rb, .int .i64 H2.rs, .int .i64 H2.rh, .int .i64 H2.rt, .int .i64 H2.pb, .int .i64 H2.ps, .int .i64 H2.pc, .slice H2.Ap H2.np H2.cp, .slice H2.As H2.ns H2.cs, .int .i64 H2.next] hk1 (by simp [go_sem]) (by simp [go_sem]) rfl infoZ_Tx (oneQ _ _ _ _ _ _ _ _ _ _ _ _ _ _) ?_; intro W9 hk9 hc9))
    have hv9 := loadVar_blk (P := Try.prog) hk9 (n := 10) rfl (by simp [go_sem]) (by simp [go_sem])
    refine bodyPost_ret (v := .tuple #[.agg #[.int .i64 H2.rb, .int .i64 H2.rs, .int .i64 H2.rh, .int .i64 H2.rt, .int .i64 H2.pb, .int .i64 H2.ps, .int .i64 H2.pc, .slice H2.Ap H2.np H2.cp, .slice H2.As H2.ns H2.cs, .int .i64 H2.next], .slice none 0 0]) (by simp [results, Try.results11, Act.put, asAddr, Result.andThen, hv9]) rfl ?_
    exact ⟨H2, none, 0, rfl, hv2, (o2.chgA hc9 (by omega)).lower (by omega), own_nil _ _ _ _, (fun _ _ h => by cases h), hc9.below (by omega) k3⟩
  have hO : compOk q n = true := by simp [compOk, e1, hwl, e2]
  obtain ⟨hn0, hn1⟩ := inB_t e2
  obtain ⟨nn, rfl⟩ := Int.eq_ofNat_of_zero_le hn0
  have hnn : nn ≤ ns := by omega
  obtain ⟨hF1, hF2⟩ := compOk_at (n := nn) hO
  rw [hF2]
  have r_a := r
  go_enter Try.func11, Try.ntmps11
  go_wp2_with fail
  have k0 : Below w.heap.size w ((w.alloc (.cells #[.int .i64 rb, .int .i64 rs, .int .i64 rh, .int .i64 rt, .int .i64 pb, .int .i64 ps, .int .i64 pc, .slice Ap np cp, .slice As ns cs, .int .i64 next] 36)).alloc (.cells #[.int .i64 0, .int .i64 0, .int .i64 0, .int .i64 0, .int .i64 0, .int .i64 0, .int .i64 0, .slice none 0 0, .slice none 0 0, .int .i64 0] 36)) := by go_grown
  have bl0 : w.heap.size < ((w.alloc (.cells #[.int .i64 rb, .int .i64 rs, .int .i64 rh, .int .i64 rt, .int .i64 pb, .int .i64 ps, .int .i64 pc, .slice Ap np cp, .slice As ns cs, .int .i64 next] 36)).alloc (.cells #[.int .i64 0, .int .i64 0, .int .i64 0, .int .i64 0, .int .i64 0, .int .i64 0, .int .i64 0, .slice none 0 0, .slice none 0 0, .int .i64 0] 36)).heap.size := by go_size
  have hk0 : Blk ((w.alloc (.cells #[.int .i64 rb, .int .i64 rs, .int .i64 rh, .int .i64 rt, .int .i64 pb, .int .i64 ps, .int .i64 pc, .slice Ap np cp, .slice As ns cs, .int .i64 next] 36)).alloc (.cells #[.int .i64 0, .int .i64 0, .int .i64 0, .int .i64 0, .int .i64 0, .int .i64 0, .int .i64 0, .slice none 0 0, .slice none 0 0, .int .i64 0] 36)) (w.heap.size) 36 [.int .i64 rb, .int .i64 rs, .int .i64 rh, .int .i64 rt, .int .i64 pb, .int .i64 ps, .int .i64 pc, .slice Ap np cp, .slice As ns cs, .int .i64 next] := by simpa using (Blk.new w 36 [.int .i64 rb, .int .i64 rs, .int .i64 rh, .int .i64 rt, .int .i64 pb, .int .i64 ps, .int .i64 pc, .slice Ap np cp, .slice As ns cs, .int .i64 next]).alloc (.cells #[.int .i64 0, .int .i64 0, .int .i64 0, .int .i64 0, .int .i64 0, .int .i64 0, .int .i64 0, .slice none 0 0, .slice none 0 0, .int .i64 0] 36)
  have bl1 : w.heap.size + 1 < ((w.alloc (.cells #[.int .i64 rb, .int .i64 rs, .int .i64 rh, .int .i64 rt, .int .i64 pb, .int .i64 ps, .int .i64 pc, .slice Ap np cp, .slice As ns cs, .int .i64 next] 36)).alloc (.cells #[.int .i64 0, .int .i64 0, .int .i64 0, .int .i64 0, .int .i64 0, .int .i64 0, .int .i64 0, .slice none 0 0, .slice none 0 0, .int .i64 0] 36)).heap.size := by go_size
  have hk1 : Blk ((w.alloc (.cells #[.int .i64 rb, .int .i64 rs, .int .i64 rh, .int .i64 rt, .int .i64 pb, .int .i64 ps, .int .i64 pc, .slice Ap np cp, .slice As ns cs, .int .i64 next] 36)).alloc (.cells #[.int .i64 0, .int .i64 0, .int .i64 0, .int .i64 0, .int .i64 0, .int .i64 0, .int .i64 0, .slice none 0 0, .slice none 0 0, .int .i64 0] 36)) (w.heap.size + 1) 36 [.int .i64 0, .int .i64 0, .int .i64 0, .int .i64 0, .int .i64 0, .int .i64 0, .int .i64 0, .slice none 0 0, .slice none 0 0, .int .i64 0] := by simpa using Blk.new (w.alloc (.cells #[.int .i64 rb, .int .i64 rs, .int .i64 rh, .int .i64 rt, .int .i64 pb, .int .i64 ps, .int .i64 pc, .slice Ap np cp, .slice As ns cs, .int .i64 next] 36)) 36 [.int .i64 0, .int .i64 0, .int .i64 0, .int .i64 0, .int .i64 0, .int .i64 0, .int .i64 0, .slice none 0 0, .slice none 0 0, .int .i64 0]
  have r_a := r_a.below k0
  have p0 := k0.size
  generalize hW0 : ((w.alloc (.cells #[.int .i64 rb, .int .i64 rs, .int .i64 rh, .int .i64 rt, .int .i64 pb, .int .i64 ps, .int .i64 pc, .slice Ap np cp, .slice As ns cs, .int .i64 next] 36)).alloc (.cells #[.int .i64 0, .int .i64 0, .int .i64 0, .int .i64 0, .int .i64 0, .int .i64 0, .int .i64 0, .slice none 0 0, .slice none 0 0, .int .i64 0] 36)) = w0 at *
  clear hW0
  refine (copyTx2_c (⟨rb, rs, rh, rt, pb, ps, pc, Ap, np, cp, free, As, ns, cs, L, next⟩ : TxH) q _ hv hq (r_a.more (by omega))).mono ?_
  rintro e w1 ⟨H2, rfl, hv2, o2, hb⟩
  have k1 : Below w.heap.size w w1 := ext_step k0 (by omega) hb
  have p1 := hb.size
  replace hk0 := hk0.ext hb
  replace hk1 := hk1.ext hb
  have bl0 := Nat.lt_of_lt_of_le bl0 hb.size
  have bl1 := Nat.lt_of_lt_of_le bl1 hb.size
  replace r_a := r_a.below (hb.mono (by omega))
  clear hb
  replace o2 := o2.lower (base' := w.heap.size + 1 + 1) (by omega)
  have bx0_0 := hk0.at_ 0 _ rfl
  have bx0_1 := hk0.at_ 1 _ rfl
  have bx0_2 := hk0.at_ 2 _ rfl
  have bx0_3 := hk0.at_ 3 _ rfl
  have bx0_4 := hk0.at_ 4 _ rfl
  have bx0_5 := hk0.at_ 5 _ rfl
  have bx0_6 := hk0.at_ 6 _ rfl
  have bx0_7 := hk0.at_ 7 _ rfl
  have bx0_8 := hk0.at_ 8 _ rfl
  have bx0_9 := hk0.at_ 9 _ rfl
  go_wp2_with fail
  obtain ⟨w2, hW0⟩ : ∃ W, W = (w1.alloc (.cells #[.int .i64 H2.rb, .int .i64 H2.rs, .int .i64 H2.rh, .int .i64 H2.rt, .int .i64 H2.pb, .int .i64 H2.ps, .int .i64 H2.pc, .slice H2.Ap H2.np H2.cp, .slice H2.As H2.ns H2.cs, .int .i64 H2.next] 36)) := ⟨_, rfl⟩
  have hb : Below w1.heap.size w1 w2 := by rw [hW0]; go_grown
  have bl2 : w1.heap.size < w2.heap.size := by rw [hW0]; go_size
  have hk2 : Blk w2 (w1.heap.size) 36 [.int .i64 H2.rb, .int .i64 H2.rs, .int .i64 H2.rh, .int .i64 H2.rt, .int .i64 H2.pb, .int .i64 H2.ps, .int .i64 H2.pc, .slice H2.Ap H2.np H2.cp, .slice H2.As H2.ns H2.cs, .int .i64 H2.next] := by rw [hW0]; exact Blk.new _ _ _
  have hzb2 : Hid (w2.heap.size = w1.heap.size + 1) := by rw [hW0]; simp [Hid]
  rw [← hW0]
  clear hW0
  have k2 := ext_step k1 (by omega) hb
  have p2 := hb.size
  replace o2 := o2.ext hb
  replace hk0 := hk0.ext hb
  replace hk1 := hk1.ext hb
  clear bx0_0 bx0_1 bx0_2 bx0_3 bx0_4 bx0_5 bx0_6 bx0_7 bx0_8 bx0_9
  have bl0 := Nat.lt_of_lt_of_le bl0 hb.size
  have bl1 := Nat.lt_of_lt_of_le bl1 hb.size
  replace r_a := r_a.below (hb.mono (by omega))
  clear hb
  refine (calls_bool (implTx_c (⟨rb, rs, rh, rt, pb, ps, pc, Ap, np, cp, free, As, ns, cs, L, next⟩ : TxH) q _ hv hq h1 h2 (r_a.more (by omega))) e1).mono ?_
  rintro e w3 ⟨rfl, hb⟩
  have k3 : Below w.heap.size w w3 := ext_step k2 (by omega) hb
  have p3 := hb.size
  replace o2 := o2.ext hb
  replace hk0 := hk0.ext hb
  replace hk1 := hk1.ext hb
  replace hk2 := hk2.ext hb
  have bl0 := Nat.lt_of_lt_of_le bl0 hb.size
  have bl1 := Nat.lt_of_lt_of_le bl1 hb.size
  have bl2 := Nat.lt_of_lt_of_le bl2 hb.size
  replace r_a := r_a.below (hb.mono (by omega))
  clear hb
  have bx0_8 := hk0.at_ 8 _ rfl
  clear r_a
  go_wp2_with (go_at_call 28; refine (calls_bool (between_c _ _ _ _) (by assumption)).mono ?_; rintro e w_ ⟨rfl, rfl⟩)
  obtain ⟨b2, hB2⟩ : ∃ b, b = w1.heap.size := ⟨_, rfl⟩
  rw [← hB2] at hk2 ⊢
  have hfr : H2.free = free := congrArg TxV.free (hv2.trans hv.symm)
  have hfn : H2.free.length = np := by rw [hfr]; exact r.1.1
  clear hfr
  have hle2 : w.heap.size + 1 < b2 ∧ b2 < w3.heap.size := ⟨by omega, hk2.lt⟩
  clear hB2
  have hlen : ∀ k, k ≤ nn → (((L.take k).map SentH.v).map (fun x => x.cookie)).length = k := fun k hk => by simp [List.length_take, hLn]; omega
  go_loopw [7, 30] (fun ck i wr => ∃ (k m : Nat) (Af : Option Addr) (cf : Nat) (Ac : Option Addr) (cc : Nat), k ≤ nn ∧ i = .int .i64 k ∧ ck = .slice Ac k cc ∧ Below w.heap.size w wr ∧ Blk wr w.heap.size 36 [.int .i64 rb, .int .i64 rs, .int .i64 rh, .int .i64 rt, .int .i64 pb, .int .i64 ps, .int .i64 pc, .slice Ap np cp, .slice As ns cs, .int .i64 next] ∧ Blk wr (w.heap.size + 1) 36 [.int .i64 0, .int .i64 0, .int .i64 0, .int .i64 0, .int .i64 0, .int .i64 0, .int .i64 0, .slice none 0 0, .slice none 0 0, .int .i64 0] ∧ Blk wr b2 36 [.int .i64 H2.rb, .int .i64 H2.rs, .int .i64 H2.rh, .int .i64 H2.rt, .int .i64 H2.pb, .int .i64 H2.ps, .int .i64 H2.pc, .slice Af m cf, .slice H2.As H2.ns H2.cs, .int .i64 H2.next] ∧ Hid (m = (giveL H2.pb H2.ps H2.pc H2.free ((L.take k).map SentH.v)).length) ∧ wr.ownsRow (w.heap.size + 1 + 1) 3 1 (.slice Af m cf) m (ints (giveL H2.pb H2.ps H2.pc H2.free ((L.take k).map SentH.v))) ∧ wr.ownsRow (w.heap.size + 1 + 1) 3 1 (.slice Ac k cc) k (ints (((L.take k).map SentH.v).map (fun x => x.cookie))) ∧ Hid (∀ g, (Value.slice Af m cf).ownBlock = some g → (Value.slice Ac k cc).ownBlock = some g → False)) (fun _ i _ => nn - (intOf i).toNat)
  case atStart =>
    have hap0 : Hid (∀ g, (Value.slice H2.Ap H2.np H2.cp).ownBlock = some g → (Value.slice (some ⟨w3.heap.size, 0, none⟩) 0 0).ownBlock = some g → False) := by
      intro g e5 e6
      have h3 := (o2.lt (.inl e5)).2
      have h4 : w3.heap.size = g := by simpa [Value.ownBlock] using e6
      omega
    exact ⟨0, H2.np, H2.Ap, H2.cp, _, 0, Nat.zero_le _, rfl, rfl, by go_grown, hk0.alloc _, hk1.alloc _, hk2.alloc _, o2.1.1.symm, (o2.alloc _).1.2, own_empty (Blk.new _ _ []) (by omega), hap0⟩
  case round =>
    obtain ⟨k, m, Af, cf, Ac, cc, hk, rfl, rfl, hbw, hb0, hb1, hb2, hml, op, oc, hap⟩ := hrel
    have hsz := hbw.size
    have hl2 := hb2.lt
    have hml := hml.out.symm
    have up := fun g hg => (op.lt g hg).2
    have uc := fun g hg => (oc.lt g hg).2
    by_cases hlt : k < nn
    · skip
      obtain ⟨b, o, x, rfl, hbl, hx, hc⟩ := hr2.el (fun _ => rfl) (by decide) hLn (show k < ns by omega)
      have hR : wr.rangeAt b (o + k * 3) [.int .i64 x.cookie, .int .i64 x.slots, .slice x.A x.n x.c] := range_below hc hbw hbl
      have hxm := List.mem_of_getElem? hx
      have hxn := totB_mem hxm
      have hxr := (hi x hxm).2
      have hxl := (hi x hxm).1
      have hgl := giveL_len (pb := H2.pb) (ps := H2.ps) (pc := H2.pc) (fr := H2.free) hi k
      have htt := totB_take L k
      have hgn := giveL_next (pb := H2.pb) (ps := H2.ps) (pc := H2.pc) (fr := H2.free) hx
      have hcn := cook_next hx
      have HGN := Lib.hid hgn
      have HCN := Lib.hid hcn
      clear hx hc hgn hcn
      go_wp2_with (first | (with_reducible_and_instances show wpList _ _ _ (⟨_, .load 52 (.tmp 32), _, _, _, _⟩ :: _) _ _; refine wpList_load_mid rfl _ _ rfl _ _ (by simp [go_sem]) [.int .i64 x.cookie, .int .i64 x.slots, .slice x.A x.n x.c] _ hR Try.underlying52 rfl infoZ_Sent ?_) | (with_reducible_and_instances show wpList _ _ _ (⟨_, .store 52 (.tmp 9) (.tmp 33), _, _, _, _⟩ :: _) _ _; refine wpList_store_new (w := wr) (t := 52) (zs := [.int .i64 0, .int .i64 0, .slice none 0 0]) rfl _ _ _ rfl [.int .i64 x.cookie, .int .i64 x.slots, .slice x.A x.n x.c] (by simp [go_sem]) (by simp [go_sem]) rfl infoZ_Sent (oneS x) ?_; intro W1 hkr hbW hs1; have kW : Below w.heap.size w W1 := ext_step hbw hsz hbW; have s0 := hkr.at_ 0 _ rfl; have s2 := hkr.at_ 2 _ rfl; have hb01 := hb0.ext hbW; have hb11 := hb1.ext hbW; have hb21 := hb2.ext hbW; have f4 := hb21.at_ 4 _ rfl; have f5 := hb21.at_ 5 _ rfl; have f6 := hb21.at_ 6 _ rfl; have f7 := hb21.at_ 7 _ rfl; have op1 := own_ext op hbW; have oc1 := own_ext oc hbW; have hsrc := hxr.to kW; clear hR) | (go_at_call 29; refine (implGiveBuffers_c _ _ _ _ _ _ _ _ _ (giveL H2.pb H2.ps H2.pc H2.free ((L.take k).map SentH.v)) x.bufs _ hml hxl (by omega) (by omega) (Reads.of_own op1) hsrc).mono ?_; rintro e w2_ ⟨A5, c5, rfl, o5, hg5⟩; have kG : Below w.heap.size w w2_ := ext_step kW kW.size hg5; have hkr2 := hkr.ext hg5; have s0 := hkr2.at_ 0 _ rfl; have hb02 := hb01.ext hg5; have hb12 := hb11.ext hg5; have hb22 := hb21.ext hg5; have oc2 := own_ext oc1 hg5; have u5 := fun g hg => (o5.lt g hg).1; have v5 := fun g hg => (o5.lt g hg).2; have hs5 := hg5.size; clear f4 f5 f6 f7 hg5) | (with_reducible_and_instances show wpList _ _ _ (⟨_, .store 33 (.tmp 42) (.tmp 40), _, _, _, _⟩ :: _) _ _; refine wpList_store_part rfl _ _ _ rfl 4 [.int .i64 H2.pb, .int .i64 H2.ps, .int .i64 H2.pc, .slice A5 (gvF H2.pb H2.ps H2.pc (giveL H2.pb H2.ps H2.pc H2.free ((L.take k).map SentH.v)) x.bufs).length c5] hb22 (by simp [go_sem]) (by simp [go_sem]) (by simp) infoZ_Pool (oneP4 _ _ _ _ _ _) ?_; intro W3 hb23 hc3; have kS : Below w.heap.size w W3 := hc3.below (by omega) kG; have hkr3 := hkr2.chgA hc3 (by omega); have s0 := hkr3.at_ 0 _ rfl; have hb03 := hb02.chgA hc3 (by omega); have hb13 := hb12.chgA hc3 (by omega); have oc3 := own_chgA oc2 hc3 (own_ty oc2 hb22 (by decide)); have o53 := own_chgA o5 hc3 (own_ty o5 hb22 (by decide)); have hs3 := Nat.le_of_eq hc3.size; have hs3b := Nat.le_of_eq hc3.size.symm) | (at_builtin; refine wpList_append_any _ rfl _ _ 24 rfl (w.heap.size + 1 + 1) 3 i0 (.int .i64 0) 1 8 Try.underlying24 hi0 hI0 hI1 hI2 rfl (by decide) _ _ _ rfl (oc3.alloc _) (W3.heap.size + 1) _ 1 1 [.int .i64 x.cookie] rfl (new_readsS _ _ _ rfl) (by intro u hu; simp only [List.mem_cons, List.not_mem_nil, or_false] at hu; subst hu; rfl) (by unfold maxLen; omega) (by omega) (by simp only [World.size_alloc]; omega) ?_; intro v4 w4_ hown4 hg4 hat4))
      have k4 : Below w.heap.size w w4_ := below_app (kS.alloc kS.size _) (own_base (oc3.alloc _) (by omega)) hg4 (by simp only [World.size_alloc]; omega)
      have hb04 := Blk.grow (hb03.alloc _) (oc3.alloc _) hg4 (by decide)
      have hb14 := Blk.grow (hb13.alloc _) (oc3.alloc _) hg4 (by decide)
      have hb24 := Blk.grow (hb23.alloc _) (oc3.alloc _) hg4 (by decide)
      have o54 := own_far (o53.alloc _) hg4 (fun g h1 h2 => by have := u5 g h1; have := uc g h2; omega)
      have o55 := own_base o54 (base' := w.heap.size + 1 + 1) (by omega)
      have hap4 : ∀ g, (Value.slice A5 (gvF H2.pb H2.ps H2.pc (giveL H2.pb H2.ps H2.pc H2.free ((L.take k).map SentH.v)) x.bufs).length c5).ownBlock = some g → v4.ownBlock = some g → False := by
        intro g h1 h2
        have h3 := u5 g h1
        have h4 := v5 g h1
        rcases hat4 with h5 | h5
        · rw [h5] at h2; have := uc g h2; omega
        · rw [h5] at h2; injection h2 with h2; simp only [World.size_alloc] at h2; omega
      obtain ⟨A4, c4, rfl, _, _, _⟩ := own_form hown4
      have hown4 : w4_.ownsRow (w.heap.size + 1 + 1) 3 1 (.slice A4 (k + 1) c4) (k + 1) (ints (((L.take (k + 1)).map SentH.v).map (fun x => x.cookie))) := by rw [HCN.out, ints_app]; exact hown4
      rw [← HGN.out] at o55 hap4 hb24
      go_roundw
      case rel => exact ⟨k + 1, _, A5, c5, A4, c4, by omega, by go_num, rfl, k4, hb04, hb14, hb24, rfl, o55, hown4, hap4⟩
      case measure => simp [intOf]; omega
    · skip
      have hkn : k = nn := by omega
      subst hkn
      have p8 := hb0.at_ 8 _ rfl
      have hsrc := (hr2.to hbw).cut (k := k) (by omega) hcap1
      have hcap3 : (ns : Int) ≤ (cs : Int) := by omega
      have hkn2 : (k : Int) ≤ (ns : Int) := by omega
      have hdl : (L.drop k).length = ns - k := by rw [List.length_drop, hLn]
      have htd : totB (L.drop k) ≤ 1048576 := by have h9 := totB_app (L.take k) (L.drop k); rw [List.take_append_drop] at h9; omega
      rw [← flat_dropS] at hsrc
      by_cases hc : cs = k
      all_goals
        first
          | rw [if_pos hc] at hsrc
          | rw [if_neg hc] at hsrc
        go_wp2_with (first | (go_at_call 35; refine (copySent_c _ _ _ (L.drop k) _ hdl (by omega) htd hsrc ((hi.sub fun y hy => List.mem_of_mem_drop hy).to hbw)).mono ?_; rintro e w5_ ⟨A6, c6, L6, rfl, hL6, o6, iO6, hb6⟩; have k5 : Below w.heap.size w w5_ := ext_step hbw hsz hb6; have hb05 := hb0.ext hb6; have hb15 := hb1.ext hb6; have hb25 := hb2.ext hb6; have op5 := own_ext op hb6; have oc5 := own_ext oc hb6; have f8 := hb25.at_ 8 _ rfl; have e8 := hb25.frozen 8; have hl25 := hb25.lt; have hs6 := hb6.size; have hc6 := (ChgA.refl b2 w5_).set 8 (.slice A6 (ns - k) c6); have hb26 := hb25.set_ 8 (.slice A6 (ns - k) c6); clear hb6) | (with_reducible_and_instances show wpList _ _ _ (⟨_, .load 36 (.tmp 6), _, _, _, _⟩ :: _) _ _; refine wpList_load_mid rfl _ _ rfl b2 0 (by simp [go_sem]) [.int .i64 H2.rb, .int .i64 H2.rs, .int .i64 H2.rh, .int .i64 H2.rt, .int .i64 H2.pb, .int .i64 H2.ps, .int .i64 H2.pc, .slice Af m cf, .slice A6 (ns - k) c6, .int .i64 H2.next] _ (Blk.range hb26) Try.underlying36 rfl infoZ_Tx ?_) | (with_reducible_and_instances show wpList _ _ _ (⟨_, .store 36 (.tmp 4) (.tmp 55), _, _, _, _⟩ :: _) _ _; refine wpList_store_blk rfl _ _ _ rfl [.int .i64 H2.rb, .int .i64 H2.rs, .int .i64 H2.rh, .int .i64 H2.rt, .int .i64 H2.pb, .int .i64 H2.ps, .int .i64 H2.pc, .slice Af m cf, .slice A6 (ns - k) c6, .int .i64 H2.next] (Blk.chgA hb15 hc6 (by omega)) (by simp [go_sem]) (by simp [go_sem]) rfl infoZ_Tx (oneQ _ _ _ _ _ _ _ _ _ _ _ _ _ _) ?_; intro W9 hk9 hc9))
        have hv9 := loadVar_blk (P := Try.prog) hk9 (n := 10) rfl (by simp [go_sem]) (by simp [go_sem])
        refine bodyPost_ret (v := .tuple #[.agg #[.int .i64 H2.rb, .int .i64 H2.rs, .int .i64 H2.rh, .int .i64 H2.rt, .int .i64 H2.pb, .int .i64 H2.ps, .int .i64 H2.pc, .slice Af m cf, .slice A6 (ns - k) c6, .int .i64 H2.next], .slice Ac k cc]) (by simp [results, Try.results11, Act.put, asAddr, Result.andThen, hv9]) rfl ?_
        have tt : ∀ {e : TypeId} {b s n : Nat} {v : Value} {xs : List Value}, w5_.ownsRow b e s v n xs → e ≠ 36 → W9.ownsRow b e s v n xs := fun ho hne => own_chgA (own_chgA ho hc6 (own_ty ho hb25 hne)) hc9 (own_ty (own_chgA ho hc6 (own_ty ho hb25 hne)) (Blk.chgA hb15 hc6 (by omega)) hne)
        have o69 := own_base (tt o6 (by decide)) (base' := w.heap.size) (by omega)
        have op9 := own_base (tt op5 (by decide)) (base' := w.heap.size) (by omega)
        have oc9 := own_base (tt oc5 (by decide)) (base' := w.heap.size) (by omega)
        have iO9 := ((iO6.chgT hc6 hb25 (by decide)).chgT hc9 (Blk.chgA hb15 hc6 (by omega)) (by decide)).lower (base' := w.heap.size) (by omega)
        have hL6n : L6.length = ns - k := (map_v_len hL6).trans hdl
        have hio := fun y hy g hg => (iO6.lt (x := y) hy (g := g) hg).1
        have hwt : q.wait.take k = (L.take k).map SentH.v := by rw [← hv]; simp [TxH.v, List.map_take]
        rw [hwt, hlen k (Nat.le_refl _)]
        refine ⟨⟨H2.rb, H2.rs, H2.rh, H2.rt, H2.pb, H2.ps, H2.pc, Af, m, cf, (giveL H2.pb H2.ps H2.pc H2.free ((L.take k).map SentH.v)), A6, ns - k, c6, L6, H2.next⟩, Ac, cc, rfl, ?_, ⟨⟨hml, op9⟩, ⟨hL6n, o69⟩, iO9, fun y hy g e1 e2 => by have h8 := hio y hy g e1; have h9 := up g e2; omega⟩, oc9, ?_, hc9.below (by omega) (hc6.below (by omega) k5)⟩
        · rw [hF1]
          exact compV_eq hv hv2 hL6
        · rintro g (e1 | e1 | ⟨y, hy, e1⟩) e2
          · exact hap.out g e1 e2
          · exact own_apart o69 oc9 (by decide) g e1 e2
          · have h8 := hio y hy g e1; have h9 := uc g e2; omega
end Go.Proofs.Ytnkcomclhmlefaa
