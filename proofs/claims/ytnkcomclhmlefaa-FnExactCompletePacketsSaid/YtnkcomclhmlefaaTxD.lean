/- A copy of a queue: spec. -/
import Derived.Test.YtnkcomclhmlefaaTxC
import Derived.Test.YtnkcomclhmlefaaSlots6
namespace Go.Proofs.Ytnkcomclhmlefaa
set_option linter.unusedSimpArgs false
set_option linter.unusedVariables false
open Go.RowKit Go.ChangeShapes Go.WideShapes
/-- An empty slice that has just been made. -/
def EmpT (base : Nat) (T : TypeId) (w : World) (v : Value) : Prop := ∃ g, v = .slice (some ⟨g, 0, none⟩) 0 0 ∧ base ≤ g ∧ Blk w g T []
theorem EmpT.keep {base : Nat} {T : TypeId} {w w' : World} {v : Value} (h : EmpT base T w v) (hb : Below w.heap.size w w') : EmpT base T w' v := by
  obtain ⟨g, h1, h2, h3⟩ := h; exact ⟨g, h1, h2, h3.ext hb⟩
/-- A slice of one waiting packet that has just been made, its buffers in a row of the call's own. -/
def OneT (base : Nat) (x : SentV) (n : Nat) (w : World) (v : Value) : Prop := ∃ g A c, v = .slice (some ⟨g, 0, none⟩) 1 1 ∧ base ≤ g ∧ Blk w g 52 [.int .i64 x.cookie, .int .i64 x.slots, .slice A n c] ∧ w.ownsRow base 3 1 (.slice A n c) n (ints x.bufs)
theorem OneT.keep {base n : Nat} {x : SentV} {w w' : World} {v : Value} (h : OneT base x n w v) (hb : Below w.heap.size w w') : OneT base x n w' v := by
  obtain ⟨g, A, c, h1, h2, h3, h4⟩ := h; exact ⟨g, A, c, h1, h2, h3.ext hb, own_ext h4 hb⟩
/-- The row with one waiting packet more. -/
def AppT (base : Nat) (x : SentV) (L' : List SentH) (w : World) (v : Value) : Prop := ∃ A c y, v = .slice A (L'.length + 1) c ∧ SentH.v y = x ∧ w.ownsRow base 52 3 (.slice A (L'.length + 1) c) (L'.length + 1) ((L' ++ [y]).flatMap SentH.cells) ∧ InOwn w base (L' ++ [y])
theorem AppT.keep {base : Nat} {x : SentV} {L' : List SentH} {w w' : World} {v : Value} (h : AppT base x L' w v) (hb : Below w.heap.size w w') : AppT base x L' w' v := by
  obtain ⟨A, c, y, h1, h2, h3, h4⟩ := h; exact ⟨A, c, y, h1, h2, own_ext h3 hb, h4.ext hb⟩
/-- A box with that row in one of its cells. -/
def StaT (b : Nat) (T : TypeId) (f : Value → List Value) (base : Nat) (x : SentV) (L' : List SentH) (w : World) (_ : Value) : Prop := ∃ v, AppT base x L' w v ∧ Blk w b T (f v)
theorem StaT.keep {b base : Nat} {T : TypeId} {f : Value → List Value} {x : SentV} {L' : List SentH} {w w' : World} {v : Value} (h : StaT b T f base x L' w v) (hb : Below w.heap.size w w') : StaT b T f base x L' w' v := by
  obtain ⟨v, h1, h2⟩ := h; exact ⟨v, h1.keep hb, h2.ext hb⟩
theorem InOwn.chgT {w w1 : World} {base b : Nat} {T : TypeId} {cs : List Value} {L : List SentH} (h : InOwn w base L) (hc : ChgA b w w1) (hb : Blk w b T cs) (hT : 3 ≠ T) : InOwn w1 base L :=
  ⟨fun x hx => ⟨(h.1 x hx).1, own_chgA (h.1 x hx).2 hc (own_ty (h.1 x hx).2 hb hT)⟩, h.2⟩
theorem Blk.grow {w w1 : World} {b base s2 n : Nat} {T E : TypeId} {cs xs : List Value} {v : Value} (h : Blk w b T cs) (ho : w.ownsRow base E s2 v n xs) (hg : w.grownBy w1 v.ownBlock) (hT : E ≠ T) : Blk w1 b T cs :=
  blk_grown h hg fun e => own_ty ho h hT b e rfl
theorem own_grow {w w1 : World} {base b2 s1 s2 n1 n2 : Nat} {E F : TypeId} {v u : Value} {xs ys : List Value} (h : w.ownsRow base E s1 v n1 xs) (ho : w.ownsRow b2 F s2 u n2 ys) (hg : w.grownBy w1 u.ownBlock) (hT : E ≠ F) : w1.ownsRow base E s1 v n1 xs :=
  own_far h hg fun g h1 h2 => own_apart h ho hT g h1 h2
theorem EmpT.grow {base m s2 n : Nat} {E T : TypeId} {w w1 : World} {v u : Value} {xs : List Value} (h : EmpT base T w v) (ho : w.ownsRow m E s2 u n xs) (hg : w.grownBy w1 u.ownBlock) (hT : E ≠ T) : EmpT base T w1 v := by
  obtain ⟨g, h1, h2, h3⟩ := h; exact ⟨g, h1, h2, h3.grow ho hg hT⟩
theorem EmpT.chgA {base b : Nat} {T : TypeId} {w w1 : World} {v : Value} (h : EmpT base T w v) (hc : ChgA b w w1) (hlt : b < base) : EmpT base T w1 v := by
  obtain ⟨g, h1, h2, h3⟩ := h; exact ⟨g, h1, h2, h3.chgA hc (by omega)⟩
theorem RowP.grow {base m s1 s2 n1 n : Nat} {E F : TypeId} {w w1 : World} {f : Option Addr → Nat → Value} {v u : Value} {xs ys : List Value} (h : RowP base F s1 n1 ys f w v) (ho : w.ownsRow m E s2 u n xs) (hg : w.grownBy w1 u.ownBlock) (hT : F ≠ E) : RowP base F s1 n1 ys f w1 v := by
  obtain ⟨A, c, h1, h2⟩ := h; exact ⟨A, c, h1, own_grow h2 ho hg hT⟩
theorem OneT.grow {base m s2 n n1 : Nat} {E : TypeId} {x : SentV} {w w1 : World} {v u : Value} {xs : List Value} (h : OneT base x n1 w v) (ho : w.ownsRow m E s2 u n xs) (hg : w.grownBy w1 u.ownBlock) (hT : 3 ≠ E) (hlo : ∀ g, u.ownBlock = some g → g < base) : OneT base x n1 w1 v := by
  obtain ⟨g, A, c, h1, h2, h3, h4⟩ := h; exact ⟨g, A, c, h1, h2, blk_grown h3 hg (fun e => by have := hlo _ e; omega), own_grow h4 ho hg hT⟩
theorem OneT.chgA {base b n1 : Nat} {x : SentV} {w w1 : World} {v : Value} (h : OneT base x n1 w v) (hc : ChgA b w w1) (hlt : b < base) : OneT base x n1 w1 v := by
  obtain ⟨g, A, c, h1, h2, h3, h4⟩ := h; exact ⟨g, A, c, h1, h2, h3.chgA hc (by omega), own_chgA h4 hc fun k hk => by have := (h4.lt k hk).1; omega⟩
theorem AppT.chgT {base b : Nat} {T : TypeId} {cs : List Value} {x : SentV} {L' : List SentH} {w w1 : World} {v : Value} (h : AppT base x L' w v) (hc : ChgA b w w1) (hb : Blk w b T cs) (h1 : 52 ≠ T) (h2 : 3 ≠ T) : AppT base x L' w1 v := by
  obtain ⟨A, c, y, e1, e2, e3, e4⟩ := h; exact ⟨A, c, y, e1, e2, own_chgA e3 hc (own_ty e3 hb h1), e4.chgT hc hb h2⟩
theorem wpList_store_blk {P : Program} {ops : Array Oper} {rest : List Oper} {op : Oper} {a : Act} {w : World} {Q : Exit → Act → World → Prop} {b : Nat} {t : TypeId} {zs : List Value} (hgd : op.guard = none) (ty : TypeId) (x y : Operand) (ho : op.op = .store ty x y)
    (cs : List Value) (hk : Blk w b t zs) (hx : a.eval x = .pointer (some ⟨b, 0, none⟩)) (hy : a.eval y = .agg cs.toArray) (hl : cs.length = zs.length) (hi : (P.info? ty).map (·.size) = some cs.length) (h1 : ∀ v ∈ cs, v.oneCell' = true)
    (h : ∀ W1, Blk W1 b t cs → ChgA b w W1 → wpList P ops Q rest (a.put op.dst undef) W1) : wpList P ops Q (op :: rest) a w := by
  refine wpList_store_mid hgd ty x y ho b 0 cs.toArray hx hy (hk.there_at 0 _ (by simp [hl])) (by simpa using hi) (all_oneCell_toArray h1) ?_
  exact h _ (by simpa using hk.setAll hl) (by simpa using chgA_setCells cs 0 (ChgA.refl b w))
theorem run_append_empT {P : Program} (w : World) (base g : Nat) (t ty e : TypeId) (i : TypeInfo) (z : Value) (size bytes : Nat) (ht : P.underlying t = some (.slice e)) (hi : P.info? e = some i) (hz : i.zero = some z)
    (hsize : i.size = size) (hby : i.bytes = bytes) (hzs : z.cells.size = size) (hsz : 0 < size) (hg : base ≤ g) (hk : Blk w g e [])
    (B : Nat) (A : Option Addr) (m c : Nat) (news : List Value) (hr : Reads w B size A m news) (h1 : ∀ u ∈ news, u.oneCell' = true)
    (h63 : m ≤ maxLen) (hbytes : m * bytes ≤ 140737488355328) :
    ∃ A' c' w', (Builtin.append_ #[t, t] ty #[.slice (some ⟨g, 0, none⟩) 0 0, .slice A m c]).run P w = .ok (.slice A' m c') w' ∧ w'.ownsRow base e size (.slice A' m c') m news ∧ Below w.heap.size w w' := by
  have hbase : base ≤ w.heap.size := by have := hk.lt; omega
  rcases Nat.eq_zero_or_pos m with h0 | h0
  · subst h0
    have hn : news = [] := List.eq_nil_of_length_eq_zero (by simpa using hr.1)
    subst hn
    rcases A with _ | ad
    · exact ⟨_, _, w, run_append_of_nil w base t ty e i size ht hi _ 0 [] (own_empty hk hg) c, own_empty hk hg, Below.refl _ _⟩
    · have h := run_append_room_cells (P := P) w t ty e i ht hi g 0 0 0 ad 0 c [] (by simp) (by simp) (by simp) (Nat.le_refl _) (by simp) (by simp)
      exact ⟨_, _, _, h, own_empty hk hg, Below.refl _ _⟩
  · rcases A with _ | ad
    · obtain ⟨b, o, h, _⟩ := hr.2 h0; cases h
    · obtain ⟨v', w', hrun, r1, r2⟩ := run_append_arg_grows (P := P) w t ty e i z size bytes ht hi hz hsize hby hzs hsz ⟨g, 0, none⟩ 0 0 [] (by simp) (by simp) ad m c news (by rw [hr.1]) hr.news (by omega) (by simpa using h63) (by simpa using hbytes)
      simp only [Nat.zero_add, List.nil_append] at r1 hrun
      obtain ⟨A', c', rfl, _⟩ := own_form r1
      exact ⟨A', c', w', hrun, own_base r1 hbase, (Below.refl w.heap.size w).grown r2 (Nat.le_refl _) (fun k hk => by cases hk)⟩
theorem wp_append_empT {P : Program} {w : World} {o : Oper} {a : Act} {K : Act → World → Prop} {Q : Exit → Act → World → Prop} (s x : Operand) (t : TypeId)
    (ho : o.op = .call { callee := .builtin .append, args := #[s, x], argTypes := #[t, t] }) (base g : Nat) (e : TypeId) (i : TypeInfo) (z : Value) (size bytes : Nat) (ht : P.underlying t = some (.slice e)) (hi : P.info? e = some i) (hz : i.zero = some z)
    (hsize : i.size = size) (hby : i.bytes = bytes) (hzs : z.cells.size = size) (hsz : 0 < size) (hg : base ≤ g) (hk : Blk w g e []) (hs : a.eval s = .slice (some ⟨g, 0, none⟩) 0 0)
    (B : Nat) (A : Option Addr) (m c : Nat) (news : List Value) (hx : a.eval x = .slice A m c) (hr : Reads w B size A m news) (h1 : ∀ u ∈ news, u.oneCell' = true)
    (h63 : m ≤ maxLen) (hbytes : m * bytes ≤ 140737488355328)
    (h : ∀ A' c' w', w'.ownsRow base e size (.slice A' m c') m news → Below w.heap.size w w' → K (a.put o.dst (.slice A' m c')) w') : o.wp P a w K Q := by
  obtain ⟨A', c', w', hrun, h2, h3⟩ := run_append_empT (P := P) w base g t o.type e i z size bytes ht hi hz hsize hby hzs hsz hg hk B A m c news hr h1 h63 hbytes
  unfold Oper.wp execOp
  simp only [ho, resolve, invoke, builtin, Sem.run_bind, Sem.run_pure, Result.andThen_ok, List.map_toArray, List.map_cons, List.map_nil, hs, hx, hrun]
  exact h A' c' w' h2 h3
/-- A queue whose rows are the call's own (pool and buffers perhaps shared). -/
def TxN (w : World) (base : Nat) (H : TxH) : Prop := (H.free.length = H.np ∧ w.ownsRow base 3 1 (.slice H.Ap H.np H.cp) H.np (ints H.free)) ∧ (H.L.length = H.ns ∧ w.ownsRow base 52 3 (.slice H.As H.ns H.cs) H.ns (H.L.flatMap SentH.cells)) ∧ InOwn w base H.L
section
variable {w w1 : World} {base base' b : Nat} {H : TxH}
theorem TxN.rd (h : TxN w base H) : TxR w w.heap.size H := ⟨⟨h.1.1, Reads.of_own h.1.2⟩, ⟨h.2.1.1, Reads.of_own h.2.1.2⟩, h.2.2.rd⟩
theorem TxN.ext (h : TxN w base H) (hb : Below w.heap.size w w1) : TxN w1 base H := ⟨⟨h.1.1, own_ext h.1.2 hb⟩, ⟨h.2.1.1, own_ext h.2.1.2 hb⟩, h.2.2.ext hb⟩
theorem TxN.lower (h : TxN w base H) (hb : base' ≤ base) : TxN w base' H := ⟨⟨h.1.1, own_base h.1.2 hb⟩, ⟨h.2.1.1, own_base h.2.1.2 hb⟩, h.2.2.lower hb⟩
theorem TxN.lt (h : TxN w base H) {g : Nat} (hg : H.blk g) : base ≤ g ∧ g < w.heap.size := by
  rcases hg with hg | hg | ⟨x, hx, hg⟩
  · exact h.1.2.lt g hg
  · exact h.2.1.2.lt g hg
  · exact h.2.2.lt hx hg
theorem TxN.chgA (h : TxN w base H) (hc : ChgA b w w1) (hne : ∀ g, H.blk g → g ≠ b) : TxN w1 base H :=
  ⟨⟨h.1.1, own_chgA h.1.2 hc fun g hg => hne g (.inl hg)⟩, ⟨h.2.1.1, own_chgA h.2.1.2 hc fun g hg => hne g (.inr (.inl hg))⟩, ⟨fun x hx => ⟨(h.2.2.1 x hx).1, own_chgA (h.2.2.1 x hx).2 hc fun g hg => hne g (.inr (.inr ⟨x, hx, hg⟩))⟩, h.2.2.2⟩⟩
theorem TxN.far {row : Option Nat} (h : TxN w base H) (hg : w.grownBy w1 row) (hne : ∀ g, H.blk g → row = some g → False) : TxN w1 base H :=
  ⟨⟨h.1.1, h.1.2.kept hg (by
    cases ho : (Value.slice H.Ap H.np H.cp).ownBlock with
    | none => exact .inl rfl
    | some g => exact .inr fun hu => hne g (.inl ho) hu.symm)⟩, ⟨h.2.1.1, h.2.1.2.kept hg (by
    cases ho : (Value.slice H.As H.ns H.cs).ownBlock with
    | none => exact .inl rfl
    | some g => exact .inr fun hu => hne g (.inr (.inl ho)) hu.symm)⟩, h.2.2.far hg fun x hx g h1 h2 => hne g (.inr (.inr ⟨x, hx, h1⟩)) h2⟩
end
theorem info_intT : (Try.prog.info? 3).map (fun i => (i.zero, i.size, i.bytes)) = some (some (.int .i64 0), 1, 8) := by kernel_rfl
theorem own_cap {w : World} {base size n c : Nat} {e : TypeId} {A : Option Addr} {xs : List Value} (h : w.ownsRow base e size (.slice A n c) n xs) : n ≤ c ∧ c ≤ 9223372036854775807 := by
  obtain ⟨A', c', h1, _, h2, h3⟩ := own_form h
  injection h1 with _ _ h4
  subst h4
  exact ⟨h2, h3⟩
theorem blk_slice_ne {w : World} {b n : Nat} {T : TypeId} {A B : Option Addr} {c d : Nat} {cs ds : List Value} (h1 : Blk w b T cs) (h2 : Blk w b T ds) (j : Nat) (e1 : cs[j]? = some (.slice A n c)) (e2 : ds[j]? = some (.slice B (n + 1) d)) : False := by
  have h3 := h1.cell j
  rw [h2.cell j, e1, e2] at h3
  injection h3 with h3
  injection h3 with _ h4
  omega
set_option maxRecDepth 100000 in
set_option maxHeartbeats 8000000 in
theorem l22Copy_c (rb rs rh rt pb ps pc : Int) (Ap : Option Addr) (np cp : Nat) (free : List Int) (As : Option Addr) (ns cs : Nat) (L : List SentH) (next : Int) (w : World) (hn1 : free.length = np) (hr1 : Reads w w.heap.size 1 Ap np (ints free)) (hn2 : L.length = ns) (hr2 : Reads w w.heap.size 3 As ns (L.flatMap SentH.cells)) (hi : InRd w w.heap.size L) (hm : np + ns + totB L ≤ 1048576) :
    Calls Try.prog 33 #[.agg #[.int .i64 rb, .int .i64 rs, .int .i64 rh, .int .i64 rt, .int .i64 pb, .int .i64 ps, .int .i64 pc, .slice Ap np cp, .slice As ns cs, .int .i64 next]] w fun e w' => ∃ H : TxH, e = .returned (.agg #[.int .i64 H.rb, .int .i64 H.rs, .int .i64 H.rh, .int .i64 H.rt, .int .i64 H.pb, .int .i64 H.ps, .int .i64 H.pc, .slice H.Ap H.np H.cp, .slice H.As H.ns H.cs, .int .i64 H.next]) ∧ H.v = ⟨rb, rs, rh, rt, pb, ps, pc, free, L.map SentH.v, next⟩ ∧ TxN w' w.heap.size H ∧ Below w.heap.size w w' := by
  have r_p := hr1
  obtain ⟨i0, hi0, hI0, hI1, hI2⟩ := info_parts info_Sent
  obtain ⟨i1, hj0, hy0, hy1, hy2⟩ := info_parts info_intT
  go_enter Try.func33, Try.ntmps33
  go_wp2_with fail
  have k0 : Below w.heap.size w ((w.alloc (.cells #[.int .i64 rb, .int .i64 rs, .int .i64 rh, .int .i64 rt, .int .i64 pb, .int .i64 ps, .int .i64 pc, .slice Ap np cp, .slice As ns cs, .int .i64 next] 36)).alloc (.cells #[.int .i64 0, .int .i64 0, .int .i64 0, .int .i64 0, .int .i64 0, .int .i64 0, .int .i64 0, .slice none 0 0, .slice none 0 0, .int .i64 0] 36)) := by go_grown
  have bl0 : w.heap.size < ((w.alloc (.cells #[.int .i64 rb, .int .i64 rs, .int .i64 rh, .int .i64 rt, .int .i64 pb, .int .i64 ps, .int .i64 pc, .slice Ap np cp, .slice As ns cs, .int .i64 next] 36)).alloc (.cells #[.int .i64 0, .int .i64 0, .int .i64 0, .int .i64 0, .int .i64 0, .int .i64 0, .int .i64 0, .slice none 0 0, .slice none 0 0, .int .i64 0] 36)).heap.size := by go_size
  have hk0 : Blk ((w.alloc (.cells #[.int .i64 rb, .int .i64 rs, .int .i64 rh, .int .i64 rt, .int .i64 pb, .int .i64 ps, .int .i64 pc, .slice Ap np cp, .slice As ns cs, .int .i64 next] 36)).alloc (.cells #[.int .i64 0, .int .i64 0, .int .i64 0, .int .i64 0, .int .i64 0, .int .i64 0, .int .i64 0, .slice none 0 0, .slice none 0 0, .int .i64 0] 36)) (w.heap.size) 36 [.int .i64 rb, .int .i64 rs, .int .i64 rh, .int .i64 rt, .int .i64 pb, .int .i64 ps, .int .i64 pc, .slice Ap np cp, .slice As ns cs, .int .i64 next] := by simpa using (Blk.new w 36 [.int .i64 rb, .int .i64 rs, .int .i64 rh, .int .i64 rt, .int .i64 pb, .int .i64 ps, .int .i64 pc, .slice Ap np cp, .slice As ns cs, .int .i64 next]).alloc (.cells #[.int .i64 0, .int .i64 0, .int .i64 0, .int .i64 0, .int .i64 0, .int .i64 0, .int .i64 0, .slice none 0 0, .slice none 0 0, .int .i64 0] 36)
  have bl1 : w.heap.size + 1 < ((w.alloc (.cells #[.int .i64 rb, .int .i64 rs, .int .i64 rh, .int .i64 rt, .int .i64 pb, .int .i64 ps, .int .i64 pc, .slice Ap np cp, .slice As ns cs, .int .i64 next] 36)).alloc (.cells #[.int .i64 0, .int .i64 0, .int .i64 0, .int .i64 0, .int .i64 0, .int .i64 0, .int .i64 0, .slice none 0 0, .slice none 0 0, .int .i64 0] 36)).heap.size := by go_size
  have hk1 : Blk ((w.alloc (.cells #[.int .i64 rb, .int .i64 rs, .int .i64 rh, .int .i64 rt, .int .i64 pb, .int .i64 ps, .int .i64 pc, .slice Ap np cp, .slice As ns cs, .int .i64 next] 36)).alloc (.cells #[.int .i64 0, .int .i64 0, .int .i64 0, .int .i64 0, .int .i64 0, .int .i64 0, .int .i64 0, .slice none 0 0, .slice none 0 0, .int .i64 0] 36)) (w.heap.size + 1) 36 [.int .i64 0, .int .i64 0, .int .i64 0, .int .i64 0, .int .i64 0, .int .i64 0, .int .i64 0, .slice none 0 0, .slice none 0 0, .int .i64 0] := by simpa using Blk.new (w.alloc (.cells #[.int .i64 rb, .int .i64 rs, .int .i64 rh, .int .i64 rt, .int .i64 pb, .int .i64 ps, .int .i64 pc, .slice Ap np cp, .slice As ns cs, .int .i64 next] 36)) 36 [.int .i64 0, .int .i64 0, .int .i64 0, .int .i64 0, .int .i64 0, .int .i64 0, .int .i64 0, .slice none 0 0, .slice none 0 0, .int .i64 0]
  have r_p := r_p.below k0
  have p0 := k0.size
  generalize hW0 : ((w.alloc (.cells #[.int .i64 rb, .int .i64 rs, .int .i64 rh, .int .i64 rt, .int .i64 pb, .int .i64 ps, .int .i64 pc, .slice Ap np cp, .slice As ns cs, .int .i64 next] 36)).alloc (.cells #[.int .i64 0, .int .i64 0, .int .i64 0, .int .i64 0, .int .i64 0, .int .i64 0, .int .i64 0, .slice none 0 0, .slice none 0 0, .int .i64 0] 36)) = w0 at *
  clear hW0
  have hBB : w.heap.size ≤ w0.heap.size := by omega
  refine wp_region_slotsS (w.heap.size) [(6, fun _ v => v = .pointer (some ⟨w.heap.size, 0, none⟩)), (7, fun _ v => v = .agg #[.int .i64 rb, .int .i64 rs, .int .i64 rh, .int .i64 rt]), (8, fun _ v => v = .pointer (some ⟨w.heap.size, 4, none⟩)), (9, fun _ v => v = .agg #[.int .i64 pb, .int .i64 ps, .int .i64 pc, .slice Ap np cp]), (10, RowP w0.heap.size 3 1 np (ints free) (fun A c => .agg #[.int .i64 pb, .int .i64 ps, .int .i64 pc, .slice A np c])), (11, fun _ v => v = .pointer (some ⟨w.heap.size, 9, none⟩)), (12, fun _ v => v = .int .i64 next), (13, RowP w0.heap.size 3 1 np (ints free) (fun A c => .agg #[.int .i64 rb, .int .i64 rs, .int .i64 rh, .int .i64 rt, .int .i64 pb, .int .i64 ps, .int .i64 pc, .slice A np c, .slice none 0 0, .int .i64 next])), (3, BoxP w0.heap.size 36 10)] [⟨9, 3, fun _ => True, StoR w0.heap.size 36 3 1 np (ints free) (fun A c => [.int .i64 rb, .int .i64 rs, .int .i64 rh, .int .i64 rt, .int .i64 pb, .int .i64 ps, .int .i64 pc, .slice A np c, .slice none 0 0, .int .i64 next])⟩] (fun u => Blk u (w.heap.size) 36 [.int .i64 rb, .int .i64 rs, .int .i64 rh, .int .i64 rt, .int .i64 pb, .int .i64 ps, .int .i64 pc, .slice Ap np cp, .slice As ns cs, .int .i64 next] ∧ Blk u (w.heap.size + 1) 36 [.int .i64 0, .int .i64 0, .int .i64 0, .int .i64 0, .int .i64 0, .int .i64 0, .int .i64 0, .slice none 0 0, .slice none 0 0, .int .i64 0]) (by kernel_rfl) hBB (by kernel_rfl) (by kernel_rfl) (by kernel_rfl) (by kernel_rfl) ?_ ?_ ?_ ?_ ?_ ?_ ?_
  · intro p hp
    simp only [List.mem_cons, List.not_mem_nil, or_false] at hp
    rcases hp with rfl | rfl | rfl | rfl | rfl | rfl | rfl | rfl | rfl
    all_goals (intro u u' v hb hv; first | exact hv | exact BoxP.keep hv hb | exact RowP.keep hv hb)
  · intro s hs u u' hb
    simp only [List.mem_cons, List.not_mem_nil, or_false] at hs
    rcases hs with rfl
    all_goals (refine ⟨fun h => ?_, fun _ h => ?_⟩ <;> first | exact h | exact StoP.keep h hb | exact StoR.keep h hb | exact Blk.ext h hb | exact StaR.keep h hb | trivial | exact own_ext h hb)
  · intro s hs
    simp only [List.mem_cons, List.not_mem_nil, or_false] at hs
    rcases hs with rfl
    all_goals first | trivial
  · exact ⟨hk0, hk1⟩
  · intro u u' hb hj
    obtain ⟨j0, j1⟩ := hj
    exact ⟨(j0.ext hb), (j1.ext hb)⟩
  · intro hGk hSk hJk
    refine allStep_cons (stepS_plain hGk hSk hBB hJk (by kernel_rfl) rfl ?_) ?_
    · intro a u hb hz hj hl hp K Q hK
      have e1 : a.tmps[1]?.getD undef = .pointer (some ⟨w.heap.size, 0, none⟩) := gd (hl 1 (by kernel_rfl))
      go_simp
      exact hK _ _ (Below.refl _ _) (by intro d hd; cases hd; exact rfl)
    refine allStep_cons (stepS_plain hGk hSk hBB hJk (by kernel_rfl) rfl ?_) ?_
    · intro a u hb hz hj hl hp K Q hK
      have e6 : a.tmps[6]?.getD undef = .pointer (some ⟨w.heap.size, 0, none⟩) := gd (hl 6 (by kernel_rfl))
      obtain ⟨j0, j1⟩ := hj
      have hBb := j0
      have gb0 : u.cell? ⟨w.heap.size, 0, none⟩ = some (.int .i64 rb) := (hBb.cell 0).trans rfl
      have gb1 : u.cell? ⟨w.heap.size, 1, none⟩ = some (.int .i64 rs) := (hBb.cell 1).trans rfl
      have gb2 : u.cell? ⟨w.heap.size, 2, none⟩ = some (.int .i64 rh) := (hBb.cell 2).trans rfl
      have gb3 : u.cell? ⟨w.heap.size, 3, none⟩ = some (.int .i64 rt) := (hBb.cell 3).trans rfl
      have gb4 : u.cell? ⟨w.heap.size, 4, none⟩ = some (.int .i64 pb) := (hBb.cell 4).trans rfl
      have gb5 : u.cell? ⟨w.heap.size, 5, none⟩ = some (.int .i64 ps) := (hBb.cell 5).trans rfl
      have gb6 : u.cell? ⟨w.heap.size, 6, none⟩ = some (.int .i64 pc) := (hBb.cell 6).trans rfl
      have gb7 : u.cell? ⟨w.heap.size, 7, none⟩ = some (.slice Ap np cp) := (hBb.cell 7).trans rfl
      have gb8 : u.cell? ⟨w.heap.size, 8, none⟩ = some (.slice As ns cs) := (hBb.cell 8).trans rfl
      have gb9 : u.cell? ⟨w.heap.size, 9, none⟩ = some (.int .i64 next) := (hBb.cell 9).trans rfl
      go_simp
      exact hK _ _ (Below.refl _ _) (by intro d hd; cases hd; exact rfl)
    refine allStep_cons (stepS_plain hGk hSk hBB hJk (by kernel_rfl) rfl ?_) ?_
    · intro a u hb hz hj hl hp K Q hK
      have e1 : a.tmps[1]?.getD undef = .pointer (some ⟨w.heap.size, 0, none⟩) := gd (hl 1 (by kernel_rfl))
      go_simp
      exact hK _ _ (Below.refl _ _) (by intro d hd; cases hd; exact rfl)
    refine allStep_cons (stepS_plain hGk hSk hBB hJk (by kernel_rfl) rfl ?_) ?_
    · intro a u hb hz hj hl hp K Q hK
      have e8 : a.tmps[8]?.getD undef = .pointer (some ⟨w.heap.size, 4, none⟩) := gd (hl 8 (by kernel_rfl))
      obtain ⟨j0, j1⟩ := hj
      have hBb := j0
      have gb0 : u.cell? ⟨w.heap.size, 0, none⟩ = some (.int .i64 rb) := (hBb.cell 0).trans rfl
      have gb1 : u.cell? ⟨w.heap.size, 1, none⟩ = some (.int .i64 rs) := (hBb.cell 1).trans rfl
      have gb2 : u.cell? ⟨w.heap.size, 2, none⟩ = some (.int .i64 rh) := (hBb.cell 2).trans rfl
      have gb3 : u.cell? ⟨w.heap.size, 3, none⟩ = some (.int .i64 rt) := (hBb.cell 3).trans rfl
      have gb4 : u.cell? ⟨w.heap.size, 4, none⟩ = some (.int .i64 pb) := (hBb.cell 4).trans rfl
      have gb5 : u.cell? ⟨w.heap.size, 5, none⟩ = some (.int .i64 ps) := (hBb.cell 5).trans rfl
      have gb6 : u.cell? ⟨w.heap.size, 6, none⟩ = some (.int .i64 pc) := (hBb.cell 6).trans rfl
      have gb7 : u.cell? ⟨w.heap.size, 7, none⟩ = some (.slice Ap np cp) := (hBb.cell 7).trans rfl
      have gb8 : u.cell? ⟨w.heap.size, 8, none⟩ = some (.slice As ns cs) := (hBb.cell 8).trans rfl
      have gb9 : u.cell? ⟨w.heap.size, 9, none⟩ = some (.int .i64 next) := (hBb.cell 9).trans rfl
      go_simp
      exact hK _ _ (Below.refl _ _) (by intro d hd; cases hd; exact rfl)
    refine allStep_cons (stepS_plain hGk hSk hBB hJk (by kernel_rfl) rfl ?_) ?_
    · intro a u hb hz hj hl hp K Q hK
      have e9 : a.tmps[9]?.getD undef = .agg #[.int .i64 pb, .int .i64 ps, .int .i64 pc, .slice Ap np cp] := gd (hl 9 (by kernel_rfl))
      go_simp
      refine (l21Copy_c pb ps pc Ap np cp free _ hn1 (by omega) ((r_p.below (hb.mono (by omega))).more (by omega))).mono ?_
      rintro e u1 ⟨A, c, rfl, ho, hb1⟩
      exact hK _ _ hb1 (by intro d hd; cases hd; exact ⟨A, c, rfl, own_base ho (by omega)⟩)
    refine allStep_cons (stepS_plain hGk hSk hBB hJk (by kernel_rfl) rfl ?_) ?_
    · intro a u hb hz hj hl hp K Q hK
      have e1 : a.tmps[1]?.getD undef = .pointer (some ⟨w.heap.size, 0, none⟩) := gd (hl 1 (by kernel_rfl))
      go_simp
      exact hK _ _ (Below.refl _ _) (by intro d hd; cases hd; exact rfl)
    refine allStep_cons (stepS_plain hGk hSk hBB hJk (by kernel_rfl) rfl ?_) ?_
    · intro a u hb hz hj hl hp K Q hK
      have e11 : a.tmps[11]?.getD undef = .pointer (some ⟨w.heap.size, 9, none⟩) := gd (hl 11 (by kernel_rfl))
      obtain ⟨j0, j1⟩ := hj
      have hBb := j0
      have gb9 : u.cell? ⟨w.heap.size, 9, none⟩ = some (.int .i64 next) := (hBb.cell 9).trans rfl
      go_simp
      exact hK _ _ (Below.refl _ _) (by intro d hd; cases hd; exact rfl)
    refine allStep_cons (stepS_plain hGk hSk hBB hJk (by kernel_rfl) rfl ?_) ?_
    · intro a u hb hz hj hl hp K Q hK
      have e7 : a.tmps[7]?.getD undef = .agg #[.int .i64 rb, .int .i64 rs, .int .i64 rh, .int .i64 rt] := gd (hl 7 (by kernel_rfl))
      obtain ⟨A2, c2, ex10, o2⟩ : RowP w0.heap.size 3 1 np (ints free) (fun A c => .agg #[.int .i64 pb, .int .i64 ps, .int .i64 pc, .slice A np c]) u (a.tmps.getD 10 undef) := hl 10 (by kernel_rfl)
      have e10 := gd ex10
      have e12 : a.tmps[12]?.getD undef = .int .i64 next := gd (hl 12 (by kernel_rfl))
      go_simp
      exact hK _ _ (Below.refl _ _) (by intro d hd; cases hd; exact ⟨A2, c2, rfl, o2⟩)
    refine allStep_cons (stepS_plain hGk hSk hBB hJk (by kernel_rfl) rfl ?_) ?_
    · intro a u hb hz hj hl hp K Q hK
      go_simp
      exact hK _ _ (by go_grown) (by intro d hd; cases hd; exact BoxP.new _ _ [.int .i64 0, .int .i64 0, .int .i64 0, .int .i64 0, .int .i64 0, .int .i64 0, .int .i64 0, .slice none 0 0, .slice none 0 0, .int .i64 0] (by omega) rfl)
    refine allStep_cons (stepS_store (Chg w0.heap.size 36) (fun _ _ hc hb => hc.below' (by omega) hb) (fun _ _ hc => hc.size) (hold_rel ?_) ?_ ?_ rfl rfl ?_) ?_
    · intro p hp
      simp only [List.mem_cons, List.not_mem_nil, or_false] at hp
      rcases hp with rfl | rfl | rfl | rfl | rfl | rfl | rfl | rfl | rfl
      all_goals (intro u u' v hb hv; first | exact hv | exact BoxP.chg hv hb | exact RowP.chg hv hb (by decide))
    · intro s hs hne u u' hb
      simp only [List.mem_cons, List.not_mem_nil, or_false] at hs
      rcases hs with rfl
      all_goals first | exact absurd (by rfl) hne | (refine ⟨fun h => ?_, fun _ h => ?_⟩ <;> first | exact h | exact StoP.chg h hb (by decide) | exact StoR.chg h hb (by decide) (by decide) | exact Blk.chgL h hb (by omega) | exact StaR.chgL h hb (by omega) (by decide))
    · intro u u' hb hj
      obtain ⟨j0, j1⟩ := hj
      exact ⟨(j0.chgL hb (by omega)), (j1.chgL hb (by omega))⟩
    · intro a u hb hz hj hl hp K Q hK
      obtain ⟨b, exb, hB, zs, hzl, hbk⟩ : BoxP w0.heap.size 36 10 u (a.tmps.getD 3 undef) := hl 3 (by kernel_rfl)
      have e3 := gd exb
      obtain ⟨A2, c2, ex13, o2⟩ : RowP w0.heap.size 3 1 np (ints free) (fun A c => .agg #[.int .i64 rb, .int .i64 rs, .int .i64 rh, .int .i64 rt, .int .i64 pb, .int .i64 ps, .int .i64 pc, .slice A np c, .slice none 0 0, .int .i64 next]) u (a.tmps.getD 13 undef) := hl 13 (by kernel_rfl)
      have e13 := gd ex13
      obtain ⟨z0, z1, z2, z3, z4, z5, z6, z7, z8, z9, rfl⟩ : ∃ z0 z1 z2 z3 z4 z5 z6 z7 z8 z9, zs = [z0, z1, z2, z3, z4, z5, z6, z7, z8, z9] := (by match zs, hzl with | [z0, z1, z2, z3, z4, z5, z6, z7, z8, z9], _ => exact ⟨_, _, _, _, _, _, _, _, _, _, rfl⟩)
      have hlt := hbk.lt
      have g0 : u.cell? ⟨b, 0, none⟩ = some z0 := (hbk.cell 0).trans rfl
      have f0 := hbk.frozen 0
      have g1 : u.cell? ⟨b, 1, none⟩ = some z1 := (hbk.cell 1).trans rfl
      have f1 := hbk.frozen 1
      have g2 : u.cell? ⟨b, 2, none⟩ = some z2 := (hbk.cell 2).trans rfl
      have f2 := hbk.frozen 2
      have g3 : u.cell? ⟨b, 3, none⟩ = some z3 := (hbk.cell 3).trans rfl
      have f3 := hbk.frozen 3
      have g4 : u.cell? ⟨b, 4, none⟩ = some z4 := (hbk.cell 4).trans rfl
      have f4 := hbk.frozen 4
      have g5 : u.cell? ⟨b, 5, none⟩ = some z5 := (hbk.cell 5).trans rfl
      have f5 := hbk.frozen 5
      have g6 : u.cell? ⟨b, 6, none⟩ = some z6 := (hbk.cell 6).trans rfl
      have f6 := hbk.frozen 6
      have g7 : u.cell? ⟨b, 7, none⟩ = some z7 := (hbk.cell 7).trans rfl
      have f7 := hbk.frozen 7
      have g8 : u.cell? ⟨b, 8, none⟩ = some z8 := (hbk.cell 8).trans rfl
      have f8 := hbk.frozen 8
      have g9 : u.cell? ⟨b, 9, none⟩ = some z9 := (hbk.cell 9).trans rfl
      have f9 := hbk.frozen 9
      go_simp
      refine hK undef _ (((((((((((Chg.refl _ _ _).set hbk hB 0 _).set (hbk.set_ 0 _) hB 1 _).set ((hbk.set_ 0 _).set_ 1 _) hB 2 _).set (((hbk.set_ 0 _).set_ 1 _).set_ 2 _) hB 3 _).set ((((hbk.set_ 0 _).set_ 1 _).set_ 2 _).set_ 3 _) hB 4 _).set (((((hbk.set_ 0 _).set_ 1 _).set_ 2 _).set_ 3 _).set_ 4 _) hB 5 _).set ((((((hbk.set_ 0 _).set_ 1 _).set_ 2 _).set_ 3 _).set_ 4 _).set_ 5 _) hB 6 _).set (((((((hbk.set_ 0 _).set_ 1 _).set_ 2 _).set_ 3 _).set_ 4 _).set_ 5 _).set_ 6 _) hB 7 _).set ((((((((hbk.set_ 0 _).set_ 1 _).set_ 2 _).set_ 3 _).set_ 4 _).set_ 5 _).set_ 6 _).set_ 7 _) hB 8 _).set (((((((((hbk.set_ 0 _).set_ 1 _).set_ 2 _).set_ 3 _).set_ 4 _).set_ 5 _).set_ 6 _).set_ 7 _).set_ 8 _) hB 9 _) (fun s hs he => ?_)
      simp only [List.mem_cons, List.not_mem_nil, or_false] at hs
      rcases hs with rfl
      · exact ⟨b, A2, c2, exb, hB, ((((((((((hbk.set_ 0 _).set_ 1 _).set_ 2 _).set_ 3 _).set_ 4 _).set_ 5 _).set_ 6 _).set_ 7 _).set_ 8 _).set_ 9 _), own_chg o2 (((((((((((Chg.refl _ _ _).set hbk hB 0 _).set (hbk.set_ 0 _) hB 1 _).set ((hbk.set_ 0 _).set_ 1 _) hB 2 _).set (((hbk.set_ 0 _).set_ 1 _).set_ 2 _) hB 3 _).set ((((hbk.set_ 0 _).set_ 1 _).set_ 2 _).set_ 3 _) hB 4 _).set (((((hbk.set_ 0 _).set_ 1 _).set_ 2 _).set_ 3 _).set_ 4 _) hB 5 _).set ((((((hbk.set_ 0 _).set_ 1 _).set_ 2 _).set_ 3 _).set_ 4 _).set_ 5 _) hB 6 _).set (((((((hbk.set_ 0 _).set_ 1 _).set_ 2 _).set_ 3 _).set_ 4 _).set_ 5 _).set_ 6 _) hB 7 _).set ((((((((hbk.set_ 0 _).set_ 1 _).set_ 2 _).set_ 3 _).set_ 4 _).set_ 5 _).set_ 6 _).set_ 7 _) hB 8 _).set (((((((((hbk.set_ 0 _).set_ 1 _).set_ 2 _).set_ 3 _).set_ 4 _).set_ 5 _).set_ 6 _).set_ 7 _).set_ 8 _) hB 9 _) (by decide)⟩
    exact allStep_nil
  intro xT w1 hb hz hj hL hSt
  clear hk0 hk1
  obtain ⟨hk0, hk1⟩ := hj
  obtain ⟨bk_2, A_u, c_u, fx3, lo2, hk2, o_u⟩ : StoR w0.heap.size 36 3 1 np (ints free) (fun A c => [.int .i64 rb, .int .i64 rs, .int .i64 rh, .int .i64 rt, .int .i64 pb, .int .i64 ps, .int .i64 pc, .slice A np c, .slice none 0 0, .int .i64 next]) w1 (xT 3) := hSt _ (List.mem_of_getElem? (i := 0) rfl)
  simp only [List.map, putAll, fx3]
  have bl2 := hk2.lt
  have k1 : Below w.heap.size w w1 := k0.trans hb
  have p1 : w0.heap.size ≤ w1.heap.size := hb.size
  have bl0 := Nat.lt_of_lt_of_le bl0 hb.size
  have bl1 := Nat.lt_of_lt_of_le bl1 hb.size
  replace r_p := r_p.below hb
  have nb_u_2 := own_ty o_u hk2 (by decide)
  have r_u := Reads.of_own o_u
  have u_u := fun k hk => (o_u.lt k hk).2
  clear hL hSt hb hz fx3
  have hob0 := own_base o_u (base' := w.heap.size) (by omega)
  clear o_u r_u u_u nb_u_2 r_p
  go_wp2
  go_loopw [4] (fun i wr => ∃ (k : Nat) (A' : Option Addr) (c' : Nat) (L' : List SentH), k ≤ ns ∧ i = .int .i64 k ∧ Below w.heap.size w wr ∧ Blk wr w.heap.size 36 [.int .i64 rb, .int .i64 rs, .int .i64 rh, .int .i64 rt, .int .i64 pb, .int .i64 ps, .int .i64 pc, .slice Ap np cp, .slice As ns cs, .int .i64 next] ∧ Blk wr (w.heap.size + 1) 36 [.int .i64 0, .int .i64 0, .int .i64 0, .int .i64 0, .int .i64 0, .int .i64 0, .int .i64 0, .slice none 0 0, .slice none 0 0, .int .i64 0] ∧ Blk wr bk_2 36 [.int .i64 rb, .int .i64 rs, .int .i64 rh, .int .i64 rt, .int .i64 pb, .int .i64 ps, .int .i64 pc, .slice A_u np c_u, .slice A' k c', .int .i64 next] ∧ Hid (L'.length = k ∧ L'.map SentH.v = (L.take k).map SentH.v) ∧ wr.ownsRow w.heap.size 3 1 (.slice A_u np c_u) np (ints free) ∧ wr.ownsRow w.heap.size 52 3 (.slice A' k c') k (L'.flatMap SentH.cells) ∧ InOwn wr w.heap.size L') (fun i _ => ns - (intOf i).toNat)
  case atStart => exact ⟨0, none, 0, [], Nat.zero_le _, rfl, k1, hk0, hk1, hk2, ⟨rfl, rfl⟩, hob0, own_nil _ _ _ _, InOwn.nil _ _⟩
  case round =>
    obtain ⟨k, A', c', L', hk, rfl, hbw, hq, hz, hbk, hL, ou, hown, iO⟩ := hrel
    clear hk0 hk1 hk2 hob0 k1
    have hsz := hbw.size
    have hlq := hq.lt
    have hlz := hz.lt
    have hlb := hbk.lt
    have q8 := hq.at_ 8 _ rfl
    by_cases hlt : k < ns
    · obtain ⟨b, o, x, rfl, hbl, hx, hc⟩ := hr2.el (fun _ => rfl) (by decide) hn2 hlt
      have hR : wr.rangeAt b (o + k * 3) [.int .i64 x.cookie, .int .i64 x.slots, .slice x.A x.n x.c] := range_below hc hbw hbl
      have hxm := List.mem_of_getElem? hx
      have hxn := totB_mem hxm
      have hxr := (hi x hxm).2
      have hxl := (hi x hxm).1
      have HX := Lib.hid hx
      clear hx hc
      obtain ⟨hlk, hLv⟩ := hL.out
      subst hlk
      clear hL
      have hob := fun g hg => (hown.lt g hg).2
      have hlo := fun y hy g hg => (iO.lt (x := y) hy (g := g) hg).2
      go_wp2_with (first | (with_reducible_and_instances show wpList _ _ _ (⟨_, .load 52 (.tmp 24), _, _, _, _⟩ :: _) _ _; refine wpList_load_mid rfl _ _ rfl _ _ (by simp [go_sem]) [.int .i64 x.cookie, .int .i64 x.slots, .slice x.A x.n x.c] _ hR Try.underlying52 rfl infoZ_Sent ?_) | (with_reducible_and_instances show wpList _ _ _ (⟨_, .store 52 (.tmp 5) (.tmp 25), _, _, _, _⟩ :: _) _ _; refine wpList_store_new (w := wr) (t := 52) (zs := [.int .i64 0, .int .i64 0, .slice none 0 0]) rfl _ _ _ rfl [.int .i64 x.cookie, .int .i64 x.slots, .slice x.A x.n x.c] (by simp [go_sem]) (by simp [go_sem]) rfl infoZ_Sent (oneS x) ?_; intro W1 hkr hbW hs1; clear hR))
      have kW : Below w.heap.size w W1 := ext_step hbw hsz hbW
      have hq1 := hq.ext hbW
      have hz1 := hz.ext hbW
      have hbk1 := hbk.ext hbW
      have ou1 := own_ext ou hbW
      have hown1 := own_ext hown hbW
      have iO1 := iO.ext hbW
      have hsrc := hxr.below kW
      clear hq hz hbk ou hown iO q8
      have hBB : w.heap.size ≤ W1.heap.size := by omega
      refine wp_region_slotsR (w.heap.size) [(26, fun _ v => v = .pointer (some ⟨bk_2, 8, none⟩)), (27, fun _ v => v = .slice A' L'.length c'), (28, fun _ v => v = .pointer (some ⟨wr.heap.size, 0, none⟩)), (29, fun _ v => v = .int .i64 x.cookie), (30, fun _ v => v = .pointer (some ⟨wr.heap.size, 1, none⟩)), (31, fun _ v => v = .int .i64 x.slots), (32, EmpT W1.heap.size 3), (33, fun _ v => v = .pointer (some ⟨wr.heap.size, 2, none⟩)), (34, fun _ v => v = .slice x.A x.n x.c), (35, RowP W1.heap.size 3 1 x.n (ints x.bufs) (fun A c => .slice A x.n c)), (36, RowP W1.heap.size 3 1 x.n (ints x.bufs) (fun A c => .agg #[.int .i64 x.cookie, .int .i64 x.slots, .slice A x.n c])), (37, OneT W1.heap.size x.v x.n), (38, AppT w.heap.size x.v L'), (39, fun _ v => v = .pointer (some ⟨bk_2, 8, none⟩))] [⟨12, 27, fun u => u.ownsRow w.heap.size 52 3 (.slice A' L'.length c') L'.length (L'.flatMap SentH.cells), fun _ _ => True⟩, ⟨14, 39, fun u => Blk u bk_2 36 [.int .i64 rb, .int .i64 rs, .int .i64 rh, .int .i64 rt, .int .i64 pb, .int .i64 ps, .int .i64 pc, .slice A_u np c_u, .slice A' L'.length c', .int .i64 next], StaT bk_2 36 (fun v => [.int .i64 rb, .int .i64 rs, .int .i64 rh, .int .i64 rt, .int .i64 pb, .int .i64 ps, .int .i64 pc, .slice A_u np c_u, v, .int .i64 next]) w.heap.size x.v L'⟩] (fun u => Blk u (w.heap.size) 36 [.int .i64 rb, .int .i64 rs, .int .i64 rh, .int .i64 rt, .int .i64 pb, .int .i64 ps, .int .i64 pc, .slice Ap np cp, .slice (some ⟨b, o, none⟩) ns cs, .int .i64 next] ∧ Blk u (w.heap.size + 1) 36 [.int .i64 0, .int .i64 0, .int .i64 0, .int .i64 0, .int .i64 0, .int .i64 0, .int .i64 0, .slice none 0 0, .slice none 0 0, .int .i64 0] ∧ Blk u (wr.heap.size) 52 [.int .i64 x.cookie, .int .i64 x.slots, .slice x.A x.n x.c] ∧ u.ownsRow (w.heap.size) 3 1 (.slice A_u np c_u) np (ints free) ∧ InOwn u w.heap.size L') (by kernel_rfl) hBB (by kernel_rfl) (by kernel_rfl) (by kernel_rfl) (by kernel_rfl) ?_ ?_ ?_ ?_ ?_ ?_ ?_
      · intro p hp
        simp only [List.mem_cons, List.not_mem_nil, or_false] at hp
        rcases hp with rfl | rfl | rfl | rfl | rfl | rfl | rfl | rfl | rfl | rfl | rfl | rfl | rfl | rfl
        all_goals (intro u u' v hb hv; first | exact hv | exact BoxP.keep hv hb | exact RowP.keep hv hb | exact AppT.keep hv hb | exact EmpT.keep hv hb | exact OneT.keep hv hb)
      · intro s hs u u' hb
        simp only [List.mem_cons, List.not_mem_nil, or_false] at hs
        rcases hs with rfl | rfl
        all_goals (refine ⟨fun h => ?_, fun _ h => ?_⟩ <;> first | exact h | exact StoP.keep h hb | exact StoR.keep h hb | exact Blk.ext h hb | exact StaR.keep h hb | trivial | exact own_ext h hb | exact StaT.keep (v := undef) h hb)
      · intro s hs
        simp only [List.mem_cons, List.not_mem_nil, or_false] at hs
        rcases hs with rfl | rfl
        all_goals first | trivial | exact hown1 | exact hbk1
      · exact ⟨hq1, hz1, hkr, ou1, iO1⟩
      · intro u u' hb hj
        obtain ⟨j0, j1, j2, j3, j4⟩ := hj
        exact ⟨(j0.ext hb), (j1.ext hb), (j2.ext hb), (own_ext j3 hb), (j4.ext hb)⟩
      · intro hGk hSk hJk
        refine allStepR_cons (StepS.toR (stepS_plain hGk hSk hBB hJk (by kernel_rfl) rfl ?_)) ?_
        · intro a u hb hz hj hl hp K Q hK
          have e3 : a.tmps[3]?.getD undef = .pointer (some ⟨bk_2, 0, none⟩) := gd (hl 3 (by kernel_rfl))
          go_simp
          exact hK _ _ (Below.refl _ _) (by intro d hd; cases hd; exact rfl)
        refine allStepR_cons (StepS.toR (stepS_plain hGk hSk hBB hJk (by kernel_rfl) rfl ?_)) ?_
        · intro a u hb hz hj hl hp K Q hK
          have e26 : a.tmps[26]?.getD undef = .pointer (some ⟨bk_2, 8, none⟩) := gd (hl 26 (by kernel_rfl))
          have hB : Blk u bk_2 36 [.int .i64 rb, .int .i64 rs, .int .i64 rh, .int .i64 rt, .int .i64 pb, .int .i64 ps, .int .i64 pc, .slice A_u np c_u, .slice A' L'.length c', .int .i64 next] := hp _ (List.mem_of_getElem? (i := 1) rfl) (by kernel_rfl)
          have g8 := hB.at_ 8 _ rfl
          go_simp
          exact hK _ _ (Below.refl _ _) (by intro d hd; cases hd; exact rfl)
        refine allStepR_cons (StepS.toR (stepS_plain hGk hSk hBB hJk (by kernel_rfl) rfl ?_)) ?_
        · intro a u hb hz hj hl hp K Q hK
          have e5 : a.tmps[5]?.getD undef = .pointer (some ⟨wr.heap.size, 0, none⟩) := gd (hl 5 (by kernel_rfl))
          go_simp
          exact hK _ _ (Below.refl _ _) (by intro d hd; cases hd; exact rfl)
        refine allStepR_cons (StepS.toR (stepS_plain hGk hSk hBB hJk (by kernel_rfl) rfl ?_)) ?_
        · intro a u hb hz hj hl hp K Q hK
          have e28 : a.tmps[28]?.getD undef = .pointer (some ⟨wr.heap.size, 0, none⟩) := gd (hl 28 (by kernel_rfl))
          obtain ⟨j0, j1, j2, j3, j4⟩ := hj
          have hBb := j2
          have gb0 : u.cell? ⟨wr.heap.size, 0, none⟩ = some (.int .i64 x.cookie) := (hBb.cell 0).trans rfl
          go_simp
          exact hK _ _ (Below.refl _ _) (by intro d hd; cases hd; exact rfl)
        refine allStepR_cons (StepS.toR (stepS_plain hGk hSk hBB hJk (by kernel_rfl) rfl ?_)) ?_
        · intro a u hb hz hj hl hp K Q hK
          have e5 : a.tmps[5]?.getD undef = .pointer (some ⟨wr.heap.size, 0, none⟩) := gd (hl 5 (by kernel_rfl))
          go_simp
          exact hK _ _ (Below.refl _ _) (by intro d hd; cases hd; exact rfl)
        refine allStepR_cons (StepS.toR (stepS_plain hGk hSk hBB hJk (by kernel_rfl) rfl ?_)) ?_
        · intro a u hb hz hj hl hp K Q hK
          have e30 : a.tmps[30]?.getD undef = .pointer (some ⟨wr.heap.size, 1, none⟩) := gd (hl 30 (by kernel_rfl))
          obtain ⟨j0, j1, j2, j3, j4⟩ := hj
          have hBb := j2
          have gb1 : u.cell? ⟨wr.heap.size, 1, none⟩ = some (.int .i64 x.slots) := (hBb.cell 1).trans rfl
          go_simp
          exact hK _ _ (Below.refl _ _) (by intro d hd; cases hd; exact rfl)
        refine allStepR_cons (StepS.toR (stepS_plain hGk hSk hBB hJk (by kernel_rfl) rfl ?_)) ?_
        · intro a u hb hz hj hl hp K Q hK
          go_simp
          exact hK _ _ (by go_grown) (by intro d hd; cases hd; exact ⟨_, rfl, by omega, Blk.new _ _ []⟩)
        refine allStepR_cons (StepS.toR (stepS_plain hGk hSk hBB hJk (by kernel_rfl) rfl ?_)) ?_
        · intro a u hb hz hj hl hp K Q hK
          have e5 : a.tmps[5]?.getD undef = .pointer (some ⟨wr.heap.size, 0, none⟩) := gd (hl 5 (by kernel_rfl))
          go_simp
          exact hK _ _ (Below.refl _ _) (by intro d hd; cases hd; exact rfl)
        refine allStepR_cons (StepS.toR (stepS_plain hGk hSk hBB hJk (by kernel_rfl) rfl ?_)) ?_
        · intro a u hb hz hj hl hp K Q hK
          have e33 : a.tmps[33]?.getD undef = .pointer (some ⟨wr.heap.size, 2, none⟩) := gd (hl 33 (by kernel_rfl))
          obtain ⟨j0, j1, j2, j3, j4⟩ := hj
          have hBb := j2
          have gb2 : u.cell? ⟨wr.heap.size, 2, none⟩ = some (.slice x.A x.n x.c) := (hBb.cell 2).trans rfl
          go_simp
          exact hK _ _ (Below.refl _ _) (by intro d hd; cases hd; exact rfl)
        refine allStepR_cons (StepS.toR (stepS_plain hGk hSk hBB hJk (by kernel_rfl) rfl ?_)) ?_
        · intro a u hb hz hj hl hp K Q hK
          obtain ⟨g1, ex32, hg1, hbk1⟩ : (EmpT W1.heap.size 3) u (a.tmps.getD 32 undef) := hl 32 (by kernel_rfl)
          have e32 := gd ex32
          have e34 : a.tmps[34]?.getD undef = .slice x.A x.n x.c := gd (hl 34 (by kernel_rfl))
          refine wp_append_empT _ _ 24 rfl W1.heap.size g1 3 i1 (.int .i64 0) 1 8 Try.underlying24 hj0 hy0 hy1 hy2 rfl (by decide) hg1 hbk1 (by simp [go_sem, e32]) _ x.A x.n x.c (ints x.bufs) (by simp [go_sem, e34]) (hsrc.below hb) (one_flat fun x u hu => by simp [] at hu; subst hu; rfl) (by unfold maxLen; omega) (by omega) ?_
          intro A6 c6 u1 ho hb1
          exact hK _ _ hb1 (by intro d hd; cases hd; exact ⟨A6, c6, rfl, own_base ho (by omega)⟩)
        refine allStepR_cons (StepS.toR (stepS_plain hGk hSk hBB hJk (by kernel_rfl) rfl ?_)) ?_
        · intro a u hb hz hj hl hp K Q hK
          have e29 : a.tmps[29]?.getD undef = .int .i64 x.cookie := gd (hl 29 (by kernel_rfl))
          have e31 : a.tmps[31]?.getD undef = .int .i64 x.slots := gd (hl 31 (by kernel_rfl))
          obtain ⟨A3, c3, ex35, o3⟩ : RowP W1.heap.size 3 1 x.n (ints x.bufs) (fun A c => .slice A x.n c) u (a.tmps.getD 35 undef) := hl 35 (by kernel_rfl)
          have e35 := gd ex35
          go_simp
          exact hK _ _ (Below.refl _ _) (by intro d hd; cases hd; exact ⟨A3, c3, rfl, o3⟩)
        refine allStepR_cons (StepS.toR (stepS_plain hGk hSk hBB hJk (by kernel_rfl) rfl ?_)) ?_
        · intro a u hb hz hj hl hp K Q hK
          obtain ⟨A1, c1, ex36, o1⟩ : RowP W1.heap.size 3 1 x.n (ints x.bufs) (fun A c => .agg #[.int .i64 x.cookie, .int .i64 x.slots, .slice A x.n c]) u (a.tmps.getD 36 undef) := hl 36 (by kernel_rfl)
          have e36 := gd ex36
          go_simp
          exact hK _ _ (by go_grown) (by intro d hd; cases hd; exact ⟨_, A1, c1, rfl, by omega, Blk.new _ _ _, o1.alloc _⟩)
        refine allStepR_cons (stepR_rel (fun u u' => (u.ownsRow w.heap.size 52 3 (.slice A' L'.length c') L'.length (L'.flatMap SentH.cells)) ∧ Blk u bk_2 36 [.int .i64 rb, .int .i64 rs, .int .i64 rh, .int .i64 rt, .int .i64 pb, .int .i64 ps, .int .i64 pc, .slice A_u np c_u, .slice A' L'.length c', .int .i64 next] ∧ u.grownBy u' (Value.slice A' L'.length c').ownBlock) ?_ ?_ (hold_relR ?_) ?_ ?_ rfl ?_) ?_
        · rintro u u' ⟨ho, hB, hg⟩ hb
          exact below_app hb ho hg (by have := hb.size; omega)
        · rintro u u' ⟨ho, hB, hg⟩; exact hg.size
        · intro p hp hne
          simp only [List.mem_cons, List.not_mem_nil, or_false] at hp
          rcases hp with rfl | rfl | rfl | rfl | rfl | rfl | rfl | rfl | rfl | rfl | rfl | rfl | rfl | rfl
          all_goals (rintro u u' v ⟨ho, hB, hg⟩ hm hj hv; first | exact hv | exact EmpT.grow hv ho hg (by decide) | exact RowP.grow hv ho hg (by decide) | exact OneT.grow hv ho hg (by decide) (fun g e => by have := hob g e; omega) | exact absurd rfl hne)
        · intro s hs hne u u' hR hj
          obtain ⟨ho, hB, hg⟩ := hR
          simp only [List.mem_cons, List.not_mem_nil, or_false] at hs
          rcases hs with rfl | rfl
          · exact absurd rfl hne
          · refine ⟨fun h => Blk.grow h ho hg (by decide), fun v h => ?_⟩
            obtain ⟨v1, ⟨A9, c9, y9, rfl, _, _, _⟩, h9⟩ := h
            exact (blk_slice_ne hB h9 8 (by rfl) (by rfl)).elim
        · rintro u u' ⟨ho, hB, hg⟩ hj
          obtain ⟨j0, j1, j2, j3, j4⟩ := hj
          exact ⟨j0.grow ho hg (by decide), j1.grow ho hg (by decide), blk_grown j2 hg (fun e => by have := hob _ e; omega), own_grow j3 ho hg (by decide), j4.grow ho hg⟩
        · intro a u hb hz hj hl hp K Q hK
          have e27 : a.tmps[27]?.getD undef = .slice A' L'.length c' := gd (hl 27 (by kernel_rfl))
          obtain ⟨g2, A2, c2, ex37, hg2, hbk2, o2⟩ : (OneT W1.heap.size x.v x.n) u (a.tmps.getD 37 undef) := hl 37 (by kernel_rfl)
          have e37 := gd ex37
          obtain ⟨j0, j1, j2, j3, j4⟩ := hj
          have ho : u.ownsRow w.heap.size 52 3 (.slice A' L'.length c') L'.length (L'.flatMap SentH.cells) := hp _ (List.mem_of_getElem? (i := 0) rfl) (by kernel_rfl)
          have hB : Blk u bk_2 36 [.int .i64 rb, .int .i64 rs, .int .i64 rh, .int .i64 rt, .int .i64 pb, .int .i64 ps, .int .i64 pc, .slice A_u np c_u, .slice A' L'.length c', .int .i64 next] := hp _ (List.mem_of_getElem? (i := 1) rfl) (by kernel_rfl)
          refine wp_append_any u _ _ 34 rfl w.heap.size 52 i0 (.agg #[.int .i64 0, .int .i64 0, .slice none 0 0]) 3 40 Try.underlying34 hi0 hI0 hI1 hI2 rfl (by decide) (.slice A' L'.length c') L'.length (L'.flatMap SentH.cells) (by simp [go_sem, e27]) ho u.heap.size (some ⟨g2, 0, none⟩) 1 1 (SentH.cells ⟨x.cookie, x.slots, A2, x.n, c2, x.bufs⟩) (by simp [go_sem, e37]) (hbk2.reads rfl) (oneC _) (by unfold maxLen; omega) (by omega) (by omega) ?_
          intro v6 u6 ho6 hg6 hat6
          rw [← flat_snocS] at ho6
          obtain ⟨A6, c6, rfl, _, _, _⟩ := own_form ho6
          have hio6 : InOwn u6 w.heap.size (L' ++ [⟨x.cookie, x.slots, A2, x.n, c2, x.bufs⟩]) := (j4.snoc (x := ⟨x.cookie, x.slots, A2, x.n, c2, x.bufs⟩) hxl (own_base o2 (by omega)) (fun y hy g h1 h2 => by have h3 := hlo y hy g h1; have h4 := (o2.lt g h2).1; omega)).grow ho hg6
          refine hK _ _ ⟨ho, hB, hg6⟩ (by intro d hd; cases hd; exact ⟨A6, c6, ⟨x.cookie, x.slots, A2, x.n, c2, x.bufs⟩, rfl, rfl, ho6, hio6⟩) (fun s hs he => ?_)
          simp only [List.mem_cons, List.not_mem_nil, or_false] at hs
          rcases hs with rfl | rfl
          · trivial
          · exact absurd (show (14 : Nat) = 12 from he) (by decide)
        refine allStepR_cons (StepS.toR (stepS_plain hGk hSk hBB hJk (by kernel_rfl) rfl ?_)) ?_
        · intro a u hb hz hj hl hp K Q hK
          have e3 : a.tmps[3]?.getD undef = .pointer (some ⟨bk_2, 0, none⟩) := gd (hl 3 (by kernel_rfl))
          go_simp
          exact hK _ _ (Below.refl _ _) (by intro d hd; cases hd; exact rfl)
        refine allStepR_cons (stepR_rel (fun u u' => Blk u bk_2 36 [.int .i64 rb, .int .i64 rs, .int .i64 rh, .int .i64 rt, .int .i64 pb, .int .i64 ps, .int .i64 pc, .slice A_u np c_u, .slice A' L'.length c', .int .i64 next] ∧ ChgA bk_2 u u') ?_ ?_ (hold_relR ?_) ?_ ?_ rfl ?_) ?_
        · rintro u u' ⟨hB, hc⟩ hb
          exact hc.below (by omega) hb
        · rintro u u' ⟨hB, hc⟩; exact Nat.le_of_eq hc.size.symm
        · intro p hp hne
          simp only [List.mem_cons, List.not_mem_nil, or_false] at hp
          rcases hp with rfl | rfl | rfl | rfl | rfl | rfl | rfl | rfl | rfl | rfl | rfl | rfl | rfl | rfl
          all_goals (rintro u u' v ⟨hB, hc⟩ hm hj hv; first | exact hv | exact EmpT.chgA hv hc (by omega) | exact RowP.chgA hv hc (by omega) | exact OneT.chgA hv hc (by omega) | exact AppT.chgT hv hc hB (by decide) (by decide))
        · intro s hs hne u u' hR hj
          obtain ⟨hB, hc⟩ := hR
          simp only [List.mem_cons, List.not_mem_nil, or_false] at hs
          rcases hs with rfl | rfl
          · exact ⟨fun h => own_chgA h hc (own_ty h hB (by decide)), fun _ h => h⟩
          · exact absurd rfl hne
        · rintro u u' ⟨hB, hc⟩ hj
          obtain ⟨j0, j1, j2, j3, j4⟩ := hj
          exact ⟨j0.chgA hc (by omega), j1.chgA hc (by omega), j2.chgA hc (by omega), own_chgA j3 hc (own_ty j3 hB (by decide)), j4.chgT hc hB (by decide)⟩
        · intro a u hb hz hj hl hp K Q hK
          have e39 : a.tmps[39]?.getD undef = .pointer (some ⟨bk_2, 8, none⟩) := gd (hl 39 (by kernel_rfl))
          obtain ⟨A2, c2, y2, ex38, hv2, o2, io2⟩ : (AppT w.heap.size x.v L') u (a.tmps.getD 38 undef) := hl 38 (by kernel_rfl)
          have e38 := gd ex38
          have hB : Blk u bk_2 36 [.int .i64 rb, .int .i64 rs, .int .i64 rh, .int .i64 rt, .int .i64 pb, .int .i64 ps, .int .i64 pc, .slice A_u np c_u, .slice A' L'.length c', .int .i64 next] := hp _ (List.mem_of_getElem? (i := 1) rfl) (by kernel_rfl)
          have g8 := hB.at_ 8 _ rfl
          have f8 := hB.frozen 8
          have hC := (ChgA.refl bk_2 u).set 8 (.slice A2 (L'.length + 1) c2)
          go_simp
          refine hK undef _ ⟨hB, hC⟩ (by intro d hd; cases hd) (fun s hs he => ?_)
          simp only [List.mem_cons, List.not_mem_nil, or_false] at hs
          rcases hs with rfl | rfl
          · exact absurd (show (12 : Nat) = 14 from he) (by decide)
          · exact ⟨.slice A2 (L'.length + 1) c2, AppT.chgT ⟨A2, c2, y2, rfl, hv2, o2, io2⟩ hC hB (by decide) (by decide), hB.set_ 8 _⟩
        exact allStepR_nil
      intro xT W2 hb hz hj hL hSt
      obtain ⟨hq2, hz2, _, ou2, _⟩ := hj
      obtain ⟨v9, ⟨A9, c9, y9, rfl, hy9, hown9, iO9⟩, hbk9⟩ := hSt _ (List.mem_of_getElem? (i := 1) rfl)
      simp only [List.map, putAll]
      have k2 := kW.trans hb
      clear hL hSt
      go_wp2
      go_roundw
      case rel => exact ⟨L'.length + 1, A9, c9, L' ++ [y9], by omega, by go_num, k2, hq2, hz2, hbk9, ⟨by simp, by rw [take_next HX.out, List.map_append, List.map_append, hLv]; simp [hy9]⟩, ou2, hown9, iO9⟩
      case measure => simp [intOf]; omega
    · have hkn : k = ns := by omega
      subst hkn
      obtain ⟨hlk, hL2⟩ := hL.out
      rw [List.take_of_length_le (by omega)] at hL2
      go_wp2_with (first | (with_reducible_and_instances show wpList _ _ _ (⟨_, .load 36 (.tmp 3), _, _, _, _⟩ :: _) _ _; refine wpList_load_mid rfl _ _ rfl bk_2 0 (by simp [go_sem]) [.int .i64 rb, .int .i64 rs, .int .i64 rh, .int .i64 rt, .int .i64 pb, .int .i64 ps, .int .i64 pc, .slice A_u np c_u, .slice A' k c', .int .i64 next] _ hbk.range Try.underlying36 rfl infoZ_Tx ?_) | (with_reducible_and_instances show wpList _ _ _ (⟨_, .store 36 (.tmp 2) (.tmp 40), _, _, _, _⟩ :: _) _ _; refine wpList_store_blk rfl _ _ _ rfl [.int .i64 rb, .int .i64 rs, .int .i64 rh, .int .i64 rt, .int .i64 pb, .int .i64 ps, .int .i64 pc, .slice A_u np c_u, .slice A' k c', .int .i64 next] hz (by simp [go_sem]) (by simp [go_sem]) rfl infoZ_Tx (oneQ _ _ _ _ _ _ _ _ _ _ _ _ _ _) ?_; intro W2 hz2 hc2))
      have hv := loadVar_blk (P := Try.prog) hz2 (n := 10) rfl (by simp [go_sem]) (by simp [go_sem])
      refine bodyPost_ret (v := .agg #[.int .i64 rb, .int .i64 rs, .int .i64 rh, .int .i64 rt, .int .i64 pb, .int .i64 ps, .int .i64 pc, .slice A_u np c_u, .slice A' k c', .int .i64 next]) (by simp [results, Try.results33, Act.put, asAddr, Result.andThen, hv]) rfl ?_
      have ou2 := own_chgA ou hc2 (own_ty ou hz (by decide))
      have hown2 := own_chgA hown hc2 (own_ty hown hz (by decide))
      have iO2 := iO.chgT hc2 hz (by decide)
      exact ⟨⟨rb, rs, rh, rt, pb, ps, pc, A_u, np, c_u, free, A', k, c', L', next⟩, rfl, by simp only [TxH.v, hL2], ⟨⟨hn1, ou2⟩, ⟨hlk, hown2⟩, iO2⟩, hc2.below (by omega) hbw⟩
end Go.Proofs.Ytnkcomclhmlefaa
