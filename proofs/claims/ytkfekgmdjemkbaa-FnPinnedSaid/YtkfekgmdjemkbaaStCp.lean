/- Contracts: copies of spreads and steerings: impl and spec. -/
import Derived.Test.YtkfekgmdjemkbaaStPut
namespace Go.Proofs.Ytkfekgmdjemkbaa
set_option linter.unusedSimpArgs false
set_option linter.unusedVariables false
open Go.RowKit Go.ChangeShapes Go.WideShapes
/-- An empty slice that has just been made. -/
def EmpP (base : Nat) (T : TypeId) (w : World) (v : Value) : Prop := ∃ g, v = .slice (some ⟨g, 0, none⟩) 0 0 ∧ base ≤ g ∧ Blk w g T []
theorem EmpP.keep {base : Nat} {T : TypeId} {w w' : World} {v : Value} (h : EmpP base T w v) (hb : Below w.heap.size w w') : EmpP base T w' v := by
  obtain ⟨g, h1, h2, h3⟩ := h; exact ⟨g, h1, h2, h3.ext hb⟩
theorem EmpP.chgA {base b : Nat} {T : TypeId} {w w' : World} {v : Value} (h : EmpP base T w v) (hc : ChgA b w w') (hlt : b < base) : EmpP base T w' v := by
  obtain ⟨g, h1, h2, h3⟩ := h; exact ⟨g, h1, h2, h3.chgA hc (by omega)⟩
theorem SteO.chgA {base b : Nat} {rs : List Rule} {l : List Slot} {key : ByteArray} {tb : List Int} {w w' : World} {v : Value} (h : SteO base rs l key tb w v) (hc : ChgA b w w') (hlt : b < base) : SteO base rs l key tb w' v := by
  obtain ⟨A1, c1, A2, c2, A3, c3, h0, h1, h2, h3⟩ := h
  exact ⟨A1, c1, A2, c2, A3, c3, h0, own_chgA h1 hc fun k hk => by (have := (h1.lt k hk).1; omega), own_chgA h2 hc fun k hk => by (have := (h2.lt k hk).1; omega), own_chgA h3 hc fun k hk => by (have := (h3.lt k hk).1; omega)⟩
def StaS (base b : Nat) (T : TypeId) (rs : List Rule) (l : List Slot) (key : ByteArray) (tb : List Int) (w : World) (v : Value) : Prop := ∃ A1 c1 A2 c2 A3 c3, v = .agg #[.slice A1 rs.length c1, .slice A2 l.length c2, .string key, .slice A3 tb.length c3] ∧ Blk w b T [.slice A1 rs.length c1, .slice A2 l.length c2, .string key, .slice A3 tb.length c3] ∧ w.ownsRow base 58 9 (.slice A1 rs.length c1) rs.length (rs.flatMap Rule.cells) ∧ w.ownsRow base 61 7 (.slice A2 l.length c2) l.length (l.flatMap Slot.cells) ∧ w.ownsRow base 3 1 (.slice A3 tb.length c3) tb.length (tb.flatMap fun x : Int => [Value.int .i64 x])
theorem StaS.keep {base b : Nat} {T : TypeId} {rs : List Rule} {l : List Slot} {key : ByteArray} {tb : List Int} {w w' : World} {v : Value} (h : StaS base b T rs l key tb w v) (hb : Below w.heap.size w w') : StaS base b T rs l key tb w' v := by
  obtain ⟨A1, c1, A2, c2, A3, c3, h0, hb0, h1, h2, h3⟩ := h
  exact ⟨A1, c1, A2, c2, A3, c3, h0, hb0.ext hb, own_ext h1 hb, own_ext h2 hb, own_ext h3 hb⟩
theorem run_append_emp {P : Program} (w : World) (base g : Nat) (t ty e : TypeId) (i : TypeInfo) (z : Value) (size bytes : Nat) (ht : P.underlying t = some (.slice e)) (hi : P.info? e = some i) (hz : i.zero = some z)
    (hsize : i.size = size) (hby : i.bytes = bytes) (hzs : z.cells.size = size) (hsz : 0 < size) (hg : base ≤ g) (hk : Blk w g e [])
    (B : Nat) (A : Option Addr) (m c : Nat) (news : List Value) (hr : Reads w B size A m news) (h1 : ∀ u ∈ news, u.oneCell' = true)
    (h63 : m ≤ maxLen) (hbytes : m * bytes ≤ 140737488355328) :
    ∃ A' c' w', (Builtin.append_ #[t, t] ty #[.slice (some ⟨g, 0, none⟩) 0 0, .slice A m c]).run P w = .ok (.slice A' m c') w' ∧ w'.ownsRow base e size (.slice A' m c') m news ∧ Below w.heap.size w w' := by
  have hbase : base ≤ w.heap.size := by have := hk.lt; omega
  rcases Nat.eq_zero_or_pos m with h0 | h0
  · subst h0
    have hn : news = [] := List.eq_nil_of_length_eq_zero (by simpa using hr.1)
    subst hn
    rcases A with _ | ad
    · exact ⟨_, _, w, run_append_of_nil w base t ty e i size ht hi _ 0 [] (own_empty hk hg) c, own_empty hk hg, Below.refl _ _⟩
    · have h := run_append_room_cells (P := P) w t ty e i ht hi g 0 0 0 ad 0 c [] (by simp) (by simp) (by simp) (Nat.le_refl _) (by simp) (by simp)
      exact ⟨_, _, _, h, own_empty hk hg, Below.refl _ _⟩
  · rcases A with _ | ad
    · obtain ⟨b, o, h, _⟩ := hr.2 h0; cases h
    · obtain ⟨v', w', hrun, r1, r2⟩ := run_append_arg_grows (P := P) w t ty e i z size bytes ht hi hz hsize hby hzs hsz ⟨g, 0, none⟩ 0 0 [] (by simp) (by simp) ad m c news (by rw [hr.1]) hr.news (by omega) (by simpa using h63) (by simpa using hbytes)
      simp only [Nat.zero_add, List.nil_append] at r1 hrun
      obtain ⟨A', c', rfl, _⟩ := own_form r1
      exact ⟨A', c', w', hrun, own_base r1 hbase, (Below.refl w.heap.size w).grown r2 (Nat.le_refl _) (fun k hk => by cases hk)⟩
theorem wp_append_emp {P : Program} {w : World} {o : Oper} {a : Act} {K : Act → World → Prop} {Q : Exit → Act → World → Prop} (s x : Operand) (t : TypeId)
    (ho : o.op = .call { callee := .builtin .append, args := #[s, x], argTypes := #[t, t] }) (base g : Nat) (e : TypeId) (i : TypeInfo) (z : Value) (size bytes : Nat) (ht : P.underlying t = some (.slice e)) (hi : P.info? e = some i) (hz : i.zero = some z)
    (hsize : i.size = size) (hby : i.bytes = bytes) (hzs : z.cells.size = size) (hsz : 0 < size) (hg : base ≤ g) (hk : Blk w g e []) (hs : a.eval s = .slice (some ⟨g, 0, none⟩) 0 0)
    (B : Nat) (A : Option Addr) (m c : Nat) (news : List Value) (hx : a.eval x = .slice A m c) (hr : Reads w B size A m news) (h1 : ∀ u ∈ news, u.oneCell' = true)
    (h63 : m ≤ maxLen) (hbytes : m * bytes ≤ 140737488355328)
    (h : ∀ A' c' w', w'.ownsRow base e size (.slice A' m c') m news → Below w.heap.size w w' → K (a.put o.dst (.slice A' m c')) w') : o.wp P a w K Q := by
  obtain ⟨A', c', w', hrun, h2, h3⟩ := run_append_emp (P := P) w base g t o.type e i z size bytes ht hi hz hsize hby hzs hsz hg hk B A m c news hr h1 h63 hbytes
  unfold Oper.wp execOp
  simp only [ho, resolve, invoke, builtin, Sem.run_bind, Sem.run_pure, Result.andThen_ok, List.map_toArray, List.map_cons, List.map_nil, hs, hx, hrun]
  exact h A' c' w' h2 h3
set_option maxHeartbeats 2000000 in
/-- A copy of a slice is a row of the call's own. -/
theorem copyInts_c (A : Option Addr) (n c : Nat) (l : List Int) (w : World) (hn : l.length = n) (hm : n ≤ 2097152) (hr : Reads w w.heap.size 1 A n (l.flatMap (fun x : Int => [Value.int .i64 x]))) :
    Calls Try.prog 74 #[.slice A n c] w fun e w' => ∃ v, e = .returned v ∧ w'.ownsRow w.heap.size 3 1 v n (l.flatMap (fun x : Int => [Value.int .i64 x])) ∧ Below w.heap.size w w' := by
  obtain ⟨i0, hi, hz0, hz1, hz2⟩ := info_parts info_int
  have hr1 := hr.alloc (Nat.le_refl _) (.cells #[] 3)
  have ho1 := own_empty (Blk.new w 3 []) (Nat.le_refl _) (size := 1)
  go_enter Try.func74, Try.ntmps74
  go_wp2_with (at_builtin; refine wpList_append_any _ rfl _ _ 28 rfl w.heap.size 3 i0 (.int .i64 0) 1 8 Try.underlying28 hi hz0 hz1 hz2 rfl (by decide) _ _ _ rfl ho1 _ A n _ ((l.flatMap (fun x : Int => [Value.int .i64 x]))) rfl hr1 (one_flat fun x u hu => by simp [] at hu; subst hu; rfl) (by unfold maxLen; omega) (by omega) (by go_size) ?_; intro v1 w1 hown1 hg1 hat1)
  have hb1 : Below w.heap.size w w1 := below_app ((Below.refl _ _).alloc (Nat.le_refl _) _) ho1 hg1 (by go_size)
  go_wp2
  go_ret
  exact ⟨_, rfl, by simpa using hown1, hb1⟩
set_option maxRecDepth 100000 in
set_option maxHeartbeats 4000000 in
theorem copySpread_c (key : ByteArray) (At : Option Addr) (nt ct : Nat) (tb : List Int) (w : World) (hnt : tb.length = nt) (hmt : nt ≤ 1048576) (r_t : Reads w w.heap.size 1 At nt (tb.flatMap fun x : Int => [Value.int .i64 x])) :
    Calls Try.prog 55 #[.agg #[.string key, .slice At nt ct]] w fun e w' => ∃ A c, e = .returned (.agg #[.string key, .slice A nt c]) ∧ w'.ownsRow w.heap.size 3 1 (.slice A nt c) nt (tb.flatMap fun x : Int => [Value.int .i64 x]) ∧ Below w.heap.size w w' := by
  go_enter Try.func55, Try.ntmps55
  go_wp2_with fail
  have k0 : Below w.heap.size w ((w.alloc (.cells #[.string key, .slice At nt ct] 30)).alloc (.cells #[.string ⟨#[]⟩, .slice none 0 0] 30)) := by go_grown
  have bl0 : w.heap.size < ((w.alloc (.cells #[.string key, .slice At nt ct] 30)).alloc (.cells #[.string ⟨#[]⟩, .slice none 0 0] 30)).heap.size := by go_size
  have hk0 : Blk ((w.alloc (.cells #[.string key, .slice At nt ct] 30)).alloc (.cells #[.string ⟨#[]⟩, .slice none 0 0] 30)) (w.heap.size) 30 [.string key, .slice At nt ct] := by simpa using (Blk.new w 30 [.string key, .slice At nt ct]).alloc (.cells #[.string ⟨#[]⟩, .slice none 0 0] 30)
  have bl1 : w.heap.size + 1 < ((w.alloc (.cells #[.string key, .slice At nt ct] 30)).alloc (.cells #[.string ⟨#[]⟩, .slice none 0 0] 30)).heap.size := by go_size
  have hk1 : Blk ((w.alloc (.cells #[.string key, .slice At nt ct] 30)).alloc (.cells #[.string ⟨#[]⟩, .slice none 0 0] 30)) (w.heap.size + 1) 30 [.string ⟨#[]⟩, .slice none 0 0] := by simpa using Blk.new (w.alloc (.cells #[.string key, .slice At nt ct] 30)) 30 [.string ⟨#[]⟩, .slice none 0 0]
  have r_t := r_t.below k0
  have p0 := k0.size
  generalize hW0 : ((w.alloc (.cells #[.string key, .slice At nt ct] 30)).alloc (.cells #[.string ⟨#[]⟩, .slice none 0 0] 30)) = w0 at *
  clear hW0
  have hBB : w.heap.size ≤ w0.heap.size := by omega
  refine wp_region_slotsS (w.heap.size) [(3, fun _ v => v = .pointer (some ⟨w.heap.size, 0, none⟩)), (4, fun _ v => v = .string key), (5, fun _ v => v = .pointer (some ⟨w.heap.size, 1, none⟩)), (6, fun _ v => v = .slice At nt ct), (7, RowP w0.heap.size 3 1 nt (tb.flatMap fun x : Int => [Value.int .i64 x]) (fun A c => .slice A nt c)), (8, RowP w0.heap.size 3 1 nt (tb.flatMap fun x : Int => [Value.int .i64 x]) (fun A c => .agg #[.string key, .slice A nt c]))] [⟨6, 8, fun u => Blk u (w.heap.size + 1) 30 [.string ⟨#[]⟩, .slice none 0 0], StaR w0.heap.size (w.heap.size + 1) 30 3 1 nt (tb.flatMap fun x : Int => [Value.int .i64 x]) (fun A c => .agg #[.string key, .slice A nt c]) (fun A c => [.string key, .slice A nt c])⟩] (fun u => Blk u (w.heap.size) 30 [.string key, .slice At nt ct]) (by kernel_rfl) hBB (by kernel_rfl) (by kernel_rfl) (by kernel_rfl) (by kernel_rfl) ?_ ?_ ?_ ?_ ?_ ?_ ?_
  · intro p hp
    simp only [List.mem_cons, List.not_mem_nil, or_false] at hp
    rcases hp with rfl | rfl | rfl | rfl | rfl | rfl
    all_goals (intro u u' v hb hv; first | exact hv | exact BoxP.keep hv hb | exact RowP.keep hv hb)
  · intro s hs u u' hb
    simp only [List.mem_cons, List.not_mem_nil, or_false] at hs
    rcases hs with rfl
    all_goals (refine ⟨fun h => ?_, fun _ h => ?_⟩ <;> first | exact h | exact StoP.keep h hb | exact StoR.keep h hb | exact Blk.ext h hb | exact StaR.keep h hb)
  · intro s hs
    simp only [List.mem_cons, List.not_mem_nil, or_false] at hs
    rcases hs with rfl
    all_goals first | trivial | exact hk1
  · exact hk0
  · intro u u' hb hj
    have j0 := hj
    exact (j0.ext hb)
  · intro hGk hSk hJk
    refine allStep_cons (stepS_plain hGk hSk hBB hJk (by kernel_rfl) rfl ?_) ?_
    · intro a u hb hz hj hl hp K Q hK
      have e1 : a.tmps[1]?.getD undef = .pointer (some ⟨w.heap.size, 0, none⟩) := gd (hl 1 (by kernel_rfl))
      go_simp
      exact hK _ _ (Below.refl _ _) (by intro d hd; cases hd; exact rfl)
    refine allStep_cons (stepS_plain hGk hSk hBB hJk (by kernel_rfl) rfl ?_) ?_
    · intro a u hb hz hj hl hp K Q hK
      have e3 : a.tmps[3]?.getD undef = .pointer (some ⟨w.heap.size, 0, none⟩) := gd (hl 3 (by kernel_rfl))
      have j0 := hj
      have hBb := j0
      have gb0 : u.cell? ⟨w.heap.size, 0, none⟩ = some (.string key) := (hBb.cell 0).trans rfl
      go_simp
      exact hK _ _ (Below.refl _ _) (by intro d hd; cases hd; exact rfl)
    refine allStep_cons (stepS_plain hGk hSk hBB hJk (by kernel_rfl) rfl ?_) ?_
    · intro a u hb hz hj hl hp K Q hK
      have e1 : a.tmps[1]?.getD undef = .pointer (some ⟨w.heap.size, 0, none⟩) := gd (hl 1 (by kernel_rfl))
      go_simp
      exact hK _ _ (Below.refl _ _) (by intro d hd; cases hd; exact rfl)
    refine allStep_cons (stepS_plain hGk hSk hBB hJk (by kernel_rfl) rfl ?_) ?_
    · intro a u hb hz hj hl hp K Q hK
      have e5 : a.tmps[5]?.getD undef = .pointer (some ⟨w.heap.size, 1, none⟩) := gd (hl 5 (by kernel_rfl))
      have j0 := hj
      have hBb := j0
      have gb1 : u.cell? ⟨w.heap.size, 1, none⟩ = some (.slice At nt ct) := (hBb.cell 1).trans rfl
      go_simp
      exact hK _ _ (Below.refl _ _) (by intro d hd; cases hd; exact rfl)
    refine allStep_cons (stepS_plain hGk hSk hBB hJk (by kernel_rfl) rfl ?_) ?_
    · intro a u hb hz hj hl hp K Q hK
      have e6 : a.tmps[6]?.getD undef = .slice At nt ct := gd (hl 6 (by kernel_rfl))
      go_simp
      refine (copyInts_c At nt ct tb _ hnt (by omega) ((r_t.below (hb.mono (by omega))).more (by omega))).mono ?_
      rintro e u1 ⟨v, rfl, ho, hb1⟩
      exact hK _ _ hb1 (by intro d hd; cases hd; exact (by obtain ⟨A, c, rfl, _⟩ := own_form ho; exact ⟨A, c, rfl, own_base ho (by omega)⟩))
    refine allStep_cons (stepS_plain hGk hSk hBB hJk (by kernel_rfl) rfl ?_) ?_
    · intro a u hb hz hj hl hp K Q hK
      have e4 : a.tmps[4]?.getD undef = .string key := gd (hl 4 (by kernel_rfl))
      obtain ⟨A2, c2, ex7, o2⟩ : RowP w0.heap.size 3 1 nt (tb.flatMap fun x : Int => [Value.int .i64 x]) (fun A c => .slice A nt c) u (a.tmps.getD 7 undef) := hl 7 (by kernel_rfl)
      have e7 := gd ex7
      go_simp
      exact hK _ _ (Below.refl _ _) (by intro d hd; cases hd; exact ⟨A2, c2, rfl, o2⟩)
    refine allStep_cons (stepS_store (ChgA (w.heap.size + 1)) (fun _ _ hc hb => hc.below (by omega) hb) (fun _ _ hc => hc.size) (hold_rel ?_) ?_ ?_ rfl rfl ?_) ?_
    · intro p hp
      simp only [List.mem_cons, List.not_mem_nil, or_false] at hp
      rcases hp with rfl | rfl | rfl | rfl | rfl | rfl
      all_goals (intro u u' v hb hv; first | exact hv | exact BoxP.chgA hv hb (by omega) | exact RowP.chgA hv hb (by omega))
    · intro s hs hne u u' hb
      simp only [List.mem_cons, List.not_mem_nil, or_false] at hs
      rcases hs with rfl
      all_goals first | exact absurd (by rfl) hne | (refine ⟨fun h => ?_, fun _ h => ?_⟩ <;> first | exact h | exact Blk.chgA h hb (by omega) | exact StoP.chgA h hb (by omega) | exact StoR.chgA h hb (by omega) | exact StaR.chgA h hb (by omega) (by omega))
    · intro u u' hb hj
      have j0 := hj
      exact (j0.chgA hb (by omega))
    · intro a u hb hz hj hl hp K Q hK
      have e2 : a.tmps[2]?.getD undef = .pointer (some ⟨w.heap.size + 1, 0, none⟩) := gd (hl 2 (by kernel_rfl))
      have hBs : Blk u (w.heap.size + 1) 30 [.string ⟨#[]⟩, .slice none 0 0] := hp _ (List.mem_of_getElem? (i := 0) rfl) (by kernel_rfl)
      have gs0 : u.cell? ⟨w.heap.size + 1, 0, none⟩ = some (.string ⟨#[]⟩) := (hBs.cell 0).trans rfl
      have gs1 : u.cell? ⟨w.heap.size + 1, 1, none⟩ = some (.slice none 0 0) := (hBs.cell 1).trans rfl
      have f0 := hBs.frozen 0
      have f1 := hBs.frozen 1
      obtain ⟨A2, c2, ex8, o2⟩ : RowP w0.heap.size 3 1 nt (tb.flatMap fun x : Int => [Value.int .i64 x]) (fun A c => .agg #[.string key, .slice A nt c]) u (a.tmps.getD 8 undef) := hl 8 (by kernel_rfl)
      have e8 := gd ex8
      go_simp
      refine hK undef _ (((ChgA.refl _ _).set 0 _).set 1 _) (fun s hs he => ?_)
      simp only [List.mem_cons, List.not_mem_nil, or_false] at hs
      rcases hs with rfl
      · exact ⟨A2, c2, ex8, ((hBs.set_ 0 _).set_ 1 _), own_chgA o2 (((ChgA.refl _ _).set 0 _).set 1 _) (fun k hk => by have := (o2.lt k hk).1; omega)⟩
    exact allStep_nil
  intro xT w1 hb hz hj hL hSt
  clear hk0 hk1
  have hk0 : (fun u => Blk u (w.heap.size) 30 [.string key, .slice At nt ct]) w1 := hj
  dsimp only at hk0
  obtain ⟨A_u, c_u, fy, hk1, o_u⟩ : StaR w0.heap.size (w.heap.size + 1) 30 3 1 nt (tb.flatMap fun x : Int => [Value.int .i64 x]) (fun A c => .agg #[.string key, .slice A nt c]) (fun A c => [.string key, .slice A nt c]) w1 (xT 8) := hSt _ (List.mem_of_getElem? (i := 0) rfl)
  clear fy
  simp only [List.map, putAll]
  have k1 : Below w.heap.size w w1 := k0.trans hb
  have p1 : w0.heap.size ≤ w1.heap.size := hb.size
  have bl0 := Nat.lt_of_lt_of_le bl0 hb.size
  have bl1 := Nat.lt_of_lt_of_le bl1 hb.size
  replace r_t := r_t.below hb
  have r_u := Reads.of_own o_u
  have u_u := fun k hk => (o_u.lt k hk).2
  clear hL hSt hb hz 
  go_wp2
  have hv := loadVar_blk (P := Try.prog) hk1 (n := 2) rfl (by simp [go_sem]) (by simp [go_sem])
  refine bodyPost_ret (v := .agg #[.string key, .slice A_u nt c_u]) (by simp [results, Try.results55, asAddr, Result.andThen, hv]) rfl ?_
  exact ⟨A_u, c_u, rfl, own_base o_u (by omega), k1⟩
set_option maxRecDepth 100000 in
set_option maxHeartbeats 4000000 in
theorem copySteering_c (Ar : Option Addr) (cr : Nat) (rs : List Rule) (As : Option Addr) (cs : Nat) (l : List Slot) (key : ByteArray) (At : Option Addr) (ct : Nat) (tb : List Int) (w : World) (hmr : rs.length ≤ 1048576) (hms : l.length ≤ 1048576) (hmt : tb.length ≤ 1048576) (r_r : Reads w w.heap.size 9 Ar rs.length (rs.flatMap Rule.cells)) (r_s : Reads w w.heap.size 7 As l.length (l.flatMap Slot.cells)) (r_t : Reads w w.heap.size 1 At tb.length (tb.flatMap fun x : Int => [Value.int .i64 x])) :
    Calls Try.prog 27 #[.agg #[.slice Ar rs.length cr, .slice As l.length cs, .string key, .slice At tb.length ct]] w fun e w' => ∃ v, e = .returned v ∧ SteO w.heap.size rs l key tb w' v ∧ Below w.heap.size w w' := by
  go_enter Try.func27, Try.ntmps27
  go_wp2_with fail
  have k0 : Below w.heap.size w ((w.alloc (.cells #[.slice Ar rs.length cr, .slice As l.length cs, .string key, .slice At tb.length ct] 32)).alloc (.cells #[.slice none 0 0, .slice none 0 0, .string ⟨#[]⟩, .slice none 0 0] 32)) := by go_grown
  have bl0 : w.heap.size < ((w.alloc (.cells #[.slice Ar rs.length cr, .slice As l.length cs, .string key, .slice At tb.length ct] 32)).alloc (.cells #[.slice none 0 0, .slice none 0 0, .string ⟨#[]⟩, .slice none 0 0] 32)).heap.size := by go_size
  have hk0 : Blk ((w.alloc (.cells #[.slice Ar rs.length cr, .slice As l.length cs, .string key, .slice At tb.length ct] 32)).alloc (.cells #[.slice none 0 0, .slice none 0 0, .string ⟨#[]⟩, .slice none 0 0] 32)) (w.heap.size) 32 [.slice Ar rs.length cr, .slice As l.length cs, .string key, .slice At tb.length ct] := by simpa using (Blk.new w 32 [.slice Ar rs.length cr, .slice As l.length cs, .string key, .slice At tb.length ct]).alloc (.cells #[.slice none 0 0, .slice none 0 0, .string ⟨#[]⟩, .slice none 0 0] 32)
  have bl1 : w.heap.size + 1 < ((w.alloc (.cells #[.slice Ar rs.length cr, .slice As l.length cs, .string key, .slice At tb.length ct] 32)).alloc (.cells #[.slice none 0 0, .slice none 0 0, .string ⟨#[]⟩, .slice none 0 0] 32)).heap.size := by go_size
  have hk1 : Blk ((w.alloc (.cells #[.slice Ar rs.length cr, .slice As l.length cs, .string key, .slice At tb.length ct] 32)).alloc (.cells #[.slice none 0 0, .slice none 0 0, .string ⟨#[]⟩, .slice none 0 0] 32)) (w.heap.size + 1) 32 [.slice none 0 0, .slice none 0 0, .string ⟨#[]⟩, .slice none 0 0] := by simpa using Blk.new (w.alloc (.cells #[.slice Ar rs.length cr, .slice As l.length cs, .string key, .slice At tb.length ct] 32)) 32 [.slice none 0 0, .slice none 0 0, .string ⟨#[]⟩, .slice none 0 0]
  have r_r := r_r.below k0
  have r_s := r_s.below k0
  have r_t := r_t.below k0
  have p0 := k0.size
  generalize hW0 : ((w.alloc (.cells #[.slice Ar rs.length cr, .slice As l.length cs, .string key, .slice At tb.length ct] 32)).alloc (.cells #[.slice none 0 0, .slice none 0 0, .string ⟨#[]⟩, .slice none 0 0] 32)) = w0 at *
  clear hW0
  have hBB : w.heap.size ≤ w0.heap.size := by omega
  refine wp_region_slotsS (w.heap.size) [(3, EmpP w0.heap.size 58), (4, fun _ v => v = .pointer (some ⟨w.heap.size, 0, none⟩)), (5, fun _ v => v = .slice Ar rs.length cr), (6, RowP w0.heap.size 58 9 rs.length (rs.flatMap Rule.cells) (fun A c => .slice A rs.length c)), (7, fun _ v => v = .pointer (some ⟨w.heap.size, 1, none⟩)), (8, fun _ v => v = .agg #[.slice As l.length cs]), (9, RowP w0.heap.size 61 7 l.length (l.flatMap Slot.cells) (fun A c => .agg #[.slice A l.length c])), (10, fun _ v => v = .pointer (some ⟨w.heap.size, 2, none⟩)), (11, fun _ v => v = .agg #[.string key, .slice At tb.length ct]), (12, RowP w0.heap.size 3 1 tb.length (tb.flatMap fun x : Int => [Value.int .i64 x]) (fun A c => .agg #[.string key, .slice A tb.length c])), (13, SteO w0.heap.size rs l key tb)] [⟨11, 13, fun u => Blk u (w.heap.size + 1) 32 [.slice none 0 0, .slice none 0 0, .string ⟨#[]⟩, .slice none 0 0], StaS w0.heap.size (w.heap.size + 1) 32 rs l key tb⟩] (fun u => Blk u (w.heap.size) 32 [.slice Ar rs.length cr, .slice As l.length cs, .string key, .slice At tb.length ct]) (by kernel_rfl) hBB (by kernel_rfl) (by kernel_rfl) (by kernel_rfl) (by kernel_rfl) ?_ ?_ ?_ ?_ ?_ ?_ ?_
  · intro p hp
    simp only [List.mem_cons, List.not_mem_nil, or_false] at hp
    rcases hp with rfl | rfl | rfl | rfl | rfl | rfl | rfl | rfl | rfl | rfl | rfl
    all_goals (intro u u' v hb hv; first | exact hv | exact BoxP.keep hv hb | exact RowP.keep hv hb | exact EmpP.keep hv hb | exact SteO.keep hv hb)
  · intro s hs u u' hb
    simp only [List.mem_cons, List.not_mem_nil, or_false] at hs
    rcases hs with rfl
    all_goals (refine ⟨fun h => ?_, fun _ h => ?_⟩ <;> first | exact h | exact StoP.keep h hb | exact StoR.keep h hb | exact Blk.ext h hb | exact StaR.keep h hb | exact StaS.keep h hb)
  · intro s hs
    simp only [List.mem_cons, List.not_mem_nil, or_false] at hs
    rcases hs with rfl
    all_goals first | trivial | exact hk1
  · exact hk0
  · intro u u' hb hj
    have j0 := hj
    exact (j0.ext hb)
  · intro hGk hSk hJk
    refine allStep_cons (stepS_plain hGk hSk hBB hJk (by kernel_rfl) rfl ?_) ?_
    · intro a u hb hz hj hl hp K Q hK
      go_simp
      exact hK _ _ (by go_grown) (by intro d hd; cases hd; exact ⟨_, rfl, by omega, Blk.new _ _ []⟩)
    refine allStep_cons (stepS_plain hGk hSk hBB hJk (by kernel_rfl) rfl ?_) ?_
    · intro a u hb hz hj hl hp K Q hK
      have e1 : a.tmps[1]?.getD undef = .pointer (some ⟨w.heap.size, 0, none⟩) := gd (hl 1 (by kernel_rfl))
      go_simp
      exact hK _ _ (Below.refl _ _) (by intro d hd; cases hd; exact rfl)
    refine allStep_cons (stepS_plain hGk hSk hBB hJk (by kernel_rfl) rfl ?_) ?_
    · intro a u hb hz hj hl hp K Q hK
      have e4 : a.tmps[4]?.getD undef = .pointer (some ⟨w.heap.size, 0, none⟩) := gd (hl 4 (by kernel_rfl))
      have j0 := hj
      have hBb := j0
      have gb0 : u.cell? ⟨w.heap.size, 0, none⟩ = some (.slice Ar rs.length cr) := (hBb.cell 0).trans rfl
      go_simp
      exact hK _ _ (Below.refl _ _) (by intro d hd; cases hd; exact rfl)
    refine allStep_cons (stepS_plain hGk hSk hBB hJk (by kernel_rfl) rfl ?_) ?_
    · intro a u hb hz hj hl hp K Q hK
      obtain ⟨g1, ex3, hg1, hbk1⟩ : (EmpP w0.heap.size 58) u (a.tmps.getD 3 undef) := hl 3 (by kernel_rfl)
      have e3 := gd ex3
      have e5 : a.tmps[5]?.getD undef = .slice Ar rs.length cr := gd (hl 5 (by kernel_rfl))
      obtain ⟨i0, hi, hz0, hz1, hz2⟩ := info_parts info_Rule
      refine wp_append_emp _ _ 24 rfl w0.heap.size g1 58 i0 (.agg #[.int .i64 0, .int .i64 0, .int .i64 0, .int .i64 0, .int .i64 0, .int .i64 0, .int .i64 0, .int .i64 0, .int .i64 0]) 9 72 Try.underlying24 hi hz0 hz1 hz2 rfl (by decide) hg1 hbk1 (by simp [go_sem, e3]) _ Ar rs.length cr (rs.flatMap Rule.cells) (by simp [go_sem, e5]) ((r_r.below (hb.mono (by omega))).more (by omega)) (one_flat fun x u hu => by simp [Rule.cells] at hu; rcases hu with rfl | rfl | rfl | rfl | rfl | rfl | rfl | rfl | rfl <;> rfl) (by unfold maxLen; omega) (by omega) ?_
      intro A6 c6 u1 ho hb1
      exact hK _ _ hb1 (by intro d hd; cases hd; exact ⟨A6, c6, rfl, own_base ho (by omega)⟩)
    refine allStep_cons (stepS_plain hGk hSk hBB hJk (by kernel_rfl) rfl ?_) ?_
    · intro a u hb hz hj hl hp K Q hK
      have e1 : a.tmps[1]?.getD undef = .pointer (some ⟨w.heap.size, 0, none⟩) := gd (hl 1 (by kernel_rfl))
      go_simp
      exact hK _ _ (Below.refl _ _) (by intro d hd; cases hd; exact rfl)
    refine allStep_cons (stepS_plain hGk hSk hBB hJk (by kernel_rfl) rfl ?_) ?_
    · intro a u hb hz hj hl hp K Q hK
      have e7 : a.tmps[7]?.getD undef = .pointer (some ⟨w.heap.size, 1, none⟩) := gd (hl 7 (by kernel_rfl))
      have j0 := hj
      have hBb := j0
      have gb0 : u.cell? ⟨w.heap.size, 0, none⟩ = some (.slice Ar rs.length cr) := (hBb.cell 0).trans rfl
      have gb1 : u.cell? ⟨w.heap.size, 1, none⟩ = some (.slice As l.length cs) := (hBb.cell 1).trans rfl
      have gb2 : u.cell? ⟨w.heap.size, 2, none⟩ = some (.string key) := (hBb.cell 2).trans rfl
      have gb3 : u.cell? ⟨w.heap.size, 3, none⟩ = some (.slice At tb.length ct) := (hBb.cell 3).trans rfl
      go_simp
      exact hK _ _ (Below.refl _ _) (by intro d hd; cases hd; exact rfl)
    refine allStep_cons (stepS_plain hGk hSk hBB hJk (by kernel_rfl) rfl ?_) ?_
    · intro a u hb hz hj hl hp K Q hK
      have e8 : a.tmps[8]?.getD undef = .agg #[.slice As l.length cs] := gd (hl 8 (by kernel_rfl))
      go_simp
      refine (copyTable_c As l.length cs l _ rfl hms ((r_s.below (hb.mono (by omega))).more (by omega))).mono ?_
      rintro e u1 ⟨A, c, rfl, ho, hb1⟩
      exact hK _ _ hb1 (by intro d hd; cases hd; exact ⟨A, c, rfl, own_base ho (by omega)⟩)
    refine allStep_cons (stepS_plain hGk hSk hBB hJk (by kernel_rfl) rfl ?_) ?_
    · intro a u hb hz hj hl hp K Q hK
      have e1 : a.tmps[1]?.getD undef = .pointer (some ⟨w.heap.size, 0, none⟩) := gd (hl 1 (by kernel_rfl))
      go_simp
      exact hK _ _ (Below.refl _ _) (by intro d hd; cases hd; exact rfl)
    refine allStep_cons (stepS_plain hGk hSk hBB hJk (by kernel_rfl) rfl ?_) ?_
    · intro a u hb hz hj hl hp K Q hK
      have e10 : a.tmps[10]?.getD undef = .pointer (some ⟨w.heap.size, 2, none⟩) := gd (hl 10 (by kernel_rfl))
      have j0 := hj
      have hBb := j0
      have gb0 : u.cell? ⟨w.heap.size, 0, none⟩ = some (.slice Ar rs.length cr) := (hBb.cell 0).trans rfl
      have gb1 : u.cell? ⟨w.heap.size, 1, none⟩ = some (.slice As l.length cs) := (hBb.cell 1).trans rfl
      have gb2 : u.cell? ⟨w.heap.size, 2, none⟩ = some (.string key) := (hBb.cell 2).trans rfl
      have gb3 : u.cell? ⟨w.heap.size, 3, none⟩ = some (.slice At tb.length ct) := (hBb.cell 3).trans rfl
      go_simp
      exact hK _ _ (Below.refl _ _) (by intro d hd; cases hd; exact rfl)
    refine allStep_cons (stepS_plain hGk hSk hBB hJk (by kernel_rfl) rfl ?_) ?_
    · intro a u hb hz hj hl hp K Q hK
      have e11 : a.tmps[11]?.getD undef = .agg #[.string key, .slice At tb.length ct] := gd (hl 11 (by kernel_rfl))
      go_simp
      refine (copySpread_c key At tb.length ct tb _ rfl hmt ((r_t.below (hb.mono (by omega))).more (by omega))).mono ?_
      rintro e u1 ⟨A, c, rfl, ho, hb1⟩
      exact hK _ _ hb1 (by intro d hd; cases hd; exact ⟨A, c, rfl, own_base ho (by omega)⟩)
    refine allStep_cons (stepS_plain hGk hSk hBB hJk (by kernel_rfl) rfl ?_) ?_
    · intro a u hb hz hj hl hp K Q hK
      obtain ⟨A1, c1, ex6, o1⟩ : RowP w0.heap.size 58 9 rs.length (rs.flatMap Rule.cells) (fun A c => .slice A rs.length c) u (a.tmps.getD 6 undef) := hl 6 (by kernel_rfl)
      have e6 := gd ex6
      obtain ⟨A2, c2, ex9, o2⟩ : RowP w0.heap.size 61 7 l.length (l.flatMap Slot.cells) (fun A c => .agg #[.slice A l.length c]) u (a.tmps.getD 9 undef) := hl 9 (by kernel_rfl)
      have e9 := gd ex9
      obtain ⟨A3, c3, ex12, o3⟩ : RowP w0.heap.size 3 1 tb.length (tb.flatMap fun x : Int => [Value.int .i64 x]) (fun A c => .agg #[.string key, .slice A tb.length c]) u (a.tmps.getD 12 undef) := hl 12 (by kernel_rfl)
      have e12 := gd ex12
      go_simp
      exact hK _ _ (Below.refl _ _) (by intro d hd; cases hd; exact ⟨A1, c1, A2, c2, A3, c3, rfl, o1, o2, o3⟩)
    refine allStep_cons (stepS_store (ChgA (w.heap.size + 1)) (fun _ _ hc hb => hc.below (by omega) hb) (fun _ _ hc => hc.size) (hold_rel ?_) ?_ ?_ rfl rfl ?_) ?_
    · intro p hp
      simp only [List.mem_cons, List.not_mem_nil, or_false] at hp
      rcases hp with rfl | rfl | rfl | rfl | rfl | rfl | rfl | rfl | rfl | rfl | rfl
      all_goals (intro u u' v hb hv; first | exact hv | exact BoxP.chgA hv hb (by omega) | exact RowP.chgA hv hb (by omega) | exact EmpP.chgA hv hb (by omega) | exact SteO.chgA hv hb (by omega))
    · intro s hs hne u u' hb
      simp only [List.mem_cons, List.not_mem_nil, or_false] at hs
      rcases hs with rfl
      all_goals first | exact absurd (by rfl) hne | (refine ⟨fun h => ?_, fun _ h => ?_⟩ <;> first | exact h | exact Blk.chgA h hb (by omega) | exact StoP.chgA h hb (by omega) | exact StoR.chgA h hb (by omega) | exact StaR.chgA h hb (by omega) (by omega))
    · intro u u' hb hj
      have j0 := hj
      exact (j0.chgA hb (by omega))
    · intro a u hb hz hj hl hp K Q hK
      have e2 : a.tmps[2]?.getD undef = .pointer (some ⟨w.heap.size + 1, 0, none⟩) := gd (hl 2 (by kernel_rfl))
      have hBs : Blk u (w.heap.size + 1) 32 [.slice none 0 0, .slice none 0 0, .string ⟨#[]⟩, .slice none 0 0] := hp _ (List.mem_of_getElem? (i := 0) rfl) (by kernel_rfl)
      have gs0 : u.cell? ⟨w.heap.size + 1, 0, none⟩ = some (.slice none 0 0) := (hBs.cell 0).trans rfl
      have gs1 : u.cell? ⟨w.heap.size + 1, 1, none⟩ = some (.slice none 0 0) := (hBs.cell 1).trans rfl
      have gs2 : u.cell? ⟨w.heap.size + 1, 2, none⟩ = some (.string ⟨#[]⟩) := (hBs.cell 2).trans rfl
      have gs3 : u.cell? ⟨w.heap.size + 1, 3, none⟩ = some (.slice none 0 0) := (hBs.cell 3).trans rfl
      have f0 := hBs.frozen 0
      have f1 := hBs.frozen 1
      have f2 := hBs.frozen 2
      have f3 := hBs.frozen 3
      obtain ⟨Ap2, cp2, Aq2, cq2, At2, ct2, ex13, o1_2, o2_2, o3_2⟩ : (SteO w0.heap.size rs l key tb) u (a.tmps.getD 13 undef) := hl 13 (by kernel_rfl)
      have e13 := gd ex13
      go_simp
      refine hK undef _ (((((ChgA.refl _ _).set 0 _).set 1 _).set 2 _).set 3 _) (fun s hs he => ?_)
      simp only [List.mem_cons, List.not_mem_nil, or_false] at hs
      rcases hs with rfl
      · exact ⟨Ap2, cp2, Aq2, cq2, At2, ct2, ex13, ((((hBs.set_ 0 _).set_ 1 _).set_ 2 _).set_ 3 _), own_chgA o1_2 (((((ChgA.refl _ _).set 0 _).set 1 _).set 2 _).set 3 _) (fun k hk => by have := (o1_2.lt k hk).1; omega), own_chgA o2_2 (((((ChgA.refl _ _).set 0 _).set 1 _).set 2 _).set 3 _) (fun k hk => by have := (o2_2.lt k hk).1; omega), own_chgA o3_2 (((((ChgA.refl _ _).set 0 _).set 1 _).set 2 _).set 3 _) (fun k hk => by have := (o3_2.lt k hk).1; omega)⟩
    exact allStep_nil
  intro xT w1 hb hz hj hL hSt
  clear hk0 hk1
  have hk0 : (fun u => Blk u (w.heap.size) 32 [.slice Ar rs.length cr, .slice As l.length cs, .string key, .slice At tb.length ct]) w1 := hj
  dsimp only at hk0
  obtain ⟨A_x, c_x, A_y, c_y, A_z, c_z, fy, hk1, o_x, o_y, o_z⟩ : StaS w0.heap.size (w.heap.size + 1) 32 rs l key tb w1 (xT 13) := hSt _ (List.mem_of_getElem? (i := 0) rfl)
  clear fy
  simp only [List.map, putAll]
  have k1 : Below w.heap.size w w1 := k0.trans hb
  have p1 : w0.heap.size ≤ w1.heap.size := hb.size
  have bl0 := Nat.lt_of_lt_of_le bl0 hb.size
  have bl1 := Nat.lt_of_lt_of_le bl1 hb.size
  replace r_r := r_r.below hb
  replace r_s := r_s.below hb
  replace r_t := r_t.below hb
  have r_x := Reads.of_own o_x
  have u_x := fun k hk => (o_x.lt k hk).2
  have r_y := Reads.of_own o_y
  have u_y := fun k hk => (o_y.lt k hk).2
  have r_z := Reads.of_own o_z
  have u_z := fun k hk => (o_z.lt k hk).2
  clear hL hSt hb hz 
  have bx1_0 := hk1.at_ 0 _ rfl
  have bx1_1 := hk1.at_ 1 _ rfl
  have bx1_2 := hk1.at_ 2 _ rfl
  have bx1_3 := hk1.at_ 3 _ rfl
  go_wp2
  refine bodyPost_ret (v := .agg #[.slice A_x rs.length c_x, .slice A_y l.length c_y, .string key, .slice A_z tb.length c_z]) (by simp [results, Try.results27, asAddr, Result.andThen, go_sem, bx1_0, bx1_1, bx1_2, bx1_3]) rfl ?_
  exact ⟨_, rfl, ⟨A_x, c_x, A_y, c_y, A_z, c_z, rfl, own_base o_x (by omega), own_base o_y (by omega), own_base o_z (by omega)⟩, k1⟩
end Go.Proofs.Ytkfekgmdjemkbaa
