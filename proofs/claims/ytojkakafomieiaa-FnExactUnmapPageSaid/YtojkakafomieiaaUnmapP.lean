/- Contracts of UnmapPage: impl and spec. -/
import Derived.Test.YtojkakafomieiaaMapPage
namespace Go.Proofs.Ytojkakafomieiaa
set_option linter.unusedSimpArgs false
set_option linter.unusedVariables false
open Go.RowKit Go.ChangeShapes Go.WideShapes
def unOk (l : List Mapping) (d v : Int) : Bool := mapsB l && decide (0 ≤ pmI l d v)
def unF (l : List Mapping) (d v : Int) : List Mapping := l.filter fun x => !hitM d v x
def unL (l : List Mapping) (d v : Int) : List Mapping := if unOk l d v then unF l d v else l
theorem unF_none {l : List Mapping} {d v : Int} (h : pmI l d v = -1) : unF l d v = l := by
  rw [unF, List.filter_eq_self]
  intro x hx
  obtain ⟨k, hk⟩ := List.getElem?_of_mem hx
  cases hh : hitM d v x
  · rfl
  · have := pm_le hk hh
    omega
theorem unF_at {l : List Mapping} {d v : Int} {k : Nat} (h : mapsB l = true) (hp : pmI l d v = k) : unF l d v = l.take k ++ l.drop (k + 1) := by
  rcases pm_bd l d v with h1 | ⟨k', x, h1, hx, hh⟩
  · omega
  · have hkk : k' = k := by omega
    subst hkk
    have hk : k' < l.length := (List.getElem?_eq_some_iff.1 hx).1
    have hxe : l[k'] = x := (List.getElem?_eq_some_iff.1 hx).2
    have uniq : ∀ (j : Nat) (y : Mapping), l[j]? = some y → hitM d v y = true → j = k' := by
      intro j y hy hj
      have e1 := (mapsB_el h hy).2
      simp only [hitM, Bool.and_eq_true, decide_eq_true_eq] at hj
      rw [hj.1, hj.2, h1] at e1
      omega
    have e1 : (l.take k').filter (fun x => !hitM d v x) = l.take k' := by
      rw [List.filter_eq_self]
      intro y hy
      obtain ⟨j, hj⟩ := List.getElem?_of_mem hy
      rw [List.getElem?_take] at hj
      split at hj
      · cases hh2 : hitM d v y
        · rfl
        · have := uniq j y hj hh2; omega
      · cases hj
    have e2 : (l.drop (k' + 1)).filter (fun x => !hitM d v x) = l.drop (k' + 1) := by
      rw [List.filter_eq_self]
      intro y hy
      obtain ⟨j, hj⟩ := List.getElem?_of_mem hy
      rw [List.getElem?_drop] at hj
      cases hh2 : hitM d v y
      · rfl
      · have := uniq _ y hj hh2; omega
    have e0 : l = l.take k' ++ x :: l.drop (k' + 1) := by
      rw [← hxe, ← List.drop_eq_getElem_cons hk, List.take_append_drop]
    rw [unF, e0, List.filter_append, List.filter_cons]
    simp only [hh, Bool.not_true, Bool.false_eq_true, if_false]
    rw [← e0, e1, e2]
theorem unF_len {l : List Mapping} {d v : Int} {k : Nat} (h : mapsB l = true) (hp : pmI l d v = k) : (unF l d v).length + 1 = l.length := by
  have hr := pm_range l d v
  rw [unF_at h hp, List.length_append, List.length_take, List.length_drop]
  omega
theorem flat_take (l : List Mapping) : ∀ k : Nat, (l.flatMap Mapping.cells).take (k * 4) = (l.take k).flatMap Mapping.cells := by
  induction l with
  | nil => intro k; simp
  | cons x l ih =>
    intro k
    cases k with
    | zero => simp
    | succ k =>
      rw [List.flatMap_cons, List.take_succ_cons, List.flatMap_cons, show (k + 1) * 4 = x.cells.length + k * 4 by simp [Mapping.cells]; omega, List.take_length_add_append, ih]
theorem flat_drop (l : List Mapping) : ∀ k : Nat, (l.flatMap Mapping.cells).drop (k * 4) = (l.drop k).flatMap Mapping.cells := by
  induction l with
  | nil => intro k; simp
  | cons x l ih =>
    intro k
    cases k with
    | zero => simp
    | succ k =>
      rw [List.flatMap_cons, List.drop_succ_cons, show (k + 1) * 4 = x.cells.length + k * 4 by simp [Mapping.cells]; omega, List.drop_length_add_append, ih]
theorem flat_cut (l : List Mapping) (k : Nat) : (l.flatMap Mapping.cells).take (k * 4) ++ (l.flatMap Mapping.cells).drop ((k + 1) * 4) = (l.take k ++ l.drop (k + 1)).flatMap Mapping.cells := by
  rw [flat_take, flat_drop, List.flatMap_append]
theorem own_take {w : World} {base n c i size : Nat} {e : TypeId} {A : Option Addr} {xs : List Value} (h : w.ownsRow base e size (.slice A n c) n xs) (hi : i ≤ n) (hi0 : 0 < n) : w.ownsRow base e size (.slice A i c) i (xs.take (i * size)) := by
  have hl := h.1
  rcases h.2 with ⟨hv, hn⟩ | ⟨g, cap, cur, hv, hg, hh, hnc, hcm, hsz, ht⟩
  · omega
  · injection hv with h1 h2 h3
    subst h1; subst h3
    have hle : i * size ≤ n * size := Nat.mul_le_mul_right _ hi
    refine ⟨by rw [List.length_take, hl]; omega, .inr ⟨g, c, cur, rfl, hg, hh, by omega, hcm, hsz, ?_⟩⟩
    rw [← ht, List.take_take]; congr 1; omega
set_option maxRecDepth 100000 in
set_option maxHeartbeats 4000000 in
theorem implUnmapPage_c (A : Option Addr) (n c : Nat) (l : List Mapping) (w : World) (hn : l.length = n) (hm : n ≤ 1048576) (hr : Reads w w.heap.size 4 A n (l.flatMap Mapping.cells)) (d v : Int) :
    Calls Try.prog 50 #[.slice A n c, .int .i64 d, .int .i64 v] w fun e w' => ∃ A' c', e = .returned (.tuple #[.slice A' (unL l d v).length c', .bool (unOk l d v)]) ∧ w'.ownsRow w.heap.size 60 4 (.slice A' (unL l d v).length c') (unL l d v).length ((unL l d v).flatMap Mapping.cells) ∧ Below w.heap.size w w' := by
  obtain ⟨i0, hi, hz0, hz1, hz2⟩ := info_parts info_Mapping
  rcases pm_bd l d v with hp | ⟨k, x, hp, hx, hh⟩
  · have HP := Lib.hid hp
    have hL : unL l d v = l := by simp [unL, unOk, hp]
    have hO : unOk l d v = false := by simp [unOk, hp]
    have HL := Lib.hid hL
    have HO := Lib.hid hO
    clear hL hO
    clear hp
    go_enter Try.func50, Try.ntmps50
    go_wp2_with (first | (go_at_call 70; refine (copyMappings_c _ _ _ l _ hn (by omega) hr).mono ?_; rintro e w1 ⟨v1, rfl, ho1, k1⟩; have hr1 := hr.to k1; obtain ⟨A1, c1, rfl, _, hnc1, hc1⟩ := own_form ho1) | (go_at_call 66; refine (pageMapping_c _ _ _ l _ hn (by omega) hr1 d v).mono ?_; rintro e w2 ⟨rfl, hb⟩; have k2 := ext_step k1 k1.size hb; have hr2 := hr.to k2; have ho2 := own_ext ho1 hb; rw [HP.out]; clear hb))
    go_ret2
    rw [HL.out, HO.out, hn]
    exact ⟨A1, c1, rfl, ho2, k2⟩
  · have HP := Lib.hid hp
    have k0 : ¬ (k : Int) < 0 := by omega
    cases e1 : mapsB l
    · have hL : unL l d v = l := by simp [unL, unOk, e1]
      have hO : unOk l d v = false := by simp [unOk, e1]
      have HL := Lib.hid hL
      have HO := Lib.hid hO
      clear hL hO
      clear hp
      go_enter Try.func50, Try.ntmps50
      go_wp2_with (first | (go_at_call 70; refine (copyMappings_c _ _ _ l _ hn (by omega) hr).mono ?_; rintro e w1 ⟨v1, rfl, ho1, k1⟩; have hr1 := hr.to k1; obtain ⟨A1, c1, rfl, _, hnc1, hc1⟩ := own_form ho1) | (go_at_call 66; refine (pageMapping_c _ _ _ l _ hn (by omega) hr1 d v).mono ?_; rintro e w2 ⟨rfl, hb⟩; have k2 := ext_step k1 k1.size hb; have hr2 := hr.to k2; have ho2 := own_ext ho1 hb; rw [HP.out]; clear hb) | (go_at_call 40; refine (calls_bool (implMappingsOk_c _ _ _ l _ hn (by omega) hr2) e1).mono ?_; rintro e w3 ⟨rfl, hb⟩; have k3 := ext_step k2 k2.size hb; have ho3 := own_ext ho2 hb; clear hb))
      go_ret2
      rw [HL.out, HO.out, hn]
      exact ⟨A1, c1, rfl, ho3, k3⟩
    · have hkn : k < n := by rw [← hn]; exact (List.getElem?_eq_some_iff.1 hx).1
      have hO : unOk l d v = true := by simp [unOk, e1, hp]
      have hL : unL l d v = l.take k ++ l.drop (k + 1) := by rw [unL, hO, if_pos rfl, unF_at e1 hp]
      have hlen : (l.take k ++ l.drop (k + 1)).length = k + (n - (k + 1)) := by rw [List.length_append, List.length_take, List.length_drop, hn]; omega
      have HL := Lib.hid hL
      have HO := Lib.hid hO
      have HN := Lib.hid hlen
      have a0 : (0 : Int) ≤ (k : Int) := by omega
      have a1 : (k : Int) < (n : Int) := by omega
      clear hL hO hp hlen
      go_enter Try.func50, Try.ntmps50
      go_wp2_with (first | (go_at_call 70; refine (copyMappings_c _ _ _ l _ hn (by omega) hr).mono ?_; rintro e w1 ⟨v1, rfl, ho1, k1⟩; have hr1 := hr.to k1; obtain ⟨A1, c1, rfl, _, hnc1, hc1⟩ := own_form ho1) | (go_at_call 66; refine (pageMapping_c _ _ _ l _ hn (by omega) hr1 d v).mono ?_; rintro e w2 ⟨rfl, hb⟩; have k2 := ext_step k1 k1.size hb; have hr2 := hr.to k2; have ho2 := own_ext ho1 hb; rw [HP.out]; clear hb) | (go_at_call 40; refine (calls_bool (implMappingsOk_c _ _ _ l _ hn (by omega) hr2) e1).mono ?_; rintro e w3 ⟨rfl, hb⟩; have k3 := ext_step k2 k2.size hb; have ho3 := own_ext ho2 hb; clear hb))
      have a2 : (k : Int) ≤ (c1 : Int) := by omega
      have a3 : (k : Int) + 1 ≤ (n : Int) := by omega
      have a4 : (n : Int) ≤ (c1 : Int) := by omega
      have a5 : (0 : Int) ≤ (k : Int) + 1 := by omega
      have hA1 : k + (n - (k + 1)) ≤ maxLen := by unfold maxLen; omega
      have hA2 : (k + (n - (k + 1))) * 32 ≤ 140737488355328 := by omega
      have hA3 : (0 : Nat) < 4 := by omega
      have hw1 : IntKind.i64.wrap ((k : Int) + 1) = (k : Int) + 1 := IntWalk.i64_in _ ⟨by omega, by omega⟩
      have hw2 : ((k : Int) + 1).toNat = k + 1 := by omega
      have hod := own_ext ho3 ((Below.refl _ _).drew)
      have hsrc := (Reads.of_own hod).cut (k := k + 1) (by omega) hnc1
      have htk := own_take hod (i := k) (by omega) (by omega)
      have hbs : w.heap.size ≤ w3.drew.heap.size := by have := k3.size; simpa using this
      have hone : ∀ u ∈ (l.flatMap Mapping.cells).drop ((k + 1) * 4), u.oneCell' = true := fun u hu => (one_flat fun x u hu => by simp [Mapping.cells] at hu; rcases hu with rfl | rfl | rfl | rfl <;> rfl) u (List.mem_of_mem_drop hu)
      have a6 : (k : Int) ≤ (k : Int) + 1 := by omega
      have hnk := HN.out
      generalize hmm : n - (k + 1) = m at *
      have HN := Lib.hid hnk
      clear hnk
      by_cases hc : c1 = k + 1
      all_goals
        first
          | (rw [if_pos hc] at hsrc; obtain rfl : m = 0 := (by omega); subst hc)
          | rw [if_neg hc] at hsrc
        first
          | (go_region_held3 (fun _ => True) (trivial)
              ((refine step_append_any _ (by rfl) _ _ 50 (by rfl) w.heap.size 60 i0 (.agg #[.int .i64 0, .int .i64 0, .int .i64 0, .bool false]) 4 32 Try.underlying50 hi hz0 hz1 hz2 rfl hA3 _ k ((l.flatMap Mapping.cells).take (k * 4)) (by rfl) htk _ _ _ _ _ (by rfl) hsrc hone hA1 hA2 hbs ?_; intro v2 w2 hown2 hg2 hat2)))
        clear hw1 hw2
        obtain ⟨A9, c9, rfl, _, _, _⟩ := own_form hown2
        have hfl : (l.flatMap Mapping.cells).take (k * 4) ++ (l.flatMap Mapping.cells).drop ((k + 1) * 4) = (l.take k ++ l.drop (k + 1)).flatMap Mapping.cells := flat_cut l k
        rw [hfl] at hown2
        have hk4 : Below w.heap.size w w2 := below_app (k3.trans ((Below.refl _ _).drew)) htk hg2 hbs
        go_wp2
        go_ret2
        rw [HL.out, HO.out, HN.out]
        exact ⟨A9, c9, rfl, hown2, hk4⟩
theorem unF_next {l : List Mapping} {d v : Int} {k : Nat} {x : Mapping} (hx : l[k]? = some x) (h : hitM d v x = false) : unF (l.take (k + 1)) d v = unF (l.take k) d v ++ [x] := by
  rw [take_next hx, unF, List.filter_append]; simp [unF, h]
theorem unF_skip {l : List Mapping} {d v : Int} {k : Nat} {x : Mapping} (hx : l[k]? = some x) (h : hitM d v x = true) : unF (l.take (k + 1)) d v = unF (l.take k) d v := by
  rw [take_next hx, unF, List.filter_append]; simp [unF, h]
theorem unF_le (l : List Mapping) (d v : Int) : (unF l d v).length ≤ l.length := List.length_filter_le _ _
set_option maxRecDepth 100000 in
set_option maxHeartbeats 4000000 in
theorem specUnmapPage_c (A : Option Addr) (n c : Nat) (l : List Mapping) (w : World) (hn : l.length = n) (hm : n ≤ 1048576) (hr : Reads w w.heap.size 4 A n (l.flatMap Mapping.cells)) (d v : Int) :
    Calls Try.prog 49 #[.slice A n c, .int .i64 d, .int .i64 v] w fun e w' => ∃ A' c', e = .returned (.tuple #[.slice A' (unL l d v).length c', .bool (unOk l d v)]) ∧ w'.ownsRow w.heap.size 60 4 (.slice A' (unL l d v).length c') (unL l d v).length ((unL l d v).flatMap Mapping.cells) ∧ Below w.heap.size w w' := by
  obtain ⟨i0, hi, hz0, hz1, hz2⟩ := info_parts info_Mapping
  have HN := Lib.hid hn
  clear hn
  go_enter Try.func49, Try.ntmps49
  go_wp2
  go_loopw [8, 9] (fun ov i wr => ∃ (k j : Nat) (u : Value), k ≤ n ∧ j ≤ k ∧ i = .int .i64 (k : Int) ∧ ov = u ∧ Hid ((unF (l.take k) d v).length = j) ∧ wr.ownsRow w.heap.size 60 4 u j ((unF (l.take k) d v).flatMap Mapping.cells) ∧ Below w.heap.size w wr) (fun _ i _ => n - (intOf i).toNat)
  case atStart => exact ⟨0, 0, _, Nat.zero_le _, Nat.le_refl _, rfl, rfl, by simp [Hid, unF], own_empty (Blk.new _ _ []) (Nat.le_refl _), by go_grown⟩
  case round =>
    obtain ⟨k, j, u, hk, hjk, rfl, rfl, hxl, hown, hbw⟩ := hrel
    have hsz := hbw.size
    by_cases hlt : k < n
    · obtain ⟨b, o, x, rfl, hb, hxx, hcx⟩ := hr.el (fun _ => rfl) (by decide) HN.out hlt
      have c0 := (hbw.cell (p := ⟨b, o + k * 4, none⟩) hb).trans (by simpa using hcx 0 _ rfl)
      have c1 := (hbw.cell (p := ⟨b, o + k * 4 + 1, none⟩) hb).trans (by simpa using hcx 1 _ rfl)
      have c2 := (hbw.cell (p := ⟨b, o + k * 4 + 2, none⟩) hb).trans (by simpa using hcx 2 _ rfl)
      have c3 := (hbw.cell (p := ⟨b, o + k * 4 + 3, none⟩) hb).trans (by simpa using hcx 3 _ rfl)
      have HXx := Lib.hid hxx
      clear hxx hcx
      by_cases e1 : x.dom = d
      · have b1 : (x.dom != d) = false := by simpa using e1
        by_cases e2 : x.vir = v
        · have b2 : (x.vir != v) = false := by simpa using e2
          have HX2 := Lib.hid (unF_skip (d := d) (v := v) HXx.out (by simp [hitM, e1, e2]))
          clear e1 e2
          go_wp2
          go_roundw
          case rel => exact ⟨k + 1, j, _, by omega, by omega, by go_num, rfl, by rw [Hid, HX2.out]; exact hxl.out, by rw [HX2.out]; exact hown, hbw⟩
          case measure => simp [intOf]; omega
        · have b2 : (x.vir != v) = true := by simpa using e2
          have HX2 := Lib.hid (unF_next (d := d) (v := v) HXx.out (by simp [hitM, e2]))
          clear e1 e2
          go_wp2_with (at_builtin; refine wpList_append_own _ rfl _ _ 50 rfl w.heap.size 60 i0 (.agg #[.int .i64 0, .int .i64 0, .int .i64 0, .bool false]) 4 32 Try.underlying50 hi hz0 hz1 hz2 rfl (by decide) _ _ _ rfl (hown.alloc _) ⟨wr.heap.size, 0, none⟩ 1 1 [.int .i64 x.dom, .int .i64 x.vir, .int .i64 x.phy, .bool x.wr] rfl rfl (cells_new _ _ _) ?c2 ?c3 ?c4 ?c5 ?_; (case c2 => (intro u hu; simp only [List.mem_cons, List.not_mem_nil, or_false] at hu; rcases hu with rfl | rfl | rfl | rfl <;> rfl)); (case c3 => (unfold maxLen; omega)); (case c4 => omega); (case c5 => (simp only [World.size_alloc]; omega)); intro v1 w1 hown1 hg1 hn1; have hb1 : Below w.heap.size w w1 := below_app (hbw.alloc hsz _) (hown.alloc _) hg1 (by simp only [World.size_alloc]; omega); clear hn1 hg1)
          go_roundw
          case rel => exact ⟨k + 1, j + 1, v1, by omega, by omega, by go_num, rfl, by rw [Hid, HX2.out, List.length_append, hxl.out]; rfl, by rw [HX2.out, flat_snoc]; exact hown1, hb1⟩
          case measure => simp [intOf]; omega
      · have b1 : (x.dom != d) = true := by simpa using e1
        have HX2 := Lib.hid (unF_next (d := d) (v := v) HXx.out (by simp [hitM, e1]))
        clear e1
        go_wp2_with (at_builtin; refine wpList_append_own _ rfl _ _ 50 rfl w.heap.size 60 i0 (.agg #[.int .i64 0, .int .i64 0, .int .i64 0, .bool false]) 4 32 Try.underlying50 hi hz0 hz1 hz2 rfl (by decide) _ _ _ rfl (hown.alloc _) ⟨wr.heap.size, 0, none⟩ 1 1 [.int .i64 x.dom, .int .i64 x.vir, .int .i64 x.phy, .bool x.wr] rfl rfl (cells_new _ _ _) ?c2 ?c3 ?c4 ?c5 ?_; (case c2 => (intro u hu; simp only [List.mem_cons, List.not_mem_nil, or_false] at hu; rcases hu with rfl | rfl | rfl | rfl <;> rfl)); (case c3 => (unfold maxLen; omega)); (case c4 => omega); (case c5 => (simp only [World.size_alloc]; omega)); intro v1 w1 hown1 hg1 hn1; have hb1 : Below w.heap.size w w1 := below_app (hbw.alloc hsz _) (hown.alloc _) hg1 (by simp only [World.size_alloc]; omega); clear hn1 hg1)
        go_roundw
        case rel => exact ⟨k + 1, j + 1, v1, by omega, by omega, by go_num, rfl, by rw [Hid, HX2.out, List.length_append, hxl.out]; rfl, by rw [HX2.out, flat_snoc]; exact hown1, hb1⟩
        case measure => simp [intOf]; omega
    · have hkn : n = k := by omega
      subst hkn
      have hn := HN.out
      have htk : l.take n = l := List.take_of_length_le (by omega)
      rw [htk] at hown hxl
      obtain ⟨A9, c9, rfl, _, _, _⟩ := own_form hown
      cases e1 : mapsB l
      · have hL : unL l d v = l := by simp [unL, unOk, e1]
        have hO : unOk l d v = false := by simp [unOk, e1]
        have HL := Lib.hid hL
        have HO := Lib.hid hO
        clear hL hO
        go_wp2_with (first | (go_at_call 38; refine (calls_bool (specMappingsOk_c _ _ _ l _ hn (by omega) (hr.to hbw)) e1).mono ?_; rintro e w3 ⟨rfl, hb⟩; have hkc := ext_step hbw hbw.size hb; have hrc := hr.to hkc; have hown3 := own_ext hown hb; clear hb) | (at_builtin; refine wpList_append_any _ rfl _ _ 50 rfl _ 60 i0 (.agg #[.int .i64 0, .int .i64 0, .int .i64 0, .bool false]) 4 32 Try.underlying50 hi hz0 hz1 hz2 rfl (by decide) _ 0 [] rfl (own_empty (Blk.new _ _ []) (Nat.le_refl _)) _ A n _ ((l.flatMap Mapping.cells)) rfl (hrc.alloc (Nat.le_refl _) _) (one_flat fun x u hu => by simp [Mapping.cells] at hu; rcases hu with rfl | rfl | rfl | rfl <;> rfl) (by unfold maxLen; omega) (by omega) (by go_size) ?_; intro v1 w1 hown1 hg1 hat1; have hk5 : Below w.heap.size w w1 := below_app (hkc.alloc hkc.size _) (own_base (own_empty (Blk.new _ _ []) (Nat.le_refl _) (size := 4)) hkc.size) hg1 (by have := hkc.size; simp only [World.size_alloc]; omega); rw [Nat.zero_add, List.nil_append] at hown1; have ho5 := own_base hown1 hkc.size; clear hg1 hat1 hown1))
        go_ret2
        obtain ⟨A5, c5, rfl, _, _, _⟩ := own_form ho5
        rw [HL.out, HO.out, hn]
        exact ⟨A5, c5, rfl, ho5, hk5⟩
      · rcases pm_bd l d v with hp | ⟨i, x, hp, hx, hh⟩
        · have hjn : n = j := by have h1 := hxl.out; rw [unF_none hp] at h1; omega
          subst hjn
          have hL : unL l d v = l := by simp [unL, unOk, hp]
          have hO : unOk l d v = false := by simp [unOk, hp]
          have HL := Lib.hid hL
          have HO := Lib.hid hO
          clear hL hO
          go_wp2_with (first | (go_at_call 38; refine (calls_bool (specMappingsOk_c _ _ _ l _ hn (by omega) (hr.to hbw)) e1).mono ?_; rintro e w3 ⟨rfl, hb⟩; have hkc := ext_step hbw hbw.size hb; have hrc := hr.to hkc; have hown3 := own_ext hown hb; clear hb) | (at_builtin; refine wpList_append_any _ rfl _ _ 50 rfl _ 60 i0 (.agg #[.int .i64 0, .int .i64 0, .int .i64 0, .bool false]) 4 32 Try.underlying50 hi hz0 hz1 hz2 rfl (by decide) _ 0 [] rfl (own_empty (Blk.new _ _ []) (Nat.le_refl _)) _ A n _ ((l.flatMap Mapping.cells)) rfl (hrc.alloc (Nat.le_refl _) _) (one_flat fun x u hu => by simp [Mapping.cells] at hu; rcases hu with rfl | rfl | rfl | rfl <;> rfl) (by unfold maxLen; omega) (by omega) (by go_size) ?_; intro v1 w1 hown1 hg1 hat1; have hk5 : Below w.heap.size w w1 := below_app (hkc.alloc hkc.size _) (own_base (own_empty (Blk.new _ _ []) (Nat.le_refl _) (size := 4)) hkc.size) hg1 (by have := hkc.size; simp only [World.size_alloc]; omega); rw [Nat.zero_add, List.nil_append] at hown1; have ho5 := own_base hown1 hkc.size; clear hg1 hat1 hown1))
          go_ret2
          obtain ⟨A5, c5, rfl, _, _, _⟩ := own_form ho5
          rw [HL.out, HO.out, hn]
          exact ⟨A5, c5, rfl, ho5, hk5⟩
        · have hjn : j + 1 = n := by have h1 := hxl.out; have h2 := unF_len e1 hp; omega
          have hO : unOk l d v = true := by simp [unOk, e1, hp]
          have hL : unL l d v = unF l d v := by rw [unL, hO, if_pos rfl]
          have HL := Lib.hid hL
          have HO := Lib.hid hO
          have bq : ((j : Int) == (n : Int)) = false := by rw [beq_eq_false_iff_ne]; omega
          have bj : ¬ j = n := by omega
          clear hL hO hp
          go_wp2_with (go_at_call 38; refine (calls_bool (specMappingsOk_c _ _ _ l _ hn (by omega) (hr.to hbw)) e1).mono ?_; rintro e w3 ⟨rfl, hb⟩; have hkc := ext_step hbw hbw.size hb; have hrc := hr.to hkc; have hown3 := own_ext hown hb; clear hb)
          go_ret2
          rw [HL.out, HO.out, hxl.out]
          exact ⟨A9, c9, rfl, hown3, hkc⟩
end Go.Proofs.Ytojkakafomieiaa
