/- Contract of HostWrite: spec. -/
import Derived.Test.YtjeenjblenpinaaDmaPutS
import Derived.Test.YtjeenjblenpinaaConvMap
namespace Go.Proofs.Ytjeenjblenpinaa
set_option linter.unusedSimpArgs false
set_option linter.unusedVariables false
open Go.RowKit Go.ChangeShapes Go.WideShapes
def openM (x : Mapping) : Mapping := ⟨x.dom, x.vir, x.phy, true⟩
def openL (l : List Mapping) : List Mapping := l.map openM
theorem hit_open (d v : Int) : hitM d v ∘ openM = hitM d v := rfl
theorem pm_open (l : List Mapping) (d v : Int) : pmI (openL l) d v = pmI l d v := by
  rw [pmI, pmI, openL, List.findIdx_map, hit_open, List.length_map]
theorem maps_open (l : List Mapping) : mapsB (openL l) = mapsB l := by
  rw [mapsB, mapsB, mapsR, mapsR, show (openL l).length = l.length from List.length_map _]
  congr 1
  apply List.all_congr rfl
  intro i
  rw [show (openL l)[i]? = (l[i]?).map openM from List.getElem?_map]
  cases l[i]? with
  | none => rfl
  | some x =>
    show (mapIn (openM x) && decide (pmI (openL l) (openM x).dom (openM x).vir = i)) = (mapIn x && decide (pmI l x.dom x.vir = i))
    rw [pm_open]; rfl
theorem pg_open (l : List Mapping) (d v : Int) : pgI (openL l) d v true = pgI l d v false := by
  unfold pgI
  rw [pm_open, show (openL l)[(pmI l d v).toNat]? = (l[(pmI l d v).toNat]?).map openM from List.getElem?_map]
  cases l[(pmI l d v).toNat]? with
  | none => rfl
  | some x => simp [openM]
theorem place_open (l : List Mapping) (d a : Int) : placeI (openL l) d a true = placeI l d a false := by
  rw [placeI, placeI, pg_open]
theorem runsG_open (l : List Mapping) (np : Nat) (d : Int) : ∀ (f : Nat) (a n : Int), runsG (openL l) np d true f a n = runsG l np d false f a n
  | 0, _, _ => rfl
  | f + 1, a, n => by rw [runsG, runsG, runOk, runOk, place_open, runsG_open l np d f]
theorem runsI_open (l : List Mapping) (pg : List ByteArray) (d a n : Int) : runsI (openL l) pg d a n true = runsI l pg d a n false := by
  rw [runsI, runsI, maps_open, runsG_open]
theorem dmaOk_open (l : List Mapping) (pg : List ByteArray) (d a n : Int) : dmaOk (openL l) pg d a n true = dmaOk l pg d a n false := by rw [dmaOk, dmaOk, runsI_open]
theorem dmaW_open (l : List Mapping) (pg : List ByteArray) (d a : Int) (s : ByteArray) : dmaW (openL l) pg d a s true = dmaW l pg d a s false := by rw [dmaW, dmaW, runsD, runsD, runsI_open]
theorem openL_next {l : List Mapping} {k : Nat} {x : Mapping} (hx : l[k]? = some x) : openL (l.take (k + 1)) = openL (l.take k) ++ [openM x] := by
  rw [take_next hx, openL, List.map_append]; rfl
theorem cells_at {W : World} {k : Nat} (h : W.heap.size = k) (news : List Value) (e : TypeId) : ∀ (j : Nat) (u : Value), news[j]? = some u → (W.alloc (.cells news.toArray e)).cell? ((⟨k, 0, none⟩ : Addr).add j) = some u := by
  subst h; exact cells_new W news e
set_option maxRecDepth 100000 in
set_option maxHeartbeats 4000000 in
theorem specHostWrite_c (A A' : Option Addr) (n c n' c' : Nat) (l : List Mapping) (pg : List ByteArray) (w : World) (hn : l.length = n) (hn' : pg.length = n') (hm : n ≤ 1048576) (hm' : n' ≤ 1048576) (hr : Reads w w.heap.size 4 A n (l.flatMap Mapping.cells)) (hr' : Reads w w.heap.size 1 A' n' (pg.flatMap fun x : ByteArray => [Value.string x])) (d at_ : Int) (s : ByteArray) (ha : I64 at_) (hs : s.size ≤ 1048576) :
    Calls Try.prog 28 #[.slice A n c, .agg #[.slice A' n' c'], .int .i64 d, .int .i64 at_, .string s] w fun e w' => ∃ A2 c2, e = .returned (.tuple #[.agg #[.slice A2 n' c2], .bool (dmaOk l pg d at_ s.size false)]) ∧ w'.ownsRow w.heap.size 9 1 (.slice A2 n' c2) n' ((dmaW l pg d at_ s false).flatMap fun x : ByteArray => [Value.string x]) ∧ Below w.heap.size w w' := by
  obtain ⟨i0, hi, hz0, hz1, hz2⟩ := info_parts info_Mapping
  have HN := Lib.hid hn
  clear hn
  go_enter Try.func28, Try.ntmps28
  go_wp2
  go_loopw [12, 13] (fun ov i wr => ∃ (k : Nat) (u : Value), k ≤ n ∧ i = .int .i64 (k : Int) ∧ ov = u ∧ wr.ownsRow (w.heap.size + 1 + 1) 77 4 u k ((openL (l.take k)).flatMap Mapping.cells) ∧ Below w.heap.size w wr ∧ wr.cell? ⟨w.heap.size, 0, none⟩ = some (.slice A' n' c') ∧ wr.cell? ⟨w.heap.size + 1, 0, none⟩ = some (.slice none 0 0) ∧ wr.frozen? ⟨w.heap.size + 1, 0, none⟩ = false) (fun _ i _ => n - (intOf i).toNat)
  case atStart => exact ⟨0, _, Nat.zero_le _, rfl, rfl, own_empty (blk_2nd (cs := [])) (Nat.le_refl _), by go_grown, by simp [go_sem], by simp [go_sem], by simp [go_sem]⟩
  case round =>
    obtain ⟨k, u, hk, rfl, hu, hown, hbw, m0, d0, fd0⟩ := hrel
    have hu := hu.symm
    subst hu
    have hsz := hbw.size
    have zd : w.heap.size + 1 < wr.heap.size := cell_block_lt d0
    by_cases hlt : k < n
    · obtain ⟨b, o, x, rfl, hb, hxx, hcx⟩ := hr.el (fun _ => rfl) (by decide) HN.out hlt
      have c0 := (hbw.cell (p := ⟨b, o + k * 4, none⟩) hb).trans (by simpa using hcx 0 _ rfl)
      have c1 := (hbw.cell (p := ⟨b, o + k * 4 + 1, none⟩) hb).trans (by simpa using hcx 1 _ rfl)
      have c2 := (hbw.cell (p := ⟨b, o + k * 4 + 2, none⟩) hb).trans (by simpa using hcx 2 _ rfl)
      have c3 := (hbw.cell (p := ⟨b, o + k * 4 + 3, none⟩) hb).trans (by simpa using hcx 3 _ rfl)
      have HXx := Lib.hid hxx
      clear hxx hcx
      have HX2 := Lib.hid (openL_next HXx.out)
      go_wp2_with (at_builtin; refine wpList_append_own _ rfl _ _ 30 rfl (w.heap.size + 1 + 1) 77 i0 (.agg #[.int .i64 0, .int .i64 0, .int .i64 0, .bool false]) 4 32 Try.underlying30 hi hz0 hz1 hz2 rfl (by decide) _ _ _ rfl ((hown.alloc _).alloc _) ⟨wr.heap.size + 1, 0, none⟩ 1 1 [.int .i64 x.dom, .int .i64 x.vir, .int .i64 x.phy, .bool true] rfl rfl (cells_at (by simp) _ _) ?c2 ?c3 ?c4 ?c5 ?_; (case c2 => (intro u hu; simp only [List.mem_cons, List.not_mem_nil, or_false] at hu; rcases hu with rfl | rfl | rfl | rfl <;> rfl)); (case c3 => (unfold maxLen; omega)); (case c4 => omega); (case c5 => (simp only [World.size_alloc]; omega)); intro v1 w1 hown1 hg1 hn1; have hba : Below wr.heap.size wr ((wr.alloc (.cells #[.int .i64 x.dom, .int .i64 x.vir, .int .i64 x.phy, .bool true] 77)).alloc (.cells #[.int .i64 x.dom, .int .i64 x.vir, .int .i64 x.phy, .bool true] 77)) := (by go_grown); have hb1 : Below w.heap.size w w1 := below_app ((hbw.alloc hsz _).alloc (by simp only [World.size_alloc]; omega) _) (own_base ((hown.alloc _).alloc _) (by omega)) hg1 (by simp only [World.size_alloc]; omega); have m0 := cell_off hg1 (ccell hba _ _ _ m0) (fun g h1 => by have := (hown.lt g h1).1; omega); have d0 := cell_off hg1 (ccell hba _ _ _ d0) (fun g h1 => by have := (hown.lt g h1).1; omega); have fd0 := frozen_ne (o := 0) hg1 (Nat.lt_of_lt_of_le zd hba.size) ((hba.frozen (p := ⟨w.heap.size + 1, 0, none⟩) zd).trans fd0) (fun e => by have := (hown.lt _ e).1; omega); clear hba hg1 hn1)
      go_roundw
      case rel => exact ⟨k + 1, v1, by omega, by go_num, rfl, by rw [HX2.out, List.flatMap_append]; exact hown1, hb1, m0, d0, fd0⟩
      case measure => simp [intOf]; omega
    · have hkn : n = k := by omega
      subst hkn
      have htk : l.take n = l := List.take_of_length_le (by have := HN.out; omega)
      rw [htk] at hown
      have hlo : (openL l).length = n := by rw [openL, List.length_map]; exact HN.out
      obtain ⟨A9, c9, rfl, _, _, _⟩ := own_form hown
      go_wp2_with fail
      refine (specDmaWrite_c _ _ _ _ _ _ (openL l) pg _ hlo hn' hm hm' (Reads.of_own hown) (hr'.to hbw) d at_ s ha hs).mono ?_
      rintro e w1 ⟨A2, c2, rfl, ho, hb⟩
      obtain ⟨d0, fd0, zd0⟩ := own_cell hb d0 fd0
      have k1 := ext_step hbw hsz hb
      have q1 := fun g hg => (ho.lt g hg).1
      have ho := own_base ho (base' := w.heap.size) hsz
      go_wp2
      refine bodyPost_ret (v := .tuple #[.agg #[.slice A2 n' c2], .bool (dmaOk (openL l) pg d at_ s.size true)]) (by simp [results, Try.results28, go_sem, d0]) rfl ?_
      rw [dmaOk_open]
      rw [dmaW_open] at ho
      exact ⟨A2, c2, rfl, own_set_ne ho (fun e => by have := q1 _ e; (try dsimp only at this); omega) _, k1.setCell (by show w.heap.size ≤ w.heap.size + 1; omega) _⟩
end Go.Proofs.Ytjeenjblenpinaa
