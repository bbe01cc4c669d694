/- Plain laws on writes and reads of a device, and on valid mappings. -/
import Derived.Test.YtnnlagmgdfhaiaaView
namespace Go.Proofs.Ytnnlagmgdfhaiaa
set_option linter.unusedSimpArgs false
set_option linter.unusedVariables false
open Go.RowKit Go.ChangeShapes Go.WideShapes
/-- The physical addresses of a range of device addresses. -/
def plc (l : List Mapping) (d : Int) (wr : Bool) (at_ : Int) (n : Nat) : List Nat := (List.range n).map fun (j : Nat) => (placeI l d (at_ + (j : Int)) wr).toNat
def okA (l : List Mapping) (np : Nat) (d : Int) (wr : Bool) (at_ : Int) (n : Nat) : Prop := ∀ j : Nat, j < n → 0 ≤ placeI l d (at_ + (j : Int)) wr ∧ placeI l d (at_ + (j : Int)) wr < 128 * (np : Int)
theorem plc_add (l : List Mapping) (d : Int) (wr : Bool) (at_ : Int) (m n : Nat) : plc l d wr at_ (m + n) = plc l d wr at_ m ++ plc l d wr (at_ + (m : Int)) n := by
  simp [plc, List.range_add, List.map_append, List.map_map, Function.comp_def, Int.add_assoc]
theorem plc_len (l : List Mapping) (d : Int) (wr : Bool) (at_ : Int) (n : Nat) : (plc l d wr at_ n).length = n := by simp [plc]
theorem okA_add {l : List Mapping} {np : Nat} {d : Int} {wr : Bool} {at_ : Int} {m n : Nat} : okA l np d wr at_ (m + n) ↔ okA l np d wr at_ m ∧ okA l np d wr (at_ + (m : Int)) n := by
  constructor
  · intro h
    refine ⟨fun j hj => h j (by omega), fun j hj => ?_⟩
    have := h (m + j) (by omega)
    rwa [show at_ + ((m + j : Nat) : Int) = at_ + (m : Int) + (j : Int) by omega] at this
  · rintro ⟨h1, h2⟩ j hj
    by_cases hm : j < m
    · exact h1 j hm
    · have := h2 (j - m) (by omega)
      rwa [show at_ + (m : Int) + ((j - m : Nat) : Int) = at_ + (j : Int) by omega] at this
theorem place_in {l : List Mapping} {d a : Int} {wr : Bool} {j : Nat} (h : 0 ≤ placeI l d a wr) (hj : (j : Int) < 128 - a % 128) : placeI l d (a + (j : Int)) wr = placeI l d a wr + (j : Int) := by
  unfold placeI at *
  by_cases ha : a < 0
  · rw [if_pos ha] at h; omega
  · rw [if_neg ha] at h ⊢
    rw [if_neg (show ¬ a + (j : Int) < 0 by omega), show (a + (j : Int)) / 128 = a / 128 by omega]
    by_cases hp : pgI l d (a / 128) wr < 0
    · rw [if_pos hp] at h; omega
    · rw [if_neg hp, if_neg hp]; omega
theorem place_bad {l : List Mapping} {d a : Int} {wr : Bool} (h : 0 ≤ placeI l d a wr) : placeI l d a wr % 128 = a % 128 := by
  unfold placeI at *
  by_cases ha : a < 0
  · rw [if_pos ha] at h; omega
  · rw [if_neg ha] at h ⊢
    by_cases hp : pgI l d (a / 128) wr < 0
    · rw [if_pos hp] at h; omega
    · rw [if_neg hp]; omega
theorem runOk_iff {l : List Mapping} {np : Nat} {d : Int} {wr : Bool} {a n : Int} (h0 : 0 < n) (h : runOk l np d wr a = true) : okA l np d wr a (kk a n).toNat := by
  simp only [runOk, Bool.and_eq_true, decide_eq_true_eq] at h
  intro j hj
  have hb := place_bad h.1
  have hk : kk a n ≤ 128 - a % 128 := by unfold kk; split <;> omega
  rw [place_in h.1 (by omega)]
  omega
/-- The addresses of runs. -/
def runA (rs : List Run) : List Nat := rs.flatMap fun r => (List.range r.ln.toNat).map (r.at_.toNat + ·)
theorem runsG_addr {l : List Mapping} {np : Nat} {d : Int} {wr : Bool} : ∀ (f : Nat) (at_ n : Int) (rs : List Run), n ≤ f → 0 ≤ n → runsG l np d wr f at_ n = some rs → runA rs = plc l d wr at_ n.toNat ∧ okA l np d wr at_ n.toNat
  | 0, at_, n, rs, hf, h0, h => by
    rw [runsG] at h; injection h with h; subst h
    rw [show n = 0 by omega]
    exact ⟨rfl, fun j hj => by simp at hj⟩
  | f + 1, at_, n, rs, hf, h0, h => by
    by_cases hn : 0 < n
    · cases hr : runOk l np d wr at_
      · rw [runsG_no hn hr] at h; cases h
      · have hok := runOk_iff hn hr
        simp only [runOk, Bool.and_eq_true, decide_eq_true_eq] at hr
        have ha : 0 ≤ at_ := by
          have := hr.1
          unfold placeI at this
          split at this <;> omega
        obtain ⟨k1, k2, k3⟩ := kk_bd hn ha
        rw [runsG_yes hn (by simp [runOk, hr])] at h
        cases hg : runsG l np d wr f (at_ + kk at_ n) (n - kk at_ n) with
        | none => rw [hg] at h; cases h
        | some rs' =>
          rw [hg] at h
          injection h with h
          subst h
          obtain ⟨c1, c2⟩ := runsG_addr f _ _ rs' (by omega) (by omega) hg
          have e1 : n.toNat = (kk at_ n).toNat + (n - kk at_ n).toNat := by omega
          have e2 : ((kk at_ n).toNat : Int) = kk at_ n := by omega
          rw [e1, plc_add, okA_add, e2, ← c1]
          refine ⟨?_, hok, c2⟩
          rw [runA, List.flatMap_cons]
          congr 1
          apply List.map_congr_left
          intro j hj
          have := List.mem_range.1 hj
          dsimp only at this ⊢
          rw [place_in hr.1 (by omega)]
          omega
    · rw [runsG_zero hn] at h; injection h with h; subst h
      rw [show n = 0 by omega]
      exact ⟨rfl, fun j hj => by simp at hj⟩
theorem runsG_some {l : List Mapping} {np : Nat} {d : Int} {wr : Bool} : ∀ (f : Nat) (at_ n : Int), n ≤ f → 0 ≤ n → okA l np d wr at_ n.toNat → ∃ rs, runsG l np d wr f at_ n = some rs
  | 0, at_, n, hf, h0, h => ⟨[], rfl⟩
  | f + 1, at_, n, hf, h0, h => by
    by_cases hn : 0 < n
    · have h1 := h 0 (by omega)
      rw [show at_ + ((0 : Nat) : Int) = at_ by omega] at h1
      have hr : runOk l np d wr at_ = true := by
        simp only [runOk, Bool.and_eq_true, decide_eq_true_eq]; omega
      have ha : 0 ≤ at_ := by
        have := h1.1
        unfold placeI at this
        split at this <;> omega
      obtain ⟨k1, k2, k3⟩ := kk_bd hn ha
      rw [runsG_yes hn hr]
      have e1 : n.toNat = (kk at_ n).toNat + (n - kk at_ n).toNat := by omega
      have e2 : ((kk at_ n).toNat : Int) = kk at_ n := by omega
      rw [e1, okA_add, e2] at h
      obtain ⟨rs, hrs⟩ := runsG_some f (at_ + kk at_ n) (n - kk at_ n) (by omega) (by omega) h.2
      exact ⟨_, by rw [hrs]; rfl⟩
    · exact ⟨[], runsG_zero hn _⟩
theorem dma_iff {l : List Mapping} {pg : List ByteArray} {d at_ n : Int} {wr : Bool} : dmaOk l pg d at_ n wr = true ↔ mapsB l = true ∧ memB pg = true ∧ inB n 0 4096 = true ∧ okA l pg.length d wr at_ n.toNat := by
  constructor
  · intro h
    cases hr : runsI l pg d at_ n wr with
    | none => rw [dmaOk_no hr] at h; cases h
    | some rs =>
      obtain ⟨h1, h2, h3, h4, _⟩ := runsI_t hr
      have hi : inB n 0 4096 = true := by simp [inB, h3, h4]
      rw [runsI, h1, h2, hi] at hr
      exact ⟨h1, h2, hi, (runsG_addr 4097 at_ n rs (by omega) h3 hr).2⟩
  · rintro ⟨h1, h2, h3, h4⟩
    obtain ⟨b1, b2⟩ := inB_t h3
    obtain ⟨rs, hrs⟩ := runsG_some 4097 at_ n (by omega) b1 h4
    exact dmaOk_yes (rs := rs) (by rw [runsI, h1, h2, h3]; exact hrs)
theorem runsD_addr {l : List Mapping} {pg : List ByteArray} {d at_ n : Int} {wr : Bool} (h : dmaOk l pg d at_ n wr = true) : runA (runsD l pg d at_ n wr) = plc l d wr at_ n.toNat := by
  cases hr : runsI l pg d at_ n wr with
  | none => rw [dmaOk_no hr] at h; cases h
  | some rs =>
    rw [runsD_yes hr]
    obtain ⟨h1, h2, h3, h4, _⟩ := runsI_t hr
    have hi : inB n 0 4096 = true := by simp [inB, h3, h4]
    rw [runsI, h1, h2, hi] at hr
    exact (runsG_addr 4097 at_ n rs (by omega) h3 hr).1
theorem catR_bl {pg : List ByteArray} : ∀ (rs : List Run) (out : ByteArray), (∀ r ∈ rs, withB pg r.at_ r.ln = true) → bl (rs.foldl (fun out r => out ++ readB pg r.at_ r.ln) out) = bl out ++ (runA rs).map (byA pg)
  | [], out, _ => by simp [runA]
  | r :: rs, out, h => by
    rw [List.foldl_cons, catR_bl rs _ (fun r' h' => h r' (List.mem_cons_of_mem _ h')), bl_app, readB_bl (h r List.mem_cons_self)]
    simp [runA, rowA, List.map_map, Function.comp_def, List.append_assoc]
theorem dmaR_bl {l : List Mapping} {pg : List ByteArray} {d at_ n : Int} (h : dmaOk l pg d at_ n false = true) : bl (dmaR l pg d at_ n) = (plc l d false at_ n.toNat).map (byA pg) := by
  rw [dmaR, catR, catR_bl _ _ (fun r hr => ((runsD_ok).1 r hr).2.2.2), bl_empty, List.nil_append, runsD_addr h]
theorem putR_mem : ∀ (rs : List Run) (pg : List ByteArray) (s : ByteArray), memB pg = true → memB (putR pg rs s) = true
  | [], pg, s, h => h
  | r :: rs, pg, s, h => by rw [putR]; exact putR_mem rs _ _ (memB_write h _ _)
theorem with_write {pg : List ByteArray} {a n b : Int} {s : ByteArray} (h : withB pg a n = true) : withB (writeL pg b s) a n = true := by
  obtain ⟨h1, h2, h3, h4⟩ := withB_t h
  simp only [withB, memB_write h1, writeL_len', Bool.true_and, Bool.and_eq_true, decide_eq_true_eq]; omega
theorem putR_by : ∀ (rs : List Run) (pg : List ByteArray) (s : ByteArray), (∀ r ∈ rs, 0 ≤ r.at_ ∧ 0 < r.ln ∧ r.ln ≤ 128 ∧ withB pg r.at_ r.ln = true) → sumR rs = s.size → ∀ p, byA (putR pg rs s) p = wf (byA pg) ((runA rs).zip (bl s)) p
  | [], pg, s, h, hs, p => rfl
  | r :: rs, pg, s, h, hs, p => by
    obtain ⟨b1, b2, b3, b4⟩ := h r List.mem_cons_self
    have hrest := sumR_nonneg (fun r' h' => h r' (List.mem_cons_of_mem _ h'))
    have hs' : r.ln + sumR rs = s.size := by simpa [sumR] using hs
    have z1 : (s.extract 0 r.ln.toNat).size = r.ln.toNat := by rw [ByteArray.size_extract]; omega
    have z2 : (s.extract r.ln.toNat s.size).size = s.size - r.ln.toNat := by rw [ByteArray.size_extract]; omega
    have hw : withB pg r.at_ (s.extract 0 r.ln.toNat).size = true := by rw [z1, Int.toNat_of_nonneg (by omega)]; exact b4
    rw [putR, putR_by rs _ _ (fun r' h' => by
      obtain ⟨c1, c2, c3, c4⟩ := h r' (List.mem_cons_of_mem _ h')
      exact ⟨c1, c2, c3, with_write c4⟩) (by rw [z2]; omega)]
    have e : runA (r :: rs) = (List.range r.ln.toNat).map (r.at_.toNat + ·) ++ runA rs := by rw [runA, List.flatMap_cons]; rfl
    rw [e, ← bl_split s r.ln.toNat, List.zip_append (by rw [List.length_map, List.length_range, bl_len, z1]), wf_app]
    refine wf_congr ?_
    rw [writeL_by hw, z1]
theorem dmaW_by {l : List Mapping} {pg : List ByteArray} {d at_ : Int} {s : ByteArray} {wr : Bool} (h : dmaOk l pg d at_ s.size wr = true) (p : Nat) : byA (dmaW l pg d at_ s wr) p = wf (byA pg) ((plc l d wr at_ s.size).zip (bl s)) p := by
  have := runsD_addr h
  rw [Int.toNat_natCast] at this
  rw [dmaW, putR_by _ _ _ (runsD_ok).1 ((runsD_ok).2.2 h), this]
theorem dmaW_no {l : List Mapping} {pg : List ByteArray} {d at_ : Int} {s : ByteArray} {wr : Bool} (h : dmaOk l pg d at_ s.size wr = false) : dmaW l pg d at_ s wr = pg := by rw [dmaW, runsD_nok h]; rfl
theorem dmaW_mem {l : List Mapping} {pg : List ByteArray} {d at_ : Int} {s : ByteArray} {wr : Bool} (h : memB pg = true) : memB (dmaW l pg d at_ s wr) = true := putR_mem _ _ _ h
/-- A place that may be written can be read. -/
theorem pg_rd {l : List Mapping} {d v : Int} (h : 0 ≤ pgI l d v true) : pgI l d v false = pgI l d v true := by
  unfold pgI at *
  split at h
  · rename_i x hx
    split at h
    · omega
    · rename_i h0
      rw [if_neg h0, if_neg h0]
      split at h
      · omega
      · rename_i h1
        rw [if_neg h1, if_neg (by simp)]
  · omega
theorem place_rd {l : List Mapping} {d a : Int} (h : 0 ≤ placeI l d a true) : placeI l d a false = placeI l d a true := by
  unfold placeI at *
  by_cases ha : a < 0
  · rw [if_pos ha] at h; omega
  · rw [if_neg ha] at h ⊢
    rw [if_neg ha]
    by_cases hp : pgI l d (a / 128) true < 0
    · rw [if_pos hp] at h; omega
    · rw [if_neg hp, pg_rd (by omega), if_neg hp]
theorem okA_rd {l : List Mapping} {np : Nat} {d : Int} {at_ : Int} {n : Nat} (h : okA l np d true at_ n) : okA l np d false at_ n ∧ plc l d false at_ n = plc l d true at_ n := by
  refine ⟨fun j hj => ?_, ?_⟩
  · have := h j hj
    rw [place_rd this.1]; exact this
  · apply List.map_congr_left
    intro j hj
    have := h j (List.mem_range.1 hj)
    rw [place_rd this.1]
/-- What FnDmaRound asks. -/
theorem dma_round {l : List Mapping} {pg : List ByteArray} {d at_ : Int} {s : ByteArray} (h : dmaOk l pg d at_ s.size true = true) :
    dmaOk l (dmaW l pg d at_ s true) d at_ s.size false = true ∧ (dmaR l (dmaW l pg d at_ s true) d at_ s.size).size = s.size ∧ ((plc l d false at_ s.size).Nodup → dmaR l (dmaW l pg d at_ s true) d at_ s.size = s) := by
  obtain ⟨h1, h2, h3, h4⟩ := dma_iff.1 h
  rw [Int.toNat_natCast] at h4
  obtain ⟨h5, h6⟩ := okA_rd h4
  have hok : dmaOk l (dmaW l pg d at_ s true) d at_ s.size false = true := dma_iff.2 ⟨h1, dmaW_mem h2, h3, by rw [dmaW_len, Int.toNat_natCast]; exact h5⟩
  have hb := dmaR_bl hok
  rw [Int.toNat_natCast] at hb
  refine ⟨hok, by rw [← bl_len, hb, List.length_map, plc_len], fun hn => bl_ext ?_⟩
  rw [hb]
  apply List.ext_getElem
  · rw [List.length_map, plc_len, bl_len]
  · intro j g1 g2
    rw [List.getElem_map, dmaW_by h, ← h6]
    exact wf_at (i := j) hn (List.getElem?_eq_getElem _) (List.getElem?_eq_getElem _)
/-- Valid mappings, word for word. -/
def keyNe (x y : Mapping) : Prop := ¬ (x.dom = y.dom ∧ x.vir = y.vir)
theorem maps_iff {l : List Mapping} : mapsB l = true ↔ l.length ≤ 96 ∧ (∀ x ∈ l, mapIn x = true) ∧ l.Pairwise keyNe := by
  constructor
  · intro h
    refine ⟨mapsB_len h, fun x hx => ?_, ?_⟩
    · obtain ⟨k, hk⟩ := List.getElem?_of_mem hx
      exact (mapsB_el h hk).1
    · rw [List.pairwise_iff_getElem]
      intro i j hi hj hij hc
      have h1 := (mapsB_el h (List.getElem?_eq_getElem hi)).2
      have h2 := (mapsB_el h (List.getElem?_eq_getElem hj)).2
      rw [hc.1, hc.2, h2] at h1
      omega
  · rintro ⟨h1, h2, h3⟩
    rw [mapsB, Bool.and_eq_true, decide_eq_true_eq]
    refine ⟨?_, h1⟩
    rw [mapsR, List.all_eq_true]
    intro i hi
    have hi := List.mem_range.1 hi
    rw [List.getElem?_eq_getElem hi]
    simp only [Bool.and_eq_true, decide_eq_true_eq]
    refine ⟨h2 _ (List.getElem_mem hi), pm_at ?_ (List.getElem?_eq_getElem hi) (by simp [hitM])⟩
    rw [List.all_eq_true]
    intro y hy
    obtain ⟨j, hj, e⟩ := List.mem_take_iff_getElem.1 hy
    rw [List.pairwise_iff_getElem] at h3
    have := h3 j i (by omega) hi (by omega)
    rw [e] at this
    simp only [Bool.not_eq_true', hitM, Bool.and_eq_false_iff, decide_eq_false_iff_not]
    by_cases hd : y.dom = l[i].dom
    · right; exact fun hv => this ⟨hd, hv⟩
    · left; exact hd
end Go.Proofs.Ytnnlagmgdfhaiaa
