/- Plain words on runs of device addresses: the parts of a range within pages; reading and writing by them. -/
import Derived.Test.YtnnlagmgdfhaiaaMapsP
import Derived.Test.YtnnlagmgdfhaiaaReadMem
import Derived.Test.YtnnlagmgdfhaiaaWriteMem
namespace Go.Proofs.Ytnnlagmgdfhaiaa
set_option linter.unusedSimpArgs false
set_option linter.unusedVariables false
open Go.RowKit Go.ChangeShapes Go.WideShapes
structure Run where
  at_ : Int
  ln : Int
def Run.cells (x : Run) : List Value := [.int .i64 x.at_, .int .i64 x.ln]
/-- How many bytes of n lie in the page of at. -/
def kk (at_ n : Int) : Int := if n ≤ 128 - at_ % 128 then n else 128 - at_ % 128
/-- Whether the page of a device address is there, in a memory of np pages. -/
def runOk (l : List Mapping) (np : Nat) (d : Int) (wr : Bool) (at_ : Int) : Bool := decide (0 ≤ placeI l d at_ wr) && decide (placeI l d at_ wr / 128 < (np : Int))
def runsG (l : List Mapping) (np : Nat) (d : Int) (wr : Bool) : Nat → Int → Int → Option (List Run)
  | 0, _, _ => some []
  | f + 1, at_, n => if 0 < n then (if runOk l np d wr at_ then (runsG l np d wr f (at_ + kk at_ n) (n - kk at_ n)).map (⟨placeI l d at_ wr, kk at_ n⟩ :: ·) else none) else some []
def runsI (l : List Mapping) (pg : List ByteArray) (d at_ n : Int) (wr : Bool) : Option (List Run) :=
  if mapsB l && (memB pg && inB n 0 4096) then runsG l pg.length d wr 4097 at_ n else none
theorem kk_bd {at_ n : Int} (h : 0 < n) (h0 : 0 ≤ at_) : 0 < kk at_ n ∧ kk at_ n ≤ n ∧ kk at_ n ≤ 128 - at_ % 128 := by
  unfold kk; split <;> omega
theorem placeI_bd {l : List Mapping} (h : mapsB l = true) (d a : Int) (wr : Bool) : -1 ≤ placeI l d a wr ∧ placeI l d a wr ≤ 8191 := by
  have := pgI_bd h d (a / 128) wr
  unfold placeI
  split
  · omega
  · split <;> omega
theorem placeI_neg {l : List Mapping} {d a : Int} {wr : Bool} (h : a < 0) : placeI l d a wr = -1 := by rw [placeI, if_pos h]
theorem pgI_vir {l : List Mapping} (h : mapsB l = true) {d v : Int} {wr : Bool} (hp : 0 ≤ pgI l d v wr) : 0 ≤ v ∧ v ≤ 1023 := by
  rcases pm_bd l d v with h1 | ⟨k, x, h1, hx, hh⟩
  · rw [pgI_no wr h1] at hp; omega
  · obtain ⟨hi, _⟩ := mapsB_el h hx
    have := mapIn_bd hi
    simp only [hitM, Bool.and_eq_true, decide_eq_true_eq] at hh
    omega
theorem placeI_pos {l : List Mapping} (h : mapsB l = true) {d a : Int} {wr : Bool} (hp : 0 ≤ placeI l d a wr) : 0 ≤ a ∧ a ≤ 131071 ∧ placeI l d a wr = pgI l d (a / 128) wr * 128 + a % 128 ∧ 0 ≤ pgI l d (a / 128) wr := by
  unfold placeI at hp
  split at hp
  · omega
  · rename_i h0
    split at hp
    · omega
    · rename_i h1
      have h2 := pgI_vir h (d := d) (v := a / 128) (wr := wr) (by omega)
      refine ⟨by omega, by omega, ?_, by omega⟩
      rw [placeI, if_neg h0, if_neg h1]
theorem runsG_zero {l : List Mapping} {np : Nat} {d : Int} {wr : Bool} {at_ n : Int} (h : ¬ 0 < n) : ∀ f, runsG l np d wr f at_ n = some []
  | 0 => rfl
  | f + 1 => by rw [runsG, if_neg h]
theorem runsG_no {l : List Mapping} {np : Nat} {d : Int} {wr : Bool} {at_ n : Int} {f : Nat} (h : 0 < n) (hr : runOk l np d wr at_ = false) : runsG l np d wr (f + 1) at_ n = none := by
  rw [runsG, if_pos h, hr]; rfl
theorem runsG_yes {l : List Mapping} {np : Nat} {d : Int} {wr : Bool} {at_ n : Int} {f : Nat} (h : 0 < n) (hr : runOk l np d wr at_ = true) : runsG l np d wr (f + 1) at_ n = (runsG l np d wr f (at_ + kk at_ n) (n - kk at_ n)).map (⟨placeI l d at_ wr, kk at_ n⟩ :: ·) := by
  rw [runsG, if_pos h, hr]; rfl
/-- The runs that are found so far, before those that are still to come. -/
def preR (xs : List Run) (o : Option (List Run)) : Option (List Run) := o.map (xs ++ ·)
theorem preR_nil (o : Option (List Run)) : preR [] o = o := by cases o <;> rfl
theorem preR_step {l : List Mapping} {np : Nat} {d : Int} {wr : Bool} {at_ n : Int} {f : Nat} (xs : List Run) (h : 0 < n) (hr : runOk l np d wr at_ = true) :
    preR (xs ++ [⟨placeI l d at_ wr, kk at_ n⟩]) (runsG l np d wr f (at_ + kk at_ n) (n - kk at_ n)) = preR xs (runsG l np d wr (f + 1) at_ n) := by
  rw [runsG_yes h hr]
  cases runsG l np d wr f (at_ + kk at_ n) (n - kk at_ n) <;> simp [preR]
theorem preR_no {l : List Mapping} {np : Nat} {d : Int} {wr : Bool} {at_ n : Int} {f : Nat} (xs : List Run) (h : 0 < n) (hr : runOk l np d wr at_ = false) : preR xs (runsG l np d wr (f + 1) at_ n) = none := by
  rw [runsG_no h hr]; rfl
/-- A run that exists lies in the memory. -/
theorem runOk_t {l : List Mapping} {pg : List ByteArray} {d : Int} {wr : Bool} {at_ n : Int} (hm : mapsB l = true) (hp : memB pg = true) (h0 : 0 < n) (h : runOk l pg.length d wr at_ = true) :
    0 ≤ at_ ∧ at_ ≤ 131071 ∧ 0 ≤ placeI l d at_ wr ∧ 0 < kk at_ n ∧ kk at_ n ≤ n ∧ withB pg (placeI l d at_ wr) (kk at_ n) = true := by
  simp only [runOk, Bool.and_eq_true, decide_eq_true_eq] at h
  obtain ⟨a0, a1, a2, a3⟩ := placeI_pos hm h.1
  have hk := kk_bd h0 a0
  refine ⟨a0, a1, h.1, hk.1, hk.2.1, ?_⟩
  simp only [withB, hp, Bool.true_and, Bool.and_eq_true, decide_eq_true_eq]
  omega
theorem runOk_f {l : List Mapping} {pg : List ByteArray} {d : Int} {wr : Bool} {at_ n : Int} (hm : mapsB l = true) (hp : memB pg = true) (h0 : 0 < n) (h : runOk l pg.length d wr at_ = false) (h1 : 0 ≤ placeI l d at_ wr) :
    withB pg (placeI l d at_ wr) (kk at_ n) = false := by
  obtain ⟨a0, a1, a2, a3⟩ := placeI_pos hm h1
  have hk := kk_bd h0 a0
  have h2 : ¬ placeI l d at_ wr / 128 < (pg.length : Int) := by
    intro hc
    simp [runOk, h1, hc] at h
  rw [Bool.eq_false_iff]
  intro hc
  simp only [withB, hp, Bool.true_and, Bool.and_eq_true, decide_eq_true_eq] at hc
  omega
/-- Every run lies in the memory, and their lengths together are n. -/
def sumR (rs : List Run) : Int := (rs.map (·.ln)).sum
theorem runsG_ok {l : List Mapping} {pg : List ByteArray} {d : Int} {wr : Bool} (hm : mapsB l = true) (hp : memB pg = true) : ∀ (f : Nat) (at_ n : Int) (rs : List Run), n ≤ f → 0 ≤ n → runsG l pg.length d wr f at_ n = some rs →
    (∀ r ∈ rs, 0 ≤ r.at_ ∧ 0 < r.ln ∧ r.ln ≤ 128 ∧ withB pg r.at_ r.ln = true) ∧ sumR rs = n ∧ rs.length ≤ f
  | 0, at_, n, rs, hf, h0, h => by
    rw [runsG] at h; injection h with h; subst h
    exact ⟨by simp, by simp [sumR]; omega, by simp⟩
  | f + 1, at_, n, rs, hf, h0, h => by
    by_cases hn : 0 < n
    · cases hr : runOk l pg.length d wr at_
      · rw [runsG_no hn hr] at h; cases h
      · obtain ⟨b0, b1, b2, b3, b4, b5⟩ := runOk_t hm hp hn hr
        rw [runsG_yes hn hr] at h
        cases hg : runsG l pg.length d wr f (at_ + kk at_ n) (n - kk at_ n) with
        | none => rw [hg] at h; cases h
        | some rs' =>
          rw [hg] at h
          injection h with h
          subst h
          obtain ⟨c1, c2, c3⟩ := runsG_ok hm hp f _ _ rs' (by omega) (by omega) hg
          have hk := kk_bd hn b0
          refine ⟨?_, by simp [sumR] at c2 ⊢; omega, by simp; omega⟩
          intro r hr'
          rcases List.mem_cons.1 hr' with rfl | hr'
          · exact ⟨b2, b3, (show kk at_ n ≤ 128 by have := Int.emod_nonneg at_ (show (128 : Int) ≠ 0 by omega); omega), b5⟩
          · exact c1 r hr'
    · rw [runsG_zero hn] at h; injection h with h; subst h
      exact ⟨by simp, by simp [sumR]; omega, by simp⟩
theorem runsI_t {l : List Mapping} {pg : List ByteArray} {d at_ n : Int} {wr : Bool} {rs : List Run} (h : runsI l pg d at_ n wr = some rs) :
    mapsB l = true ∧ memB pg = true ∧ 0 ≤ n ∧ n ≤ 4096 ∧ (∀ r ∈ rs, 0 ≤ r.at_ ∧ 0 < r.ln ∧ r.ln ≤ 128 ∧ withB pg r.at_ r.ln = true) ∧ sumR rs = n ∧ rs.length ≤ 4097 := by
  unfold runsI at h
  split at h
  · rename_i hc
    simp only [Bool.and_eq_true] at hc
    obtain ⟨h1, h2, h3⟩ := hc
    obtain ⟨b1, b2⟩ := inB_t h3
    obtain ⟨c1, c2, c3⟩ := runsG_ok h1 h2 4097 at_ n rs (by omega) b1 h
    exact ⟨h1, h2, b1, b2, c1, c2, c3⟩
  · cases h
/-- The bytes of the runs, one behind the other. -/
def catR (pg : List ByteArray) (rs : List Run) : ByteArray := rs.foldl (fun out r => out ++ readB pg r.at_ r.ln) ByteArray.empty
def dmaOk (l : List Mapping) (pg : List ByteArray) (d at_ n : Int) (wr : Bool) : Bool := (runsI l pg d at_ n wr).isSome
def runsD (l : List Mapping) (pg : List ByteArray) (d at_ n : Int) (wr : Bool) : List Run := (runsI l pg d at_ n wr).getD []
theorem runsD_no {l : List Mapping} {pg : List ByteArray} {d at_ n : Int} {wr : Bool} (h : runsI l pg d at_ n wr = none) : runsD l pg d at_ n wr = [] := by rw [runsD, h]; rfl
theorem dmaOk_no {l : List Mapping} {pg : List ByteArray} {d at_ n : Int} {wr : Bool} (h : runsI l pg d at_ n wr = none) : dmaOk l pg d at_ n wr = false := by rw [dmaOk, h]; rfl
theorem runsD_yes {l : List Mapping} {pg : List ByteArray} {d at_ n : Int} {wr : Bool} {rs : List Run} (h : runsI l pg d at_ n wr = some rs) : runsD l pg d at_ n wr = rs := by rw [runsD, h]; rfl
theorem dmaOk_yes {l : List Mapping} {pg : List ByteArray} {d at_ n : Int} {wr : Bool} {rs : List Run} (h : runsI l pg d at_ n wr = some rs) : dmaOk l pg d at_ n wr = true := by rw [dmaOk, h]; rfl
/-- What is read, behind the runs. -/
def dmaR (l : List Mapping) (pg : List ByteArray) (d at_ n : Int) : ByteArray := catR pg (runsD l pg d at_ n false)
/-- The pages behind writes of the runs. -/
def putR : List ByteArray → List Run → ByteArray → List ByteArray
  | pg, [], _ => pg
  | pg, r :: rs, s => putR (writeL pg r.at_ (s.extract 0 r.ln.toNat)) rs (s.extract r.ln.toNat s.size)
def dmaW (l : List Mapping) (pg : List ByteArray) (d at_ : Int) (s : ByteArray) (wr : Bool) : List ByteArray := putR pg (runsD l pg d at_ s.size wr) s
theorem catR_next {pg : List ByteArray} {rs : List Run} {k : Nat} {x : Run} (hx : rs[k]? = some x) : catR pg (rs.take (k + 1)) = catR pg (rs.take k) ++ readB pg x.at_ x.ln := by
  rw [take_next hx, catR, List.foldl_append]; rfl
theorem readG_size {pg : List ByteArray} (hm : memB pg = true) : ∀ (f a n : Nat) (out : ByteArray), n < f → a + n ≤ 128 * pg.length → (readG pg f a n out).size = out.size + n
  | 0, a, n, out, hf, _ => by omega
  | f + 1, a, n, out, hf, ha => by
    rw [readG]
    by_cases hn : 0 < n
    · rw [if_pos hn]
      have h1 : partN a n ≤ n := Nat.min_le_left _ _
      have h2 : 0 < partN a n := by unfold partN; omega
      have h3 : partN a n ≤ 128 - a % 128 := Nat.min_le_right _ _
      have hlt : a / 128 < pg.length := by omega
      have hx : pg[a / 128]? = some pg[a / 128] := List.getElem?_eq_getElem hlt
      have hs := memB_el hm hx
      rw [readG_size hm f _ _ _ (by omega) (by omega), ByteArray.size_append, ByteArray.size_extract, List.getD_eq_getElem?_getD, hx, Option.getD_some, hs]
      omega
    · rw [if_neg hn]; omega
theorem readB_size {pg : List ByteArray} {a n : Int} (h : withB pg a n = true) : ((readB pg a n).size : Int) = n := by
  obtain ⟨h1, h2, h3, h4⟩ := withB_t h
  rw [readB, h, if_pos rfl, readG_size h1 _ _ _ _ (by omega) (by omega)]
  simp; omega
theorem runsD_ok {l : List Mapping} {pg : List ByteArray} {d at_ n : Int} {wr : Bool} : (∀ r ∈ runsD l pg d at_ n wr, 0 ≤ r.at_ ∧ 0 < r.ln ∧ r.ln ≤ 128 ∧ withB pg r.at_ r.ln = true) ∧ (runsD l pg d at_ n wr).length ≤ 4097 ∧ (dmaOk l pg d at_ n wr = true → sumR (runsD l pg d at_ n wr) = n) := by
  cases h : runsI l pg d at_ n wr with
  | none => rw [runsD_no h, dmaOk_no h]; simp
  | some rs =>
    rw [runsD_yes h]
    obtain ⟨_, _, _, _, h1, h2, h3⟩ := runsI_t h
    exact ⟨h1, h3, fun _ => h2⟩
theorem runsD_nok {l : List Mapping} {pg : List ByteArray} {d at_ n : Int} {wr : Bool} (h : dmaOk l pg d at_ n wr = false) : runsD l pg d at_ n wr = [] := by
  cases h2 : runsI l pg d at_ n wr with
  | none => exact runsD_no h2
  | some rs => rw [dmaOk_yes h2] at h; cases h
theorem catR_size {pg : List ByteArray} {rs : List Run} (h : ∀ r ∈ rs, 0 ≤ r.at_ ∧ 0 < r.ln ∧ r.ln ≤ 128 ∧ withB pg r.at_ r.ln = true) : ∀ k, k ≤ rs.length → (catR pg (rs.take k)).size ≤ 128 * k
  | 0, _ => by simp [catR]
  | k + 1, hk => by
    have hx : rs[k]? = some rs[k] := List.getElem?_eq_getElem (by omega)
    have h1 := catR_size h k (by omega)
    obtain ⟨b1, b2, b3, b4⟩ := h _ (List.mem_of_getElem? hx)
    have h2 := readB_size b4
    rw [catR_next hx, ByteArray.size_append]
    omega
theorem writeG_len' : ∀ (f : Nat) (l : List ByteArray) (a : Nat) (s : ByteArray), (writeG f l a s).length = l.length
  | 0, _, _, _ => rfl
  | f + 1, l, a, s => by
    rw [writeG]
    split
    · rw [writeG_len' f]; simp
    · rfl
theorem writeL_len' (l : List ByteArray) (at_ : Int) (s : ByteArray) : (writeL l at_ s).length = l.length := by
  rw [writeL]
  split
  · exact writeG_len' _ _ _ _
  · rfl
theorem putR_len : ∀ (rs : List Run) (pg : List ByteArray) (s : ByteArray), (putR pg rs s).length = pg.length
  | [], pg, s => rfl
  | r :: rs, pg, s => by rw [putR, putR_len rs, writeL_len']
theorem dmaW_len (l : List Mapping) (pg : List ByteArray) (d at_ : Int) (s : ByteArray) (wr : Bool) : (dmaW l pg d at_ s wr).length = pg.length := putR_len _ _ _
theorem putR_step {rs : List Run} {k : Nat} {x : Run} (hx : rs[k]? = some x) (pg : List ByteArray) (s : ByteArray) : putR pg (rs.drop k) s = putR (writeL pg x.at_ (s.extract 0 x.ln.toNat)) (rs.drop (k + 1)) (s.extract x.ln.toNat s.size) := by
  have hk : k < rs.length := (List.getElem?_eq_some_iff.1 hx).1
  have hxe : rs[k] = x := (List.getElem?_eq_some_iff.1 hx).2
  rw [List.drop_eq_getElem_cons hk, hxe, putR]
theorem sumR_step {rs : List Run} {k : Nat} {x : Run} (hx : rs[k]? = some x) : sumR (rs.drop k) = x.ln + sumR (rs.drop (k + 1)) := by
  have hk : k < rs.length := (List.getElem?_eq_some_iff.1 hx).1
  have hxe : rs[k] = x := (List.getElem?_eq_some_iff.1 hx).2
  rw [List.drop_eq_getElem_cons hk, hxe]; simp [sumR]
theorem sumR_nonneg {pg : List ByteArray} {rs : List Run} (h : ∀ r ∈ rs, 0 ≤ r.at_ ∧ 0 < r.ln ∧ r.ln ≤ 128 ∧ withB pg r.at_ r.ln = true) : 0 ≤ sumR rs := by
  induction rs with
  | nil => simp [sumR]
  | cons r rs ih =>
    have h1 := h r (by simp)
    have h2 := ih fun r hr => h r (by simp [hr])
    simp [sumR] at h2 ⊢
    omega
end Go.Proofs.Ytnnlagmgdfhaiaa
