/- Contracts of PiecesApart: impl and spec. -/
import Derived.Test.YtnnlagmgdfhaiaaPiecesOk
import Derived.Test.YtnnlagmgdfhaiaaTrans
import Derived.Test.YtnnlagmgdfhaiaaRunsP
import Derived.Test.YtnnlagmgdfhaiaaSlots4
namespace Go.Proofs.Ytnnlagmgdfhaiaa
set_option linter.unusedSimpArgs false
set_option linter.unusedVariables false
open Go.RowKit Go.ChangeShapes Go.WideShapes
/-- The device addresses of a piece; of pieces. -/
def addrP (x : Piece) : List Int := (List.range x.ln.toNat).map fun i : Nat => wrap64 (x.at_ + (i : Int))
def addrsP (ps : List Piece) : List Int := ps.flatMap addrP
/-- Whether each address has a place, no two the same. -/
def seenG (l : List Mapping) (d : Int) : List Int → List Int → Bool
  | [], _ => true
  | a :: ax, acc => !(decide (transI l d a false < 0)) && (!(decide (transI l d a false ∈ acc)) && seenG l d ax (acc ++ [transI l d a false]))
def apartB (l : List Mapping) (d : Int) (ps : List Piece) : Bool := piecesB ps && seenG l d (addrsP ps) []
theorem seenG_neg {l : List Mapping} {d a : Int} {ax acc : List Int} (h : transI l d a false < 0) : seenG l d (a :: ax) acc = false := by
  rw [seenG, show decide (transI l d a false < 0) = true by simpa using h]; rfl
theorem seenG_mem {l : List Mapping} {d a : Int} {ax acc : List Int} (h : transI l d a false ∈ acc) : seenG l d (a :: ax) acc = false := by
  rw [seenG, show decide (transI l d a false ∈ acc) = true by simpa using h]; simp
theorem seenG_new {l : List Mapping} {d a q : Int} {ax acc : List Int} (hq : transI l d a false = q) (h0 : 0 ≤ q) (h : ¬ q ∈ acc) : seenG l d (a :: ax) acc = seenG l d ax (acc ++ [q]) := by
  rw [seenG, hq, show decide (q < 0) = false by simpa using h0, show decide (q ∈ acc) = false by simpa using h]; rfl
theorem addrP_len (x : Piece) : (addrP x).length = x.ln.toNat := by simp [addrP]
theorem addrP_drop {x : Piece} {j : Nat} (h : j < x.ln.toNat) : (addrP x).drop j = wrap64 (x.at_ + (j : Int)) :: (addrP x).drop (j + 1) := by
  rw [List.drop_eq_getElem_cons (by rw [addrP_len]; exact h)]
  congr 1
  simp [addrP]
theorem addrP_done {x : Piece} {j : Nat} (h : x.ln.toNat ≤ j) : (addrP x).drop j = [] := List.drop_eq_nil_of_le (by rw [addrP_len]; exact h)
theorem addrs_step {ps : List Piece} {k : Nat} {x : Piece} (hx : ps[k]? = some x) : addrsP (ps.drop k) = (addrP x).drop 0 ++ addrsP (ps.drop (k + 1)) := by
  have hk : k < ps.length := (List.getElem?_eq_some_iff.1 hx).1
  have hxe : ps[k] = x := (List.getElem?_eq_some_iff.1 hx).2
  rw [List.drop_eq_getElem_cons hk, hxe, addrsP, List.flatMap_cons]; rfl
theorem trans_bd {l : List Mapping} {d a : Int} (h : 0 ≤ transI l d a false) : transI l d a false ≤ 8191 := by
  unfold transI at *
  split at h
  · rename_i hm; rw [if_pos hm]; exact (placeI_bd hm d a false).2
  · omega
theorem seenG_bad {l : List Mapping} {d : Int} (h : mapsB l = false) : ∀ (ax acc : List Int), seenG l d ax acc = ax.isEmpty
  | [], _ => rfl
  | a :: ax, acc => seenG_neg (by rw [transI, if_neg (by rw [h]; simp)]; omega)
theorem addrs_len {ps : List Piece} (h : ∀ x ∈ ps, 0 ≤ x.ln) : ((addrsP ps).length : Int) = sumP ps := by
  induction ps with
  | nil => rfl
  | cons x ps ih =>
    have h1 := h x (by simp)
    have h2 := ih fun y hy => h y (by simp [hy])
    have h3 : (addrsP (x :: ps)).length = x.ln.toNat + (addrsP ps).length := by rw [addrsP, List.flatMap_cons, List.length_append, addrP_len]; rfl
    rw [h3]; simp [sumP] at h2 ⊢; omega
theorem apart_bad {l : List Mapping} {d : Int} {ps : List Piece} (h : mapsB l = false) (hp : piecesB ps = true) : apartB l d ps = (lenP ps == 0) := by
  have h1 := addrs_len (ps := ps) fun x hx => by
    obtain ⟨k, hk⟩ := List.getElem?_of_mem hx
    exact (piecesB_el hp hk).2.1
  rw [apartB, hp, seenG_bad h, lenP, hp, if_pos rfl, ← h1]
  cases addrsP ps
  · simp
  · simp; omega
def seenC (m : Nat) (xs : List Int) : List Value := (List.range m).map fun j : Nat => .bool (decide ((j : Int) ∈ xs))
theorem seenC_len (m : Nat) (xs : List Int) : (seenC m xs).length = m := by simp [seenC]
theorem seenC_get {m j : Nat} (xs : List Int) (h : j < m) : (seenC m xs)[j]? = some (.bool (decide ((j : Int) ∈ xs))) := by simp [seenC, h]
theorem seenC_set {m j : Nat} (xs : List Int) (h : j < m) : (seenC m xs).set j (.bool true) = seenC m (xs ++ [(j : Int)]) := by
  apply List.ext_getElem?
  intro i
  by_cases hi : i < m
  · rw [seenC_get _ hi]
    by_cases hij : j = i
    · subst hij
      rw [List.getElem?_set_self (by rw [seenC_len]; exact h)]
      simp
    · rw [List.getElem?_set_ne hij, seenC_get _ hi]
      have : ¬ (i : Int) = (j : Int) := by omega
      simp [this]
  · rw [List.getElem?_eq_none (by rw [List.length_set, seenC_len]; omega), List.getElem?_eq_none (by rw [seenC_len]; omega)]
theorem seenC_new (m : Nat) : seenC m [] = List.replicate m (.bool false) := by
  apply List.ext_getElem?
  intro i
  by_cases hi : i < m
  · rw [seenC_get _ hi]; simp [hi]
  · rw [List.getElem?_eq_none (by rw [seenC_len]; omega), List.getElem?_eq_none (by simp; omega)]
theorem made_bool (m : Nat) : (madeCells (.bool false : Value).cells (m * 1)).toList = seenC m [] := by
  rw [seenC_new]
  apply List.ext_getElem?
  intro i
  by_cases hi : i < m
  · have h1 : (madeCells (.bool false : Value).cells (m * 1)).toList[i]? = (madeCells (.bool false : Value).cells (m * 1))[i]? := by simp
    rw [h1]
    simp [madeCells, Value.cells, hi, Nat.mod_one]
  · rw [List.getElem?_eq_none (by rw [madeCells_len]; omega), List.getElem?_eq_none (by simp; omega)]
theorem info_bool : (Try.prog.info? 4).map (fun i => (i.zero, i.size, i.bytes)) = some (some (.bool false), 1, 1) := by kernel_rfl
theorem wrap_i64 (x : Int) : I64 (wrap64 x) := by unfold wrap64; exact ⟨by omega, by omega⟩
set_option maxRecDepth 100000 in
set_option maxHeartbeats 4000000 in
theorem implPiecesApart_c (A A3 : Option Addr) (n c n3 c3 : Nat) (l : List Mapping) (ps : List Piece) (w : World) (hn_a : l.length = n) (hn_p : ps.length = n3) (hs_a : n ≤ 1048576) (hs_p : n3 ≤ 1048576) (r_a : Reads w w.heap.size 4 A n (l.flatMap Mapping.cells)) (r_p : Reads w w.heap.size 2 A3 n3 (ps.flatMap Piece.cells)) (d : Int) (hi3 : ∀ x ∈ ps, x.ok) :
    Calls Try.prog 47 #[.slice A n c, .int .i64 d, .slice A3 n3 c3] w fun e w' => e = .returned (.bool (apartB l d ps)) ∧ Below w.heap.size w w' := by
  cases hok : piecesB ps
  · have hg : apartB l d ps = false := by rw [apartB, hok]; rfl
    rw [hg]
    clear hg
    go_enter Try.func47, Try.ntmps47
    go_wp2_with (go_at_call 104; refine (calls_bool (implPiecesOk_c _ _ _ _ _ hn_p (by omega) r_p) hok).mono ?_; rintro e w1 ⟨rfl, k1⟩)
    go_ret
    exact ⟨rfl, k1⟩
  · have hg : apartB l d ps = seenG l d (addrsP ps) [] := by rw [apartB, hok]; rfl
    rw [hg]
    clear hg
    have HO := Lib.hid hok
    have HN3 := Lib.hid hn_p
    have HI3 := Lib.hid hi3
    clear hi3
    obtain ⟨i0, hi, hz0, hz1, hz2⟩ := info_parts info_bool
    have hmk := fun W => run_make_rowN (P := Try.prog) 112 4 i0 _ 1 1 Try.underlying112 hi hz0 hz1 hz2 8192 8192 (Nat.le_refl _) (by omega) (by omega) W
    rw [made_bool] at hmk
    rw [show ((8192 : Nat) : Int) = 8192 from rfl] at hmk
    have hsl := seenC_len 8192 []
    generalize hs0 : seenC 8192 [] = s0 at hmk
    clear hi hz0 hz1 hz2 hsl
    go_enter Try.func47, Try.ntmps47
    go_wp2_with (go_at_call 104; refine (calls_bool (implPiecesOk_c _ _ _ _ _ hn_p (by omega) r_p) hok).mono ?_; rintro e w1 ⟨rfl, k1⟩)
    clear hok hmk hn_p
    subst hs0
    have z1 := k1.size
    go_loopw [18] (fun i wr => ∃ (k : Nat) (acc : List Int), k ≤ n3 ∧ i = .int .i64 (k : Int) ∧ Below w.heap.size w wr ∧ Blk wr w1.heap.size 4 (seenC 8192 acc) ∧ Hid (seenG l d (addrsP (ps.drop k)) acc = seenG l d (addrsP ps) [])) (fun i _ => n3 - (intOf i).toNat)
    case atStart => exact ⟨0, [], Nat.zero_le _, rfl, by go_grown, Blk.new _ _ _, rfl⟩
    case round =>
      obtain ⟨k, acc, hk, rfl, hbw, hsn, htot⟩ := hrel
      obtain ⟨wo, hwo⟩ : ∃ wo : World, wo = wr := ⟨_, rfl⟩
      subst hwo
      have hsz := hbw.size
      have hgl := hsn.lt
      by_cases hlt : k < n3
      · obtain ⟨b, o, x, rfl, hb, hxx, hcx⟩ := r_p.el (fun _ => rfl) (by decide) HN3.out hlt
        have c0 := (hbw.cell (p := ⟨b, o + k * 2, none⟩) hb).trans (by simpa using hcx 0 _ rfl)
        have c1 := (hbw.cell (p := ⟨b, o + k * 2 + 1, none⟩) hb).trans (by simpa using hcx 1 _ rfl)
        have HXx := Lib.hid hxx
        clear hxx hcx
        obtain ⟨p1, p2, p3⟩ := piecesB_el HO.out HXx.out
        have pI := HI3.out x (List.mem_of_getElem? HXx.out)
        have pa2 : x.at_ ≤ 9223372036854775807 := pI.1.2
        have HST := Lib.hid (addrs_step HXx.out)
        have ht0 : Hid (seenG l d ((addrP x).drop 0 ++ addrsP (ps.drop (k + 1))) acc = seenG l d (addrsP ps) []) := by rw [Hid, ← HST.out]; exact htot.out
        obtain ⟨m, hm⟩ : ∃ m : Nat, x.ln = (m : Int) := ⟨x.ln.toNat, by omega⟩
        have hmt : x.ln.toNat = m := by omega
        have HMT := Lib.hid hmt
        rw [hm] at c1 p2 p3
        clear hmt
        have hm4 : m ≤ 4096 := by omega
        go_wp2
        go_loopw [10] (fun i wr => ∃ (j : Nat) (acc : List Int), j ≤ m ∧ i = .int .i64 (j : Int) ∧ Below w.heap.size w wr ∧ Blk wr wo.heap.size 61 [.int .i64 x.at_, .int .i64 (m : Int)] ∧ Blk wr w1.heap.size 4 (seenC 8192 acc) ∧ Hid (seenG l d ((addrP x).drop j ++ addrsP (ps.drop (k + 1))) acc = seenG l d (addrsP ps) [])) (fun i _ => m - (intOf i).toNat)
        case atStart => exact ⟨0, acc, Nat.zero_le _, rfl, by go_grown, Blk.new _ _ _, hsn.alloc _, ht0⟩
        case round =>
          obtain ⟨j, ac, hj, rfl, hbi, hbx, hse, hto⟩ := hrel
          have hzi := hbi.size
          have bxl := hbx.lt
          have gl := hse.lt
          have b0 := (hbx.cell 0).trans rfl
          have b1 := (hbx.cell 1).trans rfl
          by_cases hlj : j < m
          · have HD := Lib.hid (addrP_drop (x := x) (j := j) (by rw [HMT.out]; exact hlj))
            have hI := wrap_i64 (x.at_ + (j : Int))
            cases ht : decide (transI l d (wrap64 (x.at_ + (j : Int))) false < 0)
            · have ht0 : 0 ≤ transI l d (wrap64 (x.at_ + (j : Int))) false := by simpa using ht
              have ht1 := trans_bd ht0
              obtain ⟨q, hq⟩ : ∃ q : Nat, transI l d (wrap64 (x.at_ + (j : Int))) false = (q : Int) := ⟨_, (Int.toNat_of_nonneg ht0).symm⟩
              have hq8 : q < 8192 := by omega
              have q0 : (0 : Int) ≤ (q : Int) := by omega
              have q1 : (q : Int) < 8192 := by omega
              have HQ := Lib.hid hq
              have g0 := (hse.cell q).trans (seenC_get ac hq8)
              have fz := hse.frozen q
              clear ht ht0 ht1 hq
              cases f2 : decide ((q : Int) ∈ ac)
              · rw [f2] at g0
                have hno : ¬ (q : Int) ∈ ac := by simpa using f2
                have HS := Lib.hid (seenC_set ac hq8)
                have HT2 : Hid (seenG l d ((addrP x).drop (j + 1) ++ addrsP (ps.drop (k + 1))) (ac ++ [(q : Int)]) = seenG l d (addrsP ps) []) := by
                  rw [Hid, ← hto.out, HD.out, List.cons_append, seenG_new HQ.out q0 hno]
                clear f2 hno
                go_wp2_with (go_at_call 30; refine (implTranslate_c _ _ _ l _ hn_a (by omega) ((r_a.below hbi).more hzi) d _ false hI).mono ?_; rintro e w3 ⟨rfl, hb⟩; rw [HQ.out]; have g0 := ccell hb _ _ _ g0; have fz := (hb.frozen (p := ⟨w1.heap.size, q, none⟩) gl).trans fz; have hb2 := ext_step hbi hzi hb; have hbx := hbx.ext hb; have hse := hse.ext hb; have gl3 := hse.lt; clear hb)
                go_roundw
                case rel => exact ⟨j + 1, ac ++ [(q : Int)], by omega, by go_num, hb2.setCell (by show w.heap.size ≤ w1.heap.size; omega) _, by first | exact hbx.far (by show w1.heap.size < wo.heap.size; omega) _, by rw [← HS.out]; exact hse.set_ _ _, HT2⟩
                case measure => simp [intOf]; omega
              · rw [f2] at g0
                have hB : seenG l d (addrsP ps) [] = false := by
                  rw [← hto.out, HD.out, List.cons_append]
                  exact seenG_mem (by rw [HQ.out]; simpa using f2)
                have HB := Lib.hid hB
                clear hB f2
                go_wp2_with (go_at_call 30; refine (implTranslate_c _ _ _ l _ hn_a (by omega) ((r_a.below hbi).more hzi) d _ false hI).mono ?_; rintro e w3 ⟨rfl, hb⟩; rw [HQ.out]; have g0 := ccell hb _ _ _ g0; have hb2 := ext_step hbi hzi hb; clear hb)
                go_ret
                exact ⟨ret_bool HB.out.symm, hb2⟩
            · have hB : seenG l d (addrsP ps) [] = false := by
                rw [← hto.out, HD.out, List.cons_append]
                exact seenG_neg (by simpa using ht)
              have HB := Lib.hid hB
              have hneg : transI l d (wrap64 (x.at_ + (j : Int))) false < 0 := by simpa using ht
              clear hB ht
              go_wp2_with (go_at_call 30; refine (implTranslate_c _ _ _ l _ hn_a (by omega) ((r_a.below hbi).more hzi) d _ false hI).mono ?_; rintro e w3 ⟨rfl, hb⟩; have hb2 := ext_step hbi hzi hb; clear hb)
              go_ret
              exact ⟨ret_bool HB.out.symm, hb2⟩
          · have HT2 : Hid (seenG l d (addrsP (ps.drop (k + 1))) ac = seenG l d (addrsP ps) []) := by
              rw [Hid, ← hto.out, addrP_done (by rw [HMT.out]; omega)]; rfl
            go_wp2
            go_roundw
            case rel => exact ⟨k + 1, ac, by omega, by go_num, hbi, hse, HT2⟩
            case measure => simp [intOf]; omega
      · have hB : seenG l d (addrsP ps) [] = true := by
          rw [← htot.out, List.drop_eq_nil_of_le (by rw [HN3.out]; omega)]; rfl
        have HB := Lib.hid hB
        clear hB
        go_wp2
        go_ret
        exact ⟨ret_bool HB.out.symm, hbw⟩
set_option maxRecDepth 100000 in
set_option maxHeartbeats 4000000 in
theorem specPiecesApart_c (A A3 : Option Addr) (n c n3 c3 : Nat) (l : List Mapping) (ps : List Piece) (w : World) (hn_a : l.length = n) (hn_p : ps.length = n3) (hs_a : n ≤ 1048576) (hs_p : n3 ≤ 1048576) (r_a : Reads w w.heap.size 4 A n (l.flatMap Mapping.cells)) (r_p : Reads w w.heap.size 2 A3 n3 (ps.flatMap Piece.cells)) (d : Int) (hi3 : ∀ x ∈ ps, x.ok) :
    Calls Try.prog 40 #[.slice A n c, .int .i64 d, .slice A3 n3 c3] w fun e w' => e = .returned (.bool (apartB l d ps)) ∧ Below w.heap.size w w' := by
  have OKC := fun (w0 : World) (hb : Below w.heap.size w w0) => specPiecesOk_c A3 n3 c3 ps w0 hn_p (by omega) ((r_p.below hb).more hb.size)
  have MOK := fun (w0 : World) (hb : Below w.heap.size w w0) => specMappingsOk_c A n c l w0 hn_a (by omega) ((r_a.below hb).more hb.size)
  have LEN := fun (w0 : World) (hb : Below w.heap.size w w0) => specPiecesLength_c A3 n3 c3 ps w0 hn_p (by omega) ((r_p.below hb).more hb.size)
  cases hok : piecesB ps
  · have hg : apartB l d ps = false := by rw [apartB, hok]; rfl
    rw [hg]
    clear hg
    go_enter Try.func40, Try.ntmps40
    go_wp2_with fail
    refine (calls_bool (OKC _ (Below.refl _ _)) hok).mono ?_
    rintro e w1 ⟨rfl, k1⟩
    go_wp2_with fail
    refine (calls_bool (OKC _ k1) hok).mono ?_
    rintro e w2 ⟨rfl, hb⟩
    have k2 := ext_step k1 k1.size hb
    go_wp2
    go_ret
    exact ⟨rfl, k2⟩
  · cases hma : mapsB l
    · rw [apart_bad hma hok]
      go_enter Try.func40, Try.ntmps40
      go_wp2_with fail
      refine (calls_bool (OKC _ (Below.refl _ _)) hok).mono ?_
      rintro e w1 ⟨rfl, k1⟩
      go_wp2_with fail
      refine (calls_bool (MOK _ k1) hma).mono ?_
      rintro e w2 ⟨rfl, hb⟩
      have k2 := ext_step k1 k1.size hb
      clear hb
      go_wp2_with fail
      refine (calls_bool (OKC _ k2) hok).mono ?_
      rintro e w3 ⟨rfl, hb⟩
      have k3 := ext_step k2 k2.size hb
      clear hb
      go_wp2_with fail
      refine (LEN _ k3).mono ?_
      rintro e w4 ⟨rfl, hb⟩
      have k4 := ext_step k3 k3.size hb
      clear hb
      go_wp2
      go_ret
      exact ⟨rfl, k4⟩
    · have hg : apartB l d ps = seenG l d (addrsP ps) [] := by rw [apartB, hok]; rfl
      rw [hg]
      clear hg
      have HO := Lib.hid hok
      have HMA := Lib.hid hma
      have HN3 := Lib.hid hn_p
      have HI3 := Lib.hid hi3
      clear hi3
      obtain ⟨i0, hi, hz0, hz1, hz2⟩ := info_parts info_bool
      have hmk := fun W => run_make_rowN (P := Try.prog) 112 4 i0 _ 1 1 Try.underlying112 hi hz0 hz1 hz2 8192 8192 (Nat.le_refl _) (by omega) (by omega) W
      rw [made_bool] at hmk
      rw [show ((8192 : Nat) : Int) = 8192 from rfl] at hmk
      have hsl := seenC_len 8192 []
      generalize hs0 : seenC 8192 [] = s0 at hmk
      clear hi hz0 hz1 hz2 hsl
      go_enter Try.func40, Try.ntmps40
      go_wp2_with fail
      refine (calls_bool (OKC _ (Below.refl _ _)) hok).mono ?_
      rintro e w0 ⟨rfl, k0⟩
      go_wp2_with fail
      refine (calls_bool (MOK _ k0) hma).mono ?_
      rintro e w1 ⟨rfl, hb⟩
      have k1 := ext_step k0 k0.size hb
      clear hb OKC MOK LEN
      go_wp2
      clear hok hmk hn_p hma
      subst hs0
      have z1 := k1.size
      go_loopw [8] (fun i wr => ∃ (k : Nat) (acc : List Int), k ≤ n3 ∧ i = .int .i64 (k : Int) ∧ Below w.heap.size w wr ∧ Blk wr w1.heap.size 4 (seenC 8192 acc) ∧ Hid (seenG l d (addrsP (ps.drop k)) acc = seenG l d (addrsP ps) [])) (fun i _ => n3 - (intOf i).toNat)
      case atStart => exact ⟨0, [], Nat.zero_le _, rfl, by go_grown, Blk.new _ _ _, rfl⟩
      case round =>
        obtain ⟨k, acc, hk, rfl, hbw, hsn, htot⟩ := hrel
        obtain ⟨wo, hwo⟩ : ∃ wo : World, wo = wr := ⟨_, rfl⟩
        subst hwo
        have hsz := hbw.size
        have hgl := hsn.lt
        by_cases hlt : k < n3
        · obtain ⟨b3, o3, x, rfl, hb3, hxx, hcx⟩ := r_p.el (fun _ => rfl) (by decide) HN3.out hlt
          have c0 := ((Below.refl w.heap.size w).cell (p := ⟨b3, o3 + k * 2, none⟩) hb3).trans (by simpa using hcx 0 _ rfl)
          have c1 := ((Below.refl w.heap.size w).cell (p := ⟨b3, o3 + k * 2 + 1, none⟩) hb3).trans (by simpa using hcx 1 _ rfl)
          have HXx := Lib.hid hxx
          clear hxx hcx
          obtain ⟨p1, p2, p3⟩ := piecesB_el HO.out HXx.out
          have pI := HI3.out x (List.mem_of_getElem? HXx.out)
          have pa2 : x.at_ ≤ 9223372036854775807 := pI.1.2
          have HST := Lib.hid (addrs_step HXx.out)
          have ht0 : Hid (seenG l d ((addrP x).drop 0 ++ addrsP (ps.drop (k + 1))) acc = seenG l d (addrsP ps) []) := by rw [Hid, ← HST.out]; exact htot.out
          obtain ⟨m, hm⟩ : ∃ m : Nat, x.ln = (m : Int) := ⟨x.ln.toNat, by omega⟩
          have hmt : x.ln.toNat = m := by omega
          have HMT := Lib.hid hmt
          rw [hm] at c1 p2 p3
          clear hmt
          have hm4 : m ≤ 4096 := by omega
          have i0' : (0 : Int) ≤ (k : Int) := by omega
          have i1' : (k : Int) < (n3 : Int) := by omega
          go_wp2
          go_loopw [9] (fun i wr => ∃ (j : Nat) (acc : List Int), j ≤ m ∧ i = .int .i64 (j : Int) ∧ Below w.heap.size w wr ∧ Blk wr w1.heap.size 4 (seenC 8192 acc) ∧ Hid (seenG l d ((addrP x).drop j ++ addrsP (ps.drop (k + 1))) acc = seenG l d (addrsP ps) [])) (fun i _ => m - (intOf i).toNat)
          case atStart => exact ⟨0, acc, Nat.zero_le _, rfl, hbw, hsn, ht0⟩
          case round =>
            obtain ⟨j, ac, hj, rfl, hbi, hse, hto⟩ := hrel
            have hzi := hbi.size
            have gl := hse.lt
            have b0 := (hbi.cell (p := ⟨b3, o3 + k * 2, none⟩) hb3).trans c0
            have b1 := (hbi.cell (p := ⟨b3, o3 + k * 2 + 1, none⟩) hb3).trans c1
            by_cases hlj : j < m
            · have hD := addrP_drop (x := x) (j := j) (by rw [HMT.out]; exact hlj)
              have hI := wrap_i64 (x.at_ + (j : Int))
              obtain ⟨a, haw⟩ : ∃ a, wrap64 (x.at_ + (j : Int)) = a := ⟨_, rfl⟩
              rw [haw] at hD hI
              have HD := Lib.hid hD
              clear hD
              obtain ⟨a8, a9⟩ := hI
              by_cases ha : a < 0
              · have hB : seenG l d (addrsP ps) [] = false := by
                  rw [← hto.out, HD.out, List.cons_append]
                  exact seenG_neg (by rw [transI, if_pos HMA.out, placeI_neg ha]; omega)
                have HB := Lib.hid hB
                clear hB
                go_wp2
                go_ret
                exact ⟨ret_bool HB.out.symm, hbi⟩
              · have ha0 : 0 ≤ a := by omega
                have hpg := l17G_pg HMA.out d (a / 128) false
                have hpb := pgI_bd HMA.out d (a / 128) false
                have htr : transI l d a false = if pgI l d (a / 128) false < 0 then -1 else pgI l d (a / 128) false * 128 + a % 128 := by rw [transI, if_pos HMA.out, placeI, if_neg ha]
                generalize pgI l d (a / 128) false = P at hpg hpb htr
                have HPG := Lib.hid hpg
                clear hpg ha
                have SP := specPage_c A n c l _ hn_a (by omega) ((r_a.below hbi).more hzi) d (a / 128) false
                by_cases hP : P < 0
                · have hB : seenG l d (addrsP ps) [] = false := by
                    rw [← hto.out, HD.out, List.cons_append]
                    exact seenG_neg (by rw [htr, if_pos hP]; omega)
                  have HB := Lib.hid hB
                  clear hB htr
                  go_wp2_with (go_at_call 97; refine SP.mono ?_; rintro e w3 ⟨rfl, rfl⟩; rw [HPG.out])
                  go_ret
                  exact ⟨ret_bool HB.out.symm, hbi⟩
                · rw [if_neg hP] at htr
                  obtain ⟨p1', rfl⟩ := Int.eq_ofNat_of_zero_le (show 0 ≤ P by omega)
                  have hpb1 : (p1' : Int) ≤ 63 := hpb.2
                  obtain ⟨q, hq⟩ : ∃ q : Nat, (p1' : Int) * 128 + a % 128 = (q : Int) := ⟨((p1' : Int) * 128 + a % 128).toNat, by omega⟩
                  have hq8 : q < 8192 := by omega
                  have q0 : (0 : Int) ≤ (q : Int) := by omega
                  have q1 : (q : Int) < 8192 := by omega
                  have HQ := Lib.hid (htr.trans hq)
                  have g0 := (hse.cell q).trans (seenC_get ac hq8)
                  have fz := hse.frozen q
                  clear htr hpb hP
                  cases f2 : decide ((q : Int) ∈ ac)
                  · rw [f2] at g0
                    have hno : ¬ (q : Int) ∈ ac := by simpa using f2
                    have HS := Lib.hid (seenC_set ac hq8)
                    have HT2 : Hid (seenG l d ((addrP x).drop (j + 1) ++ addrsP (ps.drop (k + 1))) (ac ++ [(q : Int)]) = seenG l d (addrsP ps) []) := by
                      rw [Hid, ← hto.out, HD.out, List.cons_append, seenG_new HQ.out q0 hno]
                    clear f2 hno
                    go_wp2_with (go_at_call 97; refine SP.mono ?_; rintro e w3 ⟨rfl, rfl⟩; rw [HPG.out])
                    go_roundw
                    case rel => exact ⟨j + 1, ac ++ [(q : Int)], by omega, by go_num, hbi.setCell (by show w.heap.size ≤ w1.heap.size; omega) _, by rw [← HS.out]; exact hse.set_ _ _, HT2⟩
                    case measure => simp [intOf]; omega
                  · rw [f2] at g0
                    have hB : seenG l d (addrsP ps) [] = false := by
                      rw [← hto.out, HD.out, List.cons_append]
                      exact seenG_mem (by rw [HQ.out]; simpa using f2)
                    have HB := Lib.hid hB
                    clear hB f2
                    go_wp2_with (go_at_call 97; refine SP.mono ?_; rintro e w3 ⟨rfl, rfl⟩; rw [HPG.out])
                    go_ret
                    exact ⟨ret_bool HB.out.symm, hbi⟩
            · have HT2 : Hid (seenG l d (addrsP (ps.drop (k + 1))) ac = seenG l d (addrsP ps) []) := by
                rw [Hid, ← hto.out, addrP_done (by rw [HMT.out]; omega)]; rfl
              go_wp2
              go_roundw
              case rel => exact ⟨k + 1, ac, by omega, by go_num, hbi, hse, HT2⟩
              case measure => simp [intOf]; omega
        · have hB : seenG l d (addrsP ps) [] = true := by
            rw [← htot.out, List.drop_eq_nil_of_le (by rw [HN3.out]; omega)]; rfl
          have HB := Lib.hid hB
          clear hB
          go_wp2
          go_ret
          exact ⟨ret_bool HB.out.symm, hbw⟩
end Go.Proofs.Ytnnlagmgdfhaiaa
