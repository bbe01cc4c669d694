/- Plain laws on descriptors: they can be decoded, and the pieces found again. -/
import Derived.Test.YtnnlagmgdfhaiaaDecDesc
import Derived.Test.YtnnlagmgdfhaiaaPod
import Derived.Test.YtnnlagmgdfhaiaaDrawPcs
namespace Go.Proofs.Ytnnlagmgdfhaiaa
set_option linter.unusedSimpArgs false
set_option linter.unusedVariables false
open Go.RowKit Go.ChangeShapes Go.WideShapes
theorem son_app (a b : List Int) : strOfNums a ++ strOfNums b = strOfNums (a ++ b) := by
  apply ByteArray.ext
  rw [ByteArray.data_append]
  apply Array.toList_inj.1
  rw [Array.toList_append, strOfNums_data, strOfNums_data, strOfNums_data, List.map_append]
theorem byt_son {L : List Int} {i : Nat} {v : Int} (h : L[i]? = some v) (h0 : 0 ≤ v) (h1 : v ≤ 255) : byt (strOfNums L) i = v := by
  have hi : i < L.length := (List.getElem?_eq_some_iff.1 h).1
  have hv : L[i] = v := (List.getElem?_eq_some_iff.1 h).2
  rw [byt_at (by rw [strOfNums_size]; exact hi)]
  have e : (strOfNums L)[i]'(by rw [strOfNums_size]; exact hi) = UInt8.ofNat v.toNat := by
    show (strOfNums L).data[i]'_ = _
    rw [← Array.getElem_toList]
    simp only [strOfNums_data, List.getElem_map, hv]
  rw [e]
  have : (UInt8.ofNat v.toNat).toNat = v.toNat := by
    rw [UInt8.toNat_ofNat']; omega
  omega
theorem descB_bd {op fl ln at_ sz ck : Int} (h : descB op fl ln at_ sz ck = true) : (0 ≤ op ∧ op ≤ 3) ∧ (0 ≤ fl ∧ fl ≤ 3) ∧ (0 ≤ ln ∧ ln ≤ 65535) ∧ (0 ≤ sz ∧ sz ≤ 65535) ∧ (0 ≤ ck ∧ ck ≤ 65535) ∧ 0 ≤ at_ ∧ at_ ≤ 4294967295 := by
  simp only [descB, Bool.and_eq_true] at h
  obtain ⟨⟨⟨⟨⟨h1, h2⟩, h3⟩, h4⟩, h5⟩, h6⟩ := h
  exact ⟨inB_t h1, inB_t h2, inB_t h3, inB_t h4, inB_t h5, inB_t h6⟩
def encN (op fl ln at_ sz ck : Int) : List Int := [op, fl, ln / 256, ln % 256, at_ / 16777216, at_ / 65536 % 256, at_ / 256 % 256, at_ % 256, sz / 256, sz % 256, ck / 256, ck % 256, 0, 0, 0, 0]
theorem enc_nums {op fl ln at_ sz ck : Int} (h : descB op fl ln at_ sz ck = true) : encB op fl ln at_ sz ck = strOfNums (encN op fl ln at_ sz ck) := by
  obtain ⟨h1, h2, h3, h4, h5, h6⟩ := descB_bd h
  have e1 : w16 ln = strOfNums [ln / 256, ln % 256] := by rw [w16, if_pos (by simp [inB]; omega)]
  have e2 : w16 sz = strOfNums [sz / 256, sz % 256] := by rw [w16, if_pos (by simp [inB]; omega)]
  have e3 : w16 ck = strOfNums [ck / 256, ck % 256] := by rw [w16, if_pos (by simp [inB]; omega)]
  have e4 : w32 at_ = strOfNums [at_ / 16777216, at_ / 65536 % 256, at_ / 256 % 256, at_ % 256] := by rw [w32, if_pos (by simp [inB]; omega)]
  have e5 : w32 0 = strOfNums [0, 0, 0, 0] := by rw [w32, if_pos (by decide)]; rfl
  rw [encB, if_pos h, e1, e2, e3, e4, e5, son_app, son_app, son_app, son_app, son_app]
  rfl
theorem hasN_t {s : ByteArray} {a n : Int} (h0 : 0 ≤ a) (h1 : a + n ≤ s.size) : hasN s a n = true := by
  simp only [hasN, Bool.and_eq_true, decide_eq_true_eq]; omega
/-- What is encoded can be decoded. -/
theorem enc_dec {op fl ln at_ sz ck : Int} (h : descB op fl ln at_ sz ck = true) :
    (encB op fl ln at_ sz ck).size = 16 ∧ decB (encB op fl ln at_ sz ck) = true ∧ byt (encB op fl ln at_ sz ck) 0 = op ∧ byt (encB op fl ln at_ sz ck) 1 = fl ∧ g16 (encB op fl ln at_ sz ck) 2 = ln ∧ g32 (encB op fl ln at_ sz ck) 4 = at_ ∧ g16 (encB op fl ln at_ sz ck) 8 = sz ∧ g16 (encB op fl ln at_ sz ck) 10 = ck := by
  obtain ⟨h1, h2, h3, h4, h5, h6⟩ := descB_bd h
  have e := enc_nums h
  have hsz : (encB op fl ln at_ sz ck).size = 16 := by rw [e, strOfNums_size]; rfl
  have hb : ∀ (i : Nat) (v : Int), (encN op fl ln at_ sz ck)[i]? = some v → 0 ≤ v → v ≤ 255 → byt (encB op fl ln at_ sz ck) i = v := fun i v hv a b => by rw [e]; exact byt_son hv a b
  have b0 := hb 0 _ rfl (by omega) (by omega)
  have b1 := hb 1 _ rfl (by omega) (by omega)
  have b2 := hb 2 _ rfl (by omega) (by omega)
  have b3 := hb 3 _ rfl (by omega) (by omega)
  have b4 := hb 4 _ rfl (by omega) (by omega)
  have b5 := hb 5 _ rfl (by omega) (by omega)
  have b6 := hb 6 _ rfl (by omega) (by omega)
  have b7 := hb 7 _ rfl (by omega) (by omega)
  have b8 := hb 8 _ rfl (by omega) (by omega)
  have b9 := hb 9 _ rfl (by omega) (by omega)
  have b10 := hb 10 _ rfl (by omega) (by omega)
  have b11 := hb 11 _ rfl (by omega) (by omega)
  have f2 : g16 (encB op fl ln at_ sz ck) 2 = ln := by
    rw [g16, if_pos (hasN_t (by omega) (by omega))]
    show byt _ 2 * 256 + byt _ 3 = ln
    rw [b2, b3]; omega
  have f4 : g32 (encB op fl ln at_ sz ck) 4 = at_ := by
    rw [g32, if_pos (hasN_t (by omega) (by omega))]
    show byt _ 4 * 16777216 + byt _ 5 * 65536 + byt _ 6 * 256 + byt _ 7 = at_
    rw [b4, b5, b6, b7]; omega
  have f8 : g16 (encB op fl ln at_ sz ck) 8 = sz := by
    rw [g16, if_pos (hasN_t (by omega) (by omega))]
    show byt _ 8 * 256 + byt _ 9 = sz
    rw [b8, b9]; omega
  have f10 : g16 (encB op fl ln at_ sz ck) 10 = ck := by
    rw [g16, if_pos (hasN_t (by omega) (by omega))]
    show byt _ 10 * 256 + byt _ 11 = ck
    rw [b10, b11]; omega
  refine ⟨hsz, ?_, b0, b1, f2, f4, f8, f10⟩
  rw [decB, b0, b1, f2, f4, f8, f10, hsz]
  simp
theorem inB_i {x a b : Int} (h0 : a ≤ x) (h1 : x ≤ b) : inB x a b = true := by simp [inB, h0, h1]
/-- What FnDescribed asks: the descriptors of drawn pieces. -/
theorem described {ps : List Piece} {sz ck : Int} (hps : pcsOk ps) (hne : 1 ≤ ps.length) (s0 : 1 ≤ sz) (s1 : sz ≤ 128) (c0 : 0 ≤ ck) (c1 : ck ≤ 255) :
    (dpL ps sz ck).length = ps.length + 1 ∧ (∀ x ∈ dpL ps sz ck, desB x = true) ∧ podB (dpL ps sz ck) = true ∧ podR (dpL ps sz ck) = ps ∧ podS (dpL ps sz ck) = sz ∧ podC (dpL ps sz ck) = ck := by
  obtain ⟨p1, p2⟩ := hps
  have hall : ∀ x ∈ dList ps sz ck ps.length, desB x = true := by
    intro x hx
    rw [dList] at hx
    rcases List.mem_cons.1 hx with rfl | hx
    · simp only [desB, dHead, descB, inB_i (show (0 : Int) ≤ 2 by omega) (show (2 : Int) ≤ 3 by omega), inB_i (Int.le_refl 0) (show (0 : Int) ≤ 3 by omega), inB_i (Int.le_refl 0) (show (0 : Int) ≤ 65535 by omega), inB_i (Int.le_refl 0) (show (0 : Int) ≤ 4294967295 by omega), inB_i (show 0 ≤ sz by omega) (show sz ≤ 65535 by omega), inB_i c0 (show ck ≤ 65535 by omega), Bool.and_self]
    · obtain ⟨y, hy, rfl⟩ := List.mem_map.1 hx
      have hy2 : y.1 ∈ ps := List.mem_of_mem_take (List.fst_mem_of_mem_zipIdx hy)
      obtain ⟨q1, q2, q3, q4⟩ := p2 _ hy2
      have hfl : ∀ b : Prop, [Decidable b] → inB (if b then 1 else 0) 0 3 = true := fun b _ => by split <;> decide
      simp only [desB, dItem, descB, inB_i (show (0 : Int) ≤ 1 by omega) (show (1 : Int) ≤ 3 by omega), hfl, inB_i q3 (show y.1.ln ≤ 65535 by omega), inB_i q1 (show y.1.at_ ≤ 4294967295 by omega), inB_i (Int.le_refl 0) (show (0 : Int) ≤ 65535 by omega), inB_i c0 (show ck ≤ 65535 by omega), Bool.and_self]
  have hpb : piecesB ps = true := by
    simp only [piecesB, Bool.and_eq_true, List.all_eq_true, decide_eq_true_eq]
    refine ⟨fun x hx => ?_, by omega⟩
    have := p2 x hx
    simp only [pieceB, Bool.and_eq_true, decide_eq_true_eq, inB]
    omega
  have hB : dpB ps sz ck = true := by
    rw [dpB, hpb, inB_i s0 s1, List.all_eq_true.2 hall]
    simp; exact fun e => by rw [e] at hne; simp at hne
  have hL : dpL ps sz ck = dList ps sz ck ps.length := dp_yes hB
  have hlen : (dpL ps sz ck).length = ps.length + 1 := by rw [hL, dList_len (Nat.le_refl _)]
  have hP : podP (dpL ps sz ck) = ps := by
    apply List.ext_getElem?
    intro k
    rw [podP, List.getElem?_map, List.getElem?_drop, hL, Nat.add_comm]
    cases hx : ps[k]? with
    | none =>
      have hk : ps.length ≤ k := List.getElem?_eq_none_iff.1 hx
      rw [List.getElem?_eq_none (by rw [dList_len (Nat.le_refl _)]; omega)]; rfl
    | some x => rw [dList_get hx]; rfl
  have hH : dHd (dpL ps sz ck) = dHead sz ck := by rw [hL, dList]; rfl
  have hpod : podB (dpL ps sz ck) = true := by
    rw [podB, hP, hH, hlen]
    show (decide (2 ≤ ps.length + 1) && same (dpL ps sz ck) (dpL ps sz ck)) = true
    rw [same_t rfl, Bool.and_true, decide_eq_true_eq]; omega
  obtain ⟨r1, r2, r3⟩ := pod_yes hpod
  exact ⟨hlen, by rw [hL]; exact hall, hpod, by rw [r1, hP], by rw [r2, hH]; rfl, by rw [r3, hH]; rfl⟩
theorem described0 (sz ck : Int) : dpL [] sz ck = [] := dp_no rfl
end Go.Proofs.Ytnnlagmgdfhaiaa
