/- Plain laws on scattering and gathering. -/
import Derived.Test.YtnnlagmgdfhaiaaDmaP
import Derived.Test.YtnnlagmgdfhaiaaScatter
import Derived.Test.YtnnlagmgdfhaiaaGather
namespace Go.Proofs.Ytnnlagmgdfhaiaa
set_option linter.unusedSimpArgs false
set_option linter.unusedVariables false
open Go.RowKit Go.ChangeShapes Go.WideShapes
theorem zip_short {T U : Type} : ∀ (a b : List T) (v : List U), v.length ≤ a.length → (a ++ b).zip v = a.zip v
  | [], b, v, h => by
    have hv : v = [] := List.eq_nil_of_length_eq_zero (by simpa using h)
    rw [hv]; simp
  | x :: a, b, [], h => by simp
  | x :: a, b, y :: v, h => by rw [List.cons_append, List.zip_cons_cons, List.zip_cons_cons, zip_short a b v (by simpa using h)]
theorem plc_zip {l : List Mapping} {d : Int} {at_ : Int} {m n : Nat} {v : List UInt8} (h : v.length = m) (hmn : m ≤ n) : (plc l d false at_ n).zip v = (plc l d false at_ m).zip v := by
  rw [show n = m + (n - m) by omega, plc_add, zip_short _ _ _ (by rw [plc_len]; omega)]
/-- The bytes behind a scattering. -/
theorem scG_by {l : List Mapping} {d : Int} : ∀ (ps : List Piece) (pg q : List ByteArray) (t : ByteArray), memB pg = true → scG l d ps pg t = some q →
    memB q = true ∧ ∀ p, byA q p = wf (byA pg) ((plcP l d ps).zip (bl t)) p
  | [], pg, q, t, hm, h => by rw [scG] at h; injection h with h; subst h; exact ⟨hm, fun _ => rfl⟩
  | x :: ps, pg, q, t, hm, h => by
    rw [scG] at h
    split at h
    · rename_i hok
      obtain ⟨c1, c2⟩ := scG_by ps _ q _ (dmaW_mem hm) h
      refine ⟨c1, fun p => ?_⟩
      obtain ⟨g1, g2, g3, g4⟩ := dma_iff.1 hok
      rw [Int.toNat_natCast] at g4
      have hsz : (t.extract 0 (scN x t)).size = scN x t := by rw [ByteArray.size_extract, scN]; omega
      have hk1 : scN x t ≤ t.size := by unfold scN; omega
      have hk2 : scN x t ≤ x.ln.toNat := by unfold scN; omega
      rw [c2]
      show wf _ ((plcP l d ps).zip _) p = wf _ ((plc l d false x.at_ x.ln.toNat ++ plcP l d ps).zip (bl t)) p
      have hpl : plc l d true x.at_ (scN x t) = plc l d false x.at_ (scN x t) := by rw [hsz] at g4; exact (okA_rd g4).2.symm
      have hb1 : (bl (t.extract 0 (scN x t))).length = scN x t := by rw [bl_len, hsz]
      by_cases hle : t.size ≤ x.ln.toNat
      · have e0 : scN x t = t.size := by unfold scN; omega
        have e1 : bl (t.extract (scN x t) t.size) = [] := List.eq_nil_of_length_eq_zero (by rw [bl_len, ByteArray.size_extract]; omega)
        have e2 : bl (t.extract 0 (scN x t)) = bl t := by
          rw [bl_extract, List.drop_zero, Nat.sub_zero, List.take_of_length_le (by rw [bl_len]; omega)]
        rw [e1, List.zip_nil_right, zip_short _ _ _ (by rw [plc_len, bl_len]; exact hle)]
        show byA (dmaW l pg d x.at_ (t.extract 0 (scN x t)) true) p = _
        rw [dmaW_by hok, hsz, e2, hpl, e0, plc_zip (n := x.ln.toNat) (bl_len t) hle]
      · have e0 : scN x t = x.ln.toNat := by unfold scN; omega
        rw [← bl_split t (scN x t), List.zip_append (by rw [plc_len, hb1, e0]), wf_app]
        refine wf_congr ?_
        rw [dmaW_by hok, hsz, hpl, e0]
    · cases h
theorem catP_bl {l : List Mapping} {pg : List ByteArray} {d : Int} : ∀ (ps : List Piece) (out : ByteArray), (∀ x ∈ ps, dmaOk l pg d x.at_ x.ln false = true) →
    bl (ps.foldl (fun out p => out ++ dmaR l pg d p.at_ p.ln) out) = bl out ++ (plcP l d ps).map (byA pg)
  | [], out, _ => by simp [plcP]
  | x :: ps, out, h => by
    rw [List.foldl_cons, catP_bl ps _ (fun y hy => h y (List.mem_cons_of_mem _ hy)), bl_app, dmaR_bl (h x List.mem_cons_self), plcP, plcP, List.flatMap_cons, List.map_append, List.append_assoc]
theorem plcP_len {l : List Mapping} {d : Int} {ps : List Piece} (h : ∀ x ∈ ps, 0 ≤ x.ln) : ((plcP l d ps).length : Int) = sumP ps := by
  induction ps with
  | nil => rfl
  | cons x ps ih =>
    have h1 := h x (by simp)
    have h2 := ih fun y hy => h y (by simp [hy])
    have h3 : (plcP l d (x :: ps)).length = x.ln.toNat + (plcP l d ps).length := by rw [plcP, List.flatMap_cons, List.length_append, plc_len]; rfl
    rw [h3]; simp [sumP] at h2 ⊢; omega
theorem pg_low {l : List Mapping} {d v : Int} {wr : Bool} {m : Int} (h : ∀ x ∈ l, x.phy ≤ m) (hm : 0 ≤ m) : pgI l d v wr ≤ m := by
  unfold pgI
  split
  · rename_i x hx
    have := h x (List.mem_of_getElem? hx)
    split
    · omega
    · split <;> omega
  · omega
theorem place_low {l : List Mapping} {d a : Int} {wr : Bool} {m : Int} (h : ∀ x ∈ l, x.phy ≤ m) (hm : 0 ≤ m) : placeI l d a wr < 128 * (m + 1) := by
  have := pg_low (d := d) (v := a / 128) (wr := wr) h hm
  unfold placeI
  split
  · omega
  · split <;> omega
/-- What FnScatterGather asks. -/
theorem scat_gather {l : List Mapping} {pg : List ByteArray} {d : Int} {ps : List Piece} {s : ByteArray} (hm : mapsB l = true) (hp : memB pg = true) (h6 : pg.length = 6) (hph : ∀ x ∈ l, x.phy ≤ 5)
    (hps : ∀ x ∈ ps, 0 ≤ x.at_ ∧ 0 ≤ x.ln ∧ x.at_ + x.ln ≤ 4096) (hok : scatB l pg d ps s = true) (hap : apartB l d ps = true) :
    gatB l (scatM l pg d ps s) d ps = true ∧ ((gatS l (scatM l pg d ps s) d ps).size : Int) = lenP ps ∧ (gatS l (scatM l pg d ps s) d ps).extract 0 s.size = s := by
  have hok' := hok
  rw [scatB, Bool.and_eq_true, decide_eq_true_eq, Option.isSome_iff_exists] at hok'
  obtain ⟨h1, q, hq⟩ := hok'
  have hM : scatM l pg d ps s = q := by rw [scatM, if_pos hok, hq]; rfl
  obtain ⟨c1, c2⟩ := scG_by ps pg q s hp hq
  have hql := scG_len ps pg q s hq
  have hpb : piecesB ps = true := by rw [apartB, Bool.and_eq_true] at hap; exact hap.1
  have hps2 : ∀ x ∈ ps, 0 ≤ x.at_ ∧ x.at_ + x.ln ≤ 9223372036854775807 := fun x hx => by have := hps x hx; omega
  have hnd := apart_nodup hm hps2 hap
  have hlen := plcP_len (l := l) (d := d) fun x hx => (hps x hx).2.1
  have hlp : lenP ps = sumP ps := by rw [lenP, if_pos hpb]
  rw [apartB, Bool.and_eq_true] at hap
  obtain ⟨s1, _, _⟩ := seen_nodup _ _ hap.2
  have hrd : ∀ x ∈ ps, dmaOk l q d x.at_ x.ln false = true := by
    intro x hx
    obtain ⟨b1, b2, b3⟩ := hps x hx
    refine dma_iff.2 ⟨hm, c1, by simp [inB]; omega, fun j hj => ?_⟩
    have hin : wrap64 (x.at_ + (j : Int)) ∈ addrsP ps := List.mem_flatMap.2 ⟨x, hx, List.mem_map.2 ⟨j, List.mem_range.2 hj, rfl⟩⟩
    have h2 := s1 _ hin
    rw [wrap_id ⟨by omega, by omega⟩, transI, if_pos hm] at h2
    have h3 := place_low (d := d) (a := x.at_ + (j : Int)) (wr := false) hph (by decide)
    rw [hql, h6]
    exact ⟨h2, by omega⟩
  have hgb : gatB l q d ps = true := by
    rw [gatB, hpb, Bool.true_and, List.all_eq_true]
    exact fun x hx => hrd x hx
  rw [hM]
  have hb : bl (gatS l q d ps) = (plcP l d ps).map (byA q) := by
    rw [gatS_yes hgb, catP, catP_bl ps _ hrd, bl_empty, List.nil_append]
  refine ⟨hgb, by rw [← bl_len, hb, List.length_map, hlen, hlp], bl_ext ?_⟩
  rw [bl_extract, List.drop_zero, Nat.sub_zero, hb]
  apply List.ext_getElem
  · rw [List.length_take, List.length_map, bl_len]; omega
  · intro j g1 g2
    rw [List.getElem_take, List.getElem_map, c2]
    rw [bl_len] at g2
    exact wf_at (i := j) hnd (List.getElem?_eq_getElem _) (List.getElem?_eq_getElem _)
end Go.Proofs.Ytnnlagmgdfhaiaa
