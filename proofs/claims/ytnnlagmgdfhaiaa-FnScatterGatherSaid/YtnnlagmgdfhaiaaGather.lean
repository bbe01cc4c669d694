/- Contracts of GatherPieces: impl and spec. -/
import Derived.Test.YtnnlagmgdfhaiaaPiecesOk
import Derived.Test.YtnnlagmgdfhaiaaDmaRead
import Derived.Deep.RegionHeld3
namespace Go.Proofs.Ytnnlagmgdfhaiaa
set_option linter.unusedSimpArgs false
set_option linter.unusedVariables false
open Go.RowKit Go.ChangeShapes Go.WideShapes
def okP (l : List Mapping) (pg : List ByteArray) (d : Int) (p : Piece) : Bool := dmaOk l pg d p.at_ p.ln false
/-- The bytes of the pieces, one behind the other. -/
def catP (l : List Mapping) (pg : List ByteArray) (d : Int) (ps : List Piece) : ByteArray := ps.foldl (fun out p => out ++ dmaR l pg d p.at_ p.ln) ByteArray.empty
def gatB (l : List Mapping) (pg : List ByteArray) (d : Int) (ps : List Piece) : Bool := piecesB ps && ps.all (okP l pg d)
def gatS (l : List Mapping) (pg : List ByteArray) (d : Int) (ps : List Piece) : ByteArray := if gatB l pg d ps then catP l pg d ps else ByteArray.empty
theorem catP_next {l : List Mapping} {pg : List ByteArray} {d : Int} {ps : List Piece} {k : Nat} {x : Piece} (hx : ps[k]? = some x) : catP l pg d (ps.take (k + 1)) = catP l pg d (ps.take k) ++ dmaR l pg d x.at_ x.ln := by
  rw [take_next hx, catP, List.foldl_append]; rfl
theorem dmaR_size (l : List Mapping) (pg : List ByteArray) (d a n : Int) : (dmaR l pg d a n).size ≤ 524416 := by
  obtain ⟨h1, h2, _⟩ := runsD_ok (l := l) (pg := pg) (d := d) (at_ := a) (n := n) (wr := false)
  have h3 := catR_size h1 _ (Nat.le_refl _)
  rw [List.take_length] at h3
  rw [dmaR]; omega
theorem catP_size (l : List Mapping) (pg : List ByteArray) (d : Int) (ps : List Piece) : ∀ k, k ≤ ps.length → (catP l pg d (ps.take k)).size ≤ 524416 * k
  | 0, _ => by simp [catP]
  | k + 1, hk => by
    have hx : ps[k]? = some ps[k] := List.getElem?_eq_getElem (by omega)
    have h1 := catP_size l pg d ps k (by omega)
    have h2 := dmaR_size l pg d ps[k].at_ ps[k].ln
    rw [catP_next hx, ByteArray.size_append]
    omega
theorem gat_no1 {l : List Mapping} {pg : List ByteArray} {d : Int} {ps : List Piece} (h : piecesB ps = false) : gatB l pg d ps = false := by rw [gatB, h]; rfl
theorem gat_no2 {l : List Mapping} {pg : List ByteArray} {d : Int} {ps : List Piece} {k : Nat} {x : Piece} (hx : ps[k]? = some x) (h : dmaOk l pg d x.at_ x.ln false = false) : gatB l pg d ps = false := by
  rw [gatB, all_at hx (show okP l pg d x = false from h), Bool.and_false]
theorem gat_yes {l : List Mapping} {pg : List ByteArray} {d : Int} {ps : List Piece} (h : piecesB ps = true) (h2 : ps.all (okP l pg d) = true) : gatB l pg d ps = true := by rw [gatB, h, h2]; rfl
theorem gatS_no {l : List Mapping} {pg : List ByteArray} {d : Int} {ps : List Piece} (h : gatB l pg d ps = false) : gatS l pg d ps = ByteArray.empty := by rw [gatS, h]; rfl
theorem gatS_yes {l : List Mapping} {pg : List ByteArray} {d : Int} {ps : List Piece} (h : gatB l pg d ps = true) : gatS l pg d ps = catP l pg d ps := by rw [gatS, h]; rfl
set_option maxRecDepth 100000 in
set_option maxHeartbeats 4000000 in
theorem implGatherPieces_c (A A' A3 : Option Addr) (n c n' c' n3 c3 : Nat) (l : List Mapping) (pg : List ByteArray) (ps : List Piece) (w : World) (hn : l.length = n) (hn' : pg.length = n') (hn3 : ps.length = n3) (hm : n ≤ 1048576) (hm' : n' ≤ 1048576) (hm3 : n3 ≤ 1048576) (hr : Reads w w.heap.size 4 A n (l.flatMap Mapping.cells)) (hr' : Reads w w.heap.size 1 A' n' (pg.flatMap fun x : ByteArray => [Value.string x])) (hr3 : Reads w w.heap.size 2 A3 n3 (ps.flatMap Piece.cells)) (d : Int) (hi3 : ∀ x ∈ ps, x.ok) :
    Calls Try.prog 46 #[.slice A n c, .agg #[.slice A' n' c'], .int .i64 d, .slice A3 n3 c3] w fun e w' => e = .returned (.tuple #[.string (gatS l pg d ps), .bool (gatB l pg d ps)]) ∧ Below w.heap.size w w' := by
  cases hok : piecesB ps
  · have hg := gat_no1 (l := l) (pg := pg) (d := d) hok
    have hs := gatS_no hg
    rw [hg, hs]
    clear hg hs
    go_enter Try.func46, Try.ntmps46
    go_wp2_with (go_at_call 104; refine (calls_bool (implPiecesOk_c _ _ _ _ _ hn3 (by omega) (hr3.to (by go_grown))) hok).mono ?_; rintro e w1 ⟨rfl, hb⟩; obtain ⟨m0, fm0, zm0⟩ := own_cell hb (b := w.heap.size) (o := 0) (v := .slice A' n' c') (by first | assumption | (simp [go_sem]; done) | (simp [go_sem, *]; done)) (by first | assumption | (simp [go_sem]; done) | (simp [go_sem, *]; done)); have k1 : Below w.heap.size w w1 := ext_step (by go_grown) (by go_size) hb; clear hb)
    go_ret2
    exact ⟨rfl, k1⟩
  · have HO := Lib.hid hok
    have HL := piecesB_len hok
    rw [hn3] at HL
    have HI3 := Lib.hid hi3
    clear hi3
    have HN3 := Lib.hid hn3
    go_enter Try.func46, Try.ntmps46
    go_wp2_with (go_at_call 104; refine (calls_bool (implPiecesOk_c _ _ _ _ _ hn3 (by omega) (hr3.to (by go_grown))) hok).mono ?_; rintro e w1 ⟨rfl, hb⟩; obtain ⟨m0, fm0, zm0⟩ := own_cell hb (b := w.heap.size) (o := 0) (v := .slice A' n' c') (by first | assumption | (simp [go_sem]; done) | (simp [go_sem, *]; done)) (by first | assumption | (simp [go_sem]; done) | (simp [go_sem, *]; done)); have k1 : Below w.heap.size w w1 := ext_step (by go_grown) (by go_size) hb; clear hb)
    clear hok hn3
    go_wp2
    go_loopw [10, 20] (fun o i wr => ∃ k : Nat, k ≤ n3 ∧ i = .int .i64 (k : Int) ∧ o = .string (catP l pg d (ps.take k)) ∧ Below w1.heap.size w1 wr ∧ wr.cell? ⟨w.heap.size, 0, none⟩ = some (.slice A' n' c') ∧ Hid ((ps.take k).all (okP l pg d) = true)) (fun _ i _ => n3 - (intOf i).toNat)
    case atStart => exact ⟨0, Nat.zero_le _, rfl, rfl, Below.refl _ _, m0, rfl⟩
    case round =>
      obtain ⟨k, hk, rfl, rfl, hbw, m0, hall⟩ := hrel
      have hsz := hbw.size
      have hsz1 := k1.size
      have zm : w.heap.size < wr.heap.size := cell_block_lt m0
      by_cases hlt : k < n3
      · have hr4 := hr3.to k1
        obtain ⟨b, o, x, rfl, hb, hxx, hcx⟩ := hr4.el (fun _ => rfl) (by decide) HN3.out hlt
        have c0 := (hbw.cell (p := ⟨b, o + k * 2, none⟩) hb).trans (by simpa using hcx 0 _ rfl)
        have c1 := (hbw.cell (p := ⟨b, o + k * 2 + 1, none⟩) hb).trans (by simpa using hcx 1 _ rfl)
        have HXx := Lib.hid hxx
        clear hxx hcx
        obtain ⟨p1, p2, p3⟩ := piecesB_el HO.out HXx.out
        have pI := HI3.out x (List.mem_of_getElem? HXx.out)
        have hI1 : I64 x.at_ := pI.1
        have hI2 : I64 x.ln := pI.2
        have hs1 := catP_size l pg d ps k (by rw [HN3.out]; exact hk)
        have hs2 := dmaR_size l pg d x.at_ x.ln
        have HC := Lib.hid (catP_next (l := l) (pg := pg) (d := d) HXx.out)
        cases hd : dmaOk l pg d x.at_ x.ln false
        · have hg := gat_no2 HXx.out hd
          have HS := Lib.hid (gatS_no hg)
          have HG := Lib.hid hg
          have HD := Lib.hid hd
          clear hg hd
          have kR : Below w.heap.size w (wr.alloc (.cells #[.int .i64 x.at_, .int .i64 x.ln] 61)) := (k1.trans (hbw.mono hsz1)).alloc (by omega) _
          go_wp2_with (go_at_call 32; refine (implDmaRead_c _ _ _ _ _ _ l pg _ hn hn' hm hm' (hr.to kR) (hr'.to kR) _ _ _ hI1 hI2).mono ?_; rintro e w2 ⟨rfl, hb⟩; rw [HD.out]; have m0 := ccell hb _ _ _ ((World.cell?_alloc_lt _ _ _ (cell_block_lt m0)).trans m0); have hb2 : Below w1.heap.size w1 w2 := ext_step (hbw.alloc hsz _) (by go_size) hb; clear hb)
          go_wp2
          go_ret2
          exact ⟨by rw [HG.out, HS.out]; rfl, k1.trans (hb2.mono hsz1)⟩
        · have HA := Lib.hid (all_take hall.out HXx.out (show okP l pg d x = true from hd))
          have HD := Lib.hid hd
          clear hd
          have kR : Below w.heap.size w (wr.alloc (.cells #[.int .i64 x.at_, .int .i64 x.ln] 61)) := (k1.trans (hbw.mono hsz1)).alloc (by omega) _
          go_wp2_with (go_at_call 32; refine (implDmaRead_c _ _ _ _ _ _ l pg _ hn hn' hm hm' (hr.to kR) (hr'.to kR) _ _ _ hI1 hI2).mono ?_; rintro e w2 ⟨rfl, hb⟩; rw [HD.out]; have m0 := ccell hb _ _ _ ((World.cell?_alloc_lt _ _ _ (cell_block_lt m0)).trans m0); have hb2 : Below w1.heap.size w1 w2 := ext_step (hbw.alloc hsz _) (by go_size) hb; clear hb)
          go_wp2
          go_roundw
          case rel => exact ⟨k + 1, by omega, by go_num, by rw [HC.out], hb2, m0, HA⟩
          case measure => simp [intOf]; omega
      · have htk := take_all HN3.out hlt
        have hg := gat_yes HO.out (by have := hall.out; rwa [htk] at this)
        have HS := Lib.hid (gatS_yes hg)
        have HG := Lib.hid hg
        rw [htk]
        clear htk hg
        go_wp2
        go_ret2
        exact ⟨by rw [HG.out, HS.out]; rfl, k1.trans (hbw.mono hsz1)⟩
set_option maxRecDepth 100000 in
set_option maxHeartbeats 4000000 in
theorem specGatherPieces_c (A A' A3 : Option Addr) (n c n' c' n3 c3 : Nat) (l : List Mapping) (pg : List ByteArray) (ps : List Piece) (w : World) (hn : l.length = n) (hn' : pg.length = n') (hn3 : ps.length = n3) (hm : n ≤ 1048576) (hm' : n' ≤ 1048576) (hm3 : n3 ≤ 1048576) (hr : Reads w w.heap.size 4 A n (l.flatMap Mapping.cells)) (hr' : Reads w w.heap.size 1 A' n' (pg.flatMap fun x : ByteArray => [Value.string x])) (hr3 : Reads w w.heap.size 2 A3 n3 (ps.flatMap Piece.cells)) (d : Int) (hi3 : ∀ x ∈ ps, x.ok) :
    Calls Try.prog 48 #[.slice A n c, .agg #[.slice A' n' c'], .int .i64 d, .slice A3 n3 c3] w fun e w' => e = .returned (.tuple #[.string (gatS l pg d ps), .bool (gatB l pg d ps)]) ∧ Below w.heap.size w w' := by
  cases hok : piecesB ps
  · have hg := gat_no1 (l := l) (pg := pg) (d := d) hok
    have hs := gatS_no hg
    rw [hg, hs]
    clear hg hs
    go_enter Try.func48, Try.ntmps48
    go_wp2_with (go_at_call 98; refine (calls_bool (specPiecesOk_c _ _ _ _ _ hn3 (by omega) (hr3.to (by go_grown))) hok).mono ?_; rintro e w1 ⟨rfl, hb⟩; obtain ⟨m0, fm0, zm0⟩ := own_cell hb (b := w.heap.size) (o := 0) (v := .slice A' n' c') (by first | assumption | (simp [go_sem]; done) | (simp [go_sem, *]; done)) (by first | assumption | (simp [go_sem]; done) | (simp [go_sem, *]; done)); have k1 : Below w.heap.size w w1 := ext_step (by go_grown) (by go_size) hb; clear hb)
    go_ret2
    exact ⟨rfl, k1⟩
  · have HO := Lib.hid hok
    have HL := piecesB_len hok
    rw [hn3] at HL
    have HI3 := Lib.hid hi3
    clear hi3
    have HN3 := Lib.hid hn3
    go_enter Try.func48, Try.ntmps48
    go_wp2_with (go_at_call 98; refine (calls_bool (specPiecesOk_c _ _ _ _ _ hn3 (by omega) (hr3.to (by go_grown))) hok).mono ?_; rintro e w1 ⟨rfl, hb⟩; obtain ⟨m0, fm0, zm0⟩ := own_cell hb (b := w.heap.size) (o := 0) (v := .slice A' n' c') (by first | assumption | (simp [go_sem]; done) | (simp [go_sem, *]; done)) (by first | assumption | (simp [go_sem]; done) | (simp [go_sem, *]; done)); have k1 : Below w.heap.size w w1 := ext_step (by go_grown) (by go_size) hb; clear hb)
    clear hok hn3
    go_wp2
    go_loopw [10, 11] (fun o i wr => ∃ k : Nat, k ≤ n3 ∧ i = .int .i64 (k : Int) ∧ o = .string (catP l pg d (ps.take k)) ∧ Below w1.heap.size w1 wr ∧ wr.cell? ⟨w.heap.size, 0, none⟩ = some (.slice A' n' c') ∧ Hid ((ps.take k).all (okP l pg d) = true)) (fun _ i _ => n3 - (intOf i).toNat)
    case atStart => exact ⟨0, Nat.zero_le _, rfl, rfl, Below.refl _ _, m0, rfl⟩
    case round =>
      obtain ⟨k, hk, rfl, rfl, hbw, m0, hall⟩ := hrel
      have hsz := hbw.size
      have hsz1 := k1.size
      have zm : w.heap.size < wr.heap.size := cell_block_lt m0
      by_cases hlt : k < n3
      · have hr4 := hr3.to k1
        obtain ⟨b, o, x, rfl, hb, hxx, hcx⟩ := hr4.el (fun _ => rfl) (by decide) HN3.out hlt
        have c0 := (hbw.cell (p := ⟨b, o + k * 2, none⟩) hb).trans (by simpa using hcx 0 _ rfl)
        have c1 := (hbw.cell (p := ⟨b, o + k * 2 + 1, none⟩) hb).trans (by simpa using hcx 1 _ rfl)
        have HXx := Lib.hid hxx
        clear hxx hcx
        obtain ⟨p1, p2, p3⟩ := piecesB_el HO.out HXx.out
        have pI := HI3.out x (List.mem_of_getElem? HXx.out)
        have hI1 : I64 x.at_ := pI.1
        have hI2 : I64 x.ln := pI.2
        have hs1 := catP_size l pg d ps k (by rw [HN3.out]; exact hk)
        have hs2 := dmaR_size l pg d x.at_ x.ln
        have HC := Lib.hid (catP_next (l := l) (pg := pg) (d := d) HXx.out)
        cases hd : dmaOk l pg d x.at_ x.ln false
        · have hg := gat_no2 HXx.out hd
          have HS := Lib.hid (gatS_no hg)
          have HG := Lib.hid hg
          have HD := Lib.hid hd
          clear hg hd
          have kR : Below w.heap.size w wr.drew := (k1.trans (hbw.mono hsz1)).drew
          have i0 : (0 : Int) ≤ (k : Int) := by omega
          have i1 : (k : Int) < (n3 : Int) := by omega
          go_wp2_with fail
          have hdr : Below wr.heap.size wr wr.drew := (Below.refl _ _).drew
          have m0' := ccell hdr _ _ _ m0
          have c0' := ccell hdr _ _ _ c0
          have c1' := ccell hdr _ _ _ c1
          go_region_held3 (fun w' => w'.cell? ⟨w.heap.size, 0, none⟩ = some (.slice A' n' c') ∧ w'.cell? ⟨b, o + k * 2, none⟩ = some (.int .i64 x.at_) ∧ w'.cell? ⟨b, o + k * 2 + 1, none⟩ = some (.int .i64 x.ln)) (first | exact ⟨m0, c0, c1⟩ | exact ⟨m0', c0', c1'⟩)
            ((go_at_call 105; refine (specDmaRead_c _ _ _ _ _ _ l pg _ hn hn' hm hm' (hr.to kR) (hr'.to kR) _ _ _ hI1 hI2).mono ?_; rintro e w2 ⟨rfl, hb⟩; have m0 := ccell hb _ _ _ m0'; have c0 := ccell hb _ _ _ c0'; have c1 := ccell hb _ _ _ c1'; rw [HD.out]; have hb2 : Below w1.heap.size w1 w2 := ext_step hbw.drew hsz hb; clear hb))
          go_wp2
          go_ret2
          exact ⟨by rw [HG.out, HS.out]; rfl, k1.trans (hb2.mono hsz1)⟩
        · have HA := Lib.hid (all_take hall.out HXx.out (show okP l pg d x = true from hd))
          have HD := Lib.hid hd
          clear hd
          have kR : Below w.heap.size w wr.drew := (k1.trans (hbw.mono hsz1)).drew
          have i0 : (0 : Int) ≤ (k : Int) := by omega
          have i1 : (k : Int) < (n3 : Int) := by omega
          go_wp2_with fail
          have hdr : Below wr.heap.size wr wr.drew := (Below.refl _ _).drew
          have m0' := ccell hdr _ _ _ m0
          have c0' := ccell hdr _ _ _ c0
          have c1' := ccell hdr _ _ _ c1
          go_region_held3 (fun w' => w'.cell? ⟨w.heap.size, 0, none⟩ = some (.slice A' n' c') ∧ w'.cell? ⟨b, o + k * 2, none⟩ = some (.int .i64 x.at_) ∧ w'.cell? ⟨b, o + k * 2 + 1, none⟩ = some (.int .i64 x.ln)) (first | exact ⟨m0, c0, c1⟩ | exact ⟨m0', c0', c1'⟩)
            ((go_at_call 105; refine (specDmaRead_c _ _ _ _ _ _ l pg _ hn hn' hm hm' (hr.to kR) (hr'.to kR) _ _ _ hI1 hI2).mono ?_; rintro e w2 ⟨rfl, hb⟩; have m0 := ccell hb _ _ _ m0'; have c0 := ccell hb _ _ _ c0'; have c1 := ccell hb _ _ _ c1'; rw [HD.out]; have hb2 : Below w1.heap.size w1 w2 := ext_step hbw.drew hsz hb; clear hb))
          go_wp2
          go_roundw
          case rel => exact ⟨k + 1, by omega, by go_num, by rw [HC.out], hb2, m0, HA⟩
          case measure => simp [intOf]; omega
      · have htk := take_all HN3.out hlt
        have hg := gat_yes HO.out (by have := hall.out; rwa [htk] at this)
        have HS := Lib.hid (gatS_yes hg)
        have HG := Lib.hid hg
        rw [htk]
        clear htk hg
        go_wp2
        go_ret2
        exact ⟨by rw [HG.out, HS.out]; rfl, k1.trans (hbw.mono hsz1)⟩
end Go.Proofs.Ytnnlagmgdfhaiaa
