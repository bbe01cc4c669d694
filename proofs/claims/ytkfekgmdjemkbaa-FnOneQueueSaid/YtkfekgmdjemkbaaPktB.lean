/- Plain: bytes of texts, sums of words, and what frames, datagrams, segments and images are built of. -/
import Derived.Test.YtkfekgmdjemkbaaWord
import Derived.Test.YtkfekgmdjemkbaaGetWord
import Derived.Test.YtkfekgmdjemkbaaPutB
import Derived.Test.YtkfekgmdjemkbaaRepeat
import Derived.Test.YtkfekgmdjemkbaaPktOk
namespace Go.Proofs.Ytkfekgmdjemkbaa
set_option linter.unusedSimpArgs false
set_option linter.unusedVariables false
open Go.RowKit Go.ChangeShapes Go.WideShapes
def bb (s : ByteArray) : List UInt8 := s.data.toList
theorem bb_len (s : ByteArray) : (bb s).length = s.size := by simp [bb]
theorem bb_app (s t : ByteArray) : bb (s ++ t) = bb s ++ bb t := by simp [bb, ByteArray.data_append]
theorem bb_ext {s t : ByteArray} (h : bb s = bb t) : s = t := ByteArray.ext (Array.toList_inj.1 h)
theorem bb_extract (s : ByteArray) (a b : Nat) : bb (s.extract a b) = ((bb s).drop a).take (b - a) := by
  simp [bb, ByteArray.data_extract, List.extract_eq_take_drop]
theorem byt_bb (s : ByteArray) (i : Nat) : byt s i = (((bb s)[i]?.getD 0).toNat : Int) := by
  by_cases h : i < s.size
  · rw [byt_at h]
    have : (bb s)[i]? = some s[i] := by
      rw [List.getElem?_eq_getElem (by rw [bb_len]; exact h)]
      congr 1
    rw [this]; rfl
  · rw [byt, dif_neg h, List.getElem?_eq_none (by rw [bb_len]; omega)]; rfl
theorem byt_app (s t : ByteArray) (i : Nat) : byt (s ++ t) i = if i < s.size then byt s i else byt t (i - s.size) := by
  rw [byt_bb, bb_app, List.getElem?_append, bb_len]
  split
  · rw [byt_bb]
  · rw [byt_bb]
theorem byt_ext {s t : ByteArray} (h : s.size = t.size) (hb : ∀ i, i < s.size → byt s i = byt t i) : s = t := by
  apply bb_ext
  apply List.ext_getElem?
  intro i
  by_cases hi : i < s.size
  · have := hb i hi
    rw [byt_bb, byt_bb] at this
    rw [List.getElem?_eq_getElem (by rw [bb_len]; exact hi), List.getElem?_eq_getElem (by rw [bb_len]; omega)] at this ⊢
    have h2 : ((bb s)[i]'(by rw [bb_len]; exact hi)).toNat = ((bb t)[i]'(by rw [bb_len]; omega)).toNat := Int.ofNat_inj.1 (by simpa using this)
    rw [UInt8.toNat_inj.1 h2]
  · rw [List.getElem?_eq_none (by rw [bb_len]; omega), List.getElem?_eq_none (by rw [bb_len]; omega)]
theorem byt_ex (s : ByteArray) (a b i : Nat) : byt (s.extract a b) i = if i < b - a then byt s (a + i) else 0 := by
  rw [byt_bb, bb_extract, List.getElem?_take]
  split
  · rw [List.getElem?_drop, byt_bb]
  · rfl
theorem byt_out {s : ByteArray} {i : Nat} (h : s.size ≤ i) : byt s i = 0 := by rw [byt, dif_neg (by omega)]
theorem ex_size (s : ByteArray) (a b : Nat) (h : b ≤ s.size) : (s.extract a b).size = b - a := by rw [ByteArray.size_extract]; omega
theorem putB_size (s : ByteArray) (a : Int) (p : ByteArray) : (putB s a p).size = s.size := by
  unfold putB
  split
  · rename_i h; exact putG_size (by omega)
  · rfl
theorem byt_put (s : ByteArray) (a : Int) (p : ByteArray) (i : Nat) : byt (putB s a p) i = if 0 ≤ a ∧ a + p.size ≤ s.size ∧ a ≤ i ∧ (i : Int) < a + p.size then byt p (i - a.toNat) else byt s i := by
  unfold putB
  by_cases h : 0 ≤ a ∧ a + p.size ≤ s.size
  · rw [if_pos h]
    obtain ⟨k, rfl⟩ := Int.eq_ofNat_of_zero_le h.1
    obtain ⟨_, h2⟩ := h
    rw [Int.toNat_natCast, putG, byt_app, byt_app, byt_ex, byt_ex, ByteArray.size_append, ex_size _ _ _ (by omega)]
    simp only [Nat.sub_zero, Nat.zero_add]
    repeat' split
    all_goals first | rfl | (exfalso; omega) | (congr 1; omega) | (rw [byt_out (by omega)])
  · rw [if_neg h, if_neg (by omega)]
theorem byt_son' {L : List Int} {i : Nat} {v : Int} (h : L[i]? = some v) (h0 : 0 ≤ v) (h1 : v ≤ 255) : byt (strOfNums L) i = v := by
  rw [byt_bb, bb, strOfNums_data, List.getElem?_map, h]
  show ((UInt8.ofNat v.toNat).toNat : Int) = v
  rw [UInt8.toNat_ofNat']; omega
theorem byt_w16 {v : Int} (h : inB v 0 65535 = true) : byt (w16 v) 0 = v / 256 ∧ byt (w16 v) 1 = v % 256 := by
  obtain ⟨h0, h1⟩ := inB_t h
  rw [w16, if_pos h]
  exact ⟨byt_son' rfl (by omega) (by omega), byt_son' rfl (by omega) (by omega)⟩
theorem byt_w32 {v : Int} (h : inB v 0 4294967295 = true) : byt (w32 v) 0 = v / 16777216 ∧ byt (w32 v) 1 = v / 65536 % 256 ∧ byt (w32 v) 2 = v / 256 % 256 ∧ byt (w32 v) 3 = v % 256 := by
  obtain ⟨h0, h1⟩ := inB_t h
  rw [w32, if_pos h]
  exact ⟨byt_son' rfl (by omega) (by omega), byt_son' rfl (by omega) (by omega), byt_son' rfl (by omega) (by omega), byt_son' rfl (by omega) (by omega)⟩
theorem inBi {x a b : Int} (h0 : a ≤ x) (h1 : x ≤ b) : inB x a b = true := by simp [inB, h0, h1]
/-- The sum of two words, its carry added to it. -/
def addS (a b : Int) : Int := if inB a 0 65535 && inB b 0 65535 then (if a + b > 65535 then a + b - 65535 else a + b) else -1
theorem addS_bd {a b : Int} (a0 : 0 ≤ a) (a1 : a ≤ 65535) (b0 : 0 ≤ b) (b1 : b ≤ 65535) : 0 ≤ addS a b ∧ addS a b ≤ 65535 := by
  rw [addS, inBi a0 a1, inBi b0 b1]
  simp only [Bool.and_self, if_true]
  split <;> omega
/-- Word k of a text; beyond its end: 0. -/
def wordAt (s : ByteArray) (k : Nat) : Int := byt s (2 * k) * 256 + byt s (2 * k + 1)
theorem wordAt_bd (s : ByteArray) (k : Nat) : 0 ≤ wordAt s k ∧ wordAt s k ≤ 65535 := by
  have h1 := byt_bd s (2 * k)
  have h2 := byt_bd s (2 * k + 1)
  unfold wordAt; omega
def sumW (s : ByteArray) : Nat → Int
  | 0 => 0
  | k + 1 => addS (sumW s k) (wordAt s k)
theorem sumW_bd (s : ByteArray) : ∀ k, 0 ≤ sumW s k ∧ sumW s k ≤ 65535
  | 0 => by simp [sumW]
  | k + 1 => by
    obtain ⟨h0, h1⟩ := sumW_bd s k
    obtain ⟨h2, h3⟩ := wordAt_bd s k
    exact addS_bd h0 h1 h2 h3
def sumS (s : ByteArray) : Int := sumW s ((s.size + 1) / 2)
/-- The Internet checksum. -/
def chk (s : ByteArray) : Int := 65535 - sumS s
theorem chk_bd (s : ByteArray) : 0 ≤ chk s ∧ chk s ≤ 65535 := by
  have := sumW_bd s ((s.size + 1) / 2)
  unfold chk sumS; omega
def macS (a : Int) : ByteArray := w16 (a / 4294967296) ++ w32 (a % 4294967296)
def ethS (dst src vl ty : Int) (bd : ByteArray) : ByteArray := (if 0 ≤ vl then macS dst ++ macS src ++ w16 33024 ++ w16 vl else macS dst ++ macS src) ++ w16 ty ++ bd
def padS (s : ByteArray) : ByteArray := if s.size < 46 then s ++ repB 0 (46 - s.size) else s
def ipH0 (tos id ttl pr si di : Int) (n : Nat) : ByteArray := strOfNums [69, tos] ++ w16 (20 + (n : Int)) ++ w16 id ++ w16 16384 ++ strOfNums [ttl, pr] ++ w16 0 ++ w32 si ++ w32 di
def ipH (tos id ttl pr si di : Int) (n : Nat) : ByteArray := putB (ipH0 tos id ttl pr si di n) 10 (w16 (chk (ipH0 tos id ttl pr si di n)))
def ipS (tos id ttl pr si di : Int) (bd : ByteArray) : ByteArray := ipH tos id ttl pr si di bd.size ++ bd
def psH (si di kd n : Int) : ByteArray := w32 si ++ w32 di ++ strOfNums [0, kd] ++ w16 n
def psB (si di kd n : Int) : Bool := inB si 0 4294967295 && inB di 0 4294967295 && inB kd 0 255 && inB n 0 65535
def plcI (kd : Int) : Int := if kd = 6 then 16 else 6
def fixS (kd x : Int) : Int := if kd = 17 ∧ x = 0 then 65535 else x
def segS0 (kd sp dp sq ak fl wn : Int) (bd : ByteArray) : ByteArray := if kd = 6 then w16 sp ++ w16 dp ++ w32 sq ++ w32 ak ++ strOfNums [80, fl] ++ w16 wn ++ w16 0 ++ w16 0 ++ bd else w16 sp ++ w16 dp ++ w16 (8 + (bd.size : Int)) ++ w16 0 ++ bd
def segF (si di kd : Int) (s0 : ByteArray) : ByteArray := putB s0 (plcI kd) (w16 (fixS kd (chk (psH si di kd s0.size ++ s0))))
def segS (si di kd sp dp sq ak fl wn : Int) (bd : ByteArray) : ByteArray := segF si di kd (segS0 kd sp dp sq ak fl wn bd)
def imgS (p : Packet) : ByteArray := ethS p.dmac p.smac p.vlan 2048 (padS (ipS p.tos p.id p.ttl p.seg_kind p.sip p.dip (segS p.sip p.dip p.seg_kind p.seg_sport p.seg_dport p.seg_seq p.seg_ack p.seg_flags p.seg_win p.seg_body)))
theorem macS_size {a : Int} (h : inB a 0 281474976710655 = true) : (macS a).size = 6 := by
  obtain ⟨h0, h1⟩ := inB_t h
  rw [macS, ByteArray.size_append, w16_size (inBi (by omega) (by omega)), w32_size (inBi (by omega) (by omega))]
theorem ipH0_size {tos id ttl pr si di : Int} {n : Nat} (hi : inB id 0 65535 = true) (hs : inB si 0 4294967295 = true) (hd : inB di 0 4294967295 = true) (hn : n ≤ 380) : (ipH0 tos id ttl pr si di n).size = 20 := by
  simp only [ipH0, ByteArray.size_append, strOfNums_size, w16_size hi, w32_size hs, w32_size hd, w16_size (inBi (show (0 : Int) ≤ 20 + n by omega) (by omega)), w16_size (show inB 16384 0 65535 = true by decide), w16_size (show inB 0 0 65535 = true by decide)]
  rfl
theorem segB_t {kd sp dp sq ak fl wn : Int} {bd : ByteArray} (h : segB kd sp dp sq ak fl wn bd = true) : (inB sp 0 65535 = true ∧ inB dp 0 65535 = true ∧ bd.size ≤ 320) ∧ ((kd = 6 ∧ inB sq 0 4294967295 = true ∧ inB ak 0 4294967295 = true ∧ inB fl 0 31 = true ∧ inB wn 0 65535 = true) ∨ (kd = 17 ∧ sq = 0 ∧ ak = 0 ∧ fl = 0 ∧ wn = 0)) := by
  simp only [segB, Bool.and_eq_true, decide_eq_true_eq] at h
  obtain ⟨⟨⟨h1, h2⟩, h3⟩, h4⟩ := h
  refine ⟨⟨h1, h2, by omega⟩, ?_⟩
  split at h4
  · rename_i hk
    simp only [Bool.and_eq_true] at h4
    exact .inl ⟨hk, h4.1.1.1, h4.1.1.2, h4.1.2, h4.2⟩
  · simp only [Bool.and_eq_true, decide_eq_true_eq] at h4
    exact .inr ⟨h4.1.1.1.1, h4.1.1.1.2, h4.1.1.2, h4.1.2, h4.2⟩
theorem segS0_size {kd sp dp sq ak fl wn : Int} {bd : ByteArray} (h : segB kd sp dp sq ak fl wn bd = true) : (segS0 kd sp dp sq ak fl wn bd).size = (if kd = 6 then 20 else 8) + bd.size := by
  obtain ⟨⟨h1, h2, h3⟩, h4 | h4⟩ := segB_t h
  · obtain ⟨rfl, h5, h6, h7, h8⟩ := h4
    simp only [segS0, if_pos, ByteArray.size_append, strOfNums_size, w16_size h1, w16_size h2, w32_size h5, w32_size h6, w16_size h8, w16_size (show inB 0 0 65535 = true by decide)]
    simp
  · obtain ⟨rfl, _⟩ := h4
    simp only [segS0, ByteArray.size_append, w16_size h1, w16_size h2, w16_size (inBi (show (0 : Int) ≤ 8 + (bd.size : Int) by omega) (by omega)), w16_size (show inB 0 0 65535 = true by decide)]
    simp [segS0, w16_size h1, w16_size h2, w16_size (inBi (show (0 : Int) ≤ 8 + (bd.size : Int) by omega) (by omega)), w16_size (show inB 0 0 65535 = true by decide)]
theorem superB_t {p : Packet} (h : superB p = true) : (inB p.dmac 0 281474976710655 = true ∧ inB p.smac 0 281474976710655 = true ∧ inB p.vlan (-1) 4095 = true) ∧ (inB p.tos 0 255 = true ∧ inB p.ttl 0 255 = true ∧ inB p.id 0 65535 = true ∧ inB p.sip 0 4294967295 = true ∧ inB p.dip 0 4294967295 = true) ∧ segB p.seg_kind p.seg_sport p.seg_dport p.seg_seq p.seg_ack p.seg_flags p.seg_win p.seg_body = true := by
  simp only [superB, Bool.and_eq_true] at h
  obtain ⟨⟨⟨⟨⟨⟨⟨⟨⟨h1, h2⟩, h3⟩, h4⟩, h5⟩, h6⟩, h7⟩, h8⟩, h9⟩, _⟩ := h
  exact ⟨⟨h1, h2, h3⟩, ⟨h4, h5, h6, h7, h8⟩, h9⟩
end Go.Proofs.Ytkfekgmdjemkbaa
