/- Plain: what is built can be read back: frames, datagrams, segments, images and templates. -/
import Derived.Test.YtifbfmafogmemaaPktQ
import Derived.Test.YtifbfmafogmemaaPktR0
namespace Go.Proofs.Ytifbfmafogmemaa
set_option linter.unusedSimpArgs false
set_option linter.unusedVariables false
open Go.RowKit Go.ChangeShapes Go.WideShapes
section
variable {h r s E : ByteArray} {a b : Int}
theorem byt_l {i : Nat} (h1 : i < h.size) : byt (h ++ r) i = byt h i := by rw [byt_app, if_pos h1]
theorem byt_r {i j : Nat} (h1 : i = h.size + j) : byt (h ++ r) i = byt r j := by
  rw [byt_app, if_neg (by omega)]; congr 1; omega
theorem has_app {n : Int} (hab : a = h.size + b) (h0 : 0 ≤ b) : hasN (h ++ r) a n = hasN r b n := by
  unfold hasN
  rw [decide_eq_true h0, decide_eq_true (show 0 ≤ a by omega), ByteArray.size_append, decide_eq_decide.2]
  omega
theorem hasT {n : Int} (h0 : 0 ≤ a) (h1 : a + n ≤ s.size) : hasN s a n = true := by
  unfold hasN; rw [decide_eq_true h0, decide_eq_true (by omega)]; rfl
theorem g16_l (h0 : 0 ≤ a) (h1 : a + 2 ≤ h.size) : g16 (h ++ r) a = g16 h a := by
  rw [g16, g16, hasT h0 h1, hasT h0 (by rw [ByteArray.size_append]; omega), if_pos rfl, if_pos rfl, byt_l (by omega), byt_l (by omega)]
theorem g16_r (hab : a = h.size + b) (h0 : 0 ≤ b) : g16 (h ++ r) a = g16 r b := by
  rw [g16, g16, has_app hab h0, byt_r (j := b.toNat) (by omega), byt_r (j := b.toNat + 1) (by omega)]
theorem g32_l (h0 : 0 ≤ a) (h1 : a + 4 ≤ h.size) : g32 (h ++ r) a = g32 h a := by
  rw [g32, g32, hasT h0 h1, hasT h0 (by rw [ByteArray.size_append]; omega), if_pos rfl, if_pos rfl, byt_l (by omega), byt_l (by omega), byt_l (by omega), byt_l (by omega)]
theorem g32_r (hab : a = h.size + b) (h0 : 0 ≤ b) : g32 (h ++ r) a = g32 r b := by
  rw [g32, g32, has_app hab h0, byt_r (j := b.toNat) (by omega), byt_r (j := b.toNat + 1) (by omega), byt_r (j := b.toNat + 2) (by omega), byt_r (j := b.toNat + 3) (by omega)]
theorem g16_w {v : Int} (hv : inB v 0 65535 = true) : g16 (w16 v) 0 = v := by
  obtain ⟨h0, h1⟩ := inB_t hv
  obtain ⟨b0, b1⟩ := byt_w16 hv
  rw [g16, hasT (by decide) (by rw [w16_size hv]; decide), if_pos rfl]
  show byt (w16 v) 0 * 256 + byt (w16 v) 1 = v
  rw [b0, b1]; omega
theorem g32_w {v : Int} (hv : inB v 0 4294967295 = true) : g32 (w32 v) 0 = v := by
  obtain ⟨h0, h1⟩ := inB_t hv
  obtain ⟨b0, b1, b2, b3⟩ := byt_w32 hv
  rw [g32, hasT (by decide) (by rw [w32_size hv]; decide), if_pos rfl]
  show byt (w32 v) 0 * 16777216 + byt (w32 v) 1 * 65536 + byt (w32 v) 2 * 256 + byt (w32 v) 3 = v
  rw [b0, b1, b2, b3]; omega
theorem put_r {x : ByteArray} (hab : a = h.size + b) (h0 : 0 ≤ b) : putB (h ++ r) a x = h ++ putB r b x := by
  apply byt_ext
  · rw [putB_size, ByteArray.size_append, ByteArray.size_append, putB_size]
  · intro i _
    rw [byt_put, byt_app, byt_app, byt_put, ByteArray.size_append]
    by_cases h1 : i < h.size
    · rw [if_neg (by omega), if_pos h1, if_pos h1]
    · rw [if_neg h1, if_neg h1]
      by_cases h2 : 0 ≤ a ∧ a + x.size ≤ ((h.size + r.size : Nat) : Int) ∧ a ≤ i ∧ (i : Int) < a + x.size
      · rw [if_pos h2, if_pos (by omega)]; congr 1; omega
      · rw [if_neg h2, if_neg (by omega)]
theorem put_l {x : ByteArray} (h1 : a + x.size ≤ h.size) : putB (h ++ r) a x = putB h a x ++ r := by
  apply byt_ext
  · rw [putB_size, ByteArray.size_append, ByteArray.size_append, putB_size]
  · intro i _
    rw [byt_put, byt_app, byt_app, byt_put, ByteArray.size_append, putB_size]
    by_cases h2 : i < h.size
    · rw [if_pos h2, if_pos h2]
      by_cases h3 : 0 ≤ a ∧ a + x.size ≤ (h.size : Int) ∧ a ≤ i ∧ (i : Int) < a + x.size
      · rw [if_pos h3, if_pos (by omega)]
      · rw [if_neg h3, if_neg (by omega)]
    · rw [if_neg h2, if_neg h2, if_neg (by omega)]
theorem put_put {x y : ByteArray} (hxy : x.size = y.size) : putB (putB s a x) a y = putB s a y := by
  apply byt_ext
  · rw [putB_size, putB_size, putB_size]
  · intro i _
    rw [byt_put, byt_put, byt_put, putB_size]
    by_cases h3 : 0 ≤ a ∧ a + y.size ≤ (s.size : Int) ∧ a ≤ i ∧ (i : Int) < a + y.size
    · rw [if_pos h3, if_pos h3]
    · rw [if_neg h3, if_neg h3, if_neg (by omega)]
/-- Zeros that are put where a word is zero. -/
theorem put_zero (h0 : 0 ≤ a) (h1 : a + 2 ≤ s.size) (hz : g16 s a = 0) : putB s a (w16 0) = s := by
  have z0 : (w16 0).size = 2 := w16_size (by decide)
  obtain ⟨b0, b1⟩ := byt_w16 (v := 0) (by decide)
  rw [g16, hasT h0 h1, if_pos rfl] at hz
  have k0 := byt_bd s a.toNat
  have k1 := byt_bd s (a.toNat + 1)
  apply byt_ext
  · rw [putB_size]
  · intro i _
    rw [byt_put, z0]
    by_cases h3 : 0 ≤ a ∧ a + ((2 : Nat) : Int) ≤ (s.size : Int) ∧ a ≤ i ∧ (i : Int) < a + ((2 : Nat) : Int)
    · rw [if_pos h3]
      rcases (show i = a.toNat ∨ i = a.toNat + 1 by omega) with rfl | rfl
      · rw [show a.toNat - a.toNat = 0 by omega, b0]; omega
      · rw [show a.toNat + 1 - a.toNat = 1 by omega, b1]; omega
    · rw [if_neg h3]
theorem byt_puto {x : ByteArray} {i : Nat} (hd : (i : Int) < a ∨ a + x.size ≤ i) : byt (putB s a x) i = byt s i := by
  rw [byt_put, if_neg (by omega)]
theorem has_put {x : ByteArray} {n : Int} : hasN (putB s a x) b n = hasN s b n := by unfold hasN; rw [putB_size]
theorem g16_put {x : ByteArray} (h0 : 0 ≤ b) (hd : b + 2 ≤ a ∨ a + x.size ≤ b) : g16 (putB s a x) b = g16 s b := by
  rw [g16, g16, has_put, byt_puto (by omega), byt_puto (by omega)]
theorem g32_put {x : ByteArray} (h0 : 0 ≤ b) (hd : b + 4 ≤ a ∨ a + x.size ≤ b) : g32 (putB s a x) b = g32 s b := by
  rw [g32, g32, has_put, byt_puto (by omega), byt_puto (by omega), byt_puto (by omega), byt_puto (by omega)]
theorem ex_r {i j : Nat} (hi : i = h.size) (hj : j = h.size + r.size) : (h ++ r).extract i j = r := by
  apply byt_ext
  · rw [ex_size _ _ _ (by rw [ByteArray.size_append]; omega)]; omega
  · intro k hk
    rw [ex_size _ _ _ (by rw [ByteArray.size_append]; omega)] at hk
    rw [byt_ex, if_pos hk, byt_r (j := k) (by omega)]
theorem ex_l {j : Nat} (hj : j = h.size) : (h ++ r).extract 0 j = h := by
  apply byt_ext
  · rw [ex_size _ _ _ (by rw [ByteArray.size_append]; omega)]; omega
  · intro k hk
    rw [ex_size _ _ _ (by rw [ByteArray.size_append]; omega)] at hk
    rw [byt_ex, if_pos hk, byt_l (by omega)]; congr 1; omega
theorem ex_m {j k : Nat} (hj : j = h.size) (hk : k = h.size + r.size) : (h ++ (r ++ E)).extract j k = r := by
  rw [← ByteArray.append_assoc]
  apply byt_ext
  · rw [ex_size _ _ _ (by rw [ByteArray.size_append, ByteArray.size_append]; omega)]; omega
  · intro q hq
    rw [ex_size _ _ _ (by rw [ByteArray.size_append, ByteArray.size_append]; omega)] at hq
    rw [byt_ex, if_pos hq, byt_l (by rw [ByteArray.size_append]; omega), byt_r (j := q) (by omega)]
end
/-- A frame's bytes ahead of its body. -/
def ethH (dst src vl ty : Int) : ByteArray := (if 0 ≤ vl then macS dst ++ macS src ++ w16 33024 ++ w16 vl else macS dst ++ macS src) ++ w16 ty
def hdN (vl : Int) : Nat := if 0 ≤ vl then 18 else 14
theorem mac_back {a : Int} {r : ByteArray} (ha : inB a 0 281474976710655 = true) : g16 (macS a ++ r) 0 * 4294967296 + g32 (macS a ++ r) 2 = a := by
  obtain ⟨h0, h1⟩ := inB_t ha
  have i1 : inB (a / 4294967296) 0 65535 = true := inBi (by omega) (by omega)
  have i2 : inB (a % 4294967296) 0 4294967295 = true := inBi (by omega) (by omega)
  have z1 := w16_size i1
  have z2 := w32_size i2
  rw [g16_l (by decide) (by rw [macS_size ha]; decide), g32_l (by decide) (by rw [macS_size ha]; decide), macS, g16_l (by decide) (by omega), g32_r (b := 0) (by omega) (by decide), g16_w i1, g32_w i2]
  omega
theorem ethH_size {dst src vl ty : Int} (h1 : inB dst 0 281474976710655 = true) (h2 : inB src 0 281474976710655 = true) (h3 : inB vl (-1) 4095 = true) (h4 : inB ty 0 65535 = true) : (ethH dst src vl ty).size = hdN vl := by
  obtain ⟨v0, v1⟩ := inB_t h3
  unfold ethH hdN
  split
  · rename_i hv
    simp only [ByteArray.size_append, macS_size h1, macS_size h2, w16_size h4, w16_size (show inB 33024 0 65535 = true by decide), w16_size (show inB vl 0 65535 = true from inBi hv (by omega))]
  · simp only [ByteArray.size_append, macS_size h1, macS_size h2, w16_size h4]
theorem eth_back {dst src vl ty : Int} {bd : ByteArray} (h : ethB dst src vl ty bd = true) :
    let s := ethH dst src vl ty ++ bd
    atN s = hdN vl ∧ dstE s = dst ∧ srcE s = src ∧ vlE s = vl ∧ tyE s = ty ∧ bdE s = bd ∧ okE s = true := by
  intro s
  have hs : s = ethH dst src vl ty ++ bd := rfl
  clear_value s
  obtain ⟨h1, h2, h3, h4, h5, h6⟩ := ethB_t h
  obtain ⟨v0, v1⟩ := inB_t h3
  obtain ⟨t0, t1⟩ := inB_t h4
  obtain ⟨b0, b1⟩ := inB_t h6
  have h4' : inB ty 0 65535 = true := inBi (by omega) t1
  have z1 := macS_size h1
  have z2 := macS_size h2
  have z3 := w16_size h4'
  have z4 : (w16 33024).size = 2 := w16_size (by decide)
  have hz := ethH_size h1 h2 h3 h4'
  have hsz : s.size = hdN vl + bd.size := by rw [hs, ByteArray.size_append, hz]
  have e1 : dstE s = dst := by
    rw [dstE, hs, g16_l (by decide) (by rw [hz]; unfold hdN; split <;> omega), g32_l (by decide) (by rw [hz]; unfold hdN; split <;> omega)]
    unfold ethH
    split
    · rw [ByteArray.append_assoc, ByteArray.append_assoc, ByteArray.append_assoc]; exact mac_back h1
    · rw [ByteArray.append_assoc]; exact mac_back h1
  have e2 : srcE s = src := by
    rw [srcE, hs, g16_l (by decide) (by rw [hz]; unfold hdN; split <;> omega), g32_l (by decide) (by rw [hz]; unfold hdN; split <;> omega)]
    unfold ethH
    split
    · rw [ByteArray.append_assoc, ByteArray.append_assoc, ByteArray.append_assoc, g16_r (b := 0) (by omega) (by decide), g32_r (b := 2) (by omega) (by decide)]; exact mac_back h2
    · rw [ByteArray.append_assoc, g16_r (b := 0) (by omega) (by decide), g32_r (b := 2) (by omega) (by decide)]; exact mac_back h2
  have e12 : g16 s 12 = if 0 ≤ vl then 33024 else ty := by
    rw [hs, g16_l (by decide) (by rw [hz]; unfold hdN; split <;> omega)]
    unfold ethH
    split
    · rw [g16_l (by decide) (by (try simp only [ByteArray.size_append]); omega), g16_l (by decide) (by (try simp only [ByteArray.size_append]); omega), g16_r (b := 0) (by (try simp only [ByteArray.size_append]); omega) (by decide), g16_w (by decide)]
    · rw [g16_r (b := 0) (by (try simp only [ByteArray.size_append]); omega) (by decide), g16_w h4']
  have e0 : atN s = hdN vl := by
    rw [atN, e12, hdN]
    by_cases hv : 0 ≤ vl
    · rw [if_pos hv, if_pos rfl, if_pos hv]
    · rw [if_neg hv, if_neg h5, if_neg hv]
  have e5 : bdE s = bd := by rw [bdE, e0, hs]; exact ex_r hz.symm (by rw [ByteArray.size_append])
  have e34 : vlE s = vl ∧ tyE s = ty := by
    rw [vlE, tyE, e12]
    by_cases hv : 0 ≤ vl
    · have iv : inB vl 0 65535 = true := inBi hv (by omega)
      have z5 := w16_size iv
      have hz8 : (ethH dst src vl ty).size = 18 := by rw [hz, hdN, if_pos hv]
      rw [if_pos hv, if_pos rfl, if_pos rfl]
      constructor
      · rw [hs, g16_l (by decide) (by rw [hz8]; decide), ethH, if_pos hv, g16_l (by decide) (by (try simp only [ByteArray.size_append]); omega), g16_r (b := 0) (by (try simp only [ByteArray.size_append]); omega) (by decide), g16_w iv]
      · rw [hs, g16_l (by decide) (by rw [hz8]; decide), ethH, if_pos hv, g16_r (b := 0) (by (try simp only [ByteArray.size_append]); omega) (by decide), g16_w h4']
    · rw [if_neg hv, if_neg h5, if_neg h5]; exact ⟨by omega, rfl⟩
  refine ⟨e0, e1, e2, e34.1, e34.2, e5, ?_⟩
  rw [okE, e1, e2, e34.1, e34.2, e5, h, Bool.and_true, decide_eq_true_eq, hsz]
  unfold hdN; split <;> omega
theorem ethS_eq (dst src vl ty : Int) (bd : ByteArray) : ethS dst src vl ty bd = ethH dst src vl ty ++ bd := rfl
/-- What a datagram's header says, its checksum whatever it be. -/
theorem ip_back {tos id ttl pr si di : Int} {n : Nat} {H r : ByteArray} (h1 : inB tos 0 255 = true) (h2 : inB ttl 0 255 = true) (h3 : inB pr 0 255 = true) (h4 : inB id 0 65535 = true) (h5 : inB si 0 4294967295 = true) (h6 : inB di 0 4294967295 = true) (hn : n ≤ 380)
    (x : Int) (hx : (w16 x).size = 2) (hH : H = ipH0 tos id ttl pr si di n ∨ H = putB (ipH0 tos id ttl pr si di n) 10 (w16 x)) :
    byt (H ++ r) 1 = tos ∧ g16 (H ++ r) 2 = 20 + (n : Int) ∧ g16 (H ++ r) 4 = id ∧ byt (H ++ r) 8 = ttl ∧ byt (H ++ r) 9 = pr ∧ g32 (H ++ r) 12 = si ∧ g32 (H ++ r) 16 = di ∧ H.size = 20 := by
  have z := ipH0_size (tos := tos) (ttl := ttl) (pr := pr) h4 h5 h6 hn
  obtain ⟨t0, t1⟩ := inB_t h1
  obtain ⟨l0, l1⟩ := inB_t h2
  obtain ⟨p0, p1⟩ := inB_t h3
  have i3 : inB (20 + (n : Int)) 0 65535 = true := inBi (by omega) (by omega)
  have z1 : (strOfNums [69, tos]).size = 2 := rfl
  have z2 : (strOfNums [ttl, pr]).size = 2 := rfl
  have z3 := w16_size i3
  have z4 := w16_size h4
  have z5 : (w16 16384).size = 2 := w16_size (by decide)
  have z6 : (w16 0).size = 2 := w16_size (by decide)
  have z7 := w32_size h5
  have z8 := w32_size h6
  have b1 : byt (strOfNums [69, tos]) 1 = tos := byt_son' rfl t0 t1
  have b2 : byt (strOfNums [ttl, pr]) 0 = ttl := byt_son' rfl l0 l1
  have b3 : byt (strOfNums [ttl, pr]) 1 = pr := byt_son' rfl p0 p1
  obtain ⟨H0, hH0⟩ : ∃ H0, ipH0 tos id ttl pr si di n = H0 := ⟨_, rfl⟩
  have key : byt H0 1 = tos ∧ g16 H0 2 = 20 + (n : Int) ∧ g16 H0 4 = id ∧ byt H0 8 = ttl ∧ byt H0 9 = pr ∧ g32 H0 12 = si ∧ g32 H0 16 = di := by
    rw [← hH0, ipH0]
    refine ⟨?_, ?_, ?_, ?_, ?_, ?_, ?_⟩
    · repeat rw [byt_l (by (try simp only [ByteArray.size_append]); omega)]
      exact b1
    · repeat rw [g16_l (by decide) (by (try simp only [ByteArray.size_append]); omega)]
      rw [g16_r (b := 0) (by (try simp only [ByteArray.size_append]); omega) (by decide), g16_w i3]
    · repeat rw [g16_l (by decide) (by (try simp only [ByteArray.size_append]); omega)]
      rw [g16_r (b := 0) (by (try simp only [ByteArray.size_append]); omega) (by decide), g16_w h4]
    · repeat rw [byt_l (by (try simp only [ByteArray.size_append]); omega)]
      rw [byt_r (j := 0) (by (try simp only [ByteArray.size_append]); omega), b2]
    · repeat rw [byt_l (by (try simp only [ByteArray.size_append]); omega)]
      rw [byt_r (j := 1) (by (try simp only [ByteArray.size_append]); omega), b3]
    · rw [g32_l (by decide) (by (try simp only [ByteArray.size_append]); omega), g32_r (b := 0) (by (try simp only [ByteArray.size_append]); omega) (by decide), g32_w h5]
    · rw [g32_r (b := 0) (by (try simp only [ByteArray.size_append]); omega) (by decide), g32_w h6]
  rw [hH0] at z hH
  obtain ⟨k1, k2, k3, k4, k5, k6, k7⟩ := key
  rcases hH with rfl | rfl
  · rw [byt_l (by omega), g16_l (by decide) (by omega), g16_l (by decide) (by omega), byt_l (by omega), byt_l (by omega), g32_l (by decide) (by omega), g32_l (by decide) (by omega)]
    exact ⟨k1, k2, k3, k4, k5, k6, k7, z⟩
  · have z' : (putB H0 10 (w16 x)).size = 20 := by rw [putB_size, z]
    rw [byt_l (by omega), g16_l (by decide) (by omega), g16_l (by decide) (by omega), byt_l (by omega), byt_l (by omega), g32_l (by decide) (by omega), g32_l (by decide) (by omega),
      byt_puto (by omega), g16_put (by decide) (by omega), g16_put (by decide) (by omega), byt_puto (by omega), byt_puto (by omega), g32_put (by decide) (by omega), g32_put (by decide) (by omega)]
    exact ⟨k1, k2, k3, k4, k5, k6, k7, z'⟩
theorem ipH0_zero {tos id ttl pr si di : Int} {n : Nat} (h4 : inB id 0 65535 = true) (h5 : inB si 0 4294967295 = true) (h6 : inB di 0 4294967295 = true) (hn : n ≤ 380) : g16 (ipH0 tos id ttl pr si di n) 10 = 0 := by
  have i3 : inB (20 + (n : Int)) 0 65535 = true := inBi (by omega) (by omega)
  have z1 : (strOfNums [69, tos]).size = 2 := rfl
  have z2 : (strOfNums [ttl, pr]).size = 2 := rfl
  have z3 := w16_size i3
  have z4 := w16_size h4
  have z5 : (w16 16384).size = 2 := w16_size (by decide)
  have z6 : (w16 0).size = 2 := w16_size (by decide)
  have z7 := w32_size h5
  have z8 := w32_size h6
  rw [ipH0]
  repeat rw [g16_l (by decide) (by (try simp only [ByteArray.size_append]); omega)]
  rw [g16_r (b := 0) (by (try simp only [ByteArray.size_append]); omega) (by decide), g16_w (by decide)]
/-- A datagram that was built can be read, with bytes behind it. -/
theorem ip_ok {tos id ttl pr si di : Int} {bd r : ByteArray} (h : ipB tos id ttl pr si di bd = true) :
    let s := ipH tos id ttl pr si di bd.size ++ (bd ++ r)
    okP s = true ∧ byt s 1 = tos ∧ g16 s 4 = id ∧ byt s 8 = ttl ∧ byt s 9 = pr ∧ g32 s 12 = si ∧ g32 s 16 = di ∧ bdP s = bd := by
  intro s
  have hs : s = ipH tos id ttl pr si di bd.size ++ (bd ++ r) := rfl
  clear_value s
  obtain ⟨⟨h1, h2, h3⟩, h4, h5, h6, hn⟩ := ipB_t h
  have hc := chk_bd (ipH0 tos id ttl pr si di bd.size)
  have zx := w16_size (v := chk (ipH0 tos id ttl pr si di bd.size)) (inBi hc.1 hc.2)
  have hb := ip_back (H := ipH tos id ttl pr si di bd.size) (r := bd ++ r) h1 h2 h3 h4 h5 h6 hn _ zx (.inr rfl)
  rw [← hs] at hb
  obtain ⟨k1, k2, k3, k4, k5, k6, k7, z⟩ := hb
  have e : bdP s = bd := by rw [bdP, k2, hs]; exact ex_m z.symm (by omega)
  refine ⟨?_, k1, k3, k4, k5, k6, k7, e⟩
  have hsz : s.size = 20 + (bd.size + r.size) := by rw [hs, ByteArray.size_append, ByteArray.size_append, z]
  have hx : s.extract 0 (20 + (bd.size : Int)).toNat = ipS tos id ttl pr si di bd := by
    rw [hs, ipS, ← ByteArray.append_assoc]; exact ex_l (by rw [ByteArray.size_append, z]; omega)
  rw [okP, k1, k2, k3, k4, k5, k6, k7, e, h, hx, decide_eq_true (show 20 ≤ s.size by omega), decide_eq_true (show (20 : Int) ≤ 20 + (bd.size : Int) by omega), decide_eq_true (show 20 + (bd.size : Int) ≤ (s.size : Int) by omega)]
  simp
set_option maxHeartbeats 2000000 in
/-- A segment's fields, its checksum whatever it be. -/
theorem seg_back {kd sp dp sq ak fl wn : Int} {bd S : ByteArray} (h : segB kd sp dp sq ak fl wn bd = true) (x : Int) (hx : (w16 x).size = 2) (hS : S = segS0 kd sp dp sq ak fl wn bd ∨ S = putB (segS0 kd sp dp sq ak fl wn bd) (plcI kd) (w16 x)) :
    S.size = (if kd = 6 then 20 else 8) + bd.size ∧ g16 S 0 = sp ∧ g16 S 2 = dp ∧ sqR kd S = sq ∧ akR kd S = ak ∧ flR kd S = fl ∧ wnR kd S = wn ∧ bdR kd S = bd := by
  have z := segS0_size h
  obtain ⟨⟨h1, h2, h9⟩, ⟨rfl, h3, h4, h5, h6⟩ | ⟨rfl, rfl, rfl, rfl, rfl⟩⟩ := segB_t h
  · obtain ⟨f0, f1⟩ := inB_t h5
    have z1 := w16_size h1
    have z2 := w16_size h2
    have z3 := w32_size h3
    have z4 := w32_size h4
    have z5 : (strOfNums [80, fl]).size = 2 := rfl
    have z6 := w16_size h6
    have z7 : (w16 0).size = 2 := w16_size (by decide)
    have b5 : byt (strOfNums [80, fl]) 1 = fl := byt_son' rfl f0 (by omega)
    obtain ⟨S0, hS0⟩ : ∃ S0, segS0 6 sp dp sq ak fl wn bd = S0 := ⟨_, rfl⟩
    have key : g16 S0 0 = sp ∧ g16 S0 2 = dp ∧ g32 S0 4 = sq ∧ g32 S0 8 = ak ∧ byt S0 13 = fl ∧ g16 S0 14 = wn ∧ S0.extract 20 S0.size = bd := by
      rw [← hS0, segS0, if_pos rfl]
      refine ⟨?_, ?_, ?_, ?_, ?_, ?_, ?_⟩
      · repeat rw [g16_l (by decide) (by (try simp only [ByteArray.size_append]); omega)]
        exact g16_w h1
      · repeat rw [g16_l (by decide) (by (try simp only [ByteArray.size_append]); omega)]
        rw [g16_r (b := 0) (by omega) (by decide), g16_w h2]
      · repeat rw [g32_l (by decide) (by (try simp only [ByteArray.size_append]); omega)]
        rw [g32_r (b := 0) (by (try simp only [ByteArray.size_append]); omega) (by decide), g32_w h3]
      · repeat rw [g32_l (by decide) (by (try simp only [ByteArray.size_append]); omega)]
        rw [g32_r (b := 0) (by (try simp only [ByteArray.size_append]); omega) (by decide), g32_w h4]
      · repeat rw [byt_l (by (try simp only [ByteArray.size_append]); omega)]
        rw [byt_r (j := 1) (by (try simp only [ByteArray.size_append]); omega), b5]
      · repeat rw [g16_l (by decide) (by (try simp only [ByteArray.size_append]); omega)]
        rw [g16_r (b := 0) (by (try simp only [ByteArray.size_append]); omega) (by decide), g16_w h6]
      · exact ex_r (by (try simp only [ByteArray.size_append]); omega) (by simp only [ByteArray.size_append])
    rw [hS0] at z hS
    simp only [sqR, akR, flR, wnR, bdR, if_pos] at *
    obtain ⟨k1, k2, k3, k4, k5, k6, k7⟩ := key
    rcases hS with rfl | rfl
    · exact ⟨z, k1, k2, k3, k4, k5, k6, k7⟩
    · have hp : plcI 6 = 16 := rfl
      rw [hp, putB_size, g16_put (by decide) (by omega), g16_put (by decide) (by omega), g32_put (by decide) (by omega), g32_put (by decide) (by omega), byt_puto (by omega), g16_put (by decide) (by omega)]
      refine ⟨z, k1, k2, k3, k4, k5, k6, ?_⟩
      rw [← k7]
      apply byt_ext
      · rw [ex_size _ _ _ (by rw [putB_size]; omega), ex_size _ _ _ (by omega)]
      · intro i hi
        rw [ex_size _ _ _ (by rw [putB_size]; omega)] at hi
        rw [byt_ex, byt_ex, if_pos hi, if_pos hi, byt_puto (by omega)]
  · have i3 : inB (8 + (bd.size : Int)) 0 65535 = true := inBi (by omega) (by omega)
    have z1 := w16_size h1
    have z2 := w16_size h2
    have z3 := w16_size i3
    have z7 : (w16 0).size = 2 := w16_size (by decide)
    obtain ⟨S0, hS0⟩ : ∃ S0, segS0 17 sp dp 0 0 0 0 bd = S0 := ⟨_, rfl⟩
    have key : g16 S0 0 = sp ∧ g16 S0 2 = dp ∧ S0.extract 8 S0.size = bd := by
      rw [← hS0, segS0, if_neg (by decide)]
      refine ⟨?_, ?_, ?_⟩
      · repeat rw [g16_l (by decide) (by (try simp only [ByteArray.size_append]); omega)]
        exact g16_w h1
      · repeat rw [g16_l (by decide) (by (try simp only [ByteArray.size_append]); omega)]
        rw [g16_r (b := 0) (by omega) (by decide), g16_w h2]
      · exact ex_r (by (try simp only [ByteArray.size_append]); omega) (by simp only [ByteArray.size_append])
    rw [hS0] at z hS
    have n6 : ¬ (17 : Int) = 6 := by decide
    simp only [sqR, akR, flR, wnR, bdR, if_neg n6] at *
    obtain ⟨k1, k2, k7⟩ := key
    rcases hS with rfl | rfl
    · exact ⟨z, k1, k2, trivial, trivial, trivial, trivial, k7⟩
    · have hp : plcI 17 = 6 := rfl
      rw [hp, putB_size, g16_put (by decide) (by omega), g16_put (by decide) (by omega)]
      refine ⟨z, k1, k2, trivial, trivial, trivial, trivial, ?_⟩
      rw [← k7]
      apply byt_ext
      · rw [ex_size _ _ _ (by rw [putB_size]; omega), ex_size _ _ _ (by omega)]
      · intro i hi
        rw [ex_size _ _ _ (by rw [putB_size]; omega)] at hi
        rw [byt_ex, byt_ex, if_pos hi, if_pos hi, byt_puto (by omega)]
theorem segS0_zero {kd sp dp sq ak fl wn : Int} {bd : ByteArray} (h : segB kd sp dp sq ak fl wn bd = true) : g16 (segS0 kd sp dp sq ak fl wn bd) (plcI kd) = 0 := by
  obtain ⟨⟨h1, h2, h9⟩, ⟨rfl, h3, h4, h5, h6⟩ | ⟨rfl, rfl, rfl, rfl, rfl⟩⟩ := segB_t h
  · have z1 := w16_size h1
    have z2 := w16_size h2
    have z3 := w32_size h3
    have z4 := w32_size h4
    have z5 : (strOfNums [80, fl]).size = 2 := rfl
    have z6 := w16_size h6
    have z7 : (w16 0).size = 2 := w16_size (by decide)
    rw [segS0, if_pos rfl, show plcI 6 = 16 from rfl, g16_l (by decide) (by (try simp only [ByteArray.size_append]); omega), g16_l (by decide) (by (try simp only [ByteArray.size_append]); omega), g16_r (b := 0) (by (try simp only [ByteArray.size_append]); omega) (by decide), g16_w (by decide)]
  · have i3 : inB (8 + (bd.size : Int)) 0 65535 = true := inBi (by omega) (by omega)
    have z1 := w16_size h1
    have z2 := w16_size h2
    have z3 := w16_size i3
    have z7 : (w16 0).size = 2 := w16_size (by decide)
    rw [segS0, if_neg (by decide), show plcI 17 = 6 from rfl, g16_l (by decide) (by (try simp only [ByteArray.size_append]); omega), g16_r (b := 0) (by (try simp only [ByteArray.size_append]); omega) (by decide), g16_w (by decide)]
theorem fix_bd {kd x : Int} (h0 : 0 ≤ x) (h1 : x ≤ 65535) : inB (fixS kd x) 0 65535 = true := by
  unfold fixS; split
  · decide
  · exact inBi h0 h1
/-- A segment that was built can be read. -/
theorem seg_ok {kd sp dp sq ak fl wn : Int} {bd : ByteArray} (h : segB kd sp dp sq ak fl wn bd = true) (si di : Int) :
    let S := segS si di kd sp dp sq ak fl wn bd
    okR si di kd S = true ∧ g16 S 0 = sp ∧ g16 S 2 = dp ∧ sqR kd S = sq ∧ akR kd S = ak ∧ flR kd S = fl ∧ wnR kd S = wn ∧ bdR kd S = bd := by
  intro S
  have hS : S = segS si di kd sp dp sq ak fl wn bd := rfl
  clear_value S
  have hc := chk_bd (psH si di kd (segS0 kd sp dp sq ak fl wn bd).size ++ segS0 kd sp dp sq ak fl wn bd)
  obtain ⟨z, k1, k2, k3, k4, k5, k6, k7⟩ := seg_back (S := S) h _ (w16_size (fix_bd (kd := kd) hc.1 hc.2)) (.inr (by rw [hS, segS, segF]))
  refine ⟨?_, k1, k2, k3, k4, k5, k6, k7⟩
  rw [okR, k1, k2, k3, k4, k5, k6, k7, h, ← hS]
  obtain ⟨_, ⟨rfl, _⟩ | ⟨rfl, _⟩⟩ := segB_t h
  · simp [tcpB, z]
  · simp [tcpB, udpB, z]
theorem pad_eq (s : ByteArray) : ∃ P, padS s = s ++ P := by
  unfold padS; split
  · exact ⟨_, rfl⟩
  · exact ⟨ByteArray.empty, by simp⟩
end Go.Proofs.Ytifbfmafogmemaa
