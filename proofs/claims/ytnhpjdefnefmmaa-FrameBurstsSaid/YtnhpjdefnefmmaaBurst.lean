/- Bits that are flipped within 32 in a row change the sum: plain laws. -/
import Derived.Test.YtnhpjdefnefmmaaCrcM
namespace Go.Proofs.Ytnhpjdefnefmmaa.Burst
open Go Go.Proofs.Ytnhpjdefnefmmaa.CrcW Go.Proofs.Ytnhpjdefnefmmaa.CrcM

theorem st_ne {c : BitVec 32} (h : c ≠ 0#32) : st c ≠ 0#32 := by
  unfold st
  have hs : (c >>> (1 : Nat)).toNat = c.toNat / 2 := by rw [BitVec.toNat_ushiftRight, Nat.shiftRight_eq_div_pow]
  have hlt := c.isLt
  split
  · intro e
    have e2 : c >>> (1 : Nat) = 2197175160#32 := by
      have h2 : c >>> (1 : Nat) ^^^ 2197175160#32 ^^^ 2197175160#32 = 0#32 ^^^ 2197175160#32 := by rw [e]
      rwa [BitVec.xor_assoc, BitVec.xor_self, BitVec.xor_zero, BitVec.zero_xor] at h2
    rw [e2] at hs
    have : (2197175160#32).toNat = 2197175160 := by decide
    omega
  · rename_i hb
    intro e
    rw [e] at hs
    have h1 : (c &&& 1#32).toNat = c.toNat % 2 := by rw [BitVec.toNat_and]; exact Nat.and_one_is_mod _
    rcases lsb_two c with h0 | h0
    · rw [h0] at h1
      refine h (BitVec.eq_of_toNat_eq ?_)
      have z : (0#32).toNat = 0 := rfl
      rw [z] at hs h1 ⊢
      omega
    · exact hb h0
theorem sts_ne {c : BitVec 32} (h : c ≠ 0#32) : ∀ n, sts c n ≠ 0#32
  | 0 => h
  | n + 1 => st_ne (sts_ne h n)
theorem sts_add (c : BitVec 32) (m : Nat) : ∀ n, sts (sts c m) n = sts c (m + n)
  | 0 => rfl
  | n + 1 => by show st (sts (sts c m) n) = st (sts c (m + n)); rw [sts_add c m n]
/-- noughts below: the steps only shift -/
theorem st_even (y : Nat) (h : 2 * y < 2 ^ 32) : st (BitVec.ofNat 32 (2 * y)) = BitVec.ofNat 32 y := by
  unfold st
  have hl : BitVec.ofNat 32 (2 * y) &&& 1#32 = 0#32 := by
    apply BitVec.eq_of_toNat_eq
    rw [BitVec.toNat_and, BitVec.toNat_ofNat, Nat.mod_eq_of_lt h]
    show 2 * y &&& 1 = 0
    rw [Nat.and_one_is_mod]; omega
  rw [hl, if_neg (by decide)]
  apply BitVec.eq_of_toNat_eq
  rw [BitVec.toNat_ushiftRight, BitVec.toNat_ofNat, Nat.mod_eq_of_lt h, BitVec.toNat_ofNat, Nat.mod_eq_of_lt (by omega), Nat.shiftRight_eq_div_pow]
  omega
theorem sts_shift (y : Nat) : ∀ n, 2 ^ n * y < 2 ^ 32 → sts (BitVec.ofNat 32 (2 ^ n * y)) n = BitVec.ofNat 32 y
  | 0, _ => by rw [Nat.pow_zero, Nat.one_mul]; rfl
  | n + 1, h => by
    rw [← sts_st, show 2 ^ (n + 1) * y = 2 * (2 ^ n * y) from by rw [Nat.pow_succ]; ac_rfl] at *
    rw [st_even _ h, sts_shift y n (by omega)]
theorem nat_split (a : Nat) {b i : Nat} (h : b < 2 ^ i) : 2 ^ i * a + b = (2 ^ i * a) ^^^ b := by
  apply Nat.eq_of_testBit_eq
  intro j
  rw [Nat.testBit_two_pow_mul_add a h, Nat.testBit_xor, Nat.testBit_two_pow_mul]
  by_cases hj : j < i
  · simp [hj, Nat.not_le.2 hj]
  · have hb : b.testBit j = false := Nat.testBit_lt_two_pow (Nat.lt_of_lt_of_le h (Nat.pow_le_pow_right (by omega) (by omega)))
    simp [hj, hb, Nat.not_lt.1 hj]
theorem ofNat_xor (a b : Nat) : BitVec.ofNat 32 (a ^^^ b) = BitVec.ofNat 32 a ^^^ BitVec.ofNat 32 b := by
  apply BitVec.eq_of_toNat_eq
  rw [BitVec.toNat_xor, BitVec.toNat_ofNat, BitVec.toNat_ofNat, BitVec.toNat_ofNat, Nat.xor_mod_two_pow]
/-- s steps over a word: its low bits take part, the rest is shifted -/
theorem sts_split (N s : Nat) (h : N < 2 ^ 32) : sts (BitVec.ofNat 32 N) s = sts (BitVec.ofNat 32 (N % 2 ^ s)) s ^^^ BitVec.ofNat 32 (N / 2 ^ s) := by
  have e : N = 2 ^ s * (N / 2 ^ s) + N % 2 ^ s := (Nat.div_add_mod N (2 ^ s)).symm
  have hl : N % 2 ^ s < 2 ^ s := Nat.mod_lt _ (Nat.two_pow_pos s)
  have hh : 2 ^ s * (N / 2 ^ s) < 2 ^ 32 := Nat.lt_of_le_of_lt (Nat.mul_div_le N (2 ^ s)) h
  have h1 : BitVec.ofNat 32 N = BitVec.ofNat 32 (2 ^ s * (N / 2 ^ s)) ^^^ BitVec.ofNat 32 (N % 2 ^ s) := by
    rw [← ofNat_xor, ← nat_split _ hl, ← e]
  rw [h1, sts_xor, sts_shift _ _ hh, BitVec.xor_comm]

/-- the bytes of a number, the lowest first -/
def bytesN : Nat → Nat → List UInt8
  | _, 0 => []
  | N, m + 1 => UInt8.ofNat (N % 256) :: bytesN (N / 256) m
theorem byteStep_ofNat (c : BitVec 32) (x : Nat) (h : x < 256) : byteStep c (UInt8.ofNat x) = sts (c ^^^ BitVec.ofNat 32 x) 8 := by
  unfold byteStep
  congr 2
  apply BitVec.eq_of_toNat_eq
  rw [BitVec.zeroExtend_eq_setWidth, BitVec.toNat_setWidth, BitVec.toNat_ofNat]
  show (UInt8.ofNat x).toNat % 2 ^ 32 = _
  rw [UInt8.toNat_ofNat']
  omega
theorem feed_word : ∀ (m N : Nat) (c : BitVec 32), N < 2 ^ 32 → N < 256 ^ m → (bytesN N m).foldl byteStep c = sts (c ^^^ BitVec.ofNat 32 N) (8 * m)
  | 0, N, c, _, h => by
    obtain rfl : N = 0 := by rw [Nat.pow_zero] at h; omega
    show c = c ^^^ 0#32
    rw [BitVec.xor_zero]
  | m + 1, N, c, h32, h => by
    have hd : N / 256 < 256 ^ m := by rw [Nat.pow_succ] at h; omega
    show (bytesN (N / 256) m).foldl byteStep (byteStep c (UInt8.ofNat (N % 256))) = _
    rw [feed_word m (N / 256) _ (by omega) hd, byteStep_ofNat _ _ (by omega), show 8 * (m + 1) = 8 + 8 * m from by omega, ← sts_add]
    congr 1
    rw [sts_xor, sts_xor c (BitVec.ofNat 32 N), sts_split N 8 h32, show 2 ^ 8 = 256 from rfl, BitVec.xor_assoc]
theorem ofNat_ne {f : Nat} (h0 : f ≠ 0) (h : f < 2 ^ 32) : BitVec.ofNat 32 f ≠ 0#32 := by
  intro e
  have := congrArg BitVec.toNat e
  rw [BitVec.toNat_ofNat, Nat.mod_eq_of_lt h] at this
  exact h0 this
/-- 32 bits in a row, not all nought, laid somewhere into a byte, make a sum that isn't nought -/
theorem feed_burst (f s m : Nat) (h0 : f ≠ 0) (hf : f < 2 ^ 32) (hs : s < 8) (hm : s + 32 ≤ 8 * m) : (bytesN (2 ^ s * f) m).foldl byteStep 0#32 ≠ 0#32 := by
  by_cases s0 : s = 0
  · subst s0
    have hp : f < 256 ^ m := by
      refine Nat.lt_of_lt_of_le hf ?_
      rw [show 256 = 2 ^ 8 from rfl, ← Nat.pow_mul]
      exact Nat.pow_le_pow_right (by omega) (by omega)
    rw [Nat.pow_zero, Nat.one_mul, feed_word m f _ hf hp, BitVec.zero_xor]
    exact sts_ne (ofNat_ne h0 hf) _
  · obtain ⟨m, rfl⟩ : ∃ k, m = k + 1 := ⟨m - 1, by omega⟩
    have hpos : 0 < 2 ^ s := Nat.two_pow_pos s
    have e256 : 256 = 2 ^ s * 2 ^ (8 - s) := by rw [← Nat.pow_add, show s + (8 - s) = 8 from by omega]
    have hmod : 2 ^ s * f % 256 = 2 ^ s * (f % 2 ^ (8 - s)) := by rw [e256, Nat.mul_mod_mul_left]
    have hdiv : 2 ^ s * f / 256 = f / 2 ^ (8 - s) := by rw [e256, Nat.mul_div_mul_left _ _ hpos]
    have hd32 : f / 2 ^ (8 - s) < 2 ^ 32 := Nat.lt_of_le_of_lt (Nat.div_le_self _ _) hf
    have hd : f / 2 ^ (8 - s) < 256 ^ m := by
      refine Nat.lt_of_lt_of_le hd32 ?_
      rw [show 256 = 2 ^ 8 from rfl, ← Nat.pow_mul]
      exact Nat.pow_le_pow_right (by omega) (by omega)
    show (bytesN (2 ^ s * f / 256) m).foldl byteStep (byteStep 0#32 (UInt8.ofNat (2 ^ s * f % 256))) ≠ _
    have hlow : 2 ^ s * (f % 2 ^ (8 - s)) < 256 := by rw [← hmod]; omega
    have e8 : sts (BitVec.ofNat 32 (2 ^ s * (f % 2 ^ (8 - s)))) 8 = sts (BitVec.ofNat 32 (f % 2 ^ (8 - s))) (8 - s) := by
      have h := sts_add (BitVec.ofNat 32 (2 ^ s * (f % 2 ^ (8 - s)))) s (8 - s)
      rw [sts_shift _ _ (by omega), show s + (8 - s) = 8 from by omega] at h
      exact h.symm
    rw [hdiv, hmod, feed_word m _ _ hd32 hd, byteStep_ofNat _ _ hlow, BitVec.zero_xor, e8, ← sts_split f (8 - s) hf, sts_add]
    exact sts_ne (ofNat_ne h0 hf) _
theorem feed_zeros : ∀ (n : Nat), (List.replicate n (0 : UInt8)).foldl byteStep 0#32 = 0#32
  | 0 => rfl
  | n + 1 => by
    rw [List.replicate_succ, List.foldl_cons, show byteStep 0#32 0 = 0#32 from by decide, feed_zeros n]

/-- the bytes that are turned: noughts up to the byte of bit 'from', behind it the bits of f -/
def ebytes (fr f n : Nat) : List UInt8 := List.replicate (fr / 8) 0 ++ bytesN (2 ^ (fr % 8) * f) (n - fr / 8)
theorem feed_ebytes (fr f n : Nat) (h0 : f ≠ 0) (hf : f < 2 ^ 32) (hn : fr + 32 ≤ 8 * n) : (ebytes fr f n).foldl byteStep 0#32 ≠ 0#32 := by
  unfold ebytes
  rw [List.foldl_append, feed_zeros]
  exact feed_burst f (fr % 8) (n - fr / 8) h0 hf (by omega) (by omega)
theorem bytesN_length : ∀ (N m : Nat), (bytesN N m).length = m
  | _, 0 => rfl
  | N, m + 1 => by show (bytesN (N / 256) m).length + 1 = _; rw [bytesN_length]
theorem bytesN_getD : ∀ (m N j : Nat), j < m → (bytesN N m).getD j 0 = UInt8.ofNat (N / 256 ^ j % 256)
  | m + 1, N, 0, _ => by rw [Nat.pow_zero, Nat.div_one]; rfl
  | m + 1, N, j + 1, h => by
    show (bytesN (N / 256) m).getD j 0 = _
    rw [bytesN_getD m (N / 256) j (by omega), Nat.div_div_eq_div_mul, Nat.pow_succ, Nat.mul_comm]

theorem ebytes_low {fr f n j : Nat} (h : j < fr / 8) : (ebytes fr f n).getD j 0 = 0 := by
  unfold ebytes
  rw [List.getD, List.getElem?_append_left (by simpa using h)]
  simp [h]
theorem ebytes_high {fr f n j : Nat} (h : fr / 8 ≤ j) (hj : j < n) : (ebytes fr f n).getD j 0 = UInt8.ofNat (2 ^ (fr % 8) * f / 256 ^ (j - fr / 8) % 256) := by
  unfold ebytes
  rw [List.getD, List.getElem?_append_right (by simpa using h), List.length_replicate]
  exact bytesN_getD _ _ _ (by omega)
theorem u8_ofNat_xor (a b : Nat) : UInt8.ofNat (a ^^^ b) = UInt8.ofNat a ^^^ UInt8.ofNat b := by
  apply UInt8.toNat_inj.1
  rw [UInt8.toNat_xor, UInt8.toNat_ofNat', UInt8.toNat_ofNat', UInt8.toNat_ofNat', Nat.xor_mod_two_pow]
theorem pow256 (k : Nat) : 256 ^ k = 2 ^ (8 * k) := by rw [show 256 = 2 ^ 8 from rfl, ← Nat.pow_mul]
/-- one bit more -/
theorem ebytes_step {fr g i n j : Nat} (hg : g < 2 ^ i) (hj : j < n) : (ebytes fr (g + 2 ^ i) n).getD j 0 = if j = (fr + i) / 8 then (ebytes fr g n).getD j 0 ^^^ UInt8.ofNat (2 ^ ((fr + i) % 8)) else (ebytes fr g n).getD j 0 := by
  by_cases hlow : j < fr / 8
  · rw [ebytes_low hlow, ebytes_low hlow, if_neg (by omega)]
  · have hq : fr / 8 ≤ j := by omega
    obtain ⟨k, rfl⟩ : ∃ k, j = fr / 8 + k := ⟨j - fr / 8, by omega⟩
    rw [ebytes_high hq hj, ebytes_high hq hj, show fr / 8 + k - fr / 8 = k from by omega]
    have hs : fr % 8 < 8 := by omega
    have e1 : (fr + i) / 8 = fr / 8 + (fr % 8 + i) / 8 := by omega
    have e2 : (fr + i) % 8 = (fr % 8 + i) % 8 := by omega
    rw [e1, e2]
    generalize fr % 8 = s at *
    have hN : 2 ^ s * g < 2 ^ (s + i) := by rw [Nat.pow_add]; exact Nat.mul_lt_mul_of_pos_left hg (Nat.two_pow_pos s)
    rw [Nat.mul_add, ← Nat.pow_add]
    generalize 2 ^ s * g = N at *
    generalize s + i = t at *
    have hp := Nat.two_pow_pos (8 * k)
    rw [pow256]
    by_cases hk : k = t / 8
    · rw [if_pos (by omega)]
      have ht : 2 ^ t = 2 ^ (8 * k) * 2 ^ (t % 8) := by rw [← Nat.pow_add]; congr 1; omega
      have hz : N / 2 ^ (8 * k) < 2 ^ (t % 8) := by rw [Nat.div_lt_iff_lt_mul hp, Nat.mul_comm, ← ht]; exact hN
      have hr : 2 ^ (t % 8) ≤ 128 := Nat.le_trans (Nat.pow_le_pow_right (by omega) (by omega : t % 8 ≤ 7)) (by decide)
      have hsum : (N + 2 ^ t) / 2 ^ (8 * k) = N / 2 ^ (8 * k) + 2 ^ (t % 8) := by rw [ht, Nat.add_mul_div_left _ _ hp]
      have hx := nat_split 1 hz
      rw [Nat.mul_one] at hx
      rw [hsum, Nat.mod_eq_of_lt (Nat.lt_of_lt_of_le (Nat.add_lt_add_right hz _) (by omega)), Nat.mod_eq_of_lt (Nat.lt_of_lt_of_le hz (by omega)), ← u8_ofNat_xor, Nat.xor_comm, ← hx, Nat.add_comm]
    · rw [if_neg (by omega)]
      congr 1
      by_cases hk2 : k < t / 8
      · have ht : 2 ^ t = 2 ^ (8 * k) * (256 * 2 ^ (t - 8 * (k + 1))) := by
          rw [show 256 = 2 ^ 8 from rfl, ← Nat.pow_add, ← Nat.pow_add]; congr 1; omega
        rw [ht, Nat.add_mul_div_left _ _ hp, Nat.add_mul_mod_self_left]
      · have hb : 2 ^ (t + 1) ≤ 2 ^ (8 * k) := Nat.pow_le_pow_right (by omega) (by omega)
        rw [Nat.pow_succ] at hb
        rw [Nat.div_eq_of_lt (by omega), Nat.div_eq_of_lt (by omega)]
theorem mod_succ_yes {f i : Nat} (h : f / 2 ^ i % 2 = 1) : f % 2 ^ (i + 1) = f % 2 ^ i + 2 ^ i := by
  rw [Nat.pow_succ, Nat.mod_mul, h, Nat.mul_one]
theorem mod_succ_no {f i : Nat} (h : f / 2 ^ i % 2 = 0) : f % 2 ^ (i + 1) = f % 2 ^ i := by
  rw [Nat.pow_succ, Nat.mod_mul, h, Nat.mul_zero, Nat.add_zero]
/-- byte j of l, the first i of the flips done -/
def flipped (l : List UInt8) (fr f i j : Nat) : UInt8 := l.getD j 0 ^^^ (ebytes fr (f % 2 ^ i) l.length).getD j 0
theorem bytesN_zero : ∀ m, bytesN 0 m = List.replicate m 0
  | 0 => rfl
  | m + 1 => by show UInt8.ofNat (0 % 256) :: bytesN (0 / 256) m = _; rw [show 0 / 256 = 0 from rfl, bytesN_zero m, List.replicate_succ]; rfl
theorem flipped_zero (l : List UInt8) (fr f j : Nat) : flipped l fr f 0 j = l.getD j 0 := by
  unfold flipped ebytes
  rw [Nat.pow_zero, Nat.mod_one, Nat.mul_zero, bytesN_zero, List.replicate_append_replicate]
  generalize fr / 8 + (l.length - fr / 8) = m
  have h : (List.replicate m (0 : UInt8)).getD j 0 = 0 := by
    rw [List.getD, List.getElem?_replicate]
    split <;> rfl
  rw [h, UInt8.xor_zero]
theorem flipped_yes {l : List UInt8} {fr f i j : Nat} (h : f / 2 ^ i % 2 = 1) (hj : j < l.length) : flipped l fr f (i + 1) j = if j = (fr + i) / 8 then flipped l fr f i j ^^^ UInt8.ofNat (2 ^ ((fr + i) % 8)) else flipped l fr f i j := by
  unfold flipped
  rw [mod_succ_yes h, ebytes_step (Nat.mod_lt _ (Nat.two_pow_pos i)) hj]
  split
  · rw [UInt8.xor_assoc]
  · rfl
theorem flipped_no {l : List UInt8} {fr f i j : Nat} (h : f / 2 ^ i % 2 = 0) : flipped l fr f (i + 1) j = flipped l fr f i j := by
  unfold flipped
  rw [mod_succ_no h]
/-- bit by bit put together, of one length -/
def xorL (a b : List UInt8) : List UInt8 := List.zipWith (· ^^^ ·) a b
theorem byte2 (p q : BitVec 32) (x y : UInt8) : byteStep (p ^^^ q) (x ^^^ y) = byteStep p x ^^^ byteStep q y := by
  unfold byteStep
  rw [UInt8.toBitVec_xor, BitVec.zeroExtend_eq_setWidth, BitVec.setWidth_xor, ← sts_xor]
  congr 1
  simp only [BitVec.zeroExtend_eq_setWidth]; ac_rfl
theorem fold2 : ∀ (a b : List UInt8) (p q : BitVec 32), a.length = b.length → (xorL a b).foldl byteStep (p ^^^ q) = a.foldl byteStep p ^^^ b.foldl byteStep q
  | [], [], _, _, _ => rfl
  | x :: a, y :: b, p, q, h => by
    show (xorL a b).foldl byteStep (byteStep (p ^^^ q) (x ^^^ y)) = _
    rw [byte2, fold2 a b _ _ (by simpa using h)]; rfl
theorem more_xorL (c : BitVec 32) (a e : List UInt8) (h : a.length = e.length) : more c (xorL a e) = more c a ^^^ e.foldl byteStep 0#32 := by
  have := fold2 a e (~~~ c) 0#32 h
  rw [BitVec.xor_zero] at this
  unfold more
  rw [this]
  ext i hi; simp only [BitVec.getElem_not, BitVec.getElem_xor]
  cases (List.foldl byteStep (~~~c) a)[i] <;> cases (List.foldl byteStep 0#32 e)[i] <;> rfl
theorem ebytes_length {fr f n : Nat} (h : fr / 8 ≤ n) : (ebytes fr f n).length = n := by
  unfold ebytes; rw [List.length_append, List.length_replicate, bytesN_length]; omega
theorem flipped_all (l : List UInt8) (fr f : Nat) (hf : f < 2 ^ 32) (h : fr / 8 ≤ l.length) : (List.range l.length).map (flipped l fr f 32) = xorL l (ebytes fr f l.length) := by
  have hl := ebytes_length (f := f) h
  apply List.ext_getElem
  · simp [xorL, hl]
  · intro j h1 h2
    have hj : j < l.length := by simpa using h1
    simp only [List.getElem_map, List.getElem_range, flipped, xorL, List.getElem_zipWith]
    rw [Nat.mod_eq_of_lt hf, List.getD, List.getElem?_eq_getElem hj, List.getD, List.getElem?_eq_getElem (by omega)]
    rfl
theorem more_burst (c : BitVec 32) (a : List UInt8) (fr f : Nat) (h0 : f ≠ 0) (hf : f < 2 ^ 32) (hn : fr + 32 ≤ 8 * a.length) : more c (xorL a (ebytes fr f a.length)) ≠ more c a := by
  have hl : a.length = (ebytes fr f a.length).length := by
    unfold ebytes; rw [List.length_append, List.length_replicate, bytesN_length]; omega
  rw [more_xorL c a _ hl]
  intro e
  have h2 : more c a ^^^ (more c a ^^^ (ebytes fr f a.length).foldl byteStep 0#32) = more c a ^^^ more c a := by rw [e]
  rw [← BitVec.xor_assoc, BitVec.xor_self, BitVec.zero_xor] at h2
  exact feed_ebytes fr f a.length h0 hf hn h2
end Go.Proofs.Ytnhpjdefnefmmaa.Burst
