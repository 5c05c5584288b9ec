/- A frame in which bits are flipped within 32 in a row is bad: plain laws. -/
import Derived.Test.YtnhpjdefnefmmaaFrameM
import Derived.Test.YtnhpjdefnefmmaaBurst
namespace Go.Proofs.Ytnhpjdefnefmmaa.FrameBurst
open Go Go.RowKit Go.Proofs.Ytnhpjdefnefmmaa.CodeF Go.Proofs.Ytnhpjdefnefmmaa.CrcW Go.Proofs.Ytnhpjdefnefmmaa.CrcM Go.Proofs.Ytnhpjdefnefmmaa.FixQ Go.Proofs.Ytnhpjdefnefmmaa.FrameW Go.Proofs.Ytnhpjdefnefmmaa.FrameM Go.Proofs.Ytnhpjdefnefmmaa.Burst
def valN : List UInt8 → Nat
  | [] => 0
  | x :: l => x.toNat + 256 * valN l
theorem mul_xor (i a b : Nat) : (2 ^ i * a) ^^^ (2 ^ i * b) = 2 ^ i * (a ^^^ b) := by
  apply Nat.eq_of_testBit_eq
  intro j
  rw [Nat.testBit_xor, Nat.testBit_two_pow_mul, Nat.testBit_two_pow_mul, Nat.testBit_two_pow_mul, Nat.testBit_xor]
  by_cases h : i ≤ j <;> simp [h]
theorem valN_xor : ∀ a b : List UInt8, a.length = b.length → valN (xorL a b) = valN a ^^^ valN b
  | [], [], _ => rfl
  | x :: a, y :: b, h => by
    have ih := valN_xor a b (by simpa using h)
    have e : ∀ (x : UInt8) (A : Nat), x.toNat + 256 * A = (2 ^ 8 * A) ^^^ x.toNat := fun x A => by
      rw [← nat_split A (show x.toNat < 2 ^ 8 from x.toNat_lt), Nat.add_comm]
    show (x ^^^ y).toNat + 256 * valN (xorL a b) = (x.toNat + 256 * valN a) ^^^ (y.toNat + 256 * valN b)
    rw [e, e, e, ih, ← mul_xor, UInt8.toNat_xor]
    ac_rfl
theorem valN_bytes : ∀ (m V : Nat), valN (bytesN V m) = V % 256 ^ m
  | 0, V => by show 0 = _; rw [Nat.pow_zero, Nat.mod_one]
  | m + 1, V => by
    show (UInt8.ofNat (V % 256)).toNat + 256 * valN (bytesN (V / 256) m) = _
    rw [valN_bytes m, UInt8.toNat_ofNat', show 256 ^ (m + 1) = 256 * 256 ^ m from by rw [Nat.pow_succ, Nat.mul_comm], Nat.mod_mul]
    omega
theorem bytes_split : ∀ (a b V : Nat), bytesN V (a + b) = bytesN V a ++ bytesN (V / 256 ^ a) b
  | 0, b, V => by rw [Nat.zero_add, Nat.pow_zero, Nat.div_one]; rfl
  | a + 1, b, V => by
    rw [show a + 1 + b = (a + b) + 1 from by omega]
    show UInt8.ofNat (V % 256) :: bytesN (V / 256) (a + b) = UInt8.ofNat (V % 256) :: (bytesN (V / 256) a ++ _)
    rw [bytes_split a b (V / 256), Nat.div_div_eq_div_mul, Nat.pow_succ, Nat.mul_comm]
theorem bytes_zeros : ∀ (q m g : Nat), bytesN (256 ^ q * g) (q + m) = List.replicate q 0 ++ bytesN g m
  | 0, m, g => by rw [Nat.pow_zero, Nat.one_mul, Nat.zero_add]; rfl
  | q + 1, m, g => by
    have e : 256 ^ (q + 1) * g = 256 * (256 ^ q * g) := by rw [Nat.pow_succ]; ac_rfl
    rw [show q + 1 + m = (q + m) + 1 from by omega, e]
    show UInt8.ofNat (256 * (256 ^ q * g) % 256) :: bytesN (256 * (256 ^ q * g) / 256) (q + m) = _
    rw [Nat.mul_mod_right, Nat.mul_div_cancel_left _ (by decide : 0 < 256), bytes_zeros q m g, List.replicate_succ]
    rfl
theorem ebytes_eq {fr f n : Nat} (h : fr / 8 ≤ n) : ebytes fr f n = bytesN (2 ^ fr * f) n := by
  obtain ⟨m, rfl⟩ : ∃ m, n = fr / 8 + m := ⟨n - fr / 8, by omega⟩
  unfold ebytes
  have e : 2 ^ fr * f = 256 ^ (fr / 8) * (2 ^ (fr % 8) * f) := by
    rw [show 256 = 2 ^ 8 from rfl, ← Nat.pow_mul, ← Nat.mul_assoc, ← Nat.pow_add, Nat.div_add_mod]
  rw [e, bytes_zeros, show fr / 8 + m - fr / 8 = m from by omega]
theorem fixN_val (l : List UInt8) (h : 4 ≤ l.length) : fixN l = valN (l.take 4) := by
  match l, h with
  | a :: b :: c :: d :: r, _ =>
    show a.toNat + b.toNat * 256 + c.toNat * 65536 + d.toNat * 16777216 = a.toNat + 256 * (b.toNat + 256 * (c.toNat + 256 * (d.toNat + 256 * 0)))
    omega
theorem xorL_take (a b : List UInt8) (n : Nat) : (xorL a b).take n = xorL (a.take n) (b.take n) := List.take_zipWith
theorem xorL_drop (a b : List UInt8) (n : Nat) : (xorL a b).drop n = xorL (a.drop n) (b.drop n) := List.drop_zipWith
theorem xorL_length (a b : List UInt8) (h : a.length = b.length) : (xorL a b).length = a.length := by unfold xorL; rw [List.length_zipWith, ← h, Nat.min_self]
theorem fixN_xor (a b : List UInt8) (h : a.length = b.length) (h4 : 4 ≤ a.length) : fixN (xorL a b) = fixN a ^^^ fixN b := by
  rw [fixN_val _ (by rw [xorL_length a b h]; exact h4), fixN_val a h4, fixN_val b (by omega), xorL_take, valN_xor _ _ (by rw [List.length_take, List.length_take, h])]
theorem fixN_bytes (V n : Nat) (h : 4 ≤ n) : fixN (bytesN V n) = V % 4294967296 := by
  obtain ⟨m, rfl⟩ : ∃ m, n = 4 + m := ⟨n - 4, by omega⟩
  rw [fixN_val _ (by rw [bytesN_length]; omega), bytes_split, List.take_left' (bytesN_length _ _), valN_bytes]
theorem not_xor {x : Nat} (h : x < 4294967296) : 4294967295 - x = 4294967295 ^^^ x := by
  have e : BitVec.allOnes 32 ^^^ BitVec.ofNat 32 x = ~~~ (BitVec.ofNat 32 x) := by rw [BitVec.allOnes_xor]
  have := congrArg BitVec.toNat e
  rw [BitVec.toNat_xor, BitVec.toNat_not, BitVec.toNat_ofNat, Nat.mod_eq_of_lt h, BitVec.toNat_allOnes] at this
  exact this.symm
/-- two words that are turned alike by 32 bits in a row aren't turned -/
theorem words_alike {fr f : Nat} (h0 : f ≠ 0) (hf : f < 4294967296) (e : 2 ^ fr * f % 4294967296 = 2 ^ fr * f / 4294967296 % 4294967296) : 32 ≤ fr ∧ 2 ^ fr * f % 4294967296 = 0 ∧ 2 ^ fr * f / 4294967296 % 4294967296 = 0 := by
  by_cases h : 32 ≤ fr
  · obtain ⟨g, rfl⟩ : ∃ g, fr = 32 + g := ⟨fr - 32, by omega⟩
    have z : 2 ^ (32 + g) * f % 4294967296 = 0 := by
      rw [Nat.pow_add, Nat.mul_assoc]; exact Nat.mul_mod_right _ _
    exact ⟨h, z, by rw [← e, z]⟩
  · exfalso
    have hp : 0 < 2 ^ fr := Nat.two_pow_pos fr
    have e32 : 4294967296 = 2 ^ fr * 2 ^ (32 - fr) := by rw [← Nat.pow_add, show fr + (32 - fr) = 32 from by omega]
    have e1 : 2 ^ fr * f % 4294967296 = 2 ^ fr * (f % 2 ^ (32 - fr)) := by rw [e32, Nat.mul_mod_mul_left]
    have e2 : 2 ^ fr * f / 4294967296 = f / 2 ^ (32 - fr) := by rw [e32, Nat.mul_div_mul_left _ _ hp]
    have hlt : f / 2 ^ (32 - fr) < 2 ^ fr := by
      rw [Nat.div_lt_iff_lt_mul (Nat.two_pow_pos _), ← e32]; exact hf
    have hle : 2 ^ fr ≤ 4294967296 := Nat.le_trans (Nat.pow_le_pow_right (by omega) (show fr ≤ 32 by omega)) (by decide)
    rw [e1, e2, Nat.mod_eq_of_lt (show f / 2 ^ (32 - fr) < 4294967296 by omega)] at e
    have hs : f % 2 ^ (32 - fr) = 0 := by
      rcases Nat.eq_zero_or_pos (f % 2 ^ (32 - fr)) with z | z
      · exact z
      · have := Nat.le_mul_of_pos_right (2 ^ fr) z
        omega
    rw [hs, Nat.mul_zero] at e
    have := Nat.div_add_mod f (2 ^ (32 - fr))
    rw [← e, hs, Nat.mul_zero] at this
    omega
theorem uv_nat (c : BitVec 32) : (uv c).toNat = c.toNat := by unfold uv; rw [Int.toNat_natCast]
theorem nat_uv (x : Int) (h : 0 ≤ x ∧ x < 4294967296) : ∃ c : BitVec 32, x = uv c := ex_uv h
theorem xor_cancel {a x y : Nat} (h : a ^^^ x = a ^^^ y) : x = y := by
  have := congrArg (a ^^^ ·) h
  simpa [← Nat.xor_assoc] using this
/-- a frame with bits flipped within 32 in a row is bad -/
theorem burst_bad (b tail t : ByteArray) (_ : b.size ≠ 0) (h1 : b.size ≤ 2000) (fr f : Nat) (hf0 : f ≠ 0) (hf : f < 4294967296) (hfr : fr + 32 ≤ 8 * (b.size + 12)) (ht : t.data.toList = xorL (wrapS b).data.toList (ebytes fr f (b.size + 12))) :
    readN (t ++ tail) = (⟨#[]⟩, 0, 4) := by
  have hE : ebytes fr f (b.size + 12) = bytesN (2 ^ fr * f) (b.size + 12) := ebytes_eq (by omega)
  have hfeed := feed_ebytes fr f (b.size + 12) hf0 (by omega) hfr
  rw [hE] at hfeed ht
  have hS : (wrapS b).data.toList = (fixS b.size).data.toList ++ ((fixS (4294967295 - b.size)).data.toList ++ (b.data.toList ++ (fixS (sum b)).data.toList)) := by
    unfold wrapS; simp only [app_data, List.append_assoc]
  have hSl : (wrapS b).data.toList.length = b.size + 12 := by rw [ba_len, wrapS_size]
  have hEl := bytesN_length (2 ^ fr * f) (b.size + 12)
  have hTl : t.data.toList.length = b.size + 12 := by rw [ht, xorL_length _ _ (by omega), hSl]
  have hz : (t ++ tail).size = b.size + 12 + tail.size := by rw [app_size, ← ba_len t, hTl]
  obtain ⟨V, hV⟩ : ∃ V, 2 ^ fr * f = V := ⟨_, rfl⟩
  have halike := @words_alike fr f hf0 hf
  rw [hV] at hfeed ht halike hEl
  -- the two numbers as they are read
  have hN0 : fixN (wrapS b).data.toList = b.size := by
    have := fixN_fix (n := (b.size : Int)) (by omega) (by omega) ((fixS (4294967295 - b.size)).data.toList ++ (b.data.toList ++ (fixS (sum b)).data.toList))
    rw [hS]; omega
  have hM0 : fixN ((wrapS b).data.toList.drop 4) = 4294967295 - b.size := by
    have := fixN_fix (n := 4294967295 - (b.size : Int)) (by omega) (by omega) (b.data.toList ++ (fixS (sum b)).data.toList)
    rw [hS, List.drop_left' (by rw [ba_len, fixS_size])]; omega
  have hN : fixN (t ++ tail).data.toList = b.size ^^^ (V % 4294967296) := by
    rw [app_data, fixN_val _ (by rw [List.length_append]; omega), List.take_append_of_le_length (by omega), ← fixN_val _ (by omega), ht, fixN_xor _ _ (by omega) (by omega), hN0, fixN_bytes _ _ (by omega)]
  have hM : fixN ((t ++ tail).data.toList.drop 4) = (4294967295 - b.size) ^^^ (V / 4294967296 % 4294967296) := by
    have e4 : (bytesN V (b.size + 12)).drop 4 = bytesN (V / 4294967296) (b.size + 8) := by
      rw [show b.size + 12 = 4 + (b.size + 8) from by omega, bytes_split, List.drop_left' (bytesN_length _ _)]
    have hd : (t.data.toList.drop 4).length = b.size + 8 := by rw [List.length_drop]; omega
    rw [app_data, List.drop_append_of_le_length (by omega), fixN_val _ (by rw [List.length_append]; omega), List.take_append_of_le_length (by omega), ← fixN_val _ (by omega), ht, xorL_drop, e4, fixN_xor _ _ (by rw [List.length_drop, bytesN_length]; omega) (by rw [List.length_drop]; omega), hM0, fixN_bytes _ _ (by omega)]
  unfold readN
  rw [if_neg (by omega), if_neg (by omega), hN, hM]
  by_cases hbad : ¬ (((b.size ^^^ (V % 4294967296) : Nat)) : Int) = 4294967295 - (((4294967295 - b.size) ^^^ (V / 4294967296 % 4294967296) : Nat) : Int) ∨ b.size ^^^ (V % 4294967296) = 0 ∨ 2000 < b.size ^^^ (V % 4294967296)
  · rw [if_pos hbad]
  · have hMlt : (4294967295 - b.size) ^^^ (V / 4294967296 % 4294967296) < 4294967296 := by
      have := Nat.xor_lt_two_pow (n := 32) (show 4294967295 - b.size < 2 ^ 32 by omega) (show V / 4294967296 % 4294967296 < 2 ^ 32 by omega)
      exact this
    have hal : V % 4294967296 = V / 4294967296 % 4294967296 := by
      have e : b.size ^^^ (V % 4294967296) = 4294967295 - ((4294967295 - b.size) ^^^ (V / 4294967296 % 4294967296)) := by omega
      rw [not_xor hMlt, not_xor (show b.size < 4294967296 by omega), ← Nat.xor_assoc, ← Nat.xor_assoc, Nat.xor_self, Nat.zero_xor] at e
      exact xor_cancel e
    obtain ⟨hfr32, z1, z2⟩ := halike hal
    rw [z1, Nat.xor_zero] at hbad ⊢
    rw [if_neg hbad, if_neg (by omega), if_neg]
    intro hcrc
    have hb8 : (bytesN V (b.size + 12)) = bytesN V 8 ++ bytesN (V / 256 ^ 8) (b.size + 4) := by
      rw [show b.size + 12 = 8 + (b.size + 4) from by omega, bytes_split]
    have hv8 : V % 18446744073709551616 = 0 := by omega
    have hz8 : (bytesN V 8).foldl byteStep 0#32 = 0#32 := by
      have : bytesN V 8 = List.replicate 8 0 ++ bytesN (V / 18446744073709551616) 0 := by
        rw [← bytes_zeros]; congr 1; show V = 18446744073709551616 * (V / 18446744073709551616); omega
      rw [this, List.foldl_append, feed_zeros]; rfl
    obtain ⟨G, hG⟩ : ∃ G, V / 256 ^ 8 = G := ⟨_, rfl⟩
    rw [hb8, List.foldl_append, hz8, hG, bytes_split, List.foldl_append] at hfeed
    have hGlt : G / 256 ^ b.size < 4294967296 := by
      have hVlt : V < 2 ^ (8 * (b.size + 12)) := by
        rw [← hV]
        calc 2 ^ fr * f < 2 ^ fr * 2 ^ 32 := Nat.mul_lt_mul_of_pos_left (by omega) (Nat.two_pow_pos fr)
          _ = 2 ^ (fr + 32) := (Nat.pow_add _ _ _).symm
          _ ≤ _ := Nat.pow_le_pow_right (by omega) hfr
      rw [← hG, Nat.div_div_eq_div_mul, ← Nat.pow_add, Nat.div_lt_iff_lt_mul (Nat.pow_pos (by decide))]
      calc V < 2 ^ (8 * (b.size + 12)) := hVlt
        _ = 4294967296 * 256 ^ (8 + b.size) := by
          rw [show 8 * (b.size + 12) = 32 + 8 * (8 + b.size) from by omega, Nat.pow_add, Nat.pow_mul]
    rw [feed_word 4 _ _ (by omega) (by omega)] at hfeed
    refine hfeed ?_
    -- what is read as the body, and as its sum
    have hd8 : t.data.toList.drop 8 = xorL (b.data.toList ++ (fixS (sum b)).data.toList) (bytesN G b.size ++ bytesN (G / 256 ^ b.size) 4) := by
      rw [ht, xorL_drop, hb8, List.drop_left' (bytesN_length _ _), hG, bytes_split, hS, ← List.append_assoc, List.drop_left' (by rw [List.length_append, ba_len, ba_len, fixS_size, fixS_size])]
    have hx : xorL (b.data.toList ++ (fixS (sum b)).data.toList) (bytesN G b.size ++ bytesN (G / 256 ^ b.size) 4) = xorL b.data.toList (bytesN G b.size) ++ xorL (fixS (sum b)).data.toList (bytesN (G / 256 ^ b.size) 4) := by
      unfold xorL; rw [List.zipWith_append (by rw [ba_len, bytesN_length])]
    rw [hx] at hd8
    have hl1 : (xorL b.data.toList (bytesN G b.size)).length = b.size := by rw [xorL_length _ _ (by rw [ba_len, bytesN_length]), ba_len]
    have hl2 : (xorL (fixS (sum b)).data.toList (bytesN (G / 256 ^ b.size) 4)).length = 4 := by rw [xorL_length _ _ (by rw [ba_len, fixS_size, bytesN_length]), ba_len, fixS_size]
    have hbody : ((t ++ tail).extract 8 (8 + b.size)).data.toList = xorL b.data.toList (bytesN G b.size) := by
      rw [ext_data, app_data, List.drop_take, List.drop_append_of_le_length (by omega), hd8, show 8 + b.size - 8 = b.size from by omega, List.append_assoc, List.take_left' hl1]
    have hsumb : ((t ++ tail).extract (8 + b.size) (b.size + 12)).data.toList = xorL (fixS (sum b)).data.toList (bytesN (G / 256 ^ b.size) 4) := by
      rw [ext_data, app_data, List.drop_take, List.drop_append_of_le_length (by omega), show b.size + 12 - (8 + b.size) = 4 from by omega, ← List.drop_drop, hd8, List.drop_left' hl1, List.take_left' hl2]
    rw [hbody] at hcrc
    have h2 : fixN ((t ++ tail).extract (8 + b.size) (b.size + 12)).data.toList = fixN (fixS (uv (more 0#32 (xorL b.data.toList (bytesN G b.size))))).data.toList := congrArg (fun x : ByteArray => fixN x.data.toList) hcrc
    rw [hsumb, fixN_xor _ _ (by rw [ba_len, fixS_size, bytesN_length]) (by rw [ba_len, fixS_size]; decide), fixN_bytes _ _ (by decide), Nat.mod_eq_of_lt hGlt, more_xorL 0#32 _ _ (by rw [ba_len, bytesN_length])] at h2
    have hf1 := fixN_fix (sum_rng b).1 (sum_rng b).2 []
    have hf2 := fixN_fix (uv_rng (more 0#32 b.data.toList ^^^ (bytesN G b.size).foldl byteStep 0#32)).1 (uv_rng _).2 []
    rw [List.append_nil] at hf1 hf2
    have hf1' : fixN (fixS (sum b)).data.toList = (more 0#32 b.data.toList).toNat := by
      have : ((fixN (fixS (sum b)).data.toList : Nat) : Int) = ((more 0#32 b.data.toList).toNat : Int) := hf1
      omega
    have hf2' : fixN (fixS (uv (more 0#32 b.data.toList ^^^ (bytesN G b.size).foldl byteStep 0#32))).data.toList = (more 0#32 b.data.toList ^^^ (bytesN G b.size).foldl byteStep 0#32).toNat := by
      have : ((fixN (fixS (uv (more 0#32 b.data.toList ^^^ (bytesN G b.size).foldl byteStep 0#32))).data.toList : Nat) : Int) = ((more 0#32 b.data.toList ^^^ (bytesN G b.size).foldl byteStep 0#32).toNat : Int) := hf2
      omega
    rw [hf1', hf2', BitVec.toNat_xor] at h2
    have h3 := xor_cancel h2
    have h4 : BitVec.ofNat 32 (G / 256 ^ b.size) = (bytesN G b.size).foldl byteStep 0#32 := by
      rw [h3, BitVec.ofNat_toNat, BitVec.setWidth_eq]
    rw [h4, BitVec.xor_self, sts_zero]
end Go.Proofs.Ytnhpjdefnefmmaa.FrameBurst
