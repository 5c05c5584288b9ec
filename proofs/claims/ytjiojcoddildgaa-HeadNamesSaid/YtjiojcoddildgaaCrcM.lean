/- What the sums of package crc are: plain laws on words of 32 bits. -/
import Derived.Test.YtjiojcoddildgaaCrcG
import Derived.Test.YtjiojcoddildgaaWMore
namespace Go.Proofs.Ytjiojcoddildgaa.CrcM
open Go Go.Proofs.Ytjiojcoddildgaa.CrcW Go.Proofs.Ytjiojcoddildgaa.Given Go.Proofs.YtjiojcoddildgaaW.PrintWords Go.Proofs.YtjiojcoddildgaaW.PrintLast Go.Proofs.YtjiojcoddildgaaW.PrintMore

/-- as Option.bind_some and if_true, but no proof by unfolding: the kernel is spared -/
theorem bs {α β : Type} (a : α) (f : α → Option β) : (some a).bind f = f a := by
  cases h : f a <;> simp [h]
theorem it {α : Type} (a b : α) : (if True then a else b) = a := if_pos trivial
theorem itt {α : Type} (a b : α) : (if true = true then a else b) = a := if_pos (Eq.refl true)
theorem more_append (c : BitVec 32) (l m : List UInt8) : more c (l ++ m) = more (more c l) m := by
  unfold more; rw [List.foldl_append, BitVec.not_not]
theorem more_nil (c : BitVec 32) : more c [] = c := by simp [more]
theorem ofInt_uv' (c : BitVec 32) : BitVec.ofInt 32 (uv c) = c := ofInt_uv c
theorem uv_rng (c : BitVec 32) : 0 ≤ uv c ∧ uv c < 4294967296 := ⟨uv_lo c, uv_hi c⟩
theorem wf_u32 {n : Int} (h : (Lit.int .u32 n).wf = true) : 0 ≤ n ∧ n < 4294967296 := by
  simp [Lit.wf, IntKind.min, IntKind.max, IntKind.bits, IntKind.signed] at h; omega
theorem ex_uv {n : Int} (h : 0 ≤ n ∧ n < 4294967296) : ∃ c : BitVec 32, n = uv c := ⟨BitVec.ofInt 32 n, (uv_ofInt h.1 h.2).symm⟩
theorem More_f (c : BitVec 32) (b : ByteArray) (h : b.size ≤ 140737488351232) : crc_More.f (uv c) b = some (uv (more c b.data.toList)) := by
  unfold crc_More.f
  rw [if_pos ⟨uv_lo c, uv_hi c, h⟩, ofInt_uv]
theorem lit_max : (4294967295 : Int) = uv (BitVec.allOnes 32) := by decide
theorem zero_uv : (0 : Int) = uv 0#32 := by decide
theorem Of_f (b : ByteArray) (h : b.size ≤ 140737488351232) : crc_More.f 0 b = some (uv (more 0#32 b.data.toList)) := by
  rw [zero_uv, More_f _ _ h]
theorem known1 : crc_More.f 0 (⟨#[49, 50, 51, 52, 53, 54, 55, 56, 57]⟩ : ByteArray) = some 3808858755 := by
  rw [Of_f _ (by decide)]; decide +kernel
theorem known2 : crc_More.f 0 (⟨#[]⟩ : ByteArray) = some 0 := by
  rw [Of_f _ (by decide)]; decide +kernel
theorem app_data (a b : ByteArray) : (a ++ b).data.toList = a.data.toList ++ b.data.toList := by
  simp
theorem app_size (a b : ByteArray) : (a ++ b).size = a.size + b.size := ByteArray.size_append
theorem xor_u8 (x y : UInt8) : Go.bits .xor .u8 (x.toNat : Int) (y.toNat : Int) = ((x ^^^ y).toNat : Int) := by
  show IntKind.u8.wrap ((BitVec.ofInt 8 (x.toNat : Int) ^^^ BitVec.ofInt 8 (y.toNat : Int)).toNat : Int) = _
  have h : ∀ x : UInt8, BitVec.ofInt 8 (x.toNat : Int) = x.toBitVec := fun x => by rw [BitVec.ofInt_natCast]; exact BitVec.ofNat_toNat _ _ |>.trans (by simp)
  rw [h, h, IntKind.wrap_u8, UInt8.toNat_xor, BitVec.toNat_xor]
  have h1 := (x ^^^ y).toNat_lt
  rw [UInt8.toNat_xor] at h1
  show ((x.toNat ^^^ y.toNat : Nat) : Int) % 256 = _
  omega
theorem shl_u8 (r : Nat) : (2 : Int) ^ r % 256 = ((UInt8.ofNat (2 ^ r)).toNat : Int) := by
  rw [UInt8.toNat_ofNat']; simp
theorem sts_st (c : BitVec 32) : ∀ d, sts (st c) d = sts c (d + 1)
  | 0 => rfl
  | d + 1 => by show st (sts (st c) d) = st (sts c (d + 1)); rw [sts_st c d]
theorem bt_uv (b : ByteArray) {i : Nat} (h : i < b.size) : bt b i = uv ((b.data.toList.getD i 0).toBitVec.zeroExtend 32) := by
  have e : b.data.toList.getD i 0 = b[i] := by
    show (b.data.toList[i]?).getD 0 = _
    rw [List.getElem?_eq_getElem (by simpa using h)]; rfl
  rw [e, ← byte_uv]; unfold bt; simp [h]
theorem bt_mod (b : ByteArray) (i : Int) : bt b i % 4294967296 = bt b i := by
  have := bt_range b i; omega
theorem drop_cons (l : List UInt8) {i : Nat} (h : i < l.length) : l.drop i = l.getD i 0 :: l.drop (i + 1) := by
  rw [List.drop_eq_getElem_cons h]; simp [List.getD, h]
/-- the sum of what is bit by bit put together -/
theorem lsb_xor (a b : BitVec 32) : (a ^^^ b) &&& 1#32 = (a &&& 1#32) ^^^ (b &&& 1#32) := by
  ext i hi; simp only [BitVec.getElem_and, BitVec.getElem_xor]
  cases a[i] <;> cases b[i] <;> cases (1#32)[i] <;> rfl
theorem lsb_two (a : BitVec 32) : a &&& 1#32 = 0#32 ∨ a &&& 1#32 = 1#32 := by
  have h : (a &&& 1#32).toNat = a.toNat % 2 := by rw [BitVec.toNat_and]; exact Nat.and_one_is_mod _
  rcases Nat.mod_two_eq_zero_or_one a.toNat with h2 | h2
  · left; apply BitVec.eq_of_toNat_eq; rw [h, h2]; rfl
  · right; apply BitVec.eq_of_toNat_eq; rw [h, h2]; rfl
theorem shift_xor (a b : BitVec 32) : (a ^^^ b) >>> (1 : Nat) = (a >>> (1 : Nat)) ^^^ (b >>> (1 : Nat)) := BitVec.ushiftRight_xor_distrib a b 1
theorem st_xor (a b : BitVec 32) : st (a ^^^ b) = st a ^^^ st b := by
  unfold st
  rw [lsb_xor, shift_xor]
  rcases lsb_two a with ha | ha <;> rcases lsb_two b with hb | hb <;> rw [ha, hb]
  · rw [if_neg (by decide), if_neg (by decide), if_neg (by decide)]
  · rw [if_pos (by decide), if_neg (by decide), if_pos (by decide), BitVec.xor_assoc]
  · rw [if_pos (by decide), if_pos (by decide), if_neg (by decide)]; ac_rfl
  · rw [if_neg (by decide), if_pos (by decide), if_pos (by decide)]
    generalize 2197175160#32 = p
    rw [show (a >>> (1 : Nat)) ^^^ p ^^^ ((b >>> (1 : Nat)) ^^^ p) = (a >>> (1 : Nat)) ^^^ (b >>> (1 : Nat)) ^^^ (p ^^^ p) from by ac_rfl, BitVec.xor_self, BitVec.xor_zero]
theorem sts_xor (a b : BitVec 32) : ∀ n, sts (a ^^^ b) n = sts a n ^^^ sts b n
  | 0 => rfl
  | n + 1 => by show st (sts (a ^^^ b) n) = st (sts a n) ^^^ st (sts b n); rw [sts_xor a b n, st_xor]
theorem st_zero : st 0#32 = 0#32 := by decide
theorem sts_zero : ∀ n, sts 0#32 n = 0#32
  | 0 => rfl
  | n + 1 => by show st (sts 0#32 n) = _; rw [sts_zero n, st_zero]
end Go.Proofs.Ytjiojcoddildgaa.CrcM
