/- What the sums of package crc are: plain laws on words of 32 bits. -/
import Derived.Test.YtieklgflkjgijaaCrcG
import Derived.Test.YtieklgflkjgijaaWMore
namespace Go.Proofs.Ytieklgflkjgijaa.CrcM
open Go Go.Proofs.Ytieklgflkjgijaa.CrcW Go.Proofs.Ytieklgflkjgijaa.Given Go.Proofs.YtieklgflkjgijaaW.PrintWords Go.Proofs.YtieklgflkjgijaaW.PrintLast Go.Proofs.YtieklgflkjgijaaW.PrintMore

/-- as Option.bind_some and if_true, but no proof by unfolding: the kernel is spared -/
theorem bs {α β : Type} (a : α) (f : α → Option β) : (some a).bind f = f a := by
  cases h : f a <;> simp [h]
theorem it {α : Type} (a b : α) : (if True then a else b) = a := if_pos trivial
theorem itt {α : Type} (a b : α) : (if true = true then a else b) = a := if_pos (Eq.refl true)
theorem more_append (c : BitVec 32) (l m : List UInt8) : more c (l ++ m) = more (more c l) m := by
  unfold more; rw [List.foldl_append, BitVec.not_not]
theorem more_nil (c : BitVec 32) : more c [] = c := by simp [more]
theorem ofInt_uv' (c : BitVec 32) : BitVec.ofInt 32 (uv c) = c := ofInt_uv c
theorem uv_rng (c : BitVec 32) : 0 ≤ uv c ∧ uv c < 4294967296 := ⟨uv_lo c, uv_hi c⟩
theorem wf_u32 {n : Int} (h : (Lit.int .u32 n).wf = true) : 0 ≤ n ∧ n < 4294967296 := by
  simp [Lit.wf, IntKind.min, IntKind.max, IntKind.bits, IntKind.signed] at h; omega
theorem ex_uv {n : Int} (h : 0 ≤ n ∧ n < 4294967296) : ∃ c : BitVec 32, n = uv c := ⟨BitVec.ofInt 32 n, (uv_ofInt h.1 h.2).symm⟩
theorem More_f (c : BitVec 32) (b : ByteArray) (h : b.size ≤ 140737488351232) : crc_More.f (uv c) b = some (uv (more c b.data.toList)) := by
  unfold crc_More.f
  rw [if_pos ⟨uv_lo c, uv_hi c, h⟩, ofInt_uv]
theorem zero_uv : (0 : Int) = uv 0#32 := by decide
theorem Of_f (b : ByteArray) (h : b.size ≤ 140737488351232) : crc_More.f 0 b = some (uv (more 0#32 b.data.toList)) := by
  rw [zero_uv, More_f _ _ h]
theorem known1 : crc_More.f 0 (⟨#[49, 50, 51, 52, 53, 54, 55, 56, 57]⟩ : ByteArray) = some 3808858755 := by
  rw [Of_f _ (by decide)]; decide +kernel
theorem known2 : crc_More.f 0 (⟨#[]⟩ : ByteArray) = some 0 := by
  rw [Of_f _ (by decide)]; decide +kernel
theorem app_data (a b : ByteArray) : (a ++ b).data.toList = a.data.toList ++ b.data.toList := by
  simp
theorem app_size (a b : ByteArray) : (a ++ b).size = a.size + b.size := ByteArray.size_append
end Go.Proofs.Ytieklgflkjgijaa.CrcM
