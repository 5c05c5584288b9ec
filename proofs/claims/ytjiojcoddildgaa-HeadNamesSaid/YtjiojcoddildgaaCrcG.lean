/- crc.More in the form that the printed texts use. -/
import Derived.Test.YtjiojcoddildgaaCrcW
namespace Go.Proofs.Ytjiojcoddildgaa.Given
open Go Go.RowKit Go.Proofs.Ytjiojcoddildgaa.CrcW
theorem unary_xor_u32 (n : Int) : Op.unary .xor (.int .u32 n) = pure (.int .u32 (Go.bits .xor .u32 4294967295 n)) := by
  show pure (Value.int .u32 (Go.bits .xor .u32 (if IntKind.u32.signed then -1 else IntKind.u32.max) n)) = _
  have h : (if IntKind.u32.signed then -1 else IntKind.u32.max) = 4294967295 := by decide
  rw [h]
def crc_More.f (c : Int) (b : ByteArray) : Option Int :=
  if 0 ≤ c ∧ c < 4294967296 ∧ b.size ≤ 140737488351232 then some (uv (more (BitVec.ofInt 32 c) b.data.toList)) else none
theorem uv_ofInt {c : Int} (h0 : 0 ≤ c) (h1 : c < 4294967296) : uv (BitVec.ofInt 32 c) = c := by
  obtain ⟨n, rfl⟩ := Int.eq_ofNat_of_zero_le h0
  unfold uv; rw [BitVec.ofInt_natCast, BitVec.toNat_ofNat, Nat.mod_eq_of_lt (by omega)]
theorem crc_More.calls (c : Int) (b : ByteArray) (r : Int) (w : World) (h : crc_More.f c b = some r) :
    Calls Try.prog 25 #[.int .u32 c, .string b] w fun e w' => e = .returned (.int .u32 r) ∧ Below w.heap.size w w' := by
  unfold crc_More.f at h
  split at h
  · rename_i hc
    obtain ⟨h0, h1, h2⟩ := hc
    cases h
    have := more_calls (BitVec.ofInt 32 c) b h2 w
    rwa [uv_ofInt h0 h1] at this
  · cases h
end Go.Proofs.Ytjiojcoddildgaa.Given
