/- FrameSizes: as many bytes as may be, and one more. -/
import Derived.Test.YtnhpjdefnefmmaaQx5
import Derived.Test.YtnhpjdefnefmmaaFrameM
namespace Go.Proofs.Ytnhpjdefnefmmaa.Pure
open Go Go.RowKit Go.Proofs.Ytnhpjdefnefmmaa.Q Go.Proofs.Ytnhpjdefnefmmaa.CodeF Go.Proofs.Ytnhpjdefnefmmaa.CrcW Go.Proofs.Ytnhpjdefnefmmaa.CrcM Go.Proofs.Ytnhpjdefnefmmaa.FixQ Go.Proofs.Ytnhpjdefnefmmaa.FrameW Go.Proofs.Ytnhpjdefnefmmaa.FrameM Go.Proofs.YtnhpjdefnefmmaaW.PrintWords Go.Proofs.YtnhpjdefnefmmaaW.PrintLast Go.Proofs.YtnhpjdefnefmmaaW.PrintMore
theorem app_none (b : ByteArray) : b ++ ⟨#[]⟩ = b := bytes_eq (by rw [app_data]; simp)
theorem FrameSizes : ladelaw3_FrameSizes.Pure := by
  intro more c hm hc
  have hm' : 0 ≤ more ∧ more < 256 := by simp [Lit.wf, IntKind.min, IntKind.max, IntKind.bits, IntKind.signed] at hm; omega
  refine ⟨6, ?_⟩
  unfold ladelaw3_FrameSizes.f
  rw [show 6 = 1 + 5 from rfl, known_q, bs, itt]
  obtain ⟨r, hr, hr3⟩ : ∃ r : Nat, Int.tmod more 3 = r ∧ r < 3 := ⟨(more % 3).toNat, by rw [Int.tmod_eq_emod_of_nonneg hm'.1]; omega, by omega⟩
  rw [hr]
  obtain ⟨n, hn⟩ : ∃ n : Nat, 1999 + r = n := ⟨_, rfl⟩
  rw [show wrap64 (r : Int) = (r : Int) from by unfold wrap64; omega, show wrap64 (1999 + (r : Int)) = (n : Int) from by unfold wrap64; omega, show wrap64 ((n : Int) - 1) = ((n - 1 : Nat) : Int) from by unfold wrap64; omega, Int.toNat_natCast, Int.toNat_natCast]
  rw [if_pos (by omega), if_pos (by omega), bs, if_pos (by omega), if_pos (by rw [List.length_replicate]; omega), bs]
  have hz : (strOfNums ((List.replicate n 0).set (n - 1) c)).size = n := by rw [strOfNums_size, List.length_set, List.length_replicate]
  generalize strOfNums ((List.replicate n 0).set (n - 1) c) = b at hz
  have hw := Wrap_q b (by omega) 1
  rw [if_neg (by omega)] at hw
  by_cases h : (n : Int) > 2000
  · rw [if_pos (by omega)] at hw
    rw [hw]; simp only [bs]
    rw [if_pos h, it, show ((⟨#[]⟩ : ByteArray).toList == ([] : List UInt8)) = true from beq_iff_eq.2 ((list_nil _).2 rfl)]
  · rw [if_neg (by omega)] at hw
    have hz2 := wrapS_size b
    have hrd := read_wrap b ⟨#[]⟩ (by omega) (by omega)
    rw [app_none] at hrd
    rw [hw]; simp only [bs]
    rw [if_neg h, Read_q _ (by omega), hrd]; simp only [bs]
    rw [it, if_pos (show ((1 : Nat) : Int) = 1 from rfl), Size_q _ (by omega), bs, if_pos (show ((b.size + 12 : Nat) : Int) = (n : Int) + 12 by omega), beq_self_eq_true]
end Go.Proofs.Ytnhpjdefnefmmaa.Pure
