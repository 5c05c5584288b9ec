/- FrameNumbers: two numbers that don't fit, none, too many: bad at once, whatever stands behind. -/
import Derived.Test.YtnhpjdefnefmmaaQx4
import Derived.Test.YtnhpjdefnefmmaaFrameM
namespace Go.Proofs.Ytnhpjdefnefmmaa.Pure
open Go Go.RowKit Go.Proofs.Ytnhpjdefnefmmaa.Q Go.Proofs.Ytnhpjdefnefmmaa.CodeF Go.Proofs.Ytnhpjdefnefmmaa.CrcW Go.Proofs.Ytnhpjdefnefmmaa.CrcM Go.Proofs.Ytnhpjdefnefmmaa.FixQ Go.Proofs.Ytnhpjdefnefmmaa.FrameW Go.Proofs.Ytnhpjdefnefmmaa.FrameM Go.Proofs.YtnhpjdefnefmmaaW.PrintWords Go.Proofs.YtnhpjdefnefmmaaW.PrintLast Go.Proofs.YtnhpjdefnefmmaaW.PrintMore
theorem not_i {n : Int} (h : 0 ≤ n ∧ n < 4294967296) : Go.bits .xor .u32 4294967295 n = 4294967295 - n := by
  obtain ⟨N, rfl⟩ := Int.eq_ofNat_of_zero_le h.1
  rw [not_u32 (show N < 4294967296 by omega)]; omega
theorem numbers_bad (k : Nat) (n : Int) (tail : ByteArray) : ladelaw3_FrameNumbers.j0 (k + 1) n tail ⟨#[]⟩ ((0 : Nat) : Int) ((4 : Nat) : Int) true = some true := by
  rw [ladelaw3_FrameNumbers.j0, itt, if_pos ((list_nil _).2 rfl), if_pos (show ((0 : Nat) : Int) = 0 from rfl)]; rfl
theorem FrameNumbers : ladelaw3_FrameNumbers.Pure := by
  intro n m tail hn hm ht
  have hn := wf_u32 hn
  have hm := wf_u32 hm
  refine ⟨6, ?_⟩
  unfold ladelaw3_FrameNumbers.f
  rw [show 6 = 1 + 5 from rfl, known_q, bs, itt, show 1 + 5 = 5 + 1 from rfl]
  by_cases h0 : (tail.size : Int) > 300
  · rw [if_pos h0]
  · rw [if_neg h0]
    have f1 : laderef1_Fixed.f n = some (fixS n) := rfl
    have f2 : laderef1_Fixed.f m = some (fixS m) := rfl
    have s1 := fixS_size n
    have s2 := fixS_size m
    have hz : (fixS n ++ fixS m).size = 8 := by rw [app_size, s1, s2]
    rw [f1, bs, f2, bs, if_pos (by omega), if_pos (by omega), Read_q _ (by rw [app_size]; omega), readN_two hn hm tail]; simp only [bs]
    rw [not_i hn]
    by_cases e1 : m = 4294967295 - n
    · rw [if_pos e1]
      by_cases e2 : n = 0
      · rw [if_pos e2, if_pos (show ¬ n = 4294967295 - m ∨ n = 0 ∨ 2000 < n by omega)]
        exact numbers_bad 5 n tail
      · rw [if_neg e2]
        by_cases e3 : n > 2000
        · rw [decide_eq_true e3, if_pos (show ¬ n = 4294967295 - m ∨ n = 0 ∨ 2000 < n by omega)]
          exact numbers_bad 5 n tail
        · have hw : wrap64 n = n := by unfold wrap64; omega
          have hw4 : wrap64 (n + 4) = n + 4 := by unfold wrap64; omega
          have hw12 : wrap64 (n + 12) = n + 12 := by unfold wrap64; omega
          rw [decide_eq_false e3, if_neg (show ¬ (¬ n = 4294967295 - m ∨ n = 0 ∨ 2000 < n) by omega), ladelaw3_FrameNumbers.j0, iff_, hw, hw4, hw12]
          by_cases e4 : (tail.size : Int) < n + 4
          · rw [if_pos e4, if_pos e4, if_pos ((list_nil _).2 rfl), if_pos (show ((0 : Nat) : Int) = 0 from rfl)]; rfl
          · rw [if_neg e4, if_neg e4]
            split
            · rw [if_pos (show ((1 : Nat) : Int) = 1 from rfl), if_pos (show ((n.toNat + 12 : Nat) : Int) = n + 12 by omega)]
            · rw [if_neg (show ¬ ((4 : Nat) : Int) = 1 by decide), if_pos (show ((4 : Nat) : Int) = 4 from rfl)]; rfl
    · rw [if_neg e1, if_pos (show ¬ n = 4294967295 - m ∨ n = 0 ∨ 2000 < n by omega)]
      exact numbers_bad 5 n tail
end Go.Proofs.Ytnhpjdefnefmmaa.Pure
