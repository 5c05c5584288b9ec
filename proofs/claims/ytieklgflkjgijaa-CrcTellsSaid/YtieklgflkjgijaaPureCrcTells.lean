/- CrcTells: of every bytes of 500 at most their sum, and of a sum that goes on, the program tells what the reference tells. -/
import Derived.Test.YtieklgflkjgijaaQx1
import Derived.Test.YtieklgflkjgijaaCrcM
namespace Go.Proofs.Ytieklgflkjgijaa.Pure
open Go Go.RowKit Go.Proofs.Ytieklgflkjgijaa.Q Go.Proofs.YtieklgflkjgijaaW.PrintWords Go.Proofs.YtieklgflkjgijaaW.PrintLast Go.Proofs.YtieklgflkjgijaaW.PrintMore Go.Proofs.Ytieklgflkjgijaa.CrcM Go.Proofs.Ytieklgflkjgijaa.CrcW

theorem known_tells : ladelaw2_known.f = some true := by
  unfold ladelaw2_known.f crc_Of.f
  rw [known1]; simp only [bs]; rw [it, known2]; simp only [bs]; rfl

theorem ref_l1 (b : ByteArray) (i : Int) : ∀ (d k : Nat) (c : BitVec 32) (j : Int), j + d = 8 → 0 ≤ j →
    laderef1_More.l1 (k + d + 1) b (uv c) i j = laderef1_More.l0 k b (uv (sts c d)) (wrap64 (i + 1))
  | 0, k, c, j, hj, h0 => by
    rw [show k + 0 + 1 = k + 1 from rfl]; unfold laderef1_More.l1
    rw [if_neg (by omega)]; rfl
  | d + 1, k, c, j, hj, h0 => by
    rw [show k + (d + 1) + 1 = (k + d + 1) + 1 from by omega]; unfold laderef1_More.l1
    rw [if_pos (by omega), show wrap64 (j + 1) = j + 1 from by unfold wrap64; omega]
    have h := ref_l1 b i d k (st c) (j + 1) (by omega) (by omega)
    rw [sts_st] at h
    by_cases ht : Go.bits .and .u32 (uv c) 1 = 1
    · rw [if_pos ht, test_yes (beq_iff_eq.2 ht), h]
    · rw [if_neg ht, test_no (beq_eq_false_iff_ne.2 ht), h]

theorem ref_l0 (b : ByteArray) (hb : b.size ≤ 140737488351232) : ∀ (n : Nat) (c : BitVec 32) (i : Nat), i + n = b.size →
    laderef1_More.l0 (10 * n + 1) b (uv c) i = some (uv (~~~ ((b.data.toList.drop i).foldl byteStep c)))
  | 0, c, i, h => by
    rw [show 10 * 0 + 1 = 0 + 1 from rfl]; unfold laderef1_More.l0
    rw [if_neg (by omega), List.drop_of_length_le (by simp; omega), lit_max, xor_uv, BitVec.allOnes_xor]; rfl
  | n + 1, c, i, h => by
    rw [show 10 * (n + 1) + 1 = (10 * n + 1 + 8 + 1) + 1 from by omega]; unfold laderef1_More.l0
    have hi : i < b.size := by omega
    rw [if_pos (by omega), if_pos (by omega), bt_mod, bt_uv b hi, xor_uv, ref_l1 b i 8 _ _ 0 (by omega) (by omega),
      show wrap64 ((i : Int) + 1) = ((i + 1 : Nat) : Int) from by unfold wrap64; omega, ref_l0 b hb n _ (i + 1) (by omega), drop_cons b.data.toList (i := i) (by simpa using hi)]
    rfl
theorem ref_f (b : ByteArray) (hb : b.size ≤ 140737488351232) (c : BitVec 32) : laderef1_More.f (10 * b.size + 1) (uv c) b = some (uv (more c b.data.toList)) := by
  unfold laderef1_More.f
  rw [lit_max, xor_uv, BitVec.allOnes_xor, show (0 : Int) = ((0 : Nat) : Int) from rfl, ref_l0 b hb b.size _ 0 (by omega)]; rfl

theorem CrcTells : ladelaw2_CrcTells.Pure := by
  intro n b hn hb
  obtain ⟨c, rfl⟩ := ex_uv (wf_u32 hn)
  refine ⟨10 * b.size + 1, ?_⟩
  unfold ladelaw2_CrcTells.f crc_Of.f
  rw [known_tells, bs, itt]
  by_cases hs : (b.size : Int) > 500
  · rw [if_pos hs]
  · rw [if_neg hs, Of_f _ hb]; simp only [bs]
    have h0 := ref_f b hb 0#32
    rw [← zero_uv] at h0
    rw [h0]; simp only [bs]
    rw [it, More_f _ _ hb]; simp only [bs]
    rw [ref_f b hb c]; simp only [bs]
    rw [beq_self_eq_true]

end Go.Proofs.Ytieklgflkjgijaa.Pure
