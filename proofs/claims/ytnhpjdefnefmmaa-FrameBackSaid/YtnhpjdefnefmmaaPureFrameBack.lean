/- FrameBack: what was framed is read, whatever stands behind it; cut off it is torn, of nothing the end. -/
import Derived.Test.YtnhpjdefnefmmaaQx3
import Derived.Test.YtnhpjdefnefmmaaFrameM
namespace Go.Proofs.Ytnhpjdefnefmmaa.Pure
open Go Go.RowKit Go.Proofs.Ytnhpjdefnefmmaa.Q Go.Proofs.Ytnhpjdefnefmmaa.CodeF Go.Proofs.Ytnhpjdefnefmmaa.CrcW Go.Proofs.Ytnhpjdefnefmmaa.CrcM Go.Proofs.Ytnhpjdefnefmmaa.FixQ Go.Proofs.Ytnhpjdefnefmmaa.FrameW Go.Proofs.Ytnhpjdefnefmmaa.FrameM Go.Proofs.YtnhpjdefnefmmaaW.PrintWords Go.Proofs.YtnhpjdefnefmmaaW.PrintLast Go.Proofs.YtnhpjdefnefmmaaW.PrintMore
theorem back_j1 (k : Nat) (b : ByteArray) (c : Int) (hc : 0 ≤ c ∧ c < 65536) (h0 : b.size ≠ 0) (h1 : b.size ≤ 2000) : ladelaw3_FrameBack.j1 (k + 1) c (wrapS b) false = some true := by
  have hz := wrapS_size b
  have hw : wrap64 c = c := by unfold wrap64; omega
  obtain ⟨C, rfl⟩ := Int.eq_ofNat_of_zero_le hc.1
  have ht : Int.tmod (C : Int) ((wrapS b).size : Int) = ((C % (wrapS b).size : Nat) : Int) := by rw [Int.tmod_eq_emod_of_nonneg (by omega)]; omega
  have hlt : C % (wrapS b).size < (wrapS b).size := Nat.mod_lt _ (by omega)
  rw [ladelaw3_FrameBack.j1, iff_, if_neg (by omega), hw, ht, if_pos (by omega), if_pos (by omega), Int.toNat_natCast]
  generalize C % (wrapS b).size = m at hlt
  have hs : ((wrapS b).extract 0 m).size ≤ 140737488351232 := by rw [ByteArray.size_extract]; omega
  rw [Read_q _ hs]; simp only [bs]
  by_cases h : m = 0
  · subst h
    have e : (wrapS b).extract 0 0 = ⟨#[]⟩ := bytes_eq (by rw [ext_data]; rfl)
    rw [e, read_empty, if_pos (show ((0 : Nat) : Int) = 0 from rfl), if_pos ((list_nil _).2 rfl), if_pos (show ((0 : Nat) : Int) = 0 from rfl)]
    rfl
  · rw [read_cut b h0 h1 m hlt h, if_neg (show ¬ (m : Int) = 0 by omega), if_pos ((list_nil _).2 rfl), if_pos (show ((0 : Nat) : Int) = 0 from rfl)]
    rfl
theorem FrameBack : ladelaw3_FrameBack.Pure := by
  intro b tail c hb ht hc
  have hc' : 0 ≤ c ∧ c < 65536 := by simp [Lit.wf, IntKind.min, IntKind.max, IntKind.bits, IntKind.signed] at hc; omega
  refine ⟨7, ?_⟩
  unfold ladelaw3_FrameBack.f
  rw [show 7 = 2 + 5 from rfl, known_q, bs, itt, show 2 + 5 = 6 + 1 from rfl]
  by_cases h1 : (b.size : Int) < 1
  · rw [if_pos h1, ladelaw3_FrameBack.j0, itt]
  · rw [if_neg h1]
    by_cases h2 : (b.size : Int) > 2000
    · rw [if_pos h2, ladelaw3_FrameBack.j0, itt]
    · rw [if_neg h2, ladelaw3_FrameBack.j0]
      by_cases h3 : (tail.size : Int) > 100
      · rw [decide_eq_true h3, itt]
      · rw [decide_eq_false h3, iff_]
        have hz := wrapS_size b
        have hw := Wrap_q b hb 1
        rw [if_neg (by omega), if_neg (by omega)] at hw
        have hr := read_wrap b tail (by omega) (by omega)
        rw [show 6 = 1 + 5 from rfl, hw]; simp only [bs]
        rw [if_pos (by omega), Read_q _ (by rw [app_size]; omega), hr]; simp only [bs]
        rw [it, it, if_pos (show ((b.size + 12 : Nat) : Int) = ((wrapS b).size : Int) by omega), if_pos (show ((1 : Nat) : Int) = 1 from rfl), Size_q _ (by omega), bs,
          show (((b.size + 12 : Nat) : Int) != (b.size : Int) + 12) = false from bne_eq_false_iff_eq.2 (by omega)]
        exact back_j1 5 b c hc' (by omega) (by omega)
end Go.Proofs.Ytnhpjdefnefmmaa.Pure
