/- CodeBytes: four bytes, the lowest first, each its own eight bits. -/
import Derived.Test.YtangohljdpjgeaaQx5
import Derived.Test.YtangohljdpjgeaaCodeKnown
namespace Go.Proofs.Ytangohljdpjgeaa.Pure
open Go Go.RowKit Go.Proofs.Ytangohljdpjgeaa.Q Go.Proofs.Ytangohljdpjgeaa.CodeW Go.Proofs.Ytangohljdpjgeaa.CodeM Go.Proofs.Ytangohljdpjgeaa.CodeQ Go.Proofs.YtangohljdpjgeaaW.PrintWords Go.Proofs.YtangohljdpjgeaaW.PrintLast Go.Proofs.YtangohljdpjgeaaW.PrintMore
theorem CodeBytes : ladelaw1_CodeBytes.Pure := by
  intro a b c d t ha hb hc hd ht
  have ha := wf_u8 ha
  have hb := wf_u8 hb
  have hc := wf_u8 hc
  have hd := wf_u8 hd
  refine ⟨5, ?_⟩
  unfold ladelaw1_CodeBytes.f
  rw [show 5 = 0 + 5 from rfl, known_f, bs, itt]
  by_cases h : (t.size : Int) > 100
  · rw [if_pos h]
  · rw [if_neg h]; simp only [bs]
    have hs : (strOfNums [a, b, c, d]).size = 4 := by rw [strOfNums_size]; rfl
    have hsz : (strOfNums [a, b, c, d] ++ t).size = 4 + t.size := by rw [app_size, hs]
    have hv : ∀ x : Int, 0 ≤ x ∧ x ≤ 255 → ((UInt8.ofNat x.toNat).toNat : Int) = x := fun x hx => by rw [ofNat_u8 (by omega)]; omega
    have hfix : ((fixN (strOfNums [a, b, c, d] ++ t).data.toList : Nat) : Int) = a + 256 * b + 65536 * c + 16777216 * d := by
      rw [app_data, strOfNums_data]
      have e : fixN ([a, b, c, d].map (fun n => UInt8.ofNat n.toNat) ++ t.data.toList) = (UInt8.ofNat a.toNat).toNat + (UInt8.ofNat b.toNat).toNat * 256 + (UInt8.ofNat c.toNat).toNat * 65536 + (UInt8.ofNat d.toNat).toNat * 16777216 := rfl
      rw [e]
      have := hv a ha; have := hv b hb; have := hv c hc; have := hv d hd
      omega
    have hf : Given.code_Fix.f (strOfNums [a, b, c, d] ++ t) = some (a + 256 * b + 65536 * c + 16777216 * d, 0) := by
      unfold Given.code_Fix.f; rw [if_neg (by omega), hfix]
    rw [if_pos (by omega), hf]; simp only [bs]
    rw [Fixed_f]; simp only [bs]
    rw [it, if_pos (by omega)]
    have e4 : fixS (a + 256 * b + 65536 * c + 16777216 * d) = strOfNums [a, b, c, d] := by
      unfold fixS fixL
      rw [show (a + 256 * b + 65536 * c + 16777216 * d) % 256 = a from by omega, show (a + 256 * b + 65536 * c + 16777216 * d) / 256 % 256 = b from by omega, show (a + 256 * b + 65536 * c + 16777216 * d) / 65536 % 256 = c from by omega, show (a + 256 * b + 65536 * c + 16777216 * d) / 16777216 % 256 = d from by omega]
    rw [e4, beq_self_eq_true]
end Go.Proofs.Ytangohljdpjgeaa.Pure
