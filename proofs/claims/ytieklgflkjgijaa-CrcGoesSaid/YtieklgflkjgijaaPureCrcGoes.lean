/- CrcGoes: the sum of two texts together is that of the second one, gone on from the first one's. -/
import Derived.Test.YtieklgflkjgijaaQx1
import Derived.Test.YtieklgflkjgijaaCrcM
namespace Go.Proofs.Ytieklgflkjgijaa.Pure
open Go Go.RowKit Go.Proofs.Ytieklgflkjgijaa.Q Go.Proofs.YtieklgflkjgijaaW.PrintWords Go.Proofs.YtieklgflkjgijaaW.PrintLast Go.Proofs.YtieklgflkjgijaaW.PrintMore Go.Proofs.Ytieklgflkjgijaa.CrcM Go.Proofs.Ytieklgflkjgijaa.CrcW

theorem known_goes : ladelaw2_known.f = some true := by
  unfold ladelaw2_known.f crc_Of.f
  rw [known1]; simp only [bs]; rw [it, known2]; simp only [bs]; rfl

theorem CrcGoes : ladelaw2_CrcGoes.Pure := by
  intro a b c n ha hb hc hn
  obtain ⟨u, rfl⟩ := ex_uv (wf_u32 hn)
  unfold ladelaw2_CrcGoes.f crc_Of.f
  rw [known_goes]; rw [bs, itt]
  have w1 : wrap64 ((a.size : Int) + b.size) = (a.size : Int) + b.size := by unfold wrap64; omega
  have w2 : wrap64 ((a.size : Int) + b.size + c.size) = (a.size : Int) + b.size + c.size := by unfold wrap64; omega
  rw [w1, w2]
  by_cases hs : (a.size : Int) + b.size + c.size > 600
  · rw [if_pos hs]
  · rw [if_neg hs, if_pos (by omega)]
    have s1 := app_size a b
    have s2 := app_size (a ++ b) c
    have s3 := app_size b c
    rw [Of_f _ (by omega), Of_f _ (by omega)]; simp only [bs]
    rw [More_f _ _ (by omega)]; simp only [bs]
    rw [if_pos (by rw [app_data, more_append]), if_pos (by omega), More_f _ _ (by omega)]; simp only [bs]
    rw [More_f _ _ (by omega)]; simp only [bs]
    rw [if_pos (by omega), More_f _ _ (by omega)]; simp only [bs]
    rw [if_pos (by rw [app_data, app_data, app_data, List.append_assoc, more_append]), More_f _ _ (by decide)]; simp only [bs]
    rw [more_nil, beq_self_eq_true]

end Go.Proofs.Ytieklgflkjgijaa.Pure
