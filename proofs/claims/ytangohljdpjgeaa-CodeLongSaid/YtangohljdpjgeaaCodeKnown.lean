/- What the statements of layer 1 look at first holds. -/
import Derived.Test.YtangohljdpjgeaaCodeQ
namespace Go.Proofs.Ytangohljdpjgeaa.CodeQ
open Go Go.RowKit Go.Proofs.Ytangohljdpjgeaa.Q Go.Proofs.Ytangohljdpjgeaa.CodeW Go.Proofs.Ytangohljdpjgeaa.CodeM Go.Proofs.YtangohljdpjgeaaW.PrintWords Go.Proofs.YtangohljdpjgeaaW.PrintLast Go.Proofs.YtangohljdpjgeaaW.PrintMore
theorem put300 : putS 300 = ⟨#[172, 2]⟩ := ba_ext (by rw [putS_data, putB_big (by decide), putB_small (by decide)]; decide +kernel)
theorem put2 : putS 2 = ⟨#[2]⟩ := ba_ext (by rw [putS_data, putB_small (by decide)]; decide +kernel)
theorem put0 : putS 0 = ⟨#[0]⟩ := ba_ext (by rw [putS_data, putB_small (by decide)]; decide +kernel)
theorem known_f (k : Nat) : ladelaw1_known.f (k + 5) = some true := by
  unfold ladelaw1_known.f
  have g1 := Get_f (s := ⟨#[172, 2, 120]⟩) (by decide)
  have g2 := Get_f (s := ⟨#[128]⟩) (by decide)
  have g3 := Get_f (s := ⟨#[128, 0]⟩) (by decide)
  have e1 : getN [172, 2, 120] 0 0 = (300, 2, 0) := by decide +kernel
  have e2 : getN [128] 0 0 = (0, 0, 10) := by decide +kernel
  have e3 : getN [128, 0] 0 0 = (0, 0, 11) := by decide +kernel
  have t1 : textsN ⟨#[2, 97, 98, 99]⟩ 5 = (⟨#[97, 98]⟩, 3, 0) := by decide +kernel
  have t2 : textsN ⟨#[2, 97, 98, 99]⟩ 1 = (⟨#[]⟩, 0, 12) := by decide +kernel
  have x1 : Given.code_Fix.f ⟨#[1, 2, 0, 0, 120]⟩ = some (513, 0) := by decide +kernel
  have x2 : Given.code_Fix.f ⟨#[97, 98, 99]⟩ = some (0, 10) := by decide +kernel
  simp only at g1 g2 g3
  rw [e1] at g1
  rw [e2] at g2
  rw [e3] at g3
  rw [g1]; simp only [bs]
  rw [g2]; simp only [bs]
  rw [g3]; simp only [bs]
  rw [Texts_f _ _ (by decide), t1]; simp only [bs]
  rw [Texts_f _ _ (by decide), t2]; simp only [bs]
  rw [x1]; simp only [bs]
  rw [x2]; simp only [bs]
  rw [Put_f (by decide) (by decide), show (300 : Int).toNat = 300 from rfl, put300]; simp only [bs]
  rw [if_pos (by decide +kernel), if_pos (by decide), if_pos (by decide), if_pos (by decide), if_pos (by decide), if_pos (by decide), if_pos (by decide), if_pos (by decide +kernel), if_pos (by decide), if_pos (by decide)]
  rw [Text_f _ (by decide), show (⟨#[97, 98]⟩ : ByteArray).size = 2 from rfl, put2]; simp only [bs]
  rw [if_pos (by decide +kernel), if_pos (by decide), if_pos (by decide), if_pos (by decide), Fixed_f]; simp only [bs]
  rw [if_pos (by decide +kernel), Put_f (by decide) (by decide), show (-5 : Int).toNat = 0 from rfl, put0]; simp only [bs]
  decide +kernel
end Go.Proofs.Ytangohljdpjgeaa.CodeQ
