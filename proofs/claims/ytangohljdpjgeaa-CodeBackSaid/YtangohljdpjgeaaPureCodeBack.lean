/- CodeBack: what was written is read, whatever stands behind it; cut off it isn't. -/
import Derived.Test.YtangohljdpjgeaaQx3
import Derived.Test.YtangohljdpjgeaaCodeKnown
namespace Go.Proofs.Ytangohljdpjgeaa.Pure
open Go Go.RowKit Go.Proofs.Ytangohljdpjgeaa.Q Go.Proofs.Ytangohljdpjgeaa.CodeW Go.Proofs.Ytangohljdpjgeaa.CodeM Go.Proofs.Ytangohljdpjgeaa.CodeQ Go.Proofs.YtangohljdpjgeaaW.PrintWords Go.Proofs.YtangohljdpjgeaaW.PrintLast Go.Proofs.YtangohljdpjgeaaW.PrintMore
theorem ba_empty : (⟨#[]⟩ : ByteArray).size = 0 := rfl
theorem back_j1 (k n : Nat) (s tail : ByteArray) (cut : Int) (hn : n < 9223372036854775808) (hs : s.size ≤ 200) (ht : tail.size ≤ 50) (hc : 0 ≤ cut ∧ cut ≤ 255) : ladelaw1_CodeBack.j1 (k + 1) s tail cut (putS n) false = some true := by
  rw [ladelaw1_CodeBack.j1, iff_]
  have hp := putB_pos n
  have h9 := putB_nine hn
  have hz := putS_size n
  have h9s := putB_nine (n := s.size) (by omega)
  have hts := Text_size s
  rw [show wrap64 cut = cut from by unfold wrap64; omega, Int.tmod_eq_emod_of_nonneg hc.1]
  have hm0 := Int.emod_nonneg cut (show ((putS n).size : Int) ≠ 0 by omega)
  have hm1 := Int.emod_lt_of_pos cut (show 0 < ((putS n).size : Int) by omega)
  obtain ⟨m, hm⟩ : ∃ m : Nat, cut % ((putS n).size : Int) = m := ⟨(cut % ((putS n).size : Int)).toNat, by omega⟩
  rw [hm] at hm0 hm1 ⊢
  have hx : ((putS n).extract 0 m).data.toList = (putB n).take m := by rw [ext_data, putS_data, List.drop_zero]
  have hxs : ((putS n).extract 0 m).size ≤ 9 := by rw [← ba_len, hx, List.length_take]; omega
  have hg := getN_cut n 0 0 m (by omega) (by omega)
  rw [if_neg (by omega), if_pos (by omega), if_pos (by omega), Int.toNat_natCast, Get_f (by omega), hx, hg]; simp only [bs]
  rw [Text_f _ (by omega)]; simp only [bs]
  have hta := app_size (putS s.size ++ s) tail
  rw [if_pos (by omega), Texts_f _ _ (by omega), texts_back _ _ _ (by omega), show wrap64 ((s.size : Int) - 1) = (s.size : Int) - 1 from by unfold wrap64; omega]
  by_cases h0 : s.size = 0
  · rw [if_neg (by omega)]; simp only [bs]; simp [h0]
  · rw [if_pos (by omega)]; simp only [bs]; simp
theorem CodeBack : ladelaw1_CodeBack.Pure := by
  intro n u s tail cut hn hu hs0 ht0 hc
  have hn := wf_i64 hn
  have hu := wf_u32 hu
  have hc := wf_u8 hc
  refine ⟨7, ?_⟩
  have hj : ∀ x, ladelaw1_CodeBack.j0 7 n u s tail cut x = if x = true then (some true) else _ := fun x => by rw [ladelaw1_CodeBack.j0]
  unfold ladelaw1_CodeBack.f
  rw [show 7 = 2 + 5 from rfl, known_f, bs, itt]
  by_cases h1 : (s.size : Int) > 200
  · rw [if_pos h1, hj, itt]
  · rw [if_neg h1]
    by_cases h2 : (tail.size : Int) > 50
    · rw [decide_eq_true h2, hj, itt]
    · rw [decide_eq_false h2, hj, iff_]
      have hp := putB_pos n.toNat
      have h9 := putB_nine (n := n.toNat) (by omega)
      have hz := putS_size n.toNat
      have h9s := putB_nine (n := s.size) (by omega)
      have hts := Text_size s
      have hta := app_size (putS s.size ++ s) tail
      have hpa := app_size (putS n.toNat) tail
      have hfa := app_size (fixS u) tail
      have hfs := fixS_size u
      have hg := getN_put0 tail.data.toList (n := n.toNat) (by omega)
      rw [Put_f (by omega) (by omega)]; simp only [bs]
      rw [if_pos (by omega), Get_f (by omega), app_data, putS_data, hg]; simp only [bs]
      rw [Text_f _ (by omega)]; simp only [bs]
      rw [if_pos (by omega), Texts_f _ _ (by omega), texts_back _ _ _ (by omega), if_neg (by omega)]; simp only [bs]
      rw [show (6 : Nat) = 1 + 5 from rfl, Fixed_f]; simp only [bs]
      have hf : Given.code_Fix.f (fixS u ++ tail) = some (u, 0) := by
        unfold Given.code_Fix.f; rw [if_neg (by omega), app_data, fixN_fix hu.1 hu.2]
      rw [if_pos (by omega), hf]; simp only [bs]
      rw [if_pos (by decide), it, it, if_pos (by rw [mx_eq]; omega), it, it, if_pos (by omega)]
      rw [it, if_neg (by omega), show decide (((putS n.toNat).size : Int) > 9) = false from decide_eq_false (by omega), show 1 + 5 = 5 + 1 from rfl]
      exact back_j1 5 n.toNat s tail cut (by omega) (by omega) (by omega) hc
end Go.Proofs.Ytangohljdpjgeaa.Pure
