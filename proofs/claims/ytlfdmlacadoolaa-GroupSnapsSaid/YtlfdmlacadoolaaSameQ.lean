/- Of a group without holes group.Check and group.Do are the reference's: plain. -/
import Derived.Test.YtlfdmlacadoolaaKnown6
import Derived.Test.YtlfdmlacadoolaaRefDo
set_option linter.unusedVariables false
set_option linter.unusedSimpArgs false
namespace Go.Proofs.Ytlfdmlacadoolaa.Sp
open Go Go.RowKit Go.Proofs.Ytlfdmlacadoolaa.A Go.Proofs.YtlfdmlacadoolaaW.PrintWords Go.Proofs.YtlfdmlacadoolaaW.PrintLast Go.Proofs.YtlfdmlacadoolaaW.PrintMore
theorem find_at (l : List Ent) (i : Int) : (findL l i).isSome = decide (0 ≤ atL l i) := by
  rw [Bool.eq_iff_iff, decide_eq_true_iff]
  unfold findL atL
  rw [List.find?_isSome]
  cases hk : l.findIdx? (fun e => decide (e.f0 = i)) with
  | none =>
    refine ⟨fun ⟨e, he, h⟩ => ?_, fun h => ?_⟩
    · have := List.findIdx?_eq_none_iff.1 hk e he
      rw [this] at h; cases h
    · exfalso; revert h; show ¬ (0 : Int) ≤ -1; decide
  | some k =>
    obtain ⟨h1, h2, _⟩ := List.findIdx?_eq_some_iff_getElem.1 hk
    exact ⟨fun _ => by show (0 : Int) ≤ (k : Int); omega, fun _ => ⟨l[k], List.getElem_mem h1, h2⟩⟩
theorem fits_iff (g : Grp) (i t : Int) : fitsB g i t = true ↔ 0 ≤ atL g.l i ∧ termL g.l i = t := by
  unfold fitsB
  rw [find_at, ent_term, Bool.and_eq_true, decide_eq_true_iff, beq_iff_eq]
theorem w6_below {l : List Ent} {fi : Int} (h : ∀ e ∈ l, fi ≤ e.f0) (x : Int) : withL l fi x = belowL l x := by
  unfold withL belowL
  refine List.filter_congr fun e he => ?_
  unfold inR
  have h2 := h e he
  simp [h2]
theorem w6_from {l : List Ent} (h : ∀ e ∈ l, isE e = true) (x : Int) : withL l x 1099511627777 = fromL l x := by
  unfold withL fromL
  refine List.filter_congr fun e he => ?_
  unfold inR
  have h2 := isE_le (h e he)
  simp
  omega
theorem chw_chk {g : Grp} (hD : isG true g = true) (p : Prt) : chwG g p = chkG g p := by
  unfold chwG chkG
  split
  · unfold chwK chkK
    split
    · rfl
    · split
      · split
        · rfl
        · next h1 =>
          split
          · rfl
          · next h2 =>
            have h3 := dense_at hD (show g.fi ≤ p.ix by omega) h2
            have h4 : fitsB g p.ix p.tm = false ↔ p.tm ≠ (el g.l (p.ix - g.fi).toNat).f1 := by
              rw [← h3.2, ← Bool.not_eq_true, fits_iff]
              exact ⟨fun h h5 => h ⟨by rw [h3.1]; omega, h5.symm⟩, fun h h5 => h h5.2.symm⟩
            by_cases h5 : p.tm ≠ 0 ∧ fitsB g p.ix p.tm = false
            · rw [if_pos h5, if_pos ⟨h5.1, h4.1 h5.2⟩]
            · rw [if_neg h5, if_neg (fun h6 => h5 ⟨h6.1, h4.2 h6.2⟩)]
      · rfl
  · rfl
theorem dw_do {g : Grp} (hD : isG true g = true) (p : Prt) : dwG g p = if chkG g p = 0 then doRG g p else g := by
  unfold dwG
  rw [chw_chk hD]
  split
  · unfold dwK doRG
    have hE : ∀ e ∈ g.l, isE e = true := fun e he => isG_isE hD he
    split
    · rw [w6_below (fun e he => isG_mem_ge hD he)]
    · split
      · rfl
      · split
        · unfold goneW
          rw [w6_from hE, ent_term]
        · split
          · unfold goneW
            by_cases hf : fitsB g p.ix p.tm = true
            · rw [if_pos hf, if_pos ((fits_iff _ _ _).1 hf), w6_from hE]
            · rw [if_neg hf, if_neg (fun h => hf ((fits_iff _ _ _).2 h))]
              rfl
          · rfl
  · rfl
theorem chk6_ok {g : Grp} {p : Prt} (h : chkG g p = 0) : isP p = true ∧ p.k ≠ 6 ∧ p.k ≠ 5 ∧ p.g = g.id ∧ chkK g p = 0 := by
  unfold chkG at h
  split at h
  · next h1 => exact ⟨h1.1, h1.2.1, h1.2.2.1, h1.2.2.2, h⟩
  · cases h
theorem chk_can {g : Grp} {p : Prt} (hD : isG true g = true) (hc : chkG g p = 0) : canR g p := by
  obtain ⟨h1, n6, n5, h2, hk⟩ := chk6_ok hc
  have hfi := isG_fi hD
  rcases prt_kind h1 with k | k | k | k | k | k
  · exact .inl ⟨k, prt_ne h1 k⟩
  · exact .inr (.inl k)
  · have hx := prt_ix h1 (.inl k)
    refine .inr (.inr (.inl ⟨k, ?_, by omega, hx.2⟩))
    unfold chkK at hk
    rw [if_neg (by omega), if_pos k] at hk
    split at hk
    · cases hk
    · next h3 =>
      split at hk
      · cases hk
      · next h4 => rw [(dense_at hD (by omega) h4).1]; omega
  · have hx := prt_ix h1 (.inr (.inl k))
    exact .inr (.inr (.inr ⟨k, by omega, hx.2⟩))
  · exact absurd k n5
  · exact absurd k n6
end Go.Proofs.Ytlfdmlacadoolaa.Sp
