/- The plain law of SparseDense: of a log without holes a part that may be done makes the same. -/
import Derived.Test.YtfnflbclhaeedaaLoose
import Derived.Test.YtfnflbclhaeedaaChk
import Derived.Test.YtfnflbclhaeedaaRefDo
set_option linter.unusedVariables false
set_option linter.unusedSimpArgs false
namespace Go.Proofs.Ytfnflbclhaeedaa.Sp
open Go Go.RowKit Go.Proofs.Ytfnflbclhaeedaa.A Go.Proofs.YtfnflbclhaeedaaW.PrintWords Go.Proofs.YtfnflbclhaeedaaW.PrintLast Go.Proofs.YtfnflbclhaeedaaW.PrintMore
theorem chk_ok {g : Grp} {p : Prt} (h : chkG g p = 0) : isP p = true ∧ p.k ≠ 6 ∧ p.k ≠ 5 ∧ p.g = g.id ∧ chkK g p = 0 := by
  unfold chkG at h
  split at h
  · next h1 => exact ⟨h1.1, h1.2.1, h1.2.2.1, h1.2.2.2, h⟩
  · cases h
theorem dense_sparse {g : Grp} (h : isG true g = true) : isG false g = true := by
  unfold isG at h ⊢
  rw [Bool.and_eq_true] at h ⊢
  refine ⟨h.1, List.all_eq_true.2 (fun i hi => ?_)⟩
  have h2 := List.all_eq_true.1 h.2 i hi
  unfold okG at h2 ⊢
  simp only [Bool.and_eq_true, Bool.not_false, Bool.true_or, and_true] at h2 ⊢
  exact ⟨h2.1, h2.2.1⟩
theorem dense_at {g : Grp} (h : isG true g = true) {x : Int} (h1 : g.fi ≤ x) (h2 : ¬ lastG g < x) : atL g.l x = x - g.fi ∧ termL g.l x = (el g.l (x - g.fi).toNat).f1 := by
  have h3 := dense_last h
  have h4 : (x - g.fi).toNat < g.l.length := by omega
  have h5 : atL g.l x = (((x - g.fi).toNat : Nat) : Int) := by
    refine atL_hit h4 (by rw [dense_el h _ h4]; omega) (fun j hj => ?_)
    rw [dense_el h j (by omega)]
    omega
  have h6 := at_some (l := g.l) (i := x) (by rw [h5]; omega)
  rw [h5, Int.toNat_natCast] at h6
  exact ⟨by rw [h5]; omega, h6.2.symm⟩
theorem risB_ge {d : Bool} {l : List Ent} (h : risB d l = true) : ∀ i, i < l.length → (el l 0).f0 ≤ (el l i).f0
  | 0, _ => Int.le_refl _
  | i + 1, hi => by
    have h0 := risB_ge h i (by omega)
    unfold risB at h
    rw [Bool.and_eq_true] at h
    have h2 := List.all_eq_true.1 h.1 (i + 1) (List.mem_range.2 hi)
    unfold okR at h2
    simp only [Bool.and_eq_true, Bool.or_eq_true, decide_eq_true_eq, Nat.add_sub_cancel] at h2
    rcases h2.2 with h3 | h3
    · omega
    · have := h3.1; omega
theorem from_all {l : List Ent} {x : Int} (h : ∀ i, i < l.length → x ≤ (el l i).f0) : fromL l x = l := by
  unfold fromL
  rw [List.filter_eq_self]
  intro e he
  obtain ⟨i, hi, rfl⟩ := List.mem_iff_getElem.1 he
  have := h i hi
  rw [el_get hi] at this
  exact decide_eq_true this
theorem isP_ris {p : Prt} (h : isP p = true) (hk : p.k = 1) : risB true p.l = true := by
  unfold isP at h
  rw [Bool.and_eq_true] at h
  obtain ⟨_, h⟩ := h
  rw [if_pos hk] at h
  simp only [Bool.and_eq_true] at h
  exact h.2.2.2
/-- the part that SparseDense does: a snapshot that fits is a compact -/
def turn (g : Grp) (p : Prt) : Prt := if p.k = 4 ∧ 0 ≤ atL g.l p.ix ∧ termL g.l p.ix = p.tm then ⟨p.g, 3, p.l, p.ht, p.hv, p.hc, p.ix, p.tm, p.mrk, p.hed⟩ else p
theorem turn_isP {p : Prt} (h : isP p = true) (hk : p.k = 4) : isP ⟨p.g, 3, p.l, p.ht, p.hv, p.hc, p.ix, p.tm, p.mrk, p.hed⟩ = true := by
  unfold isP at h ⊢
  rw [Bool.and_eq_true] at h ⊢
  obtain ⟨h0, h⟩ := h
  rw [if_neg (by omega), if_neg (by omega), if_neg (by omega), if_pos hk] at h
  refine ⟨h0, ?_⟩
  rw [if_neg (by show ¬ (3 : Int) = 1; decide), if_neg (by show ¬ (3 : Int) = 2; decide), if_pos rfl]
  simp only [Bool.and_eq_true] at h ⊢
  refine ⟨h.1, ⟨h.2.1.1, h.2.1.2⟩, ?_⟩
  have := of_decide_eq_true h.2.2
  unfold isM
  exact decide_eq_true (by omega)
theorem dense_k3 {g : Grp} {p : Prt} (hD : isG true g = true) (h1 : isP p = true) (h2 : p.g = g.id) (h3 : p.k = 3) (hi : g.fi ≤ p.ix) (ht : p.tm ≠ 0 → p.tm = termL g.l p.ix) : doG g p = doRG g p := by
  rw [do_loose]
  unfold looseG looseK doRG
  rw [if_pos ⟨dense_sparse hD, h1, h2⟩, if_neg (by omega), if_neg (by omega), if_pos h3, if_neg (by omega), if_neg (by omega), if_pos h3]
  unfold compG
  rw [if_neg (by omega)]
  by_cases h0 : p.tm = 0
  · rw [if_pos h0]
  · rw [if_neg h0, ht h0]
theorem dense_do {g : Grp} {p : Prt} (hD : isG true g = true) (hc : chkG g p = 0) : doG g (turn g p) = doRG g (turn g p) := by
  obtain ⟨h1, n6, n5, h2, hk⟩ := chk_ok hc
  unfold turn
  split
  · next ht =>
    obtain ⟨k4, ha, hb⟩ := ht
    unfold chkK at hk
    rw [if_neg (by omega), if_neg (by omega), if_pos k4] at hk
    refine dense_k3 hD (turn_isP h1 k4) h2 rfl ?_ (fun _ => hb.symm)
    show g.fi ≤ p.ix
    split at hk
    · cases hk
    · omega
  · next ht =>
    rcases prt_kind h1 with k | k | k | k | k | k
    · unfold chkK at hk
      rw [if_pos k] at hk
      rw [do_loose]
      unfold looseG looseK doRG
      rw [if_pos ⟨dense_sparse hD, h1, h2⟩, if_pos k, if_pos k]
      have hf : fromL p.l g.fi = p.l := from_all (fun i hi => by
        have := risB_ge (isP_ris h1 k) i hi
        split at hk
        · cases hk
        · omega)
      rw [hf]
    · rw [do_loose]
      unfold looseG looseK doRG
      rw [if_pos ⟨dense_sparse hD, h1, h2⟩, if_neg (by omega), if_pos k, if_neg (by omega), if_pos k]
    · unfold chkK at hk
      rw [if_neg (by omega), if_pos k] at hk
      split at hk
      · cases hk
      · next h3 =>
        split at hk
        · cases hk
        · next h4 =>
          refine dense_k3 hD h1 h2 k (by omega) (fun h0 => ?_)
          split at hk
          · cases hk
          · next h5 =>
            rw [(dense_at hD (by omega) h4).2]
            exact Classical.byContradiction (fun h6 => h5 ⟨h0, h6⟩)
    · unfold chkK at hk
      rw [if_neg (by omega), if_neg (by omega), if_pos k] at hk
      split at hk
      · cases hk
      · rw [do_loose]
        unfold looseG looseK doRG
        rw [if_pos ⟨dense_sparse hD, h1, h2⟩, if_neg (by omega), if_neg (by omega), if_neg (by omega), if_pos k, if_pos (by omega), if_neg (by omega), if_neg (by omega), if_neg (by omega), if_pos k, if_neg (fun h => ht ⟨k, h⟩)]
    · exact absurd k n5
    · exact absurd k n6
/-- the turned part can be done: what the walk of laderef6.Do asks -/
theorem turn_can {g : Grp} {p : Prt} (hD : isG true g = true) (hc : chkG g p = 0) : canR g (turn g p) := by
  obtain ⟨h1, n6, n5, h2, hk⟩ := chk_ok hc
  have hfi := isG_fi hD
  unfold turn
  split
  · next ht =>
    obtain ⟨k4, ha, hb⟩ := ht
    have hx := prt_ix h1 (.inr (.inl k4))
    exact .inr (.inr (.inl ⟨rfl, ha, by show 0 ≤ p.ix; omega, hx.2⟩))
  · next ht =>
    rcases prt_kind h1 with k | k | k | k | k | k
    · exact .inl ⟨k, prt_ne h1 k⟩
    · exact .inr (.inl k)
    · have hx := prt_ix h1 (.inl k)
      refine .inr (.inr (.inl ⟨k, ?_, by omega, hx.2⟩))
      unfold chkK at hk
      rw [if_neg (by omega), if_pos k] at hk
      split at hk
      · cases hk
      · next h3 =>
        split at hk
        · cases hk
        · next h4 => rw [(dense_at hD (by omega) h4).1]; omega
    · have hx := prt_ix h1 (.inr (.inl k))
      exact .inr (.inr (.inr ⟨k, by omega, hx.2⟩))
    · exact absurd k n5
    · exact absurd k n6
end Go.Proofs.Ytfnflbclhaeedaa.Sp
