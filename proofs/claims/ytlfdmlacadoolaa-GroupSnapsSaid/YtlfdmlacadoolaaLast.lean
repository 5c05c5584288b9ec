/- The walk of laderef6.Last; where a dense group's entries stand. -/
import Derived.Test.YtlfdmlacadoolaaMd
import Derived.Test.YtlfdmlacadoolaaMf
set_option linter.unusedVariables false
set_option linter.unusedSimpArgs false
namespace Go.Proofs.Ytlfdmlacadoolaa.Sp
open Go Go.RowKit Go.Proofs.Ytlfdmlacadoolaa.A Go.Proofs.YtlfdmlacadoolaaW.PrintWords Go.Proofs.YtlfdmlacadoolaaW.PrintLast Go.Proofs.YtlfdmlacadoolaaW.PrintMore
/-- the last entry's index, or how far all is gone -/
def lastG (g : Grp) : Int := if g.l.length = 0 then wrap64 (g.fi - 1) else (el g.l (g.l.length - 1)).f0
theorem last_q6 (g : Grp) (hl : g.l.length ≤ 4398046511104) : laderef6_Last.f g.id g.fi g.tm g.ht g.hv g.hc g.l = some (lastG g) := by
  unfold laderef6_Last.f lastG
  by_cases h : g.l.length = 0
  · rw [if_pos (by omega), if_pos h]
  · rw [if_neg (by omega), if_neg h]
    have h1 : wrap64 ((g.l.length : Int) - 1) = ((g.l.length - 1 : Nat) : Int) := by unfold wrap64; omega
    rw [h1, if_pos (by omega), if_pos (by omega), rd_el]
theorem dense_nxt {g : Grp} (h : isG true g = true) {i : Nat} (hi : i < g.l.length) : (el g.l i).f0 = nxt g.fi g.l i := by
  have h2 := isG_okG h hi
  unfold okG at h2
  simp only [Bool.and_eq_true, Bool.not_true, Bool.false_or, decide_eq_true_eq] at h2
  exact h2.2.2
theorem dense_el {g : Grp} (h : isG true g = true) : ∀ i : Nat, i < g.l.length → (el g.l i).f0 = g.fi + i
  | 0, hi => by rw [dense_nxt h hi, nxt, if_pos rfl]; omega
  | i + 1, hi => by rw [dense_nxt h hi, nxt, if_neg (by omega), Nat.add_sub_cancel, dense_el h i (by omega)]; omega
theorem dense_last {g : Grp} (h : isG true g = true) : lastG g = g.fi + g.l.length - 1 := by
  have h1 := isG_fi h
  unfold lastG
  split
  · next h2 => unfold wrap64; omega
  · next h2 => rw [dense_el h _ (by omega)]; omega
theorem prt_ix {p : Prt} (h : isP p = true) (hk : p.k = 3 ∨ p.k = 4 ∨ p.k = 6 ∧ p.mrk = true) : 1 ≤ p.ix ∧ p.ix ≤ 1099511627776 := by
  unfold isP at h
  rw [Bool.and_eq_true] at h
  obtain ⟨_, h⟩ := h
  rcases hk with hk | hk | ⟨hk, hm⟩
  · rw [if_neg (by omega), if_neg (by omega), if_pos hk] at h
    simp only [Bool.and_eq_true] at h
    have := of_decide_eq_true h.2.2; omega
  · rw [if_neg (by omega), if_neg (by omega), if_neg (by omega), if_pos hk] at h
    simp only [Bool.and_eq_true] at h
    have := of_decide_eq_true h.2.2; omega
  · rw [if_neg (by omega), if_neg (by omega), if_neg (by omega), if_neg (by omega), if_neg (by omega), if_pos hk, hm] at h
    simp only [Bool.and_eq_true, if_true] at h
    have := of_decide_eq_true h.1.2; omega
theorem prt_ne {p : Prt} (h : isP p = true) (hk : p.k = 1) : 0 < p.l.length := by
  unfold isP at h
  rw [Bool.and_eq_true, if_pos hk] at h
  obtain ⟨_, h⟩ := h
  simp only [Bool.and_eq_true] at h
  have h2 := h.2.2.1
  rcases Nat.eq_zero_or_pos p.l.length with h3 | h3
  · rw [noL, decide_eq_true h3] at h2; cases h2
  · exact h3
theorem prt_kind {p : Prt} (h : isP p = true) : p.k = 1 ∨ p.k = 2 ∨ p.k = 3 ∨ p.k = 4 ∨ p.k = 5 ∨ p.k = 6 := by
  unfold isP at h
  rw [Bool.and_eq_true] at h
  obtain ⟨_, h⟩ := h
  repeat' split at h
  all_goals first | omega | (exfalso; exact Bool.noConfusion h)
end Go.Proofs.Ytlfdmlacadoolaa.Sp
namespace Go.Proofs.Ytlfdmlacadoolaa.PartW
open Go Go.RowKit Go.Shelf Go.Proofs.Ytlfdmlacadoolaa.A Go.Proofs.Ytlfdmlacadoolaa.Sp Go.Proofs.Ytlfdmlacadoolaa.Reg Go.Proofs.Ytlfdmlacadoolaa.Seq Go.Proofs.YtlfdmlacadoolaaW.PrintWords Go.Proofs.YtlfdmlacadoolaaW.PrintLast Go.Proofs.YtlfdmlacadoolaaW.PrintMore
theorem sA {α : Type _} (l : List α) (i : Nat) (a : α) : l.toArray.setIfInBounds i a = (l.set i a).toArray := List.setIfInBounds_toArray l i a
theorem sB {α : Type _} (x : α) (l : List α) (a : α) : (x :: l).set 0 a = a :: l := List.set_cons_zero
theorem sC {α : Type _} (x : α) (l : List α) (i : Nat) (a : α) : (x :: l).set (i + 1) a = x :: l.set i a := List.set_cons_succ
theorem ref_Last' (g : Grp) (A : Option Addr) (c : Nat) (w : World) (h : Rd w A c g.l) : Calls Try.prog 26 #[vG g A c] w fun e w' => e = .returned (.int .i64 (lastG g)) ∧ Below w.heap.size w w' :=
  laderef6_Last.calls _ _ _ _ _ _ _ _ _ _ w h.rd h.le (last_q6 g h.bd)
end Go.Proofs.Ytlfdmlacadoolaa.PartW
