/- What SparseAppends needs: appends to logs with holes, in plain Lean. -/
import Derived.Test.YtfnflbclhaeedaaFwdQ
set_option linter.unusedVariables false
set_option linter.unusedSimpArgs false
namespace Go.Proofs.Ytfnflbclhaeedaa.Sp
open Go Go.RowKit Go.Shelf Go.Proofs.Ytfnflbclhaeedaa.A Go.Proofs.Ytfnflbclhaeedaa.Seq Go.Proofs.YtfnflbclhaeedaaW.PrintWords Go.Proofs.YtfnflbclhaeedaaW.PrintLast Go.Proofs.YtfnflbclhaeedaaW.PrintMore
def entA (x : Int) : Ent := ⟨x, 1, ⟨#[]⟩⟩
def entF (f : Int) (k : Nat) : Ent := ⟨f + (k : Int), 9, ⟨#[]⟩⟩
/-- the entries that are appended -/
def appF (f : Int) (k : Nat) : List Ent := (List.range k).map (entF f)
theorem appF_succ (f : Int) (k : Nat) : appF f (k + 1) = appF f k ++ [entF f k] := by
  unfold appF
  rw [List.range_succ, List.map_append]; rfl
theorem appF_len (f : Int) (k : Nat) : (appF f k).length = k := by unfold appF; simp
theorem appF_el {f : Int} {N j : Nat} (h : j < N) : el (appF f N) j = entF f j := by
  rw [el_get (by rw [appF_len]; exact h)]
  unfold appF
  simp
/-- what is laid first: rising, of the term 1 -/
def AppOk (L : List Ent) : Prop := L.Pairwise (fun a b => a.f0 < b.f0) ∧ ∀ e ∈ L, ∃ x : Int, 1 ≤ x ∧ x ≤ 256 ∧ e = entA x
theorem isE_A {x : Int} (h1 : 1 ≤ x) (h2 : x ≤ 1000) : isE (entA x) = true := by
  unfold isE entA
  apply decide_eq_true
  refine ⟨h1, by show x ≤ _; omega, by show (1 : Int) ≤ 1; omega, by show (1 : Int) ≤ _; omega, by show (0 : Nat) ≤ 40; omega⟩
theorem AppOk.good {L : List Ent} (h : AppOk L) : GoodL 1 L := ⟨fun e he => by obtain ⟨x, h1, h2, rfl⟩ := h.2 e he; exact ⟨isE_A h1 (by omega), h1⟩, h.1⟩
theorem AppOk.step {L : List Ent} (h : AppOk L) {x : Int} (h1 : 1 ≤ x) (h2 : x ≤ 256) : AppOk (stepE 1 L (entA x)) := by
  refine ⟨(h.good.step (isE_A h1 (by omega))).2, fun e he => ?_⟩
  unfold stepE at he
  split at he
  · exact h.2 e he
  · rcases List.mem_append.1 he with h3 | h3
    · rcases List.mem_append.1 h3 with h4 | h4
      · exact h.2 e (List.mem_filter.1 h4).1
      · exact ⟨x, h1, h2, List.mem_singleton.1 h4⟩
    · exact h.2 e (List.mem_filter.1 h3).1
theorem AppOk.isG {L : List Ent} {id : Int} (h : AppOk L) (hi : 0 ≤ id ∧ id < 256) : isG false ⟨id, 1, 0, 0, 0, 0, L⟩ = true :=
  good_isG h.good (hd_mk ⟨hi.1, by omega, by decide, by decide, by decide, by decide⟩ isH_0)
theorem app_do {L : List Ent} {id x : Int} (h : AppOk L) (hi : 0 ≤ id ∧ id < 256) (h1 : 1 ≤ x) (h2 : x ≤ 256) :
    doG ⟨id, 1, 0, 0, 0, 0, L⟩ ⟨id, 6, [entA x], 0, 0, 0, 0, 0, false, false⟩ = ⟨id, 1, 0, 0, 0, 0, stepE 1 L (entA x)⟩ := by
  have hE := isE_A h1 (by omega)
  rw [do_loose]
  unfold looseG
  rw [if_pos ⟨h.isG hi, by
    unfold isP risB
    simp [okR, el, hE, noL, noH, noM]
    omega, rfl⟩, fw_kind _ _ rfl]
  rfl
theorem isE_F {f : Int} {k : Nat} (h1 : 1 ≤ f) (h2 : f ≤ 1000) (hk : k ≤ 1000) : isE (entF f k) = true := by
  unfold isE entF
  apply decide_eq_true
  refine ⟨by show 1 ≤ f + (k : Int); omega, by show f + (k : Int) ≤ _; omega, by show (1 : Int) ≤ 9; omega, by show (9 : Int) ≤ _; omega, by show (0 : Nat) ≤ 40; omega⟩
theorem appF_is {id f : Int} {N : Nat} (hid : 0 ≤ id ∧ id < 256) (h1 : 1 ≤ f) (h2 : f ≤ 256) (hN : 1 ≤ N ∧ N ≤ 6) : isP ⟨id, 1, appF f N, 0, 0, 0, 0, 0, false, false⟩ = true := by
  have hr : risB true (appF f N) = true := by
    unfold risB
    rw [Bool.and_eq_true]
    refine ⟨List.all_eq_true.2 (fun j hj => ?_), decide_eq_true (by rw [appF_len]; exact hN.2)⟩
    have hj := List.mem_range.1 hj
    rw [appF_len] at hj
    unfold okR
    rw [appF_el hj, isE_F h1 (by omega) (by omega), Bool.true_and, Bool.or_eq_true]
    rcases Nat.eq_zero_or_pos j with h | h
    · exact .inl (decide_eq_true h)
    · refine .inr ?_
      rw [appF_el (show j - 1 < N by omega), Bool.and_eq_true, Bool.not_true, Bool.false_or]
      unfold entF
      exact ⟨decide_eq_true (by dsimp only; omega), decide_eq_true (by dsimp only; omega)⟩
  unfold isP
  rw [Bool.and_eq_true]
  refine ⟨decide_eq_true ⟨hid.1, by show id ≤ 999; omega⟩, ?_⟩
  dsimp only
  rw [if_pos rfl, hr]
  have : noL ⟨id, 1, appF f N, 0, 0, 0, 0, 0, false, false⟩ = false := by unfold noL; rw [appF_len]; exact decide_eq_false (by omega)
  rw [this]
  rfl
theorem app_all {L : List Ent} {id f : Int} {N : Nat} (h : AppOk L) (hi : 0 ≤ id ∧ id < 256) (h1 : 1 ≤ f) (h2 : f ≤ 256) (hN : 1 ≤ N ∧ N ≤ 6) :
    doG ⟨id, 1, 0, 0, 0, 0, L⟩ ⟨id, 1, appF f N, 0, 0, 0, 0, 0, false, false⟩ = ⟨id, 1, 0, 0, 0, 0, belowL L f ++ appF f N⟩ := by
  rw [do_loose]
  unfold looseG
  rw [if_pos ⟨h.isG hi, appF_is hi h1 h2 hN, rfl⟩]
  unfold looseK
  rw [if_pos rfl]
  have he : (el (appF f N) 0).f0 = f := by rw [appF_el (by omega)]; show f + ((0 : Nat) : Int) = f; omega
  show (⟨id, 1, 0, 0, 0, 0, belowL L (el (appF f N) 0).f0 ++ fromL (appF f N) 1⟩ : Grp) = _
  rw [he, from_all' (fun j hj => by rw [appF_len] at hj; rw [appF_el hj]; show 1 ≤ f + (j : Int); omega)]
/-- the entries ahead of an index are a beginning -/
theorem below_pre : ∀ {L : List Ent} (f : Int), L.Pairwise (fun a b => a.f0 < b.f0) → ∃ q, q ≤ L.length ∧ belowL L f = L.take q ∧ (∀ i, i < q → (el L i).f0 < f) ∧ ∀ i, q ≤ i → i < L.length → ¬ (el L i).f0 < f
  | [], f, _ => ⟨0, Nat.le_refl _, rfl, fun i h => absurd h (Nat.not_lt_zero _), fun i _ h => absurd h (Nat.not_lt_zero _)⟩
  | e :: L, f, h => by
    obtain ⟨h1, h2⟩ := List.pairwise_cons.1 h
    by_cases hc : e.f0 < f
    · obtain ⟨q, a, b, c, d⟩ := below_pre f h2
      refine ⟨q + 1, by rw [List.length_cons]; omega, ?_, fun i hi => ?_, fun i hi hl => ?_⟩
      · unfold belowL at b ⊢
        rw [List.filter_cons_of_pos (by simpa using hc), b]; rfl
      · rcases i with _ | i
        · exact hc
        · exact c i (by omega)
      · rcases i with _ | i
        · omega
        · exact d i (by omega) (by rw [List.length_cons] at hl; omega)
    · refine ⟨0, Nat.zero_le _, ?_, fun i hi => absurd hi (Nat.not_lt_zero _), fun i _ hl => ?_⟩
      · show belowL (e :: L) f = []
        unfold belowL
        rw [List.filter_eq_nil_iff]
        intro x hx
        rcases List.mem_cons.1 hx with h3 | h3
        · subst h3; simpa using hc
        · have := h1 x h3
          simp; omega
      · rcases i with _ | i
        · exact hc
        · rw [List.length_cons] at hl
          have h4 : el (e :: L) (i + 1) = L[i] := by rw [el_get (by rw [List.length_cons]; exact hl)]; rfl
          have := h1 L[i] (List.getElem_mem _)
          rw [h4]; omega
theorem el_pre {a b : List Ent} {i : Nat} (h : i < a.length) : el (a ++ b) i = el a i := by
  rw [el_get (by rw [List.length_append]; omega), el_get h, List.getElem_append_left]
theorem el_tk {a : List Ent} {i n : Nat} (h : i < n) (h2 : n ≤ a.length) : el (a.take n) i = el a i := by
  rw [el_get (by rw [List.length_take]; omega), el_get (by omega), List.getElem_take]
/-- a list that is appended to a beginning: rising -/
theorem app_isG {L : List Ent} {id f : Int} {N : Nat} (h : AppOk L) (hi : 0 ≤ id ∧ id < 256) (h1 : 1 ≤ f) (h2 : f ≤ 256) (hN : N ≤ 6) : isG false ⟨id, 1, 0, 0, 0, 0, belowL L f ++ appF f N⟩ = true := by
  refine good_isG ⟨fun e he => ?_, ?_⟩ (hd_mk ⟨hi.1, by omega, by decide, by decide, by decide, by decide⟩ isH_0)
  · rcases List.mem_append.1 he with h3 | h3
    · exact h.good.1 e (List.mem_filter.1 h3).1
    · unfold appF at h3
      obtain ⟨k, hk, rfl⟩ := List.mem_map.1 h3
      have hk := List.mem_range.1 hk
      exact ⟨isE_F h1 (by omega) (by omega), by show 1 ≤ f + (k : Int); omega⟩
  · refine List.pairwise_append.2 ⟨h.1.filter _, ?_, fun a ha b hb => ?_⟩
    · unfold appF
      refine List.pairwise_map.2 (List.pairwise_lt_range.imp ?_)
      intro a b hab
      show f + (a : Int) < f + (b : Int)
      omega
    · have h3 := of_decide_eq_true (List.mem_filter.1 ha).2
      unfold appF at hb
      obtain ⟨k, _, rfl⟩ := List.mem_map.1 hb
      show a.f0 < f + (k : Int)
      omega
end Go.Proofs.Ytfnflbclhaeedaa.Sp
