/- A group without holes stays one, whatever is done: plain. -/
import Derived.Test.YtlfdmlacadoolaaSameQ
set_option linter.unusedVariables false
set_option linter.unusedSimpArgs false
namespace Go.Proofs.Ytlfdmlacadoolaa.Sp
open Go Go.RowKit Go.Proofs.Ytlfdmlacadoolaa.A Go.Proofs.YtlfdmlacadoolaaW.PrintWords Go.Proofs.YtlfdmlacadoolaaW.PrintLast Go.Proofs.YtlfdmlacadoolaaW.PrintMore
theorem isG_mk {g : Grp} (h1 : headG g = true) (h2 : ∀ i, i < g.l.length → isE (el g.l i) = true ∧ (el g.l i).f0 = g.fi + i) : isG true g = true := by
  unfold isG
  rw [h1, Bool.true_and]
  refine List.all_eq_true.2 (fun i hi => ?_)
  have hi := List.mem_range.1 hi
  have h3 := h2 i hi
  have h4 : nxt g.fi g.l i = g.fi + i := by
    unfold nxt
    split
    · next h => subst h; simp
    · next h => rw [(h2 (i - 1) (by omega)).2]; omega
  unfold okG
  rw [h3.1, h3.2, h4, decide_eq_true (Int.le_refl _), decide_eq_true rfl]; rfl
theorem isG_head {d : Bool} {g : Grp} (h : isG d g = true) : headG g = true := by
  unfold isG at h
  rw [Bool.and_eq_true] at h
  exact h.1
theorem head_mk {id fi tm ht hv hc id' fi' tm' ht' hv' hc' : Int} {l l' : List Ent} (h : headG ⟨id, fi, tm, ht, hv, hc, l⟩ = true) (h1 : id' = id) (h2 : 1 ≤ fi' ∧ fi' ≤ 1099511627777) (h3 : 0 ≤ tm' ∧ tm' ≤ 1099511627776) (h4 : isH ht' hv' hc' = true) : headG ⟨id', fi', tm', ht', hv', hc', l'⟩ = true := by
  unfold headG at h ⊢
  rw [Bool.and_eq_true] at h ⊢
  have h5 := of_decide_eq_true h.1
  dsimp only at h5 ⊢
  subst h1
  exact ⟨decide_eq_true ⟨h5.1, h5.2.1, h2.1, h2.2, h3.1, h3.2⟩, h4⟩
theorem head_parts {g : Grp} (h : headG g = true) : (0 ≤ g.tm ∧ g.tm ≤ 1099511627776) ∧ isH g.ht g.hv g.hc = true := by
  unfold headG at h
  rw [Bool.and_eq_true] at h
  have h5 := of_decide_eq_true h.1
  exact ⟨h5.2.2.2.2, h.2⟩
theorem dense_len {g : Grp} (h : isG true g = true) : g.fi + g.l.length ≤ 1099511627777 := by
  have hf := isG_fi h
  rcases Nat.eq_zero_or_pos g.l.length with h0 | h0
  · rw [h0]; simp; omega
  · have h1 := dense_el h (g.l.length - 1) (by omega)
    have h2 := isE_le (isG_isE h (e := el g.l (g.l.length - 1)) (by rw [el_get (by omega)]; exact List.getElem_mem _))
    omega
theorem below_take {g : Grp} (h : isG true g = true) {x : Int} (hx : g.fi ≤ x) : belowL g.l x = g.l.take (x - g.fi).toNat := by
  rw [← w6_below (fun e he => isG_mem_ge h he), dense_cut h (Int.le_refl _) hx, Int.sub_self]
  simp
theorem from_drop {g : Grp} (h : isG true g = true) {x : Int} (hx : g.fi ≤ x) (hx2 : x ≤ 1099511627777) : fromL g.l x = g.l.drop (x - g.fi).toNat := by
  have h1 := dense_len h
  rw [← w6_from (fun e he => isG_isE h he), dense_cut h hx hx2]
  refine List.take_of_length_le ?_
  rw [List.length_drop]
  omega
theorem ris_el {l : List Ent} (h : risB true l = true) : ∀ j, j < l.length → (el l j).f0 = (el l 0).f0 + j ∧ isE (el l j) = true
  | 0, hj => by
    unfold risB at h
    rw [Bool.and_eq_true] at h
    have h2 := List.all_eq_true.1 h.1 0 (List.mem_range.2 hj)
    unfold okR at h2
    rw [Bool.and_eq_true] at h2
    exact ⟨by simp, h2.1⟩
  | j + 1, hj => by
    have h0 := ris_el h j (by omega)
    unfold risB at h
    rw [Bool.and_eq_true] at h
    have h2 := List.all_eq_true.1 h.1 (j + 1) (List.mem_range.2 hj)
    unfold okR at h2
    simp only [Bool.and_eq_true, Bool.or_eq_true, decide_eq_true_eq, Nat.add_sub_cancel, Bool.not_true, Bool.false_or] at h2
    refine ⟨?_, h2.1⟩
    rcases h2.2 with h3 | h3
    · omega
    · rw [h3.2, h0.1]; omega
theorem p1_ris {p : Prt} (h : isP p = true) (hk : p.k = 1) : risB true p.l = true := by
  unfold isP at h
  rw [Bool.and_eq_true] at h
  obtain ⟨_, h⟩ := h
  rw [if_pos hk] at h
  simp only [Bool.and_eq_true] at h
  exact h.2.2.2
theorem p_hard {p : Prt} (h : isP p = true) (hk : p.k = 2) : isH p.ht p.hv p.hc = true := by
  unfold isP at h
  rw [Bool.and_eq_true] at h
  obtain ⟨_, h⟩ := h
  rw [if_neg (by omega), if_pos hk] at h
  simp only [Bool.and_eq_true] at h
  exact h.2.2
theorem p_term {p : Prt} (h : isP p = true) (hk : p.k = 4) : 1 ≤ p.tm ∧ p.tm ≤ 1099511627776 := by
  unfold isP at h
  rw [Bool.and_eq_true] at h
  obtain ⟨_, h⟩ := h
  rw [if_neg (by omega), if_neg (by omega), if_neg (by omega), if_pos hk] at h
  simp only [Bool.and_eq_true] at h
  have := of_decide_eq_true h.2.2
  omega
/-- an append that may be done: where its first entry stands -/
theorem app_at {g : Grp} {p : Prt} (hD : isG true g = true) (hc : chkG g p = 0) (hk : p.k = 1) : g.fi ≤ (el p.l 0).f0 ∧ (el p.l 0).f0 ≤ g.fi + g.l.length ∧ 0 < p.l.length ∧ (el p.l 0).f0 + p.l.length ≤ 1099511627777 := by
  obtain ⟨h1, _, _, _, h2⟩ := chk6_ok hc
  have hne := prt_ne h1 hk
  have hr := ris_el (p1_ris h1 hk)
  have hE := isE_le (hr 0 hne).2
  have hl := isE_le (hr (p.l.length - 1) (by omega)).2
  rw [(hr (p.l.length - 1) (by omega)).1] at hl
  unfold chkK at h2
  rw [if_pos hk, dense_last hD] at h2
  have hw : wrap64 ((el p.l 0).f0 - 1) = (el p.l 0).f0 - 1 := by unfold wrap64; omega
  rw [hw] at h2
  split at h2
  · cases h2
  · split at h2
    · cases h2
    · omega
theorem el_app {a b : List Ent} {i : Nat} (h : i < (a ++ b).length) : el (a ++ b) i = if i < a.length then el a i else el b (i - a.length) := by
  rw [List.length_append] at h
  unfold el
  rw [List.getD_eq_getElem?_getD, List.getElem?_append]
  split
  · rw [List.getD_eq_getElem?_getD]
  · rw [List.getD_eq_getElem?_getD]
theorem el_take {l : List Ent} {n i : Nat} (h : i < n) : el (l.take n) i = el l i := by
  unfold el
  rw [List.getD_eq_getElem?_getD, List.getD_eq_getElem?_getD, List.getElem?_take, if_pos h]
theorem el_drop {l : List Ent} {n i : Nat} : el (l.drop n) i = el l (n + i) := by
  unfold el
  rw [List.getD_eq_getElem?_getD, List.getD_eq_getElem?_getD, List.getElem?_drop]
/-- what an append makes -/
theorem app_list {g : Grp} {p : Prt} (hD : isG true g = true) (hc : chkG g p = 0) (hk : p.k = 1) : dwG g p = ⟨g.id, g.fi, g.tm, g.ht, g.hv, g.hc, g.l.take ((el p.l 0).f0 - g.fi).toNat ++ p.l⟩ := by
  have h1 := app_at hD hc hk
  rw [dw_do hD, if_pos hc]
  unfold doRG
  rw [if_pos hk, below_take hD h1.1]
theorem drop_list {g : Grp} (hD : isG true g = true) {x : Int} (hx : g.fi ≤ x) (hx2 : x ≤ 1099511627777) {fi' tm : Int} (hf : fi' = x) (ht : 0 ≤ tm ∧ tm ≤ 1099511627776) : isG true ⟨g.id, fi', tm, g.ht, g.hv, g.hc, fromL g.l x⟩ = true := by
  subst hf
  have hfi := isG_fi hD
  rw [from_drop hD hx hx2]
  refine isG_mk (head_mk (isG_head hD) rfl ⟨by omega, hx2⟩ ht (head_parts (isG_head hD)).2) (fun i hi => ?_)
  dsimp only at hi ⊢
  rw [List.length_drop] at hi
  rw [el_drop]
  refine ⟨isG_isE hD (by rw [el_get (by omega)]; exact List.getElem_mem _), ?_⟩
  rw [dense_el hD _ (by omega)]
  omega
/-- whatever is done, a group without holes stays one -/
theorem do_dense {g : Grp} (hD : isG true g = true) (p : Prt) : isG true (dwG g p) = true := by
  by_cases hc : chkG g p = 0
  · obtain ⟨h1, n6, n5, h2, hk⟩ := chk6_ok hc
    have hH := head_parts (isG_head hD)
    have hfi := isG_fi hD
    rcases prt_kind h1 with k | k | k | k | k | k
    · have h3 := app_at hD hc k
      have hr := ris_el (p1_ris h1 k)
      rw [app_list hD hc k]
      refine isG_mk (head_mk (isG_head hD) rfl hfi hH.1 hH.2) (fun i hi => ?_)
      dsimp only at hi ⊢
      rw [el_app hi]
      rw [List.length_append, List.length_take] at hi
      rw [List.length_take]
      split
      · next h4 =>
        rw [el_take (by omega)]
        exact ⟨isG_isE hD (by rw [el_get (by omega)]; exact List.getElem_mem _), dense_el hD i (by omega)⟩
      · next h4 =>
        have h5 := hr (i - min ((el p.l 0).f0 - g.fi).toNat g.l.length) (by omega)
        refine ⟨h5.2, ?_⟩
        rw [h5.1]; omega
    · rw [dw_do hD, if_pos hc]
      unfold doRG
      rw [if_neg (by omega), if_pos k]
      refine isG_mk (head_mk (isG_head hD) rfl hfi hH.1 (p_hard h1 k)) (fun i hi => ?_)
      exact ⟨isG_isE hD (by rw [el_get hi]; exact List.getElem_mem _), dense_el hD i hi⟩
    · have hx := prt_ix h1 (.inl k)
      rw [dw_do hD, if_pos hc]
      unfold doRG
      rw [if_neg (by omega), if_neg (by omega), if_pos k]
      unfold chkK at hk
      rw [if_neg (by omega), if_pos k] at hk
      split at hk
      · cases hk
      · next h3 =>
        split at hk
        · cases hk
        · next h4 =>
          have h5 := dense_at hD (show g.fi ≤ p.ix by omega) h4
          have h6 := dense_last hD
          have h7 : isE (el g.l (p.ix - g.fi).toNat) = true := isG_isE hD (by rw [el_get (by omega)]; exact List.getElem_mem _)
          unfold isE at h7
          have h8 := of_decide_eq_true h7
          exact drop_list hD (by omega) (by omega) rfl (by rw [h5.2]; omega)
    · have hx := prt_ix h1 (.inr (.inl k))
      have ht := p_term h1 k
      rw [dw_do hD, if_pos hc]
      unfold doRG
      rw [if_neg (by omega), if_neg (by omega), if_neg (by omega), if_pos k]
      unfold chkK at hk
      rw [if_neg (by omega), if_neg (by omega), if_pos k] at hk
      split at hk
      · cases hk
      · next h3 =>
        split
        · exact drop_list hD (by omega) (by omega) rfl (by omega)
        · refine isG_mk (head_mk (isG_head hD) rfl ⟨by omega, by omega⟩ (by omega) hH.2) (fun i hi => ?_)
          exact absurd hi (Nat.not_lt_zero _)
    · exact absurd k n5
    · exact absurd k n6
  · rw [dw_do hD, if_neg hc]; exact hD
/-- what is read of a group to which was appended -/
theorem app_reads {g : Grp} {p : Prt} (hD : isG true g = true) (hc : chkG g p = 0) (hk : p.k = 1) : ∃ (M : List Ent) (v : Int), lastG (dwG g p) = v ∧ v = (el p.l 0).f0 + p.l.length - 1 ∧ ents (dwG g p) (el p.l 0).f0 (v + 1) = (p.l, 0) ∧ ents (dwG g p) (dwG g p).fi (el p.l 0).f0 = (M, 0) ∧ ents g g.fi (el p.l 0).f0 = (M, 0) := by
  have h1 := app_at hD hc hk
  have h2 := do_dense hD p
  have h3 := app_list hD hc hk
  have h4 := dense_last h2
  have h5 := dense_last hD
  have hlen : (dwG g p).l.length = ((el p.l 0).f0 - g.fi).toNat + p.l.length := by rw [h3]; dsimp only; rw [List.length_append, List.length_take]; omega
  have hfi : (dwG g p).fi = g.fi := by rw [h3]
  have hl : (dwG g p).l = g.l.take ((el p.l 0).f0 - g.fi).toNat ++ p.l := by rw [h3]
  have htk : (g.l.take ((el p.l 0).f0 - g.fi).toNat).length = ((el p.l 0).f0 - g.fi).toNat := by rw [List.length_take]; omega
  refine ⟨g.l.take ((el p.l 0).f0 - g.fi).toNat, lastG (dwG g p), rfl, by omega, ?_, ?_, ?_⟩
  · unfold ents
    rw [if_neg (by omega), if_neg (by omega), if_neg (by omega), dense_cut h2 (by omega) (by omega), hfi, hl, List.drop_left' htk, List.take_of_length_le (by omega)]
  · unfold ents
    rw [if_neg (by omega), if_neg (by omega), if_neg (by omega), dense_cut h2 (by omega) (by omega), hfi, hl, Int.sub_self, show (0 : Int).toNat = 0 from rfl, Nat.sub_zero, List.drop_zero, List.take_left' htk]
  · unfold ents
    rw [if_neg (by omega), if_neg (by omega), if_neg (by omega), dense_cut hD (by omega) (by omega), Int.sub_self, show (0 : Int).toNat = 0 from rfl, Nat.sub_zero, List.drop_zero]
end Go.Proofs.Ytlfdmlacadoolaa.Sp
