/- What SparseForward needs: a group written anew in parts, in plain Lean. -/
import Derived.Test.YtfnflbclhaeedaaOrdQ
set_option linter.unusedVariables false
set_option linter.unusedSimpArgs false
namespace Go.Proofs.Ytfnflbclhaeedaa.Sp
open Go Go.RowKit Go.Shelf Go.Proofs.Ytfnflbclhaeedaa.A Go.Proofs.Ytfnflbclhaeedaa.Seq Go.Proofs.YtfnflbclhaeedaaW.PrintWords Go.Proofs.YtfnflbclhaeedaaW.PrintLast Go.Proofs.YtfnflbclhaeedaaW.PrintMore
theorem from_all' {l : List Ent} {x : Int} (h : ∀ i, i < l.length → x ≤ (el l i).f0) : fromL l x = l := by
  unfold fromL
  rw [List.filter_eq_self]
  intro e he
  obtain ⟨i, hi, rfl⟩ := List.mem_iff_getElem.1 he
  have := h i hi
  rw [el_get hi] at this
  exact decide_eq_true this
/-- rising lists with the same entries are one -/
theorem sorted_ext : ∀ {a b : List Ent}, a.Pairwise (fun x y => x.f0 < y.f0) → b.Pairwise (fun x y => x.f0 < y.f0) → (∀ e, e ∈ a ↔ e ∈ b) → a = b
  | [], [], _, _, _ => rfl
  | [], e :: b, _, _, h => absurd ((h e).2 (List.mem_cons_self ..)) (by simp)
  | e :: a, [], _, _, h => absurd ((h e).1 (List.mem_cons_self ..)) (by simp)
  | x :: a, y :: b, h1, h2, h => by
    obtain ⟨p1, q1⟩ := List.pairwise_cons.1 h1
    obtain ⟨p2, q2⟩ := List.pairwise_cons.1 h2
    have hxy : x = y := by
      rcases List.mem_cons.1 ((h x).1 (List.mem_cons_self ..)) with e1 | e1
      · exact e1
      · rcases List.mem_cons.1 ((h y).2 (List.mem_cons_self ..)) with e2 | e2
        · exact e2.symm
        · have := p2 x e1
          have := p1 y e2
          omega
    subst hxy
    congr 1
    refine sorted_ext q1 q2 (fun e => ⟨fun he => ?_, fun he => ?_⟩)
    · rcases List.mem_cons.1 ((h e).1 (List.mem_cons_of_mem _ he)) with e1 | e1
      · subst e1; have := p1 e he; omega
      · exact e1
    · rcases List.mem_cons.1 ((h e).2 (List.mem_cons_of_mem _ he)) with e1 | e1
      · subst e1; have := p2 e he; omega
      · exact e1
theorem sorted_uniq {M : List Ent} (hM : M.Pairwise (fun x y => x.f0 < y.f0)) {a b : Ent} (ha : a ∈ M) (hb : b ∈ M) (h : a.f0 = b.f0) : a = b := by
  obtain ⟨i, hi, rfl⟩ := List.mem_iff_getElem.1 ha
  obtain ⟨j, hj, rfl⟩ := List.mem_iff_getElem.1 hb
  rcases Nat.lt_trichotomy i j with h1 | h1 | h1
  · have := List.pairwise_iff_getElem.1 hM i j hi hj h1; omega
  · subst h1; rfl
  · have := List.pairwise_iff_getElem.1 hM j i hj hi h1; omega
/-- some of the entries of a list, rising -/
def FwS (M S : List Ent) : Prop := S.Pairwise (fun x y => x.f0 < y.f0) ∧ ∀ x ∈ S, x ∈ M
theorem FwS.nil (M : List Ent) : FwS M [] := ⟨List.Pairwise.nil, fun x h => by cases h⟩
theorem FwS.good {fi : Int} {M S : List Ent} (h : FwS M S) (hM : GoodL fi M) : GoodL fi S := ⟨fun e he => hM.1 e (h.2 e he), h.1⟩
theorem FwS.all {M S : List Ent} (h : FwS M S) (hM : M.Pairwise (fun x y => x.f0 < y.f0)) (ha : ∀ x ∈ M, x ∈ S) : S = M := sorted_ext h.1 hM (fun e => ⟨h.2 e, ha e⟩)
theorem step_mem2 {fi : Int} {M L : List Ent} (hM : M.Pairwise (fun x y => x.f0 < y.f0)) (hL : ∀ x ∈ L, x ∈ M) {e : Ent} (he : e ∈ M) (hf : fi ≤ e.f0) (x : Ent) : x ∈ stepE fi L e ↔ x ∈ L ∨ x = e := by
  unfold stepE
  split
  · next hc =>
    rcases hc with hc | hc
    · omega
    · refine ⟨.inl, fun h3 => h3.elim id (fun h3 => ?_)⟩
      have h4 := at_some hc
      have h5 : el L (atL L e.f0).toNat ∈ L := by rw [el_get h4.1]; exact List.getElem_mem h4.1
      have h7 := at_idx hc
      rw [h3, ← sorted_uniq hM (hL _ h5) he h7]; exact h5
  · unfold belowL fromL
    simp only [List.mem_append, List.mem_singleton, List.mem_filter, decide_eq_true_eq]
    constructor
    · rintro ((h3 | h3) | h3)
      · exact .inl h3.1
      · exact .inr h3
      · exact .inl h3.1
    · rintro (h3 | h3)
      · by_cases h4 : x.f0 < e.f0
        · exact .inl (.inl ⟨h3, h4⟩)
        · exact .inr ⟨h3, by omega⟩
      · exact .inl (.inr h3)
theorem fill_mem {fi : Int} {M : List Ent} (hM : GoodL fi M) : ∀ (es L : List Ent), FwS M L → (∀ x ∈ es, x ∈ M) → FwS M (fillL fi L es) ∧ ∀ x, x ∈ fillL fi L es ↔ x ∈ L ∨ x ∈ es
  | [], L, h, _ => ⟨h, fun x => ⟨.inl, fun h => h.elim id (fun h => by cases h)⟩⟩
  | e :: es, L, h, he => by
    have he1 := he e (List.mem_cons_self ..)
    have hm := step_mem2 (fi := fi) hM.2 h.2 he1 (hM.1 e he1).2
    have h2 : FwS M (stepE fi L e) := ⟨((h.good hM).step (hM.1 e he1).1).2, fun x hx => by rcases (hm x).1 hx with h3 | h3; exact h.2 x h3; rw [h3]; exact he1⟩
    have h3 := fill_mem hM es (stepE fi L e) h2 (fun x hx => he x (List.mem_cons_of_mem _ hx))
    refine ⟨h3.1, fun x => ?_⟩
    show x ∈ fillL fi (stepE fi L e) es ↔ _
    rw [h3.2 x, hm x, List.mem_cons, or_assoc]
theorem good_isG {id fi tm ht hv hc : Int} {S : List Ent} (h : GoodL fi S) (hh : headG ⟨id, fi, tm, ht, hv, hc, S⟩ = true) : isG false ⟨id, fi, tm, ht, hv, hc, S⟩ = true := by
  unfold Sp.isG
  rw [hh, Bool.true_and]
  refine List.all_eq_true.2 (fun i hi => ?_)
  have hi := List.mem_range.1 hi
  dsimp only at hi
  unfold okG
  have he := h.1 S[i] (List.getElem_mem hi)
  rw [el_get hi, he.1, Bool.true_and, Bool.not_false, Bool.true_or, Bool.and_true]
  refine decide_eq_true ?_
  dsimp only
  unfold nxt
  split
  · exact he.2
  · rw [el_get (by omega)]
    have := List.pairwise_iff_getElem.1 h.2 (i - 1) i (by omega) hi (by omega)
    omega
theorem isG_hd {d : Bool} {g : Grp} (h : isG d g = true) : (0 ≤ g.id ∧ g.id ≤ 999 ∧ 1 ≤ g.fi ∧ g.fi ≤ 1099511627777 ∧ 0 ≤ g.tm ∧ g.tm ≤ 1099511627776) ∧ isH g.ht g.hv g.hc = true := by
  unfold Sp.isG headG at h
  rw [Bool.and_eq_true, Bool.and_eq_true] at h
  exact ⟨of_decide_eq_true h.1.1, h.1.2⟩
theorem hd_mk {id fi tm ht hv hc : Int} {l : List Ent} (h : 0 ≤ id ∧ id ≤ 999 ∧ 1 ≤ fi ∧ fi ≤ 1099511627777 ∧ 0 ≤ tm ∧ tm ≤ 1099511627776) (h2 : isH ht hv hc = true) : headG ⟨id, fi, tm, ht, hv, hc, l⟩ = true := by
  unfold headG
  rw [h2, decide_eq_true h]; rfl
theorem isH_0 : isH 0 0 0 = true := by decide
theorem GoodL.one {fi : Int} {l : List Ent} (h : GoodL fi l) (h1 : 1 ≤ fi) : GoodL 1 l := ⟨fun e he => ⟨(h.1 e he).1, by have := (h.1 e he).2; omega⟩, h.2⟩
theorem fw_kind (g : Grp) (p : Prt) (hk : p.k = 6) : looseK g p = fillR g p := by
  unfold looseK
  rw [if_neg (by omega), if_neg (by omega), if_neg (by omega), if_neg (by omega), if_pos hk]
theorem fw_mark {g : Grp} (hD : isG true g = true) (h1 : 1 < g.fi) (ht : g.tm ≠ 0) {S : List Ent} (hS : FwS g.l S) : doG ⟨g.id, 1, 0, 0, 0, 0, S⟩ ⟨g.id, 6, [], 0, 0, 0, g.fi - 1, g.tm, true, false⟩ = ⟨g.id, g.fi, g.tm, 0, 0, 0, S⟩ := by
  have hd := isG_hd hD
  have hg := hS.good (isG_good hD)
  rw [do_loose]
  unfold looseG
  rw [if_pos ⟨good_isG (hg.one hd.1.2.2.1) (hd_mk ⟨hd.1.1, hd.1.2.1, by omega, by omega, by omega, by omega⟩ isH_0), by
    unfold isP risB isM noH noL
    dsimp only
    rw [if_neg (by decide), if_neg (by decide), if_neg (by decide), if_neg (by decide), if_neg (by decide), if_pos rfl, if_pos rfl, decide_eq_true (by omega), decide_eq_true (show (1 ≤ g.fi - 1 ∧ g.fi - 1 ≤ 1099511627776 ∧ (1 : Int) ≤ g.tm ∧ g.tm ≤ 1099511627776) by omega)]
    rfl, rfl⟩, fw_kind _ _ rfl]
  have hc : compP ⟨g.id, 1, 0, 0, 0, 0, S⟩ ⟨g.id, 6, [], 0, 0, 0, g.fi - 1, g.tm, true, false⟩ = ⟨g.id, g.fi, g.tm, 0, 0, 0, S⟩ := by
    unfold compP compG
    dsimp only
    rw [if_pos rfl, if_neg (by omega), if_neg ht, show g.fi - 1 + 1 = g.fi by omega, from_all' (fun i hi => by have := (hg.1 _ (List.getElem_mem hi)).2; rw [el_get hi]; exact this)]
  unfold fillR
  rw [hc]
  rfl
theorem fw_head {g : Grp} (hD : isG true g = true) {S : List Ent} (hS : FwS g.l S) : doG ⟨g.id, g.fi, g.tm, 0, 0, 0, S⟩ ⟨g.id, 6, [], g.ht, g.hv, g.hc, 0, 0, false, true⟩ = ⟨g.id, g.fi, g.tm, g.ht, g.hv, g.hc, S⟩ := by
  have hd := isG_hd hD
  have hg := hS.good (isG_good hD)
  rw [do_loose]
  unfold looseG
  rw [if_pos ⟨good_isG hg (hd_mk hd.1 isH_0), by
    unfold isP risB noM noL
    dsimp only
    rw [if_neg (by decide), if_neg (by decide), if_neg (by decide), if_neg (by decide), if_neg (by decide), if_pos rfl, if_neg (by decide), if_pos rfl, hd.2, decide_eq_true (by omega)]
    rfl, rfl⟩, fw_kind _ _ rfl]
  unfold fillR compP headP
  rfl
theorem fw_chunk {g : Grp} (hD : isG true g = true) {S C : List Ent} (hS : FwS g.l S) (hP : isP ⟨g.id, 6, C, 0, 0, 0, 0, 0, false, false⟩ = true) : doG ⟨g.id, g.fi, g.tm, g.ht, g.hv, g.hc, S⟩ ⟨g.id, 6, C, 0, 0, 0, 0, 0, false, false⟩ = ⟨g.id, g.fi, g.tm, g.ht, g.hv, g.hc, fillL g.fi S C⟩ := by
  have hd := isG_hd hD
  rw [do_loose]
  unfold looseG
  rw [if_pos ⟨good_isG (hS.good (isG_good hD)) (hd_mk hd.1 hd.2), hP, rfl⟩, fw_kind _ _ rfl]
  unfold fillR compP headP
  rfl
theorem sorted_sub : ∀ (M S : List Ent), M.Pairwise (fun x y => x.f0 < y.f0) → S.Pairwise (fun x y => x.f0 < y.f0) → (∀ x ∈ S, x ∈ M) → S.length ≤ M.length
  | _, [], _, _, _ => Nat.zero_le _
  | [], x :: S, _, _, h => absurd (h x (List.mem_cons_self ..)) (by simp)
  | y :: M, x :: S, hM, hS, h => by
    obtain ⟨p1, q1⟩ := List.pairwise_cons.1 hM
    obtain ⟨p2, q2⟩ := List.pairwise_cons.1 hS
    rw [List.length_cons, List.length_cons]
    rcases List.mem_cons.1 (h x (List.mem_cons_self ..)) with e | e
    · subst e
      have := sorted_sub M S q1 q2 (fun z hz => (List.mem_cons.1 (h z (List.mem_cons_of_mem _ hz))).elim (fun h1 => by subst h1; have := p2 z hz; omega) id)
      omega
    · have h1 := p1 x e
      have := sorted_sub M (x :: S) q1 hS (fun z hz => (List.mem_cons.1 (h z hz)).elim (fun h2 => by
        subst h2
        rcases List.mem_cons.1 hz with h3 | h3
        · subst h3; omega
        · have := p2 z h3; omega) id)
      rw [List.length_cons] at this
      omega
theorem FwS.len {M S : List Ent} (h : FwS M S) (hM : M.Pairwise (fun x y => x.f0 < y.f0)) : S.length ≤ M.length := sorted_sub M S hM h.1 h.2
/-- the next entry is put behind those of before -/
theorem FwS.put {M S : List Ent} {k : Nat} (hM : M.Pairwise (fun x y => x.f0 < y.f0)) (h : FwS M S) (hk : k < M.length) (hb : ∀ x ∈ S, x.f0 < (el M k).f0) : FwS M (S ++ [el M k]) := by
  refine ⟨List.pairwise_append.2 ⟨h.1, List.pairwise_singleton _ _, fun a ha b hb2 => by rw [List.mem_singleton.1 hb2]; exact hb a ha⟩, fun x hx => ?_⟩
  rcases List.mem_append.1 hx with h1 | h1
  · exact h.2 x h1
  · rw [List.mem_singleton.1 h1, el_get hk]; exact List.getElem_mem hk
theorem sorted_el {M : List Ent} (hM : M.Pairwise (fun x y => x.f0 < y.f0)) {i j : Nat} (h : i < j) (hj : j < M.length) : (el M i).f0 < (el M j).f0 := by
  rw [el_get hj, el_get (by omega)]
  exact List.pairwise_iff_getElem.1 hM i j (by omega) hj h
theorem Rd.sub {w : World} {A : Option Addr} {c : Nat} {l : List Ent} (h : Rd w A c l) (lo hi : Nat) (h1 : lo ≤ hi) (h2 : hi ≤ l.length) : Rd w (if c = lo then A else A.map (·.add (lo * 3))) (c - lo) ((l.drop lo).take (hi - lo)) := by
  have hlen : ((l.drop lo).take (hi - lo)).length = hi - lo := by rw [List.length_take, List.length_drop]; omega
  refine ⟨⟨rfl, by rw [hlen]; have := h.bd; omega, fun h0 => ?_⟩, by rw [hlen]; have := h.le; omega, by rw [hlen]; have := h.bd; omega⟩
  rw [hlen] at h0
  obtain ⟨_, _, h3⟩ := h.rd
  obtain ⟨ad, hA, h3⟩ := h3 (by omega)
  rw [if_neg (by have := h.le; omega), hA]
  refine ⟨ad.add (lo * 3), rfl, fun j p hp => ?_⟩
  rw [List.getElem?_take] at hp
  split at hp
  · next hj =>
    rw [List.getElem?_drop] at hp
    obtain ⟨cs, hc1, hc2, hc3⟩ := h3 (lo + j) p hp
    refine ⟨cs, hc1, hc2, fun i u hu => ?_⟩
    have h4 := hc3 i u hu
    have h5 : (ad.add (lo * 3)).add (j * 3 + i) = ad.add ((lo + j) * 3 + i) := by
      rw [Addr.add_add, show lo * 3 + (j * 3 + i) = (lo + j) * 3 + i by rw [Nat.add_mul]; omega]
    exact (congrArg w.cell? h5).trans h4
  · cases hp
/-- an entry's cells at a place -/
def CelE (e : Ent) (b : Addr) (w : World) : Prop := w.cell? b = some (.int .i64 e.f0) ∧ w.cell? ⟨b.block, b.off + 1, none⟩ = some (.int .i64 e.f1) ∧ w.cell? ⟨b.block, b.off + 2, none⟩ = some (.string e.f2)
theorem CelE.below {e : Ent} {b : Addr} {w w' : World} (h : CelE e b w) (hb : Below w.heap.size w w') : CelE e b w' := by
  obtain ⟨h0, h1, h2⟩ := h
  have k : ∀ {a : Addr} {v : Value}, w.cell? a = some v → w'.cell? a = some v := fun h => (hb.cell (World.block_lt_of_cell? _ _ h)).trans h
  exact ⟨k h0, k h1, k h2⟩
theorem Rd.cel {w : World} {A : Option Addr} {c : Nat} {l : List Ent} (h : Rd w A c l) {i : Nat} (hi : i < l.length) : ∃ ad, A = some ad ∧ CelE (el l i) (ad.add (i * 3)) w := by
  obtain ⟨ad, e, h0, h1, h2⟩ := h.at_ hi
  exact ⟨ad, e, h0, h1, h2⟩
end Go.Proofs.Ytfnflbclhaeedaa.Sp
