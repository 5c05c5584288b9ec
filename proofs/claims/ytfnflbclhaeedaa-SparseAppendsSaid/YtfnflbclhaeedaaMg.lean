/- The walk of the reference's compact. -/
/- Plain: of a group that is one, gone and the reference's compact are the same; what lies below and from an index. -/
/- Plain: what is written anew: one entry, many; what stays true of it. -/
/- The walk of sparse.forward. -/
import Derived.Test.YtfnflbclhaeedaaMf
import Derived.BigRegion
import Derived.Test.YtfnflbclhaeedaaMe
import Derived.Test.YtfnflbclhaeedaaMd
import Derived.Test.YtfnflbclhaeedaaMa
set_option linter.unusedVariables false
set_option linter.unusedSimpArgs false
namespace Go.Proofs.Ytfnflbclhaeedaa.Sp
open Go Go.RowKit Go.Proofs.Ytfnflbclhaeedaa.A Go.Proofs.YtfnflbclhaeedaaW.PrintWords Go.Proofs.YtfnflbclhaeedaaW.PrintLast Go.Proofs.YtfnflbclhaeedaaW.PrintMore
/-- the reference's group of which all is gone up to an index, if it isn't yet -/
def compG (g : Grp) (i t : Int) : Grp := if i < g.fi then g else ⟨g.id, i + 1, if t = 0 then termL g.l i else t, g.ht, g.hv, g.hc, fromL g.l (i + 1)⟩
end Go.Proofs.Ytfnflbclhaeedaa.Sp
namespace Go.Proofs.Ytfnflbclhaeedaa.PartW
open Go Go.RowKit Go.Shelf Go.Proofs.Ytfnflbclhaeedaa.A Go.Proofs.Ytfnflbclhaeedaa.Sp Go.Proofs.Ytfnflbclhaeedaa.Reg Go.Proofs.Ytfnflbclhaeedaa.Seq Go.Proofs.YtfnflbclhaeedaaW.PrintWords Go.Proofs.YtfnflbclhaeedaaW.PrintLast Go.Proofs.YtfnflbclhaeedaaW.PrintMore
set_option maxHeartbeats 4000000 in
set_option maxRecDepth 100000 in
theorem ref_compact (g : Grp) (A : Option Addr) (c : Nat) (i t : Int) (w : World) (h : Rd w A c g.l) (hi0 : 0 ≤ i) (hi1 : i ≤ 1099511627776) :
    Calls Try.prog 35 #[vG g A c, .int .i64 i, .int .i64 t] w (GotG w (compG g i t)) := by
  have HR := Aside0.mk h
  clear h
  unfold vG
  by_cases h1 : i < g.fi
  · have HG : Aside0 (compG g i t = g) := ⟨by unfold compG; rw [if_pos h1]⟩
    go_enter Try.func35, Try.ntmps35
    go_wp2
    refine bodyPost_ret (v := vG g A c) (by simp [results, Try.results35, go_sem, vG]) rfl ⟨A, c, by rw [HG.out], by rw [HG.out]; repeat (first | exact HR.out | apply Rd.alloc), by repeat (first | exact Below.refl _ _ | apply below_alloc | apply pw_below_drewN | apply below_drew1)⟩
  · have HG : Aside0 (compG g i t = ⟨g.id, i + 1, if t = 0 then termL g.l i else t, g.ht, g.hv, g.hc, fromL g.l (i + 1)⟩) := ⟨by unfold compG; rw [if_neg h1]⟩
    have t1 : decide (i < g.fi) = false := decide_eq_false h1
    have hbg := BlkG.new g A c w
    have hbz := BlkG.new ⟨0, 0, 0, 0, 0, 0, []⟩ none 0 (w.alloc (.cells #[.int .i64 g.id, .int .i64 g.fi, .int .i64 g.tm, .int .i64 g.ht, .int .i64 g.hv, .int .i64 g.hc, .slice A g.l.length c] 26))
    rw [World.size_alloc] at hbz
    have HBG := Aside0.mk (hbg.alloc (.cells #[.int .i64 0, .int .i64 0, .int .i64 0, .int .i64 0, .int .i64 0, .int .i64 0, .slice none 0 0] 26))
    have HBZ := Aside0.mk hbz
    clear h1 hbg hbz
    have hbo := BlkG.new ⟨g.id, g.fi, t, g.ht, g.hv, g.hc, g.l⟩ A c ((w.alloc (.cells #[.int .i64 g.id, .int .i64 g.fi, .int .i64 g.tm, .int .i64 g.ht, .int .i64 g.hv, .int .i64 g.hc, .slice A g.l.length c] 26)).alloc (.cells #[.int .i64 0, .int .i64 0, .int .i64 0, .int .i64 0, .int .i64 0, .int .i64 0, .slice none 0 0] 26))
    rw [World.size_alloc, World.size_alloc] at hbo
    have HBO := Aside0.mk hbo
    have HBG2 := Aside0.mk (HBG.out.alloc (.cells #[.int .i64 g.id, .int .i64 g.fi, .int .i64 t, .int .i64 g.ht, .int .i64 g.hv, .int .i64 g.hc, .slice A g.l.length c] 26))
    have HBZ2 := Aside0.mk (HBZ.out.alloc (.cells #[.int .i64 g.id, .int .i64 g.fi, .int .i64 t, .int .i64 g.ht, .int .i64 g.hv, .int .i64 g.hc, .slice A g.l.length c] 26))
    clear HBG HBZ hbo
    obtain ⟨k, hk⟩ : ∃ k, atL g.l i = k := ⟨_, rfl⟩
    have HK := Aside0.mk hk
    by_cases h2 : 0 ≤ k ∧ t = 0
    · obtain ⟨h2, rfl⟩ := h2
      obtain ⟨n, rfl⟩ : ∃ n : Nat, k = n := ⟨k.toNat, by omega⟩
      have h3 := at_some (l := g.l) (i := i) (by omega)
      rw [hk, Int.toNat_natCast] at h3
      obtain ⟨hnl, h3⟩ := h3
      have HT : Aside0 ((if (0 : Int) = 0 then termL g.l i else 0) = termL g.l i) := ⟨if_pos rfl⟩
      obtain ⟨ad, rfl, g0, g1, g2⟩ := HR.out.at_ hnl
      rw [h3] at g1
      have z9 : ((0 : Int) ≤ (n : Int)) = True := eq_true (by omega)
      clear h3
      go_enter Try.func35, Try.ntmps35
      go_wp2_with (first | (go_at_call 20; refine (ref_At g _ c i _ (by repeat (first | exact HR.out | apply Rd.alloc))).mono ?_; rintro e w0 ⟨rfl, hw0⟩; rw [hk]; have HW0 := Aside0.mk hw0; have HG0 := Aside0.mk (HBG2.out.below hw0); have HZ0 := Aside0.mk (HBZ2.out.below hw0); have HO0 := Aside0.mk (HBO.out.below hw0); have HR0 := Aside0.mk ((((HR.out.alloc _).alloc _).alloc _).below hw0); obtain ⟨e0, e1, e2, e3, e4, e5, e6⟩ := HG0.out.box; have hb0 : Below w.heap.size w w0 := ((((Below.refl _ w).alloc (Nat.le_refl _) _).alloc (by simp) _).alloc (by simp; omega) _).trans (hw0.mono (by simp; omega)); have k0 := (hb0.cell (World.block_lt_of_cell? w _ g0)).trans g0; have k1 := (hb0.cell (World.block_lt_of_cell? w _ g1)).trans g1; have ofr := HO0.out.free; obtain ⟨o0, o1, o2, o3, o4, o5, o6⟩ := HO0.out.box; dsimp only at o0 o1 o2 o3 o4 o5 o6; clear hw0))
      go_at_call 34
      have HRS := Aside0.mk (HR0.out.only (U := fun k => k = w.heap.size + 1 + 1) (w' := w0.setCell ⟨w.heap.size + 1 + 1, 2, none⟩ (.int .i64 (termL g.l i))) ((Only.refl (fun k => k = w.heap.size + 1 + 1) w0).setCell (p := ⟨w.heap.size + 1 + 1, 2, none⟩) rfl _) (fun b hb h => by obtain ⟨_, ad', h5, rfl⟩ := hb; have h6 : (ad.add (n * 3)).block < w.heap.size := World.block_lt_of_cell? w (ad.add (n * 3)) g0; replace h6 : ad.block < w.heap.size := (by first | exact h6 | simpa using h6 | simpa [Addr.add] using h6 | (unfold Addr.add at h6; split at h6 <;> exact h6)); have h7 : ad.block = w.heap.size + 1 + 1 := (congrArg Addr.block (Option.some.inj h5)).trans h; omega))
      have HGS := Aside0.mk (HG0.out.setne (o := 2) (B' := w.heap.size + 1 + 1) (by omega) (.int .i64 (termL g.l i)))
      have HZS := Aside0.mk (HZ0.out.setne (o := 2) (B' := w.heap.size + 1 + 1) (by omega) (.int .i64 (termL g.l i)))
      have HOS := Aside0.mk (HO0.out.set2 (termL g.l i))
      refine (ref_from g.l _ c (i + 1) _ HRS.out).mono ?_
      rintro e w1 ⟨A', c', rfl, hrd, hfr, hw1⟩
      have HFR := Aside0.mk hfr
      have HRD := Aside0.mk hrd
      have HW1 := Aside0.mk hw1
      have G1 := HOS.out.below hw1
      have Z1 := HZS.out.below hw1
      clear e0 e1 e2 e3 e4 e5 e6 o0 o1 o2 o3 o4 o5 o6 ofr
      obtain ⟨e0, e1, e2, e3, e4, e5, e6⟩ := G1.box
      obtain ⟨z0, z1, z2, z3, z4, z5, z6⟩ := Z1.box
      have ef := G1.free
      have zf := Z1.free
      clear hrd hfr hw1 G1 Z1
      go_wp2
      all_goals refine bodyPost_ret (v := vG ⟨g.id, i + 1, termL g.l i, g.ht, g.hv, g.hc, fromL g.l (i + 1)⟩ A' c') (by simp [results, Try.results35, go_sem, vG, z0, z1, z2, z3, z4, z5, z6]) rfl ⟨A', c', by rw [HG.out, HT.out], ?_, ?_⟩
      · rw [HG.out]
        refine HRD.out.only (U := fun k => k = w.heap.size + 1 ∨ k = w.heap.size + 1 + 1) ?_ (fun b hb h => by have h1 := HFR.out b hb; have h2 := HW0.out.size; simp at h1 h2; omega)
        iterate 7 refine Only.setCell ?_ (.inl rfl) _
        iterate 2 refine Only.setCell ?_ (.inr rfl) _
        exact Only.refl _ _
      · have hb1 : Below w.heap.size w w0 := ((((Below.refl _ w).alloc (Nat.le_refl _) _).alloc (by simp) _).alloc (by simp; omega) _).trans (HW0.out.mono (by simp; omega))
        have hb2 : Below w.heap.size w w1 := (hb1.setCell (by exact Nat.le_trans (Nat.le_succ _) (Nat.le_succ _)) _).trans (HW1.out.mono (by have h2 := HW0.out.size; simp at h2 ⊢; omega))
        iterate 7 refine Below.setCell ?_ (by exact Nat.le_succ _) _
        iterate 2 refine Below.setCell ?_ (by exact Nat.le_trans (Nat.le_succ _) (Nat.le_succ _)) _
        exact hb2
    · have HT : Aside0 ((if t = 0 then termL g.l i else t) = t) := ⟨by
        by_cases h3 : t = 0
        · rw [if_pos h3, at_none (fun h4 => h2 ⟨by omega, h3⟩), h3]
        · rw [if_neg h3]⟩
      have H2 := Aside0.mk h2
      rw [hk.symm] at *
      clear h2
      go_enter Try.func35, Try.ntmps35
      go_wp2_with (first | (go_at_call 20; refine (ref_At g A c i _ (by repeat (first | exact HR.out | apply Rd.alloc))).mono ?_; rintro e w0 ⟨rfl, hw0⟩; have HW0 := Aside0.mk hw0; have HG0 := Aside0.mk (HBG2.out.below hw0); have HZ0 := Aside0.mk (HBZ2.out.below hw0); have HO0 := Aside0.mk (HBO.out.below hw0); have HR0 := Aside0.mk ((((HR.out.alloc _).alloc _).alloc _).below hw0); obtain ⟨e0, e1, e2, e3, e4, e5, e6⟩ := HG0.out.box; clear hw0) | (go_at_call 34; refine (ref_from g.l A c (i + 1) _ HR0.out).mono ?_; rintro e w1 ⟨A', c', rfl, hrd, hfr, hw1⟩; have HFR := Aside0.mk hfr; have HRD := Aside0.mk hrd; have HW1 := Aside0.mk hw1; have G1 := HO0.out.below hw1; have Z1 := HZ0.out.below hw1; clear e0 e1 e2 e3 e4 e5 e6; obtain ⟨e0, e1, e2, e3, e4, e5, e6⟩ := G1.box; obtain ⟨z0, z1, z2, z3, z4, z5, z6⟩ := Z1.box; have ef := G1.free; have zf := Z1.free; clear hrd hfr hw1 G1 Z1))
      all_goals first
        | (exfalso; exact H2.out ⟨by assumption, beq_iff_eq.1 (by assumption)⟩)
        | skip
      all_goals refine bodyPost_ret (v := vG ⟨g.id, i + 1, t, g.ht, g.hv, g.hc, fromL g.l (i + 1)⟩ A' c') (by simp [results, Try.results35, go_sem, vG, z0, z1, z2, z3, z4, z5, z6]) rfl ⟨A', c', by rw [HG.out, HT.out], ?_, ?_⟩
      all_goals first
        | (rw [HG.out]
           refine HRD.out.only (U := fun k => k = w.heap.size + 1 ∨ k = w.heap.size + 1 + 1) ?_ (fun b hb h => by have h1 := HFR.out b hb; have h2 := HW0.out.size; simp at h2; omega)
           iterate 7 refine Only.setCell ?_ (.inl rfl) _
           iterate 2 refine Only.setCell ?_ (.inr rfl) _
           exact Only.refl _ _)
        | (have hb2 : Below w.heap.size w w1 := (((((Below.refl _ w).alloc (Nat.le_refl _) _).alloc (by simp) _).alloc (by simp; omega) _).trans (HW0.out.mono (by simp; omega))).trans (HW1.out.mono (by have h2 := HW0.out.size; simp at h2; omega))
           iterate 7 refine Below.setCell ?_ (by exact Nat.le_succ _) _
           iterate 2 refine Below.setCell ?_ (Nat.le_trans (Nat.le_succ _) (Nat.le_succ _)) _
           exact hb2)
end Go.Proofs.Ytfnflbclhaeedaa.PartW
namespace Go.Proofs.Ytfnflbclhaeedaa.Sp
open Go Go.RowKit Go.Proofs.Ytfnflbclhaeedaa.A Go.Proofs.YtfnflbclhaeedaaW.PrintWords Go.Proofs.YtfnflbclhaeedaaW.PrintLast Go.Proofs.YtfnflbclhaeedaaW.PrintMore
theorem with_from {l : List Ent} (h : ∀ e ∈ l, isE e = true) (x : Int) : withL l x 1099511627777 = fromL l x := by
  unfold withL fromL
  refine List.filter_congr fun e he => ?_
  have h2 := (isE_le (h e he)).2
  unfold inR
  have h3 : e.f0 < 1099511627777 := by omega
  simp [h3]
theorem gone_comp {d : Bool} {g : Grp} (h : isG d g = true) (i t : Int) : goneG g i t = compG g i t := by
  unfold goneG compG
  rw [with_from (fun e he => isG_isE h he)]
theorem with_below {l : List Ent} {fi : Int} (h : ∀ e ∈ l, fi ≤ e.f0) (x : Int) : withL l fi x = belowL l x := by
  unfold withL belowL
  refine List.filter_congr fun e he => ?_
  unfold inR
  have h2 := h e he
  simp [h2]
end Go.Proofs.Ytfnflbclhaeedaa.Sp
namespace Go.Proofs.Ytfnflbclhaeedaa.Sp
open Go Go.RowKit Go.Proofs.Ytfnflbclhaeedaa.A Go.Proofs.YtfnflbclhaeedaaW.PrintWords Go.Proofs.YtfnflbclhaeedaaW.PrintLast Go.Proofs.YtfnflbclhaeedaaW.PrintMore
/-- one entry is written anew -/
def stepE (fi : Int) (l : List Ent) (e : Ent) : List Ent := if e.f0 < fi ∨ 0 ≤ atL l e.f0 then l else belowL l e.f0 ++ [e] ++ fromL l e.f0
/-- what must be true of a log with holes: entries, from the first index on, rising -/
def GoodL (fi : Int) (l : List Ent) : Prop := (∀ e ∈ l, isE e = true ∧ fi ≤ e.f0) ∧ l.Pairwise (fun a b => a.f0 < b.f0)
theorem GoodL.nil (fi : Int) : GoodL fi [] := ⟨fun e he => (by cases he), List.Pairwise.nil⟩
theorem GoodL.from' {fi : Int} {l : List Ent} (h : GoodL fi l) (x : Int) : GoodL x (fromL l x) := by
  refine ⟨fun e he => ?_, h.2.filter _⟩
  obtain ⟨h1, h2⟩ := List.mem_filter.1 he
  exact ⟨(h.1 e h1).1, of_decide_eq_true h2⟩
theorem GoodL.below {fi : Int} {l : List Ent} (h : GoodL fi l) (x : Int) : GoodL fi (belowL l x) := by
  refine ⟨fun e he => ?_, h.2.filter _⟩
  exact h.1 e (List.mem_filter.1 he).1
theorem at_not {l : List Ent} {i : Int} (h : ¬ 0 ≤ atL l i) : ∀ e ∈ l, e.f0 ≠ i := by
  unfold atL at h
  split at h
  · omega
  · next hk =>
    intro e he
    have := List.findIdx?_eq_none_iff.1 hk e he
    exact of_decide_eq_false this
theorem GoodL.step {fi : Int} {l : List Ent} {e : Ent} (h : GoodL fi l) (he : isE e = true) : GoodL fi (stepE fi l e) := by
  unfold stepE
  by_cases h1 : e.f0 < fi ∨ 0 ≤ atL l e.f0
  · rw [if_pos h1]; exact h
  · rw [if_neg h1]
    have h2 : fi ≤ e.f0 := by omega
    have h3 := at_not (l := l) (i := e.f0) (fun h4 => h1 (.inr h4))
    refine ⟨fun x hx => ?_, ?_⟩
    · rcases List.mem_append.1 hx with h4 | h4
      · rcases List.mem_append.1 h4 with h5 | h5
        · exact h.1 x (List.mem_filter.1 h5).1
        · obtain rfl := List.mem_singleton.1 h5
          exact ⟨he, h2⟩
      · exact h.1 x (List.mem_filter.1 h4).1
    · refine List.pairwise_append.2 ⟨List.pairwise_append.2 ⟨(h.below e.f0).2, List.pairwise_singleton _ _, fun a ha b hb => ?_⟩, (h.from' e.f0).2, fun a ha b hb => ?_⟩
      · obtain rfl := List.mem_singleton.1 hb
        exact of_decide_eq_true (List.mem_filter.1 ha).2
      · obtain ⟨hb1, hb2⟩ := List.mem_filter.1 hb
        have hb3 := of_decide_eq_true hb2
        have hb4 := h3 b hb1
        rcases List.mem_append.1 ha with h5 | h5
        · have := of_decide_eq_true (List.mem_filter.1 h5).2
          omega
        · obtain rfl := List.mem_singleton.1 h5
          omega
theorem step_len (fi : Int) (l : List Ent) (e : Ent) : (stepE fi l e).length ≤ l.length + 1 := by
  unfold stepE
  split
  · omega
  · have h2 : (belowL l e.f0).length + (fromL l e.f0).length = l.length := by
      unfold belowL fromL
      rw [← List.countP_eq_length_filter, ← List.countP_eq_length_filter, List.length_eq_countP_add_countP (fun x : Ent => decide (x.f0 < e.f0)) (l := l)]
      congr 1
      refine List.countP_congr fun x _ => ?_
      simp
    simp only [List.length_append, List.length_cons, List.length_nil]
    omega
/-- many entries are written anew -/
def fillL (fi : Int) (l es : List Ent) : List Ent := es.foldl (stepE fi) l
theorem GoodL.fill {fi : Int} : ∀ {es l : List Ent}, GoodL fi l → (∀ e ∈ es, isE e = true) → GoodL fi (fillL fi l es)
  | [], l, h, _ => h
  | e :: es, l, h, he => by
    have h2 : GoodL fi (stepE fi l e) := h.step (he e (List.mem_cons_self ..))
    exact h2.fill (fun x hx => he x (List.mem_cons_of_mem _ hx))
theorem isG_good {d : Bool} {g : Grp} (h : isG d g = true) : GoodL g.fi g.l := by
  refine ⟨fun e he => ⟨isG_isE h he, isG_mem_ge h he⟩, List.pairwise_iff_getElem.2 fun i j hi hj hij => ?_⟩
  have := isG_lt h i j hij hj
  rwa [el_get hi, el_get hj] at this
/-- the program's writing of one entry is the reference's -/
theorem step_with {fi : Int} {l : List Ent} (h : GoodL fi l) (x : Int) : withL l fi x = belowL l x ∧ withL l x 1099511627777 = fromL l x :=
  ⟨with_below (fun e he => (h.1 e he).2) x, with_from (fun e he => (h.1 e he).1) x⟩
theorem good_comp {g : Grp} (h : GoodL g.fi g.l) (i t : Int) : GoodL (compG g i t).fi (compG g i t).l := by
  unfold compG
  split
  · exact h
  · exact h.from' _
end Go.Proofs.Ytfnflbclhaeedaa.Sp
namespace Go.Proofs.Ytfnflbclhaeedaa.Sp
open Go Go.RowKit Go.Proofs.Ytfnflbclhaeedaa.A Go.Proofs.YtfnflbclhaeedaaW.PrintWords Go.Proofs.YtfnflbclhaeedaaW.PrintLast Go.Proofs.YtfnflbclhaeedaaW.PrintMore
/-- one entry is written anew, in the program's words; many -/
def stepW (fi : Int) (l : List Ent) (e : Ent) : List Ent := if e.f0 < fi ∨ 0 ≤ atL l e.f0 then l else withL l fi e.f0 ++ [e] ++ withL l e.f0 1099511627777
def fillW (fi : Int) (l es : List Ent) : List Ent := es.foldl (stepW fi) l
theorem with_two (fi : Int) (l : List Ent) (x : Int) : (withL l fi x).length + (withL l x 1099511627777).length ≤ l.length := by
  unfold withL
  rw [← List.countP_eq_length_filter, ← List.countP_eq_length_filter]
  induction l with
  | nil => simp
  | cons e l ih =>
    rw [List.countP_cons, List.countP_cons, List.length_cons]
    have : ¬ (inR fi x e = true ∧ inR x 1099511627777 e = true) := by
      unfold inR; simp only [Bool.and_eq_true, decide_eq_true_eq]; omega
    by_cases h1 : inR fi x e = true
    · rw [if_pos h1, if_neg (fun h2 => this ⟨h1, h2⟩)]; omega
    · rw [if_neg h1]; split <;> omega
theorem stepW_len (fi : Int) (l : List Ent) (e : Ent) : (stepW fi l e).length ≤ l.length + 1 := by
  unfold stepW
  have := with_two fi l e.f0
  split
  · omega
  · simp only [List.length_append, List.length_cons, List.length_nil]; omega
theorem fillW_len (fi : Int) : ∀ (es l : List Ent), (fillW fi l es).length ≤ l.length + es.length
  | [], l => by show l.length ≤ _; simp
  | e :: es, l => by
    have h1 := fillW_len fi es (stepW fi l e)
    have h2 := stepW_len fi l e
    show (fillW fi (stepW fi l e) es).length ≤ _
    rw [List.length_cons]; omega
theorem fillW_snoc (fi : Int) (l : List Ent) (es : List Ent) (k : Nat) (hk : k < es.length) : fillW fi l (es.take (k + 1)) = stepW fi (fillW fi l (es.take k)) (el es k) := by
  unfold fillW
  rw [List.take_succ_eq_append_getElem hk, List.foldl_append, el_get hk]; rfl
/-- a part of what goes on, done: its mark, its head, its entries -/
def markG (g : Grp) (p : Prt) : Grp := if p.mrk = true then goneG g p.ix p.tm else g
def headP (g : Grp) (p : Prt) : Grp := if p.hed = true then ⟨g.id, g.fi, g.tm, p.ht, p.hv, p.hc, g.l⟩ else g
def forwardG (g : Grp) (p : Prt) : Grp := ⟨(headP (markG g p) p).id, (headP (markG g p) p).fi, (headP (markG g p) p).tm, (headP (markG g p) p).ht, (headP (markG g p) p).hv, (headP (markG g p) p).hc, fillW (headP (markG g p) p).fi (headP (markG g p) p).l p.l⟩
end Go.Proofs.Ytfnflbclhaeedaa.Sp
namespace Go.Proofs.Ytfnflbclhaeedaa.PartW
open Go Go.RowKit Go.Shelf Go.Proofs.Ytfnflbclhaeedaa.A Go.Proofs.Ytfnflbclhaeedaa.Sp Go.Proofs.Ytfnflbclhaeedaa.Reg Go.Proofs.Ytfnflbclhaeedaa.Seq Go.Proofs.YtfnflbclhaeedaaW.PrintWords Go.Proofs.YtfnflbclhaeedaaW.PrintLast Go.Proofs.YtfnflbclhaeedaaW.PrintMore
attribute [local go_sem] Oper.semAt_some
set_option maxHeartbeats 4000000 in
set_option maxRecDepth 100000 in
theorem forward_tail (w : World) (s : Nat) (hs : w.heap.size = s) (gg : Grp) (A : Option Addr) (c : Nat) (p : Prt) (Ap : Option Addr) (cp : Nat) (W : World) (t0 t1 t5 t6 t7 t8 t9 t10 t11 t12 t13 t14 t15 t16 t17 t18 t19 t20 t21 t22 t23 t24 t25 t26 t27 t28 t29 t30 t31 t32 t33 t34 t35 t36 t37 t38 t39 t40 t41 t42 t43 t44 t45 t46 t47 t48 t49 t50 t51 t52 t53 t54 t55 : Value)
    (hg : BlkG gg A c s W) (hz : BlkG ⟨0, 0, 0, 0, 0, 0, []⟩ none 0 (s + 2) W) (hpc : W.cell? ⟨s + 1, 2, none⟩ = some (.slice Ap p.l.length cp)) (hr : Rd W A c gg.l) (hA : ∀ b, inA A gg.l b → b < s ∨ s + 3 ≤ b)
    (hp : Rd W Ap cp p.l) (hAp : ∀ b, inA Ap p.l b → b < s) (hb : Below s w W) (hsz : s + 3 ≤ W.heap.size) (hl : gg.l.length + p.l.length ≤ 4398046511104)
    (C : Code) (hC : (match Try.f27.body with | some (.seq _ (.seq _ (.seq _ c))) => c | _ => .skip) = C) :
    C.wpIn Fence.wide 0 Try.prog (bodyPostM Fence.wide 0 Try.prog Try.f27 (GotG w ⟨gg.id, gg.fi, gg.tm, gg.ht, gg.hv, gg.hc, fillW gg.fi gg.l p.l⟩)) { tmps := #[t0, t1, .pointer (some ⟨s, 0, none⟩), .pointer (some ⟨s + 1, 0, none⟩), .pointer (some ⟨s + 2, 0, none⟩), t5, t6, t7, t8, t9, t10, t11, t12, t13, t14, t15, t16, t17, t18, t19, t20, t21, t22, t23, t24, t25, t26, t27, t28, t29, t30, t31, t32, t33, t34, t35, t36, t37, t38, t39, t40, t41, t42, t43, t44, t45, t46, t47, t48, t49, t50, t51, t52, t53, t54, t55], defers := [] } W := by
  obtain ⟨n, hn⟩ : ∃ n, W.heap.size = n := ⟨_, rfl⟩
  have hsl := Boxed.new W 24 (.slice Ap p.l.length cp)
  have hsz2 : (W.alloc (.cells #[.slice Ap p.l.length cp] 24)).heap.size = n + 1 := by simp [hn]
  have hg2 := hg.alloc (.cells #[.slice Ap p.l.length cp] 24)
  have hz2 := hz.alloc (.cells #[.slice Ap p.l.length cp] 24)
  have hr2 := hr.alloc (.cells #[.slice Ap p.l.length cp] 24)
  have hp2 := hp.alloc (.cells #[.slice Ap p.l.length cp] 24)
  have hb2 := hb.alloc (by have := hb.size; omega) (.cells #[.slice Ap p.l.length cp] 24)
  have hA2 : ∀ b, inA A gg.l b → b < s ∨ s + 3 ≤ b ∧ b < n := fun b h => by have := hA b h; have := hr.lt h; omega
  rw [hn] at hsl
  clear hg hz hr hp hb hA
  simp only [Try.f27] at hC
  subst hC
  gi_wp2_with (refine ⟨trivial, rfl, ?_⟩; gi_at_call 28; refine (values_calls _ _ _ _).mono ?_; rintro e w' ⟨rfl, rfl⟩)
  clear hpc
  generalize W.alloc (.cells #[.slice Ap p.l.length cp] 24) = W1 at hsl hsz2 hg2 hz2 hr2 hp2 hb2 ⊢
  have hit := values_iter n Ap cp p.l W1 hsl hp2
  refine range_outer2 (gf := 53) (lb := #[.pointer (some ⟨n, 0, none⟩)]) rfl (enters_of Try.func53 (by kernel_rfl) rfl) hit (fun q h => h.elim) (fun q h => by rcases h with rfl | h; omega; have := hAp q h; omega) (fun _ => rfl)
    (fun k W => ∃ A' c', BlkG ⟨gg.id, gg.fi, gg.tm, gg.ht, gg.hv, gg.hc, fillW gg.fi gg.l (p.l.take k)⟩ A' c' s W ∧ Rd W A' c' (fillW gg.fi gg.l (p.l.take k)) ∧ (∀ b, inA A' (fillW gg.fi gg.l (p.l.take k)) b → b < s ∨ s + 3 ≤ b ∧ b < n ∨ n + 3 ≤ b) ∧ BlkG ⟨0, 0, 0, 0, 0, 0, []⟩ none 0 (s + 2) W ∧ Below s w W)
    (fun _ _ _ => False) ?hI (fun _ _ _ _ h _ => h) ?h0
    (fun x a' W => ∃ Bx, n + 2 < Bx ∧ BoxE x Bx W ∧ a' = { tmps := #[t0, t1, .pointer (some ⟨s, 0, none⟩), .pointer (some ⟨s + 1, 0, none⟩), .pointer (some ⟨s + 2, 0, none⟩), .pointer (some ⟨Bx, 0, none⟩), t6, t7, t8, t9, t10, t11, t12, t13, t14, t15, t16, t17, t18, t19, t20, .pointer (some ⟨s + 1, 2, none⟩), .slice Ap p.l.length cp, .func (.func 53) #[] #[.pointer (some ⟨n, 0, none⟩)], .agg #[.int .i64 x.f0, .int .i64 x.f1, .string x.f2], t25, t26, t27, t28, t29, t30, t31, t32, t33, t34, t35, t36, t37, t38, t39, t40, t41, t42, t43, t44, t45, t46, t47, t48, t49, t50, t51, t52, t53, t54, t55], defers := [] })
    ?hAx ?assign ?body ?done ?stop
  case hI =>
    rintro j X Y ⟨A', c', h1, h2, h3, h4, h5⟩ ho
    rw [hsz2] at ho
    have hU : ∀ q, q ≤ n → ¬ (False ∨ q = n + 1 ∨ q = n + 1 + 1) := fun q hq h => by rcases h with h | h | h; exact h; all_goals omega
    exact ⟨A', c', (ho.block _ (Array.getElem?_eq_some_iff.1 h1).1 (hU _ (by omega))).trans h1, h2.only ho (fun q hq h => by have := h3 q hq; rcases h with h | h | h; exact h.elim; all_goals omega), h3, (ho.block _ (Array.getElem?_eq_some_iff.1 h4).1 (hU _ (by omega))).trans h4, below_only h5 ho (by have := h5.size; omega) (fun q hq => hU q (by omega))⟩
  case h0 => exact ⟨A, c, hg2, hr2, fun q hq => by have := hA2 q hq; omega, hz2, hb2⟩
  case hAx =>
    rintro x a' X Y ⟨Bx, h1, h2, h3⟩ ho
    rw [hsz2] at ho
    exact ⟨Bx, h1, h2.only ho (by intro h; rcases h with h | h | h; exact False.elim h; all_goals omega), h3⟩
  case assign =>
    rintro l j x W' K hx ⟨A', c', h1, h2, h3, h4, h5⟩ hsz' hK
    rw [hsz2] at hsz'
    gi_wp2
    exact hK _ _ (Keeps.alloc _ _ _) ⟨A', c', h1.alloc _, h2.alloc _, h3, h4.alloc _, h5.alloc (by have := h5.size; omega) _⟩ ⟨W'.heap.size, by omega, BoxE.new x W', rfl⟩
  case body =>
    rintro l k x a' W hx rfl ⟨r, hrr⟩ ⟨A', c', h1, h2, h3, h4, h5⟩ ⟨Bx, hBx, hbx, rfl⟩
    have hk : k < p.l.length := (List.getElem?_eq_some_iff.1 hx).1
    obtain rfl : el p.l k = x := by rw [el_some hk] at hx; exact Option.some.inj hx
    have hsn := fillW_snoc gg.fi gg.l p.l k hk
    obtain ⟨x, hxe⟩ : ∃ x, el p.l k = x := ⟨_, rfl⟩
    rw [hxe] at hbx hsn ⊢
    have hL1 := fillW_len gg.fi (p.l.take k) gg.l
    have htk : (p.l.take k).length = k := by rw [List.length_take]; omega
    obtain ⟨L, hL⟩ : ∃ L, fillW gg.fi gg.l (p.l.take k) = L := ⟨_, rfl⟩
    rw [hL] at h1 h2 h3 hsn hL1
    have HLL : Aside0 (L.length + 1 ≤ 4398046511104) := ⟨by omega⟩
    have hWl := (Array.getElem?_eq_some_iff.1 hrr).1
    rw [hsz2] at hWl
    have hV : ∀ q : Nat, (q = s ∨ n + 3 ≤ q) → ¬ ((q = n ∨ inA Ap p.l q) ∨ q = W1.heap.size ∨ q = W1.heap.size + 1) := fun q hq h => by
      rw [hsz2] at h
      rcases h with (h | h) | h | h
      · omega
      · have := hAp q h; omega
      · omega
      · omega
    have HV := Aside0.mk hV
    have HSN := Aside0.mk hsn
    have H1 := Aside0.mk h1
    have H2 := Aside0.mk h2
    have H3 := Aside0.mk h3
    have H4 := Aside0.mk h4
    have H5 := Aside0.mk h5
    have HX := Aside0.mk hbx
    have HBX := Aside0.mk hBx
    have HWL := Aside0.mk hWl
    have HNS : Aside0 (s + 3 ≤ n) := ⟨by omega⟩
    obtain ⟨e0, e1, e2, e3, e4, e5, e6⟩ := h1.box
    obtain ⟨f0, f1, f2⟩ := hbx
    clear h1 h2 h3 h4 h5 hx hxe hL hL1 htk hsn hV hWl hrr hit hsl hg2 hz2 hr2 hp2 hb2 hBx hA2 hAp hsz hl hk hsz2 hn hs
    by_cases c1 : x.f0 < gg.fi
    · have HST : Aside0 (stepW gg.fi L x = L) := ⟨by unfold stepW; rw [if_pos (.inl c1)]⟩
      have d1 : decide (x.f0 < gg.fi) = true := decide_eq_true c1
      clear c1
      gi_wp2_with (refine ⟨trivial, ?_⟩)
      exact ⟨Keeps.refl _ _, A', c', by rw [HSN.out, HST.out]; exact H1.out, by rw [HSN.out, HST.out]; exact H2.out, by rw [HSN.out, HST.out]; exact H3.out, H4.out, H5.out⟩
    · have d1 : decide (x.f0 < gg.fi) = false := decide_eq_false c1
      by_cases c2 : 0 ≤ atL L x.f0
      · have HST : Aside0 (stepW gg.fi L x = L) := ⟨by unfold stepW; rw [if_pos (.inr c2)]⟩
        have D2 : Aside0 (decide (0 ≤ atL L x.f0) = true) := ⟨decide_eq_true c2⟩
        clear c1 c2
        gi_wp2_with (refine ⟨trivial, rfl, ?_⟩; gi_at_call 52; refine (CallsIn.inRound _ ((callsIn_wide (n := 0)).2 (sparse_there ⟨gg.id, gg.fi, gg.tm, gg.ht, gg.hv, gg.hc, L⟩ A' c' x.f0 _ H2.out))).mono ?_; rw [D2.out]; rintro e w1 ⟨rfl, hw1⟩; have HW1 := Aside0.mk hw1; have G1 := H1.out.below hw1; have X1 := HX.out.below hw1; clear e0 e1 e2 e3 e4 e5 e6 f0 f1 f2; obtain ⟨e0, e1, e2, e3, e4, e5, e6⟩ := G1.box; obtain ⟨f0, f1, f2⟩ := id X1; have HG1 := Aside0.mk G1; have HX1 := Aside0.mk X1; clear hw1 G1 X1)
        exact ⟨keeps_below HW1.out, A', c', by rw [HSN.out, HST.out]; exact HG1.out, by rw [HSN.out, HST.out]; exact H2.out.below HW1.out, by rw [HSN.out, HST.out]; exact H3.out, H4.out.below HW1.out, H5.out.trans (HW1.out.mono (by have := HNS.out; have := HWL.out; omega))⟩
      · have HST : Aside0 (stepW gg.fi L x = withL L gg.fi x.f0 ++ [x] ++ withL L x.f0 1099511627777) := ⟨by unfold stepW; rw [if_neg (by rintro (h | h); exact c1 h; exact c2 h)]⟩
        have D2 : Aside0 (decide (0 ≤ atL L x.f0) = false) := ⟨decide_eq_false c2⟩
        have HT2 := Aside0.mk (with_two gg.fi L x.f0)
        clear c1 c2
        gi_wp2_with (refine ⟨trivial, rfl, ?_⟩; gi_at_call 52; refine (CallsIn.inRound _ ((callsIn_wide (n := 0)).2 (sparse_there ⟨gg.id, gg.fi, gg.tm, gg.ht, gg.hv, gg.hc, L⟩ A' c' x.f0 _ H2.out))).mono ?_; rw [D2.out]; rintro e w1 ⟨rfl, hw1⟩; have HW1 := Aside0.mk hw1; have G1 := H1.out.below hw1; have X1 := HX.out.below hw1; clear e0 e1 e2 e3 e4 e5 e6 f0 f1 f2; obtain ⟨e0, e1, e2, e3, e4, e5, e6⟩ := G1.box; obtain ⟨f0, f1, f2⟩ := id X1; have HG1 := Aside0.mk G1; have HX1 := Aside0.mk X1; clear hw1 G1 X1)
        have HR1 := Aside0.mk (Rd.drew (H2.out.below HW1.out))
        have HLN1 : Aside0 ((withL L gg.fi x.f0).length ≤ 4398046511104) := ⟨by have := HT2.out; have := HLL.out; omega⟩
        have HLN2 : Aside0 ((withL L x.f0 1099511627777).length ≤ 4398046511104) := ⟨by have := HT2.out; have := HLL.out; omega⟩
        refine startR_ (n := 14) (S := (fun w' => w'.cell? ⟨s, 1, none⟩ = some (.int .i64 gg.fi) ∧ w'.cell? ⟨s, 6, none⟩ = some (.slice A' L.length c') ∧ w'.cell? ⟨Bx, 0, none⟩ = some (.int .i64 x.f0))) (ds := []) #[false, false, false, false, false, false, false, false, false, false, false, false, false, false] (by kernel_rfl) (fun h => by obtain ⟨_, _, h⟩ := h; exact h) (by kernel_rfl) rfl rfl ⟨e1, e6, f0⟩ (fun hHeld => ?_)
        refine pure_ (i := 0) (N := some 36) (v := ?_) (a' := ?_) #[true, false, false, false, false, false, false, false, false, false, false, false, false, false] rfl rfl (by kernel_rfl) (fun _ _ _ h => h) (Or.inl ⟨by rfl, ?_⟩) ?_ ?_
        rotate_left
        · intro w'
          go_simp
          try with_reducible rfl
        rotate_left
        · simp only [Act.put, List.setIfInBounds_toArray, List.set_cons_zero, List.set_cons_succ]
          rfl
        refine take_ (i := 1) (N := some 37) (v := ?_) (a' := ?_) #[true, true, false, false, false, false, false, false, false, false, false, false, false, false] rfl rfl (by kernel_rfl) (fun _ _ _ h => h) (Or.inl ⟨by rfl, ?_⟩) hHeld ?_ ?_
        rotate_left
        · rintro w' ⟨s0, s1, s2⟩
          go_simp
          try with_reducible rfl
        rotate_left
        · simp only [Act.put, List.setIfInBounds_toArray, List.set_cons_zero, List.set_cons_succ]
          rfl
        refine pure_ (i := 2) (N := some 38) (v := ?_) (a' := ?_) #[true, true, true, false, false, false, false, false, false, false, false, false, false, false] rfl rfl (by kernel_rfl) (fun _ _ _ h => h) (Or.inl ⟨by rfl, ?_⟩) ?_ ?_
        rotate_left
        · intro w'
          go_simp
          try with_reducible rfl
        rotate_left
        · simp only [Act.put, List.setIfInBounds_toArray, List.set_cons_zero, List.set_cons_succ]
          rfl
        refine take_ (i := 3) (N := some 39) (v := ?_) (a' := ?_) #[true, true, true, true, false, false, false, false, false, false, false, false, false, false] rfl rfl (by kernel_rfl) (fun _ _ _ h => h) (Or.inl ⟨by rfl, ?_⟩) hHeld ?_ ?_
        rotate_left
        · rintro w' ⟨s0, s1, s2⟩
          go_simp
          try with_reducible rfl
        rotate_left
        · simp only [Act.put, List.setIfInBounds_toArray, List.set_cons_zero, List.set_cons_succ]
          rfl
        refine pure_ (i := 4) (N := some 40) (v := ?_) (a' := ?_) #[true, true, true, true, true, false, false, false, false, false, false, false, false, false] rfl rfl (by kernel_rfl) (fun _ _ _ h => h) (Or.inl ⟨by rfl, ?_⟩) ?_ ?_
        rotate_left
        · intro w'
          go_simp
          try with_reducible rfl
        rotate_left
        · simp only [Act.put, List.setIfInBounds_toArray, List.set_cons_zero, List.set_cons_succ]
          rfl
        refine take_ (i := 5) (N := some 41) (v := ?_) (a' := ?_) #[true, true, true, true, true, true, false, false, false, false, false, false, false, false] rfl rfl (by kernel_rfl) (fun _ _ _ h => h) (Or.inl ⟨by rfl, ?_⟩) hHeld ?_ ?_
        rotate_left
        · rintro w' ⟨s0, s1, s2⟩
          go_simp
          try with_reducible rfl
        rotate_left
        · simp only [Act.put, List.setIfInBounds_toArray, List.set_cons_zero, List.set_cons_succ]
          rfl
        refine pure_ (i := 7) (N := some 43) (v := ?_) (a' := ?_) #[true, true, true, true, true, true, false, true, false, false, false, false, false, false] rfl rfl (by kernel_rfl) (fun _ _ _ h => h) (Or.inl ⟨by rfl, ?_⟩) ?_ ?_
        rotate_left
        · intro w'
          go_simp
          try with_reducible rfl
        rotate_left
        · simp only [Act.put, List.setIfInBounds_toArray, List.set_cons_zero, List.set_cons_succ]
          rfl
        refine take_ (i := 8) (N := some 44) (v := ?_) (a' := ?_) #[true, true, true, true, true, true, false, true, true, false, false, false, false, false] rfl rfl (by kernel_rfl) (fun _ _ _ h => h) (Or.inl ⟨by rfl, ?_⟩) hHeld ?_ ?_
        rotate_left
        · rintro w' ⟨s0, s1, s2⟩
          go_simp
          try with_reducible rfl
        rotate_left
        · simp only [Act.put, List.setIfInBounds_toArray, List.set_cons_zero, List.set_cons_succ]
          rfl
        refine pure_ (i := 9) (N := some 45) (v := ?_) (a' := ?_) #[true, true, true, true, true, true, false, true, true, true, false, false, false, false] rfl rfl (by kernel_rfl) (fun _ _ _ h => h) (Or.inl ⟨by rfl, ?_⟩) ?_ ?_
        rotate_left
        · intro w'
          go_simp
          try with_reducible rfl
        rotate_left
        · simp only [Act.put, List.setIfInBounds_toArray, List.set_cons_zero, List.set_cons_succ]
          rfl
        refine take_ (i := 10) (N := some 46) (v := ?_) (a' := ?_) #[true, true, true, true, true, true, false, true, true, true, true, false, false, false] rfl rfl (by kernel_rfl) (fun _ _ _ h => h) (Or.inl ⟨by rfl, ?_⟩) hHeld ?_ ?_
        rotate_left
        · rintro w' ⟨s0, s1, s2⟩
          go_simp
          try with_reducible rfl
        rotate_left
        · simp only [Act.put, List.setIfInBounds_toArray, List.set_cons_zero, List.set_cons_succ]
          rfl
        refine one_ (i := 6) (N := some 42) #[true, true, true, true, true, true, true, true, true, true, true, false, false, false] rfl rfl (by kernel_rfl) (by decide) (fun K hK => ?_)
        go_simp
        refine (sparse_from L A' c' gg.fi x.f0 _ HR1.out).mono ?_; rintro e w2 ⟨v1, rfl, ho1, hw2⟩; obtain ⟨A1, c1, rfl, hrd1, hfr1⟩ := ho1.rd' HLN1.out; have HO1 := Aside0.mk ho1; have HRD1 := Aside0.mk hrd1; have HFR1 := Aside0.mk hfr1; have HW2 := Aside0.mk hw2; clear ho1 hrd1 hfr1 hw2
        refine hK.out _ _ ?_ (fun hHeld => ?_)
        · obtain ⟨s0, s1, s2⟩ := hHeld; exact ⟨(HW2.out.cell (World.block_lt_of_cell? _ _ s0)).trans s0, (HW2.out.cell (World.block_lt_of_cell? _ _ s1)).trans s1, (HW2.out.cell (World.block_lt_of_cell? _ _ s2)).trans s2⟩
        clear hK K
        try simp only [Act.put, List.setIfInBounds_toArray, List.set_cons_zero, List.set_cons_succ]
        refine one_ (i := 11) (N := some 47) #[true, true, true, true, true, true, true, true, true, true, true, true, false, false] rfl rfl (by kernel_rfl) (by decide) (fun K hK => ?_)
        go_simp
        refine (sparse_from L A' c' x.f0 1099511627777 _ (HR1.out.below HW2.out)).mono ?_; rintro e w3 ⟨v2, rfl, ho2, hw3⟩; obtain ⟨A2, c2, rfl, hrd2, hfr2⟩ := ho2.rd' HLN2.out; have HO2 := Aside0.mk ho2; have HRD2 := Aside0.mk hrd2; have HFR2 := Aside0.mk hfr2; have HW3 := Aside0.mk hw3; clear ho2 hrd2 hfr2 hw3
        refine hK.out _ _ ?_ (fun hHeld => ?_)
        · obtain ⟨s0, s1, s2⟩ := hHeld; exact ⟨(HW3.out.cell (World.block_lt_of_cell? _ _ s0)).trans s0, (HW3.out.cell (World.block_lt_of_cell? _ _ s1)).trans s1, (HW3.out.cell (World.block_lt_of_cell? _ _ s2)).trans s2⟩
        clear hK K
        try simp only [Act.put, List.setIfInBounds_toArray, List.set_cons_zero, List.set_cons_succ]
        refine pure_ (i := 12) (N := some 6) (v := ?_) (a' := ?_) #[true, true, true, true, true, true, true, true, true, true, true, true, true, false] rfl rfl (by kernel_rfl) (fun _ _ _ h => h) (Or.inl ⟨by rfl, ?_⟩) ?_ ?_
        rotate_left
        · intro w'
          go_simp
          try with_reducible rfl
        rotate_left
        · simp only [Act.put, List.setIfInBounds_toArray, List.set_cons_zero, List.set_cons_succ]
          rfl
        refine pure_ (i := 13) (N := some 7) (v := ?_) (a' := ?_) #[true, true, true, true, true, true, true, true, true, true, true, true, true, true] rfl rfl (by kernel_rfl) (fun _ _ _ h => h) (Or.inl ⟨by rfl, ?_⟩) ?_ ?_
        rotate_left
        · intro w'
          go_simp
          try with_reducible rfl
        rotate_left
        · simp only [Act.put, List.setIfInBounds_toArray, List.set_cons_zero, List.set_cons_succ]
          rfl
        refine done_ (by kernel_rfl) ?_
        have hlt1 := HNS.out
        have hlt2 := HWL.out
        have hlt3 := HW1.out.size
        have hlt4 := HW2.out.size
        have hlt5 := HW3.out.size
        simp only [World.size_drew] at hlt4 hlt5
        have hblk : ∀ k, (Value.slice A1 (withL L gg.fi x.f0).length c1).ownBlock = some k → w1.heap.size ≤ k ∧ k < w2.heap.size := fun k hk => ⟨(own_block HO1.out hk).1, (own_block HO1.out hk).2.1⟩
        have hlenT := HT2.out
        have hlenL := HLL.out
        have HB3 : Aside0 (Below w1.heap.size w1 w3) := ⟨(below_drew (Below.refl w1.heap.size w1)).trans (Below.trans HW2.out (HW3.out.mono hlt4))⟩
        have HOL := Aside0.mk (HO1.out.below HW3.out)
        have X3 := HX1.out.below HB3.out
        obtain ⟨x0, x1, x2⟩ := id X3
        have HLT : Aside0 (s + 3 ≤ n ∧ n + 3 ≤ w1.heap.size ∧ w1.heap.size ≤ w2.heap.size ∧ w2.heap.size ≤ w3.heap.size) := ⟨by omega⟩
        have HBK := Aside0.mk hblk
        have HT3 : Aside0 ((withL L gg.fi x.f0).length + 1 + (withL L x.f0 1099511627777).length ≤ 4398046511104) := ⟨by omega⟩
        clear hlt1 hlt2 hlt3 hlt4 hlt5 hblk hlenT hlenL X3 e0 e1 e2 e3 e4 e5 e6 f0 f1 f2 hHeld
        gi_wp2_with (first
          | (gi_at_builtin; refine wpListIn_append_ent (l := withL L gg.fi x.f0) (m := [x]) (b := w1.heap.size) rfl (.tmp 48) (.tmp 50) rfl rfl (HOL.out.alloc _) rfl (Rd.one w3 x) (by have := HT3.out; simp; omega) (by have := HLT.out; simp; omega) ?_; intro v4 w4 ho4 hg4 ha4; have HO4 := Aside0.mk ho4; have HG4 := Aside0.mk hg4; have HA4 := Aside0.mk ha4; clear ho4 hg4 ha4)
          | (gi_at_builtin
             refine wpListIn_append_ent (l := withL L gg.fi x.f0 ++ [x]) (m := withL L x.f0 1099511627777) (b := w1.heap.size) rfl (.tmp 51) (.tmp 52) rfl rfl HO4.out rfl ((HRD2.out.alloc _).grown HG4.out (fun k hk h => by have h1 := HBK.out k hk; have h2 := HFR2.out k h; omega)) (by have := HT3.out; simp; omega) (by have := HLT.out; have := HG4.out.size; simp at this; omega) ?_
             intro v5 w5 ho5 hg5 ha5
             have hon : Only (fun q => w1.heap.size ≤ q) w1 w5 := (((only_below HB3.out).alloc _).of_grown HG4.out (fun k hk _ => (HBK.out k hk).1)).of_grown hg5 (fun k hk _ => by
               change v4.ownBlock = some k at hk
               rcases HA4.out with h | h
               · rw [h] at hk; exact (HBK.out k hk).1
               · rw [h] at hk
                 have h2 := HLT.out
                 have h3 := Option.some.inj hk
                 simp at h3
                 show w1.heap.size ≤ k
                 omega)
             have g5 := HG1.out.only hon (fun h => by have h2 := HLT.out; have h3 : w1.heap.size ≤ s := h; omega)
             obtain ⟨e0, e1, e2, e3, e4, e5, e6⟩ := g5.box
             have ef := g5.free
             obtain ⟨A5, c5, rfl, hrd5, hfr5⟩ := ho5.rd' (by have := HT3.out; simp; omega)
             have HON := Aside0.mk hon
             have HG5 := Aside0.mk g5
             have HRD5 := Aside0.mk hrd5
             have HFR5 := Aside0.mk hfr5
             clear ho5 hg5 ha5 hon g5 hrd5 hfr5 x0 x1 x2))
        refine ⟨((keeps_below HW1.out).trans (HON.out.keeps (fun k hk _ h => by have : w1.heap.size ≤ k := h; omega))).trans (Keeps.setCell _ _ (HV.out s (.inl rfl)) _), A5, c5, ?_, ?_, ?_, ?_, ?_⟩
        · rw [HSN.out, HST.out]
          have hh := HG5.out.setL (withL L gg.fi x.f0 ++ [x] ++ withL L x.f0 1099511627777) A5 c5
          rwa [show (withL L gg.fi x.f0 ++ [x] ++ withL L x.f0 1099511627777).length = (withL L gg.fi x.f0).length + ((withL L x.f0 1099511627777).length + 1) by simp only [List.length_append, List.length_cons, List.length_nil]; omega] at hh
        · rw [HSN.out, HST.out]; exact HRD5.out.only ((Only.refl (fun q => q = s) _).setCell (p := ⟨s, 6, none⟩) rfl _) (fun q hq h => by have h2 := HLT.out; have h3 := HFR5.out q hq; omega)
        · rw [HSN.out, HST.out]; exact fun q hq => by have h2 := HLT.out; have h3 := HFR5.out q hq; omega
        · exact ((H4.out.below HW1.out).only HON.out (fun h => by have h2 := HLT.out; have h3 : w1.heap.size ≤ s + 2 := h; omega)).only ((Only.refl (fun q => q = s) _).setCell (p := ⟨s, 6, none⟩) rfl _) (fun h => by have h3 : s + 2 = s := h; omega)
        · exact ((H5.out.trans (HW1.out.mono (by have := HNS.out; have := HWL.out; omega))).trans (HON.out.below (by have h2 := HLT.out; omega) (fun q hq h => by have h2 := HLT.out; have h3 : w1.heap.size ≤ q := h; omega))).setCell (p := ⟨s, 6, none⟩) (Nat.le_refl s) _
  case done =>
    rintro W ⟨A', c', h1, h2, h3, h4, h5⟩ hD
    rw [List.take_length] at h1 h2 h3
    have H1 := Aside0.mk h1
    have H2 := Aside0.mk h2
    have H3 := Aside0.mk h3
    have H4 := Aside0.mk h4
    have H5 := Aside0.mk h5
    have HD := Aside0.mk hD
    have HSZ2 := Aside0.mk hsz2
    have HNS : Aside0 (s + 3 ≤ n) := ⟨by omega⟩
    have HS0 := Aside0.mk hs
    obtain ⟨e0, e1, e2, e3, e4, e5, e6⟩ := h1.box
    obtain ⟨z0, z1, z2, z3, z4, z5, z6⟩ := h4.box
    have zf := h4.free
    clear h1 h2 h3 h4 h5 hD hit hsl hg2 hz2 hr2 hp2 hb2 hA2 hAp hsz hl hsz2 hn hs
    have hs1 := H4.out.store (g := ⟨gg.id, gg.fi, gg.tm, gg.ht, gg.hv, gg.hc, fillW gg.fi gg.l p.l⟩) (A := A') (c := c')
    have hs2 := only_store ⟨gg.id, gg.fi, gg.tm, gg.ht, gg.hv, gg.hc, fillW gg.fi gg.l p.l⟩ A' c' (s + 2) W
    have HS1 := Aside0.mk hs1
    have HS2 := Aside0.mk hs2
    clear hs1 hs2
    gi_wp2_with fail
    refine Marks.leaves (n₀ := W1.heap.size) ((show Marks W1.heap.size [] _ from trivial).cons ((HS2.out.block _ (Array.getElem?_eq_some_iff.1 HD.out).1 (fun h => by have h1 := HSZ2.out; have h2 := HNS.out; omega)).trans HD.out) (Nat.le_refl _) (by simp)) fun W' hW' => ?_
    have h3 := HS1.out.marks hW'
    obtain ⟨c0, c1, c2, c3, c4, c5, c6⟩ := h3.box
    dsimp only at c0 c1 c2 c3 c4 c5 c6
    refine ⟨vG ⟨gg.id, gg.fi, gg.tm, gg.ht, gg.hv, gg.hc, fillW gg.fi gg.l p.l⟩ A' c', by simp [results, Try.results27, go_sem, vG, c0, c1, c2, c3, c4, c5, c6], A', c', rfl, ?_, ?_⟩
    · exact (H2.out.only HS2.out (fun q hq h => by have h1 := H3.out q hq; have h2 := HNS.out; omega)).marks hW'
    · rw [HS0.out]
      have g3 := H5.out.trans (HS2.out.below (by have := H5.out.size; have := HS0.out; omega) (fun q hq h => by omega))
      exact g3.trans (hW'.below (by have := g3.size; have := HS0.out; omega) (fun q hq h => by have h1 := h.1; have h2 := HSZ2.out; have h3 := HNS.out; omega))
  case stop => exact fun _ _ _ _ _ h => h.elim
set_option maxHeartbeats 4000000 in
set_option maxRecDepth 100000 in
theorem sparse_forward (g : Grp) (A : Option Addr) (c : Nat) (p : Prt) (Ap : Option Addr) (cp : Nat) (w : World) (h : Rd w A c g.l) (hp : Rd w Ap cp p.l) (hi : p.mrk = true → 0 ≤ p.ix ∧ p.ix ≤ 1099511627776) (hl : g.l.length + p.l.length ≤ 4398046511104) :
    Calls Try.prog 27 #[vG g A c, vP p Ap cp] w (GotG w (forwardG g p)) := by
  obtain ⟨gg, hgg⟩ : ∃ x, headP (markG g p) p = x := ⟨_, rfl⟩
  have HF : Aside0 (forwardG g p = ⟨gg.id, gg.fi, gg.tm, gg.ht, gg.hv, gg.hc, fillW gg.fi gg.l p.l⟩) := ⟨by unfold forwardG; rw [hgg]⟩
  have HLL : Aside0 (gg.l.length ≤ g.l.length) := ⟨by
    rw [← hgg]
    have h1 : (markG g p).l.length ≤ g.l.length := by
      unfold markG goneG
      split
      · split
        · exact Nat.le_refl _
        · exact List.length_filter_le _ _
      · exact Nat.le_refl _
    unfold headP
    split <;> exact h1⟩
  rw [HF.out]
  have HGG := Aside0.mk hgg
  have HR := Aside0.mk h
  have HP := Aside0.mk hp
  have HLN := Aside0.mk hl
  obtain ⟨s, hs⟩ : ∃ s, w.heap.size = s := ⟨_, rfl⟩
  have HS := Aside0.mk hs
  have hAp : ∀ b, inA Ap p.l b → b < s := fun b hb => by rw [← hs]; exact hp.lt hb
  have hA : ∀ b, inA A g.l b → b < s := fun b hb => by rw [← hs]; exact h.lt hb
  have HAP := Aside0.mk hAp
  have HA := Aside0.mk hA
  clear h hp hgg hl hAp hA HF
  refine (callsIn_wide (n := 0)).1 ?_
  unfold vG vP
  refine callsIn_of_wp_marks Try.func27 rfl trivial ?_
  simp only [Try.ntmps27, List.size_toArray, List.length_cons, List.length_nil, Nat.reduceAdd, Nat.reduceSub, Array.replicate_succ, Array.replicate_zero, List.push_toArray, List.append_toArray, List.nil_append, List.cons_append]
  obtain ⟨b1, hb1⟩ : ∃ b, p.mrk = b := ⟨_, rfl⟩
  obtain ⟨b2, hb2⟩ : ∃ b, p.hed = b := ⟨_, rfl⟩
  rw [hb1, hb2]
  rw [hb1] at hi
  have HB1 := Aside0.mk hb1
  have HB2 := Aside0.mk hb2
  clear hb1 hb2
  obtain ⟨C, hC⟩ : ∃ C, (match Try.f27.body with | some (.seq _ (.seq _ (.seq _ c))) => c | _ => .skip) = C := ⟨_, rfl⟩
  have HC := Aside0.mk hC
  simp only [Try.f27] at hC
  rw [hC]
  clear hC
  have g0 := BlkG.new g A c w
  rw [hs] at g0
  have p0 := BlkP.new p Ap cp (w.alloc (.cells #[.int .i64 g.id, .int .i64 g.fi, .int .i64 g.tm, .int .i64 g.ht, .int .i64 g.hv, .int .i64 g.hc, .slice A g.l.length c] 26))
  rw [HB1.out, HB2.out] at p0
  rw [World.size_alloc, hs] at p0
  have z0 := BlkG.new ⟨0, 0, 0, 0, 0, 0, []⟩ none 0 ((w.alloc (.cells #[.int .i64 g.id, .int .i64 g.fi, .int .i64 g.tm, .int .i64 g.ht, .int .i64 g.hv, .int .i64 g.hc, .slice A g.l.length c] 26)).alloc (.cells #[.int .i64 p.g, .int .i64 p.k, .slice Ap p.l.length cp, .int .i64 p.ht, .int .i64 p.hv, .int .i64 p.hc, .int .i64 p.ix, .int .i64 p.tm, .bool b1, .bool b2] 28))
  rw [World.size_alloc, World.size_alloc, hs] at z0
  have g1 := (g0.alloc (.cells #[.int .i64 p.g, .int .i64 p.k, .slice Ap p.l.length cp, .int .i64 p.ht, .int .i64 p.hv, .int .i64 p.hc, .int .i64 p.ix, .int .i64 p.tm, .bool b1, .bool b2] 28)).alloc (.cells #[.int .i64 0, .int .i64 0, .int .i64 0, .int .i64 0, .int .i64 0, .int .i64 0, .slice none 0 0] 26)
  have p1 := BlkP.alloc p0 (.cells #[.int .i64 0, .int .i64 0, .int .i64 0, .int .i64 0, .int .i64 0, .int .i64 0, .slice none 0 0] 26)
  have hb0 : Below s w (((w.alloc (.cells #[.int .i64 g.id, .int .i64 g.fi, .int .i64 g.tm, .int .i64 g.ht, .int .i64 g.hv, .int .i64 g.hc, .slice A g.l.length c] 26)).alloc (.cells #[.int .i64 p.g, .int .i64 p.k, .slice Ap p.l.length cp, .int .i64 p.ht, .int .i64 p.hv, .int .i64 p.hc, .int .i64 p.ix, .int .i64 p.tm, .bool b1, .bool b2] 28)).alloc (.cells #[.int .i64 0, .int .i64 0, .int .i64 0, .int .i64 0, .int .i64 0, .int .i64 0, .slice none 0 0] 26)) := by
    rw [← hs]; repeat (first | exact Below.refl _ _ | apply below_alloc)
  have hsz0 : (((w.alloc (.cells #[.int .i64 g.id, .int .i64 g.fi, .int .i64 g.tm, .int .i64 g.ht, .int .i64 g.hv, .int .i64 g.hc, .slice A g.l.length c] 26)).alloc (.cells #[.int .i64 p.g, .int .i64 p.k, .slice Ap p.l.length cp, .int .i64 p.ht, .int .i64 p.hv, .int .i64 p.hc, .int .i64 p.ix, .int .i64 p.tm, .bool b1, .bool b2] 28)).alloc (.cells #[.int .i64 0, .int .i64 0, .int .i64 0, .int .i64 0, .int .i64 0, .int .i64 0, .slice none 0 0] 26)).heap.size = s + 3 := by simp [hs]
  have hr0 := ((HR.out.alloc (.cells #[.int .i64 g.id, .int .i64 g.fi, .int .i64 g.tm, .int .i64 g.ht, .int .i64 g.hv, .int .i64 g.hc, .slice A g.l.length c] 26)).alloc (.cells #[.int .i64 p.g, .int .i64 p.k, .slice Ap p.l.length cp, .int .i64 p.ht, .int .i64 p.hv, .int .i64 p.hc, .int .i64 p.ix, .int .i64 p.tm, .bool b1, .bool b2] 28)).alloc (.cells #[.int .i64 0, .int .i64 0, .int .i64 0, .int .i64 0, .int .i64 0, .int .i64 0, .slice none 0 0] 26)
  have hpr0 := ((HP.out.alloc (.cells #[.int .i64 g.id, .int .i64 g.fi, .int .i64 g.tm, .int .i64 g.ht, .int .i64 g.hv, .int .i64 g.hc, .slice A g.l.length c] 26)).alloc (.cells #[.int .i64 p.g, .int .i64 p.k, .slice Ap p.l.length cp, .int .i64 p.ht, .int .i64 p.hv, .int .i64 p.hc, .int .i64 p.ix, .int .i64 p.tm, .bool b1, .bool b2] 28)).alloc (.cells #[.int .i64 0, .int .i64 0, .int .i64 0, .int .i64 0, .int .i64 0, .int .i64 0, .slice none 0 0] 26)
  have HG0 := Aside0.mk g1
  have HP0 := Aside0.mk p1
  have HZ0 := Aside0.mk z0
  have HR0 := Aside0.mk hr0
  have HPR0 := Aside0.mk hpr0
  have HB0 := Aside0.mk hb0
  have HSZ0 := Aside0.mk hsz0
  clear g0 p0 z0 g1 p1 hr0 hpr0 hb0 hsz0
  cases b1 <;> cases b2
  · -- false false
    obtain rfl : gg = g := by rw [← HGG.out]; unfold headP markG; rw [HB1.out, HB2.out]; rfl
    gi_wp2_with fail
    have h00 := HSZ0.out
    exact forward_tail w s HS.out _ A c p Ap cp _ _ _ _ _ _ _ _ _ _ _ _ _ _ _ _ _ _ _ _ _ _ _ _ _ _ _ _ _ _ _ _ _ _ _ _ _ _ _ _ _ _ _ _ _ _ _ _ _ _ _ _ _ _ HG0.out HZ0.out (HP0.out.box.2.2.1) HR0.out (fun q hq => .inl (HA.out q hq)) HPR0.out HAP.out HB0.out (by omega) (Nat.le_trans (Nat.add_le_add_right HLL.out _) HLN.out) C HC.out
  · -- false true
    obtain rfl : gg = ⟨(g).id, (g).fi, (g).tm, p.ht, p.hv, p.hc, (g).l⟩ := by rw [← HGG.out]; unfold headP markG; rw [HB1.out, HB2.out]; rfl
    gi_wp2_with fail
    have g0 := BlkG.new ⟨g.id, g.fi, g.tm, p.ht, p.hv, p.hc, g.l⟩ A c w
    rw [HS.out] at g0
    have p0 := BlkP.new p Ap cp (w.alloc (.cells #[.int .i64 g.id, .int .i64 g.fi, .int .i64 g.tm, .int .i64 p.ht, .int .i64 p.hv, .int .i64 p.hc, .slice A g.l.length c] 26))
    rw [HB1.out, HB2.out] at p0
    rw [World.size_alloc, HS.out] at p0
    have z0 := BlkG.new ⟨0, 0, 0, 0, 0, 0, []⟩ none 0 ((w.alloc (.cells #[.int .i64 g.id, .int .i64 g.fi, .int .i64 g.tm, .int .i64 p.ht, .int .i64 p.hv, .int .i64 p.hc, .slice A g.l.length c] 26)).alloc (.cells #[.int .i64 p.g, .int .i64 p.k, .slice Ap p.l.length cp, .int .i64 p.ht, .int .i64 p.hv, .int .i64 p.hc, .int .i64 p.ix, .int .i64 p.tm, .bool false, .bool true] 28))
    rw [World.size_alloc, World.size_alloc, HS.out] at z0
    have hb0 : Below s w (((w.alloc (.cells #[.int .i64 g.id, .int .i64 g.fi, .int .i64 g.tm, .int .i64 p.ht, .int .i64 p.hv, .int .i64 p.hc, .slice A g.l.length c] 26)).alloc (.cells #[.int .i64 p.g, .int .i64 p.k, .slice Ap p.l.length cp, .int .i64 p.ht, .int .i64 p.hv, .int .i64 p.hc, .int .i64 p.ix, .int .i64 p.tm, .bool false, .bool true] 28)).alloc (.cells #[.int .i64 0, .int .i64 0, .int .i64 0, .int .i64 0, .int .i64 0, .int .i64 0, .slice none 0 0] 26)) := by
      rw [← HS.out]; repeat (first | exact Below.refl _ _ | apply below_alloc)
    have hsz0 : (((w.alloc (.cells #[.int .i64 g.id, .int .i64 g.fi, .int .i64 g.tm, .int .i64 p.ht, .int .i64 p.hv, .int .i64 p.hc, .slice A g.l.length c] 26)).alloc (.cells #[.int .i64 p.g, .int .i64 p.k, .slice Ap p.l.length cp, .int .i64 p.ht, .int .i64 p.hv, .int .i64 p.hc, .int .i64 p.ix, .int .i64 p.tm, .bool false, .bool true] 28)).alloc (.cells #[.int .i64 0, .int .i64 0, .int .i64 0, .int .i64 0, .int .i64 0, .int .i64 0, .slice none 0 0] 26)).heap.size = s + 3 := by simp [HS.out]
    exact forward_tail w s HS.out ⟨g.id, g.fi, g.tm, p.ht, p.hv, p.hc, g.l⟩ A c p Ap cp _ _ _ _ _ _ _ _ _ _ _ _ _ _ _ _ _ _ _ _ _ _ _ _ _ _ _ _ _ _ _ _ _ _ _ _ _ _ _ _ _ _ _ _ _ _ _ _ _ _ _ _ _ _ ((g0.alloc _).alloc _) z0 ((BlkP.alloc p0 _).box.2.2.1) (((HR.out.alloc _).alloc _).alloc _) (fun q hq => .inl (HA.out q hq)) (((HP.out.alloc _).alloc _).alloc _) HAP.out hb0 (Nat.le_of_eq hsz0.symm) (Nat.le_trans (Nat.add_le_add_right HLL.out _) HLN.out) C HC.out
  · -- true false
    obtain rfl : gg = goneG g p.ix p.tm := by rw [← HGG.out]; unfold headP markG; rw [HB1.out, HB2.out]; rfl
    gi_wp2_with (refine ⟨trivial, rfl, ?_⟩; gi_at_call 26; refine ((callsIn_wide (n := 0)).2 (sparse_gone g A c p.ix p.tm _ HR0.out (hi rfl).1 (hi rfl).2)).mono ?_; rintro e w1 ⟨A1, c1, rfl, hrd1, hw1⟩; have HRD1 := Aside0.mk hrd1; have HW1 := Aside0.mk hw1; have HG1 := Aside0.mk (HG0.out.below hw1); have HP1 := Aside0.mk (HP0.out.below hw1); have HZ1 := Aside0.mk (HZ0.out.below hw1); obtain ⟨e0, e1, e2, e3, e4, e5, e6⟩ := HG1.out.box; have ef := HG1.out.free; obtain ⟨p0, p1, p2, p3, p4, p5, p6, p7, p8, p9⟩ := HP1.out.box; rw [HB1.out] at p8; rw [HB2.out] at p9; clear hrd1 hw1)
    have hx1 := only_store (goneG g p.ix p.tm) A1 c1 s w1
    have hsz1 := HW1.out.size
    have hsz2 := hx1.size
    have h00 := HSZ0.out
    refine forward_tail w s HS.out _ A1 c1 p Ap cp _ _ _ _ _ _ _ _ _ _ _ _ _ _ _ _ _ _ _ _ _ _ _ _ _ _ _ _ _ _ _ _ _ _ _ _ _ _ _ _ _ _ _ _ _ _ _ _ _ _ _ _ _ _ (HG1.out.store (g := goneG g p.ix p.tm) (A := A1) (c := c1)) (BlkG.only HZ1.out hx1 (fun h => by have h3 : s + 2 = s := h; omega)) ((BlkP.only HP1.out hx1 (fun h => by have h3 : s + 1 = s := h; omega)).box.2.2.1) (Rd.only HRD1.out hx1 (fun q hq h => by have h3 : q = s := h; subst h3; exact Rd.apartG HRD1.out HG1.out hq)) (fun q hq => ?_) (Rd.only (HPR0.out.below HW1.out) hx1 (fun q hq h => by have h3 : q = s := h; have := HAP.out q hq; omega)) HAP.out ((HB0.out.trans (HW1.out.mono (by omega))).trans (hx1.below (by omega) (fun q hq h => by have h3 : q = s := h; omega))) (by omega) (Nat.le_trans (Nat.add_le_add_right HLL.out _) HLN.out) C HC.out
    have a1 := Rd.apartG HRD1.out HG1.out; have a2 := Rd.apartP HRD1.out HP1.out; have a3 := Rd.apartG HRD1.out HZ1.out
    rcases Nat.lt_or_ge q s with h | h
    · exact .inl h
    · refine .inr ?_
      have n1 : q ≠ s := fun e => a1 (e ▸ hq)
      have n2 : q ≠ s + 1 := fun e => a2 (e ▸ hq)
      have n3 : q ≠ s + 2 := fun e => a3 (e ▸ hq)
      omega
  · -- true true
    obtain rfl : gg = ⟨(goneG g p.ix p.tm).id, (goneG g p.ix p.tm).fi, (goneG g p.ix p.tm).tm, p.ht, p.hv, p.hc, (goneG g p.ix p.tm).l⟩ := by rw [← HGG.out]; unfold headP markG; rw [HB1.out, HB2.out]; rfl
    gi_wp2_with (refine ⟨trivial, rfl, ?_⟩; gi_at_call 26; refine ((callsIn_wide (n := 0)).2 (sparse_gone g A c p.ix p.tm _ HR0.out (hi rfl).1 (hi rfl).2)).mono ?_; rintro e w1 ⟨A1, c1, rfl, hrd1, hw1⟩; have HRD1 := Aside0.mk hrd1; have HW1 := Aside0.mk hw1; have HG1 := Aside0.mk (HG0.out.below hw1); have HP1 := Aside0.mk (HP0.out.below hw1); have HZ1 := Aside0.mk (HZ0.out.below hw1); obtain ⟨e0, e1, e2, e3, e4, e5, e6⟩ := HG1.out.box; have ef := HG1.out.free; obtain ⟨p0, p1, p2, p3, p4, p5, p6, p7, p8, p9⟩ := HP1.out.box; rw [HB1.out] at p8; rw [HB2.out] at p9; clear hrd1 hw1)
    have hx1 := only_store (goneG g p.ix p.tm) A1 c1 s w1
    have hx2 := hx1.trans (only_hard p.ht p.hv p.hc s _)
    have hsz1 := HW1.out.size
    have hsz2 := hx2.size
    have h00 := HSZ0.out
    refine forward_tail w s HS.out _ A1 c1 p Ap cp _ _ _ _ _ _ _ _ _ _ _ _ _ _ _ _ _ _ _ _ _ _ _ _ _ _ _ _ _ _ _ _ _ _ _ _ _ _ _ _ _ _ _ _ _ _ _ _ _ _ _ _ _ _ ((HG1.out.store (g := goneG g p.ix p.tm) (A := A1) (c := c1)).hard p.ht p.hv p.hc) (BlkG.only HZ1.out hx2 (fun h => by have h3 : s + 2 = s := h; omega)) ((BlkP.only HP1.out hx2 (fun h => by have h3 : s + 1 = s := h; omega)).box.2.2.1) (Rd.only HRD1.out hx2 (fun q hq h => by have h3 : q = s := h; subst h3; exact Rd.apartG HRD1.out HG1.out hq)) (fun q hq => ?_) (Rd.only (HPR0.out.below HW1.out) hx2 (fun q hq h => by have h3 : q = s := h; have := HAP.out q hq; omega)) HAP.out ((HB0.out.trans (HW1.out.mono (by omega))).trans (hx2.below (by omega) (fun q hq h => by have h3 : q = s := h; omega))) (by omega) (Nat.le_trans (Nat.add_le_add_right HLL.out _) HLN.out) C HC.out
    have a1 := Rd.apartG HRD1.out HG1.out; have a2 := Rd.apartP HRD1.out HP1.out; have a3 := Rd.apartG HRD1.out HZ1.out
    rcases Nat.lt_or_ge q s with h | h
    · exact .inl h
    · refine .inr ?_
      have n1 : q ≠ s := fun e => a1 (e ▸ hq)
      have n2 : q ≠ s + 1 := fun e => a2 (e ▸ hq)
      have n3 : q ≠ s + 2 := fun e => a3 (e ▸ hq)
      omega
end Go.Proofs.Ytfnflbclhaeedaa.PartW
