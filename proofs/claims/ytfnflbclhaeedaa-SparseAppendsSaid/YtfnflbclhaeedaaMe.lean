/- The walk of sparse.Is. -/
/- sparse.Dense. -/
/- The reference's IsSparse. -/
/- sparse.from. -/
/- The walk of sparse.term. -/
/- The walk of sparse.there. -/
/- The walk of sparse.gone. -/
import Derived.Test.YtfnflbclhaeedaaMd
import Derived.Test.YtfnflbclhaeedaaMf
import Derived.BigRegion
set_option linter.unusedVariables false
set_option linter.unusedSimpArgs false
namespace Go.Proofs.Ytfnflbclhaeedaa.PartW
open Go Go.RowKit Go.Shelf Go.Proofs.Ytfnflbclhaeedaa.A Go.Proofs.Ytfnflbclhaeedaa.Sp Go.Proofs.Ytfnflbclhaeedaa.Reg Go.Proofs.Ytfnflbclhaeedaa.Seq Go.Proofs.YtfnflbclhaeedaaW.PrintWords Go.Proofs.YtfnflbclhaeedaaW.PrintLast Go.Proofs.YtfnflbclhaeedaaW.PrintMore
attribute [local go_sem] Oper.semAt_some
set_option maxHeartbeats 4000000 in
set_option maxRecDepth 100000 in
theorem sparse_Is (g : Grp) (A : Option Addr) (c : Nat) (w : World) (h : Rd w A c g.l) :
    Calls Try.prog 13 #[vG g A c] w fun e w' => e = .returned (.bool (isG false g)) ∧ Below w.heap.size w w' := by
  have HR := Aside0.mk h
  have HSP := Aside0.mk (isG_S g)
  clear h
  refine (callsIn_wide (n := 0)).1 ?_
  unfold vG
  refine callsIn_of_wp_marks Try.func13 rfl trivial ?_
  simp only [Try.ntmps13, List.size_toArray, List.length_cons, List.length_nil, Nat.reduceAdd, Nat.reduceSub, Array.replicate_succ, Array.replicate_zero, List.push_toArray, List.append_toArray, List.nil_append, List.cons_append]
  gi_wp2_with (refine ⟨trivial, rfl, ?_⟩; gi_at_call 28; refine (values_calls _ _ _ _).mono ?_; rintro e w' ⟨rfl, rfl⟩)
  obtain ⟨s, hs⟩ : ∃ s, w.heap.size = s := ⟨_, rfl⟩
  have hz1 : (w.alloc (.cells #[.int .i64 g.id, .int .i64 g.fi, .int .i64 g.tm, .int .i64 g.ht, .int .i64 g.hv, .int .i64 g.hc, .slice A g.l.length c] 26)).heap.size = s + 1 := by simp [hs]
  have hz2 : ((w.alloc (.cells #[.int .i64 g.id, .int .i64 g.fi, .int .i64 g.tm, .int .i64 g.ht, .int .i64 g.hv, .int .i64 g.hc, .slice A g.l.length c] 26)).alloc (.cells #[.bool false] 4)).heap.size = s + 1 + 1 := by simp [hs]
  have hz3 : (((w.alloc (.cells #[.int .i64 g.id, .int .i64 g.fi, .int .i64 g.tm, .int .i64 g.ht, .int .i64 g.hv, .int .i64 g.hc, .slice A g.l.length c] 26)).alloc (.cells #[.bool false] 4)).alloc (.cells #[.int .i64 (wrap64 (g.fi - 1))] 3)).heap.size = s + 1 + 1 + 1 := by simp [hs]
  have hg := BoxG.new g A c w
  have hres := Boxed.new (w.alloc (.cells #[.int .i64 g.id, .int .i64 g.fi, .int .i64 g.tm, .int .i64 g.ht, .int .i64 g.hv, .int .i64 g.hc, .slice A g.l.length c] 26)) 4 (.bool false)
  have hlast := Boxed.new ((w.alloc (.cells #[.int .i64 g.id, .int .i64 g.fi, .int .i64 g.tm, .int .i64 g.ht, .int .i64 g.hv, .int .i64 g.hc, .slice A g.l.length c] 26)).alloc (.cells #[.bool false] 4)) 3 (.int .i64 (wrap64 (g.fi - 1)))
  have hsl := Boxed.new (((w.alloc (.cells #[.int .i64 g.id, .int .i64 g.fi, .int .i64 g.tm, .int .i64 g.ht, .int .i64 g.hv, .int .i64 g.hc, .slice A g.l.length c] 26)).alloc (.cells #[.bool false] 4)).alloc (.cells #[.int .i64 (wrap64 (g.fi - 1))] 3)) 24 (.slice A g.l.length c)
  have hb0 : Below w.heap.size w ((((w.alloc (.cells #[.int .i64 g.id, .int .i64 g.fi, .int .i64 g.tm, .int .i64 g.ht, .int .i64 g.hv, .int .i64 g.hc, .slice A g.l.length c] 26)).alloc (.cells #[.bool false] 4)).alloc (.cells #[.int .i64 (wrap64 (g.fi - 1))] 3)).alloc (.cells #[.slice A g.l.length c] 24)) := by
    refine (((((Below.refl _ w).alloc (Nat.le_refl _) _).alloc ?_ _).alloc ?_ _).alloc ?_ _) <;> (simp; try omega)
  rw [hz1] at hres
  rw [hz2] at hlast
  rw [hz3] at hsl
  rw [hs] at hg hb0 ⊢
  have noU : ∀ (X : World) (o : Obj), Only (fun _ => False) X (X.alloc o) := fun X o => (Only.refl _ X).alloc o
  replace hg := ((hg.only (noU _ (.cells #[.bool false] 4)) (fun h => h)).only (noU _ (.cells #[.int .i64 (wrap64 (g.fi - 1))] 3)) (fun h => h)).only (noU _ (.cells #[.slice A g.l.length c] 24)) (fun h => h)
  replace hres := (noU _ (.cells #[.slice A g.l.length c] 24)).boxed ((noU _ (.cells #[.int .i64 (wrap64 (g.fi - 1))] 3)).boxed hres (fun h => h)) (fun h => h)
  replace hlast := (noU _ (.cells #[.slice A g.l.length c] 24)).boxed hlast (fun h => h)
  have hrd := (((HR.out.alloc (.cells #[.int .i64 g.id, .int .i64 g.fi, .int .i64 g.tm, .int .i64 g.ht, .int .i64 g.hv, .int .i64 g.hc, .slice A g.l.length c] 26)).alloc (.cells #[.bool false] 4)).alloc (.cells #[.int .i64 (wrap64 (g.fi - 1))] 3)).alloc (.cells #[.slice A g.l.length c] 24)
  have hsz : ((((w.alloc (.cells #[.int .i64 g.id, .int .i64 g.fi, .int .i64 g.tm, .int .i64 g.ht, .int .i64 g.hv, .int .i64 g.hc, .slice A g.l.length c] 26)).alloc (.cells #[.bool false] 4)).alloc (.cells #[.int .i64 (wrap64 (g.fi - 1))] 3)).alloc (.cells #[.slice A g.l.length c] 24)).heap.size = s + 4 := by simp [hs]
  generalize ((((w.alloc (.cells #[.int .i64 g.id, .int .i64 g.fi, .int .i64 g.tm, .int .i64 g.ht, .int .i64 g.hv, .int .i64 g.hc, .slice A g.l.length c] 26)).alloc (.cells #[.bool false] 4)).alloc (.cells #[.int .i64 (wrap64 (g.fi - 1))] 3)).alloc (.cells #[.slice A g.l.length c] 24)) = W0 at hg hres hlast hsl hb0 hrd hsz ⊢
  clear hz1 hz2 hz3 noU
  have hR4 : ∀ b, inA A g.l b → b < s + 4 := fun b hb => by rw [← hsz]; exact hrd.lt hb
  have hRs : ∀ b, inA A g.l b → b < s := fun b hb => by rw [← hs]; exact HR.out.lt hb
  have hit := values_iter (s + 1 + 1 + 1) A c g.l W0 hsl hrd
  refine range_outer2 (gf := 53) (lb := #[.pointer (some ⟨s + 1 + 1 + 1, 0, none⟩)]) rfl (enters_of Try.func53 (by kernel_rfl) rfl) hit (fun q h => h.elim) (fun q h => by rcases h with rfl | h; omega; have := hR4 q h; omega) (fun _ => rfl)
    (fun k W => Boxed W (s + 1 + 1) 3 (.int .i64 (lastAt g.fi g.l k)) ∧ Boxed W (s + 1) 4 (.bool false) ∧ BoxG g A c s W ∧ Below s w W ∧ ∀ j, j < k → okS g.fi g.l j = true)
    (fun cd k W => cd = .ret ∧ Boxed W (s + 1) 4 (.bool false) ∧ Below s w W ∧ okS g.fi g.l k = false) ?hI ?hIx ?h0
    (fun x a' W => ∃ Bx, s + 5 < Bx ∧ BoxE x Bx W ∧ a' = { tmps := #[.agg #[.int .i64 g.id, .int .i64 g.fi, .int .i64 g.tm, .int .i64 g.ht, .int .i64 g.hv, .int .i64 g.hc, .slice A g.l.length c], .pointer (some ⟨s, 0, none⟩), .pointer (some ⟨s + 1, 0, none⟩), .pointer (some ⟨s + 1 + 1, 0, none⟩), .pointer (some ⟨Bx, 0, none⟩), .pointer (some ⟨s, 1, none⟩), .int .i64 g.fi, .int .i64 (wrap64 (g.fi - 1)), .pointer (some ⟨s, 6, none⟩), .slice A g.l.length c, .func (.func 53) #[] #[.pointer (some ⟨s + 1 + 1 + 1, 0, none⟩)], .agg #[.int .i64 x.f0, .int .i64 x.f1, .string x.f2], undef, undef, undef, undef, undef, undef, undef, undef, undef, undef, undef, undef, undef], defers := [] })
    ?hAx ?assign ?body ?done ?stop
  case hI =>
    rintro j X Y ⟨h1, h2, h3, h4, h5⟩ ho
    rw [hsz] at ho
    exact ⟨ho.boxed h1 (by intro h; rcases h with h | h | h; exact False.elim h; all_goals omega), ho.boxed h2 (by intro h; rcases h with h | h | h; exact False.elim h; all_goals omega), h3.only ho (by intro h; rcases h with h | h | h; exact False.elim h; all_goals omega), below_only h4 ho (by have := h4.size; omega) (fun q hq => (by intro h; rcases h with h | h | h; exact False.elim h; all_goals omega)), h5⟩
  case hIx =>
    rintro cd j X Y ⟨rfl, h2, h4, h5⟩ ho
    rw [hsz] at ho
    exact ⟨rfl, ho.boxed h2 (by intro h; rcases h with h | h | h; exact False.elim h; all_goals omega), below_only h4 ho (by have := h4.size; omega) (fun q hq => (by intro h; rcases h with h | h | h; exact False.elim h; all_goals omega)), h5⟩
  case h0 => exact ⟨hlast, hres, hg, hb0, fun j hj => by omega⟩
  case hAx =>
    rintro x a' X Y ⟨Bx, h1, h2, h3⟩ ho
    rw [hsz] at ho
    exact ⟨Bx, h1, h2.only ho (by intro h; rcases h with h | h | h; exact False.elim h; all_goals omega), h3⟩
  case assign =>
    rintro l j x W' K hx hi' hsz' hK
    rw [hsz] at hsz'
    gi_wp2
    exact hK _ _ (Keeps.alloc _ _ _) (by
      obtain ⟨h1, h2, h3, h4, h5⟩ := hi'
      exact ⟨((Only.refl (fun _ => False) W').alloc _).boxed h1 (fun h => h), ((Only.refl (fun _ => False) W').alloc _).boxed h2 (fun h => h), h3.only ((Only.refl (fun _ => False) W').alloc _) (fun h => h), h4.alloc (by have := h4.size; omega) _, h5⟩) ⟨W'.heap.size, by omega, BoxE.new x W', rfl⟩
  case body =>
    rintro l j x a' W hx rfl ⟨r, hr⟩ ⟨hl1, hr1, hg1, hbel, hok⟩ ⟨Bx, hBx, hbx, rfl⟩
    have hj : j < g.l.length := (List.getElem?_eq_some_iff.1 hx).1
    obtain rfl : el g.l j = x := by rw [el_some hj] at hx; exact Option.some.inj hx
    obtain ⟨x, hxe⟩ : ∃ x, el g.l j = x := ⟨_, rfl⟩
    obtain ⟨la, hla⟩ : ∃ la, lastAt g.fi g.l j = la := ⟨_, rfl⟩
    have HokS : Aside0 (okS g.fi g.l j = (isE x && decide (la < x.f0))) := ⟨by unfold okS; rw [hxe, hla]⟩
    have HNX : Aside0 (lastAt g.fi g.l (j + 1) = x.f0) := ⟨by unfold lastAt; rw [if_neg (by omega), Nat.add_sub_cancel, hxe]⟩
    rw [hxe] at hbx ⊢
    rw [hla] at hl1
    obtain ⟨b1, hb1⟩ : ∃ b, isE x = b := ⟨_, rfl⟩
    have HB1 := Aside0.mk hb1
    rw [hb1] at HokS
    clear hb1 hx hxe hla
    have HBE := Aside0.mk hbel
    have HK := Aside0.mk hok
    have HG1 := Aside0.mk hg1
    have HSZ := Aside0.mk hsz
    have HR4 := Aside0.mk hR4
    have HRs := Aside0.mk hRs
    have HBX := Aside0.mk hBx
    obtain ⟨e0, e1, e2⟩ := id hbx
    have HX := Aside0.mk hbx
    have HL1 := Aside0.mk hl1
    have HR1 := Aside0.mk hr1
    have hkp : ∀ q : Nat, (q = s + 1 ∨ q = s + 1 + 1) → ¬ ((q = s + 1 + 1 + 1 ∨ inA A g.l q) ∨ q = W0.heap.size ∨ q = W0.heap.size + 1) := fun q hq h => by
      rcases h with (h | h) | h | h
      · omega
      · have := hRs q h; omega
      · omega
      · omega
    have HKP := Aside0.mk hkp
    clear hbel hok hg1 hsz hR4 hRs hBx hbx hl1 hr1 hr hkp hit hg hres hlast hsl hb0 hrd
    cases b1 with
    | false =>
      gi_wp2_with (refine ⟨trivial, rfl, ?_⟩; gi_at_call 29; refine (CallsIn.inRound _ ((callsIn_wide (n := 0)).2 (isE_calls x _ HB1.out))).mono ?_; rintro e w1 ⟨rfl, hw1⟩; have HL2 := Aside0.mk ((only_below (U := fun _ => False) hw1).boxed HL1.out (fun h => h)); have HR2 := Aside0.mk ((only_below (U := fun _ => False) hw1).boxed HR1.out (fun h => h)); have HX2 := Aside0.mk (HX.out.below hw1); obtain ⟨f0, f1, f2⟩ := HX2.out; have hlc := HL2.out.cell; have hlf := HL2.out.frozen; have hrc := HR2.out.cell; have hrf := HR2.out.frozen; have HW1 := Aside0.mk hw1; clear hw1 e0 e1 e2)
      exact ⟨(keeps_below HW1.out).trans (Keeps.setCell _ _ (HKP.out _ (.inl rfl)) _), rfl, HR2.out.set (.bool false), (HBE.out.trans (HW1.out.mono (by have := HBE.out.size; omega))).setCell (p := ⟨s + 1, 0, none⟩) (by show s ≤ s + 1; omega) _, by rw [HokS.out]; rfl⟩
    | true =>
      obtain ⟨b2, hb2⟩ : ∃ b, decide (x.f0 ≤ la) = b := ⟨_, rfl⟩
      skip
      cases b2 with
      | true =>
        skip
        gi_wp2_with (refine ⟨trivial, rfl, ?_⟩; gi_at_call 29; refine (CallsIn.inRound _ ((callsIn_wide (n := 0)).2 (isE_calls x _ HB1.out))).mono ?_; rintro e w1 ⟨rfl, hw1⟩; have HL2 := Aside0.mk ((only_below (U := fun _ => False) hw1).boxed HL1.out (fun h => h)); have HR2 := Aside0.mk ((only_below (U := fun _ => False) hw1).boxed HR1.out (fun h => h)); have HX2 := Aside0.mk (HX.out.below hw1); obtain ⟨f0, f1, f2⟩ := HX2.out; have hlc := HL2.out.cell; have hlf := HL2.out.frozen; have hrc := HR2.out.cell; have hrf := HR2.out.frozen; have HW1 := Aside0.mk hw1; clear hw1 e0 e1 e2)
        exact ⟨(keeps_below HW1.out).trans (Keeps.setCell _ _ (HKP.out _ (.inl rfl)) _), rfl, HR2.out.set (.bool false), (HBE.out.trans (HW1.out.mono (by have := HBE.out.size; omega))).setCell (p := ⟨s + 1, 0, none⟩) (by show s ≤ s + 1; omega) _, by rw [HokS.out, Bool.true_and]; exact decide_eq_false (by have := of_decide_eq_true hb2; omega)⟩
      | false =>
        skip
        gi_wp2_with (refine ⟨trivial, rfl, ?_⟩; gi_at_call 29; refine (CallsIn.inRound _ ((callsIn_wide (n := 0)).2 (isE_calls x _ HB1.out))).mono ?_; rintro e w1 ⟨rfl, hw1⟩; have HL2 := Aside0.mk ((only_below (U := fun _ => False) hw1).boxed HL1.out (fun h => h)); have HR2 := Aside0.mk ((only_below (U := fun _ => False) hw1).boxed HR1.out (fun h => h)); have HX2 := Aside0.mk (HX.out.below hw1); obtain ⟨f0, f1, f2⟩ := HX2.out; have hlc := HL2.out.cell; have hlf := HL2.out.frozen; have hrc := HR2.out.cell; have hrf := HR2.out.frozen; have HW1 := Aside0.mk hw1; clear hw1 e0 e1 e2)
        have g2 := (HG1.out.below HW1.out).only (only1 (s + 1 + 1) w1 (.int .i64 (x.f0))) (by intro h; have : s = s + 1 + 1 := h; omega)
        have r2 := (only1 (s + 1 + 1) w1 (.int .i64 (x.f0))).boxed HR2.out (by intro h; have : s + 1 = s + 1 + 1 := h; omega)
        exact ⟨(keeps_below HW1.out).trans (Keeps.setCell _ _ (HKP.out _ (.inr rfl)) _), by rw [HNX.out]; exact HL2.out.set _, r2, g2, (HBE.out.trans (HW1.out.mono (by have := HBE.out.size; omega))).setCell (p := ⟨s + 1 + 1, 0, none⟩) (by show s ≤ s + 1 + 1; omega) _, fun q hq => by
          rcases Nat.lt_or_ge q j with h' | h'
          · exact HK.out q h'
          · obtain rfl : q = j := by omega
            rw [HokS.out, Bool.true_and]; exact decide_eq_true (by have := of_decide_eq_false hb2; omega)⟩
  case done =>
    rintro W ⟨h1, h2, h3, h4, h5⟩ hD
    have HH := Aside0.mk (show isG false g = headG g by rw [HSP.out, List.all_eq_true.2 (fun q hq => h5 q (List.mem_range.1 hq)), Bool.true_and])
    have H2 := Aside0.mk h2
    have H4 := Aside0.mk h4
    have HRW := Aside0.mk (HR.out.below (by rw [hs]; exact h4))
    obtain ⟨c0, c1, c2, c3, c4, c5, c6⟩ := h3
    have HD := Aside0.mk hD
    have HSZ := Aside0.mk hsz
    have HS0 := Aside0.mk hs
    clear h1 h2 h4 h5 hD hsz hs hR4 hRs hit hg hres hlast hsl hb0 hrd
    gi_wp2_with (refine ⟨trivial, rfl, ?_⟩; gi_at_call 30; refine ((callsIn_wide (n := 0)).2 (head_calls g A c _ HRW.out)).mono ?_; rintro e w2 ⟨rfl, hw2⟩; have HR2 := Aside0.mk ((only_below (U := fun _ => False) hw2).boxed H2.out (fun h => h)); have hrc := HR2.out.cell; have hrf := HR2.out.frozen; have HW2 := Aside0.mk hw2; clear hw2)
    have hD2 : (w2.setCell ⟨s + 1, 0, none⟩ (.bool (headG g))).heap[W0.heap.size]? = some (.deferred (some [])) := by
      have hlt := (Array.getElem?_eq_some_iff.1 HD.out).1
      have hne : W0.heap.size ≠ s + 1 := by have := HSZ.out; omega
      exact (Below.heap_setCell w2 ⟨s + 1, 0, none⟩ _ _ hne).trans ((HW2.out.block _ hlt).trans HD.out)
    refine Marks.leaves (n₀ := W0.heap.size) ((show Marks W0.heap.size [] _ from trivial).cons hD2 (Nat.le_refl _) (by simp)) fun W' hW' => ?_
    have hc := (hW'.boxed (HR2.out.set (.bool (headG g))) (by intro h; have h1 := h.1; have h2 := HSZ.out; omega)).cell
    refine ⟨.bool (headG g), by simp [results, Try.results13, go_sem, hc], by rw [HH.out], ?_⟩
    have g3 : Below w.heap.size w w2 := by rw [HS0.out]; exact H4.out.trans (HW2.out.mono (by have := H4.out.size; have := HS0.out; omega))
    have g4 := g3.setCell (p := ⟨s + 1, 0, none⟩) (by rw [HS0.out]; show s ≤ s + 1; omega) (.bool (headG g))
    exact g4.trans (hW'.below g4.size (fun q hq h => by have h1 := h.1; have h2 := HSZ.out; have h3 := HS0.out; omega))
  case stop =>
    rintro cd j x W hx ⟨rfl, h2, h4, h5⟩ hD
    have hj : j < g.l.length := (List.getElem?_eq_some_iff.1 hx).1
    have HH := Aside0.mk (show isG false g = false by rw [HSP.out, List.all_eq_false.2 ⟨j, List.mem_range.2 hj, by rw [h5]; decide⟩, Bool.false_and])
    have H2 := Aside0.mk h2
    have H4 := Aside0.mk h4
    have HSZ := Aside0.mk hsz
    have HS0 := Aside0.mk hs
    clear h2 h4 h5 hx hj hsz hs hR4 hRs hit hg hres hlast hsl hb0 hrd
    gi_wp2
    refine Marks.leaves (n₀ := W0.heap.size) ((show Marks W0.heap.size [] _ from trivial).cons hD (Nat.le_refl _) (by simp)) fun W' hW' => ?_
    have hc := (hW'.boxed H2.out (by intro h; have h1 := h.1; have h2 := HSZ.out; omega)).cell
    refine ⟨.bool false, by simp [results, Try.results13, go_sem, hc], by rw [HH.out], ?_⟩
    have g3 : Below w.heap.size w W := by rw [HS0.out]; exact H4.out
    exact g3.trans (hW'.below g3.size (fun q hq h => by have h1 := h.1; have h2 := HSZ.out; have h3 := HS0.out; omega))
end Go.Proofs.Ytfnflbclhaeedaa.PartW
namespace Go.Proofs.Ytfnflbclhaeedaa.PartW
open Go Go.RowKit Go.Shelf Go.Proofs.Ytfnflbclhaeedaa.A Go.Proofs.Ytfnflbclhaeedaa.Sp Go.Proofs.Ytfnflbclhaeedaa.Reg Go.Proofs.Ytfnflbclhaeedaa.Seq Go.Proofs.YtfnflbclhaeedaaW.PrintWords Go.Proofs.YtfnflbclhaeedaaW.PrintLast Go.Proofs.YtfnflbclhaeedaaW.PrintMore
theorem sparse_Dense (g : Grp) (A : Option Addr) (c : Nat) (w : World) (h : Rd w A c g.l) :
    Calls Try.prog 15 #[vG g A c] w fun e w' => e = .returned (.bool (isG true g)) ∧ Below w.heap.size w w' := by
  have HR := Aside0.mk h
  clear h
  unfold vG
  go_enter Try.func15, Try.ntmps15
  go_wp2_with (go_at_call 32; refine (group_Is g A c _ (HR.out.alloc _)).mono ?_; rintro e w1 ⟨rfl, hw1⟩)
  go_ret
  exact ⟨rfl, ((Below.refl _ _).alloc (Nat.le_refl _) _).trans (hw1.mono (by simp))⟩
end Go.Proofs.Ytfnflbclhaeedaa.PartW
namespace Go.Proofs.Ytfnflbclhaeedaa.PartW
open Go Go.RowKit Go.Shelf Go.Proofs.Ytfnflbclhaeedaa.A Go.Proofs.Ytfnflbclhaeedaa.Sp Go.Proofs.Ytfnflbclhaeedaa.Reg Go.Proofs.Ytfnflbclhaeedaa.Seq Go.Proofs.YtfnflbclhaeedaaW.PrintWords Go.Proofs.YtfnflbclhaeedaaW.PrintLast Go.Proofs.YtfnflbclhaeedaaW.PrintMore
theorem ref_IsSparse (g : Grp) (A : Option Addr) (c : Nat) (w : World) (h : Rd w A c g.l) :
    Calls Try.prog 14 #[vG g A c] w fun e w' => e = .returned (.bool (isG false g)) ∧ Below w.heap.size w w' := by
  have HR := Aside0.mk h
  clear h
  unfold vG
  go_enter Try.func14, Try.ntmps14
  go_wp2_with (go_at_call 31; refine (ref_is g A c false _ (HR.out.alloc _)).mono ?_; rintro e w1 ⟨rfl, hw1⟩)
  go_ret
  exact ⟨rfl, ((Below.refl _ _).alloc (Nat.le_refl _) _).trans (hw1.mono (by simp))⟩
end Go.Proofs.Ytfnflbclhaeedaa.PartW
namespace Go.Proofs.Ytfnflbclhaeedaa.PartW
open Go Go.RowKit Go.Shelf Go.Proofs.Ytfnflbclhaeedaa.A Go.Proofs.Ytfnflbclhaeedaa.Sp Go.Proofs.Ytfnflbclhaeedaa.Reg Go.Proofs.Ytfnflbclhaeedaa.Seq Go.Proofs.YtfnflbclhaeedaaW.PrintWords Go.Proofs.YtfnflbclhaeedaaW.PrintLast Go.Proofs.YtfnflbclhaeedaaW.PrintMore
attribute [local go_sem] Oper.semAt_some
set_option maxHeartbeats 1000000 in
theorem sparse_from (l : List Ent) (A : Option Addr) (c : Nat) (lo hi : Int) (w : World) (h : Rd w A c l) :
    Calls Try.prog 25 #[.slice A l.length c, .int .i64 lo, .int .i64 hi] w (Made w (withL l lo hi)) := by
  have HR := Aside0.mk h
  clear h
  have hg := BoxG.new ⟨0, 0, 0, 0, 0, 0, l⟩ A c w
  have h1 := Boxed.new (w.alloc (.cells #[.int .i64 0, .int .i64 0, .int .i64 0, .int .i64 0, .int .i64 0, .int .i64 0, .slice A l.length c] 26)) 3 (.int .i64 lo)
  have h2 := Boxed.new ((w.alloc (.cells #[.int .i64 0, .int .i64 0, .int .i64 0, .int .i64 0, .int .i64 0, .int .i64 0, .slice A l.length c] 26)).alloc (.cells #[.int .i64 lo] 3)) 3 (.int .i64 hi)
  rw [show (w.alloc (.cells #[.int .i64 0, .int .i64 0, .int .i64 0, .int .i64 0, .int .i64 0, .int .i64 0, .slice A l.length c] 26)).heap.size = w.heap.size + 1 by simp] at h1
  rw [show ((w.alloc (.cells #[.int .i64 0, .int .i64 0, .int .i64 0, .int .i64 0, .int .i64 0, .int .i64 0, .slice A l.length c] 26)).alloc (.cells #[.int .i64 lo] 3)).heap.size = w.heap.size + 1 + 1 by simp] at h2
  have hb : Below w.heap.size w (((w.alloc (.cells #[.int .i64 0, .int .i64 0, .int .i64 0, .int .i64 0, .int .i64 0, .int .i64 0, .slice A l.length c] 26)).alloc (.cells #[.int .i64 lo] 3)).alloc (.cells #[.int .i64 hi] 3)) := by
    refine ((((Below.refl _ w).alloc (Nat.le_refl _) _).alloc ?_ _).alloc ?_ _) <;> (simp; try omega)
  have hsz : (((w.alloc (.cells #[.int .i64 0, .int .i64 0, .int .i64 0, .int .i64 0, .int .i64 0, .int .i64 0, .slice A l.length c] 26)).alloc (.cells #[.int .i64 lo] 3)).alloc (.cells #[.int .i64 hi] 3)).heap.size = w.heap.size + 3 := by simp
  have noU : ∀ (X : World) (o : Obj), Only (fun _ => False) X (X.alloc o) := fun X o => (Only.refl _ X).alloc o
  replace hg := (hg.only (noU _ (.cells #[.int .i64 lo] 3)) (fun h => h)).only (noU _ (.cells #[.int .i64 hi] 3)) (fun h => h)
  replace h1 := (noU _ (.cells #[.int .i64 hi] 3)).boxed h1 (fun h => h)
  have hrd := ((HR.out.alloc (.cells #[.int .i64 0, .int .i64 0, .int .i64 0, .int .i64 0, .int .i64 0, .int .i64 0, .slice A l.length c] 26)).alloc (.cells #[.int .i64 lo] 3)).alloc (.cells #[.int .i64 hi] 3)
  obtain ⟨W0, hW0⟩ : ∃ W0, (((w.alloc (.cells #[.int .i64 0, .int .i64 0, .int .i64 0, .int .i64 0, .int .i64 0, .int .i64 0, .slice A l.length c] 26)).alloc (.cells #[.int .i64 lo] 3)).alloc (.cells #[.int .i64 hi] 3)) = W0 := ⟨_, rfl⟩
  rw [hW0] at hg h1 h2 hb hsz hrd
  have HIT := Aside0.mk (within_iter w.heap.size (w.heap.size + 1) (w.heap.size + 1 + 1) ⟨0, 0, 0, 0, 0, 0, l⟩ A c lo hi W0 hg h1 h2 hrd)
  have HRR : Aside0 (∀ k, ((k = w.heap.size ∨ k = w.heap.size + 1 ∨ k = w.heap.size + 1 + 1) ∨ inA A l k) → k < W0.heap.size) := ⟨fun k hk => by
    rcases hk with hk | hk
    · rw [hsz]; omega
    · exact hrd.lt hk⟩
  have HLN : Aside0 ((withL l lo hi).length ≤ 4398046511104) := ⟨Nat.le_trans (List.length_filter_le _ _) HR.out.bd⟩
  have HB := Aside0.mk hb
  have HSZ := Aside0.mk hsz
  have HWW : Aside0 ((((w.alloc (.cells #[.int .i64 0, .int .i64 0, .int .i64 0, .int .i64 0, .int .i64 0, .int .i64 0, .slice A l.length c] 26)).alloc (.cells #[.int .i64 lo] 3)).alloc (.cells #[.int .i64 hi] 3)) = W0) := ⟨hW0⟩
  clear hg h1 h2 hb hsz hrd hW0 noU
  go_enter Try.func25, Try.ntmps25
  go_wp2_with (first
    | (go_at_call 50; refine ((callsIn_wide (n := 0)).1 (within_calls' ⟨0, 0, 0, 0, 0, 0, l⟩ A c lo hi _)).mono ?_; rintro e w1 ⟨rfl, hw1⟩; obtain rfl := hw1.trans HWW.out; clear hw1)
    | (go_at_call 49; refine (collect_calls _ HIT.out HRR.out (enters_of Try.func57 (by kernel_rfl) rfl) HLN.out).mono ?_; rintro e w2 ⟨v, rfl, h1, h2⟩; have H1 := Aside0.mk h1; have H2 := Aside0.mk h2; clear h1 h2))
  go_ret
  exact ⟨v, rfl, H1.out.mono (by have := HSZ.out; omega), HB.out.trans (H2.out.mono (by have := HSZ.out; omega))⟩
end Go.Proofs.Ytfnflbclhaeedaa.PartW
namespace Go.Proofs.Ytfnflbclhaeedaa.PartW
open Go Go.RowKit Go.Shelf Go.Proofs.Ytfnflbclhaeedaa.A Go.Proofs.Ytfnflbclhaeedaa.Sp Go.Proofs.Ytfnflbclhaeedaa.Reg Go.Proofs.Ytfnflbclhaeedaa.Seq Go.Proofs.YtfnflbclhaeedaaW.PrintWords Go.Proofs.YtfnflbclhaeedaaW.PrintLast Go.Proofs.YtfnflbclhaeedaaW.PrintMore
attribute [local go_sem] Oper.semAt_some
set_option maxHeartbeats 4000000 in
set_option maxRecDepth 100000 in
theorem sparse_term (g : Grp) (A : Option Addr) (c : Nat) (i : Int) (w : World) (h : Rd w A c g.l) (hi0 : 0 ≤ i) (hi1 : i ≤ 1099511627776) :
    Calls Try.prog 51 #[vG g A c, .int .i64 i] w fun e w' => e = .returned (.int .i64 (termL g.l i)) ∧ Below w.heap.size w w' := by
  have HR := Aside0.mk h
  clear h
  refine (callsIn_wide (n := 0)).1 ?_
  unfold vG
  refine callsIn_of_wp_marks Try.func51 rfl trivial ?_
  simp only [Try.ntmps51, List.size_toArray, List.length_cons, List.length_nil, Nat.reduceAdd, Nat.reduceSub, Array.replicate_succ, Array.replicate_zero, List.push_toArray, List.append_toArray, List.nil_append, List.cons_append]
  gi_wp2_with (refine ⟨trivial, rfl, ?_⟩; gi_at_call 50; refine (within_calls' g A c _ _ _).mono ?_; rintro e w' ⟨rfl, rfl⟩)
  obtain ⟨s, hs⟩ : ∃ s, w.heap.size = s := ⟨_, rfl⟩
  have hz1 : (w.alloc (.cells #[.int .i64 g.id, .int .i64 g.fi, .int .i64 g.tm, .int .i64 g.ht, .int .i64 g.hv, .int .i64 g.hc, .slice A g.l.length c] 26)).heap.size = s + 1 := by simp [hs]
  have hz2 : ((w.alloc (.cells #[.int .i64 g.id, .int .i64 g.fi, .int .i64 g.tm, .int .i64 g.ht, .int .i64 g.hv, .int .i64 g.hc, .slice A g.l.length c] 26)).alloc (.cells #[.int .i64 0] 3)).heap.size = s + 1 + 1 := by simp [hs]
  have hz3 : (((w.alloc (.cells #[.int .i64 g.id, .int .i64 g.fi, .int .i64 g.tm, .int .i64 g.ht, .int .i64 g.hv, .int .i64 g.hc, .slice A g.l.length c] 26)).alloc (.cells #[.int .i64 0] 3)).alloc (.cells #[.int .i64 g.id, .int .i64 g.fi, .int .i64 g.tm, .int .i64 g.ht, .int .i64 g.hv, .int .i64 g.hc, .slice A g.l.length c] 26)).heap.size = s + 1 + 1 + 1 := by simp [hs]
  have hz4 : ((((w.alloc (.cells #[.int .i64 g.id, .int .i64 g.fi, .int .i64 g.tm, .int .i64 g.ht, .int .i64 g.hv, .int .i64 g.hc, .slice A g.l.length c] 26)).alloc (.cells #[.int .i64 0] 3)).alloc (.cells #[.int .i64 g.id, .int .i64 g.fi, .int .i64 g.tm, .int .i64 g.ht, .int .i64 g.hv, .int .i64 g.hc, .slice A g.l.length c] 26)).alloc (.cells #[.int .i64 i] 3)).heap.size = s + 1 + 1 + 1 + 1 := by simp [hs]
  have hres := Boxed.new (w.alloc (.cells #[.int .i64 g.id, .int .i64 g.fi, .int .i64 g.tm, .int .i64 g.ht, .int .i64 g.hv, .int .i64 g.hc, .slice A g.l.length c] 26)) 3 (.int .i64 0)
  have hg := BoxG.new g A c ((w.alloc (.cells #[.int .i64 g.id, .int .i64 g.fi, .int .i64 g.tm, .int .i64 g.ht, .int .i64 g.hv, .int .i64 g.hc, .slice A g.l.length c] 26)).alloc (.cells #[.int .i64 0] 3))
  have h1 := Boxed.new (((w.alloc (.cells #[.int .i64 g.id, .int .i64 g.fi, .int .i64 g.tm, .int .i64 g.ht, .int .i64 g.hv, .int .i64 g.hc, .slice A g.l.length c] 26)).alloc (.cells #[.int .i64 0] 3)).alloc (.cells #[.int .i64 g.id, .int .i64 g.fi, .int .i64 g.tm, .int .i64 g.ht, .int .i64 g.hv, .int .i64 g.hc, .slice A g.l.length c] 26)) 3 (.int .i64 i)
  have h2 := Boxed.new ((((w.alloc (.cells #[.int .i64 g.id, .int .i64 g.fi, .int .i64 g.tm, .int .i64 g.ht, .int .i64 g.hv, .int .i64 g.hc, .slice A g.l.length c] 26)).alloc (.cells #[.int .i64 0] 3)).alloc (.cells #[.int .i64 g.id, .int .i64 g.fi, .int .i64 g.tm, .int .i64 g.ht, .int .i64 g.hv, .int .i64 g.hc, .slice A g.l.length c] 26)).alloc (.cells #[.int .i64 i] 3)) 3 (.int .i64 (i + 1))
  have hb0 : Below w.heap.size w (((((w.alloc (.cells #[.int .i64 g.id, .int .i64 g.fi, .int .i64 g.tm, .int .i64 g.ht, .int .i64 g.hv, .int .i64 g.hc, .slice A g.l.length c] 26)).alloc (.cells #[.int .i64 0] 3)).alloc (.cells #[.int .i64 g.id, .int .i64 g.fi, .int .i64 g.tm, .int .i64 g.ht, .int .i64 g.hv, .int .i64 g.hc, .slice A g.l.length c] 26)).alloc (.cells #[.int .i64 i] 3)).alloc (.cells #[.int .i64 (i + 1)] 3)) := by
    refine ((((((Below.refl _ w).alloc (Nat.le_refl _) _).alloc ?_ _).alloc ?_ _).alloc ?_ _).alloc ?_ _) <;> (simp; try omega)
  rw [hz1] at hres
  rw [hz2] at hg
  rw [hz3] at h1
  rw [hz4] at h2
  rw [hs] at hb0 ⊢
  have noU : ∀ (X : World) (o : Obj), Only (fun _ => False) X (X.alloc o) := fun X o => (Only.refl _ X).alloc o
  replace hres := (noU _ (.cells #[.int .i64 (i + 1)] 3)).boxed ((noU _ (.cells #[.int .i64 i] 3)).boxed ((noU _ (.cells #[.int .i64 g.id, .int .i64 g.fi, .int .i64 g.tm, .int .i64 g.ht, .int .i64 g.hv, .int .i64 g.hc, .slice A g.l.length c] 26)).boxed hres (fun h => h)) (fun h => h)) (fun h => h)
  replace hg := (hg.only (noU _ (.cells #[.int .i64 i] 3)) (fun h => h)).only (noU _ (.cells #[.int .i64 (i + 1)] 3)) (fun h => h)
  replace h1 := (noU _ (.cells #[.int .i64 (i + 1)] 3)).boxed h1 (fun h => h)
  have hrd := ((((HR.out.alloc (.cells #[.int .i64 g.id, .int .i64 g.fi, .int .i64 g.tm, .int .i64 g.ht, .int .i64 g.hv, .int .i64 g.hc, .slice A g.l.length c] 26)).alloc (.cells #[.int .i64 0] 3)).alloc (.cells #[.int .i64 g.id, .int .i64 g.fi, .int .i64 g.tm, .int .i64 g.ht, .int .i64 g.hv, .int .i64 g.hc, .slice A g.l.length c] 26)).alloc (.cells #[.int .i64 i] 3)).alloc (.cells #[.int .i64 (i + 1)] 3)
  have hsz : (((((w.alloc (.cells #[.int .i64 g.id, .int .i64 g.fi, .int .i64 g.tm, .int .i64 g.ht, .int .i64 g.hv, .int .i64 g.hc, .slice A g.l.length c] 26)).alloc (.cells #[.int .i64 0] 3)).alloc (.cells #[.int .i64 g.id, .int .i64 g.fi, .int .i64 g.tm, .int .i64 g.ht, .int .i64 g.hv, .int .i64 g.hc, .slice A g.l.length c] 26)).alloc (.cells #[.int .i64 i] 3)).alloc (.cells #[.int .i64 (i + 1)] 3)).heap.size = s + 5 := by simp [hs]
  generalize (((((w.alloc (.cells #[.int .i64 g.id, .int .i64 g.fi, .int .i64 g.tm, .int .i64 g.ht, .int .i64 g.hv, .int .i64 g.hc, .slice A g.l.length c] 26)).alloc (.cells #[.int .i64 0] 3)).alloc (.cells #[.int .i64 g.id, .int .i64 g.fi, .int .i64 g.tm, .int .i64 g.ht, .int .i64 g.hv, .int .i64 g.hc, .slice A g.l.length c] 26)).alloc (.cells #[.int .i64 i] 3)).alloc (.cells #[.int .i64 (i + 1)] 3)) = W0 at hres hg h1 h2 hb0 hrd hsz ⊢
  clear hz1 hz2 hz3 hz4 noU
  have hit := within_iter (s + 1 + 1) (s + 1 + 1 + 1) (s + 1 + 1 + 1 + 1) g A c i (i + 1) W0 hg h1 h2 hrd
  have hRs : ∀ b, inA A g.l b → b < s := fun b hb => by rw [← hs]; exact HR.out.lt hb
  refine range_outer2 (gf := 57) (lb := #[.pointer (some ⟨s + 1 + 1, 0, none⟩), .pointer (some ⟨s + 1 + 1 + 1, 0, none⟩), .pointer (some ⟨s + 1 + 1 + 1 + 1, 0, none⟩)]) rfl (enters_of Try.func57 (by kernel_rfl) rfl) hit (fun q h => h.elim) (fun q h => by rcases h with h | h; omega; have := hRs q h; omega) (fun _ => rfl)
    (fun k W => k = 0 ∧ Boxed W (s + 1) 3 (.int .i64 0) ∧ Below s w W)
    (fun cd k W => cd = .ret ∧ k = 0 ∧ (∃ x, (withL g.l i (i + 1))[0]? = some x ∧ Boxed W (s + 1) 3 (.int .i64 x.f1)) ∧ Below s w W) ?hI ?hIx ?h0
    (fun x a' W => ∃ Bx, s + 6 < Bx ∧ BoxE x Bx W ∧ a' = { tmps := #[.agg #[.int .i64 g.id, .int .i64 g.fi, .int .i64 g.tm, .int .i64 g.ht, .int .i64 g.hv, .int .i64 g.hc, .slice A g.l.length c], .int .i64 i, .pointer (some ⟨s, 0, none⟩), undef, .pointer (some ⟨s + 1, 0, none⟩), .pointer (some ⟨Bx, 0, none⟩), .agg #[.int .i64 g.id, .int .i64 g.fi, .int .i64 g.tm, .int .i64 g.ht, .int .i64 g.hv, .int .i64 g.hc, .slice A g.l.length c], .int .i64 i, .int .i64 i, .int .i64 (i + 1), .func (.func 57) #[] #[.pointer (some ⟨s + 1 + 1, 0, none⟩), .pointer (some ⟨s + 1 + 1 + 1, 0, none⟩), .pointer (some ⟨s + 1 + 1 + 1 + 1, 0, none⟩)], .agg #[.int .i64 x.f0, .int .i64 x.f1, .string x.f2], undef, undef], defers := [] })
    ?hAx ?assign ?body ?done ?stop
  case hI =>
    rintro j X Y ⟨h1, h2, h3⟩ ho
    rw [hsz] at ho
    exact ⟨h1, ho.boxed h2 (by intro h; rcases h with h | h | h; exact False.elim h; all_goals omega), below_only h3 ho (by have := h3.size; omega) (fun q hq => (by intro h; rcases h with h | h | h; exact False.elim h; all_goals omega))⟩
  case hIx =>
    rintro cd j X Y ⟨rfl, h1, ⟨x, hx, h2⟩, h3⟩ ho
    rw [hsz] at ho
    exact ⟨rfl, h1, ⟨x, hx, ho.boxed h2 (by intro h; rcases h with h | h | h; exact False.elim h; all_goals omega)⟩, below_only h3 ho (by have := h3.size; omega) (fun q hq => (by intro h; rcases h with h | h | h; exact False.elim h; all_goals omega))⟩
  case h0 => exact ⟨rfl, hres, hb0⟩
  case hAx =>
    rintro x a' X Y ⟨Bx, h1, h2, h3⟩ ho
    rw [hsz] at ho
    exact ⟨Bx, h1, h2.only ho (by intro h; rcases h with h | h | h; exact False.elim h; all_goals omega), h3⟩
  case assign =>
    rintro l j x W' K hx ⟨h1, h2, h3⟩ hsz' hK
    rw [hsz] at hsz'
    clear hit
    gi_wp2
    exact hK _ _ (Keeps.alloc _ _ _) ⟨h1, ((Only.refl (fun _ => False) W').alloc _).boxed h2 (fun h => h), h3.alloc (by have := h3.size; omega) _⟩ ⟨W'.heap.size, by omega, BoxE.new x W', rfl⟩
  case body =>
    rintro l j x a' W hx rfl ⟨r, hr⟩ ⟨rfl, hr1, hbel⟩ ⟨Bx, hBx, hbx, rfl⟩
    have hrlt := (Array.getElem?_eq_some_iff.1 hr).1
    obtain ⟨e0, e1, e2⟩ := hbx
    have hrc := hr1.cell
    have hrf := hr1.frozen
    have HX := Aside0.mk hx
    have HR1 := Aside0.mk hr1
    have HB := Aside0.mk hbel
    have HRS := Aside0.mk hRs
    have HSZ := Aside0.mk hsz
    clear hx hr1 hbel hRs hr hrlt hit hg hres h1 h2 hb0 hrd hsz
    gi_wp2
    exact ⟨Keeps.setCell _ _ (fun h => by
      have hs0 := HSZ.out
      rcases h with (h | h) | h | h
      · have h' : s + 1 = s + 1 + 1 ∨ s + 1 = s + 1 + 1 + 1 ∨ s + 1 = s + 1 + 1 + 1 + 1 := h; omega
      · have := HRS.out _ h; have h' : s + 1 < s := this; omega
      · have h' : s + 1 = W0.heap.size := h; omega
      · have h' : s + 1 = W0.heap.size + 1 := h; omega) _, rfl, rfl, ⟨x, HX.out, HR1.out.set _⟩, HB.out.setCell (p := ⟨s + 1, 0, none⟩) (by show s ≤ s + 1; omega) _⟩
  case done =>
    rintro W ⟨hn, h2, h3⟩ hD
    have HH := Aside0.mk (show termL g.l i = 0 by unfold termL; rw [← with_one, List.getElem?_eq_none (by omega)])
    have H2 := Aside0.mk h2
    have H3 := Aside0.mk h3
    have HD := Aside0.mk hD
    have HSZ := Aside0.mk hsz
    have HS0 := Aside0.mk hs
    have hrc := h2.cell
    have hrf := h2.frozen
    clear h2 h3 hn hD hsz hs hRs hit hg hres h1 hb0 hrd
    gi_wp2
    have hD2 : (W.setCell ⟨s + 1, 0, none⟩ (.int .i64 0)).heap[W0.heap.size]? = some (.deferred (some [])) := by
      have hne : W0.heap.size ≠ s + 1 := by have := HSZ.out; omega
      exact (Below.heap_setCell W ⟨s + 1, 0, none⟩ _ _ hne).trans HD.out
    refine Marks.leaves (n₀ := W0.heap.size) ((show Marks W0.heap.size [] _ from trivial).cons hD2 (Nat.le_refl _) (by simp)) fun W' hW' => ?_
    have hc := (hW'.boxed (H2.out.set (.int .i64 0)) (by intro h; have h1 := h.1; have h2 := HSZ.out; omega)).cell
    refine ⟨.int .i64 0, by simp [results, Try.results51, go_sem, hc], by rw [HH.out], ?_⟩
    have g3 : Below w.heap.size w W := by rw [HS0.out]; exact H3.out
    have g4 := g3.setCell (p := ⟨s + 1, 0, none⟩) (by rw [HS0.out]; show s ≤ s + 1; omega) (.int .i64 0)
    exact g4.trans (hW'.below g4.size (fun q hq h => by have h1 := h.1; have h2 := HSZ.out; have h3 := HS0.out; omega))
  case stop =>
    rintro cd j x W hx ⟨rfl, rfl, ⟨y, hy, h2⟩, h3⟩ hD
    have HH := Aside0.mk (show termL g.l i = y.f1 by unfold termL; rw [← with_one, hy])
    have H2 := Aside0.mk h2
    have H3 := Aside0.mk h3
    have HSZ := Aside0.mk hsz
    have HS0 := Aside0.mk hs
    clear h2 h3 hx hy hsz hs hRs hit hg hres h1 hb0 hrd
    gi_wp2
    refine Marks.leaves (n₀ := W0.heap.size) ((show Marks W0.heap.size [] _ from trivial).cons hD (Nat.le_refl _) (by simp)) fun W' hW' => ?_
    have hc := (hW'.boxed H2.out (by intro h; have h1 := h.1; have h2 := HSZ.out; omega)).cell
    refine ⟨.int .i64 y.f1, by simp [results, Try.results51, go_sem, hc], by rw [HH.out], ?_⟩
    have g3 : Below w.heap.size w W := by rw [HS0.out]; exact H3.out
    exact g3.trans (hW'.below g3.size (fun q hq h => by have h1 := h.1; have h2 := HSZ.out; have h3 := HS0.out; omega))
end Go.Proofs.Ytfnflbclhaeedaa.PartW
namespace Go.Proofs.Ytfnflbclhaeedaa.PartW
open Go Go.RowKit Go.Shelf Go.Proofs.Ytfnflbclhaeedaa.A Go.Proofs.Ytfnflbclhaeedaa.Sp Go.Proofs.Ytfnflbclhaeedaa.Reg Go.Proofs.Ytfnflbclhaeedaa.Seq Go.Proofs.YtfnflbclhaeedaaW.PrintWords Go.Proofs.YtfnflbclhaeedaaW.PrintLast Go.Proofs.YtfnflbclhaeedaaW.PrintMore
theorem there1_calls (x : Ent) (B : Nat) (i : Int) (w : World) (h : Boxed w B 3 (.int .i64 i)) :
    Calls Try.prog 59 #[.agg #[.int .i64 x.f0, .int .i64 x.f1, .string x.f2], .pointer (some ⟨B, 0, none⟩)] w fun e w' => e = .returned (.bool (x.f0 == i)) ∧ Below w.heap.size w w' := by
  have hc := (((Only.refl (fun _ => False) w).alloc (.cells #[.int .i64 x.f0, .int .i64 x.f1, .string x.f2] 38)).boxed h (fun h => h)).cell
  clear h
  go_enter Try.func59, Try.ntmps59
  go_wp2
  go_ret
  exact ⟨rfl, (Below.refl _ _).alloc (Nat.le_refl _) _⟩
set_option maxHeartbeats 1000000 in
theorem indexFunc_calls (l : List Ent) (A : Option Addr) (c : Nat) (B : Nat) (i : Int) (w : World) (h : Rd w A c l) (hb : Boxed w B 3 (.int .i64 i)) :
    Calls Try.prog 60 #[.slice A l.length c, .func (.func 59) #[] #[.pointer (some ⟨B, 0, none⟩)]] w fun e w' => e = .returned (.int .i64 (atL l i)) ∧ Below w.heap.size w w' := by
  have HR := Aside0.mk h
  have HBX := Aside0.mk hb
  have hbd := h.bd
  clear h hb
  go_enter Try.func60, Try.ntmps60
  go_wp2
  go_loopw [8] (fun v wr => ∃ k : Nat, k ≤ l.length ∧ v = .int .i64 k ∧ Aside0 (∀ j, j < k → (el l j).f0 ≠ i) ∧ Aside0 (Below w.heap.size w wr)) (fun v _ => l.length - (intOf v).toNat)
  case atStart => exact ⟨0, Nat.zero_le _, rfl, ⟨fun j hj => by omega⟩, ⟨Below.refl _ _⟩⟩
  case round =>
    obtain ⟨k, hk, rfl, HK, HB⟩ := hrel
    by_cases hlt : k < l.length
    · obtain ⟨ad, rfl, g0, g1, g2⟩ := HR.out.at_ hlt
      replace g0 := (HB.out.cell (World.block_lt_of_cell? w _ g0)).trans g0
      replace g1 := (HB.out.cell (World.block_lt_of_cell? w _ g1)).trans g1
      replace g2 := (HB.out.cell (World.block_lt_of_cell? w _ g2)).trans g2
      by_cases he : (el l k).f0 = i
      · have HE := Aside0.mk (atL_hit hlt he HK.out)
        have HV := Aside0.mk (show ((el l k).f0 == i) = true from beq_iff_eq.2 he)
        clear he
        go_wp2_with (go_at_call 59; refine (there1_calls _ B i _ ((only_below (U := fun _ => False) HB.out).boxed HBX.out (fun h => h))).mono ?_; rw [HV.out]; rintro e w1 ⟨rfl, hw1⟩; have HW1 := Aside0.mk hw1; clear hw1 g0 g1 g2)
        go_ret
        exact ⟨by rw [HE.out]; rfl, HB.out.trans (HW1.out.mono HB.out.size)⟩
      · have HN : Aside0 (∀ j, j < k + 1 → (el l j).f0 ≠ i) := ⟨fun j hj => by
          rcases Nat.lt_or_ge j k with h' | h'
          · exact HK.out j h'
          · obtain rfl : j = k := by omega
            exact he⟩
        have HV := Aside0.mk (show ((el l k).f0 == i) = false from beq_eq_false_iff_ne.2 he)
        clear he
        go_wp2_with (go_at_call 59; refine (there1_calls _ B i _ ((only_below (U := fun _ => False) HB.out).boxed HBX.out (fun h => h))).mono ?_; rw [HV.out]; rintro e w1 ⟨rfl, hw1⟩; have HW1 := Aside0.mk hw1; clear hw1 g0 g1 g2)
        go_roundw
        case rel => exact ⟨k + 1, by omega, by go_num, HN, ⟨HB.out.trans (HW1.out.mono HB.out.size)⟩⟩
        case measure => simp [intOf]; omega
    · obtain rfl : k = l.length := by omega
      have HE := Aside0.mk (atL_miss HK.out)
      go_wp2
      go_ret
      exact ⟨by rw [HE.out]; rfl, HB.out⟩
theorem containsFunc_calls (l : List Ent) (A : Option Addr) (c : Nat) (B : Nat) (i : Int) (w : World) (h : Rd w A c l) (hb : Boxed w B 3 (.int .i64 i)) :
    Calls Try.prog 58 #[.slice A l.length c, .func (.func 59) #[] #[.pointer (some ⟨B, 0, none⟩)]] w fun e w' => e = .returned (.bool (decide (0 ≤ atL l i))) ∧ Below w.heap.size w w' := by
  have HC := Aside0.mk (indexFunc_calls l A c B i w h hb)
  clear h hb
  go_enter Try.func58, Try.ntmps58
  go_wp2_with (go_at_call 60; refine HC.out.mono ?_; rintro e w1 ⟨rfl, hw1⟩)
  go_ret
  exact ⟨rfl, hw1⟩
theorem sparse_there (g : Grp) (A : Option Addr) (c : Nat) (i : Int) (w : World) (h : Rd w A c g.l) :
    Calls Try.prog 52 #[vG g A c, .int .i64 i] w fun e w' => e = .returned (.bool (decide (0 ≤ atL g.l i))) ∧ Below w.heap.size w w' := by
  have HR := Aside0.mk h
  clear h
  unfold vG
  go_enter Try.func52, Try.ntmps52
  go_wp2_with (go_at_call 58; refine (containsFunc_calls g.l A c _ i _ ((HR.out.alloc _).alloc _) (by first | exact Boxed.new _ _ _ | (have := Boxed.new (w.alloc (.cells #[.int .i64 g.id, .int .i64 g.fi, .int .i64 g.tm, .int .i64 g.ht, .int .i64 g.hv, .int .i64 g.hc, .slice A g.l.length c] 26)) 3 (.int .i64 i); rwa [World.size_alloc] at this))).mono ?_; rintro e w1 ⟨rfl, hw1⟩; have HW1 := Aside0.mk hw1; clear hw1)
  go_ret
  exact ⟨rfl, (((Below.refl _ _).alloc (Nat.le_refl _) _).alloc (by simp) _).trans (HW1.out.mono (by simp; omega))⟩
end Go.Proofs.Ytfnflbclhaeedaa.PartW
namespace Go.Proofs.Ytfnflbclhaeedaa.Sp
open Go Go.RowKit Go.Proofs.Ytfnflbclhaeedaa.A Go.Proofs.YtfnflbclhaeedaaW.PrintWords Go.Proofs.YtfnflbclhaeedaaW.PrintLast Go.Proofs.YtfnflbclhaeedaaW.PrintMore
/-- a group of which all is gone up to an index, if it isn't yet -/
def goneG (g : Grp) (i t : Int) : Grp := if i < g.fi then g else ⟨g.id, i + 1, if t = 0 then termL g.l i else t, g.ht, g.hv, g.hc, withL g.l (i + 1) 1099511627777⟩
end Go.Proofs.Ytfnflbclhaeedaa.Sp
namespace Go.Proofs.Ytfnflbclhaeedaa.PartW
open Go Go.RowKit Go.Shelf Go.Proofs.Ytfnflbclhaeedaa.A Go.Proofs.Ytfnflbclhaeedaa.Sp Go.Proofs.Ytfnflbclhaeedaa.Reg Go.Proofs.Ytfnflbclhaeedaa.Seq Go.Proofs.YtfnflbclhaeedaaW.PrintWords Go.Proofs.YtfnflbclhaeedaaW.PrintLast Go.Proofs.YtfnflbclhaeedaaW.PrintMore
set_option maxHeartbeats 4000000 in
set_option maxRecDepth 100000 in
theorem sparse_gone (g : Grp) (A : Option Addr) (c : Nat) (i t : Int) (w : World) (h : Rd w A c g.l) (hi0 : 0 ≤ i) (hi1 : i ≤ 1099511627776) :
    Calls Try.prog 26 #[vG g A c, .int .i64 i, .int .i64 t] w (GotG w (goneG g i t)) := by
  have HR := Aside0.mk h
  clear h
  unfold vG
  by_cases h1 : i < g.fi
  · have HG : Aside0 (goneG g i t = g) := ⟨by unfold goneG; rw [if_pos h1]⟩
    go_enter Try.func26, Try.ntmps26
    go_wp2
    refine bodyPost_ret (v := vG g A c) (by simp [results, Try.results26, go_sem, vG]) rfl ⟨A, c, by rw [HG.out], by rw [HG.out]; repeat (first | exact HR.out | apply Rd.alloc), by repeat (first | exact Below.refl _ _ | apply below_alloc | apply pw_below_drewN | apply below_drew1)⟩
  · have HG : Aside0 (goneG g i t = ⟨g.id, i + 1, if t = 0 then termL g.l i else t, g.ht, g.hv, g.hc, withL g.l (i + 1) 1099511627777⟩) := ⟨by unfold goneG; rw [if_neg h1]⟩
    have t1 : decide (i < g.fi) = false := decide_eq_false h1
    have HLN : Aside0 ((withL g.l (i + 1) 1099511627777).length ≤ 4398046511104) := ⟨Nat.le_trans (List.length_filter_le _ _) HR.out.bd⟩
    have hbg := BlkG.new g A c w
    have hbz := BlkG.new ⟨0, 0, 0, 0, 0, 0, []⟩ none 0 (w.alloc (.cells #[.int .i64 g.id, .int .i64 g.fi, .int .i64 g.tm, .int .i64 g.ht, .int .i64 g.hv, .int .i64 g.hc, .slice A g.l.length c] 26))
    rw [World.size_alloc] at hbz
    have HBG := Aside0.mk (hbg.alloc (.cells #[.int .i64 0, .int .i64 0, .int .i64 0, .int .i64 0, .int .i64 0, .int .i64 0, .slice none 0 0] 26))
    have HBZ := Aside0.mk hbz
    clear h1 hbg hbz
    by_cases h2 : t = 0
    · subst h2
      have HT : Aside0 ((if (0 : Int) = 0 then termL g.l i else 0) = termL g.l i) := ⟨if_pos rfl⟩
      have HR2 := Aside0.mk ((HR.out.alloc (.cells #[.int .i64 g.id, .int .i64 g.fi, .int .i64 g.tm, .int .i64 g.ht, .int .i64 g.hv, .int .i64 g.hc, .slice A g.l.length c] 26)).alloc (.cells #[.int .i64 0, .int .i64 0, .int .i64 0, .int .i64 0, .int .i64 0, .int .i64 0, .slice none 0 0] 26))
      go_enter Try.func26, Try.ntmps26
      go_wp2_with (first | (go_at_call 51; refine (sparse_term g A c i _ (by repeat (first | exact HR.out | apply Rd.alloc)) hi0 hi1).mono ?_; rintro e w0 ⟨rfl, hw0⟩; have HW0 := Aside0.mk hw0; have HG0 := Aside0.mk (HBG.out.below hw0); have HZ0 := Aside0.mk (HBZ.out.below hw0); obtain ⟨e0, e1, e2, e3, e4, e5, e6⟩ := HG0.out.box; clear hw0) | (go_at_call 25; refine (sparse_from g.l A c (i + 1) 1099511627777 _ (HR2.out.below HW0.out)).mono ?_; rintro e w1 ⟨v, rfl, ho, hw1⟩; obtain ⟨A', c', rfl, hrd, hfr⟩ := ho.rd' HLN.out; have HFR := Aside0.mk hfr; have HRD := Aside0.mk hrd; have HW1 := Aside0.mk hw1; have G1 := HG0.out.below hw1; have Z1 := HZ0.out.below hw1; clear e0 e1 e2 e3 e4 e5 e6; obtain ⟨e0, e1, e2, e3, e4, e5, e6⟩ := G1.box; obtain ⟨z0, z1, z2, z3, z4, z5, z6⟩ := Z1.box; have ef := G1.free; have zf := Z1.free; clear ho hrd hfr hw1 G1 Z1))
      refine bodyPost_ret (v := vG ⟨g.id, i + 1, termL g.l i, g.ht, g.hv, g.hc, withL g.l (i + 1) 1099511627777⟩ A' c') (by simp [results, Try.results26, go_sem, vG, z0, z1, z2, z3, z4, z5, z6]) rfl ⟨A', c', by rw [HG.out, HT.out], ?_, ?_⟩
      · rw [HG.out]
        refine HRD.out.only (U := fun k => k = w.heap.size ∨ k = w.heap.size + 1) ?_ (fun b hb h => by have h1 := HFR.out b hb; have h2 := HW0.out.size; simp at h2; omega)
        iterate 7 refine Only.setCell ?_ (.inr rfl) _
        iterate 3 refine Only.setCell ?_ (.inl rfl) _
        exact Only.refl _ _
      · have hb2 : Below w.heap.size w w1 := ((((Below.refl _ w).alloc (Nat.le_refl _) _).alloc (by simp) _).trans (HW0.out.mono (by simp; omega))).trans (HW1.out.mono (by have h2 := HW0.out.size; simp at h2; omega))
        iterate 7 refine Below.setCell ?_ (Nat.le_succ _) _
        iterate 3 refine Below.setCell ?_ (by exact Nat.le_refl _) _
        exact hb2
    · have t2 : (t == 0) = false := beq_eq_false_iff_ne.2 h2
      have HT : Aside0 ((if t = 0 then termL g.l i else t) = t) := ⟨if_neg h2⟩
      clear h2
      go_enter Try.func26, Try.ntmps26
      go_wp2_with (go_at_call 25; refine (sparse_from g.l A c (i + 1) 1099511627777 _ (by repeat (first | exact HR.out | apply Rd.alloc))).mono ?_; rintro e w1 ⟨v, rfl, ho, hw1⟩; obtain ⟨A', c', rfl, hrd, hfr⟩ := ho.rd' HLN.out; have HFR := Aside0.mk hfr; have HRD := Aside0.mk hrd; have HW1 := Aside0.mk hw1; have G1 := HBG.out.below hw1; have Z1 := HBZ.out.below hw1; obtain ⟨e0, e1, e2, e3, e4, e5, e6⟩ := G1.box; obtain ⟨z0, z1, z2, z3, z4, z5, z6⟩ := Z1.box; have ef := G1.free; have zf := Z1.free; clear ho hrd hfr hw1 G1 Z1)
      refine bodyPost_ret (v := vG ⟨g.id, i + 1, t, g.ht, g.hv, g.hc, withL g.l (i + 1) 1099511627777⟩ A' c') (by simp [results, Try.results26, go_sem, vG, z0, z1, z2, z3, z4, z5, z6]) rfl ⟨A', c', by rw [HG.out, HT.out], ?_, ?_⟩
      · rw [HG.out]
        refine HRD.out.only (U := fun k => k = w.heap.size ∨ k = w.heap.size + 1) ?_ (fun b hb h => by have := HFR.out b hb; simp at this; omega)
        iterate 7 refine Only.setCell ?_ (.inr rfl) _
        iterate 3 refine Only.setCell ?_ (.inl rfl) _
        exact Only.refl _ _
      · have hb2 : Below w.heap.size w w1 := (((Below.refl _ w).alloc (Nat.le_refl _) _).alloc (by simp) _).trans (HW1.out.mono (by simp; omega))
        iterate 7 refine Below.setCell ?_ (Nat.le_succ _) _
        iterate 3 refine Below.setCell ?_ (by exact Nat.le_refl _) _
        exact hb2
end Go.Proofs.Ytfnflbclhaeedaa.PartW
