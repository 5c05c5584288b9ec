/- The walk of the reference's Loose; it makes what sparse.Do makes. -/
import Derived.Test.YtfnflbclhaeedaaFillW
import Derived.Test.YtfnflbclhaeedaaMe
import Derived.Test.YtfnflbclhaeedaaDo
import Derived.BigRegion
set_option linter.unusedVariables false
set_option linter.unusedSimpArgs false
namespace Go.Proofs.Ytfnflbclhaeedaa.Sp
open Go Go.RowKit Go.Proofs.Ytfnflbclhaeedaa.A Go.Proofs.Ytfnflbclhaeedaa.Seq Go.Proofs.YtfnflbclhaeedaaW.PrintWords Go.Proofs.YtfnflbclhaeedaaW.PrintLast Go.Proofs.YtfnflbclhaeedaaW.PrintMore
def looseK (g : Grp) (p : Prt) : Grp :=
  if p.k = 1 then ⟨g.id, g.fi, g.tm, g.ht, g.hv, g.hc, belowL g.l (el p.l 0).f0 ++ fromL p.l g.fi⟩
  else if p.k = 2 then ⟨g.id, g.fi, g.tm, p.ht, p.hv, p.hc, g.l⟩
  else if p.k = 3 then compG g p.ix p.tm
  else if p.k = 4 then (if g.fi ≤ p.ix then ⟨g.id, p.ix + 1, p.tm, g.ht, g.hv, g.hc, []⟩ else g)
  else if p.k = 6 then fillR g p
  else g
def looseG (g : Grp) (p : Prt) : Grp := if isG false g = true ∧ isP p = true ∧ p.g = g.id then looseK g p else g
theorem risB_isE {d : Bool} {l : List Ent} (h : risB d l = true) : ∀ e ∈ l, isE e = true := by
  intro e he
  unfold risB at h
  rw [Bool.and_eq_true] at h
  obtain ⟨i, hi, rfl⟩ := List.mem_iff_getElem.1 he
  have h2 := List.all_eq_true.1 h.1 i (List.mem_range.2 hi)
  unfold okR at h2
  rw [Bool.and_eq_true, el_get hi] at h2
  exact h2.1
theorem isP_isE {p : Prt} (h : isP p = true) (hk : p.k = 1 ∨ p.k = 6) : ∀ e ∈ p.l, isE e = true := by
  unfold isP at h
  rw [Bool.and_eq_true] at h
  obtain ⟨_, h⟩ := h
  rcases hk with hk | hk
  · rw [if_pos hk] at h
    simp only [Bool.and_eq_true] at h
    exact risB_isE h.2.2.2
  · rw [if_neg (by omega), if_neg (by omega), if_neg (by omega), if_neg (by omega), if_neg (by omega), if_pos hk] at h
    simp only [Bool.and_eq_true] at h
    exact risB_isE h.1.1.1
theorem fillW_fill {fi : Int} : ∀ {es l : List Ent}, GoodL fi l → (∀ e ∈ es, isE e = true) → fillW fi l es = fillL fi l es
  | [], l, _, _ => rfl
  | e :: es, l, h, he => by
    have h1 : stepW fi l e = stepE fi l e := by
      unfold stepW stepE
      rw [(step_with h e.f0).1, (step_with h e.f0).2]
    show fillW fi (stepW fi l e) es = fillL fi (stepE fi l e) es
    rw [h1]
    exact fillW_fill (h.step (he e (List.mem_cons_self ..))) (fun x hx => he x (List.mem_cons_of_mem _ hx))
theorem isP_tm4 {p : Prt} (h : isP p = true) (hk : p.k = 4) : 1 ≤ p.tm := by
  unfold isP at h
  rw [Bool.and_eq_true] at h
  obtain ⟨_, h⟩ := h
  rw [if_neg (by omega), if_neg (by omega), if_neg (by omega), if_pos hk] at h
  simp only [Bool.and_eq_true] at h
  have := of_decide_eq_true h.2.2
  omega
/-- the program and the reference make the same of every group with holes and every part -/
theorem do_loose (g : Grp) (p : Prt) : doG g p = looseG g p := by
  unfold doG looseG
  by_cases hc : isG false g = true ∧ isP p = true ∧ p.g = g.id
  · rw [if_pos hc, if_pos hc]
    obtain ⟨h1, h2, h3⟩ := hc
    unfold kindG looseK
    by_cases k1 : p.k = 1
    · rw [if_pos k1, if_pos k1, with_below (fun e he => isG_mem_ge h1 he), with_from (isP_isE h2 (.inl k1))]
    · rw [if_neg k1, if_neg k1]
      by_cases k2 : p.k = 2
      · rw [if_pos k2, if_pos k2]
      · rw [if_neg k2, if_neg k2]
        by_cases k3 : p.k = 3
        · rw [if_pos k3, if_pos k3]; exact gone_comp h1 _ _
        · rw [if_neg k3, if_neg k3]
          by_cases k4 : p.k = 4
          · rw [if_pos k4, if_pos k4]
            have ht := isP_tm4 h2 k4
            by_cases hi : g.fi ≤ p.ix
            · rw [if_pos hi, if_pos hi]
              unfold goneG
              rw [if_neg (show ¬ p.ix < g.fi by omega), if_neg (show ¬ p.tm = 0 by omega)]
              rfl
            · rw [if_neg hi, if_neg hi]
              unfold goneG
              rw [if_pos (show p.ix < g.fi by omega)]
          · rw [if_neg k4, if_neg k4]
            by_cases k6 : p.k = 6
            · rw [if_pos k6, if_pos k6]
              have hm : markG g p = compP g p := by
                unfold markG compP
                rw [gone_comp h1]
              have hg : GoodL (headP (compP g p) p).fi (headP (compP g p) p).l := by
                have h4 : GoodL (compP g p).fi (compP g p).l := by
                  unfold compP
                  split
                  · exact good_comp (isG_good h1) _ _
                  · exact isG_good h1
                unfold headP
                split <;> exact h4
              unfold forwardG fillR
              rw [hm, fillW_fill hg (isP_isE h2 (.inr k6))]
            · rw [if_neg k6, if_neg k6]
  · rw [if_neg hc, if_neg hc]
end Go.Proofs.Ytfnflbclhaeedaa.Sp
namespace Go.Proofs.Ytfnflbclhaeedaa.PartW
open Go Go.RowKit Go.Shelf Go.Proofs.Ytfnflbclhaeedaa.A Go.Proofs.Ytfnflbclhaeedaa.Sp Go.Proofs.Ytfnflbclhaeedaa.Reg Go.Proofs.Ytfnflbclhaeedaa.Seq Go.Proofs.YtfnflbclhaeedaaW.PrintWords Go.Proofs.YtfnflbclhaeedaaW.PrintLast Go.Proofs.YtfnflbclhaeedaaW.PrintMore
theorem iss_calls' (g : Grp) (A : Option Addr) (c : Nat) (w : World) (h : Rd w A c g.l) {b : Bool} (hb : isG false g = b) : Calls Try.prog 14 #[vG g A c] w fun e w' => e = .returned (.bool b) ∧ Below w.heap.size w w' := by
  rw [← hb]; exact ref_IsSparse g A c w h
set_option maxHeartbeats 8000000 in
set_option maxRecDepth 100000 in
theorem ref_Loose_no1 (g : Grp) (A : Option Addr) (c : Nat) (pg pk : Int) (pl : List Ent) (pht phv phc pix ptm : Int) (pm ph : Bool) (Ap : Option Addr) (cp : Nat) (w : World) (h : Rd w A c g.l) (hp : Rd w Ap cp pl) (hl : g.l.length + pl.length ≤ 4398046511104) (h1 : isG false g = false) :
    Calls Try.prog 18 #[vG g A c, vP ⟨pg, pk, pl, pht, phv, phc, pix, ptm, pm, ph⟩ Ap cp] w (GotG w (looseG g ⟨pg, pk, pl, pht, phv, phc, pix, ptm, pm, ph⟩)) := by
  have HT0 := Aside0.mk (Two.new g A c ⟨pg, pk, pl, pht, phv, phc, pix, ptm, pm, ph⟩ Ap cp w h hp)
  have HLN := Aside0.mk hl
  have HB1 := Aside0.mk h1
  have HG : Aside0 (looseG g ⟨pg, pk, pl, pht, phv, phc, pix, ptm, pm, ph⟩ = g) := ⟨by unfold looseG; rw [if_neg (by rw [h1]; simp)]⟩
  clear h1
  clear h hp hl
  unfold vG vP
  go_enter Try.func18, Try.ntmps18
  obtain ⟨C, hC⟩ : ∃ C, (match Try.f18.body with | some (.seq _ c) => c | _ => .skip) = C := ⟨_, rfl⟩
  have HC := Aside0.mk hC
  simp only [Try.f18] at hC
  rw [hC]
  clear hC
  go_wp2
  obtain ⟨s, hs⟩ : ∃ s, w.heap.size = s := ⟨_, rfl⟩
  have HT1 := HT0.out
  rw [hs] at HT1 ⊢
  obtain ⟨W, hW⟩ : ∃ W, (((w.alloc (.cells #[.int .i64 g.id, .int .i64 g.fi, .int .i64 g.tm, .int .i64 g.ht, .int .i64 g.hv, .int .i64 g.hc, .slice A g.l.length c] 26)).alloc (.cells #[.int .i64 pg, .int .i64 pk, .slice Ap pl.length cp, .int .i64 pht, .int .i64 phv, .int .i64 phc, .int .i64 pix, .int .i64 ptm, .bool pm, .bool ph] 28)).alloc (.cells #[.int .i64 0, .int .i64 0, .int .i64 0, .int .i64 0, .int .i64 0, .int .i64 0, .slice none 0 0] 26)) = W := ⟨_, rfl⟩
  rw [hW] at HT1 ⊢
  have HT := Aside0.mk HT1
  have HS := Aside0.mk hs
  have hC := HC.out
  simp only [Try.f18] at hC
  subst hC
  clear hW HT1 HT0 hs HC
  obtain ⟨e0, e1, e2, e3, e4, e5, e6⟩ := HT.out.bg.box; obtain ⟨p0, p1, p2, p3, p4, p5, p6, p7, p8, p9⟩ := HT.out.bp.box; obtain ⟨z0, z1, z2, z3, z4, z5, z6⟩ := HT.out.bz.box; have ef := HT.out.bg.free; have zf := HT.out.bz.free
  go_wp2_with (first | (go_at_call 14; refine (iss_calls' g A c _ HT.out.rg HB1.out).mono ?_; rintro e w1 ⟨rfl, hw1⟩; have HT1 := Aside0.mk (HT.out.below hw1); clear hw1; clear e0 e1 e2 e3 e4 e5 e6 p0 p1 p2 p3 p4 p5 p6 p7 p8 p9 z0 z1 z2 z3 z4 z5 z6 ef zf; obtain ⟨e0, e1, e2, e3, e4, e5, e6⟩ := HT1.out.bg.box; obtain ⟨p0, p1, p2, p3, p4, p5, p6, p7, p8, p9⟩ := HT1.out.bp.box; obtain ⟨z0, z1, z2, z3, z4, z5, z6⟩ := HT1.out.bz.box; have ef := HT1.out.bg.free; have zf := HT1.out.bz.free) | fail)
  have hst := stored (r := g) (A' := A) (c' := c) HT1.out.bz HT1.out.rg HT1.out.b (Nat.le_add_right s 2) (by have := HT1.out.b.size; have := HS.out; omega)
  try simp only [List.length_nil] at hst
  obtain ⟨r0, r1, r2, r3, r4, r5, r6⟩ := hst.1.box
  try dsimp only at r0 r1 r2 r3 r4 r5 r6
  refine bodyPost_ret (v := vG g A c) (by simp [results, Try.results18, go_sem, vG, r0, r1, r2, r3, r4, r5, r6]) rfl ⟨A, c, by rw [HG.out], by rw [HG.out]; exact hst.2.1, by rw [HS.out]; exact hst.2.2⟩
set_option maxHeartbeats 8000000 in
set_option maxRecDepth 100000 in
theorem ref_Loose_no2 (g : Grp) (A : Option Addr) (c : Nat) (pg pk : Int) (pl : List Ent) (pht phv phc pix ptm : Int) (pm ph : Bool) (Ap : Option Addr) (cp : Nat) (w : World) (h : Rd w A c g.l) (hp : Rd w Ap cp pl) (hl : g.l.length + pl.length ≤ 4398046511104) (h1 : isG false g = true) (h2 : isP ⟨pg, pk, pl, pht, phv, phc, pix, ptm, pm, ph⟩ = false) :
    Calls Try.prog 18 #[vG g A c, vP ⟨pg, pk, pl, pht, phv, phc, pix, ptm, pm, ph⟩ Ap cp] w (GotG w (looseG g ⟨pg, pk, pl, pht, phv, phc, pix, ptm, pm, ph⟩)) := by
  have HT0 := Aside0.mk (Two.new g A c ⟨pg, pk, pl, pht, phv, phc, pix, ptm, pm, ph⟩ Ap cp w h hp)
  have HLN := Aside0.mk hl
  have HB1 := Aside0.mk h1
  have HB2 := Aside0.mk h2
  have HG : Aside0 (looseG g ⟨pg, pk, pl, pht, phv, phc, pix, ptm, pm, ph⟩ = g) := ⟨by unfold looseG; rw [if_neg (by rw [h2]; simp)]⟩
  clear h1 h2
  clear h hp hl
  unfold vG vP
  go_enter Try.func18, Try.ntmps18
  obtain ⟨C, hC⟩ : ∃ C, (match Try.f18.body with | some (.seq _ c) => c | _ => .skip) = C := ⟨_, rfl⟩
  have HC := Aside0.mk hC
  simp only [Try.f18] at hC
  rw [hC]
  clear hC
  go_wp2
  obtain ⟨s, hs⟩ : ∃ s, w.heap.size = s := ⟨_, rfl⟩
  have HT1 := HT0.out
  rw [hs] at HT1 ⊢
  obtain ⟨W, hW⟩ : ∃ W, (((w.alloc (.cells #[.int .i64 g.id, .int .i64 g.fi, .int .i64 g.tm, .int .i64 g.ht, .int .i64 g.hv, .int .i64 g.hc, .slice A g.l.length c] 26)).alloc (.cells #[.int .i64 pg, .int .i64 pk, .slice Ap pl.length cp, .int .i64 pht, .int .i64 phv, .int .i64 phc, .int .i64 pix, .int .i64 ptm, .bool pm, .bool ph] 28)).alloc (.cells #[.int .i64 0, .int .i64 0, .int .i64 0, .int .i64 0, .int .i64 0, .int .i64 0, .slice none 0 0] 26)) = W := ⟨_, rfl⟩
  rw [hW] at HT1 ⊢
  have HT := Aside0.mk HT1
  have HS := Aside0.mk hs
  have hC := HC.out
  simp only [Try.f18] at hC
  subst hC
  clear hW HT1 HT0 hs HC
  obtain ⟨e0, e1, e2, e3, e4, e5, e6⟩ := HT.out.bg.box; obtain ⟨p0, p1, p2, p3, p4, p5, p6, p7, p8, p9⟩ := HT.out.bp.box; obtain ⟨z0, z1, z2, z3, z4, z5, z6⟩ := HT.out.bz.box; have ef := HT.out.bg.free; have zf := HT.out.bz.free
  go_wp2_with (first | (go_at_call 14; refine (iss_calls' g A c _ HT.out.rg HB1.out).mono ?_; rintro e w1 ⟨rfl, hw1⟩; have HT1 := Aside0.mk (HT.out.below hw1); clear hw1; clear e0 e1 e2 e3 e4 e5 e6 p0 p1 p2 p3 p4 p5 p6 p7 p8 p9 z0 z1 z2 z3 z4 z5 z6 ef zf; obtain ⟨e0, e1, e2, e3, e4, e5, e6⟩ := HT1.out.bg.box; obtain ⟨p0, p1, p2, p3, p4, p5, p6, p7, p8, p9⟩ := HT1.out.bp.box; obtain ⟨z0, z1, z2, z3, z4, z5, z6⟩ := HT1.out.bz.box; have ef := HT1.out.bg.free; have zf := HT1.out.bz.free) | (go_at_call 22; refine (isr_calls' ⟨pg, pk, pl, pht, phv, phc, pix, ptm, pm, ph⟩ _ cp _ HT1.out.rp HB2.out).mono ?_; rintro e w2 ⟨rfl, hw2⟩; have HT2 := Aside0.mk (HT1.out.below hw2); clear hw2; clear e0 e1 e2 e3 e4 e5 e6 p0 p1 p2 p3 p4 p5 p6 p7 p8 p9 z0 z1 z2 z3 z4 z5 z6 ef zf; obtain ⟨e0, e1, e2, e3, e4, e5, e6⟩ := HT2.out.bg.box; obtain ⟨p0, p1, p2, p3, p4, p5, p6, p7, p8, p9⟩ := HT2.out.bp.box; obtain ⟨z0, z1, z2, z3, z4, z5, z6⟩ := HT2.out.bz.box; have ef := HT2.out.bg.free; have zf := HT2.out.bz.free; have HTA := Aside0.mk (HT2.out.below ((Below.refl _ _).alloc (Nat.le_refl _) (.cells #[.int .i64 g.id, .int .i64 g.fi, .int .i64 g.tm, .int .i64 g.ht, .int .i64 g.hv, .int .i64 g.hc, .slice A g.l.length c] 26))); have hgn := BlkG.new g A c w2; obtain ⟨n0, hn0⟩ : ∃ n, w2.heap.size = n := ⟨_, rfl⟩; have HN0 := Aside0.mk hn0; have HSN : Aside0 (s + 3 ≤ n0) := ⟨(by rw [← hn0]; exact HT2.out.sz)⟩; have l1 : s < n0 := (by have := HSN.out; omega); have l2 : s + 1 < n0 := (by have := HSN.out; omega); have l3 : s + 2 < n0 := (by have := HSN.out; omega); have m1 : s ≠ n0 := (by omega); have m2 : s + 1 ≠ n0 := (by omega); have m3 : s + 2 ≠ n0 := (by omega); have o1 := Ne.symm m1; have o2 := Ne.symm m2; have o3 := Ne.symm m3; rw [hn0] at hgn; have HGN := Aside0.mk hgn; clear hgn))
  have hst := stored (r := g) (A' := A) (c' := c) HT2.out.bz HT2.out.rg HT2.out.b (Nat.le_add_right s 2) (by have := HT2.out.b.size; have := HS.out; omega)
  try simp only [List.length_nil] at hst
  obtain ⟨r0, r1, r2, r3, r4, r5, r6⟩ := hst.1.box
  try dsimp only at r0 r1 r2 r3 r4 r5 r6
  refine bodyPost_ret (v := vG g A c) (by simp [results, Try.results18, go_sem, vG, r0, r1, r2, r3, r4, r5, r6]) rfl ⟨A, c, by rw [HG.out], by rw [HG.out]; exact hst.2.1, by rw [HS.out]; exact hst.2.2⟩
set_option maxHeartbeats 8000000 in
set_option maxRecDepth 100000 in
theorem ref_Loose_no3 (g : Grp) (A : Option Addr) (c : Nat) (pg pk : Int) (pl : List Ent) (pht phv phc pix ptm : Int) (pm ph : Bool) (Ap : Option Addr) (cp : Nat) (w : World) (h : Rd w A c g.l) (hp : Rd w Ap cp pl) (hl : g.l.length + pl.length ≤ 4398046511104) (h1 : isG false g = true) (h2 : isP ⟨pg, pk, pl, pht, phv, phc, pix, ptm, pm, ph⟩ = true) (h3 : pg ≠ g.id) :
    Calls Try.prog 18 #[vG g A c, vP ⟨pg, pk, pl, pht, phv, phc, pix, ptm, pm, ph⟩ Ap cp] w (GotG w (looseG g ⟨pg, pk, pl, pht, phv, phc, pix, ptm, pm, ph⟩)) := by
  have HT0 := Aside0.mk (Two.new g A c ⟨pg, pk, pl, pht, phv, phc, pix, ptm, pm, ph⟩ Ap cp w h hp)
  have HLN := Aside0.mk hl
  have HB1 := Aside0.mk h1
  have HB2 := Aside0.mk h2
  have HG : Aside0 (looseG g ⟨pg, pk, pl, pht, phv, phc, pix, ptm, pm, ph⟩ = g) := ⟨by unfold looseG; rw [if_neg (by intro h; exact h3 h.2.2)]⟩
  have hne : (pg == g.id) = false := beq_eq_false_iff_ne.2 h3
  clear h1 h2 h3
  clear h hp hl
  unfold vG vP
  go_enter Try.func18, Try.ntmps18
  obtain ⟨C, hC⟩ : ∃ C, (match Try.f18.body with | some (.seq _ c) => c | _ => .skip) = C := ⟨_, rfl⟩
  have HC := Aside0.mk hC
  simp only [Try.f18] at hC
  rw [hC]
  clear hC
  go_wp2
  obtain ⟨s, hs⟩ : ∃ s, w.heap.size = s := ⟨_, rfl⟩
  have HT1 := HT0.out
  rw [hs] at HT1 ⊢
  obtain ⟨W, hW⟩ : ∃ W, (((w.alloc (.cells #[.int .i64 g.id, .int .i64 g.fi, .int .i64 g.tm, .int .i64 g.ht, .int .i64 g.hv, .int .i64 g.hc, .slice A g.l.length c] 26)).alloc (.cells #[.int .i64 pg, .int .i64 pk, .slice Ap pl.length cp, .int .i64 pht, .int .i64 phv, .int .i64 phc, .int .i64 pix, .int .i64 ptm, .bool pm, .bool ph] 28)).alloc (.cells #[.int .i64 0, .int .i64 0, .int .i64 0, .int .i64 0, .int .i64 0, .int .i64 0, .slice none 0 0] 26)) = W := ⟨_, rfl⟩
  rw [hW] at HT1 ⊢
  have HT := Aside0.mk HT1
  have HS := Aside0.mk hs
  have hC := HC.out
  simp only [Try.f18] at hC
  subst hC
  clear hW HT1 HT0 hs HC
  obtain ⟨e0, e1, e2, e3, e4, e5, e6⟩ := HT.out.bg.box; obtain ⟨p0, p1, p2, p3, p4, p5, p6, p7, p8, p9⟩ := HT.out.bp.box; obtain ⟨z0, z1, z2, z3, z4, z5, z6⟩ := HT.out.bz.box; have ef := HT.out.bg.free; have zf := HT.out.bz.free
  go_wp2_with (first | (go_at_call 14; refine (iss_calls' g A c _ HT.out.rg HB1.out).mono ?_; rintro e w1 ⟨rfl, hw1⟩; have HT1 := Aside0.mk (HT.out.below hw1); clear hw1; clear e0 e1 e2 e3 e4 e5 e6 p0 p1 p2 p3 p4 p5 p6 p7 p8 p9 z0 z1 z2 z3 z4 z5 z6 ef zf; obtain ⟨e0, e1, e2, e3, e4, e5, e6⟩ := HT1.out.bg.box; obtain ⟨p0, p1, p2, p3, p4, p5, p6, p7, p8, p9⟩ := HT1.out.bp.box; obtain ⟨z0, z1, z2, z3, z4, z5, z6⟩ := HT1.out.bz.box; have ef := HT1.out.bg.free; have zf := HT1.out.bz.free) | (go_at_call 22; refine (isr_calls' ⟨pg, pk, pl, pht, phv, phc, pix, ptm, pm, ph⟩ _ cp _ HT1.out.rp HB2.out).mono ?_; rintro e w2 ⟨rfl, hw2⟩; have HT2 := Aside0.mk (HT1.out.below hw2); clear hw2; clear e0 e1 e2 e3 e4 e5 e6 p0 p1 p2 p3 p4 p5 p6 p7 p8 p9 z0 z1 z2 z3 z4 z5 z6 ef zf; obtain ⟨e0, e1, e2, e3, e4, e5, e6⟩ := HT2.out.bg.box; obtain ⟨p0, p1, p2, p3, p4, p5, p6, p7, p8, p9⟩ := HT2.out.bp.box; obtain ⟨z0, z1, z2, z3, z4, z5, z6⟩ := HT2.out.bz.box; have ef := HT2.out.bg.free; have zf := HT2.out.bz.free; have HTA := Aside0.mk (HT2.out.below ((Below.refl _ _).alloc (Nat.le_refl _) (.cells #[.int .i64 g.id, .int .i64 g.fi, .int .i64 g.tm, .int .i64 g.ht, .int .i64 g.hv, .int .i64 g.hc, .slice A g.l.length c] 26))); have hgn := BlkG.new g A c w2; obtain ⟨n0, hn0⟩ : ∃ n, w2.heap.size = n := ⟨_, rfl⟩; have HN0 := Aside0.mk hn0; have HSN : Aside0 (s + 3 ≤ n0) := ⟨(by rw [← hn0]; exact HT2.out.sz)⟩; have l1 : s < n0 := (by have := HSN.out; omega); have l2 : s + 1 < n0 := (by have := HSN.out; omega); have l3 : s + 2 < n0 := (by have := HSN.out; omega); have m1 : s ≠ n0 := (by omega); have m2 : s + 1 ≠ n0 := (by omega); have m3 : s + 2 ≠ n0 := (by omega); have o1 := Ne.symm m1; have o2 := Ne.symm m2; have o3 := Ne.symm m3; rw [hn0] at hgn; have HGN := Aside0.mk hgn; clear hgn))
  have hst := stored (r := g) (A' := A) (c' := c) HT2.out.bz HT2.out.rg HT2.out.b (Nat.le_add_right s 2) (by have := HT2.out.b.size; have := HS.out; omega)
  try simp only [List.length_nil] at hst
  obtain ⟨r0, r1, r2, r3, r4, r5, r6⟩ := hst.1.box
  try dsimp only at r0 r1 r2 r3 r4 r5 r6
  refine bodyPost_ret (v := vG g A c) (by simp [results, Try.results18, go_sem, vG, r0, r1, r2, r3, r4, r5, r6]) rfl ⟨A, c, by rw [HG.out], by rw [HG.out]; exact hst.2.1, by rw [HS.out]; exact hst.2.2⟩
set_option maxHeartbeats 8000000 in
set_option maxRecDepth 100000 in
theorem ref_Loose_k5 (g : Grp) (A : Option Addr) (c : Nat) (pg pk : Int) (pl : List Ent) (pht phv phc pix ptm : Int) (pm ph : Bool) (Ap : Option Addr) (cp : Nat) (w : World) (h : Rd w A c g.l) (hp : Rd w Ap cp pl) (hl : g.l.length + pl.length ≤ 4398046511104) (h1 : isG false g = true) (h2 : isP ⟨pg, pk, pl, pht, phv, phc, pix, ptm, pm, ph⟩ = true) (h3 : pg = g.id) (h4 : pk = 5) :
    Calls Try.prog 18 #[vG g A c, vP ⟨pg, pk, pl, pht, phv, phc, pix, ptm, pm, ph⟩ Ap cp] w (GotG w (looseG g ⟨pg, pk, pl, pht, phv, phc, pix, ptm, pm, ph⟩)) := by
  have HT0 := Aside0.mk (Two.new g A c ⟨g.id, 5, pl, pht, phv, phc, pix, ptm, pm, ph⟩ Ap cp w h hp)
  have HLN := Aside0.mk hl
  subst h3
  subst h4
  have HB1 := Aside0.mk h1
  have HB2 := Aside0.mk h2
  have HG : Aside0 (looseG g ⟨g.id, 5, pl, pht, phv, phc, pix, ptm, pm, ph⟩ = g) := ⟨by rw [looseG, if_pos ⟨h1, h2, rfl⟩]; rfl⟩
  clear h1 h2
  clear h hp hl
  unfold vG vP
  go_enter Try.func18, Try.ntmps18
  obtain ⟨C, hC⟩ : ∃ C, (match Try.f18.body with | some (.seq _ c) => c | _ => .skip) = C := ⟨_, rfl⟩
  have HC := Aside0.mk hC
  simp only [Try.f18] at hC
  rw [hC]
  clear hC
  go_wp2
  obtain ⟨s, hs⟩ : ∃ s, w.heap.size = s := ⟨_, rfl⟩
  have HT1 := HT0.out
  rw [hs] at HT1 ⊢
  obtain ⟨W, hW⟩ : ∃ W, (((w.alloc (.cells #[.int .i64 g.id, .int .i64 g.fi, .int .i64 g.tm, .int .i64 g.ht, .int .i64 g.hv, .int .i64 g.hc, .slice A g.l.length c] 26)).alloc (.cells #[.int .i64 g.id, .int .i64 5, .slice Ap pl.length cp, .int .i64 pht, .int .i64 phv, .int .i64 phc, .int .i64 pix, .int .i64 ptm, .bool pm, .bool ph] 28)).alloc (.cells #[.int .i64 0, .int .i64 0, .int .i64 0, .int .i64 0, .int .i64 0, .int .i64 0, .slice none 0 0] 26)) = W := ⟨_, rfl⟩
  rw [hW] at HT1 ⊢
  have HT := Aside0.mk HT1
  have HS := Aside0.mk hs
  have hC := HC.out
  simp only [Try.f18] at hC
  subst hC
  clear hW HT1 HT0 hs HC
  obtain ⟨e0, e1, e2, e3, e4, e5, e6⟩ := HT.out.bg.box; obtain ⟨p0, p1, p2, p3, p4, p5, p6, p7, p8, p9⟩ := HT.out.bp.box; obtain ⟨z0, z1, z2, z3, z4, z5, z6⟩ := HT.out.bz.box; have ef := HT.out.bg.free; have zf := HT.out.bz.free
  go_wp2_with (first | (go_at_call 14; refine (iss_calls' g A c _ HT.out.rg HB1.out).mono ?_; rintro e w1 ⟨rfl, hw1⟩; have HT1 := Aside0.mk (HT.out.below hw1); clear hw1; clear e0 e1 e2 e3 e4 e5 e6 p0 p1 p2 p3 p4 p5 p6 p7 p8 p9 z0 z1 z2 z3 z4 z5 z6 ef zf; obtain ⟨e0, e1, e2, e3, e4, e5, e6⟩ := HT1.out.bg.box; obtain ⟨p0, p1, p2, p3, p4, p5, p6, p7, p8, p9⟩ := HT1.out.bp.box; obtain ⟨z0, z1, z2, z3, z4, z5, z6⟩ := HT1.out.bz.box; have ef := HT1.out.bg.free; have zf := HT1.out.bz.free) | (go_at_call 22; refine (isr_calls' ⟨g.id, 5, pl, pht, phv, phc, pix, ptm, pm, ph⟩ _ cp _ HT1.out.rp HB2.out).mono ?_; rintro e w2 ⟨rfl, hw2⟩; have HT2 := Aside0.mk (HT1.out.below hw2); clear hw2; clear e0 e1 e2 e3 e4 e5 e6 p0 p1 p2 p3 p4 p5 p6 p7 p8 p9 z0 z1 z2 z3 z4 z5 z6 ef zf; obtain ⟨e0, e1, e2, e3, e4, e5, e6⟩ := HT2.out.bg.box; obtain ⟨p0, p1, p2, p3, p4, p5, p6, p7, p8, p9⟩ := HT2.out.bp.box; obtain ⟨z0, z1, z2, z3, z4, z5, z6⟩ := HT2.out.bz.box; have ef := HT2.out.bg.free; have zf := HT2.out.bz.free; have HTA := Aside0.mk (HT2.out.below ((Below.refl _ _).alloc (Nat.le_refl _) (.cells #[.int .i64 g.id, .int .i64 g.fi, .int .i64 g.tm, .int .i64 g.ht, .int .i64 g.hv, .int .i64 g.hc, .slice A g.l.length c] 26))); have hgn := BlkG.new g A c w2; obtain ⟨n0, hn0⟩ : ∃ n, w2.heap.size = n := ⟨_, rfl⟩; have HN0 := Aside0.mk hn0; have HSN : Aside0 (s + 3 ≤ n0) := ⟨(by rw [← hn0]; exact HT2.out.sz)⟩; have l1 : s < n0 := (by have := HSN.out; omega); have l2 : s + 1 < n0 := (by have := HSN.out; omega); have l3 : s + 2 < n0 := (by have := HSN.out; omega); have m1 : s ≠ n0 := (by omega); have m2 : s + 1 ≠ n0 := (by omega); have m3 : s + 2 ≠ n0 := (by omega); have o1 := Ne.symm m1; have o2 := Ne.symm m2; have o3 := Ne.symm m3; rw [hn0] at hgn; have HGN := Aside0.mk hgn; clear hgn))
  have hst := stored (r := g) (A' := A) (c' := c) HT2.out.bz HT2.out.rg HT2.out.b (Nat.le_add_right s 2) (by have := HT2.out.b.size; have := HS.out; omega)
  try simp only [List.length_nil] at hst
  obtain ⟨r0, r1, r2, r3, r4, r5, r6⟩ := hst.1.box
  try dsimp only at r0 r1 r2 r3 r4 r5 r6
  refine bodyPost_ret (v := vG g A c) (by simp [results, Try.results18, go_sem, vG, r0, r1, r2, r3, r4, r5, r6]) rfl ⟨A, c, by rw [HG.out], by rw [HG.out]; exact hst.2.1, by rw [HS.out]; exact hst.2.2⟩
set_option maxHeartbeats 8000000 in
set_option maxRecDepth 100000 in
theorem ref_Loose_k2 (g : Grp) (A : Option Addr) (c : Nat) (pg pk : Int) (pl : List Ent) (pht phv phc pix ptm : Int) (pm ph : Bool) (Ap : Option Addr) (cp : Nat) (w : World) (h : Rd w A c g.l) (hp : Rd w Ap cp pl) (hl : g.l.length + pl.length ≤ 4398046511104) (h1 : isG false g = true) (h2 : isP ⟨pg, pk, pl, pht, phv, phc, pix, ptm, pm, ph⟩ = true) (h3 : pg = g.id) (h4 : pk = 2) :
    Calls Try.prog 18 #[vG g A c, vP ⟨pg, pk, pl, pht, phv, phc, pix, ptm, pm, ph⟩ Ap cp] w (GotG w (looseG g ⟨pg, pk, pl, pht, phv, phc, pix, ptm, pm, ph⟩)) := by
  have HT0 := Aside0.mk (Two.new g A c ⟨g.id, 2, pl, pht, phv, phc, pix, ptm, pm, ph⟩ Ap cp w h hp)
  have HLN := Aside0.mk hl
  subst h3
  subst h4
  have HB1 := Aside0.mk h1
  have HB2 := Aside0.mk h2
  have HG : Aside0 (looseG g ⟨g.id, 2, pl, pht, phv, phc, pix, ptm, pm, ph⟩ = ⟨g.id, g.fi, g.tm, pht, phv, phc, g.l⟩) := ⟨by rw [looseG, if_pos ⟨h1, h2, rfl⟩]; rfl⟩
  clear h1 h2
  clear h hp hl
  unfold vG vP
  go_enter Try.func18, Try.ntmps18
  obtain ⟨C, hC⟩ : ∃ C, (match Try.f18.body with | some (.seq _ c) => c | _ => .skip) = C := ⟨_, rfl⟩
  have HC := Aside0.mk hC
  simp only [Try.f18] at hC
  rw [hC]
  clear hC
  go_wp2
  obtain ⟨s, hs⟩ : ∃ s, w.heap.size = s := ⟨_, rfl⟩
  have HT1 := HT0.out
  rw [hs] at HT1 ⊢
  obtain ⟨W, hW⟩ : ∃ W, (((w.alloc (.cells #[.int .i64 g.id, .int .i64 g.fi, .int .i64 g.tm, .int .i64 g.ht, .int .i64 g.hv, .int .i64 g.hc, .slice A g.l.length c] 26)).alloc (.cells #[.int .i64 g.id, .int .i64 2, .slice Ap pl.length cp, .int .i64 pht, .int .i64 phv, .int .i64 phc, .int .i64 pix, .int .i64 ptm, .bool pm, .bool ph] 28)).alloc (.cells #[.int .i64 0, .int .i64 0, .int .i64 0, .int .i64 0, .int .i64 0, .int .i64 0, .slice none 0 0] 26)) = W := ⟨_, rfl⟩
  rw [hW] at HT1 ⊢
  have HT := Aside0.mk HT1
  have HS := Aside0.mk hs
  have hC := HC.out
  simp only [Try.f18] at hC
  subst hC
  clear hW HT1 HT0 hs HC
  obtain ⟨e0, e1, e2, e3, e4, e5, e6⟩ := HT.out.bg.box; obtain ⟨p0, p1, p2, p3, p4, p5, p6, p7, p8, p9⟩ := HT.out.bp.box; obtain ⟨z0, z1, z2, z3, z4, z5, z6⟩ := HT.out.bz.box; have ef := HT.out.bg.free; have zf := HT.out.bz.free
  obtain ⟨C3, hC3⟩ : ∃ C, (match Try.f18.body with | some (.seq _ (.seq _ (.seq _ c))) => c | _ => .skip) = C := ⟨_, rfl⟩
  have HC3 := Aside0.mk hC3
  simp only [Try.f18] at hC3
  rw [hC3]
  clear hC3
  go_wp2_with (first | (go_at_call 14; refine (iss_calls' g A c _ HT.out.rg HB1.out).mono ?_; rintro e w1 ⟨rfl, hw1⟩; have HT1 := Aside0.mk (HT.out.below hw1); clear hw1; clear e0 e1 e2 e3 e4 e5 e6 p0 p1 p2 p3 p4 p5 p6 p7 p8 p9 z0 z1 z2 z3 z4 z5 z6 ef zf; obtain ⟨e0, e1, e2, e3, e4, e5, e6⟩ := HT1.out.bg.box; obtain ⟨p0, p1, p2, p3, p4, p5, p6, p7, p8, p9⟩ := HT1.out.bp.box; obtain ⟨z0, z1, z2, z3, z4, z5, z6⟩ := HT1.out.bz.box; have ef := HT1.out.bg.free; have zf := HT1.out.bz.free) | (go_at_call 22; refine (isr_calls' ⟨g.id, 2, pl, pht, phv, phc, pix, ptm, pm, ph⟩ _ cp _ HT1.out.rp HB2.out).mono ?_; rintro e w2 ⟨rfl, hw2⟩; have HT2 := Aside0.mk (HT1.out.below hw2); clear hw2; clear e0 e1 e2 e3 e4 e5 e6 p0 p1 p2 p3 p4 p5 p6 p7 p8 p9 z0 z1 z2 z3 z4 z5 z6 ef zf; obtain ⟨e0, e1, e2, e3, e4, e5, e6⟩ := HT2.out.bg.box; obtain ⟨p0, p1, p2, p3, p4, p5, p6, p7, p8, p9⟩ := HT2.out.bp.box; obtain ⟨z0, z1, z2, z3, z4, z5, z6⟩ := HT2.out.bz.box; have ef := HT2.out.bg.free; have zf := HT2.out.bz.free; have HTA := Aside0.mk (HT2.out.below ((Below.refl _ _).alloc (Nat.le_refl _) (.cells #[.int .i64 g.id, .int .i64 g.fi, .int .i64 g.tm, .int .i64 g.ht, .int .i64 g.hv, .int .i64 g.hc, .slice A g.l.length c] 26))); have hgn := BlkG.new g A c w2; obtain ⟨n0, hn0⟩ : ∃ n, w2.heap.size = n := ⟨_, rfl⟩; have HN0 := Aside0.mk hn0; have HSN : Aside0 (s + 3 ≤ n0) := ⟨(by rw [← hn0]; exact HT2.out.sz)⟩; have l1 : s < n0 := (by have := HSN.out; omega); have l2 : s + 1 < n0 := (by have := HSN.out; omega); have l3 : s + 2 < n0 := (by have := HSN.out; omega); have m1 : s ≠ n0 := (by omega); have m2 : s + 1 ≠ n0 := (by omega); have m3 : s + 2 ≠ n0 := (by omega); have o1 := Ne.symm m1; have o2 := Ne.symm m2; have o3 := Ne.symm m3; rw [hn0] at hgn; have HGN := Aside0.mk hgn; clear hgn))
  obtain ⟨W3, hW3⟩ : ∃ W3, w2.alloc (.cells #[.int .i64 g.id, .int .i64 g.fi, .int .i64 g.tm, .int .i64 g.ht, .int .i64 g.hv, .int .i64 g.hc, .slice A g.l.length c] 26) = W3 := ⟨_, rfl⟩
  rw [hW3] at HTA HGN ⊢
  clear e0 e1 e2 e3 e4 e5 e6 p0 p1 p2 p3 p4 p5 p6 p7 p8 p9 z0 z1 z2 z3 z4 z5 z6 ef zf
  have hC3 := HC3.out
  simp only [Try.f18] at hC3
  subst hC3
  clear hW3 HC3
  obtain ⟨e0, e1, e2, e3, e4, e5, e6⟩ := HTA.out.bg.box
  obtain ⟨y0, y1, y2, y3, y4, y5, y6⟩ := HGN.out.box
  have yf := HGN.out.free
  obtain ⟨p0, p1, p2, p3, p4, p5, p6, p7, p8, p9⟩ := HTA.out.bp.box
  obtain ⟨z0, z1, z2, z3, z4, z5, z6⟩ := HTA.out.bz.box
  have zf := HTA.out.bz.free
  go_wp2
  have hx := only_hard pht phv phc n0 W3
  have hta := HTA.out.only hx (fun q hq h => by have h2 : q = n0 := h; omega)
  have hst := stored (r := ⟨g.id, g.fi, g.tm, pht, phv, phc, g.l⟩) (A' := A) (c' := c) hta.bz hta.rg hta.b (Nat.le_add_right s 2) (by have := hta.b.size; have := HS.out; omega)
  try simp only [List.length_nil] at hst
  obtain ⟨r0, r1, r2, r3, r4, r5, r6⟩ := hst.1.box
  try dsimp only at r0 r1 r2 r3 r4 r5 r6
  refine bodyPost_ret (v := vG ⟨g.id, g.fi, g.tm, pht, phv, phc, g.l⟩ A c) (by simp [results, Try.results18, go_sem, vG, r0, r1, r2, r3, r4, r5, r6]) rfl ⟨A, c, by rw [HG.out], by rw [HG.out]; exact hst.2.1, by rw [HS.out]; exact hst.2.2⟩
set_option maxHeartbeats 8000000 in
set_option maxRecDepth 100000 in
theorem ref_Loose_k3 (g : Grp) (A : Option Addr) (c : Nat) (pg pk : Int) (pl : List Ent) (pht phv phc pix ptm : Int) (pm ph : Bool) (Ap : Option Addr) (cp : Nat) (w : World) (h : Rd w A c g.l) (hp : Rd w Ap cp pl) (hl : g.l.length + pl.length ≤ 4398046511104) (h1 : isG false g = true) (h2 : isP ⟨pg, pk, pl, pht, phv, phc, pix, ptm, pm, ph⟩ = true) (h3 : pg = g.id) (h4 : pk = 3) :
    Calls Try.prog 18 #[vG g A c, vP ⟨pg, pk, pl, pht, phv, phc, pix, ptm, pm, ph⟩ Ap cp] w (GotG w (looseG g ⟨pg, pk, pl, pht, phv, phc, pix, ptm, pm, ph⟩)) := by
  have HT0 := Aside0.mk (Two.new g A c ⟨g.id, 3, pl, pht, phv, phc, pix, ptm, pm, ph⟩ Ap cp w h hp)
  have HLN := Aside0.mk hl
  subst h3
  subst h4
  have HB1 := Aside0.mk h1
  have HB2 := Aside0.mk h2
  have HG : Aside0 (looseG g ⟨g.id, 3, pl, pht, phv, phc, pix, ptm, pm, ph⟩ = compG g pix ptm) := ⟨by rw [looseG, if_pos ⟨h1, h2, rfl⟩]; rfl⟩
  have HIX := Aside0.mk (isP_ix h2 (.inl rfl))
  clear h1 h2
  clear h hp hl
  unfold vG vP
  go_enter Try.func18, Try.ntmps18
  obtain ⟨C, hC⟩ : ∃ C, (match Try.f18.body with | some (.seq _ c) => c | _ => .skip) = C := ⟨_, rfl⟩
  have HC := Aside0.mk hC
  simp only [Try.f18] at hC
  rw [hC]
  clear hC
  go_wp2
  obtain ⟨s, hs⟩ : ∃ s, w.heap.size = s := ⟨_, rfl⟩
  have HT1 := HT0.out
  rw [hs] at HT1 ⊢
  obtain ⟨W, hW⟩ : ∃ W, (((w.alloc (.cells #[.int .i64 g.id, .int .i64 g.fi, .int .i64 g.tm, .int .i64 g.ht, .int .i64 g.hv, .int .i64 g.hc, .slice A g.l.length c] 26)).alloc (.cells #[.int .i64 g.id, .int .i64 3, .slice Ap pl.length cp, .int .i64 pht, .int .i64 phv, .int .i64 phc, .int .i64 pix, .int .i64 ptm, .bool pm, .bool ph] 28)).alloc (.cells #[.int .i64 0, .int .i64 0, .int .i64 0, .int .i64 0, .int .i64 0, .int .i64 0, .slice none 0 0] 26)) = W := ⟨_, rfl⟩
  rw [hW] at HT1 ⊢
  have HT := Aside0.mk HT1
  have HS := Aside0.mk hs
  have hC := HC.out
  simp only [Try.f18] at hC
  subst hC
  clear hW HT1 HT0 hs HC
  obtain ⟨e0, e1, e2, e3, e4, e5, e6⟩ := HT.out.bg.box; obtain ⟨p0, p1, p2, p3, p4, p5, p6, p7, p8, p9⟩ := HT.out.bp.box; obtain ⟨z0, z1, z2, z3, z4, z5, z6⟩ := HT.out.bz.box; have ef := HT.out.bg.free; have zf := HT.out.bz.free
  go_wp2_with (first | (go_at_call 14; refine (iss_calls' g A c _ HT.out.rg HB1.out).mono ?_; rintro e w1 ⟨rfl, hw1⟩; have HT1 := Aside0.mk (HT.out.below hw1); clear hw1; clear e0 e1 e2 e3 e4 e5 e6 p0 p1 p2 p3 p4 p5 p6 p7 p8 p9 z0 z1 z2 z3 z4 z5 z6 ef zf; obtain ⟨e0, e1, e2, e3, e4, e5, e6⟩ := HT1.out.bg.box; obtain ⟨p0, p1, p2, p3, p4, p5, p6, p7, p8, p9⟩ := HT1.out.bp.box; obtain ⟨z0, z1, z2, z3, z4, z5, z6⟩ := HT1.out.bz.box; have ef := HT1.out.bg.free; have zf := HT1.out.bz.free) | (go_at_call 22; refine (isr_calls' ⟨g.id, 3, pl, pht, phv, phc, pix, ptm, pm, ph⟩ _ cp _ HT1.out.rp HB2.out).mono ?_; rintro e w2 ⟨rfl, hw2⟩; have HT2 := Aside0.mk (HT1.out.below hw2); clear hw2; clear e0 e1 e2 e3 e4 e5 e6 p0 p1 p2 p3 p4 p5 p6 p7 p8 p9 z0 z1 z2 z3 z4 z5 z6 ef zf; obtain ⟨e0, e1, e2, e3, e4, e5, e6⟩ := HT2.out.bg.box; obtain ⟨p0, p1, p2, p3, p4, p5, p6, p7, p8, p9⟩ := HT2.out.bp.box; obtain ⟨z0, z1, z2, z3, z4, z5, z6⟩ := HT2.out.bz.box; have ef := HT2.out.bg.free; have zf := HT2.out.bz.free; have HTA := Aside0.mk (HT2.out.below ((Below.refl _ _).alloc (Nat.le_refl _) (.cells #[.int .i64 g.id, .int .i64 g.fi, .int .i64 g.tm, .int .i64 g.ht, .int .i64 g.hv, .int .i64 g.hc, .slice A g.l.length c] 26))); have hgn := BlkG.new g A c w2; obtain ⟨n0, hn0⟩ : ∃ n, w2.heap.size = n := ⟨_, rfl⟩; have HN0 := Aside0.mk hn0; have HSN : Aside0 (s + 3 ≤ n0) := ⟨(by rw [← hn0]; exact HT2.out.sz)⟩; have l1 : s < n0 := (by have := HSN.out; omega); have l2 : s + 1 < n0 := (by have := HSN.out; omega); have l3 : s + 2 < n0 := (by have := HSN.out; omega); have m1 : s ≠ n0 := (by omega); have m2 : s + 1 ≠ n0 := (by omega); have m3 : s + 2 ≠ n0 := (by omega); have o1 := Ne.symm m1; have o2 := Ne.symm m2; have o3 := Ne.symm m3; rw [hn0] at hgn; have HGN := Aside0.mk hgn; clear hgn) | (go_at_call 35; refine (ref_compact g A c pix ptm _ HTA.out.rg (by have := HIX.out.1; omega) HIX.out.2).mono ?_; rintro e w3 ⟨A1, c1, rfl, hrd3, hw3⟩; have HRD3 := Aside0.mk hrd3; have HT3 := Aside0.mk (HTA.out.below hw3); clear hrd3 hw3; clear e0 e1 e2 e3 e4 e5 e6 p0 p1 p2 p3 p4 p5 p6 p7 p8 p9 z0 z1 z2 z3 z4 z5 z6 ef zf; have zf := HT3.out.bz.free; obtain ⟨z0, z1, z2, z3, z4, z5, z6⟩ := HT3.out.bz.box))
  have hst := stored (r := (compG g pix ptm)) (A' := A1) (c' := c1) HT3.out.bz HRD3.out HT3.out.b (Nat.le_add_right s 2) (by have := HT3.out.b.size; have := HS.out; omega)
  try simp only [List.length_nil] at hst
  obtain ⟨r0, r1, r2, r3, r4, r5, r6⟩ := hst.1.box
  try dsimp only at r0 r1 r2 r3 r4 r5 r6
  refine bodyPost_ret (v := vG (compG g pix ptm) A1 c1) (by simp [results, Try.results18, go_sem, vG, r0, r1, r2, r3, r4, r5, r6]) rfl ⟨A1, c1, by rw [HG.out], by rw [HG.out]; exact hst.2.1, by rw [HS.out]; exact hst.2.2⟩
set_option maxHeartbeats 8000000 in
set_option maxRecDepth 100000 in
theorem ref_Loose_k6 (g : Grp) (A : Option Addr) (c : Nat) (pg pk : Int) (pl : List Ent) (pht phv phc pix ptm : Int) (pm ph : Bool) (Ap : Option Addr) (cp : Nat) (w : World) (h : Rd w A c g.l) (hp : Rd w Ap cp pl) (hl : g.l.length + pl.length ≤ 4398046511104) (h1 : isG false g = true) (h2 : isP ⟨pg, pk, pl, pht, phv, phc, pix, ptm, pm, ph⟩ = true) (h3 : pg = g.id) (h4 : pk = 6) :
    Calls Try.prog 18 #[vG g A c, vP ⟨pg, pk, pl, pht, phv, phc, pix, ptm, pm, ph⟩ Ap cp] w (GotG w (looseG g ⟨pg, pk, pl, pht, phv, phc, pix, ptm, pm, ph⟩)) := by
  have HT0 := Aside0.mk (Two.new g A c ⟨g.id, 6, pl, pht, phv, phc, pix, ptm, pm, ph⟩ Ap cp w h hp)
  have HLN := Aside0.mk hl
  subst h3
  subst h4
  have HB1 := Aside0.mk h1
  have HB2 := Aside0.mk h2
  have HG : Aside0 (looseG g ⟨g.id, 6, pl, pht, phv, phc, pix, ptm, pm, ph⟩ = fillR g ⟨g.id, 6, pl, pht, phv, phc, pix, ptm, pm, ph⟩) := ⟨by rw [looseG, if_pos ⟨h1, h2, rfl⟩]; rfl⟩
  have HIX : Aside0 (pm = true → 0 ≤ pix ∧ pix ≤ 1099511627776) := ⟨fun hm => by have h9 := isP_ix h2 (.inr (.inr ⟨rfl, hm⟩)); have h10 : 1 ≤ pix := h9.1; have h11 : pix ≤ 1099511627776 := h9.2; omega⟩
  clear h1 h2
  clear h hp hl
  unfold vG vP
  go_enter Try.func18, Try.ntmps18
  obtain ⟨C, hC⟩ : ∃ C, (match Try.f18.body with | some (.seq _ c) => c | _ => .skip) = C := ⟨_, rfl⟩
  have HC := Aside0.mk hC
  simp only [Try.f18] at hC
  rw [hC]
  clear hC
  go_wp2
  obtain ⟨s, hs⟩ : ∃ s, w.heap.size = s := ⟨_, rfl⟩
  have HT1 := HT0.out
  rw [hs] at HT1 ⊢
  obtain ⟨W, hW⟩ : ∃ W, (((w.alloc (.cells #[.int .i64 g.id, .int .i64 g.fi, .int .i64 g.tm, .int .i64 g.ht, .int .i64 g.hv, .int .i64 g.hc, .slice A g.l.length c] 26)).alloc (.cells #[.int .i64 g.id, .int .i64 6, .slice Ap pl.length cp, .int .i64 pht, .int .i64 phv, .int .i64 phc, .int .i64 pix, .int .i64 ptm, .bool pm, .bool ph] 28)).alloc (.cells #[.int .i64 0, .int .i64 0, .int .i64 0, .int .i64 0, .int .i64 0, .int .i64 0, .slice none 0 0] 26)) = W := ⟨_, rfl⟩
  rw [hW] at HT1 ⊢
  have HT := Aside0.mk HT1
  have HS := Aside0.mk hs
  have hC := HC.out
  simp only [Try.f18] at hC
  subst hC
  clear hW HT1 HT0 hs HC
  obtain ⟨e0, e1, e2, e3, e4, e5, e6⟩ := HT.out.bg.box; obtain ⟨p0, p1, p2, p3, p4, p5, p6, p7, p8, p9⟩ := HT.out.bp.box; obtain ⟨z0, z1, z2, z3, z4, z5, z6⟩ := HT.out.bz.box; have ef := HT.out.bg.free; have zf := HT.out.bz.free
  go_wp2_with (first | (go_at_call 14; refine (iss_calls' g A c _ HT.out.rg HB1.out).mono ?_; rintro e w1 ⟨rfl, hw1⟩; have HT1 := Aside0.mk (HT.out.below hw1); clear hw1; clear e0 e1 e2 e3 e4 e5 e6 p0 p1 p2 p3 p4 p5 p6 p7 p8 p9 z0 z1 z2 z3 z4 z5 z6 ef zf; obtain ⟨e0, e1, e2, e3, e4, e5, e6⟩ := HT1.out.bg.box; obtain ⟨p0, p1, p2, p3, p4, p5, p6, p7, p8, p9⟩ := HT1.out.bp.box; obtain ⟨z0, z1, z2, z3, z4, z5, z6⟩ := HT1.out.bz.box; have ef := HT1.out.bg.free; have zf := HT1.out.bz.free) | (go_at_call 22; refine (isr_calls' ⟨g.id, 6, pl, pht, phv, phc, pix, ptm, pm, ph⟩ _ cp _ HT1.out.rp HB2.out).mono ?_; rintro e w2 ⟨rfl, hw2⟩; have HT2 := Aside0.mk (HT1.out.below hw2); clear hw2; clear e0 e1 e2 e3 e4 e5 e6 p0 p1 p2 p3 p4 p5 p6 p7 p8 p9 z0 z1 z2 z3 z4 z5 z6 ef zf; obtain ⟨e0, e1, e2, e3, e4, e5, e6⟩ := HT2.out.bg.box; obtain ⟨p0, p1, p2, p3, p4, p5, p6, p7, p8, p9⟩ := HT2.out.bp.box; obtain ⟨z0, z1, z2, z3, z4, z5, z6⟩ := HT2.out.bz.box; have ef := HT2.out.bg.free; have zf := HT2.out.bz.free; have HTA := Aside0.mk (HT2.out.below ((Below.refl _ _).alloc (Nat.le_refl _) (.cells #[.int .i64 g.id, .int .i64 g.fi, .int .i64 g.tm, .int .i64 g.ht, .int .i64 g.hv, .int .i64 g.hc, .slice A g.l.length c] 26))); have hgn := BlkG.new g A c w2; obtain ⟨n0, hn0⟩ : ∃ n, w2.heap.size = n := ⟨_, rfl⟩; have HN0 := Aside0.mk hn0; have HSN : Aside0 (s + 3 ≤ n0) := ⟨(by rw [← hn0]; exact HT2.out.sz)⟩; have l1 : s < n0 := (by have := HSN.out; omega); have l2 : s + 1 < n0 := (by have := HSN.out; omega); have l3 : s + 2 < n0 := (by have := HSN.out; omega); have m1 : s ≠ n0 := (by omega); have m2 : s + 1 ≠ n0 := (by omega); have m3 : s + 2 ≠ n0 := (by omega); have o1 := Ne.symm m1; have o2 := Ne.symm m2; have o3 := Ne.symm m3; rw [hn0] at hgn; have HGN := Aside0.mk hgn; clear hgn) | (go_at_call 36; refine (ref_fill g A c ⟨g.id, 6, pl, pht, phv, phc, pix, ptm, pm, ph⟩ Ap cp _ HTA.out.rg HTA.out.rp HIX.out HLN.out).mono ?_; rintro e w3 ⟨A1, c1, rfl, hrd3, hw3⟩; have HRD3 := Aside0.mk hrd3; have HT3 := Aside0.mk (HTA.out.below hw3); clear hrd3 hw3; clear e0 e1 e2 e3 e4 e5 e6 p0 p1 p2 p3 p4 p5 p6 p7 p8 p9 z0 z1 z2 z3 z4 z5 z6 ef zf; have zf := HT3.out.bz.free; obtain ⟨z0, z1, z2, z3, z4, z5, z6⟩ := HT3.out.bz.box))
  have hst := stored (r := (fillR g ⟨g.id, 6, pl, pht, phv, phc, pix, ptm, pm, ph⟩)) (A' := A1) (c' := c1) HT3.out.bz HRD3.out HT3.out.b (Nat.le_add_right s 2) (by have := HT3.out.b.size; have := HS.out; omega)
  try simp only [List.length_nil] at hst
  obtain ⟨r0, r1, r2, r3, r4, r5, r6⟩ := hst.1.box
  try dsimp only at r0 r1 r2 r3 r4 r5 r6
  refine bodyPost_ret (v := vG (fillR g ⟨g.id, 6, pl, pht, phv, phc, pix, ptm, pm, ph⟩) A1 c1) (by simp [results, Try.results18, go_sem, vG, r0, r1, r2, r3, r4, r5, r6]) rfl ⟨A1, c1, by rw [HG.out], by rw [HG.out]; exact hst.2.1, by rw [HS.out]; exact hst.2.2⟩
set_option maxHeartbeats 8000000 in
set_option maxRecDepth 100000 in
theorem ref_Loose_k4a (g : Grp) (A : Option Addr) (c : Nat) (pg pk : Int) (pl : List Ent) (pht phv phc pix ptm : Int) (pm ph : Bool) (Ap : Option Addr) (cp : Nat) (w : World) (h : Rd w A c g.l) (hp : Rd w Ap cp pl) (hl : g.l.length + pl.length ≤ 4398046511104) (h1 : isG false g = true) (h2 : isP ⟨pg, pk, pl, pht, phv, phc, pix, ptm, pm, ph⟩ = true) (h3 : pg = g.id) (h4 : pk = 4) (h5 : ¬ g.fi ≤ pix) :
    Calls Try.prog 18 #[vG g A c, vP ⟨pg, pk, pl, pht, phv, phc, pix, ptm, pm, ph⟩ Ap cp] w (GotG w (looseG g ⟨pg, pk, pl, pht, phv, phc, pix, ptm, pm, ph⟩)) := by
  have HT0 := Aside0.mk (Two.new g A c ⟨g.id, 4, pl, pht, phv, phc, pix, ptm, pm, ph⟩ Ap cp w h hp)
  have HLN := Aside0.mk hl
  subst h3
  subst h4
  have HB1 := Aside0.mk h1
  have HB2 := Aside0.mk h2
  have HG : Aside0 (looseG g ⟨g.id, 4, pl, pht, phv, phc, pix, ptm, pm, ph⟩ = if g.fi ≤ pix then ⟨g.id, pix + 1, ptm, g.ht, g.hv, g.hc, []⟩ else g) := ⟨by rw [looseG, if_pos ⟨h1, h2, rfl⟩]; rfl⟩
  have HIF : Aside0 ((if g.fi ≤ pix then ⟨g.id, pix + 1, ptm, g.ht, g.hv, g.hc, []⟩ else g) = g) := ⟨if_neg h5⟩
  rw [HIF.out] at HG
  have d5 : decide (g.fi ≤ pix) = false := decide_eq_false h5
  clear h5
  clear h1 h2
  clear h hp hl
  unfold vG vP
  go_enter Try.func18, Try.ntmps18
  obtain ⟨C, hC⟩ : ∃ C, (match Try.f18.body with | some (.seq _ c) => c | _ => .skip) = C := ⟨_, rfl⟩
  have HC := Aside0.mk hC
  simp only [Try.f18] at hC
  rw [hC]
  clear hC
  go_wp2
  obtain ⟨s, hs⟩ : ∃ s, w.heap.size = s := ⟨_, rfl⟩
  have HT1 := HT0.out
  rw [hs] at HT1 ⊢
  obtain ⟨W, hW⟩ : ∃ W, (((w.alloc (.cells #[.int .i64 g.id, .int .i64 g.fi, .int .i64 g.tm, .int .i64 g.ht, .int .i64 g.hv, .int .i64 g.hc, .slice A g.l.length c] 26)).alloc (.cells #[.int .i64 g.id, .int .i64 4, .slice Ap pl.length cp, .int .i64 pht, .int .i64 phv, .int .i64 phc, .int .i64 pix, .int .i64 ptm, .bool pm, .bool ph] 28)).alloc (.cells #[.int .i64 0, .int .i64 0, .int .i64 0, .int .i64 0, .int .i64 0, .int .i64 0, .slice none 0 0] 26)) = W := ⟨_, rfl⟩
  rw [hW] at HT1 ⊢
  have HT := Aside0.mk HT1
  have HS := Aside0.mk hs
  have hC := HC.out
  simp only [Try.f18] at hC
  subst hC
  clear hW HT1 HT0 hs HC
  obtain ⟨e0, e1, e2, e3, e4, e5, e6⟩ := HT.out.bg.box; obtain ⟨p0, p1, p2, p3, p4, p5, p6, p7, p8, p9⟩ := HT.out.bp.box; obtain ⟨z0, z1, z2, z3, z4, z5, z6⟩ := HT.out.bz.box; have ef := HT.out.bg.free; have zf := HT.out.bz.free
  obtain ⟨C3, hC3⟩ : ∃ C, (match Try.f18.body with | some (.seq _ (.seq _ (.seq _ c))) => c | _ => .skip) = C := ⟨_, rfl⟩
  have HC3 := Aside0.mk hC3
  simp only [Try.f18] at hC3
  rw [hC3]
  clear hC3
  go_wp2_with (first | (go_at_call 14; refine (iss_calls' g A c _ HT.out.rg HB1.out).mono ?_; rintro e w1 ⟨rfl, hw1⟩; have HT1 := Aside0.mk (HT.out.below hw1); clear hw1; clear e0 e1 e2 e3 e4 e5 e6 p0 p1 p2 p3 p4 p5 p6 p7 p8 p9 z0 z1 z2 z3 z4 z5 z6 ef zf; obtain ⟨e0, e1, e2, e3, e4, e5, e6⟩ := HT1.out.bg.box; obtain ⟨p0, p1, p2, p3, p4, p5, p6, p7, p8, p9⟩ := HT1.out.bp.box; obtain ⟨z0, z1, z2, z3, z4, z5, z6⟩ := HT1.out.bz.box; have ef := HT1.out.bg.free; have zf := HT1.out.bz.free) | (go_at_call 22; refine (isr_calls' ⟨g.id, 4, pl, pht, phv, phc, pix, ptm, pm, ph⟩ _ cp _ HT1.out.rp HB2.out).mono ?_; rintro e w2 ⟨rfl, hw2⟩; have HT2 := Aside0.mk (HT1.out.below hw2); clear hw2; clear e0 e1 e2 e3 e4 e5 e6 p0 p1 p2 p3 p4 p5 p6 p7 p8 p9 z0 z1 z2 z3 z4 z5 z6 ef zf; obtain ⟨e0, e1, e2, e3, e4, e5, e6⟩ := HT2.out.bg.box; obtain ⟨p0, p1, p2, p3, p4, p5, p6, p7, p8, p9⟩ := HT2.out.bp.box; obtain ⟨z0, z1, z2, z3, z4, z5, z6⟩ := HT2.out.bz.box; have ef := HT2.out.bg.free; have zf := HT2.out.bz.free; have HTA := Aside0.mk (HT2.out.below ((Below.refl _ _).alloc (Nat.le_refl _) (.cells #[.int .i64 g.id, .int .i64 g.fi, .int .i64 g.tm, .int .i64 g.ht, .int .i64 g.hv, .int .i64 g.hc, .slice A g.l.length c] 26))); have hgn := BlkG.new g A c w2; obtain ⟨n0, hn0⟩ : ∃ n, w2.heap.size = n := ⟨_, rfl⟩; have HN0 := Aside0.mk hn0; have HSN : Aside0 (s + 3 ≤ n0) := ⟨(by rw [← hn0]; exact HT2.out.sz)⟩; have l1 : s < n0 := (by have := HSN.out; omega); have l2 : s + 1 < n0 := (by have := HSN.out; omega); have l3 : s + 2 < n0 := (by have := HSN.out; omega); have m1 : s ≠ n0 := (by omega); have m2 : s + 1 ≠ n0 := (by omega); have m3 : s + 2 ≠ n0 := (by omega); have o1 := Ne.symm m1; have o2 := Ne.symm m2; have o3 := Ne.symm m3; rw [hn0] at hgn; have HGN := Aside0.mk hgn; clear hgn))
  obtain ⟨W3, hW3⟩ : ∃ W3, w2.alloc (.cells #[.int .i64 g.id, .int .i64 g.fi, .int .i64 g.tm, .int .i64 g.ht, .int .i64 g.hv, .int .i64 g.hc, .slice A g.l.length c] 26) = W3 := ⟨_, rfl⟩
  rw [hW3] at HTA HGN ⊢
  clear e0 e1 e2 e3 e4 e5 e6 p0 p1 p2 p3 p4 p5 p6 p7 p8 p9 z0 z1 z2 z3 z4 z5 z6 ef zf
  have hC3 := HC3.out
  simp only [Try.f18] at hC3
  subst hC3
  clear hW3 HC3
  obtain ⟨e0, e1, e2, e3, e4, e5, e6⟩ := HTA.out.bg.box
  obtain ⟨y0, y1, y2, y3, y4, y5, y6⟩ := HGN.out.box
  have yf := HGN.out.free
  obtain ⟨p0, p1, p2, p3, p4, p5, p6, p7, p8, p9⟩ := HTA.out.bp.box
  obtain ⟨z0, z1, z2, z3, z4, z5, z6⟩ := HTA.out.bz.box
  have zf := HTA.out.bz.free
  go_wp2
  have hst := stored (r := g) (A' := A) (c' := c) HTA.out.bz HTA.out.rg HTA.out.b (Nat.le_add_right s 2) (by have := HTA.out.b.size; have := HS.out; omega)
  try simp only [List.length_nil] at hst
  obtain ⟨r0, r1, r2, r3, r4, r5, r6⟩ := hst.1.box
  try dsimp only at r0 r1 r2 r3 r4 r5 r6
  refine bodyPost_ret (v := vG g A c) (by simp [results, Try.results18, go_sem, vG, r0, r1, r2, r3, r4, r5, r6]) rfl ⟨A, c, by rw [HG.out], by rw [HG.out]; exact hst.2.1, by rw [HS.out]; exact hst.2.2⟩
set_option maxHeartbeats 8000000 in
set_option maxRecDepth 100000 in
theorem ref_Loose_k4b (g : Grp) (A : Option Addr) (c : Nat) (pg pk : Int) (pl : List Ent) (pht phv phc pix ptm : Int) (pm ph : Bool) (Ap : Option Addr) (cp : Nat) (w : World) (h : Rd w A c g.l) (hp : Rd w Ap cp pl) (hl : g.l.length + pl.length ≤ 4398046511104) (h1 : isG false g = true) (h2 : isP ⟨pg, pk, pl, pht, phv, phc, pix, ptm, pm, ph⟩ = true) (h3 : pg = g.id) (h4 : pk = 4) (h5 : g.fi ≤ pix) :
    Calls Try.prog 18 #[vG g A c, vP ⟨pg, pk, pl, pht, phv, phc, pix, ptm, pm, ph⟩ Ap cp] w (GotG w (looseG g ⟨pg, pk, pl, pht, phv, phc, pix, ptm, pm, ph⟩)) := by
  have HT0 := Aside0.mk (Two.new g A c ⟨g.id, 4, pl, pht, phv, phc, pix, ptm, pm, ph⟩ Ap cp w h hp)
  have HLN := Aside0.mk hl
  subst h3
  subst h4
  have HB1 := Aside0.mk h1
  have HB2 := Aside0.mk h2
  have HG : Aside0 (looseG g ⟨g.id, 4, pl, pht, phv, phc, pix, ptm, pm, ph⟩ = if g.fi ≤ pix then ⟨g.id, pix + 1, ptm, g.ht, g.hv, g.hc, []⟩ else g) := ⟨by rw [looseG, if_pos ⟨h1, h2, rfl⟩]; rfl⟩
  have HIX := Aside0.mk (isP_ix h2 (.inr (.inl rfl)))
  have HIF : Aside0 ((if g.fi ≤ pix then ⟨g.id, pix + 1, ptm, g.ht, g.hv, g.hc, []⟩ else g) = ⟨g.id, pix + 1, ptm, g.ht, g.hv, g.hc, []⟩) := ⟨if_pos h5⟩
  rw [HIF.out] at HG
  have d5 : decide (g.fi ≤ pix) = true := decide_eq_true h5
  clear h5
  clear h1 h2
  clear h hp hl
  unfold vG vP
  go_enter Try.func18, Try.ntmps18
  obtain ⟨C, hC⟩ : ∃ C, (match Try.f18.body with | some (.seq _ c) => c | _ => .skip) = C := ⟨_, rfl⟩
  have HC := Aside0.mk hC
  simp only [Try.f18] at hC
  rw [hC]
  clear hC
  go_wp2
  obtain ⟨s, hs⟩ : ∃ s, w.heap.size = s := ⟨_, rfl⟩
  have HT1 := HT0.out
  rw [hs] at HT1 ⊢
  obtain ⟨W, hW⟩ : ∃ W, (((w.alloc (.cells #[.int .i64 g.id, .int .i64 g.fi, .int .i64 g.tm, .int .i64 g.ht, .int .i64 g.hv, .int .i64 g.hc, .slice A g.l.length c] 26)).alloc (.cells #[.int .i64 g.id, .int .i64 4, .slice Ap pl.length cp, .int .i64 pht, .int .i64 phv, .int .i64 phc, .int .i64 pix, .int .i64 ptm, .bool pm, .bool ph] 28)).alloc (.cells #[.int .i64 0, .int .i64 0, .int .i64 0, .int .i64 0, .int .i64 0, .int .i64 0, .slice none 0 0] 26)) = W := ⟨_, rfl⟩
  rw [hW] at HT1 ⊢
  have HT := Aside0.mk HT1
  have HS := Aside0.mk hs
  have hC := HC.out
  simp only [Try.f18] at hC
  subst hC
  clear hW HT1 HT0 hs HC
  obtain ⟨e0, e1, e2, e3, e4, e5, e6⟩ := HT.out.bg.box; obtain ⟨p0, p1, p2, p3, p4, p5, p6, p7, p8, p9⟩ := HT.out.bp.box; obtain ⟨z0, z1, z2, z3, z4, z5, z6⟩ := HT.out.bz.box; have ef := HT.out.bg.free; have zf := HT.out.bz.free
  obtain ⟨C3, hC3⟩ : ∃ C, (match Try.f18.body with | some (.seq _ (.seq _ (.seq _ c))) => c | _ => .skip) = C := ⟨_, rfl⟩
  have HC3 := Aside0.mk hC3
  simp only [Try.f18] at hC3
  rw [hC3]
  clear hC3
  go_wp2_with (first | (go_at_call 14; refine (iss_calls' g A c _ HT.out.rg HB1.out).mono ?_; rintro e w1 ⟨rfl, hw1⟩; have HT1 := Aside0.mk (HT.out.below hw1); clear hw1; clear e0 e1 e2 e3 e4 e5 e6 p0 p1 p2 p3 p4 p5 p6 p7 p8 p9 z0 z1 z2 z3 z4 z5 z6 ef zf; obtain ⟨e0, e1, e2, e3, e4, e5, e6⟩ := HT1.out.bg.box; obtain ⟨p0, p1, p2, p3, p4, p5, p6, p7, p8, p9⟩ := HT1.out.bp.box; obtain ⟨z0, z1, z2, z3, z4, z5, z6⟩ := HT1.out.bz.box; have ef := HT1.out.bg.free; have zf := HT1.out.bz.free) | (go_at_call 22; refine (isr_calls' ⟨g.id, 4, pl, pht, phv, phc, pix, ptm, pm, ph⟩ _ cp _ HT1.out.rp HB2.out).mono ?_; rintro e w2 ⟨rfl, hw2⟩; have HT2 := Aside0.mk (HT1.out.below hw2); clear hw2; clear e0 e1 e2 e3 e4 e5 e6 p0 p1 p2 p3 p4 p5 p6 p7 p8 p9 z0 z1 z2 z3 z4 z5 z6 ef zf; obtain ⟨e0, e1, e2, e3, e4, e5, e6⟩ := HT2.out.bg.box; obtain ⟨p0, p1, p2, p3, p4, p5, p6, p7, p8, p9⟩ := HT2.out.bp.box; obtain ⟨z0, z1, z2, z3, z4, z5, z6⟩ := HT2.out.bz.box; have ef := HT2.out.bg.free; have zf := HT2.out.bz.free; have HTA := Aside0.mk (HT2.out.below ((Below.refl _ _).alloc (Nat.le_refl _) (.cells #[.int .i64 g.id, .int .i64 g.fi, .int .i64 g.tm, .int .i64 g.ht, .int .i64 g.hv, .int .i64 g.hc, .slice A g.l.length c] 26))); have hgn := BlkG.new g A c w2; obtain ⟨n0, hn0⟩ : ∃ n, w2.heap.size = n := ⟨_, rfl⟩; have HN0 := Aside0.mk hn0; have HSN : Aside0 (s + 3 ≤ n0) := ⟨(by rw [← hn0]; exact HT2.out.sz)⟩; have l1 : s < n0 := (by have := HSN.out; omega); have l2 : s + 1 < n0 := (by have := HSN.out; omega); have l3 : s + 2 < n0 := (by have := HSN.out; omega); have m1 : s ≠ n0 := (by omega); have m2 : s + 1 ≠ n0 := (by omega); have m3 : s + 2 ≠ n0 := (by omega); have o1 := Ne.symm m1; have o2 := Ne.symm m2; have o3 := Ne.symm m3; rw [hn0] at hgn; have HGN := Aside0.mk hgn; clear hgn))
  obtain ⟨W3, hW3⟩ : ∃ W3, w2.alloc (.cells #[.int .i64 g.id, .int .i64 g.fi, .int .i64 g.tm, .int .i64 g.ht, .int .i64 g.hv, .int .i64 g.hc, .slice A g.l.length c] 26) = W3 := ⟨_, rfl⟩
  rw [hW3] at HTA HGN ⊢
  clear e0 e1 e2 e3 e4 e5 e6 p0 p1 p2 p3 p4 p5 p6 p7 p8 p9 z0 z1 z2 z3 z4 z5 z6 ef zf
  have hC3 := HC3.out
  simp only [Try.f18] at hC3
  subst hC3
  clear hW3 HC3
  obtain ⟨e0, e1, e2, e3, e4, e5, e6⟩ := HTA.out.bg.box
  obtain ⟨y0, y1, y2, y3, y4, y5, y6⟩ := HGN.out.box
  have yf := HGN.out.free
  obtain ⟨p0, p1, p2, p3, p4, p5, p6, p7, p8, p9⟩ := HTA.out.bp.box
  obtain ⟨z0, z1, z2, z3, z4, z5, z6⟩ := HTA.out.bz.box
  have zf := HTA.out.bz.free
  have i0 := HIX.out.1
  have i1 := HIX.out.2
  have hwp : IntKind.i64.wrap (pix + 1) = pix + 1 := by rw [i64_w]; unfold wrap64; omega
  go_wp2
  clear e0 e1 e2 e3 e4 e5 e6 z0 z1 z2 z3 z4 z5 z6 zf
  refine start_ (n := 11) (S := (fun w' => w'.cell? ⟨s + 1, 6, none⟩ = some (.int .i64 pix) ∧ w'.cell? ⟨s + 1, 7, none⟩ = some (.int .i64 ptm))) (ds := [10]) #[false, false, false, false, false, false, false, false, false, false, false] (by kernel_rfl) rfl rfl ⟨p6, p7⟩ (fun hHeld => ?_)
  clear p0 p1 p2 p3 p4 p5 p6 p7 p8 p9
  refine pure_ (i := 0) (N := some 67) (v := ?_) (a' := ?_) #[true, false, false, false, false, false, false, false, false, false, false] rfl rfl (by kernel_rfl) (fun _ _ _ h => h) (Or.inl ⟨by rfl, ?_⟩) ?_ ?_
  rotate_left
  · intro w'
    go_simp
    try with_reducible rfl
  rotate_left
  · simp only [Act.put, List.setIfInBounds_toArray, List.set_cons_zero, List.set_cons_succ]
    rfl
  refine take_ (i := 1) (N := some 68) (v := ?_) (a' := ?_) #[true, true, false, false, false, false, false, false, false, false, false] rfl rfl (by kernel_rfl) (fun _ _ _ h => h) (Or.inl ⟨by rfl, ?_⟩) hHeld ?_ ?_
  rotate_left
  · rintro w' ⟨s0, s1⟩
    go_simp
    try with_reducible rfl
  rotate_left
  · simp only [Act.put, List.setIfInBounds_toArray, List.set_cons_zero, List.set_cons_succ]
    rfl
  refine pure_ (i := 2) (N := some 69) (v := ?_) (a' := ?_) #[true, true, true, false, false, false, false, false, false, false, false] rfl rfl (by kernel_rfl) (fun _ _ _ h => h) (Or.inl ⟨by rfl, ?_⟩) ?_ ?_
  rotate_left
  · intro w'
    go_simp
    try with_reducible rfl
  rotate_left
  · simp only [Act.put, List.setIfInBounds_toArray, List.set_cons_zero, List.set_cons_succ]
    rfl
  refine pure_ (i := 3) (N := some 70) (v := ?_) (a' := ?_) #[true, true, true, true, false, false, false, false, false, false, false] rfl rfl (by kernel_rfl) (fun _ _ _ h => h) (Or.inl ⟨by rfl, ?_⟩) ?_ ?_
  rotate_left
  · intro w'
    go_simp
    try with_reducible rfl
  rotate_left
  · simp only [Act.put, List.setIfInBounds_toArray, List.set_cons_zero, List.set_cons_succ]
    rfl
  refine take_ (i := 4) (N := some 71) (v := ?_) (a' := ?_) #[true, true, true, true, true, false, false, false, false, false, false] rfl rfl (by kernel_rfl) (fun _ _ _ h => h) (Or.inl ⟨by rfl, ?_⟩) hHeld ?_ ?_
  rotate_left
  · rintro w' ⟨s0, s1⟩
    go_simp
    try with_reducible rfl
  rotate_left
  · simp only [Act.put, List.setIfInBounds_toArray, List.set_cons_zero, List.set_cons_succ]
    rfl
  refine pure_ (i := 5) (N := some 72) (v := ?_) (a' := ?_) #[true, true, true, true, true, true, false, false, false, false, false] rfl rfl (by kernel_rfl) (fun _ _ _ h => h) (Or.inl ⟨by rfl, ?_⟩) ?_ ?_
  rotate_left
  · intro w'
    go_simp
    try with_reducible rfl
  rotate_left
  · simp only [Act.put, List.setIfInBounds_toArray, List.set_cons_zero, List.set_cons_succ]
    rfl
  refine one_ (i := 6) (N := none) #[true, true, true, true, true, true, true, false, false, false, false] rfl rfl (by kernel_rfl) (by decide) (fun K hK => ?_)
  go_simp
  refine hK.out _ _ ?_ (fun hHeld => ?_)
  · obtain ⟨s0, s1⟩ := hHeld; exact ⟨((Only.refl (fun q => q = n0) _).setCell (p := ⟨n0, 6, none⟩) rfl (.slice none 0 0)).cell s0 (fun h => by have h2 : s + 1 = n0 := h; omega), ((Only.refl (fun q => q = n0) _).setCell (p := ⟨n0, 6, none⟩) rfl (.slice none 0 0)).cell s1 (fun h => by have h2 : s + 1 = n0 := h; omega)⟩
  clear hK K
  try simp only [Act.put, List.setIfInBounds_toArray, List.set_cons_zero, List.set_cons_succ]
  refine pure_ (i := 7) (N := some 73) (v := ?_) (a' := ?_) #[true, true, true, true, true, true, true, true, false, false, false] rfl rfl (by kernel_rfl) (fun _ _ _ h => h) (Or.inl ⟨by rfl, ?_⟩) ?_ ?_
  rotate_left
  · intro w'
    go_simp
    try with_reducible rfl
  rotate_left
  · simp only [Act.put, List.setIfInBounds_toArray, List.set_cons_zero, List.set_cons_succ]
    rfl
  refine one_ (i := 8) (N := none) #[true, true, true, true, true, true, true, true, true, false, false] rfl rfl (by kernel_rfl) (by decide) (fun K hK => ?_)
  go_simp
  refine hK.out _ _ ?_ (fun hHeld => ?_)
  · obtain ⟨s0, s1⟩ := hHeld; exact ⟨((Only.refl (fun q => q = n0) _).setCell (p := ⟨n0, 1, none⟩) rfl (.int .i64 (pix + 1))).cell s0 (fun h => by have h2 : s + 1 = n0 := h; omega), ((Only.refl (fun q => q = n0) _).setCell (p := ⟨n0, 1, none⟩) rfl (.int .i64 (pix + 1))).cell s1 (fun h => by have h2 : s + 1 = n0 := h; omega)⟩
  clear hK K
  try simp only [Act.put, List.setIfInBounds_toArray, List.set_cons_zero, List.set_cons_succ]
  refine pure_ (i := 9) (N := some 74) (v := ?_) (a' := ?_) #[true, true, true, true, true, true, true, true, true, true, false] rfl rfl (by kernel_rfl) (fun _ _ _ h => h) (Or.inl ⟨by rfl, ?_⟩) ?_ ?_
  rotate_left
  · intro w'
    go_simp
    try with_reducible rfl
  rotate_left
  · simp only [Act.put, List.setIfInBounds_toArray, List.set_cons_zero, List.set_cons_succ]
    rfl
  refine last_ (i := 10) (N := none) #[true, true, true, true, true, true, true, true, true, true, true] rfl rfl (by kernel_rfl) (by decide) (fun K hK => ?_)
  go_simp
  refine hK.out _ _ ?_
  clear hK K
  try simp only [Act.put, List.setIfInBounds_toArray, List.set_cons_zero, List.set_cons_succ]
  refine done_ (by kernel_rfl) ?_
  obtain ⟨W4, hW4⟩ : ∃ W4, (((W3.setCell ⟨n0, 6, none⟩ (.slice none 0 0)).setCell ⟨n0, 1, none⟩ (.int .i64 (pix + 1))).setCell ⟨n0, 2, none⟩ (.int .i64 ptm)).drew = W4 := ⟨_, rfl⟩
  have hg4 : BlkG ⟨g.id, pix + 1, ptm, g.ht, g.hv, g.hc, []⟩ none 0 n0 W4 := by rw [← hW4]; exact (HGN.out.snap pix ptm).below (below_drew (Below.refl _ _))
  have ho : Only (fun q => q = n0) W3 W4 := by rw [← hW4]; exact ((((Only.refl (fun q => q = n0) W3).setCell (p := ⟨n0, 6, none⟩) rfl _).setCell (p := ⟨n0, 1, none⟩) rfl _).setCell (p := ⟨n0, 2, none⟩) rfl _).drew
  rw [hW4]
  have hta := HTA.out.only ho (fun q hq h => by have h2 : q = n0 := h; omega)
  have HT4 := Aside0.mk hta
  have HG4 := Aside0.mk hg4
  clear y0 y1 y2 y3 y4 y5 y6 yf hW4 ho hta hg4 hHeld i0 i1 hwp
  obtain ⟨e0, e1, e2, e3, e4, e5, e6⟩ := HG4.out.box
  obtain ⟨z0, z1, z2, z3, z4, z5, z6⟩ := HT4.out.bz.box
  have zf := HT4.out.bz.free
  dsimp only [List.length_nil] at e0 e1 e2 e3 e4 e5 e6
  go_wp2
  have hst := stored (r := ⟨g.id, pix + 1, ptm, g.ht, g.hv, g.hc, []⟩) (A' := none) (c' := 0) HT4.out.bz (Rd.nil _) HT4.out.b (Nat.le_add_right s 2) (by have := HT4.out.b.size; have := HS.out; omega)
  try simp only [List.length_nil] at hst
  obtain ⟨r0, r1, r2, r3, r4, r5, r6⟩ := hst.1.box
  try dsimp only at r0 r1 r2 r3 r4 r5 r6
  refine bodyPost_ret (v := vG ⟨g.id, pix + 1, ptm, g.ht, g.hv, g.hc, []⟩ none 0) (by simp [results, Try.results18, go_sem, vG, r0, r1, r2, r3, r4, r5, r6]) rfl ⟨none, 0, by rw [HG.out], by rw [HG.out]; exact hst.2.1, by rw [HS.out]; exact hst.2.2⟩
set_option maxHeartbeats 8000000 in
set_option maxRecDepth 100000 in
theorem ref_Loose_k1 (g : Grp) (A : Option Addr) (c : Nat) (pg pk : Int) (pl : List Ent) (pht phv phc pix ptm : Int) (pm ph : Bool) (Ap : Option Addr) (cp : Nat) (w : World) (h : Rd w A c g.l) (hp : Rd w Ap cp pl) (hl : g.l.length + pl.length ≤ 4398046511104) (h1 : isG false g = true) (h2 : isP ⟨pg, pk, pl, pht, phv, phc, pix, ptm, pm, ph⟩ = true) (h3 : pg = g.id) (h4 : pk = 1) :
    Calls Try.prog 18 #[vG g A c, vP ⟨pg, pk, pl, pht, phv, phc, pix, ptm, pm, ph⟩ Ap cp] w (GotG w (looseG g ⟨pg, pk, pl, pht, phv, phc, pix, ptm, pm, ph⟩)) := by
  have HT0 := Aside0.mk (Two.new g A c ⟨g.id, 1, pl, pht, phv, phc, pix, ptm, pm, ph⟩ Ap cp w h hp)
  have HLN := Aside0.mk hl
  subst h3
  subst h4
  have HB1 := Aside0.mk h1
  have HB2 := Aside0.mk h2
  have HG : Aside0 (looseG g ⟨g.id, 1, pl, pht, phv, phc, pix, ptm, pm, ph⟩ = ⟨g.id, g.fi, g.tm, g.ht, g.hv, g.hc, (belowL g.l (el pl 0).f0) ++ (fromL pl g.fi)⟩) := ⟨by rw [looseG, if_pos ⟨h1, h2, rfl⟩]; rfl⟩
  have HNE := Aside0.mk (isP_ne h2 rfl)
  have HLN3 : Aside0 ((belowL g.l (el pl 0).f0).length ≤ 4398046511104) := ⟨Nat.le_trans (List.length_filter_le _ _) (by omega)⟩
  have HLN4 : Aside0 ((fromL pl g.fi).length ≤ 4398046511104) := ⟨Nat.le_trans (List.length_filter_le _ _) (by omega)⟩
  have HLN5 : Aside0 ((belowL g.l (el pl 0).f0).length + (fromL pl g.fi).length ≤ 4398046511104) := ⟨by have a1 : (belowL g.l (el pl 0).f0).length ≤ g.l.length := List.length_filter_le _ _; have a2 : (fromL pl g.fi).length ≤ pl.length := List.length_filter_le _ _; omega⟩
  clear h1 h2
  clear h hp hl
  unfold vG vP
  go_enter Try.func18, Try.ntmps18
  obtain ⟨C, hC⟩ : ∃ C, (match Try.f18.body with | some (.seq _ c) => c | _ => .skip) = C := ⟨_, rfl⟩
  have HC := Aside0.mk hC
  simp only [Try.f18] at hC
  rw [hC]
  clear hC
  go_wp2
  obtain ⟨s, hs⟩ : ∃ s, w.heap.size = s := ⟨_, rfl⟩
  have HT1 := HT0.out
  rw [hs] at HT1 ⊢
  obtain ⟨W, hW⟩ : ∃ W, (((w.alloc (.cells #[.int .i64 g.id, .int .i64 g.fi, .int .i64 g.tm, .int .i64 g.ht, .int .i64 g.hv, .int .i64 g.hc, .slice A g.l.length c] 26)).alloc (.cells #[.int .i64 g.id, .int .i64 1, .slice Ap pl.length cp, .int .i64 pht, .int .i64 phv, .int .i64 phc, .int .i64 pix, .int .i64 ptm, .bool pm, .bool ph] 28)).alloc (.cells #[.int .i64 0, .int .i64 0, .int .i64 0, .int .i64 0, .int .i64 0, .int .i64 0, .slice none 0 0] 26)) = W := ⟨_, rfl⟩
  rw [hW] at HT1 ⊢
  have HT := Aside0.mk HT1
  have HS := Aside0.mk hs
  have hC := HC.out
  simp only [Try.f18] at hC
  subst hC
  clear hW HT1 HT0 hs HC
  obtain ⟨e0, e1, e2, e3, e4, e5, e6⟩ := HT.out.bg.box; obtain ⟨p0, p1, p2, p3, p4, p5, p6, p7, p8, p9⟩ := HT.out.bp.box; obtain ⟨z0, z1, z2, z3, z4, z5, z6⟩ := HT.out.bz.box; have ef := HT.out.bg.free; have zf := HT.out.bz.free
  obtain ⟨ad, rfl, q0, q1, q2⟩ := HT.out.rp.at_ (i := 0) HNE.out
  clear q0 q1 q2
  obtain ⟨C3, hC3⟩ : ∃ C, (match Try.f18.body with | some (.seq _ (.seq _ (.seq _ c))) => c | _ => .skip) = C := ⟨_, rfl⟩
  have HC3 := Aside0.mk hC3
  simp only [Try.f18] at hC3
  rw [hC3]
  clear hC3
  go_wp2_with (first | (go_at_call 14; refine (iss_calls' g A c _ HT.out.rg HB1.out).mono ?_; rintro e w1 ⟨rfl, hw1⟩; have HT1 := Aside0.mk (HT.out.below hw1); clear hw1; clear e0 e1 e2 e3 e4 e5 e6 p0 p1 p2 p3 p4 p5 p6 p7 p8 p9 z0 z1 z2 z3 z4 z5 z6 ef zf; obtain ⟨e0, e1, e2, e3, e4, e5, e6⟩ := HT1.out.bg.box; obtain ⟨p0, p1, p2, p3, p4, p5, p6, p7, p8, p9⟩ := HT1.out.bp.box; obtain ⟨z0, z1, z2, z3, z4, z5, z6⟩ := HT1.out.bz.box; have ef := HT1.out.bg.free; have zf := HT1.out.bz.free) | (go_at_call 22; refine (isr_calls' ⟨g.id, 1, pl, pht, phv, phc, pix, ptm, pm, ph⟩ _ cp _ HT1.out.rp HB2.out).mono ?_; rintro e w2 ⟨rfl, hw2⟩; have HT2 := Aside0.mk (HT1.out.below hw2); clear hw2; clear e0 e1 e2 e3 e4 e5 e6 p0 p1 p2 p3 p4 p5 p6 p7 p8 p9 z0 z1 z2 z3 z4 z5 z6 ef zf; obtain ⟨e0, e1, e2, e3, e4, e5, e6⟩ := HT2.out.bg.box; obtain ⟨p0, p1, p2, p3, p4, p5, p6, p7, p8, p9⟩ := HT2.out.bp.box; obtain ⟨z0, z1, z2, z3, z4, z5, z6⟩ := HT2.out.bz.box; have ef := HT2.out.bg.free; have zf := HT2.out.bz.free; have HTA := Aside0.mk (HT2.out.below ((Below.refl _ _).alloc (Nat.le_refl _) (.cells #[.int .i64 g.id, .int .i64 g.fi, .int .i64 g.tm, .int .i64 g.ht, .int .i64 g.hv, .int .i64 g.hc, .slice A g.l.length c] 26))); have hgn := BlkG.new g A c w2; obtain ⟨n0, hn0⟩ : ∃ n, w2.heap.size = n := ⟨_, rfl⟩; have HN0 := Aside0.mk hn0; have HSN : Aside0 (s + 3 ≤ n0) := ⟨(by rw [← hn0]; exact HT2.out.sz)⟩; have l1 : s < n0 := (by have := HSN.out; omega); have l2 : s + 1 < n0 := (by have := HSN.out; omega); have l3 : s + 2 < n0 := (by have := HSN.out; omega); have m1 : s ≠ n0 := (by omega); have m2 : s + 1 ≠ n0 := (by omega); have m3 : s + 2 ≠ n0 := (by omega); have o1 := Ne.symm m1; have o2 := Ne.symm m2; have o3 := Ne.symm m3; rw [hn0] at hgn; have HGN := Aside0.mk hgn; clear hgn))
  obtain ⟨W3, hW3⟩ : ∃ W3, w2.alloc (.cells #[.int .i64 g.id, .int .i64 g.fi, .int .i64 g.tm, .int .i64 g.ht, .int .i64 g.hv, .int .i64 g.hc, .slice A g.l.length c] 26) = W3 := ⟨_, rfl⟩
  rw [hW3] at HTA HGN ⊢
  clear e0 e1 e2 e3 e4 e5 e6 p0 p1 p2 p3 p4 p5 p6 p7 p8 p9 z0 z1 z2 z3 z4 z5 z6 ef zf
  have hC3 := HC3.out
  simp only [Try.f18] at hC3
  subst hC3
  clear hW3 HC3
  obtain ⟨e0, e1, e2, e3, e4, e5, e6⟩ := HTA.out.bg.box
  obtain ⟨y0, y1, y2, y3, y4, y5, y6⟩ := HGN.out.box
  have yf := HGN.out.free
  obtain ⟨p0, p1, p2, p3, p4, p5, p6, p7, p8, p9⟩ := HTA.out.bp.box
  obtain ⟨z0, z1, z2, z3, z4, z5, z6⟩ := HTA.out.bz.box
  have zf := HTA.out.bz.free
  obtain ⟨ad', hq, q0, q1, q2⟩ := HTA.out.rp.at_ (i := 0) HNE.out
  cases hq
  simp only [ad0] at q0 q1 q2
  have hne := HNE.out
  have hne2 : (0 : Int) < (pl.length : Int) := by omega
  go_wp2
  have HRg := Aside0.mk (Rd.drew HTA.out.rg)
  have HRp := Aside0.mk (Rd.drew HTA.out.rp)
  have HHE : Aside0 ((fun w' => w'.cell? ⟨s, 1, none⟩ = some (.int .i64 g.fi) ∧ w'.cell? ⟨s, 6, none⟩ = some (.slice A g.l.length c) ∧ w'.cell? ⟨s + 1, 2, none⟩ = some (.slice (some ad) pl.length cp) ∧ w'.cell? ad = some (.int .i64 (el pl 0).f0)) W3) := ⟨⟨e1, e6, p2, q0⟩⟩
  refine start_ (n := 16) (S := (fun w' => w'.cell? ⟨s, 1, none⟩ = some (.int .i64 g.fi) ∧ w'.cell? ⟨s, 6, none⟩ = some (.slice A g.l.length c) ∧ w'.cell? ⟨s + 1, 2, none⟩ = some (.slice (some ad) pl.length cp) ∧ w'.cell? ad = some (.int .i64 (el pl 0).f0))) (ds := [15]) #[false, false, false, false, false, false, false, false, false, false, false, false, false, false, false, false] (by kernel_rfl) rfl rfl ⟨e1, e6, p2, q0⟩ (fun hHeld => ?_)
  clear e0 e1 e2 e3 e4 e5 e6 p0 p1 p2 p3 p4 p5 p6 p7 p8 p9 z0 z1 z2 z3 z4 z5 z6 zf y0 y1 y2 y3 y4 y5 y6 yf q0 q1 q2
  refine pure_ (i := 0) (N := some 32) (v := ?_) (a' := ?_) #[true, false, false, false, false, false, false, false, false, false, false, false, false, false, false, false] rfl rfl (by kernel_rfl) (fun _ _ _ h => h) (Or.inl ⟨by rfl, ?_⟩) ?_ ?_
  rotate_left
  · intro w'
    go_simp
    try with_reducible rfl
  rotate_left
  · simp only [Act.put, List.setIfInBounds_toArray, List.set_cons_zero, List.set_cons_succ]
    rfl
  refine take_ (i := 1) (N := some 33) (v := ?_) (a' := ?_) #[true, true, false, false, false, false, false, false, false, false, false, false, false, false, false, false] rfl rfl (by kernel_rfl) (fun _ _ _ h => h) (Or.inl ⟨by rfl, ?_⟩) hHeld ?_ ?_
  rotate_left
  · rintro w' ⟨s0, s1, s2, s3⟩
    go_simp
    try with_reducible rfl
  rotate_left
  · simp only [Act.put, List.setIfInBounds_toArray, List.set_cons_zero, List.set_cons_succ]
    rfl
  refine pure_ (i := 2) (N := some 34) (v := ?_) (a' := ?_) #[true, true, true, false, false, false, false, false, false, false, false, false, false, false, false, false] rfl rfl (by kernel_rfl) (fun _ _ _ h => h) (Or.inl ⟨by rfl, ?_⟩) ?_ ?_
  rotate_left
  · intro w'
    go_simp
    try with_reducible rfl
  rotate_left
  · simp only [Act.put, List.setIfInBounds_toArray, List.set_cons_zero, List.set_cons_succ]
    rfl
  refine take_ (i := 3) (N := some 35) (v := ?_) (a' := ?_) #[true, true, true, true, false, false, false, false, false, false, false, false, false, false, false, false] rfl rfl (by kernel_rfl) (fun _ _ _ h => h) (Or.inl ⟨by rfl, ?_⟩) hHeld ?_ ?_
  rotate_left
  · rintro w' ⟨s0, s1, s2, s3⟩
    go_simp
    try with_reducible rfl
  rotate_left
  · simp only [Act.put, List.setIfInBounds_toArray, List.set_cons_zero, List.set_cons_succ]
    rfl
  refine pure_ (i := 4) (N := some 36) (v := ?_) (a' := ?_) #[true, true, true, true, true, false, false, false, false, false, false, false, false, false, false, false] rfl rfl (by kernel_rfl) (fun _ _ _ h => h) (Or.inl ⟨by rfl, ?_⟩) ?_ ?_
  rotate_left
  · intro w'
    go_simp
    try with_reducible rfl
  rotate_left
  · simp only [Act.put, List.setIfInBounds_toArray, List.set_cons_zero, List.set_cons_succ]
    rfl
  refine pure_ (i := 5) (N := some 37) (v := ?_) (a' := ?_) #[true, true, true, true, true, true, false, false, false, false, false, false, false, false, false, false] rfl rfl (by kernel_rfl) (fun _ _ _ h => h) (Or.inl ⟨by rfl, ?_⟩) ?_ ?_
  rotate_left
  · intro w'
    go_simp
    try with_reducible rfl
  rotate_left
  · simp only [Act.put, List.setIfInBounds_toArray, List.set_cons_zero, List.set_cons_succ]
    rfl
  refine take_ (i := 6) (N := some 38) (v := ?_) (a' := ?_) #[true, true, true, true, true, true, true, false, false, false, false, false, false, false, false, false] rfl rfl (by kernel_rfl) (fun _ _ _ h => h) (Or.inl ⟨by rfl, ?_⟩) hHeld ?_ ?_
  rotate_left
  · rintro w' ⟨s0, s1, s2, s3⟩
    go_simp
    try with_reducible rfl
  rotate_left
  · simp only [Act.put, List.setIfInBounds_toArray, List.set_cons_zero, List.set_cons_succ]
    rfl
  refine pure_ (i := 8) (N := some 40) (v := ?_) (a' := ?_) #[true, true, true, true, true, true, true, false, true, false, false, false, false, false, false, false] rfl rfl (by kernel_rfl) (fun _ _ _ h => h) (Or.inl ⟨by rfl, ?_⟩) ?_ ?_
  rotate_left
  · intro w'
    go_simp
    try with_reducible rfl
  rotate_left
  · simp only [Act.put, List.setIfInBounds_toArray, List.set_cons_zero, List.set_cons_succ]
    rfl
  refine take_ (i := 9) (N := some 41) (v := ?_) (a' := ?_) #[true, true, true, true, true, true, true, false, true, true, false, false, false, false, false, false] rfl rfl (by kernel_rfl) (fun _ _ _ h => h) (Or.inl ⟨by rfl, ?_⟩) hHeld ?_ ?_
  rotate_left
  · rintro w' ⟨s0, s1, s2, s3⟩
    go_simp
    try with_reducible rfl
  rotate_left
  · simp only [Act.put, List.setIfInBounds_toArray, List.set_cons_zero, List.set_cons_succ]
    rfl
  refine pure_ (i := 10) (N := some 42) (v := ?_) (a' := ?_) #[true, true, true, true, true, true, true, false, true, true, true, false, false, false, false, false] rfl rfl (by kernel_rfl) (fun _ _ _ h => h) (Or.inl ⟨by rfl, ?_⟩) ?_ ?_
  rotate_left
  · intro w'
    go_simp
    try with_reducible rfl
  rotate_left
  · simp only [Act.put, List.setIfInBounds_toArray, List.set_cons_zero, List.set_cons_succ]
    rfl
  refine take_ (i := 11) (N := some 43) (v := ?_) (a' := ?_) #[true, true, true, true, true, true, true, false, true, true, true, true, false, false, false, false] rfl rfl (by kernel_rfl) (fun _ _ _ h => h) (Or.inl ⟨by rfl, ?_⟩) hHeld ?_ ?_
  rotate_left
  · rintro w' ⟨s0, s1, s2, s3⟩
    go_simp
    try with_reducible rfl
  rotate_left
  · simp only [Act.put, List.setIfInBounds_toArray, List.set_cons_zero, List.set_cons_succ]
    rfl
  refine one_ (i := 7) (N := some 39) #[true, true, true, true, true, true, true, true, true, true, true, true, false, false, false, false] rfl rfl (by kernel_rfl) (by decide) (fun K hK => ?_)
  go_simp
  refine (ref_below g.l A c (el pl 0).f0 _ HRg.out).mono ?_; rintro e w3 ⟨v1, rfl, ho, hw⟩; obtain ⟨A1, c1, rfl, hrd, hfr⟩ := ho.rd' HLN3.out; have HO3 := Aside0.mk ho; have HRD3 := Aside0.mk hrd; have HW3 := Aside0.mk hw; clear ho hrd hfr hw
  refine hK.out _ _ ?_ (fun hHeld => ?_)
  · obtain ⟨s0, s1, s2, s3⟩ := hHeld; exact ⟨(HW3.out.cell (World.block_lt_of_cell? _ _ s0)).trans s0, (HW3.out.cell (World.block_lt_of_cell? _ _ s1)).trans s1, (HW3.out.cell (World.block_lt_of_cell? _ _ s2)).trans s2, (HW3.out.cell (World.block_lt_of_cell? _ _ s3)).trans s3⟩
  clear hK K
  try simp only [Act.put, List.setIfInBounds_toArray, List.set_cons_zero, List.set_cons_succ]
  refine one_ (i := 12) (N := some 44) #[true, true, true, true, true, true, true, true, true, true, true, true, true, false, false, false] rfl rfl (by kernel_rfl) (by decide) (fun K hK => ?_)
  go_simp
  refine (ref_fromO pl (some ad) cp g.fi _ (HRp.out.below HW3.out)).mono ?_; rintro e w4 ⟨v2, rfl, ho, hw⟩; obtain ⟨A2, c2, rfl, hrd, hfr⟩ := ho.rd' HLN4.out; have HO4 := Aside0.mk ho; have HRD4 := Aside0.mk hrd; have HW4 := Aside0.mk hw; clear ho hrd hfr hw
  refine hK.out _ _ ?_ (fun hHeld => ?_)
  · obtain ⟨s0, s1, s2, s3⟩ := hHeld; exact ⟨(HW4.out.cell (World.block_lt_of_cell? _ _ s0)).trans s0, (HW4.out.cell (World.block_lt_of_cell? _ _ s1)).trans s1, (HW4.out.cell (World.block_lt_of_cell? _ _ s2)).trans s2, (HW4.out.cell (World.block_lt_of_cell? _ _ s3)).trans s3⟩
  clear hK K
  try simp only [Act.put, List.setIfInBounds_toArray, List.set_cons_zero, List.set_cons_succ]
  refine one_ (i := 13) (N := some 45) #[true, true, true, true, true, true, true, true, true, true, true, true, true, true, false, false] rfl rfl (by kernel_rfl) (by decide) (fun K hK => ?_)
  rw [if_pos (by rfl)]
  refine wp_append_ent (l := (belowL g.l (el pl 0).f0)) (m := (fromL pl g.fi)) (b := W3.heap.size) (.tmp 39) (.tmp 44) rfl rfl (HO3.out.below HW4.out) rfl HRD4.out HLN5.out (by have := HW3.out.size; have := HW4.out.size; simp at *; omega) ?_
  intro v5 w5 ho5 hg5 ha5; obtain ⟨L, hL⟩ : ∃ L, (belowL g.l (el pl 0).f0) ++ (fromL pl g.fi) = L := ⟨_, rfl⟩; have HLL : Aside0 (L.length ≤ 4398046511104) := ⟨by rw [← hL, List.length_append]; exact HLN5.out⟩; rw [hL] at ho5 HG; clear hL; have hon : Only (fun q => W3.heap.size ≤ q) W3 w5 := (((only_below (U := fun q => W3.heap.size ≤ q) (below_drew (Below.refl W3.heap.size W3))).trans ((only_below HW3.out).trans (only_below HW4.out)))).of_grown hg5 (fun k hk _ => (own_block HO3.out hk).1); have HON := Aside0.mk hon; obtain ⟨A5, c5, rfl, hrd5, hfr5⟩ := ho5.rd' HLL.out; have HRD5 := Aside0.mk hrd5; have HFR5 := Aside0.mk hfr5; clear ho5 hg5 ha5 hon hrd5 hfr5
  refine hK.out _ _ ?_ (fun hHeld => ?_)
  · obtain ⟨s0, s1, s2, s3⟩ := HHE.out; exact ⟨HON.out.cell s0 (by intro h; have h2 : W3.heap.size ≤ s := h; have := HTA.out.sz; omega), HON.out.cell s1 (by intro h; have h2 : W3.heap.size ≤ s := h; have := HTA.out.sz; omega), HON.out.cell s2 (by intro h; have h2 : W3.heap.size ≤ s + 1 := h; have := HTA.out.sz; omega), HON.out.cell s3 (by intro h; have h2 : W3.heap.size ≤ ad.block := h; have := World.block_lt_of_cell? _ _ s3; omega)⟩
  clear hK K
  try simp only [Act.put, List.setIfInBounds_toArray, List.set_cons_zero, List.set_cons_succ]
  have hg6 := HGN.out.only HON.out (fun h => by have h2 : W3.heap.size ≤ n0 := h; have := HGN.out.lt; omega)
  have HT6 := Aside0.mk (HTA.out.only HON.out (fun q hq h => by have h2 : W3.heap.size ≤ q := h; have := HTA.out.sz; omega))
  have yf := hg6.free
  obtain ⟨y0, y1, y2, y3, y4, y5, y6⟩ := hg6.box
  have HG6 := Aside0.mk hg6
  clear hg6
  refine pure_ (i := 14) (N := some 46) (v := ?_) (a' := ?_) #[true, true, true, true, true, true, true, true, true, true, true, true, true, true, true, false] rfl rfl (by kernel_rfl) (fun _ _ _ h => h) (Or.inl ⟨by rfl, ?_⟩) ?_ ?_
  rotate_left
  · intro w'
    go_simp
    try with_reducible rfl
  rotate_left
  · simp only [Act.put, List.setIfInBounds_toArray, List.set_cons_zero, List.set_cons_succ]
    rfl
  refine last_ (i := 15) (N := none) #[true, true, true, true, true, true, true, true, true, true, true, true, true, true, true, true] rfl rfl (by kernel_rfl) (by decide) (fun K hK => ?_)
  go_simp
  refine hK.out _ _ ?_
  clear hK K
  try simp only [Act.put, List.setIfInBounds_toArray, List.set_cons_zero, List.set_cons_succ]
  refine done_ (by kernel_rfl) ?_
  have hgl := HG6.out.setL L A5 c5
  have hx := (Only.refl (fun q => q = n0) w5).setCell (p := ⟨n0, 6, none⟩) rfl (.slice A5 L.length c5)
  have HT7 := Aside0.mk (HT6.out.only hx (fun q hq h => by have h2 : q = n0 := h; omega))
  have HRD7 := Aside0.mk (Rd.only HRD5.out hx (fun q hq h => by have h3 : q = n0 := h; subst h3; exact Rd.apartG HRD5.out HG6.out hq))
  have HG7 := Aside0.mk hgl
  clear hx hgl y0 y1 y2 y3 y4 y5 y6 yf
  have zf := HT7.out.bz.free
  obtain ⟨z0, z1, z2, z3, z4, z5, z6⟩ := HT7.out.bz.box
  obtain ⟨y0, y1, y2, y3, y4, y5, y6⟩ := HG7.out.box
  dsimp only at y0 y1 y2 y3 y4 y5 y6
  go_wp2
  have hst := stored (r := ⟨g.id, g.fi, g.tm, g.ht, g.hv, g.hc, L⟩) (A' := A5) (c' := c5) HT7.out.bz HRD7.out HT7.out.b (Nat.le_add_right s 2) (by have := HT7.out.b.size; have := HS.out; omega)
  try simp only [List.length_nil] at hst
  obtain ⟨r0, r1, r2, r3, r4, r5, r6⟩ := hst.1.box
  try dsimp only at r0 r1 r2 r3 r4 r5 r6
  refine bodyPost_ret (v := vG ⟨g.id, g.fi, g.tm, g.ht, g.hv, g.hc, L⟩ A5 c5) (by simp [results, Try.results18, go_sem, vG, r0, r1, r2, r3, r4, r5, r6]) rfl ⟨A5, c5, by rw [HG.out], by rw [HG.out]; exact hst.2.1, by rw [HS.out]; exact hst.2.2⟩
theorem ref_Loose (g : Grp) (A : Option Addr) (c : Nat) (p : Prt) (Ap : Option Addr) (cp : Nat) (w : World) (h : Rd w A c g.l) (hp : Rd w Ap cp p.l) (hl : g.l.length + p.l.length ≤ 4398046511104) :
    Calls Try.prog 18 #[vG g A c, vP p Ap cp] w (GotG w (looseG g p)) := by
  obtain ⟨pg, pk, pl, pht, phv, phc, pix, ptm, pm, ph⟩ := p
  cases h1 : isG false g with
  | false => exact ref_Loose_no1 g A c pg pk pl pht phv phc pix ptm pm ph Ap cp w h hp hl h1
  | true =>
    cases h2 : isP ⟨pg, pk, pl, pht, phv, phc, pix, ptm, pm, ph⟩ with
    | false => exact ref_Loose_no2 g A c pg pk pl pht phv phc pix ptm pm ph Ap cp w h hp hl h1 h2
    | true =>
      by_cases h3 : pg = g.id
      · rcases isP_kind h2 with h4 | h4 | h4 | h4 | h4 | h4
        · exact ref_Loose_k1 g A c pg pk pl pht phv phc pix ptm pm ph Ap cp w h hp hl h1 h2 h3 h4
        · exact ref_Loose_k2 g A c pg pk pl pht phv phc pix ptm pm ph Ap cp w h hp hl h1 h2 h3 h4
        · exact ref_Loose_k3 g A c pg pk pl pht phv phc pix ptm pm ph Ap cp w h hp hl h1 h2 h3 h4
        · by_cases h5 : g.fi ≤ pix
          · exact ref_Loose_k4b g A c pg pk pl pht phv phc pix ptm pm ph Ap cp w h hp hl h1 h2 h3 h4 h5
          · exact ref_Loose_k4a g A c pg pk pl pht phv phc pix ptm pm ph Ap cp w h hp hl h1 h2 h3 h4 h5
        · exact ref_Loose_k5 g A c pg pk pl pht phv phc pix ptm pm ph Ap cp w h hp hl h1 h2 h3 h4
        · exact ref_Loose_k6 g A c pg pk pl pht phv phc pix ptm pm ph Ap cp w h hp hl h1 h2 h3 h4
      · exact ref_Loose_no3 g A c pg pk pl pht phv phc pix ptm pm ph Ap cp w h hp hl h1 h2 h3
end Go.Proofs.Ytfnflbclhaeedaa.PartW
