/- The walk of sparse.Do. -/
import Derived.Test.YtfnflbclhaeedaaMg
import Derived.Test.YtfnflbclhaeedaaMe
import Derived.Test.YtfnflbclhaeedaaMc
import Derived.BigRegion
set_option linter.unusedVariables false
set_option linter.unusedSimpArgs false
namespace Go.Proofs.Ytfnflbclhaeedaa.Sp
open Go Go.RowKit Go.Proofs.Ytfnflbclhaeedaa.A Go.Proofs.YtfnflbclhaeedaaW.PrintWords Go.Proofs.YtfnflbclhaeedaaW.PrintLast Go.Proofs.YtfnflbclhaeedaaW.PrintMore
/-- what a part makes of a group with holes, in the program's words -/
def kindG (g : Grp) (p : Prt) : Grp :=
  if p.k = 1 then ⟨g.id, g.fi, g.tm, g.ht, g.hv, g.hc, withL g.l g.fi (el p.l 0).f0 ++ withL p.l g.fi 1099511627777⟩
  else if p.k = 2 then ⟨g.id, g.fi, g.tm, p.ht, p.hv, p.hc, g.l⟩
  else if p.k = 3 then goneG g p.ix p.tm
  else if p.k = 4 then goneG (if g.fi ≤ p.ix then ⟨g.id, g.fi, g.tm, g.ht, g.hv, g.hc, []⟩ else g) p.ix p.tm
  else if p.k = 6 then forwardG g p
  else g
def doG (g : Grp) (p : Prt) : Grp := if isG false g = true ∧ isP p = true ∧ p.g = g.id then kindG g p else g
theorem isP_ix {p : Prt} (h : isP p = true) (hk : p.k = 3 ∨ p.k = 4 ∨ p.k = 6 ∧ p.mrk = true) : 1 ≤ p.ix ∧ p.ix ≤ 1099511627776 := by
  unfold isP at h
  rw [Bool.and_eq_true] at h
  obtain ⟨_, h⟩ := h
  rcases hk with hk | hk | ⟨hk, hm⟩
  · rw [if_neg (by omega), if_neg (by omega), if_pos hk] at h
    simp only [Bool.and_eq_true] at h
    have := of_decide_eq_true h.2.2; omega
  · rw [if_neg (by omega), if_neg (by omega), if_neg (by omega), if_pos hk] at h
    simp only [Bool.and_eq_true] at h
    have := of_decide_eq_true h.2.2; omega
  · rw [if_neg (by omega), if_neg (by omega), if_neg (by omega), if_neg (by omega), if_neg (by omega), if_pos hk, hm] at h
    simp only [Bool.and_eq_true, if_true] at h
    have := of_decide_eq_true h.1.2; omega
theorem isP_ne {p : Prt} (h : isP p = true) (hk : p.k = 1) : 0 < p.l.length := by
  unfold isP at h
  rw [Bool.and_eq_true, if_pos hk] at h
  obtain ⟨_, h⟩ := h
  simp only [Bool.and_eq_true] at h
  have h2 := h.2.2.1
  rcases Nat.eq_zero_or_pos p.l.length with h3 | h3
  · rw [noL, decide_eq_true h3] at h2; cases h2
  · exact h3
theorem isP_kind {p : Prt} (h : isP p = true) : p.k = 1 ∨ p.k = 2 ∨ p.k = 3 ∨ p.k = 4 ∨ p.k = 5 ∨ p.k = 6 := by
  unfold isP at h
  rw [Bool.and_eq_true] at h
  obtain ⟨_, h⟩ := h
  repeat' split at h
  all_goals first | omega | (exfalso; exact Bool.noConfusion h)
end Go.Proofs.Ytfnflbclhaeedaa.Sp
namespace Go.Proofs.Ytfnflbclhaeedaa.PartW
open Go Go.RowKit Go.Shelf Go.Proofs.Ytfnflbclhaeedaa.A Go.Proofs.Ytfnflbclhaeedaa.Sp Go.Proofs.Ytfnflbclhaeedaa.Reg Go.Proofs.Ytfnflbclhaeedaa.Seq Go.Proofs.YtfnflbclhaeedaaW.PrintWords Go.Proofs.YtfnflbclhaeedaaW.PrintLast Go.Proofs.YtfnflbclhaeedaaW.PrintMore
theorem is_calls' (g : Grp) (A : Option Addr) (c : Nat) (w : World) (h : Rd w A c g.l) {b : Bool} (hb : isG false g = b) : Calls Try.prog 13 #[vG g A c] w fun e w' => e = .returned (.bool b) ∧ Below w.heap.size w w' := by
  rw [← hb]; exact sparse_Is g A c w h
theorem isp_calls' (p : Prt) (A : Option Addr) (c : Nat) (w : World) (h : Rd w A c p.l) {b : Bool} (hb : isP p = b) : Calls Try.prog 24 #[vP p A c] w fun e w' => e = .returned (.bool b) ∧ Below w.heap.size w w' := by
  rw [← hb]; exact part_Is p A c w h
set_option maxHeartbeats 8000000 in
set_option maxRecDepth 100000 in
theorem sparse_Do_no1 (g : Grp) (A : Option Addr) (c : Nat) (pg pk : Int) (pl : List Ent) (pht phv phc pix ptm : Int) (pm ph : Bool) (Ap : Option Addr) (cp : Nat) (w : World) (h : Rd w A c g.l) (hp : Rd w Ap cp pl) (hl : g.l.length + pl.length ≤ 4398046511104) (h1 : isG false g = false) :
    Calls Try.prog 12 #[vG g A c, vP ⟨pg, pk, pl, pht, phv, phc, pix, ptm, pm, ph⟩ Ap cp] w (GotG w (doG g ⟨pg, pk, pl, pht, phv, phc, pix, ptm, pm, ph⟩)) := by
  have HT0 := Aside0.mk (Two.new g A c ⟨pg, pk, pl, pht, phv, phc, pix, ptm, pm, ph⟩ Ap cp w h hp)
  have HLN := Aside0.mk hl
  have HB1 := Aside0.mk h1
  have HG : Aside0 (doG g ⟨pg, pk, pl, pht, phv, phc, pix, ptm, pm, ph⟩ = g) := ⟨by unfold doG; rw [if_neg (by rw [h1]; simp)]⟩
  clear h1
  clear h hp hl
  unfold vG vP
  go_enter Try.func12, Try.ntmps12
  obtain ⟨C, hC⟩ : ∃ C, (match Try.f12.body with | some (.seq _ c) => c | _ => .skip) = C := ⟨_, rfl⟩
  have HC := Aside0.mk hC
  simp only [Try.f12] at hC
  rw [hC]
  clear hC
  go_wp2
  obtain ⟨s, hs⟩ : ∃ s, w.heap.size = s := ⟨_, rfl⟩
  have HT1 := HT0.out
  rw [hs] at HT1 ⊢
  obtain ⟨W, hW⟩ : ∃ W, (((w.alloc (.cells #[.int .i64 g.id, .int .i64 g.fi, .int .i64 g.tm, .int .i64 g.ht, .int .i64 g.hv, .int .i64 g.hc, .slice A g.l.length c] 26)).alloc (.cells #[.int .i64 pg, .int .i64 pk, .slice Ap pl.length cp, .int .i64 pht, .int .i64 phv, .int .i64 phc, .int .i64 pix, .int .i64 ptm, .bool pm, .bool ph] 28)).alloc (.cells #[.int .i64 0, .int .i64 0, .int .i64 0, .int .i64 0, .int .i64 0, .int .i64 0, .slice none 0 0] 26)) = W := ⟨_, rfl⟩
  rw [hW] at HT1 ⊢
  have HT := Aside0.mk HT1
  have HS := Aside0.mk hs
  have hC := HC.out
  simp only [Try.f12] at hC
  subst hC
  clear hW HT1 HT0 hs HC
  obtain ⟨e0, e1, e2, e3, e4, e5, e6⟩ := HT.out.bg.box; obtain ⟨p0, p1, p2, p3, p4, p5, p6, p7, p8, p9⟩ := HT.out.bp.box; obtain ⟨z0, z1, z2, z3, z4, z5, z6⟩ := HT.out.bz.box; have ef := HT.out.bg.free; have zf := HT.out.bz.free
  go_wp2_with (first | (go_at_call 13; refine (is_calls' g A c _ HT.out.rg HB1.out).mono ?_; rintro e w1 ⟨rfl, hw1⟩; have HT1 := Aside0.mk (HT.out.below hw1); clear hw1; clear e0 e1 e2 e3 e4 e5 e6 p0 p1 p2 p3 p4 p5 p6 p7 p8 p9 z0 z1 z2 z3 z4 z5 z6 ef zf; obtain ⟨e0, e1, e2, e3, e4, e5, e6⟩ := HT1.out.bg.box; obtain ⟨p0, p1, p2, p3, p4, p5, p6, p7, p8, p9⟩ := HT1.out.bp.box; obtain ⟨z0, z1, z2, z3, z4, z5, z6⟩ := HT1.out.bz.box; have ef := HT1.out.bg.free; have zf := HT1.out.bz.free) | fail)
  have hst := stored (r := g) (A' := A) (c' := c) HT1.out.bz HT1.out.rg HT1.out.b (Nat.le_add_right s 2) (by have := HT1.out.b.size; have := HS.out; omega)
  obtain ⟨r0, r1, r2, r3, r4, r5, r6⟩ := hst.1.box
  try dsimp only at r0 r1 r2 r3 r4 r5 r6
  refine bodyPost_ret (v := vG g A c) (by simp [results, Try.results12, go_sem, vG, r0, r1, r2, r3, r4, r5, r6]) rfl ⟨A, c, by rw [HG.out], by rw [HG.out]; exact hst.2.1, by rw [HS.out]; exact hst.2.2⟩
set_option maxHeartbeats 8000000 in
set_option maxRecDepth 100000 in
theorem sparse_Do_no2 (g : Grp) (A : Option Addr) (c : Nat) (pg pk : Int) (pl : List Ent) (pht phv phc pix ptm : Int) (pm ph : Bool) (Ap : Option Addr) (cp : Nat) (w : World) (h : Rd w A c g.l) (hp : Rd w Ap cp pl) (hl : g.l.length + pl.length ≤ 4398046511104) (h1 : isG false g = true) (h2 : isP ⟨pg, pk, pl, pht, phv, phc, pix, ptm, pm, ph⟩ = false) :
    Calls Try.prog 12 #[vG g A c, vP ⟨pg, pk, pl, pht, phv, phc, pix, ptm, pm, ph⟩ Ap cp] w (GotG w (doG g ⟨pg, pk, pl, pht, phv, phc, pix, ptm, pm, ph⟩)) := by
  have HT0 := Aside0.mk (Two.new g A c ⟨pg, pk, pl, pht, phv, phc, pix, ptm, pm, ph⟩ Ap cp w h hp)
  have HLN := Aside0.mk hl
  have HB1 := Aside0.mk h1
  have HB2 := Aside0.mk h2
  have HG : Aside0 (doG g ⟨pg, pk, pl, pht, phv, phc, pix, ptm, pm, ph⟩ = g) := ⟨by unfold doG; rw [if_neg (by rw [h2]; simp)]⟩
  clear h1 h2
  clear h hp hl
  unfold vG vP
  go_enter Try.func12, Try.ntmps12
  obtain ⟨C, hC⟩ : ∃ C, (match Try.f12.body with | some (.seq _ c) => c | _ => .skip) = C := ⟨_, rfl⟩
  have HC := Aside0.mk hC
  simp only [Try.f12] at hC
  rw [hC]
  clear hC
  go_wp2
  obtain ⟨s, hs⟩ : ∃ s, w.heap.size = s := ⟨_, rfl⟩
  have HT1 := HT0.out
  rw [hs] at HT1 ⊢
  obtain ⟨W, hW⟩ : ∃ W, (((w.alloc (.cells #[.int .i64 g.id, .int .i64 g.fi, .int .i64 g.tm, .int .i64 g.ht, .int .i64 g.hv, .int .i64 g.hc, .slice A g.l.length c] 26)).alloc (.cells #[.int .i64 pg, .int .i64 pk, .slice Ap pl.length cp, .int .i64 pht, .int .i64 phv, .int .i64 phc, .int .i64 pix, .int .i64 ptm, .bool pm, .bool ph] 28)).alloc (.cells #[.int .i64 0, .int .i64 0, .int .i64 0, .int .i64 0, .int .i64 0, .int .i64 0, .slice none 0 0] 26)) = W := ⟨_, rfl⟩
  rw [hW] at HT1 ⊢
  have HT := Aside0.mk HT1
  have HS := Aside0.mk hs
  have hC := HC.out
  simp only [Try.f12] at hC
  subst hC
  clear hW HT1 HT0 hs HC
  obtain ⟨e0, e1, e2, e3, e4, e5, e6⟩ := HT.out.bg.box; obtain ⟨p0, p1, p2, p3, p4, p5, p6, p7, p8, p9⟩ := HT.out.bp.box; obtain ⟨z0, z1, z2, z3, z4, z5, z6⟩ := HT.out.bz.box; have ef := HT.out.bg.free; have zf := HT.out.bz.free
  go_wp2_with (first | (go_at_call 13; refine (is_calls' g A c _ HT.out.rg HB1.out).mono ?_; rintro e w1 ⟨rfl, hw1⟩; have HT1 := Aside0.mk (HT.out.below hw1); clear hw1; clear e0 e1 e2 e3 e4 e5 e6 p0 p1 p2 p3 p4 p5 p6 p7 p8 p9 z0 z1 z2 z3 z4 z5 z6 ef zf; obtain ⟨e0, e1, e2, e3, e4, e5, e6⟩ := HT1.out.bg.box; obtain ⟨p0, p1, p2, p3, p4, p5, p6, p7, p8, p9⟩ := HT1.out.bp.box; obtain ⟨z0, z1, z2, z3, z4, z5, z6⟩ := HT1.out.bz.box; have ef := HT1.out.bg.free; have zf := HT1.out.bz.free) | (go_at_call 24; refine (isp_calls' ⟨pg, pk, pl, pht, phv, phc, pix, ptm, pm, ph⟩ _ cp _ HT1.out.rp HB2.out).mono ?_; rintro e w2 ⟨rfl, hw2⟩; have HT2 := Aside0.mk (HT1.out.below hw2); clear hw2; clear e0 e1 e2 e3 e4 e5 e6 p0 p1 p2 p3 p4 p5 p6 p7 p8 p9 z0 z1 z2 z3 z4 z5 z6 ef zf; obtain ⟨e0, e1, e2, e3, e4, e5, e6⟩ := HT2.out.bg.box; obtain ⟨p0, p1, p2, p3, p4, p5, p6, p7, p8, p9⟩ := HT2.out.bp.box; obtain ⟨z0, z1, z2, z3, z4, z5, z6⟩ := HT2.out.bz.box; have ef := HT2.out.bg.free; have zf := HT2.out.bz.free))
  have hst := stored (r := g) (A' := A) (c' := c) HT2.out.bz HT2.out.rg HT2.out.b (Nat.le_add_right s 2) (by have := HT2.out.b.size; have := HS.out; omega)
  obtain ⟨r0, r1, r2, r3, r4, r5, r6⟩ := hst.1.box
  try dsimp only at r0 r1 r2 r3 r4 r5 r6
  refine bodyPost_ret (v := vG g A c) (by simp [results, Try.results12, go_sem, vG, r0, r1, r2, r3, r4, r5, r6]) rfl ⟨A, c, by rw [HG.out], by rw [HG.out]; exact hst.2.1, by rw [HS.out]; exact hst.2.2⟩
set_option maxHeartbeats 8000000 in
set_option maxRecDepth 100000 in
theorem sparse_Do_no3 (g : Grp) (A : Option Addr) (c : Nat) (pg pk : Int) (pl : List Ent) (pht phv phc pix ptm : Int) (pm ph : Bool) (Ap : Option Addr) (cp : Nat) (w : World) (h : Rd w A c g.l) (hp : Rd w Ap cp pl) (hl : g.l.length + pl.length ≤ 4398046511104) (h1 : isG false g = true) (h2 : isP ⟨pg, pk, pl, pht, phv, phc, pix, ptm, pm, ph⟩ = true) (h3 : pg ≠ g.id) :
    Calls Try.prog 12 #[vG g A c, vP ⟨pg, pk, pl, pht, phv, phc, pix, ptm, pm, ph⟩ Ap cp] w (GotG w (doG g ⟨pg, pk, pl, pht, phv, phc, pix, ptm, pm, ph⟩)) := by
  have HT0 := Aside0.mk (Two.new g A c ⟨pg, pk, pl, pht, phv, phc, pix, ptm, pm, ph⟩ Ap cp w h hp)
  have HLN := Aside0.mk hl
  have HB1 := Aside0.mk h1
  have HB2 := Aside0.mk h2
  have HG : Aside0 (doG g ⟨pg, pk, pl, pht, phv, phc, pix, ptm, pm, ph⟩ = g) := ⟨by unfold doG; rw [if_neg (by intro h; exact h3 h.2.2)]⟩
  have hne : (pg == g.id) = false := beq_eq_false_iff_ne.2 h3
  clear h1 h2 h3
  clear h hp hl
  unfold vG vP
  go_enter Try.func12, Try.ntmps12
  obtain ⟨C, hC⟩ : ∃ C, (match Try.f12.body with | some (.seq _ c) => c | _ => .skip) = C := ⟨_, rfl⟩
  have HC := Aside0.mk hC
  simp only [Try.f12] at hC
  rw [hC]
  clear hC
  go_wp2
  obtain ⟨s, hs⟩ : ∃ s, w.heap.size = s := ⟨_, rfl⟩
  have HT1 := HT0.out
  rw [hs] at HT1 ⊢
  obtain ⟨W, hW⟩ : ∃ W, (((w.alloc (.cells #[.int .i64 g.id, .int .i64 g.fi, .int .i64 g.tm, .int .i64 g.ht, .int .i64 g.hv, .int .i64 g.hc, .slice A g.l.length c] 26)).alloc (.cells #[.int .i64 pg, .int .i64 pk, .slice Ap pl.length cp, .int .i64 pht, .int .i64 phv, .int .i64 phc, .int .i64 pix, .int .i64 ptm, .bool pm, .bool ph] 28)).alloc (.cells #[.int .i64 0, .int .i64 0, .int .i64 0, .int .i64 0, .int .i64 0, .int .i64 0, .slice none 0 0] 26)) = W := ⟨_, rfl⟩
  rw [hW] at HT1 ⊢
  have HT := Aside0.mk HT1
  have HS := Aside0.mk hs
  have hC := HC.out
  simp only [Try.f12] at hC
  subst hC
  clear hW HT1 HT0 hs HC
  obtain ⟨e0, e1, e2, e3, e4, e5, e6⟩ := HT.out.bg.box; obtain ⟨p0, p1, p2, p3, p4, p5, p6, p7, p8, p9⟩ := HT.out.bp.box; obtain ⟨z0, z1, z2, z3, z4, z5, z6⟩ := HT.out.bz.box; have ef := HT.out.bg.free; have zf := HT.out.bz.free
  go_wp2_with (first | (go_at_call 13; refine (is_calls' g A c _ HT.out.rg HB1.out).mono ?_; rintro e w1 ⟨rfl, hw1⟩; have HT1 := Aside0.mk (HT.out.below hw1); clear hw1; clear e0 e1 e2 e3 e4 e5 e6 p0 p1 p2 p3 p4 p5 p6 p7 p8 p9 z0 z1 z2 z3 z4 z5 z6 ef zf; obtain ⟨e0, e1, e2, e3, e4, e5, e6⟩ := HT1.out.bg.box; obtain ⟨p0, p1, p2, p3, p4, p5, p6, p7, p8, p9⟩ := HT1.out.bp.box; obtain ⟨z0, z1, z2, z3, z4, z5, z6⟩ := HT1.out.bz.box; have ef := HT1.out.bg.free; have zf := HT1.out.bz.free) | (go_at_call 24; refine (isp_calls' ⟨pg, pk, pl, pht, phv, phc, pix, ptm, pm, ph⟩ _ cp _ HT1.out.rp HB2.out).mono ?_; rintro e w2 ⟨rfl, hw2⟩; have HT2 := Aside0.mk (HT1.out.below hw2); clear hw2; clear e0 e1 e2 e3 e4 e5 e6 p0 p1 p2 p3 p4 p5 p6 p7 p8 p9 z0 z1 z2 z3 z4 z5 z6 ef zf; obtain ⟨e0, e1, e2, e3, e4, e5, e6⟩ := HT2.out.bg.box; obtain ⟨p0, p1, p2, p3, p4, p5, p6, p7, p8, p9⟩ := HT2.out.bp.box; obtain ⟨z0, z1, z2, z3, z4, z5, z6⟩ := HT2.out.bz.box; have ef := HT2.out.bg.free; have zf := HT2.out.bz.free))
  have hst := stored (r := g) (A' := A) (c' := c) HT2.out.bz HT2.out.rg HT2.out.b (Nat.le_add_right s 2) (by have := HT2.out.b.size; have := HS.out; omega)
  obtain ⟨r0, r1, r2, r3, r4, r5, r6⟩ := hst.1.box
  try dsimp only at r0 r1 r2 r3 r4 r5 r6
  refine bodyPost_ret (v := vG g A c) (by simp [results, Try.results12, go_sem, vG, r0, r1, r2, r3, r4, r5, r6]) rfl ⟨A, c, by rw [HG.out], by rw [HG.out]; exact hst.2.1, by rw [HS.out]; exact hst.2.2⟩
set_option maxHeartbeats 8000000 in
set_option maxRecDepth 100000 in
theorem sparse_Do_k2 (g : Grp) (A : Option Addr) (c : Nat) (pg pk : Int) (pl : List Ent) (pht phv phc pix ptm : Int) (pm ph : Bool) (Ap : Option Addr) (cp : Nat) (w : World) (h : Rd w A c g.l) (hp : Rd w Ap cp pl) (hl : g.l.length + pl.length ≤ 4398046511104) (h1 : isG false g = true) (h2 : isP ⟨pg, pk, pl, pht, phv, phc, pix, ptm, pm, ph⟩ = true) (h3 : pg = g.id) (h4 : pk = 2) :
    Calls Try.prog 12 #[vG g A c, vP ⟨pg, pk, pl, pht, phv, phc, pix, ptm, pm, ph⟩ Ap cp] w (GotG w (doG g ⟨pg, pk, pl, pht, phv, phc, pix, ptm, pm, ph⟩)) := by
  have HT0 := Aside0.mk (Two.new g A c ⟨g.id, 2, pl, pht, phv, phc, pix, ptm, pm, ph⟩ Ap cp w h hp)
  have HLN := Aside0.mk hl
  subst h3
  subst h4
  have HB1 := Aside0.mk h1
  have HB2 := Aside0.mk h2
  have HG : Aside0 (doG g ⟨g.id, 2, pl, pht, phv, phc, pix, ptm, pm, ph⟩ = ⟨g.id, g.fi, g.tm, pht, phv, phc, g.l⟩) := ⟨by rw [doG, if_pos ⟨h1, h2, rfl⟩]; rfl⟩
  clear h1 h2
  clear h hp hl
  unfold vG vP
  go_enter Try.func12, Try.ntmps12
  obtain ⟨C, hC⟩ : ∃ C, (match Try.f12.body with | some (.seq _ c) => c | _ => .skip) = C := ⟨_, rfl⟩
  have HC := Aside0.mk hC
  simp only [Try.f12] at hC
  rw [hC]
  clear hC
  go_wp2
  obtain ⟨s, hs⟩ : ∃ s, w.heap.size = s := ⟨_, rfl⟩
  have HT1 := HT0.out
  rw [hs] at HT1 ⊢
  obtain ⟨W, hW⟩ : ∃ W, (((w.alloc (.cells #[.int .i64 g.id, .int .i64 g.fi, .int .i64 g.tm, .int .i64 g.ht, .int .i64 g.hv, .int .i64 g.hc, .slice A g.l.length c] 26)).alloc (.cells #[.int .i64 g.id, .int .i64 2, .slice Ap pl.length cp, .int .i64 pht, .int .i64 phv, .int .i64 phc, .int .i64 pix, .int .i64 ptm, .bool pm, .bool ph] 28)).alloc (.cells #[.int .i64 0, .int .i64 0, .int .i64 0, .int .i64 0, .int .i64 0, .int .i64 0, .slice none 0 0] 26)) = W := ⟨_, rfl⟩
  rw [hW] at HT1 ⊢
  have HT := Aside0.mk HT1
  have HS := Aside0.mk hs
  have hC := HC.out
  simp only [Try.f12] at hC
  subst hC
  clear hW HT1 HT0 hs HC
  obtain ⟨e0, e1, e2, e3, e4, e5, e6⟩ := HT.out.bg.box; obtain ⟨p0, p1, p2, p3, p4, p5, p6, p7, p8, p9⟩ := HT.out.bp.box; obtain ⟨z0, z1, z2, z3, z4, z5, z6⟩ := HT.out.bz.box; have ef := HT.out.bg.free; have zf := HT.out.bz.free
  go_wp2_with (first | (go_at_call 13; refine (is_calls' g A c _ HT.out.rg HB1.out).mono ?_; rintro e w1 ⟨rfl, hw1⟩; have HT1 := Aside0.mk (HT.out.below hw1); clear hw1; clear e0 e1 e2 e3 e4 e5 e6 p0 p1 p2 p3 p4 p5 p6 p7 p8 p9 z0 z1 z2 z3 z4 z5 z6 ef zf; obtain ⟨e0, e1, e2, e3, e4, e5, e6⟩ := HT1.out.bg.box; obtain ⟨p0, p1, p2, p3, p4, p5, p6, p7, p8, p9⟩ := HT1.out.bp.box; obtain ⟨z0, z1, z2, z3, z4, z5, z6⟩ := HT1.out.bz.box; have ef := HT1.out.bg.free; have zf := HT1.out.bz.free) | (go_at_call 24; refine (isp_calls' ⟨g.id, 2, pl, pht, phv, phc, pix, ptm, pm, ph⟩ _ cp _ HT1.out.rp HB2.out).mono ?_; rintro e w2 ⟨rfl, hw2⟩; have HT2 := Aside0.mk (HT1.out.below hw2); clear hw2; clear e0 e1 e2 e3 e4 e5 e6 p0 p1 p2 p3 p4 p5 p6 p7 p8 p9 z0 z1 z2 z3 z4 z5 z6 ef zf; obtain ⟨e0, e1, e2, e3, e4, e5, e6⟩ := HT2.out.bg.box; obtain ⟨p0, p1, p2, p3, p4, p5, p6, p7, p8, p9⟩ := HT2.out.bp.box; obtain ⟨z0, z1, z2, z3, z4, z5, z6⟩ := HT2.out.bz.box; have ef := HT2.out.bg.free; have zf := HT2.out.bz.free))
  have hx := only_hard pht phv phc s w2
  have hz2 := BlkG.only HT2.out.bz hx (fun h => by have h3 : s + 2 = s := h; omega)
  have hrd2 := Rd.only HT2.out.rg hx (fun q hq h => by have h3 : q = s := h; have := HT2.out.ag q hq; omega)
  have hbl2 := HT2.out.b.trans (hx.below (by have := HT2.out.sz; omega) (fun q hq h => by have h3 : q = s := h; omega))
  have hst := stored (r := ⟨g.id, g.fi, g.tm, pht, phv, phc, g.l⟩) (A' := A) (c' := c) hz2 hrd2 hbl2 (Nat.le_add_right s 2) (by have := hbl2.size; have := HS.out; omega)
  obtain ⟨r0, r1, r2, r3, r4, r5, r6⟩ := hst.1.box
  try dsimp only at r0 r1 r2 r3 r4 r5 r6
  refine bodyPost_ret (v := vG ⟨g.id, g.fi, g.tm, pht, phv, phc, g.l⟩ A c) (by simp [results, Try.results12, go_sem, vG, r0, r1, r2, r3, r4, r5, r6]) rfl ⟨A, c, by rw [HG.out], by rw [HG.out]; exact hst.2.1, by rw [HS.out]; exact hst.2.2⟩
set_option maxHeartbeats 8000000 in
set_option maxRecDepth 100000 in
theorem sparse_Do_k5 (g : Grp) (A : Option Addr) (c : Nat) (pg pk : Int) (pl : List Ent) (pht phv phc pix ptm : Int) (pm ph : Bool) (Ap : Option Addr) (cp : Nat) (w : World) (h : Rd w A c g.l) (hp : Rd w Ap cp pl) (hl : g.l.length + pl.length ≤ 4398046511104) (h1 : isG false g = true) (h2 : isP ⟨pg, pk, pl, pht, phv, phc, pix, ptm, pm, ph⟩ = true) (h3 : pg = g.id) (h4 : pk = 5) :
    Calls Try.prog 12 #[vG g A c, vP ⟨pg, pk, pl, pht, phv, phc, pix, ptm, pm, ph⟩ Ap cp] w (GotG w (doG g ⟨pg, pk, pl, pht, phv, phc, pix, ptm, pm, ph⟩)) := by
  have HT0 := Aside0.mk (Two.new g A c ⟨g.id, 5, pl, pht, phv, phc, pix, ptm, pm, ph⟩ Ap cp w h hp)
  have HLN := Aside0.mk hl
  subst h3
  subst h4
  have HB1 := Aside0.mk h1
  have HB2 := Aside0.mk h2
  have HG : Aside0 (doG g ⟨g.id, 5, pl, pht, phv, phc, pix, ptm, pm, ph⟩ = g) := ⟨by rw [doG, if_pos ⟨h1, h2, rfl⟩]; rfl⟩
  clear h1 h2
  clear h hp hl
  unfold vG vP
  go_enter Try.func12, Try.ntmps12
  obtain ⟨C, hC⟩ : ∃ C, (match Try.f12.body with | some (.seq _ c) => c | _ => .skip) = C := ⟨_, rfl⟩
  have HC := Aside0.mk hC
  simp only [Try.f12] at hC
  rw [hC]
  clear hC
  go_wp2
  obtain ⟨s, hs⟩ : ∃ s, w.heap.size = s := ⟨_, rfl⟩
  have HT1 := HT0.out
  rw [hs] at HT1 ⊢
  obtain ⟨W, hW⟩ : ∃ W, (((w.alloc (.cells #[.int .i64 g.id, .int .i64 g.fi, .int .i64 g.tm, .int .i64 g.ht, .int .i64 g.hv, .int .i64 g.hc, .slice A g.l.length c] 26)).alloc (.cells #[.int .i64 g.id, .int .i64 5, .slice Ap pl.length cp, .int .i64 pht, .int .i64 phv, .int .i64 phc, .int .i64 pix, .int .i64 ptm, .bool pm, .bool ph] 28)).alloc (.cells #[.int .i64 0, .int .i64 0, .int .i64 0, .int .i64 0, .int .i64 0, .int .i64 0, .slice none 0 0] 26)) = W := ⟨_, rfl⟩
  rw [hW] at HT1 ⊢
  have HT := Aside0.mk HT1
  have HS := Aside0.mk hs
  have hC := HC.out
  simp only [Try.f12] at hC
  subst hC
  clear hW HT1 HT0 hs HC
  obtain ⟨e0, e1, e2, e3, e4, e5, e6⟩ := HT.out.bg.box; obtain ⟨p0, p1, p2, p3, p4, p5, p6, p7, p8, p9⟩ := HT.out.bp.box; obtain ⟨z0, z1, z2, z3, z4, z5, z6⟩ := HT.out.bz.box; have ef := HT.out.bg.free; have zf := HT.out.bz.free
  go_wp2_with (first | (go_at_call 13; refine (is_calls' g A c _ HT.out.rg HB1.out).mono ?_; rintro e w1 ⟨rfl, hw1⟩; have HT1 := Aside0.mk (HT.out.below hw1); clear hw1; clear e0 e1 e2 e3 e4 e5 e6 p0 p1 p2 p3 p4 p5 p6 p7 p8 p9 z0 z1 z2 z3 z4 z5 z6 ef zf; obtain ⟨e0, e1, e2, e3, e4, e5, e6⟩ := HT1.out.bg.box; obtain ⟨p0, p1, p2, p3, p4, p5, p6, p7, p8, p9⟩ := HT1.out.bp.box; obtain ⟨z0, z1, z2, z3, z4, z5, z6⟩ := HT1.out.bz.box; have ef := HT1.out.bg.free; have zf := HT1.out.bz.free) | (go_at_call 24; refine (isp_calls' ⟨g.id, 5, pl, pht, phv, phc, pix, ptm, pm, ph⟩ _ cp _ HT1.out.rp HB2.out).mono ?_; rintro e w2 ⟨rfl, hw2⟩; have HT2 := Aside0.mk (HT1.out.below hw2); clear hw2; clear e0 e1 e2 e3 e4 e5 e6 p0 p1 p2 p3 p4 p5 p6 p7 p8 p9 z0 z1 z2 z3 z4 z5 z6 ef zf; obtain ⟨e0, e1, e2, e3, e4, e5, e6⟩ := HT2.out.bg.box; obtain ⟨p0, p1, p2, p3, p4, p5, p6, p7, p8, p9⟩ := HT2.out.bp.box; obtain ⟨z0, z1, z2, z3, z4, z5, z6⟩ := HT2.out.bz.box; have ef := HT2.out.bg.free; have zf := HT2.out.bz.free))
  have hst := stored (r := g) (A' := A) (c' := c) HT2.out.bz HT2.out.rg HT2.out.b (Nat.le_add_right s 2) (by have := HT2.out.b.size; have := HS.out; omega)
  obtain ⟨r0, r1, r2, r3, r4, r5, r6⟩ := hst.1.box
  try dsimp only at r0 r1 r2 r3 r4 r5 r6
  refine bodyPost_ret (v := vG g A c) (by simp [results, Try.results12, go_sem, vG, r0, r1, r2, r3, r4, r5, r6]) rfl ⟨A, c, by rw [HG.out], by rw [HG.out]; exact hst.2.1, by rw [HS.out]; exact hst.2.2⟩
set_option maxHeartbeats 8000000 in
set_option maxRecDepth 100000 in
theorem sparse_Do_k3 (g : Grp) (A : Option Addr) (c : Nat) (pg pk : Int) (pl : List Ent) (pht phv phc pix ptm : Int) (pm ph : Bool) (Ap : Option Addr) (cp : Nat) (w : World) (h : Rd w A c g.l) (hp : Rd w Ap cp pl) (hl : g.l.length + pl.length ≤ 4398046511104) (h1 : isG false g = true) (h2 : isP ⟨pg, pk, pl, pht, phv, phc, pix, ptm, pm, ph⟩ = true) (h3 : pg = g.id) (h4 : pk = 3) :
    Calls Try.prog 12 #[vG g A c, vP ⟨pg, pk, pl, pht, phv, phc, pix, ptm, pm, ph⟩ Ap cp] w (GotG w (doG g ⟨pg, pk, pl, pht, phv, phc, pix, ptm, pm, ph⟩)) := by
  have HT0 := Aside0.mk (Two.new g A c ⟨g.id, 3, pl, pht, phv, phc, pix, ptm, pm, ph⟩ Ap cp w h hp)
  have HLN := Aside0.mk hl
  subst h3
  subst h4
  have HB1 := Aside0.mk h1
  have HB2 := Aside0.mk h2
  have HG : Aside0 (doG g ⟨g.id, 3, pl, pht, phv, phc, pix, ptm, pm, ph⟩ = goneG g pix ptm) := ⟨by rw [doG, if_pos ⟨h1, h2, rfl⟩]; rfl⟩
  have HIX := Aside0.mk (isP_ix h2 (.inl rfl))
  clear h1 h2
  clear h hp hl
  unfold vG vP
  go_enter Try.func12, Try.ntmps12
  obtain ⟨C, hC⟩ : ∃ C, (match Try.f12.body with | some (.seq _ c) => c | _ => .skip) = C := ⟨_, rfl⟩
  have HC := Aside0.mk hC
  simp only [Try.f12] at hC
  rw [hC]
  clear hC
  go_wp2
  obtain ⟨s, hs⟩ : ∃ s, w.heap.size = s := ⟨_, rfl⟩
  have HT1 := HT0.out
  rw [hs] at HT1 ⊢
  obtain ⟨W, hW⟩ : ∃ W, (((w.alloc (.cells #[.int .i64 g.id, .int .i64 g.fi, .int .i64 g.tm, .int .i64 g.ht, .int .i64 g.hv, .int .i64 g.hc, .slice A g.l.length c] 26)).alloc (.cells #[.int .i64 g.id, .int .i64 3, .slice Ap pl.length cp, .int .i64 pht, .int .i64 phv, .int .i64 phc, .int .i64 pix, .int .i64 ptm, .bool pm, .bool ph] 28)).alloc (.cells #[.int .i64 0, .int .i64 0, .int .i64 0, .int .i64 0, .int .i64 0, .int .i64 0, .slice none 0 0] 26)) = W := ⟨_, rfl⟩
  rw [hW] at HT1 ⊢
  have HT := Aside0.mk HT1
  have HS := Aside0.mk hs
  have hC := HC.out
  simp only [Try.f12] at hC
  subst hC
  clear hW HT1 HT0 hs HC
  obtain ⟨e0, e1, e2, e3, e4, e5, e6⟩ := HT.out.bg.box; obtain ⟨p0, p1, p2, p3, p4, p5, p6, p7, p8, p9⟩ := HT.out.bp.box; obtain ⟨z0, z1, z2, z3, z4, z5, z6⟩ := HT.out.bz.box; have ef := HT.out.bg.free; have zf := HT.out.bz.free
  go_wp2_with (first | (go_at_call 13; refine (is_calls' g A c _ HT.out.rg HB1.out).mono ?_; rintro e w1 ⟨rfl, hw1⟩; have HT1 := Aside0.mk (HT.out.below hw1); clear hw1; clear e0 e1 e2 e3 e4 e5 e6 p0 p1 p2 p3 p4 p5 p6 p7 p8 p9 z0 z1 z2 z3 z4 z5 z6 ef zf; obtain ⟨e0, e1, e2, e3, e4, e5, e6⟩ := HT1.out.bg.box; obtain ⟨p0, p1, p2, p3, p4, p5, p6, p7, p8, p9⟩ := HT1.out.bp.box; obtain ⟨z0, z1, z2, z3, z4, z5, z6⟩ := HT1.out.bz.box; have ef := HT1.out.bg.free; have zf := HT1.out.bz.free) | (go_at_call 24; refine (isp_calls' ⟨g.id, 3, pl, pht, phv, phc, pix, ptm, pm, ph⟩ _ cp _ HT1.out.rp HB2.out).mono ?_; rintro e w2 ⟨rfl, hw2⟩; have HT2 := Aside0.mk (HT1.out.below hw2); clear hw2; clear e0 e1 e2 e3 e4 e5 e6 p0 p1 p2 p3 p4 p5 p6 p7 p8 p9 z0 z1 z2 z3 z4 z5 z6 ef zf; obtain ⟨e0, e1, e2, e3, e4, e5, e6⟩ := HT2.out.bg.box; obtain ⟨p0, p1, p2, p3, p4, p5, p6, p7, p8, p9⟩ := HT2.out.bp.box; obtain ⟨z0, z1, z2, z3, z4, z5, z6⟩ := HT2.out.bz.box; have ef := HT2.out.bg.free; have zf := HT2.out.bz.free; have HG2 := Aside0.mk HT2.out.bg; have HZ2 := Aside0.mk HT2.out.bz; have HBL := Aside0.mk HT2.out.b; have HBL2 : Aside0 (s ≤ w2.heap.size) := ⟨by have := HT2.out.sz; omega⟩) | (go_at_call 26; refine (sparse_gone g A c pix ptm _ HT2.out.rg (by have := HIX.out.1; omega) HIX.out.2).mono ?_; rintro e w3 ⟨A1, c1, rfl, hrd3, hw3⟩; have HRD3 := Aside0.mk hrd3; have HW3 := Aside0.mk hw3; clear hrd3 hw3; clear e0 e1 e2 e3 e4 e5 e6 p0 p1 p2 p3 p4 p5 p6 p7 p8 p9 z0 z1 z2 z3 z4 z5 z6 ef zf; have hg3 := HG2.out.below HW3.out; have ef := hg3.free; obtain ⟨e0, e1, e2, e3, e4, e5, e6⟩ := hg3.box; have hz3 := HZ2.out.below HW3.out; have zf := hz3.free; obtain ⟨z0, z1, z2, z3, z4, z5, z6⟩ := hz3.box; have HZ3 := Aside0.mk hz3; have HG3 := Aside0.mk hg3; clear hz3 hg3))
  have hx := only_store (goneG g pix ptm) A1 c1 s w3
  have hz2 := BlkG.only HZ3.out hx (fun h => by have h3 : s + 2 = s := h; omega)
  have hrd2 := Rd.only HRD3.out hx (fun q hq h => by have h3 : q = s := h; subst h3; exact Rd.apartG HRD3.out HG3.out hq)
  have hbl2 := (HBL.out.trans (HW3.out.mono HBL2.out)).trans (hx.below (by have := HW3.out.size; have := HBL2.out; omega) (fun q hq h => by have h3 : q = s := h; omega))
  have hst := stored (r := (goneG g pix ptm)) (A' := A1) (c' := c1) hz2 hrd2 hbl2 (Nat.le_add_right s 2) (by have := hbl2.size; have := HS.out; omega)
  obtain ⟨r0, r1, r2, r3, r4, r5, r6⟩ := hst.1.box
  try dsimp only at r0 r1 r2 r3 r4 r5 r6
  refine bodyPost_ret (v := vG (goneG g pix ptm) A1 c1) (by simp [results, Try.results12, go_sem, vG, r0, r1, r2, r3, r4, r5, r6]) rfl ⟨A1, c1, by rw [HG.out], by rw [HG.out]; exact hst.2.1, by rw [HS.out]; exact hst.2.2⟩
set_option maxHeartbeats 8000000 in
set_option maxRecDepth 100000 in
theorem sparse_Do_k4a (g : Grp) (A : Option Addr) (c : Nat) (pg pk : Int) (pl : List Ent) (pht phv phc pix ptm : Int) (pm ph : Bool) (Ap : Option Addr) (cp : Nat) (w : World) (h : Rd w A c g.l) (hp : Rd w Ap cp pl) (hl : g.l.length + pl.length ≤ 4398046511104) (h1 : isG false g = true) (h2 : isP ⟨pg, pk, pl, pht, phv, phc, pix, ptm, pm, ph⟩ = true) (h3 : pg = g.id) (h4 : pk = 4) (h5 : ¬ g.fi ≤ pix) :
    Calls Try.prog 12 #[vG g A c, vP ⟨pg, pk, pl, pht, phv, phc, pix, ptm, pm, ph⟩ Ap cp] w (GotG w (doG g ⟨pg, pk, pl, pht, phv, phc, pix, ptm, pm, ph⟩)) := by
  have HT0 := Aside0.mk (Two.new g A c ⟨g.id, 4, pl, pht, phv, phc, pix, ptm, pm, ph⟩ Ap cp w h hp)
  have HLN := Aside0.mk hl
  subst h3
  subst h4
  have HB1 := Aside0.mk h1
  have HB2 := Aside0.mk h2
  have HG : Aside0 (doG g ⟨g.id, 4, pl, pht, phv, phc, pix, ptm, pm, ph⟩ = goneG (if g.fi ≤ pix then ⟨g.id, g.fi, g.tm, g.ht, g.hv, g.hc, []⟩ else g) pix ptm) := ⟨by rw [doG, if_pos ⟨h1, h2, rfl⟩]; rfl⟩
  have HIX := Aside0.mk (isP_ix h2 (.inr (.inl rfl)))
  have HIF : Aside0 ((if g.fi ≤ pix then ⟨g.id, g.fi, g.tm, g.ht, g.hv, g.hc, []⟩ else g) = g) := ⟨if_neg h5⟩
  rw [HIF.out] at HG
  have d5 : decide (g.fi ≤ pix) = false := decide_eq_false h5
  clear h5
  clear h1 h2
  clear h hp hl
  unfold vG vP
  go_enter Try.func12, Try.ntmps12
  obtain ⟨C, hC⟩ : ∃ C, (match Try.f12.body with | some (.seq _ c) => c | _ => .skip) = C := ⟨_, rfl⟩
  have HC := Aside0.mk hC
  simp only [Try.f12] at hC
  rw [hC]
  clear hC
  go_wp2
  obtain ⟨s, hs⟩ : ∃ s, w.heap.size = s := ⟨_, rfl⟩
  have HT1 := HT0.out
  rw [hs] at HT1 ⊢
  obtain ⟨W, hW⟩ : ∃ W, (((w.alloc (.cells #[.int .i64 g.id, .int .i64 g.fi, .int .i64 g.tm, .int .i64 g.ht, .int .i64 g.hv, .int .i64 g.hc, .slice A g.l.length c] 26)).alloc (.cells #[.int .i64 g.id, .int .i64 4, .slice Ap pl.length cp, .int .i64 pht, .int .i64 phv, .int .i64 phc, .int .i64 pix, .int .i64 ptm, .bool pm, .bool ph] 28)).alloc (.cells #[.int .i64 0, .int .i64 0, .int .i64 0, .int .i64 0, .int .i64 0, .int .i64 0, .slice none 0 0] 26)) = W := ⟨_, rfl⟩
  rw [hW] at HT1 ⊢
  have HT := Aside0.mk HT1
  have HS := Aside0.mk hs
  have hC := HC.out
  simp only [Try.f12] at hC
  subst hC
  clear hW HT1 HT0 hs HC
  obtain ⟨e0, e1, e2, e3, e4, e5, e6⟩ := HT.out.bg.box; obtain ⟨p0, p1, p2, p3, p4, p5, p6, p7, p8, p9⟩ := HT.out.bp.box; obtain ⟨z0, z1, z2, z3, z4, z5, z6⟩ := HT.out.bz.box; have ef := HT.out.bg.free; have zf := HT.out.bz.free
  go_wp2_with (first | (go_at_call 13; refine (is_calls' g A c _ HT.out.rg HB1.out).mono ?_; rintro e w1 ⟨rfl, hw1⟩; have HT1 := Aside0.mk (HT.out.below hw1); clear hw1; clear e0 e1 e2 e3 e4 e5 e6 p0 p1 p2 p3 p4 p5 p6 p7 p8 p9 z0 z1 z2 z3 z4 z5 z6 ef zf; obtain ⟨e0, e1, e2, e3, e4, e5, e6⟩ := HT1.out.bg.box; obtain ⟨p0, p1, p2, p3, p4, p5, p6, p7, p8, p9⟩ := HT1.out.bp.box; obtain ⟨z0, z1, z2, z3, z4, z5, z6⟩ := HT1.out.bz.box; have ef := HT1.out.bg.free; have zf := HT1.out.bz.free) | (go_at_call 24; refine (isp_calls' ⟨g.id, 4, pl, pht, phv, phc, pix, ptm, pm, ph⟩ _ cp _ HT1.out.rp HB2.out).mono ?_; rintro e w2 ⟨rfl, hw2⟩; have HT2 := Aside0.mk (HT1.out.below hw2); clear hw2; clear e0 e1 e2 e3 e4 e5 e6 p0 p1 p2 p3 p4 p5 p6 p7 p8 p9 z0 z1 z2 z3 z4 z5 z6 ef zf; obtain ⟨e0, e1, e2, e3, e4, e5, e6⟩ := HT2.out.bg.box; obtain ⟨p0, p1, p2, p3, p4, p5, p6, p7, p8, p9⟩ := HT2.out.bp.box; obtain ⟨z0, z1, z2, z3, z4, z5, z6⟩ := HT2.out.bz.box; have ef := HT2.out.bg.free; have zf := HT2.out.bz.free; have HG2 := Aside0.mk HT2.out.bg; have HZ2 := Aside0.mk HT2.out.bz; have HBL := Aside0.mk HT2.out.b; have HBL2 : Aside0 (s ≤ w2.heap.size) := ⟨by have := HT2.out.sz; omega⟩) | (go_at_call 26; refine (sparse_gone g A c pix ptm _ HT2.out.rg (by have := HIX.out.1; omega) HIX.out.2).mono ?_; rintro e w3 ⟨A1, c1, rfl, hrd3, hw3⟩; have HRD3 := Aside0.mk hrd3; have HW3 := Aside0.mk hw3; clear hrd3 hw3; clear e0 e1 e2 e3 e4 e5 e6 p0 p1 p2 p3 p4 p5 p6 p7 p8 p9 z0 z1 z2 z3 z4 z5 z6 ef zf; have hg3 := HG2.out.below HW3.out; have ef := hg3.free; obtain ⟨e0, e1, e2, e3, e4, e5, e6⟩ := hg3.box; have hz3 := HZ2.out.below HW3.out; have zf := hz3.free; obtain ⟨z0, z1, z2, z3, z4, z5, z6⟩ := hz3.box; have HZ3 := Aside0.mk hz3; have HG3 := Aside0.mk hg3; clear hz3 hg3))
  have hx := only_store (goneG g pix ptm) A1 c1 s w3
  have hz2 := BlkG.only HZ3.out hx (fun h => by have h3 : s + 2 = s := h; omega)
  have hrd2 := Rd.only HRD3.out hx (fun q hq h => by have h3 : q = s := h; subst h3; exact Rd.apartG HRD3.out HG3.out hq)
  have hbl2 := (HBL.out.trans (HW3.out.mono HBL2.out)).trans (hx.below (by have := HW3.out.size; have := HBL2.out; omega) (fun q hq h => by have h3 : q = s := h; omega))
  have hst := stored (r := (goneG g pix ptm)) (A' := A1) (c' := c1) hz2 hrd2 hbl2 (Nat.le_add_right s 2) (by have := hbl2.size; have := HS.out; omega)
  obtain ⟨r0, r1, r2, r3, r4, r5, r6⟩ := hst.1.box
  try dsimp only at r0 r1 r2 r3 r4 r5 r6
  refine bodyPost_ret (v := vG (goneG g pix ptm) A1 c1) (by simp [results, Try.results12, go_sem, vG, r0, r1, r2, r3, r4, r5, r6]) rfl ⟨A1, c1, by rw [HG.out], by rw [HG.out]; exact hst.2.1, by rw [HS.out]; exact hst.2.2⟩
set_option maxHeartbeats 8000000 in
set_option maxRecDepth 100000 in
theorem sparse_Do_k4b (g : Grp) (A : Option Addr) (c : Nat) (pg pk : Int) (pl : List Ent) (pht phv phc pix ptm : Int) (pm ph : Bool) (Ap : Option Addr) (cp : Nat) (w : World) (h : Rd w A c g.l) (hp : Rd w Ap cp pl) (hl : g.l.length + pl.length ≤ 4398046511104) (h1 : isG false g = true) (h2 : isP ⟨pg, pk, pl, pht, phv, phc, pix, ptm, pm, ph⟩ = true) (h3 : pg = g.id) (h4 : pk = 4) (h5 : g.fi ≤ pix) :
    Calls Try.prog 12 #[vG g A c, vP ⟨pg, pk, pl, pht, phv, phc, pix, ptm, pm, ph⟩ Ap cp] w (GotG w (doG g ⟨pg, pk, pl, pht, phv, phc, pix, ptm, pm, ph⟩)) := by
  have HT0 := Aside0.mk (Two.new g A c ⟨g.id, 4, pl, pht, phv, phc, pix, ptm, pm, ph⟩ Ap cp w h hp)
  have HLN := Aside0.mk hl
  subst h3
  subst h4
  have HB1 := Aside0.mk h1
  have HB2 := Aside0.mk h2
  have HG : Aside0 (doG g ⟨g.id, 4, pl, pht, phv, phc, pix, ptm, pm, ph⟩ = goneG (if g.fi ≤ pix then ⟨g.id, g.fi, g.tm, g.ht, g.hv, g.hc, []⟩ else g) pix ptm) := ⟨by rw [doG, if_pos ⟨h1, h2, rfl⟩]; rfl⟩
  have HIX := Aside0.mk (isP_ix h2 (.inr (.inl rfl)))
  have HIF : Aside0 ((if g.fi ≤ pix then ⟨g.id, g.fi, g.tm, g.ht, g.hv, g.hc, []⟩ else g) = ⟨g.id, g.fi, g.tm, g.ht, g.hv, g.hc, []⟩) := ⟨if_pos h5⟩
  rw [HIF.out] at HG
  have d5 : decide (g.fi ≤ pix) = true := decide_eq_true h5
  clear h5
  clear h1 h2
  clear h hp hl
  unfold vG vP
  go_enter Try.func12, Try.ntmps12
  obtain ⟨C, hC⟩ : ∃ C, (match Try.f12.body with | some (.seq _ c) => c | _ => .skip) = C := ⟨_, rfl⟩
  have HC := Aside0.mk hC
  simp only [Try.f12] at hC
  rw [hC]
  clear hC
  go_wp2
  obtain ⟨s, hs⟩ : ∃ s, w.heap.size = s := ⟨_, rfl⟩
  have HT1 := HT0.out
  rw [hs] at HT1 ⊢
  obtain ⟨W, hW⟩ : ∃ W, (((w.alloc (.cells #[.int .i64 g.id, .int .i64 g.fi, .int .i64 g.tm, .int .i64 g.ht, .int .i64 g.hv, .int .i64 g.hc, .slice A g.l.length c] 26)).alloc (.cells #[.int .i64 g.id, .int .i64 4, .slice Ap pl.length cp, .int .i64 pht, .int .i64 phv, .int .i64 phc, .int .i64 pix, .int .i64 ptm, .bool pm, .bool ph] 28)).alloc (.cells #[.int .i64 0, .int .i64 0, .int .i64 0, .int .i64 0, .int .i64 0, .int .i64 0, .slice none 0 0] 26)) = W := ⟨_, rfl⟩
  rw [hW] at HT1 ⊢
  have HT := Aside0.mk HT1
  have HS := Aside0.mk hs
  have hC := HC.out
  simp only [Try.f12] at hC
  subst hC
  clear hW HT1 HT0 hs HC
  obtain ⟨e0, e1, e2, e3, e4, e5, e6⟩ := HT.out.bg.box; obtain ⟨p0, p1, p2, p3, p4, p5, p6, p7, p8, p9⟩ := HT.out.bp.box; obtain ⟨z0, z1, z2, z3, z4, z5, z6⟩ := HT.out.bz.box; have ef := HT.out.bg.free; have zf := HT.out.bz.free
  go_wp2_with (first | (go_at_call 13; refine (is_calls' g A c _ HT.out.rg HB1.out).mono ?_; rintro e w1 ⟨rfl, hw1⟩; have HT1 := Aside0.mk (HT.out.below hw1); clear hw1; clear e0 e1 e2 e3 e4 e5 e6 p0 p1 p2 p3 p4 p5 p6 p7 p8 p9 z0 z1 z2 z3 z4 z5 z6 ef zf; obtain ⟨e0, e1, e2, e3, e4, e5, e6⟩ := HT1.out.bg.box; obtain ⟨p0, p1, p2, p3, p4, p5, p6, p7, p8, p9⟩ := HT1.out.bp.box; obtain ⟨z0, z1, z2, z3, z4, z5, z6⟩ := HT1.out.bz.box; have ef := HT1.out.bg.free; have zf := HT1.out.bz.free) | (go_at_call 24; refine (isp_calls' ⟨g.id, 4, pl, pht, phv, phc, pix, ptm, pm, ph⟩ _ cp _ HT1.out.rp HB2.out).mono ?_; rintro e w2 ⟨rfl, hw2⟩; have HT2 := Aside0.mk (HT1.out.below hw2); clear hw2; clear e0 e1 e2 e3 e4 e5 e6 p0 p1 p2 p3 p4 p5 p6 p7 p8 p9 z0 z1 z2 z3 z4 z5 z6 ef zf; obtain ⟨e0, e1, e2, e3, e4, e5, e6⟩ := HT2.out.bg.box; obtain ⟨p0, p1, p2, p3, p4, p5, p6, p7, p8, p9⟩ := HT2.out.bp.box; obtain ⟨z0, z1, z2, z3, z4, z5, z6⟩ := HT2.out.bz.box; have ef := HT2.out.bg.free; have zf := HT2.out.bz.free; have hx5 := (Only.refl (fun q => q = s) w2).setCell (p := ⟨s, 6, none⟩) rfl (.slice none 0 0); have HG2 := Aside0.mk (HT2.out.bg.setL [] none 0); have HZ2 := Aside0.mk (BlkG.only HT2.out.bz hx5 (fun h => by have h3 : s + 2 = s := h; omega)); have HBL := Aside0.mk (HT2.out.b.trans (hx5.below (by have := HT2.out.sz; omega) (fun q hq h => by have h3 : q = s := h; omega))); have HBL2 : Aside0 (s ≤ (w2.setCell ⟨s, 6, none⟩ (.slice none 0 0)).heap.size) := ⟨by have := HT2.out.sz; have := hx5.size; omega⟩; clear hx5) | (go_at_call 26; refine (sparse_gone ⟨g.id, g.fi, g.tm, g.ht, g.hv, g.hc, []⟩ none 0 pix ptm _ (Rd.nil _) (by have := HIX.out.1; omega) HIX.out.2).mono ?_; rintro e w3 ⟨A1, c1, rfl, hrd3, hw3⟩; have HRD3 := Aside0.mk hrd3; have HW3 := Aside0.mk hw3; clear hrd3 hw3; clear e0 e1 e2 e3 e4 e5 e6 p0 p1 p2 p3 p4 p5 p6 p7 p8 p9 z0 z1 z2 z3 z4 z5 z6 ef zf; have hg3 := HG2.out.below HW3.out; have ef := hg3.free; obtain ⟨e0, e1, e2, e3, e4, e5, e6⟩ := hg3.box; have hz3 := HZ2.out.below HW3.out; have zf := hz3.free; obtain ⟨z0, z1, z2, z3, z4, z5, z6⟩ := hz3.box; have HZ3 := Aside0.mk hz3; have HG3 := Aside0.mk hg3; clear hz3 hg3))
  have hx := only_store (goneG ⟨g.id, g.fi, g.tm, g.ht, g.hv, g.hc, []⟩ pix ptm) A1 c1 s w3
  have hz2 := BlkG.only HZ3.out hx (fun h => by have h3 : s + 2 = s := h; omega)
  have hrd2 := Rd.only HRD3.out hx (fun q hq h => by have h3 : q = s := h; subst h3; exact Rd.apartG HRD3.out HG3.out hq)
  have hbl2 := (HBL.out.trans (HW3.out.mono HBL2.out)).trans (hx.below (by have := HW3.out.size; have := HBL2.out; omega) (fun q hq h => by have h3 : q = s := h; omega))
  have hst := stored (r := (goneG ⟨g.id, g.fi, g.tm, g.ht, g.hv, g.hc, []⟩ pix ptm)) (A' := A1) (c' := c1) hz2 hrd2 hbl2 (Nat.le_add_right s 2) (by have := hbl2.size; have := HS.out; omega)
  obtain ⟨r0, r1, r2, r3, r4, r5, r6⟩ := hst.1.box
  try dsimp only at r0 r1 r2 r3 r4 r5 r6
  refine bodyPost_ret (v := vG (goneG ⟨g.id, g.fi, g.tm, g.ht, g.hv, g.hc, []⟩ pix ptm) A1 c1) (by simp [results, Try.results12, go_sem, vG, r0, r1, r2, r3, r4, r5, r6]) rfl ⟨A1, c1, by rw [HG.out], by rw [HG.out]; exact hst.2.1, by rw [HS.out]; exact hst.2.2⟩
set_option maxHeartbeats 8000000 in
set_option maxRecDepth 100000 in
theorem sparse_Do_k6 (g : Grp) (A : Option Addr) (c : Nat) (pg pk : Int) (pl : List Ent) (pht phv phc pix ptm : Int) (pm ph : Bool) (Ap : Option Addr) (cp : Nat) (w : World) (h : Rd w A c g.l) (hp : Rd w Ap cp pl) (hl : g.l.length + pl.length ≤ 4398046511104) (h1 : isG false g = true) (h2 : isP ⟨pg, pk, pl, pht, phv, phc, pix, ptm, pm, ph⟩ = true) (h3 : pg = g.id) (h4 : pk = 6) :
    Calls Try.prog 12 #[vG g A c, vP ⟨pg, pk, pl, pht, phv, phc, pix, ptm, pm, ph⟩ Ap cp] w (GotG w (doG g ⟨pg, pk, pl, pht, phv, phc, pix, ptm, pm, ph⟩)) := by
  have HT0 := Aside0.mk (Two.new g A c ⟨g.id, 6, pl, pht, phv, phc, pix, ptm, pm, ph⟩ Ap cp w h hp)
  have HLN := Aside0.mk hl
  subst h3
  subst h4
  have HB1 := Aside0.mk h1
  have HB2 := Aside0.mk h2
  have HG : Aside0 (doG g ⟨g.id, 6, pl, pht, phv, phc, pix, ptm, pm, ph⟩ = forwardG g ⟨g.id, 6, pl, pht, phv, phc, pix, ptm, pm, ph⟩) := ⟨by rw [doG, if_pos ⟨h1, h2, rfl⟩]; rfl⟩
  have HIX : Aside0 (pm = true → 0 ≤ pix ∧ pix ≤ 1099511627776) := ⟨fun hm => by have h9 := isP_ix h2 (.inr (.inr ⟨rfl, hm⟩)); have h10 : 1 ≤ pix := h9.1; have h11 : pix ≤ 1099511627776 := h9.2; omega⟩
  clear h1 h2
  clear h hp hl
  unfold vG vP
  go_enter Try.func12, Try.ntmps12
  obtain ⟨C, hC⟩ : ∃ C, (match Try.f12.body with | some (.seq _ c) => c | _ => .skip) = C := ⟨_, rfl⟩
  have HC := Aside0.mk hC
  simp only [Try.f12] at hC
  rw [hC]
  clear hC
  go_wp2
  obtain ⟨s, hs⟩ : ∃ s, w.heap.size = s := ⟨_, rfl⟩
  have HT1 := HT0.out
  rw [hs] at HT1 ⊢
  obtain ⟨W, hW⟩ : ∃ W, (((w.alloc (.cells #[.int .i64 g.id, .int .i64 g.fi, .int .i64 g.tm, .int .i64 g.ht, .int .i64 g.hv, .int .i64 g.hc, .slice A g.l.length c] 26)).alloc (.cells #[.int .i64 g.id, .int .i64 6, .slice Ap pl.length cp, .int .i64 pht, .int .i64 phv, .int .i64 phc, .int .i64 pix, .int .i64 ptm, .bool pm, .bool ph] 28)).alloc (.cells #[.int .i64 0, .int .i64 0, .int .i64 0, .int .i64 0, .int .i64 0, .int .i64 0, .slice none 0 0] 26)) = W := ⟨_, rfl⟩
  rw [hW] at HT1 ⊢
  have HT := Aside0.mk HT1
  have HS := Aside0.mk hs
  have hC := HC.out
  simp only [Try.f12] at hC
  subst hC
  clear hW HT1 HT0 hs HC
  obtain ⟨e0, e1, e2, e3, e4, e5, e6⟩ := HT.out.bg.box; obtain ⟨p0, p1, p2, p3, p4, p5, p6, p7, p8, p9⟩ := HT.out.bp.box; obtain ⟨z0, z1, z2, z3, z4, z5, z6⟩ := HT.out.bz.box; have ef := HT.out.bg.free; have zf := HT.out.bz.free
  go_wp2_with (first | (go_at_call 13; refine (is_calls' g A c _ HT.out.rg HB1.out).mono ?_; rintro e w1 ⟨rfl, hw1⟩; have HT1 := Aside0.mk (HT.out.below hw1); clear hw1; clear e0 e1 e2 e3 e4 e5 e6 p0 p1 p2 p3 p4 p5 p6 p7 p8 p9 z0 z1 z2 z3 z4 z5 z6 ef zf; obtain ⟨e0, e1, e2, e3, e4, e5, e6⟩ := HT1.out.bg.box; obtain ⟨p0, p1, p2, p3, p4, p5, p6, p7, p8, p9⟩ := HT1.out.bp.box; obtain ⟨z0, z1, z2, z3, z4, z5, z6⟩ := HT1.out.bz.box; have ef := HT1.out.bg.free; have zf := HT1.out.bz.free) | (go_at_call 24; refine (isp_calls' ⟨g.id, 6, pl, pht, phv, phc, pix, ptm, pm, ph⟩ _ cp _ HT1.out.rp HB2.out).mono ?_; rintro e w2 ⟨rfl, hw2⟩; have HT2 := Aside0.mk (HT1.out.below hw2); clear hw2; clear e0 e1 e2 e3 e4 e5 e6 p0 p1 p2 p3 p4 p5 p6 p7 p8 p9 z0 z1 z2 z3 z4 z5 z6 ef zf; obtain ⟨e0, e1, e2, e3, e4, e5, e6⟩ := HT2.out.bg.box; obtain ⟨p0, p1, p2, p3, p4, p5, p6, p7, p8, p9⟩ := HT2.out.bp.box; obtain ⟨z0, z1, z2, z3, z4, z5, z6⟩ := HT2.out.bz.box; have ef := HT2.out.bg.free; have zf := HT2.out.bz.free; have HG2 := Aside0.mk HT2.out.bg; have HZ2 := Aside0.mk HT2.out.bz; have HBL := Aside0.mk HT2.out.b; have HBL2 : Aside0 (s ≤ w2.heap.size) := ⟨by have := HT2.out.sz; omega⟩) | (go_at_call 27; refine (sparse_forward g A c ⟨g.id, 6, pl, pht, phv, phc, pix, ptm, pm, ph⟩ Ap cp _ HT2.out.rg HT2.out.rp HIX.out HLN.out).mono ?_; rintro e w3 ⟨A1, c1, rfl, hrd3, hw3⟩; have HRD3 := Aside0.mk hrd3; have HW3 := Aside0.mk hw3; clear hrd3 hw3; clear e0 e1 e2 e3 e4 e5 e6 p0 p1 p2 p3 p4 p5 p6 p7 p8 p9 z0 z1 z2 z3 z4 z5 z6 ef zf; have hg3 := HG2.out.below HW3.out; have ef := hg3.free; obtain ⟨e0, e1, e2, e3, e4, e5, e6⟩ := hg3.box; have hz3 := HZ2.out.below HW3.out; have zf := hz3.free; obtain ⟨z0, z1, z2, z3, z4, z5, z6⟩ := hz3.box; have HZ3 := Aside0.mk hz3; have HG3 := Aside0.mk hg3; clear hz3 hg3))
  have hx := only_store (forwardG g ⟨g.id, 6, pl, pht, phv, phc, pix, ptm, pm, ph⟩) A1 c1 s w3
  have hz2 := BlkG.only HZ3.out hx (fun h => by have h3 : s + 2 = s := h; omega)
  have hrd2 := Rd.only HRD3.out hx (fun q hq h => by have h3 : q = s := h; subst h3; exact Rd.apartG HRD3.out HG3.out hq)
  have hbl2 := (HBL.out.trans (HW3.out.mono HBL2.out)).trans (hx.below (by have := HW3.out.size; have := HBL2.out; omega) (fun q hq h => by have h3 : q = s := h; omega))
  have hst := stored (r := (forwardG g ⟨g.id, 6, pl, pht, phv, phc, pix, ptm, pm, ph⟩)) (A' := A1) (c' := c1) hz2 hrd2 hbl2 (Nat.le_add_right s 2) (by have := hbl2.size; have := HS.out; omega)
  obtain ⟨r0, r1, r2, r3, r4, r5, r6⟩ := hst.1.box
  try dsimp only at r0 r1 r2 r3 r4 r5 r6
  refine bodyPost_ret (v := vG (forwardG g ⟨g.id, 6, pl, pht, phv, phc, pix, ptm, pm, ph⟩) A1 c1) (by simp [results, Try.results12, go_sem, vG, r0, r1, r2, r3, r4, r5, r6]) rfl ⟨A1, c1, by rw [HG.out], by rw [HG.out]; exact hst.2.1, by rw [HS.out]; exact hst.2.2⟩
set_option maxHeartbeats 8000000 in
set_option maxRecDepth 100000 in
theorem sparse_Do_k1 (g : Grp) (A : Option Addr) (c : Nat) (pg pk : Int) (pl : List Ent) (pht phv phc pix ptm : Int) (pm ph : Bool) (Ap : Option Addr) (cp : Nat) (w : World) (h : Rd w A c g.l) (hp : Rd w Ap cp pl) (hl : g.l.length + pl.length ≤ 4398046511104) (h1 : isG false g = true) (h2 : isP ⟨pg, pk, pl, pht, phv, phc, pix, ptm, pm, ph⟩ = true) (h3 : pg = g.id) (h4 : pk = 1) :
    Calls Try.prog 12 #[vG g A c, vP ⟨pg, pk, pl, pht, phv, phc, pix, ptm, pm, ph⟩ Ap cp] w (GotG w (doG g ⟨pg, pk, pl, pht, phv, phc, pix, ptm, pm, ph⟩)) := by
  have HT0 := Aside0.mk (Two.new g A c ⟨g.id, 1, pl, pht, phv, phc, pix, ptm, pm, ph⟩ Ap cp w h hp)
  have HLN := Aside0.mk hl
  subst h3
  subst h4
  have HB1 := Aside0.mk h1
  have HB2 := Aside0.mk h2
  have HG : Aside0 (doG g ⟨g.id, 1, pl, pht, phv, phc, pix, ptm, pm, ph⟩ = ⟨g.id, g.fi, g.tm, g.ht, g.hv, g.hc, (withL g.l g.fi (el pl 0).f0) ++ (withL pl g.fi 1099511627777)⟩) := ⟨by rw [doG, if_pos ⟨h1, h2, rfl⟩]; rfl⟩
  have HNE := Aside0.mk (isP_ne h2 rfl)
  have HLN3 : Aside0 ((withL g.l g.fi (el pl 0).f0).length ≤ 4398046511104) := ⟨Nat.le_trans (List.length_filter_le _ _) (by omega)⟩
  have HLN4 : Aside0 ((withL pl g.fi 1099511627777).length ≤ 4398046511104) := ⟨Nat.le_trans (List.length_filter_le _ _) (by omega)⟩
  have HLN5 : Aside0 ((withL g.l g.fi (el pl 0).f0).length + (withL pl g.fi 1099511627777).length ≤ 4398046511104) := ⟨by have a1 : (withL g.l g.fi (el pl 0).f0).length ≤ g.l.length := List.length_filter_le _ _; have a2 : (withL pl g.fi 1099511627777).length ≤ pl.length := List.length_filter_le _ _; omega⟩
  clear h1 h2
  clear h hp hl
  unfold vG vP
  go_enter Try.func12, Try.ntmps12
  obtain ⟨C, hC⟩ : ∃ C, (match Try.f12.body with | some (.seq _ c) => c | _ => .skip) = C := ⟨_, rfl⟩
  have HC := Aside0.mk hC
  simp only [Try.f12] at hC
  rw [hC]
  clear hC
  go_wp2
  obtain ⟨s, hs⟩ : ∃ s, w.heap.size = s := ⟨_, rfl⟩
  have HT1 := HT0.out
  rw [hs] at HT1 ⊢
  obtain ⟨W, hW⟩ : ∃ W, (((w.alloc (.cells #[.int .i64 g.id, .int .i64 g.fi, .int .i64 g.tm, .int .i64 g.ht, .int .i64 g.hv, .int .i64 g.hc, .slice A g.l.length c] 26)).alloc (.cells #[.int .i64 g.id, .int .i64 1, .slice Ap pl.length cp, .int .i64 pht, .int .i64 phv, .int .i64 phc, .int .i64 pix, .int .i64 ptm, .bool pm, .bool ph] 28)).alloc (.cells #[.int .i64 0, .int .i64 0, .int .i64 0, .int .i64 0, .int .i64 0, .int .i64 0, .slice none 0 0] 26)) = W := ⟨_, rfl⟩
  rw [hW] at HT1 ⊢
  have HT := Aside0.mk HT1
  have HS := Aside0.mk hs
  have hC := HC.out
  simp only [Try.f12] at hC
  subst hC
  clear hW HT1 HT0 hs HC
  obtain ⟨e0, e1, e2, e3, e4, e5, e6⟩ := HT.out.bg.box; obtain ⟨p0, p1, p2, p3, p4, p5, p6, p7, p8, p9⟩ := HT.out.bp.box; obtain ⟨z0, z1, z2, z3, z4, z5, z6⟩ := HT.out.bz.box; have ef := HT.out.bg.free; have zf := HT.out.bz.free
  obtain ⟨ad, rfl, q0, q1, q2⟩ := HT.out.rp.at_ (i := 0) HNE.out
  simp only [ad0] at q0 q1 q2
  have hne := HNE.out
  go_wp2_with (first | (go_at_call 13; refine (is_calls' g A c _ HT.out.rg HB1.out).mono ?_; rintro e w1 ⟨rfl, hw1⟩; have HT1 := Aside0.mk (HT.out.below hw1); clear hw1; clear e0 e1 e2 e3 e4 e5 e6 p0 p1 p2 p3 p4 p5 p6 p7 p8 p9 z0 z1 z2 z3 z4 z5 z6 ef zf; obtain ⟨e0, e1, e2, e3, e4, e5, e6⟩ := HT1.out.bg.box; obtain ⟨p0, p1, p2, p3, p4, p5, p6, p7, p8, p9⟩ := HT1.out.bp.box; obtain ⟨z0, z1, z2, z3, z4, z5, z6⟩ := HT1.out.bz.box; have ef := HT1.out.bg.free; have zf := HT1.out.bz.free) | (go_at_call 24; refine (isp_calls' ⟨g.id, 1, pl, pht, phv, phc, pix, ptm, pm, ph⟩ _ cp _ HT1.out.rp HB2.out).mono ?_; rintro e w2 ⟨rfl, hw2⟩; have HT2 := Aside0.mk (HT1.out.below hw2); clear hw2; clear e0 e1 e2 e3 e4 e5 e6 p0 p1 p2 p3 p4 p5 p6 p7 p8 p9 z0 z1 z2 z3 z4 z5 z6 ef zf; obtain ⟨e0, e1, e2, e3, e4, e5, e6⟩ := HT2.out.bg.box; obtain ⟨p0, p1, p2, p3, p4, p5, p6, p7, p8, p9⟩ := HT2.out.bp.box; obtain ⟨z0, z1, z2, z3, z4, z5, z6⟩ := HT2.out.bz.box; have ef := HT2.out.bg.free; have zf := HT2.out.bz.free; have hq := HT2.out.rp.at_ (i := 0) HNE.out; obtain ⟨ad', hq, q0, q1, q2⟩ := hq; cases hq; simp only [ad0] at q0 q1 q2))
  clear q0 q1 q2 zf z0 z1 z2 z3 z4 z5 z6
  have HRg := Aside0.mk (Rd.drew HT2.out.rg)
  have HRp := Aside0.mk (Rd.drew HT2.out.rp)
  refine start_ (n := 14) (S := (fun w' => w'.cell? ⟨s, 1, none⟩ = some (.int .i64 g.fi) ∧ w'.cell? ⟨s, 6, none⟩ = some (.slice A g.l.length c) ∧ w'.cell? ⟨s + 1, 2, none⟩ = some (.slice (some ad) pl.length cp))) (ds := [13]) #[false, false, false, false, false, false, false, false, false, false, false, false, false, false] (by kernel_rfl) rfl rfl ⟨e1, e6, p2⟩ (fun hHeld => ?_)
  have HHE : Aside0 ((fun w' => w'.cell? ⟨s, 1, none⟩ = some (.int .i64 g.fi) ∧ w'.cell? ⟨s, 6, none⟩ = some (.slice A g.l.length c) ∧ w'.cell? ⟨s + 1, 2, none⟩ = some (.slice (some ad) pl.length cp)) w2) := ⟨⟨e1, e6, p2⟩⟩
  clear e0 e1 e2 e3 e4 e5 e6 p0 p1 p2 p3 p4 p5 p6 p7 p8 p9 ef
  refine pure_ (i := 0) (N := some 31) (v := ?_) (a' := ?_) #[true, false, false, false, false, false, false, false, false, false, false, false, false, false] rfl rfl (by kernel_rfl) (fun _ _ _ h => h) (Or.inl ⟨by rfl, ?_⟩) ?_ ?_
  rotate_left
  · intro w'
    go_simp
    try with_reducible rfl
  rotate_left
  · simp only [Act.put, List.setIfInBounds_toArray, List.set_cons_zero, List.set_cons_succ]
    rfl
  refine take_ (i := 1) (N := some 32) (v := ?_) (a' := ?_) #[true, true, false, false, false, false, false, false, false, false, false, false, false, false] rfl rfl (by kernel_rfl) (fun _ _ _ h => h) (Or.inl ⟨by rfl, ?_⟩) hHeld ?_ ?_
  rotate_left
  · rintro w' ⟨s0, s1, s2⟩
    go_simp
    try with_reducible rfl
  rotate_left
  · simp only [Act.put, List.setIfInBounds_toArray, List.set_cons_zero, List.set_cons_succ]
    rfl
  refine pure_ (i := 2) (N := some 33) (v := ?_) (a' := ?_) #[true, true, true, false, false, false, false, false, false, false, false, false, false, false] rfl rfl (by kernel_rfl) (fun _ _ _ h => h) (Or.inl ⟨by rfl, ?_⟩) ?_ ?_
  rotate_left
  · intro w'
    go_simp
    try with_reducible rfl
  rotate_left
  · simp only [Act.put, List.setIfInBounds_toArray, List.set_cons_zero, List.set_cons_succ]
    rfl
  refine take_ (i := 3) (N := some 34) (v := ?_) (a' := ?_) #[true, true, true, true, false, false, false, false, false, false, false, false, false, false] rfl rfl (by kernel_rfl) (fun _ _ _ h => h) (Or.inl ⟨by rfl, ?_⟩) hHeld ?_ ?_
  rotate_left
  · rintro w' ⟨s0, s1, s2⟩
    go_simp
    try with_reducible rfl
  rotate_left
  · simp only [Act.put, List.setIfInBounds_toArray, List.set_cons_zero, List.set_cons_succ]
    rfl
  refine pure_ (i := 4) (N := some 35) (v := ?_) (a' := ?_) #[true, true, true, true, true, false, false, false, false, false, false, false, false, false] rfl rfl (by kernel_rfl) (fun _ _ _ h => h) (Or.inl ⟨by rfl, ?_⟩) ?_ ?_
  rotate_left
  · intro w'
    go_simp
    try with_reducible rfl
  rotate_left
  · simp only [Act.put, List.setIfInBounds_toArray, List.set_cons_zero, List.set_cons_succ]
    rfl
  refine pure_ (i := 6) (N := some 37) (v := ?_) (a' := ?_) #[true, true, true, true, true, false, true, false, false, false, false, false, false, false] rfl rfl (by kernel_rfl) (fun _ _ _ h => h) (Or.inl ⟨by rfl, ?_⟩) ?_ ?_
  rotate_left
  · intro w'
    go_simp
    try with_reducible rfl
  rotate_left
  · simp only [Act.put, List.setIfInBounds_toArray, List.set_cons_zero, List.set_cons_succ]
    rfl
  refine take_ (i := 7) (N := some 38) (v := ?_) (a' := ?_) #[true, true, true, true, true, false, true, true, false, false, false, false, false, false] rfl rfl (by kernel_rfl) (fun _ _ _ h => h) (Or.inl ⟨by rfl, ?_⟩) hHeld ?_ ?_
  rotate_left
  · rintro w' ⟨s0, s1, s2⟩
    go_simp
    try with_reducible rfl
  rotate_left
  · simp only [Act.put, List.setIfInBounds_toArray, List.set_cons_zero, List.set_cons_succ]
    rfl
  refine pure_ (i := 8) (N := some 39) (v := ?_) (a' := ?_) #[true, true, true, true, true, false, true, true, true, false, false, false, false, false] rfl rfl (by kernel_rfl) (fun _ _ _ h => h) (Or.inl ⟨by rfl, ?_⟩) ?_ ?_
  rotate_left
  · intro w'
    go_simp
    try with_reducible rfl
  rotate_left
  · simp only [Act.put, List.setIfInBounds_toArray, List.set_cons_zero, List.set_cons_succ]
    rfl
  refine take_ (i := 9) (N := some 40) (v := ?_) (a' := ?_) #[true, true, true, true, true, false, true, true, true, true, false, false, false, false] rfl rfl (by kernel_rfl) (fun _ _ _ h => h) (Or.inl ⟨by rfl, ?_⟩) hHeld ?_ ?_
  rotate_left
  · rintro w' ⟨s0, s1, s2⟩
    go_simp
    try with_reducible rfl
  rotate_left
  · simp only [Act.put, List.setIfInBounds_toArray, List.set_cons_zero, List.set_cons_succ]
    rfl
  refine one_ (i := 5) (N := some 36) #[true, true, true, true, true, true, true, true, true, true, false, false, false, false] rfl rfl (by kernel_rfl) (by decide) (fun K hK => ?_)
  go_simp
  refine (sparse_from g.l A c g.fi (el pl 0).f0 _ HRg.out).mono ?_; rintro e w3 ⟨v1, rfl, ho, hw⟩; obtain ⟨A1, c1, rfl, hrd, hfr⟩ := ho.rd' HLN3.out; have HO3 := Aside0.mk ho; have HRD3 := Aside0.mk hrd; have HFR3 := Aside0.mk hfr; have HW3 := Aside0.mk hw; clear ho hrd hfr hw
  refine hK.out _ _ ?_ (fun hHeld => ?_)
  · obtain ⟨s0, s1, s2⟩ := hHeld; exact ⟨(HW3.out.cell (World.block_lt_of_cell? _ _ s0)).trans s0, (HW3.out.cell (World.block_lt_of_cell? _ _ s1)).trans s1, (HW3.out.cell (World.block_lt_of_cell? _ _ s2)).trans s2⟩
  clear hK K
  try simp only [Act.put, List.setIfInBounds_toArray, List.set_cons_zero, List.set_cons_succ]
  refine one_ (i := 10) (N := some 41) #[true, true, true, true, true, true, true, true, true, true, true, false, false, false] rfl rfl (by kernel_rfl) (by decide) (fun K hK => ?_)
  go_simp
  refine (sparse_from pl (some ad) cp g.fi 1099511627777 _ (HRp.out.below HW3.out)).mono ?_; rintro e w4 ⟨v2, rfl, ho, hw⟩; obtain ⟨A2, c2, rfl, hrd, hfr⟩ := ho.rd' HLN4.out; have HO4 := Aside0.mk ho; have HRD4 := Aside0.mk hrd; have HFR4 := Aside0.mk hfr; have HW4 := Aside0.mk hw; clear ho hrd hfr hw
  refine hK.out _ _ ?_ (fun hHeld => ?_)
  · obtain ⟨s0, s1, s2⟩ := hHeld; exact ⟨(HW4.out.cell (World.block_lt_of_cell? _ _ s0)).trans s0, (HW4.out.cell (World.block_lt_of_cell? _ _ s1)).trans s1, (HW4.out.cell (World.block_lt_of_cell? _ _ s2)).trans s2⟩
  clear hK K
  try simp only [Act.put, List.setIfInBounds_toArray, List.set_cons_zero, List.set_cons_succ]
  refine one_ (i := 11) (N := some 42) #[true, true, true, true, true, true, true, true, true, true, true, true, false, false] rfl rfl (by kernel_rfl) (by decide) (fun K hK => ?_)
  rw [if_pos (by rfl)]
  refine wp_append_ent (l := (withL g.l g.fi (el pl 0).f0)) (m := (withL pl g.fi 1099511627777)) (b := w2.heap.size) (.tmp 36) (.tmp 41) rfl rfl (HO3.out.below HW4.out) rfl HRD4.out HLN5.out (by have := HW3.out.size; have := HW4.out.size; simp at *; omega) ?_
  intro v5 w5 ho5 hg5 ha5; obtain ⟨L, hL⟩ : ∃ L, (withL g.l g.fi (el pl 0).f0) ++ (withL pl g.fi 1099511627777) = L := ⟨_, rfl⟩; have HLL : Aside0 (L.length ≤ 4398046511104) := ⟨by rw [← hL, List.length_append]; exact HLN5.out⟩; rw [hL] at ho5 HG; clear hL; have hon : Only (fun q => w2.heap.size ≤ q) w2 w5 := (((only_below (U := fun q => w2.heap.size ≤ q) (below_drew (Below.refl w2.heap.size w2))).trans ((only_below HW3.out).trans (only_below HW4.out)))).of_grown hg5 (fun k hk _ => (own_block HO3.out hk).1); have HON := Aside0.mk hon; obtain ⟨A5, c5, rfl, hrd5, hfr5⟩ := ho5.rd' HLL.out; have HRD5 := Aside0.mk hrd5; have HFR5 := Aside0.mk hfr5; clear ho5 hg5 ha5 hon hrd5 hfr5
  refine hK.out _ _ ?_ (fun hHeld => ?_)
  · obtain ⟨s0, s1, s2⟩ := HHE.out; exact ⟨HON.out.cell s0 (by intro h; have h2 : w2.heap.size ≤ s := h; have := HT2.out.sz; omega), HON.out.cell s1 (by intro h; have h2 : w2.heap.size ≤ s := h; have := HT2.out.sz; omega), HON.out.cell s2 (by intro h; have h2 : w2.heap.size ≤ s + 1 := h; have := HT2.out.sz; omega)⟩
  clear hK K
  try simp only [Act.put, List.setIfInBounds_toArray, List.set_cons_zero, List.set_cons_succ]
  have hg6 := HT2.out.bg.only HON.out (fun h => by have h2 : w2.heap.size ≤ s := h; have := HT2.out.sz; omega)
  have hz6 := BlkG.only HT2.out.bz HON.out (fun h => by have h2 : w2.heap.size ≤ s + 2 := h; have := HT2.out.sz; omega)
  have hrc := hg6.free
  obtain ⟨e0, e1, e2, e3, e4, e5, e6⟩ := hg6.box
  have HG6 := Aside0.mk hg6
  have HZ6 := Aside0.mk hz6
  clear hg6 hz6
  refine pure_ (i := 12) (N := some 43) (v := ?_) (a' := ?_) #[true, true, true, true, true, true, true, true, true, true, true, true, true, false] rfl rfl (by kernel_rfl) (fun _ _ _ h => h) (Or.inl ⟨by rfl, ?_⟩) ?_ ?_
  rotate_left
  · intro w'
    go_simp
    try with_reducible rfl
  rotate_left
  · simp only [Act.put, List.setIfInBounds_toArray, List.set_cons_zero, List.set_cons_succ]
    rfl
  refine last_ (i := 13) (N := none) #[true, true, true, true, true, true, true, true, true, true, true, true, true, true] rfl rfl (by kernel_rfl) (by decide) (fun K hK => ?_)
  go_simp
  refine hK.out _ _ ?_
  clear hK K
  try simp only [Act.put, List.setIfInBounds_toArray, List.set_cons_zero, List.set_cons_succ]
  refine done_ (by kernel_rfl) ?_
  have hgl := HG6.out.setL L A5 c5
  have hx := (Only.refl (fun q => q = s) w5).setCell (p := ⟨s, 6, none⟩) rfl (.slice A5 L.length c5)
  have hz7 := BlkG.only HZ6.out hx (fun h => by have h3 : s + 2 = s := h; omega)
  have hrd7 := Rd.only HRD5.out hx (fun q hq h => by have h3 : q = s := h; have := HFR5.out q hq; have := HT2.out.sz; omega)
  have hbl7 := (HT2.out.b.trans (HON.out.below (by have := HT2.out.sz; omega) (fun q hq h => by have h2 : w2.heap.size ≤ q := h; have := HT2.out.sz; omega))).trans (hx.below (by have := HON.out.size; have := HT2.out.sz; omega) (fun q hq h => by have h3 : q = s := h; omega))
  clear hx
  have zf := hz7.free
  obtain ⟨z0, z1, z2, z3, z4, z5, z6⟩ := hz7.box
  obtain ⟨e0, e1, e2, e3, e4, e5, e6⟩ := hgl.box
  have HZ7 := Aside0.mk hz7
  have HRD7 := Aside0.mk hrd7
  have HBL7 := Aside0.mk hbl7
  clear hz7 hrd7 hbl7 hgl
  go_wp2
  have hst := stored (r := ⟨g.id, g.fi, g.tm, g.ht, g.hv, g.hc, L⟩) (A' := A5) (c' := c5) HZ7.out HRD7.out HBL7.out (Nat.le_add_right s 2) (by have := HBL7.out.size; have := HS.out; omega)
  obtain ⟨r0, r1, r2, r3, r4, r5, r6⟩ := hst.1.box
  try dsimp only at r0 r1 r2 r3 r4 r5 r6
  refine bodyPost_ret (v := vG ⟨g.id, g.fi, g.tm, g.ht, g.hv, g.hc, L⟩ A5 c5) (by simp [results, Try.results12, go_sem, vG, r0, r1, r2, r3, r4, r5, r6]) rfl ⟨A5, c5, by rw [HG.out], by rw [HG.out]; exact hst.2.1, by rw [HS.out]; exact hst.2.2⟩
theorem sparse_Do (g : Grp) (A : Option Addr) (c : Nat) (p : Prt) (Ap : Option Addr) (cp : Nat) (w : World) (h : Rd w A c g.l) (hp : Rd w Ap cp p.l) (hl : g.l.length + p.l.length ≤ 4398046511104) :
    Calls Try.prog 12 #[vG g A c, vP p Ap cp] w (GotG w (doG g p)) := by
  obtain ⟨pg, pk, pl, pht, phv, phc, pix, ptm, pm, ph⟩ := p
  cases h1 : isG false g with
  | false => exact sparse_Do_no1 g A c pg pk pl pht phv phc pix ptm pm ph Ap cp w h hp hl h1
  | true =>
    cases h2 : isP ⟨pg, pk, pl, pht, phv, phc, pix, ptm, pm, ph⟩ with
    | false => exact sparse_Do_no2 g A c pg pk pl pht phv phc pix ptm pm ph Ap cp w h hp hl h1 h2
    | true =>
      by_cases h3 : pg = g.id
      · rcases isP_kind h2 with h4 | h4 | h4 | h4 | h4 | h4
        · exact sparse_Do_k1 g A c pg pk pl pht phv phc pix ptm pm ph Ap cp w h hp hl h1 h2 h3 h4
        · exact sparse_Do_k2 g A c pg pk pl pht phv phc pix ptm pm ph Ap cp w h hp hl h1 h2 h3 h4
        · exact sparse_Do_k3 g A c pg pk pl pht phv phc pix ptm pm ph Ap cp w h hp hl h1 h2 h3 h4
        · by_cases h5 : g.fi ≤ pix
          · exact sparse_Do_k4b g A c pg pk pl pht phv phc pix ptm pm ph Ap cp w h hp hl h1 h2 h3 h4 h5
          · exact sparse_Do_k4a g A c pg pk pl pht phv phc pix ptm pm ph Ap cp w h hp hl h1 h2 h3 h4 h5
        · exact sparse_Do_k5 g A c pg pk pl pht phv phc pix ptm pm ph Ap cp w h hp hl h1 h2 h3 h4
        · exact sparse_Do_k6 g A c pg pk pl pht phv phc pix ptm pm ph Ap cp w h hp hl h1 h2 h3 h4
      · exact sparse_Do_no3 g A c pg pk pl pht phv phc pix ptm pm ph Ap cp w h hp hl h1 h2 h3
end Go.Proofs.Ytfnflbclhaeedaa.PartW
