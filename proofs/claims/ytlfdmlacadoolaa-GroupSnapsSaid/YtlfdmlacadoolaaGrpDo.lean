/- The walk of group.Do. -/
import Derived.Test.YtlfdmlacadoolaaChkW
set_option linter.unusedVariables false
set_option linter.unusedSimpArgs false
namespace Go.Proofs.Ytlfdmlacadoolaa.Sp
open Go Go.RowKit Go.Proofs.Ytlfdmlacadoolaa.A Go.Proofs.Ytlfdmlacadoolaa.Seq Go.Proofs.YtlfdmlacadoolaaW.PrintWords Go.Proofs.YtlfdmlacadoolaaW.PrintLast Go.Proofs.YtlfdmlacadoolaaW.PrintMore
def noEnt (g : Grp) : Grp := ⟨g.id, g.fi, g.tm, g.ht, g.hv, g.hc, []⟩
/-- what group.Do makes of a part that may be done -/
def dwK (g : Grp) (p : Prt) : Grp :=
  if p.k = 1 then ⟨g.id, g.fi, g.tm, g.ht, g.hv, g.hc, withL g.l g.fi (el p.l 0).f0 ++ p.l⟩
  else if p.k = 2 then ⟨g.id, g.fi, g.tm, p.ht, p.hv, p.hc, g.l⟩
  else if p.k = 3 then goneW g p.ix (entL g.l p.ix).f1
  else if p.k = 4 then goneW (if fitsB g p.ix p.tm = true then g else noEnt g) p.ix p.tm
  else g
def dwG (g : Grp) (p : Prt) : Grp := if chwG g p = 0 then dwK g p else g
theorem chw_ok {g : Grp} {p : Prt} (h : chwG g p = 0) : isP p = true ∧ p.k ≠ 6 ∧ p.k ≠ 5 ∧ p.g = g.id ∧ chwK g p = 0 := by
  unfold chwG at h
  split at h
  · next h1 => exact ⟨h1.1, h1.2.1, h1.2.2.1, h1.2.2.2, h⟩
  · cases h
end Go.Proofs.Ytlfdmlacadoolaa.Sp
namespace Go.Proofs.Ytlfdmlacadoolaa.PartW
open Go Go.RowKit Go.Shelf Go.Proofs.Ytlfdmlacadoolaa.A Go.Proofs.Ytlfdmlacadoolaa.Sp Go.Proofs.Ytlfdmlacadoolaa.Reg Go.Proofs.Ytlfdmlacadoolaa.Seq Go.Proofs.YtlfdmlacadoolaaW.PrintWords Go.Proofs.YtlfdmlacadoolaaW.PrintLast Go.Proofs.YtlfdmlacadoolaaW.PrintMore
/-- a group is given back, and a class -/
def GotT (w : World) (g : Grp) (x : Int) (e : Ending) (w' : World) : Prop := ∃ A c, e = .returned (.tuple #[vG g A c, .int .i64 x]) ∧ Rd w' A c g.l ∧ Below w.heap.size w w'
theorem gchk_calls (g : Grp) (A : Option Addr) (c : Nat) (p : Prt) (Ap : Option Addr) (cp : Nat) (w : World) (h : Rd w A c g.l) (hp : Rd w Ap cp p.l) {v : Int} (hv : chwG g p = v) : Calls Try.prog 24 #[vG g A c, vP p Ap cp] w fun e w' => e = .returned (.int .i64 v) ∧ Below w.heap.size w w' := by
  rw [← hv]; exact group_Check g A c p Ap cp w h hp
theorem gone_calls (g : Grp) (A : Option Addr) (c : Nat) (i t : Int) (w : World) (h : Rd w A c g.l) (hi0 : 0 ≤ i) (hi1 : i ≤ 1099511627776) {R : Grp} (hr : goneW g i t = R) : Calls Try.prog 44 #[vG g A c, .int .i64 i, .int .i64 t] w (GotG w R) := by
  rw [← hr]; exact group_gone g A c i t w h hi0 hi1
set_option maxHeartbeats 8000000 in
set_option maxRecDepth 100000 in
theorem group_Do_no (g : Grp) (A : Option Addr) (c : Nat) (pg pk : Int) (pl : List Ent) (pht phv phc pix ptm : Int) (pm ph : Bool) (Ap : Option Addr) (cp : Nat) (w : World) (h : Rd w A c g.l) (hp : Rd w Ap cp pl) (hl : g.l.length + pl.length ≤ 4398046511104) (x : Int) (hc : chwG g ⟨pg, pk, pl, pht, phv, phc, pix, ptm, pm, ph⟩ = x) (hx : x ≠ 0) :
    Calls Try.prog 22 #[vG g A c, vP ⟨pg, pk, pl, pht, phv, phc, pix, ptm, pm, ph⟩ Ap cp] w (GotT w (dwG g ⟨pg, pk, pl, pht, phv, phc, pix, ptm, pm, ph⟩) (chwG g ⟨pg, pk, pl, pht, phv, phc, pix, ptm, pm, ph⟩)) := by
  have HG : Aside0 (dwG g ⟨pg, pk, pl, pht, phv, phc, pix, ptm, pm, ph⟩ = g) := ⟨by unfold dwG; rw [if_neg (by rw [hc]; exact hx)]⟩
  have HCK := Aside0.mk hc
  have j1 : (x == 0) = false := beq_eq_false_iff_ne.2 hx
  have j1n : (x != 0) = true := by rw [bne, j1]; rfl
  have j1m : (!(x == 0)) = true := by rw [j1]; rfl
  clear hc hx
  have HT0 := Aside0.mk (Two.new g A c ⟨pg, pk, pl, pht, phv, phc, pix, ptm, pm, ph⟩ Ap cp w h hp)
  have HLN := Aside0.mk hl
  clear h hp hl
  unfold vG vP
  go_enter Try.func22, Try.ntmps22
  obtain ⟨C, hC⟩ : ∃ C, (match Try.f22.body with | some (.seq _ c) => c | _ => .skip) = C := ⟨_, rfl⟩
  have HC := Aside0.mk hC
  simp only [Try.f22] at hC
  rw [hC]
  clear hC
  go_wp2
  obtain ⟨s, hs⟩ : ∃ s, w.heap.size = s := ⟨_, rfl⟩
  have HT1 := HT0.out
  rw [hs] at HT1 ⊢
  obtain ⟨W, hW⟩ : ∃ W, (((w.alloc (.cells #[.int .i64 g.id, .int .i64 g.fi, .int .i64 g.tm, .int .i64 g.ht, .int .i64 g.hv, .int .i64 g.hc, .slice A g.l.length c] 26)).alloc (.cells #[.int .i64 pg, .int .i64 pk, .slice Ap pl.length cp, .int .i64 pht, .int .i64 phv, .int .i64 phc, .int .i64 pix, .int .i64 ptm, .bool pm, .bool ph] 28)).alloc (.cells #[.int .i64 0, .int .i64 0, .int .i64 0, .int .i64 0, .int .i64 0, .int .i64 0, .slice none 0 0] 26)) = W := ⟨_, rfl⟩
  rw [hW] at HT1 ⊢
  have HT := Aside0.mk HT1
  have HS := Aside0.mk hs
  have hC := HC.out
  simp only [Try.f22] at hC
  subst hC
  clear HC
  clear hW HT1 HT0 hs
  obtain ⟨e0, e1, e2, e3, e4, e5, e6⟩ := HT.out.bg.box
  obtain ⟨p0, p1, p2, p3, p4, p5, p6, p7, p8, p9⟩ := HT.out.bp.box
  go_wp2_with (first | (go_at_call 24; refine (gchk_calls g A c ⟨pg, pk, pl, pht, phv, phc, pix, ptm, pm, ph⟩ Ap cp _ HT.out.rg HT.out.rp HCK.out).mono ?_; rintro e w2 ⟨rfl, hw2⟩; have HT2 := Aside0.mk (HT.out.below hw2); clear hw2; clear e0 e1 e2 e3 e4 e5 e6 p0 p1 p2 p3 p4 p5 p6 p7 p8 p9; obtain ⟨e0, e1, e2, e3, e4, e5, e6⟩ := HT2.out.bg.box; obtain ⟨p0, p1, p2, p3, p4, p5, p6, p7, p8, p9⟩ := HT2.out.bp.box; obtain ⟨z0, z1, z2, z3, z4, z5, z6⟩ := HT2.out.bz.box; have zf := HT2.out.bz.free) | fail)
  have hst := stored (r := g) (A' := A) (c' := c) HT2.out.bz HT2.out.rg HT2.out.b (Nat.le_add_right s 2) (by have := HT2.out.sz; omega)
  obtain ⟨r0, r1, r2, r3, r4, r5, r6⟩ := hst.1.box
  try dsimp only at r0 r1 r2 r3 r4 r5 r6
  refine bodyPost_ret (v := .tuple #[vG g A c, .int .i64 x]) (by simp [results, Try.results22, go_sem, vG, r0, r1, r2, r3, r4, r5, r6]) rfl ⟨A, c, by rw [HG.out, HCK.out], by rw [HG.out]; exact hst.2.1, by rw [HS.out]; exact hst.2.2⟩
set_option maxHeartbeats 8000000 in
set_option maxRecDepth 100000 in
theorem group_Do_k2 (g : Grp) (A : Option Addr) (c : Nat) (pg pk : Int) (pl : List Ent) (pht phv phc pix ptm : Int) (pm ph : Bool) (Ap : Option Addr) (cp : Nat) (w : World) (h : Rd w A c g.l) (hp : Rd w Ap cp pl) (hl : g.l.length + pl.length ≤ 4398046511104) (h4 : pk = 2) (hc : chwG g ⟨pg, pk, pl, pht, phv, phc, pix, ptm, pm, ph⟩ = 0) :
    Calls Try.prog 22 #[vG g A c, vP ⟨pg, pk, pl, pht, phv, phc, pix, ptm, pm, ph⟩ Ap cp] w (GotT w (dwG g ⟨pg, pk, pl, pht, phv, phc, pix, ptm, pm, ph⟩) (chwG g ⟨pg, pk, pl, pht, phv, phc, pix, ptm, pm, ph⟩)) := by
  subst h4
  have HG : Aside0 (dwG g ⟨pg, 2, pl, pht, phv, phc, pix, ptm, pm, ph⟩ = ⟨g.id, g.fi, g.tm, pht, phv, phc, g.l⟩) := ⟨by rw [dwG, if_pos hc]; rfl⟩
  have HCK := Aside0.mk hc
  clear hc
  have HT0 := Aside0.mk (Two.new g A c ⟨pg, 2, pl, pht, phv, phc, pix, ptm, pm, ph⟩ Ap cp w h hp)
  have HLN := Aside0.mk hl
  clear h hp hl
  unfold vG vP
  go_enter Try.func22, Try.ntmps22
  obtain ⟨C, hC⟩ : ∃ C, (match Try.f22.body with | some (.seq _ c) => c | _ => .skip) = C := ⟨_, rfl⟩
  have HC := Aside0.mk hC
  simp only [Try.f22] at hC
  rw [hC]
  clear hC
  go_wp2
  obtain ⟨s, hs⟩ : ∃ s, w.heap.size = s := ⟨_, rfl⟩
  have HT1 := HT0.out
  rw [hs] at HT1 ⊢
  obtain ⟨W, hW⟩ : ∃ W, (((w.alloc (.cells #[.int .i64 g.id, .int .i64 g.fi, .int .i64 g.tm, .int .i64 g.ht, .int .i64 g.hv, .int .i64 g.hc, .slice A g.l.length c] 26)).alloc (.cells #[.int .i64 pg, .int .i64 2, .slice Ap pl.length cp, .int .i64 pht, .int .i64 phv, .int .i64 phc, .int .i64 pix, .int .i64 ptm, .bool pm, .bool ph] 28)).alloc (.cells #[.int .i64 0, .int .i64 0, .int .i64 0, .int .i64 0, .int .i64 0, .int .i64 0, .slice none 0 0] 26)) = W := ⟨_, rfl⟩
  rw [hW] at HT1 ⊢
  have HT := Aside0.mk HT1
  have HS := Aside0.mk hs
  have hC := HC.out
  simp only [Try.f22] at hC
  subst hC
  clear HC
  clear hW HT1 HT0 hs
  obtain ⟨C17, hC17⟩ : ∃ C, (match Try.f22.body with | some (.seq _ (.seq _ (.seq _ c))) => c | _ => .skip) = C := ⟨_, rfl⟩
  have HC17 := Aside0.mk hC17
  simp only [Try.f22] at hC17
  rw [hC17]
  clear hC17
  obtain ⟨e0, e1, e2, e3, e4, e5, e6⟩ := HT.out.bg.box
  obtain ⟨p0, p1, p2, p3, p4, p5, p6, p7, p8, p9⟩ := HT.out.bp.box
  go_wp2_with (first | (go_at_call 24; refine (gchk_calls g A c ⟨pg, 2, pl, pht, phv, phc, pix, ptm, pm, ph⟩ Ap cp _ HT.out.rg HT.out.rp HCK.out).mono ?_; rintro e w2 ⟨rfl, hw2⟩; have HT2 := Aside0.mk (HT.out.below hw2); clear hw2; clear e0 e1 e2 e3 e4 e5 e6 p0 p1 p2 p3 p4 p5 p6 p7 p8 p9; obtain ⟨e0, e1, e2, e3, e4, e5, e6⟩ := HT2.out.bg.box; obtain ⟨p0, p1, p2, p3, p4, p5, p6, p7, p8, p9⟩ := HT2.out.bp.box; have ef := HT2.out.bg.free) | fail)
  have hx := only_hard pht phv phc s w2
  have hb := HT2.out.bg.hard pht phv phc
  have hr := Rd.only HT2.out.rg hx (fun q hq h => by have h2 : q = s := h; have := HT2.out.ag q hq; omega)
  have hz := HT2.out.bz.only hx (fun h => by have h2 : s + 2 = s := h; omega)
  have hbe := HT2.out.b.trans (hx.below (by have := HT2.out.sz; omega) (fun q hq h => by have h2 : q = s := h; omega))
  obtain ⟨W7, hW7⟩ : ∃ W7, (((w2.setCell ⟨s, 3, none⟩ (.int .i64 pht)).setCell ⟨s, 4, none⟩ (.int .i64 phv)).setCell ⟨s, 5, none⟩ (.int .i64 phc)) = W7 := ⟨_, rfl⟩
  rw [hW7] at hx hb hr hz hbe ⊢
  clear hx hW7 e0 e1 e2 e3 e4 e5 e6 p0 p1 p2 p3 p4 p5 p6 p7 p8 p9 ef
  have HZ := Aside0.mk hz
  have HRD7 := Aside0.mk hr
  have HB7 := Aside0.mk hbe
  have HSZ : Aside0 (s ≤ W7.heap.size) := ⟨by have := hb.lt; omega⟩
  obtain ⟨e0, e1, e2, e3, e4, e5, e6⟩ := hb.box
  obtain ⟨z0, z1, z2, z3, z4, z5, z6⟩ := hz.box
  have zf := hz.free
  try dsimp only at e0 e1 e2 e3 e4 e5 e6
  clear hb hr hz hbe
  have hC17 := HC17.out
  simp only [Try.f22] at hC17
  subst hC17
  clear HC17
  go_wp2
  have hst := stored (r := ⟨g.id, g.fi, g.tm, pht, phv, phc, g.l⟩) (A' := A) (c' := c) HZ.out HRD7.out HB7.out (Nat.le_add_right s 2) HSZ.out
  obtain ⟨r0, r1, r2, r3, r4, r5, r6⟩ := hst.1.box
  try dsimp only at r0 r1 r2 r3 r4 r5 r6
  refine bodyPost_ret (v := .tuple #[vG ⟨g.id, g.fi, g.tm, pht, phv, phc, g.l⟩ A c, .int .i64 0]) (by simp [results, Try.results22, go_sem, vG, r0, r1, r2, r3, r4, r5, r6]) rfl ⟨A, c, by rw [HG.out, HCK.out], by rw [HG.out]; exact hst.2.1, by rw [HS.out]; exact hst.2.2⟩
set_option maxHeartbeats 8000000 in
set_option maxRecDepth 100000 in
theorem group_Do_k1 (g : Grp) (A : Option Addr) (c : Nat) (pg pk : Int) (pl : List Ent) (pht phv phc pix ptm : Int) (pm ph : Bool) (Ap : Option Addr) (cp : Nat) (w : World) (h : Rd w A c g.l) (hp : Rd w Ap cp pl) (hl : g.l.length + pl.length ≤ 4398046511104) (h4 : pk = 1) (hc : chwG g ⟨pg, pk, pl, pht, phv, phc, pix, ptm, pm, ph⟩ = 0) :
    Calls Try.prog 22 #[vG g A c, vP ⟨pg, pk, pl, pht, phv, phc, pix, ptm, pm, ph⟩ Ap cp] w (GotT w (dwG g ⟨pg, pk, pl, pht, phv, phc, pix, ptm, pm, ph⟩) (chwG g ⟨pg, pk, pl, pht, phv, phc, pix, ptm, pm, ph⟩)) := by
  subst h4
  have HG : Aside0 (dwG g ⟨pg, 1, pl, pht, phv, phc, pix, ptm, pm, ph⟩ = ⟨g.id, g.fi, g.tm, g.ht, g.hv, g.hc, (withL g.l g.fi (el pl 0).f0) ++ pl⟩) := ⟨by rw [dwG, if_pos hc]; rfl⟩
  have hne : 0 < pl.length := prt_ne (chw_ok hc).1 rfl
  have HNE := Aside0.mk hne
  obtain ⟨ad, rfl, _⟩ := hp.at_ hne
  have hne2 : (0 : Int) < (pl.length : Int) := by omega
  have HLN3 : Aside0 ((withL g.l g.fi (el pl 0).f0).length ≤ 4398046511104) := ⟨Nat.le_trans (List.length_filter_le _ _) (by omega)⟩
  have HLN5 : Aside0 ((withL g.l g.fi (el pl 0).f0).length + pl.length ≤ 4398046511104) := ⟨by have a1 : (withL g.l g.fi (el pl 0).f0).length ≤ g.l.length := List.length_filter_le _ _; omega⟩
  clear hne
  have HCK := Aside0.mk hc
  clear hc
  have HT0 := Aside0.mk (Two.new g A c ⟨pg, 1, pl, pht, phv, phc, pix, ptm, pm, ph⟩ (some ad) cp w h hp)
  have HLN := Aside0.mk hl
  clear h hp hl
  unfold vG vP
  go_enter Try.func22, Try.ntmps22
  obtain ⟨C, hC⟩ : ∃ C, (match Try.f22.body with | some (.seq _ c) => c | _ => .skip) = C := ⟨_, rfl⟩
  have HC := Aside0.mk hC
  simp only [Try.f22] at hC
  rw [hC]
  clear hC
  go_wp2
  obtain ⟨s, hs⟩ : ∃ s, w.heap.size = s := ⟨_, rfl⟩
  have HT1 := HT0.out
  rw [hs] at HT1 ⊢
  obtain ⟨W, hW⟩ : ∃ W, (((w.alloc (.cells #[.int .i64 g.id, .int .i64 g.fi, .int .i64 g.tm, .int .i64 g.ht, .int .i64 g.hv, .int .i64 g.hc, .slice A g.l.length c] 26)).alloc (.cells #[.int .i64 pg, .int .i64 1, .slice (some ad) pl.length cp, .int .i64 pht, .int .i64 phv, .int .i64 phc, .int .i64 pix, .int .i64 ptm, .bool pm, .bool ph] 28)).alloc (.cells #[.int .i64 0, .int .i64 0, .int .i64 0, .int .i64 0, .int .i64 0, .int .i64 0, .slice none 0 0] 26)) = W := ⟨_, rfl⟩
  rw [hW] at HT1 ⊢
  have HT := Aside0.mk HT1
  have HS := Aside0.mk hs
  have hC := HC.out
  simp only [Try.f22] at hC
  subst hC
  clear HC
  clear hW HT1 HT0 hs
  obtain ⟨C17, hC17⟩ : ∃ C, (match Try.f22.body with | some (.seq _ (.seq _ (.seq _ c))) => c | _ => .skip) = C := ⟨_, rfl⟩
  have HC17 := Aside0.mk hC17
  simp only [Try.f22] at hC17
  rw [hC17]
  clear hC17
  obtain ⟨e0, e1, e2, e3, e4, e5, e6⟩ := HT.out.bg.box
  obtain ⟨p0, p1, p2, p3, p4, p5, p6, p7, p8, p9⟩ := HT.out.bp.box
  go_wp2_with (first | (go_at_call 24; refine (gchk_calls g A c ⟨pg, 1, pl, pht, phv, phc, pix, ptm, pm, ph⟩ (some ad) cp _ HT.out.rg HT.out.rp HCK.out).mono ?_; rintro e w2 ⟨rfl, hw2⟩; have HT2 := Aside0.mk (HT.out.below hw2); clear hw2; clear e0 e1 e2 e3 e4 e5 e6 p0 p1 p2 p3 p4 p5 p6 p7 p8 p9; obtain ⟨e0, e1, e2, e3, e4, e5, e6⟩ := HT2.out.bg.box; obtain ⟨p0, p1, p2, p3, p4, p5, p6, p7, p8, p9⟩ := HT2.out.bp.box; obtain ⟨ad', hq, q0, q1, q2⟩ := HT2.out.rp.at_ (i := 0) HNE.out; cases hq; simp only [ad0] at q0 q1 q2) | fail)
  have hne := HNE.out
  have HRg := Aside0.mk (Rd.drew HT2.out.rg)
  have HRp := Aside0.mk (Rd.drew HT2.out.rp)
  have HHE : Aside0 ((fun w' => w'.cell? ⟨s, 0, none⟩ = some (.int .i64 g.id) ∧ w'.cell? ⟨s, 1, none⟩ = some (.int .i64 g.fi) ∧ w'.cell? ⟨s, 2, none⟩ = some (.int .i64 g.tm) ∧ w'.cell? ⟨s, 3, none⟩ = some (.int .i64 g.ht) ∧ w'.cell? ⟨s, 4, none⟩ = some (.int .i64 g.hv) ∧ w'.cell? ⟨s, 5, none⟩ = some (.int .i64 g.hc) ∧ w'.cell? ⟨s, 6, none⟩ = some (.slice A g.l.length c) ∧ w'.cell? ⟨s + 1, 2, none⟩ = some (.slice (some ad) pl.length cp) ∧ w'.cell? ad = some (.int .i64 (el pl 0).f0)) w2) := ⟨⟨e0, e1, e2, e3, e4, e5, e6, p2, q0⟩⟩
  refine start_ (n := 15) (S := (fun w' => w'.cell? ⟨s, 0, none⟩ = some (.int .i64 g.id) ∧ w'.cell? ⟨s, 1, none⟩ = some (.int .i64 g.fi) ∧ w'.cell? ⟨s, 2, none⟩ = some (.int .i64 g.tm) ∧ w'.cell? ⟨s, 3, none⟩ = some (.int .i64 g.ht) ∧ w'.cell? ⟨s, 4, none⟩ = some (.int .i64 g.hv) ∧ w'.cell? ⟨s, 5, none⟩ = some (.int .i64 g.hc) ∧ w'.cell? ⟨s, 6, none⟩ = some (.slice A g.l.length c) ∧ w'.cell? ⟨s + 1, 2, none⟩ = some (.slice (some ad) pl.length cp) ∧ w'.cell? ad = some (.int .i64 (el pl 0).f0))) (ds := [14]) #[false, false, false, false, false, false, false, false, false, false, false, false, false, false, false] (by kernel_rfl) rfl rfl ⟨e0, e1, e2, e3, e4, e5, e6, p2, q0⟩ (fun hHeld => ?_)
  clear e0 e1 e2 e3 e4 e5 e6 p0 p1 p2 p3 p4 p5 p6 p7 p8 p9 q0 q1 q2
  refine take_ (i := 0) (N := some 20) (v := ?_) (a' := ?_) #[true,false,false,false,false,false,false,false,false,false,false,false,false,false,false] rfl rfl (by kernel_rfl) (fun _ _ _ h => h) (Or.inl ⟨by rfl, ?_⟩) hHeld ?_ ?_
  rotate_left
  · rintro w' ⟨e0, e1, e2, e3, e4, e5, e6, p2, q0⟩
    go_simp
    try with_reducible rfl
  rotate_left
  · simp only [Act.put, sA, sB, sC]
    rfl
  refine pure_ (i := 1) (N := some 21) (v := ?_) (a' := ?_) #[true,true,false,false,false,false,false,false,false,false,false,false,false,false,false] rfl rfl (by kernel_rfl) (fun _ _ _ h => h) (Or.inl ⟨by rfl, ?_⟩) ?_ ?_
  rotate_left
  · intro w'
    go_simp
    try with_reducible rfl
  rotate_left
  · simp only [Act.put, sA, sB, sC]
    rfl
  refine take_ (i := 2) (N := some 22) (v := ?_) (a' := ?_) #[true,true,true,false,false,false,false,false,false,false,false,false,false,false,false] rfl rfl (by kernel_rfl) (fun _ _ _ h => h) (Or.inl ⟨by rfl, ?_⟩) hHeld ?_ ?_
  rotate_left
  · rintro w' ⟨e0, e1, e2, e3, e4, e5, e6, p2, q0⟩
    go_simp
    try with_reducible rfl
  rotate_left
  · simp only [Act.put, sA, sB, sC]
    rfl
  refine pure_ (i := 3) (N := some 23) (v := ?_) (a' := ?_) #[true,true,true,true,false,false,false,false,false,false,false,false,false,false,false] rfl rfl (by kernel_rfl) (fun _ _ _ h => h) (Or.inl ⟨by rfl, ?_⟩) ?_ ?_
  rotate_left
  · intro w'
    go_simp
    try with_reducible rfl
  rotate_left
  · simp only [Act.put, sA, sB, sC]
    rfl
  refine take_ (i := 4) (N := some 24) (v := ?_) (a' := ?_) #[true,true,true,true,true,false,false,false,false,false,false,false,false,false,false] rfl rfl (by kernel_rfl) (fun _ _ _ h => h) (Or.inl ⟨by rfl, ?_⟩) hHeld ?_ ?_
  rotate_left
  · rintro w' ⟨e0, e1, e2, e3, e4, e5, e6, p2, q0⟩
    go_simp
    try with_reducible rfl
  rotate_left
  · simp only [Act.put, sA, sB, sC]
    rfl
  refine pure_ (i := 5) (N := some 25) (v := ?_) (a' := ?_) #[true,true,true,true,true,true,false,false,false,false,false,false,false,false,false] rfl rfl (by kernel_rfl) (fun _ _ _ h => h) (Or.inl ⟨by rfl, ?_⟩) ?_ ?_
  rotate_left
  · intro w'
    go_simp
    try with_reducible rfl
  rotate_left
  · simp only [Act.put, sA, sB, sC]
    rfl
  refine pure_ (i := 6) (N := some 26) (v := ?_) (a' := ?_) #[true,true,true,true,true,true,true,false,false,false,false,false,false,false,false] rfl rfl (by kernel_rfl) (fun _ _ _ h => h) (Or.inl ⟨by rfl, ?_⟩) ?_ ?_
  rotate_left
  · intro w'
    go_simp
    try with_reducible rfl
  rotate_left
  · simp only [Act.put, sA, sB, sC]
    rfl
  refine take_ (i := 7) (N := some 27) (v := ?_) (a' := ?_) #[true,true,true,true,true,true,true,true,false,false,false,false,false,false,false] rfl rfl (by kernel_rfl) (fun _ _ _ h => h) (Or.inl ⟨by rfl, ?_⟩) hHeld ?_ ?_
  rotate_left
  · rintro w' ⟨e0, e1, e2, e3, e4, e5, e6, p2, q0⟩
    go_simp
    try with_reducible rfl
  rotate_left
  · simp only [Act.put, sA, sB, sC]
    rfl
  refine pure_ (i := 10) (N := some 30) (v := ?_) (a' := ?_) #[true,true,true,true,true,true,true,true,false,false,true,false,false,false,false] rfl rfl (by kernel_rfl) (fun _ _ _ h => h) (Or.inl ⟨by rfl, ?_⟩) ?_ ?_
  rotate_left
  · intro w'
    go_simp
    try with_reducible rfl
  rotate_left
  · simp only [Act.put, sA, sB, sC]
    rfl
  refine take_ (i := 11) (N := some 31) (v := ?_) (a' := ?_) #[true,true,true,true,true,true,true,true,false,false,true,true,false,false,false] rfl rfl (by kernel_rfl) (fun _ _ _ h => h) (Or.inl ⟨by rfl, ?_⟩) hHeld ?_ ?_
  rotate_left
  · rintro w' ⟨e0, e1, e2, e3, e4, e5, e6, p2, q0⟩
    go_simp
    try with_reducible rfl
  rotate_left
  · simp only [Act.put, sA, sB, sC]
    rfl
  refine one_ (i := 8) (N := some 28) #[true,true,true,true,true,true,true,true,true,false,true,true,false,false,false] rfl rfl (by kernel_rfl) (by decide) (fun K hK => ?_)
  go_simp
  refine (within_seq g A c g.fi (el pl 0).f0 _ HRg.out).mono ?_; rintro e w3 ⟨lb, R, rfl, hit, hR, hw3⟩; have HIT := Aside0.mk hit; have HRR := Aside0.mk hR; have HW3 := Aside0.mk hw3; clear hit hR hw3
  refine hK.out _ _ ?_ (fun hHeld => ?_)
  · obtain ⟨e0, e1, e2, e3, e4, e5, e6, p2, q0⟩ := hHeld; exact ⟨(HW3.out.cell (World.block_lt_of_cell? _ _ e0)).trans e0, (HW3.out.cell (World.block_lt_of_cell? _ _ e1)).trans e1, (HW3.out.cell (World.block_lt_of_cell? _ _ e2)).trans e2, (HW3.out.cell (World.block_lt_of_cell? _ _ e3)).trans e3, (HW3.out.cell (World.block_lt_of_cell? _ _ e4)).trans e4, (HW3.out.cell (World.block_lt_of_cell? _ _ e5)).trans e5, (HW3.out.cell (World.block_lt_of_cell? _ _ e6)).trans e6, (HW3.out.cell (World.block_lt_of_cell? _ _ p2)).trans p2, (HW3.out.cell (World.block_lt_of_cell? _ _ q0)).trans q0⟩
  clear hK K
  try simp only [Act.put, sA, sB, sC]
  refine one_ (i := 9) (N := some 29) #[true,true,true,true,true,true,true,true,true,true,true,true,false,false,false] rfl rfl (by kernel_rfl) (by decide) (fun K hK => ?_)
  go_simp
  refine (collect_seq HIT.out HRR.out HLN3.out).mono ?_; rintro e w4 ⟨v1, rfl, ho, hw4⟩; obtain ⟨A1, c1, rfl, hrd, hfr⟩ := ho.rd' HLN3.out; have HO3 := Aside0.mk ho; have HW4 := Aside0.mk hw4; clear ho hrd hfr hw4
  refine hK.out _ _ ?_ (fun hHeld => ?_)
  · obtain ⟨e0, e1, e2, e3, e4, e5, e6, p2, q0⟩ := hHeld; exact ⟨(HW4.out.cell (World.block_lt_of_cell? _ _ e0)).trans e0, (HW4.out.cell (World.block_lt_of_cell? _ _ e1)).trans e1, (HW4.out.cell (World.block_lt_of_cell? _ _ e2)).trans e2, (HW4.out.cell (World.block_lt_of_cell? _ _ e3)).trans e3, (HW4.out.cell (World.block_lt_of_cell? _ _ e4)).trans e4, (HW4.out.cell (World.block_lt_of_cell? _ _ e5)).trans e5, (HW4.out.cell (World.block_lt_of_cell? _ _ e6)).trans e6, (HW4.out.cell (World.block_lt_of_cell? _ _ p2)).trans p2, (HW4.out.cell (World.block_lt_of_cell? _ _ q0)).trans q0⟩
  clear hK K
  try simp only [Act.put, sA, sB, sC]
  refine one_ (i := 12) (N := some 32) #[true,true,true,true,true,true,true,true,true,true,true,true,true,false,false] rfl rfl (by kernel_rfl) (by decide) (fun K hK => ?_)
  rw [if_pos (by rfl)]
  refine wp_append_ent (l := (withL g.l g.fi (el pl 0).f0)) (m := pl) (b := w3.heap.size) (.tmp 29) (.tmp 31) rfl rfl HO3.out rfl ((HRp.out.below HW3.out).below HW4.out) HLN5.out (by have := HW4.out.size; simp at *; omega) ?_
  intro v5 w5 ho5 hg5 ha5; obtain ⟨L, hL⟩ : ∃ L, (withL g.l g.fi (el pl 0).f0) ++ pl = L := ⟨_, rfl⟩; have HLL : Aside0 (L.length ≤ 4398046511104) := ⟨by rw [← hL, List.length_append]; exact HLN5.out⟩; rw [hL] at ho5 HG; clear hL; have hsz3 : w2.heap.size ≤ w3.heap.size := HW3.out.size; have hon : Only (fun q => w2.heap.size ≤ q) w2 w5 := (((only_below (U := fun q => w2.heap.size ≤ q) (below_drew (Below.refl w2.heap.size w2))).trans ((only_below HW3.out).trans (only_below HW4.out)))).of_grown hg5 (fun k hk _ => Nat.le_trans hsz3 (own_block HO3.out hk).1); have HON := Aside0.mk hon; obtain ⟨A5, c5, rfl, hrd5, hfr5⟩ := ho5.rd' HLL.out; have HRD5 := Aside0.mk hrd5; clear ho5 hg5 ha5 hon hrd5 hfr5 hsz3
  refine hK.out _ _ ?_ (fun hHeld => ?_)
  · obtain ⟨e0, e1, e2, e3, e4, e5, e6, p2, q0⟩ := HHE.out; exact ⟨HON.out.cell e0 (by intro h; have h2 : w2.heap.size ≤ s := h; have := HT2.out.sz; omega), HON.out.cell e1 (by intro h; have h2 : w2.heap.size ≤ s := h; have := HT2.out.sz; omega), HON.out.cell e2 (by intro h; have h2 : w2.heap.size ≤ s := h; have := HT2.out.sz; omega), HON.out.cell e3 (by intro h; have h2 : w2.heap.size ≤ s := h; have := HT2.out.sz; omega), HON.out.cell e4 (by intro h; have h2 : w2.heap.size ≤ s := h; have := HT2.out.sz; omega), HON.out.cell e5 (by intro h; have h2 : w2.heap.size ≤ s := h; have := HT2.out.sz; omega), HON.out.cell e6 (by intro h; have h2 : w2.heap.size ≤ s := h; have := HT2.out.sz; omega), HON.out.cell p2 (by intro h; have h2 : w2.heap.size ≤ s + 1 := h; have := HT2.out.sz; omega), HON.out.cell q0 (by intro h; have h2 : w2.heap.size ≤ ad.block := h; have := World.block_lt_of_cell? _ _ q0; omega)⟩
  clear hK K
  try simp only [Act.put, sA, sB, sC]
  have hg6 := HT2.out.bg.only HON.out (by intro h; have h2 : w2.heap.size ≤ s := h; have := HT2.out.sz; omega)
  have HZ6 := Aside0.mk (HT2.out.bz.only HON.out (by intro h; have h2 : w2.heap.size ≤ s + 2 := h; have := HT2.out.sz; omega))
  have HB6 : Aside0 (Below s w w5) := Aside0.mk (HT2.out.b.trans (HON.out.below (by have := HT2.out.sz; omega) (fun q hq h => by have h2 : w2.heap.size ≤ q := h; have := HT2.out.sz; omega)))
  have ef := hg6.free
  obtain ⟨e0, e1, e2, e3, e4, e5, e6⟩ := hg6.box
  have HG6 := Aside0.mk hg6
  clear hg6
  refine pure_ (i := 13) (N := some 33) (v := ?_) (a' := ?_) #[true,true,true,true,true,true,true,true,true,true,true,true,true,true,false] rfl rfl (by kernel_rfl) (fun _ _ _ h => h) (Or.inl ⟨by rfl, ?_⟩) ?_ ?_
  rotate_left
  · intro w'
    go_simp
    try with_reducible rfl
  rotate_left
  · simp only [Act.put, sA, sB, sC]
    rfl
  refine last_ (i := 14) (N := none) #[true,true,true,true,true,true,true,true,true,true,true,true,true,true,true] rfl rfl (by kernel_rfl) (by decide) (fun K hK => ?_)
  go_simp
  refine hK.out _ _ ?_
  clear hK K
  try simp only [Act.put, sA, sB, sC]
  refine done_ (by kernel_rfl) ?_
  clear hHeld e0 e1 e2 e3 e4 e5 e6 ef
  have hx := (Only.refl (fun q => q = s) w5).setCell (p := ⟨s, 6, none⟩) rfl (.slice A5 L.length c5)
  have hb := HG6.out.setL L A5 c5
  have hr := Rd.only HRD5.out hx (fun q hq h => by have h3 : q = s := h; subst h3; exact Rd.apartG HRD5.out HG6.out hq)
  have hz := HZ6.out.only hx (fun h => by have h2 : s + 2 = s := h; omega)
  have hbe := HB6.out.trans (hx.below (by have := HG6.out.lt; omega) (fun q hq h => by have h2 : q = s := h; omega))
  obtain ⟨W7, hW7⟩ : ∃ W7, w5.setCell ⟨s, 6, none⟩ (.slice A5 L.length c5) = W7 := ⟨_, rfl⟩
  rw [hW7] at hx hb hr hz hbe ⊢
  clear hx hW7
  have HZ := Aside0.mk hz
  have HRD7 := Aside0.mk hr
  have HB7 := Aside0.mk hbe
  have HSZ : Aside0 (s ≤ W7.heap.size) := ⟨by have := hb.lt; omega⟩
  obtain ⟨e0, e1, e2, e3, e4, e5, e6⟩ := hb.box
  obtain ⟨z0, z1, z2, z3, z4, z5, z6⟩ := hz.box
  have zf := hz.free
  try dsimp only at e0 e1 e2 e3 e4 e5 e6
  clear hb hr hz hbe
  have hC17 := HC17.out
  simp only [Try.f22] at hC17
  subst hC17
  clear HC17
  go_wp2
  have hst := stored (r := ⟨g.id, g.fi, g.tm, g.ht, g.hv, g.hc, L⟩) (A' := A5) (c' := c5) HZ.out HRD7.out HB7.out (Nat.le_add_right s 2) HSZ.out
  obtain ⟨r0, r1, r2, r3, r4, r5, r6⟩ := hst.1.box
  try dsimp only at r0 r1 r2 r3 r4 r5 r6
  refine bodyPost_ret (v := .tuple #[vG ⟨g.id, g.fi, g.tm, g.ht, g.hv, g.hc, L⟩ A5 c5, .int .i64 0]) (by simp [results, Try.results22, go_sem, vG, r0, r1, r2, r3, r4, r5, r6]) rfl ⟨A5, c5, by rw [HG.out, HCK.out], by rw [HG.out]; exact hst.2.1, by rw [HS.out]; exact hst.2.2⟩
set_option maxHeartbeats 8000000 in
set_option maxRecDepth 100000 in
theorem group_Do_k3 (g : Grp) (A : Option Addr) (c : Nat) (pg pk : Int) (pl : List Ent) (pht phv phc pix ptm : Int) (pm ph : Bool) (Ap : Option Addr) (cp : Nat) (w : World) (h : Rd w A c g.l) (hp : Rd w Ap cp pl) (hl : g.l.length + pl.length ≤ 4398046511104) (h4 : pk = 3) (hc : chwG g ⟨pg, pk, pl, pht, phv, phc, pix, ptm, pm, ph⟩ = 0) (R : Grp) (hR : goneW g pix (entL g.l pix).f1 = R) :
    Calls Try.prog 22 #[vG g A c, vP ⟨pg, pk, pl, pht, phv, phc, pix, ptm, pm, ph⟩ Ap cp] w (GotT w (dwG g ⟨pg, pk, pl, pht, phv, phc, pix, ptm, pm, ph⟩) (chwG g ⟨pg, pk, pl, pht, phv, phc, pix, ptm, pm, ph⟩)) := by
  subst h4
  have HG : Aside0 (dwG g ⟨pg, 3, pl, pht, phv, phc, pix, ptm, pm, ph⟩ = R) := ⟨by rw [dwG, if_pos hc]; exact hR⟩
  have hix := prt_ix (chw_ok hc).1 (.inl rfl)
  have HIX : Aside0 (0 ≤ pix ∧ pix ≤ 1099511627776) := ⟨by have h1 : 1 ≤ pix := hix.1; have h2 : pix ≤ 1099511627776 := hix.2; omega⟩
  clear hix
  obtain ⟨x, hx⟩ : ∃ x, entL g.l pix = x := ⟨_, rfl⟩
  have HX := Aside0.mk hx
  have hR' : goneW g pix x.f1 = R := by rw [← hx]; exact hR
  have HR := Aside0.mk hR'
  clear hx hR hR'
  have HCK := Aside0.mk hc
  clear hc
  have HT0 := Aside0.mk (Two.new g A c ⟨pg, 3, pl, pht, phv, phc, pix, ptm, pm, ph⟩ Ap cp w h hp)
  have HLN := Aside0.mk hl
  clear h hp hl
  unfold vG vP
  go_enter Try.func22, Try.ntmps22
  obtain ⟨C, hC⟩ : ∃ C, (match Try.f22.body with | some (.seq _ c) => c | _ => .skip) = C := ⟨_, rfl⟩
  have HC := Aside0.mk hC
  simp only [Try.f22] at hC
  rw [hC]
  clear hC
  go_wp2
  obtain ⟨s, hs⟩ : ∃ s, w.heap.size = s := ⟨_, rfl⟩
  have HT1 := HT0.out
  rw [hs] at HT1 ⊢
  obtain ⟨W, hW⟩ : ∃ W, (((w.alloc (.cells #[.int .i64 g.id, .int .i64 g.fi, .int .i64 g.tm, .int .i64 g.ht, .int .i64 g.hv, .int .i64 g.hc, .slice A g.l.length c] 26)).alloc (.cells #[.int .i64 pg, .int .i64 3, .slice Ap pl.length cp, .int .i64 pht, .int .i64 phv, .int .i64 phc, .int .i64 pix, .int .i64 ptm, .bool pm, .bool ph] 28)).alloc (.cells #[.int .i64 0, .int .i64 0, .int .i64 0, .int .i64 0, .int .i64 0, .int .i64 0, .slice none 0 0] 26)) = W := ⟨_, rfl⟩
  rw [hW] at HT1 ⊢
  have HT := Aside0.mk HT1
  have HS := Aside0.mk hs
  have hC := HC.out
  simp only [Try.f22] at hC
  subst hC
  clear HC
  clear hW HT1 HT0 hs
  obtain ⟨C17, hC17⟩ : ∃ C, (match Try.f22.body with | some (.seq _ (.seq _ (.seq _ c))) => c | _ => .skip) = C := ⟨_, rfl⟩
  have HC17 := Aside0.mk hC17
  simp only [Try.f22] at hC17
  rw [hC17]
  clear hC17
  obtain ⟨e0, e1, e2, e3, e4, e5, e6⟩ := HT.out.bg.box
  obtain ⟨p0, p1, p2, p3, p4, p5, p6, p7, p8, p9⟩ := HT.out.bp.box
  go_wp2_with (first | (go_at_call 24; refine (gchk_calls g A c ⟨pg, 3, pl, pht, phv, phc, pix, ptm, pm, ph⟩ Ap cp _ HT.out.rg HT.out.rp HCK.out).mono ?_; rintro e w2 ⟨rfl, hw2⟩; have HT2 := Aside0.mk (HT.out.below hw2); clear hw2; clear e0 e1 e2 e3 e4 e5 e6 p0 p1 p2 p3 p4 p5 p6 p7 p8 p9; obtain ⟨e0, e1, e2, e3, e4, e5, e6⟩ := HT2.out.bg.box; obtain ⟨p0, p1, p2, p3, p4, p5, p6, p7, p8, p9⟩ := HT2.out.bp.box) | (go_at_call 43; refine (group_at g A c pix _ HT2.out.rg (by have := HIX.out.1; omega) (by have := HIX.out.2; omega)).mono ?_; rw [HX.out]; unfold vE; rintro e w3 ⟨rfl, hw3⟩; have HT3 := Aside0.mk (HT2.out.below hw3); clear hw3; clear e0 e1 e2 e3 e4 e5 e6 p0 p1 p2 p3 p4 p5 p6 p7 p8 p9; obtain ⟨e0, e1, e2, e3, e4, e5, e6⟩ := HT3.out.bg.box; obtain ⟨p0, p1, p2, p3, p4, p5, p6, p7, p8, p9⟩ := HT3.out.bp.box; obtain ⟨n0, hn0⟩ : ∃ n, w3.heap.size = n := ⟨_, rfl⟩; have HN0 := Aside0.mk hn0; have HSN : Aside0 (s + 3 ≤ n0) := ⟨(by rw [← hn0]; exact HT3.out.sz)⟩; have l1 : s < n0 := (by have := HSN.out; omega); have l2 : s + 1 < n0 := (by have := HSN.out; omega); have m1 : s ≠ n0 := (by omega); have m2 : s + 1 ≠ n0 := (by omega); have o1 := Ne.symm m1; have o2 := Ne.symm m2; have HT4 := Aside0.mk (HT3.out.below ((Below.refl _ _).alloc (Nat.le_refl _) (.cells #[.int .i64 x.f0, .int .i64 x.f1, .string x.f2] 55)))) | (go_at_call 44; refine (gone_calls g A c pix x.f1 _ HT4.out.rg HIX.out.1 HIX.out.2 HR.out).mono ?_; rintro e w5 ⟨A1, c1, rfl, hrd, hw5⟩; have HRD5 := Aside0.mk hrd; have HT5 := Aside0.mk (HT4.out.below hw5); clear hrd hw5; clear e0 e1 e2 e3 e4 e5 e6 p0 p1 p2 p3 p4 p5 p6 p7 p8 p9; obtain ⟨e0, e1, e2, e3, e4, e5, e6⟩ := HT5.out.bg.box; have ef := HT5.out.bg.free) | fail)
  have hx := only_store R A1 c1 s w5
  have hb := BlkG.store (g := R) (A := A1) (c := c1) HT5.out.bg
  have hr := Rd.only HRD5.out hx (fun q hq h => by have h3 : q = s := h; subst h3; exact Rd.apartG HRD5.out HT5.out.bg hq)
  have hz := HT5.out.bz.only hx (fun h => by have h2 : s + 2 = s := h; omega)
  have hbe := HT5.out.b.trans (hx.below (by have := HT5.out.sz; omega) (fun q hq h => by have h2 : q = s := h; omega))
  obtain ⟨W7, hW7⟩ : ∃ W7, (((((((w5.setCell ⟨s, 0, none⟩ (.int .i64 R.id)).setCell ⟨s, 1, none⟩ (.int .i64 R.fi)).setCell ⟨s, 2, none⟩ (.int .i64 R.tm)).setCell ⟨s, 3, none⟩ (.int .i64 R.ht)).setCell ⟨s, 4, none⟩ (.int .i64 R.hv)).setCell ⟨s, 5, none⟩ (.int .i64 R.hc)).setCell ⟨s, 6, none⟩ (.slice A1 R.l.length c1)) = W7 := ⟨_, rfl⟩
  rw [hW7] at hx hb hr hz hbe ⊢
  clear hx hW7 e0 e1 e2 e3 e4 e5 e6 ef
  have HZ := Aside0.mk hz
  have HRD7 := Aside0.mk hr
  have HB7 := Aside0.mk hbe
  have HSZ : Aside0 (s ≤ W7.heap.size) := ⟨by have := hb.lt; omega⟩
  obtain ⟨e0, e1, e2, e3, e4, e5, e6⟩ := hb.box
  obtain ⟨z0, z1, z2, z3, z4, z5, z6⟩ := hz.box
  have zf := hz.free
  try dsimp only at e0 e1 e2 e3 e4 e5 e6
  clear hb hr hz hbe
  have hC17 := HC17.out
  simp only [Try.f22] at hC17
  subst hC17
  clear HC17
  go_wp2
  have hst := stored (r := R) (A' := A1) (c' := c1) HZ.out HRD7.out HB7.out (Nat.le_add_right s 2) HSZ.out
  obtain ⟨r0, r1, r2, r3, r4, r5, r6⟩ := hst.1.box
  try dsimp only at r0 r1 r2 r3 r4 r5 r6
  refine bodyPost_ret (v := .tuple #[vG R A1 c1, .int .i64 0]) (by simp [results, Try.results22, go_sem, vG, r0, r1, r2, r3, r4, r5, r6]) rfl ⟨A1, c1, by rw [HG.out, HCK.out], by rw [HG.out]; exact hst.2.1, by rw [HS.out]; exact hst.2.2⟩
set_option maxHeartbeats 8000000 in
set_option maxRecDepth 100000 in
theorem group_Do_k4a (g : Grp) (A : Option Addr) (c : Nat) (pg pk : Int) (pl : List Ent) (pht phv phc pix ptm : Int) (pm ph : Bool) (Ap : Option Addr) (cp : Nat) (w : World) (h : Rd w A c g.l) (hp : Rd w Ap cp pl) (hl : g.l.length + pl.length ≤ 4398046511104) (h4 : pk = 4) (hc : chwG g ⟨pg, pk, pl, pht, phv, phc, pix, ptm, pm, ph⟩ = 0) (hf : fitsB g pix ptm = true) (R : Grp) (hR : goneW g pix ptm = R) :
    Calls Try.prog 22 #[vG g A c, vP ⟨pg, pk, pl, pht, phv, phc, pix, ptm, pm, ph⟩ Ap cp] w (GotT w (dwG g ⟨pg, pk, pl, pht, phv, phc, pix, ptm, pm, ph⟩) (chwG g ⟨pg, pk, pl, pht, phv, phc, pix, ptm, pm, ph⟩)) := by
  subst h4
  have HG : Aside0 (dwG g ⟨pg, 4, pl, pht, phv, phc, pix, ptm, pm, ph⟩ = R) := ⟨by rw [dwG, if_pos hc]; show goneW (if fitsB g pix ptm = true then g else noEnt g) pix ptm = R; rw [if_pos hf]; exact hR⟩
  have hix := prt_ix (chw_ok hc).1 (.inr (.inl rfl))
  have HIX : Aside0 (0 ≤ pix ∧ pix ≤ 1099511627776) := ⟨by have h1 : 1 ≤ pix := hix.1; have h2 : pix ≤ 1099511627776 := hix.2; omega⟩
  clear hix
  have HF := Aside0.mk hf
  have HR := Aside0.mk hR
  clear hf hR
  have HCK := Aside0.mk hc
  clear hc
  have HT0 := Aside0.mk (Two.new g A c ⟨pg, 4, pl, pht, phv, phc, pix, ptm, pm, ph⟩ Ap cp w h hp)
  have HLN := Aside0.mk hl
  clear h hp hl
  unfold vG vP
  go_enter Try.func22, Try.ntmps22
  obtain ⟨C, hC⟩ : ∃ C, (match Try.f22.body with | some (.seq _ c) => c | _ => .skip) = C := ⟨_, rfl⟩
  have HC := Aside0.mk hC
  simp only [Try.f22] at hC
  rw [hC]
  clear hC
  go_wp2
  obtain ⟨s, hs⟩ : ∃ s, w.heap.size = s := ⟨_, rfl⟩
  have HT1 := HT0.out
  rw [hs] at HT1 ⊢
  obtain ⟨W, hW⟩ : ∃ W, (((w.alloc (.cells #[.int .i64 g.id, .int .i64 g.fi, .int .i64 g.tm, .int .i64 g.ht, .int .i64 g.hv, .int .i64 g.hc, .slice A g.l.length c] 26)).alloc (.cells #[.int .i64 pg, .int .i64 4, .slice Ap pl.length cp, .int .i64 pht, .int .i64 phv, .int .i64 phc, .int .i64 pix, .int .i64 ptm, .bool pm, .bool ph] 28)).alloc (.cells #[.int .i64 0, .int .i64 0, .int .i64 0, .int .i64 0, .int .i64 0, .int .i64 0, .slice none 0 0] 26)) = W := ⟨_, rfl⟩
  rw [hW] at HT1 ⊢
  have HT := Aside0.mk HT1
  have HS := Aside0.mk hs
  have hC := HC.out
  simp only [Try.f22] at hC
  subst hC
  clear HC
  clear hW HT1 HT0 hs
  obtain ⟨C17, hC17⟩ : ∃ C, (match Try.f22.body with | some (.seq _ (.seq _ (.seq _ c))) => c | _ => .skip) = C := ⟨_, rfl⟩
  have HC17 := Aside0.mk hC17
  simp only [Try.f22] at hC17
  rw [hC17]
  clear hC17
  obtain ⟨e0, e1, e2, e3, e4, e5, e6⟩ := HT.out.bg.box
  obtain ⟨p0, p1, p2, p3, p4, p5, p6, p7, p8, p9⟩ := HT.out.bp.box
  go_wp2_with (first | (go_at_call 24; refine (gchk_calls g A c ⟨pg, 4, pl, pht, phv, phc, pix, ptm, pm, ph⟩ Ap cp _ HT.out.rg HT.out.rp HCK.out).mono ?_; rintro e w2 ⟨rfl, hw2⟩; have HT2 := Aside0.mk (HT.out.below hw2); clear hw2; clear e0 e1 e2 e3 e4 e5 e6 p0 p1 p2 p3 p4 p5 p6 p7 p8 p9; obtain ⟨e0, e1, e2, e3, e4, e5, e6⟩ := HT2.out.bg.box; obtain ⟨p0, p1, p2, p3, p4, p5, p6, p7, p8, p9⟩ := HT2.out.bp.box) | (go_at_call 45; refine (group_fits g A c pix ptm _ HT2.out.rg (by have := HIX.out.1; omega) (by have := HIX.out.2; omega) HF.out).mono ?_; rintro e w3 ⟨rfl, hw3⟩; have HT3 := Aside0.mk (HT2.out.below hw3); clear hw3; clear e0 e1 e2 e3 e4 e5 e6 p0 p1 p2 p3 p4 p5 p6 p7 p8 p9; obtain ⟨e0, e1, e2, e3, e4, e5, e6⟩ := HT3.out.bg.box; obtain ⟨p0, p1, p2, p3, p4, p5, p6, p7, p8, p9⟩ := HT3.out.bp.box; have ef := HT3.out.bg.free) | (clear ef; (go_at_call 44; refine (gone_calls g A c pix ptm _ HT3.out.rg HIX.out.1 HIX.out.2 HR.out).mono ?_; rintro e w5 ⟨A1, c1, rfl, hrd, hw5⟩; have HRD5 := Aside0.mk hrd; have HT5 := Aside0.mk (HT3.out.below hw5); clear hrd hw5; clear e0 e1 e2 e3 e4 e5 e6 p0 p1 p2 p3 p4 p5 p6 p7 p8 p9; obtain ⟨e0, e1, e2, e3, e4, e5, e6⟩ := HT5.out.bg.box; have ef := HT5.out.bg.free)) | fail)
  have hx := only_store R A1 c1 s w5
  have hb := BlkG.store (g := R) (A := A1) (c := c1) HT5.out.bg
  have hr := Rd.only HRD5.out hx (fun q hq h => by have h3 : q = s := h; subst h3; exact Rd.apartG HRD5.out HT5.out.bg hq)
  have hz := HT5.out.bz.only hx (fun h => by have h2 : s + 2 = s := h; omega)
  have hbe := HT5.out.b.trans (hx.below (by have := HT5.out.sz; omega) (fun q hq h => by have h2 : q = s := h; omega))
  obtain ⟨W7, hW7⟩ : ∃ W7, (((((((w5.setCell ⟨s, 0, none⟩ (.int .i64 R.id)).setCell ⟨s, 1, none⟩ (.int .i64 R.fi)).setCell ⟨s, 2, none⟩ (.int .i64 R.tm)).setCell ⟨s, 3, none⟩ (.int .i64 R.ht)).setCell ⟨s, 4, none⟩ (.int .i64 R.hv)).setCell ⟨s, 5, none⟩ (.int .i64 R.hc)).setCell ⟨s, 6, none⟩ (.slice A1 R.l.length c1)) = W7 := ⟨_, rfl⟩
  rw [hW7] at hx hb hr hz hbe ⊢
  clear hx hW7 e0 e1 e2 e3 e4 e5 e6 ef
  have HZ := Aside0.mk hz
  have HRD7 := Aside0.mk hr
  have HB7 := Aside0.mk hbe
  have HSZ : Aside0 (s ≤ W7.heap.size) := ⟨by have := hb.lt; omega⟩
  obtain ⟨e0, e1, e2, e3, e4, e5, e6⟩ := hb.box
  obtain ⟨z0, z1, z2, z3, z4, z5, z6⟩ := hz.box
  have zf := hz.free
  try dsimp only at e0 e1 e2 e3 e4 e5 e6
  clear hb hr hz hbe
  have hC17 := HC17.out
  simp only [Try.f22] at hC17
  subst hC17
  clear HC17
  go_wp2
  have hst := stored (r := R) (A' := A1) (c' := c1) HZ.out HRD7.out HB7.out (Nat.le_add_right s 2) HSZ.out
  obtain ⟨r0, r1, r2, r3, r4, r5, r6⟩ := hst.1.box
  try dsimp only at r0 r1 r2 r3 r4 r5 r6
  refine bodyPost_ret (v := .tuple #[vG R A1 c1, .int .i64 0]) (by simp [results, Try.results22, go_sem, vG, r0, r1, r2, r3, r4, r5, r6]) rfl ⟨A1, c1, by rw [HG.out, HCK.out], by rw [HG.out]; exact hst.2.1, by rw [HS.out]; exact hst.2.2⟩
set_option maxHeartbeats 8000000 in
set_option maxRecDepth 100000 in
theorem group_Do_k4b (g : Grp) (A : Option Addr) (c : Nat) (pg pk : Int) (pl : List Ent) (pht phv phc pix ptm : Int) (pm ph : Bool) (Ap : Option Addr) (cp : Nat) (w : World) (h : Rd w A c g.l) (hp : Rd w Ap cp pl) (hl : g.l.length + pl.length ≤ 4398046511104) (h4 : pk = 4) (hc : chwG g ⟨pg, pk, pl, pht, phv, phc, pix, ptm, pm, ph⟩ = 0) (hf : fitsB g pix ptm = false) (R : Grp) (hR : goneW (noEnt g) pix ptm = R) :
    Calls Try.prog 22 #[vG g A c, vP ⟨pg, pk, pl, pht, phv, phc, pix, ptm, pm, ph⟩ Ap cp] w (GotT w (dwG g ⟨pg, pk, pl, pht, phv, phc, pix, ptm, pm, ph⟩) (chwG g ⟨pg, pk, pl, pht, phv, phc, pix, ptm, pm, ph⟩)) := by
  subst h4
  have HG : Aside0 (dwG g ⟨pg, 4, pl, pht, phv, phc, pix, ptm, pm, ph⟩ = R) := ⟨by rw [dwG, if_pos hc]; show goneW (if fitsB g pix ptm = true then g else noEnt g) pix ptm = R; rw [if_neg (by rw [hf]; decide)]; exact hR⟩
  have hix := prt_ix (chw_ok hc).1 (.inr (.inl rfl))
  have HIX : Aside0 (0 ≤ pix ∧ pix ≤ 1099511627776) := ⟨by have h1 : 1 ≤ pix := hix.1; have h2 : pix ≤ 1099511627776 := hix.2; omega⟩
  clear hix
  have HF := Aside0.mk hf
  have HR := Aside0.mk hR
  clear hf hR
  have HCK := Aside0.mk hc
  clear hc
  have HT0 := Aside0.mk (Two.new g A c ⟨pg, 4, pl, pht, phv, phc, pix, ptm, pm, ph⟩ Ap cp w h hp)
  have HLN := Aside0.mk hl
  clear h hp hl
  unfold vG vP
  go_enter Try.func22, Try.ntmps22
  obtain ⟨C, hC⟩ : ∃ C, (match Try.f22.body with | some (.seq _ c) => c | _ => .skip) = C := ⟨_, rfl⟩
  have HC := Aside0.mk hC
  simp only [Try.f22] at hC
  rw [hC]
  clear hC
  go_wp2
  obtain ⟨s, hs⟩ : ∃ s, w.heap.size = s := ⟨_, rfl⟩
  have HT1 := HT0.out
  rw [hs] at HT1 ⊢
  obtain ⟨W, hW⟩ : ∃ W, (((w.alloc (.cells #[.int .i64 g.id, .int .i64 g.fi, .int .i64 g.tm, .int .i64 g.ht, .int .i64 g.hv, .int .i64 g.hc, .slice A g.l.length c] 26)).alloc (.cells #[.int .i64 pg, .int .i64 4, .slice Ap pl.length cp, .int .i64 pht, .int .i64 phv, .int .i64 phc, .int .i64 pix, .int .i64 ptm, .bool pm, .bool ph] 28)).alloc (.cells #[.int .i64 0, .int .i64 0, .int .i64 0, .int .i64 0, .int .i64 0, .int .i64 0, .slice none 0 0] 26)) = W := ⟨_, rfl⟩
  rw [hW] at HT1 ⊢
  have HT := Aside0.mk HT1
  have HS := Aside0.mk hs
  have hC := HC.out
  simp only [Try.f22] at hC
  subst hC
  clear HC
  clear hW HT1 HT0 hs
  obtain ⟨C17, hC17⟩ : ∃ C, (match Try.f22.body with | some (.seq _ (.seq _ (.seq _ c))) => c | _ => .skip) = C := ⟨_, rfl⟩
  have HC17 := Aside0.mk hC17
  simp only [Try.f22] at hC17
  rw [hC17]
  clear hC17
  obtain ⟨e0, e1, e2, e3, e4, e5, e6⟩ := HT.out.bg.box
  obtain ⟨p0, p1, p2, p3, p4, p5, p6, p7, p8, p9⟩ := HT.out.bp.box
  obtain ⟨C15, hC15⟩ : ∃ C, (match Try.f22.body with | some (.seq _ (.seq _ (.seq (.seq _ (.block _ (.seq _ (.cond _ _ (.seq _ (.cond _ _ (.seq _ (.cond _ _ (.seq _ (.cond _ (.seq _ c) _)))))))))) _))) => c | _ => .skip) = C := ⟨_, rfl⟩
  have HC15 := Aside0.mk hC15
  simp only [Try.f22] at hC15
  rw [hC15]
  clear hC15
  go_wp2_with (first | (go_at_call 24; refine (gchk_calls g A c ⟨pg, 4, pl, pht, phv, phc, pix, ptm, pm, ph⟩ Ap cp _ HT.out.rg HT.out.rp HCK.out).mono ?_; rintro e w2 ⟨rfl, hw2⟩; have HT2 := Aside0.mk (HT.out.below hw2); clear hw2; clear e0 e1 e2 e3 e4 e5 e6 p0 p1 p2 p3 p4 p5 p6 p7 p8 p9; obtain ⟨e0, e1, e2, e3, e4, e5, e6⟩ := HT2.out.bg.box; obtain ⟨p0, p1, p2, p3, p4, p5, p6, p7, p8, p9⟩ := HT2.out.bp.box) | (go_at_call 45; refine (group_fits g A c pix ptm _ HT2.out.rg (by have := HIX.out.1; omega) (by have := HIX.out.2; omega) HF.out).mono ?_; rintro e w3 ⟨rfl, hw3⟩; have HT3 := Aside0.mk (HT2.out.below hw3); clear hw3; clear e0 e1 e2 e3 e4 e5 e6 p0 p1 p2 p3 p4 p5 p6 p7 p8 p9; obtain ⟨e0, e1, e2, e3, e4, e5, e6⟩ := HT3.out.bg.box; obtain ⟨p0, p1, p2, p3, p4, p5, p6, p7, p8, p9⟩ := HT3.out.bp.box; have ef := HT3.out.bg.free) | fail)
  have hx := (Only.refl (fun q => q = s) w3).setCell (p := ⟨s, 6, none⟩) rfl (.slice none 0 0)
  have hb := HT3.out.bg.setL [] none 0
  simp only [List.length_nil] at hb
  have hz := HT3.out.bz.only hx (fun h => by have h2 : s + 2 = s := h; omega)
  have hp := BlkP.only HT3.out.bp hx (fun h => by have h2 : s + 1 = s := h; omega)
  have hbe := HT3.out.b.trans (hx.below (by have := HT3.out.sz; omega) (fun q hq h => by have h2 : q = s := h; omega))
  have hrp := Rd.only HT3.out.rp hx (fun q hq h => by have h2 : q = s := h; have := HT3.out.ap q hq; omega)
  have hsz : s + 3 ≤ (w3.setCell ⟨s, 6, none⟩ (.slice none 0 0)).heap.size := Nat.le_trans HT3.out.sz hx.size
  obtain ⟨W4, hW4⟩ : ∃ W4, w3.setCell ⟨s, 6, none⟩ (.slice none 0 0) = W4 := ⟨_, rfl⟩
  rw [hW4] at hx hb hz hp hbe hrp hsz ⊢
  have HT4 : Aside0 (Two (noEnt g) none 0 ⟨pg, 4, pl, pht, phv, phc, pix, ptm, pm, ph⟩ Ap cp s w W4) := ⟨⟨HS.out, hb, hp, hz, Rd.nil _, hrp, (fun b hb => by obtain ⟨_, _, h3, _⟩ := hb; cases h3), HT3.out.ap, hbe, hsz⟩⟩
  clear hx hb hz hp hbe hrp hsz hW4 e0 e1 e2 e3 e4 e5 e6 p0 p1 p2 p3 p4 p5 p6 p7 p8 p9 ef
  obtain ⟨e0, e1, e2, e3, e4, e5, e6⟩ := HT4.out.bg.box
  obtain ⟨p0, p1, p2, p3, p4, p5, p6, p7, p8, p9⟩ := HT4.out.bp.box
  dsimp only [noEnt, List.length_nil] at e0 e1 e2 e3 e4 e5 e6
  have hC15 := HC15.out
  simp only [Try.f22] at hC15
  subst hC15
  clear HC15
  go_wp2_with (first | (go_at_call 44; refine (gone_calls (noEnt g) none 0 pix ptm _ HT4.out.rg HIX.out.1 HIX.out.2 HR.out).mono ?_; rintro e w5 ⟨A1, c1, rfl, hrd, hw5⟩; have HRD5 := Aside0.mk hrd; have HT5 := Aside0.mk (HT4.out.below hw5); clear hrd hw5; clear e0 e1 e2 e3 e4 e5 e6 p0 p1 p2 p3 p4 p5 p6 p7 p8 p9; obtain ⟨e0, e1, e2, e3, e4, e5, e6⟩ := HT5.out.bg.box; have ef := HT5.out.bg.free) | fail)
  have hx := only_store R A1 c1 s w5
  have hb := BlkG.store (g := R) (A := A1) (c := c1) HT5.out.bg
  have hr := Rd.only HRD5.out hx (fun q hq h => by have h3 : q = s := h; subst h3; exact Rd.apartG HRD5.out HT5.out.bg hq)
  have hz := HT5.out.bz.only hx (fun h => by have h2 : s + 2 = s := h; omega)
  have hbe := HT5.out.b.trans (hx.below (by have := HT5.out.sz; omega) (fun q hq h => by have h2 : q = s := h; omega))
  obtain ⟨W7, hW7⟩ : ∃ W7, (((((((w5.setCell ⟨s, 0, none⟩ (.int .i64 R.id)).setCell ⟨s, 1, none⟩ (.int .i64 R.fi)).setCell ⟨s, 2, none⟩ (.int .i64 R.tm)).setCell ⟨s, 3, none⟩ (.int .i64 R.ht)).setCell ⟨s, 4, none⟩ (.int .i64 R.hv)).setCell ⟨s, 5, none⟩ (.int .i64 R.hc)).setCell ⟨s, 6, none⟩ (.slice A1 R.l.length c1)) = W7 := ⟨_, rfl⟩
  rw [hW7] at hx hb hr hz hbe ⊢
  clear hx hW7 e0 e1 e2 e3 e4 e5 e6 ef
  have HZ := Aside0.mk hz
  have HRD7 := Aside0.mk hr
  have HB7 := Aside0.mk hbe
  have HSZ : Aside0 (s ≤ W7.heap.size) := ⟨by have := hb.lt; omega⟩
  obtain ⟨e0, e1, e2, e3, e4, e5, e6⟩ := hb.box
  obtain ⟨z0, z1, z2, z3, z4, z5, z6⟩ := hz.box
  have zf := hz.free
  try dsimp only at e0 e1 e2 e3 e4 e5 e6
  clear hb hr hz hbe
  have hC17 := HC17.out
  simp only [Try.f22] at hC17
  subst hC17
  clear HC17
  go_wp2
  have hst := stored (r := R) (A' := A1) (c' := c1) HZ.out HRD7.out HB7.out (Nat.le_add_right s 2) HSZ.out
  obtain ⟨r0, r1, r2, r3, r4, r5, r6⟩ := hst.1.box
  try dsimp only at r0 r1 r2 r3 r4 r5 r6
  refine bodyPost_ret (v := .tuple #[vG R A1 c1, .int .i64 0]) (by simp [results, Try.results22, go_sem, vG, r0, r1, r2, r3, r4, r5, r6]) rfl ⟨A1, c1, by rw [HG.out, HCK.out], by rw [HG.out]; exact hst.2.1, by rw [HS.out]; exact hst.2.2⟩
theorem group_Do (g : Grp) (A : Option Addr) (c : Nat) (p : Prt) (Ap : Option Addr) (cp : Nat) (w : World) (h : Rd w A c g.l) (hp : Rd w Ap cp p.l) (hl : g.l.length + p.l.length ≤ 4398046511104) :
    Calls Try.prog 22 #[vG g A c, vP p Ap cp] w (GotT w (dwG g p) (chwG g p)) := by
  obtain ⟨pg, pk, pl, pht, phv, phc, pix, ptm, pm, ph⟩ := p
  by_cases hc : chwG g ⟨pg, pk, pl, pht, phv, phc, pix, ptm, pm, ph⟩ = 0
  · obtain ⟨h1, k6, k5, _, _⟩ := chw_ok hc
    rcases prt_kind h1 with h4 | h4 | h4 | h4 | h4 | h4
    · exact group_Do_k1 g A c pg pk pl pht phv phc pix ptm pm ph Ap cp w h hp hl h4 hc
    · exact group_Do_k2 g A c pg pk pl pht phv phc pix ptm pm ph Ap cp w h hp hl h4 hc
    · exact group_Do_k3 g A c pg pk pl pht phv phc pix ptm pm ph Ap cp w h hp hl h4 hc _ rfl
    · cases hf : fitsB g pix ptm with
      | true => exact group_Do_k4a g A c pg pk pl pht phv phc pix ptm pm ph Ap cp w h hp hl h4 hc hf _ rfl
      | false => exact group_Do_k4b g A c pg pk pl pht phv phc pix ptm pm ph Ap cp w h hp hl h4 hc hf _ rfl
    · exact absurd h4 k5
    · exact absurd h4 k6
  · exact group_Do_no g A c pg pk pl pht phv phc pix ptm pm ph Ap cp w h hp hl _ rfl hc
end Go.Proofs.Ytlfdmlacadoolaa.PartW
