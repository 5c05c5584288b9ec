/- The walk of the reference's Do, of a part that may be done. -/
import Derived.Test.YtlfdmlacadoolaaLast
set_option linter.unusedVariables false
set_option linter.unusedSimpArgs false
namespace Go.Proofs.Ytlfdmlacadoolaa.Sp
open Go Go.RowKit Go.Proofs.Ytlfdmlacadoolaa.A Go.Proofs.Ytlfdmlacadoolaa.Seq Go.Proofs.YtlfdmlacadoolaaW.PrintWords Go.Proofs.YtlfdmlacadoolaaW.PrintLast Go.Proofs.YtlfdmlacadoolaaW.PrintMore
/-- what the reference's Do makes, of what may be done -/
def doRG (g : Grp) (p : Prt) : Grp :=
 if p.k = 1 then ⟨g.id, g.fi, g.tm, g.ht, g.hv, g.hc, belowL g.l (el p.l 0).f0 ++ p.l⟩
 else if p.k = 2 then ⟨g.id, g.fi, g.tm, p.ht, p.hv, p.hc, g.l⟩
 else if p.k = 3 then ⟨g.id, p.ix + 1, termL g.l p.ix, g.ht, g.hv, g.hc, fromL g.l (p.ix + 1)⟩
 else if p.k = 4 then ⟨g.id, p.ix + 1, p.tm, g.ht, g.hv, g.hc, if 0 ≤ atL g.l p.ix ∧ termL g.l p.ix = p.tm then fromL g.l (p.ix + 1) else []⟩
 else g
/-- when it can be done -/
def canR (g : Grp) (p : Prt) : Prop := (p.k = 1 ∧ 0 < p.l.length) ∨ p.k = 2 ∨ (p.k = 3 ∧ 0 ≤ atL g.l p.ix ∧ 0 ≤ p.ix ∧ p.ix ≤ 1099511627776) ∨ (p.k = 4 ∧ 0 ≤ p.ix ∧ p.ix ≤ 1099511627776)
end Go.Proofs.Ytlfdmlacadoolaa.Sp
namespace Go.Proofs.Ytlfdmlacadoolaa.PartW
open Go Go.RowKit Go.Shelf Go.Proofs.Ytlfdmlacadoolaa.A Go.Proofs.Ytlfdmlacadoolaa.Sp Go.Proofs.Ytlfdmlacadoolaa.Reg Go.Proofs.Ytlfdmlacadoolaa.Seq Go.Proofs.YtlfdmlacadoolaaW.PrintWords Go.Proofs.YtlfdmlacadoolaaW.PrintLast Go.Proofs.YtlfdmlacadoolaaW.PrintMore
theorem atv_calls (g : Grp) (A : Option Addr) (c : Nat) (i : Int) (w : World) (h : Rd w A c g.l) {v : Int} (hv : atL g.l i = v) : Calls Try.prog 47 #[vG g A c, .int .i64 i] w fun e w' => e = .returned (.int .i64 v) ∧ Below w.heap.size w w' := by
 rw [← hv]; exact ref_At g A c i w h
theorem BlkG.lay {g : Grp} {A : Option Addr} {c B : Nat} {W : World} (h : BlkG g A c B W) (l : List Ent) (A' : Option Addr) (c' : Nat) (i : Int) : BlkG ⟨g.id, i + 1, g.tm, g.ht, g.hv, g.hc, l⟩ A' c' B ((W.setCell ⟨B, 6, none⟩ (.slice A' l.length c')).setCell ⟨B, 1, none⟩ (.int .i64 (i + 1))) := by
 unfold BlkG at h ⊢
 simp [World.setCell, Array.getElem?_modify, h]
theorem BlkG.lay2 {g : Grp} {A : Option Addr} {c B : Nat} {W : World} (h : BlkG g A c B W) (i t : Int) : BlkG ⟨g.id, i + 1, t, g.ht, g.hv, g.hc, g.l⟩ A c B ((W.setCell ⟨B, 1, none⟩ (.int .i64 (i + 1))).setCell ⟨B, 2, none⟩ (.int .i64 t)) := by
 unfold BlkG at h ⊢
 simp [World.setCell, Array.getElem?_modify, h]
set_option maxHeartbeats 8000000 in
set_option maxRecDepth 100000 in
theorem ref_Do6_k2 (g : Grp) (A : Option Addr) (c : Nat) (pg pk : Int) (pl : List Ent) (pht phv phc pix ptm : Int) (pm ph : Bool) (Ap : Option Addr) (cp : Nat) (w : World) (h : Rd w A c g.l) (hp : Rd w Ap cp pl) (hl : g.l.length + pl.length ≤ 4398046511104) (h4 : pk = 2) :
   Calls Try.prog 23 #[vG g A c, vP ⟨pg, pk, pl, pht, phv, phc, pix, ptm, pm, ph⟩ Ap cp] w (GotG w (doRG g ⟨pg, pk, pl, pht, phv, phc, pix, ptm, pm, ph⟩)) := by
 subst h4
 have HG : Aside0 (doRG g ⟨pg, 2, pl, pht, phv, phc, pix, ptm, pm, ph⟩ = ⟨g.id, g.fi, g.tm, pht, phv, phc, g.l⟩) := ⟨rfl⟩
 have HT0 := Aside0.mk (Two.new g A c ⟨pg, 2, pl, pht, phv, phc, pix, ptm, pm, ph⟩ Ap cp w h hp)
 have HLN := Aside0.mk hl
 clear h hp hl
 unfold vG vP
 go_enter Try.func23, Try.ntmps23
 obtain ⟨C, hC⟩ : ∃ C, (match Try.f23.body with | some (.seq _ c) => c | _ => .skip) = C := ⟨_, rfl⟩
 have HC := Aside0.mk hC
 simp only [Try.f23] at hC
 rw [hC]
 clear hC
 go_wp2
 obtain ⟨s, hs⟩ : ∃ s, w.heap.size = s := ⟨_, rfl⟩
 have HT1 := HT0.out
 rw [hs] at HT1 ⊢
 obtain ⟨W, hW⟩ : ∃ W, (((w.alloc (.cells #[.int .i64 g.id, .int .i64 g.fi, .int .i64 g.tm, .int .i64 g.ht, .int .i64 g.hv, .int .i64 g.hc, .slice A g.l.length c] 26)).alloc (.cells #[.int .i64 pg, .int .i64 2, .slice Ap pl.length cp, .int .i64 pht, .int .i64 phv, .int .i64 phc, .int .i64 pix, .int .i64 ptm, .bool pm, .bool ph] 28)).alloc (.cells #[.int .i64 0, .int .i64 0, .int .i64 0, .int .i64 0, .int .i64 0, .int .i64 0, .slice none 0 0] 26)) = W := ⟨_, rfl⟩
 rw [hW] at HT1 ⊢
 have HT := Aside0.mk HT1
 have HS := Aside0.mk hs
 have hC := HC.out
 simp only [Try.f23] at hC
 subst hC
 clear HC
 clear hW HT1 HT0 hs
 obtain ⟨C3, hC3⟩ : ∃ C, (match Try.f23.body with | some (.seq _ (.seq _ c)) => c | _ => .skip) = C := ⟨_, rfl⟩
 have HC3 := Aside0.mk hC3
 simp only [Try.f23] at hC3
 rw [hC3]
 clear hC3
 obtain ⟨e0, e1, e2, e3, e4, e5, e6⟩ := HT.out.bg.box
 obtain ⟨p0, p1, p2, p3, p4, p5, p6, p7, p8, p9⟩ := HT.out.bp.box
 obtain ⟨z0, z1, z2, z3, z4, z5, z6⟩ := HT.out.bz.box
 have zf := HT.out.bz.free
 have hgn := BlkG.new g A c W
 obtain ⟨n0, hn0⟩ : ∃ n, W.heap.size = n := ⟨_, rfl⟩
 have HN0 := Aside0.mk hn0
 have HSN : Aside0 (s + 3 ≤ n0) := ⟨by rw [← hn0]; exact HT.out.sz⟩
 have l1 : s < n0 := by have := HSN.out; omega
 have l2 : s + 1 < n0 := by have := HSN.out; omega
 have l3 : s + 2 < n0 := by have := HSN.out; omega
 have m1 : s ≠ n0 := by omega
 have m2 : s + 1 ≠ n0 := by omega
 have m3 : s + 2 ≠ n0 := by omega
 have o1 := Ne.symm m1
 have o2 := Ne.symm m2
 have o3 := Ne.symm m3
 rw [hn0] at hgn
 have HGN := Aside0.mk hgn
 have HTA := Aside0.mk (HT.out.below ((Below.refl _ _).alloc (Nat.le_refl _) (.cells #[.int .i64 g.id, .int .i64 g.fi, .int .i64 g.tm, .int .i64 g.ht, .int .i64 g.hv, .int .i64 g.hc, .slice A g.l.length c] 26)))
 clear hgn
 go_wp2
 obtain ⟨W3, hW3⟩ : ∃ W3, W.alloc (.cells #[.int .i64 g.id, .int .i64 g.fi, .int .i64 g.tm, .int .i64 g.ht, .int .i64 g.hv, .int .i64 g.hc, .slice A g.l.length c] 26) = W3 := ⟨_, rfl⟩
 rw [hW3] at HTA HGN ⊢
 clear hW3 hn0 e0 e1 e2 e3 e4 e5 e6 p0 p1 p2 p3 p4 p5 p6 p7 p8 p9 z0 z1 z2 z3 z4 z5 z6 zf
 have hC3 := HC3.out
 simp only [Try.f23] at hC3
 subst hC3
 clear HC3
 obtain ⟨C17, hC17⟩ : ∃ C, (match Try.f23.body with | some (.seq _ (.seq _ (.seq _ c))) => c | _ => .skip) = C := ⟨_, rfl⟩
 have HC17 := Aside0.mk hC17
 simp only [Try.f23] at hC17
 rw [hC17]
 clear hC17
 obtain ⟨e0, e1, e2, e3, e4, e5, e6⟩ := HTA.out.bg.box
 obtain ⟨p0, p1, p2, p3, p4, p5, p6, p7, p8, p9⟩ := HTA.out.bp.box
 obtain ⟨y0, y1, y2, y3, y4, y5, y6⟩ := HGN.out.box
 have yf := HGN.out.free
 go_wp2
 have hx := only_hard pht phv phc n0 W3
 have hb := HGN.out.hard pht phv phc
 obtain ⟨W4, hW4⟩ : ∃ W4, (((W3.setCell ⟨n0, 3, none⟩ (.int .i64 pht)).setCell ⟨n0, 4, none⟩ (.int .i64 phv)).setCell ⟨n0, 5, none⟩ (.int .i64 phc)) = W4 := ⟨_, rfl⟩
 rw [hW4] at hx hb ⊢
 have HT4 := Aside0.mk (HTA.out.only hx (fun q hq h => by have h2 : q = n0 := h; have := HSN.out; omega))
 have HG4 := Aside0.mk hb
 clear hx hb hW4 e0 e1 e2 e3 e4 e5 e6 p0 p1 p2 p3 p4 p5 p6 p7 p8 p9 y0 y1 y2 y3 y4 y5 y6 yf
 obtain ⟨e0, e1, e2, e3, e4, e5, e6⟩ := HT4.out.bg.box
 obtain ⟨p0, p1, p2, p3, p4, p5, p6, p7, p8, p9⟩ := HT4.out.bp.box
 obtain ⟨z0, z1, z2, z3, z4, z5, z6⟩ := HT4.out.bz.box
 have zf := HT4.out.bz.free
 obtain ⟨y0, y1, y2, y3, y4, y5, y6⟩ := HG4.out.box
 have yf := HG4.out.free
 dsimp only at y0 y1 y2 y3 y4 y5 y6
 have hC17 := HC17.out
 simp only [Try.f23] at hC17
 subst hC17
 clear HC17
 go_wp2
 have hst := stored (r := ⟨g.id, g.fi, g.tm, pht, phv, phc, g.l⟩) (A' := A) (c' := c) HT4.out.bz HT4.out.rg HT4.out.b (Nat.le_add_right s 2) (by have := HT4.out.b.size; have := HS.out; omega)
 try simp only [List.length_nil] at hst
 obtain ⟨r0, r1, r2, r3, r4, r5, r6⟩ := hst.1.box
 try dsimp only at r0 r1 r2 r3 r4 r5 r6
 refine bodyPost_ret (v := vG ⟨g.id, g.fi, g.tm, pht, phv, phc, g.l⟩ A c) (by simp [results, Try.results23, go_sem, vG, r0, r1, r2, r3, r4, r5, r6]) rfl ⟨A, c, by rw [HG.out], by rw [HG.out]; exact hst.2.1, by rw [HS.out]; exact hst.2.2⟩
set_option maxHeartbeats 8000000 in
set_option maxRecDepth 100000 in
theorem ref_Do6_k1 (g : Grp) (A : Option Addr) (c : Nat) (pg pk : Int) (pl : List Ent) (pht phv phc pix ptm : Int) (pm ph : Bool) (Ap : Option Addr) (cp : Nat) (w : World) (h : Rd w A c g.l) (hp : Rd w Ap cp pl) (hl : g.l.length + pl.length ≤ 4398046511104) (h4 : pk = 1) (hne : 0 < pl.length) :
   Calls Try.prog 23 #[vG g A c, vP ⟨pg, pk, pl, pht, phv, phc, pix, ptm, pm, ph⟩ Ap cp] w (GotG w (doRG g ⟨pg, pk, pl, pht, phv, phc, pix, ptm, pm, ph⟩)) := by
 subst h4
 have HG : Aside0 (doRG g ⟨pg, 1, pl, pht, phv, phc, pix, ptm, pm, ph⟩ = ⟨g.id, g.fi, g.tm, g.ht, g.hv, g.hc, (belowL g.l (el pl 0).f0) ++ pl⟩) := ⟨rfl⟩
 have HNE := Aside0.mk hne
 have HLN3 : Aside0 ((belowL g.l (el pl 0).f0).length ≤ 4398046511104) := ⟨Nat.le_trans (List.length_filter_le _ _) (by omega)⟩
 have HLN5 : Aside0 ((belowL g.l (el pl 0).f0).length + pl.length ≤ 4398046511104) := ⟨by have a1 : (belowL g.l (el pl 0).f0).length ≤ g.l.length := List.length_filter_le _ _; omega⟩
 clear hne
 have HT0 := Aside0.mk (Two.new g A c ⟨pg, 1, pl, pht, phv, phc, pix, ptm, pm, ph⟩ Ap cp w h hp)
 have HLN := Aside0.mk hl
 clear h hp hl
 unfold vG vP
 go_enter Try.func23, Try.ntmps23
 obtain ⟨C, hC⟩ : ∃ C, (match Try.f23.body with | some (.seq _ c) => c | _ => .skip) = C := ⟨_, rfl⟩
 have HC := Aside0.mk hC
 simp only [Try.f23] at hC
 rw [hC]
 clear hC
 go_wp2
 obtain ⟨s, hs⟩ : ∃ s, w.heap.size = s := ⟨_, rfl⟩
 have HT1 := HT0.out
 rw [hs] at HT1 ⊢
 obtain ⟨W, hW⟩ : ∃ W, (((w.alloc (.cells #[.int .i64 g.id, .int .i64 g.fi, .int .i64 g.tm, .int .i64 g.ht, .int .i64 g.hv, .int .i64 g.hc, .slice A g.l.length c] 26)).alloc (.cells #[.int .i64 pg, .int .i64 1, .slice Ap pl.length cp, .int .i64 pht, .int .i64 phv, .int .i64 phc, .int .i64 pix, .int .i64 ptm, .bool pm, .bool ph] 28)).alloc (.cells #[.int .i64 0, .int .i64 0, .int .i64 0, .int .i64 0, .int .i64 0, .int .i64 0, .slice none 0 0] 26)) = W := ⟨_, rfl⟩
 rw [hW] at HT1 ⊢
 have HT := Aside0.mk HT1
 have HS := Aside0.mk hs
 have hC := HC.out
 simp only [Try.f23] at hC
 subst hC
 clear HC
 clear hW HT1 HT0 hs
 obtain ⟨C3, hC3⟩ : ∃ C, (match Try.f23.body with | some (.seq _ (.seq _ c)) => c | _ => .skip) = C := ⟨_, rfl⟩
 have HC3 := Aside0.mk hC3
 simp only [Try.f23] at hC3
 rw [hC3]
 clear hC3
 obtain ⟨e0, e1, e2, e3, e4, e5, e6⟩ := HT.out.bg.box
 obtain ⟨p0, p1, p2, p3, p4, p5, p6, p7, p8, p9⟩ := HT.out.bp.box
 obtain ⟨z0, z1, z2, z3, z4, z5, z6⟩ := HT.out.bz.box
 have zf := HT.out.bz.free
 have hgn := BlkG.new g A c W
 obtain ⟨n0, hn0⟩ : ∃ n, W.heap.size = n := ⟨_, rfl⟩
 have HN0 := Aside0.mk hn0
 have HSN : Aside0 (s + 3 ≤ n0) := ⟨by rw [← hn0]; exact HT.out.sz⟩
 have l1 : s < n0 := by have := HSN.out; omega
 have l2 : s + 1 < n0 := by have := HSN.out; omega
 have l3 : s + 2 < n0 := by have := HSN.out; omega
 have m1 : s ≠ n0 := by omega
 have m2 : s + 1 ≠ n0 := by omega
 have m3 : s + 2 ≠ n0 := by omega
 have o1 := Ne.symm m1
 have o2 := Ne.symm m2
 have o3 := Ne.symm m3
 rw [hn0] at hgn
 have HGN := Aside0.mk hgn
 have HTA := Aside0.mk (HT.out.below ((Below.refl _ _).alloc (Nat.le_refl _) (.cells #[.int .i64 g.id, .int .i64 g.fi, .int .i64 g.tm, .int .i64 g.ht, .int .i64 g.hv, .int .i64 g.hc, .slice A g.l.length c] 26)))
 clear hgn
 go_wp2
 obtain ⟨W3, hW3⟩ : ∃ W3, W.alloc (.cells #[.int .i64 g.id, .int .i64 g.fi, .int .i64 g.tm, .int .i64 g.ht, .int .i64 g.hv, .int .i64 g.hc, .slice A g.l.length c] 26) = W3 := ⟨_, rfl⟩
 rw [hW3] at HTA HGN ⊢
 clear hW3 hn0 e0 e1 e2 e3 e4 e5 e6 p0 p1 p2 p3 p4 p5 p6 p7 p8 p9 z0 z1 z2 z3 z4 z5 z6 zf
 have hC3 := HC3.out
 simp only [Try.f23] at hC3
 subst hC3
 clear HC3
 obtain ⟨C17, hC17⟩ : ∃ C, (match Try.f23.body with | some (.seq _ (.seq _ (.seq _ c))) => c | _ => .skip) = C := ⟨_, rfl⟩
 have HC17 := Aside0.mk hC17
 simp only [Try.f23] at hC17
 rw [hC17]
 clear hC17
 obtain ⟨ad, rfl, q0, q1, q2⟩ := HTA.out.rp.at_ (i := 0) HNE.out
 simp only [ad0] at q0 q1 q2
 obtain ⟨e0, e1, e2, e3, e4, e5, e6⟩ := HTA.out.bg.box
 obtain ⟨p0, p1, p2, p3, p4, p5, p6, p7, p8, p9⟩ := HTA.out.bp.box
 have hne := HNE.out
 have hne2 : (0 : Int) < (pl.length : Int) := by omega
 go_wp2
 have HRg := Aside0.mk (Rd.drew HTA.out.rg)
 have HRp := Aside0.mk (Rd.drew HTA.out.rp)
 have HHE : Aside0 ((fun w' => w'.cell? ⟨s, 6, none⟩ = some (.slice A g.l.length c) ∧ w'.cell? ⟨s + 1, 2, none⟩ = some (.slice (some ad) pl.length cp) ∧ w'.cell? ad = some (.int .i64 (el pl 0).f0)) W3) := ⟨⟨e6, p2, q0⟩⟩
 refine start_ (n := 13) (S := (fun w' => w'.cell? ⟨s, 6, none⟩ = some (.slice A g.l.length c) ∧ w'.cell? ⟨s + 1, 2, none⟩ = some (.slice (some ad) pl.length cp) ∧ w'.cell? ad = some (.int .i64 (el pl 0).f0))) (ds := [12]) #[false, false, false, false, false, false, false, false, false, false, false, false, false] (by kernel_rfl) rfl rfl ⟨e6, p2, q0⟩ (fun hHeld => ?_)
 clear e0 e1 e2 e3 e4 e5 e6 p0 p1 p2 p3 p4 p5 p6 p7 p8 p9 q0 q1 q2
 refine pure_ (i := 0) (N := some 12) (v := ?_) (a' := ?_) #[true,false,false,false,false,false,false,false,false,false,false,false,false] rfl rfl (by kernel_rfl) (fun _ _ _ h => h) (Or.inl ⟨by rfl, ?_⟩) ?_ ?_
 rotate_left
 · intro w'
   go_simp
   try with_reducible rfl
 rotate_left
 · simp only [Act.put, sA, sB, sC]
   rfl
 refine take_ (i := 1) (N := some 13) (v := ?_) (a' := ?_) #[true,true,false,false,false,false,false,false,false,false,false,false,false] rfl rfl (by kernel_rfl) (fun _ _ _ h => h) (Or.inl ⟨by rfl, ?_⟩) hHeld ?_ ?_
 rotate_left
 · rintro w' ⟨s1, s2, s3⟩
   go_simp
   try with_reducible rfl
 rotate_left
 · simp only [Act.put, sA, sB, sC]
   rfl
 refine pure_ (i := 2) (N := some 14) (v := ?_) (a' := ?_) #[true,true,true,false,false,false,false,false,false,false,false,false,false] rfl rfl (by kernel_rfl) (fun _ _ _ h => h) (Or.inl ⟨by rfl, ?_⟩) ?_ ?_
 rotate_left
 · intro w'
   go_simp
   try with_reducible rfl
 rotate_left
 · simp only [Act.put, sA, sB, sC]
   rfl
 refine take_ (i := 3) (N := some 15) (v := ?_) (a' := ?_) #[true,true,true,true,false,false,false,false,false,false,false,false,false] rfl rfl (by kernel_rfl) (fun _ _ _ h => h) (Or.inl ⟨by rfl, ?_⟩) hHeld ?_ ?_
 rotate_left
 · rintro w' ⟨s1, s2, s3⟩
   go_simp
   try with_reducible rfl
 rotate_left
 · simp only [Act.put, sA, sB, sC]
   rfl
 refine pure_ (i := 4) (N := some 16) (v := ?_) (a' := ?_) #[true,true,true,true,true,false,false,false,false,false,false,false,false] rfl rfl (by kernel_rfl) (fun _ _ _ h => h) (Or.inl ⟨by rfl, ?_⟩) ?_ ?_
 rotate_left
 · intro w'
   go_simp
   try with_reducible rfl
 rotate_left
 · simp only [Act.put, sA, sB, sC]
   rfl
 refine pure_ (i := 5) (N := some 17) (v := ?_) (a' := ?_) #[true,true,true,true,true,true,false,false,false,false,false,false,false] rfl rfl (by kernel_rfl) (fun _ _ _ h => h) (Or.inl ⟨by rfl, ?_⟩) ?_ ?_
 rotate_left
 · intro w'
   go_simp
   try with_reducible rfl
 rotate_left
 · simp only [Act.put, sA, sB, sC]
   rfl
 refine take_ (i := 6) (N := some 18) (v := ?_) (a' := ?_) #[true,true,true,true,true,true,true,false,false,false,false,false,false] rfl rfl (by kernel_rfl) (fun _ _ _ h => h) (Or.inl ⟨by rfl, ?_⟩) hHeld ?_ ?_
 rotate_left
 · rintro w' ⟨s1, s2, s3⟩
   go_simp
   try with_reducible rfl
 rotate_left
 · simp only [Act.put, sA, sB, sC]
   rfl
 refine pure_ (i := 8) (N := some 20) (v := ?_) (a' := ?_) #[true,true,true,true,true,true,true,false,true,false,false,false,false] rfl rfl (by kernel_rfl) (fun _ _ _ h => h) (Or.inl ⟨by rfl, ?_⟩) ?_ ?_
 rotate_left
 · intro w'
   go_simp
   try with_reducible rfl
 rotate_left
 · simp only [Act.put, sA, sB, sC]
   rfl
 refine take_ (i := 9) (N := some 21) (v := ?_) (a' := ?_) #[true,true,true,true,true,true,true,false,true,true,false,false,false] rfl rfl (by kernel_rfl) (fun _ _ _ h => h) (Or.inl ⟨by rfl, ?_⟩) hHeld ?_ ?_
 rotate_left
 · rintro w' ⟨s1, s2, s3⟩
   go_simp
   try with_reducible rfl
 rotate_left
 · simp only [Act.put, sA, sB, sC]
   rfl
 refine one_ (i := 7) (N := some 19) #[true,true,true,true,true,true,true,true,true,true,false,false,false] rfl rfl (by kernel_rfl) (by decide) (fun K hK => ?_)
 go_simp
 refine (ref_below g.l A c (el pl 0).f0 _ HRg.out).mono ?_; rintro e w3 ⟨v1, rfl, ho, hw⟩; obtain ⟨A1, c1, rfl, hrd, hfr⟩ := ho.rd' HLN3.out; have HO3 := Aside0.mk ho; have HW3 := Aside0.mk hw; clear ho hrd hfr hw
 refine hK.out _ _ ?_ (fun hHeld => ?_)
 · obtain ⟨s1, s2, s3⟩ := hHeld; exact ⟨(HW3.out.cell (World.block_lt_of_cell? _ _ s1)).trans s1, (HW3.out.cell (World.block_lt_of_cell? _ _ s2)).trans s2, (HW3.out.cell (World.block_lt_of_cell? _ _ s3)).trans s3⟩
 clear hK K
 try simp only [Act.put, sA, sB, sC]
 refine one_ (i := 10) (N := some 22) #[true,true,true,true,true,true,true,true,true,true,true,false,false] rfl rfl (by kernel_rfl) (by decide) (fun K hK => ?_)
 rw [if_pos (by rfl)]
 refine wp_append_ent (l := (belowL g.l (el pl 0).f0)) (m := pl) (b := W3.heap.size) (.tmp 19) (.tmp 21) rfl rfl HO3.out rfl (HRp.out.below HW3.out) HLN5.out (by have := HW3.out.size; simp at *; omega) ?_
 intro v5 w5 ho5 hg5 ha5; obtain ⟨L, hL⟩ : ∃ L, (belowL g.l (el pl 0).f0) ++ pl = L := ⟨_, rfl⟩; have HLL : Aside0 (L.length ≤ 4398046511104) := ⟨by rw [← hL, List.length_append]; exact HLN5.out⟩; rw [hL] at ho5 HG; clear hL; have hon : Only (fun q => W3.heap.size ≤ q) W3 w5 := (((only_below (U := fun q => W3.heap.size ≤ q) (below_drew (Below.refl W3.heap.size W3))).trans (only_below HW3.out))).of_grown hg5 (fun k hk _ => (own_block HO3.out hk).1); have HON := Aside0.mk hon; obtain ⟨A5, c5, rfl, hrd5, hfr5⟩ := ho5.rd' HLL.out; have HRD5 := Aside0.mk hrd5; have HFR5 := Aside0.mk hfr5; clear ho5 hg5 ha5 hon hrd5 hfr5
 refine hK.out _ _ ?_ (fun hHeld => ?_)
 · obtain ⟨s1, s2, s3⟩ := HHE.out; exact ⟨HON.out.cell s1 (by intro h; have h2 : W3.heap.size ≤ s := h; have := HTA.out.sz; omega), HON.out.cell s2 (by intro h; have h2 : W3.heap.size ≤ s + 1 := h; have := HTA.out.sz; omega), HON.out.cell s3 (by intro h; have h2 : W3.heap.size ≤ ad.block := h; have := World.block_lt_of_cell? _ _ s3; omega)⟩
 clear hK K
 try simp only [Act.put, sA, sB, sC]
 have hg6 := HGN.out.only HON.out (fun h => by have h2 : W3.heap.size ≤ n0 := h; have := HGN.out.lt; omega)
 have HT6 := Aside0.mk (HTA.out.only HON.out (fun q hq h => by have h2 : W3.heap.size ≤ q := h; have := HTA.out.sz; omega))
 have yf := hg6.free
 obtain ⟨y0, y1, y2, y3, y4, y5, y6⟩ := hg6.box
 have HG6 := Aside0.mk hg6
 clear hg6
 refine pure_ (i := 11) (N := some 23) (v := ?_) (a' := ?_) #[true,true,true,true,true,true,true,true,true,true,true,true,false] rfl rfl (by kernel_rfl) (fun _ _ _ h => h) (Or.inl ⟨by rfl, ?_⟩) ?_ ?_
 rotate_left
 · intro w'
   go_simp
   try with_reducible rfl
 rotate_left
 · simp only [Act.put, sA, sB, sC]
   rfl
 refine last_ (i := 12) (N := none) #[true,true,true,true,true,true,true,true,true,true,true,true,true] rfl rfl (by kernel_rfl) (by decide) (fun K hK => ?_)
 go_simp
 refine hK.out _ _ ?_
 clear hK K
 try simp only [Act.put, sA, sB, sC]
 refine done_ (by kernel_rfl) ?_
 have hgl := HG6.out.setL L A5 c5
 have hx := (Only.refl (fun q => q = n0) w5).setCell (p := ⟨n0, 6, none⟩) rfl (.slice A5 L.length c5)
 have HT7 := Aside0.mk (HT6.out.only hx (fun q hq h => by have h2 : q = n0 := h; have := HSN.out; omega))
 have HRD7 := Aside0.mk (Rd.only HRD5.out hx (fun q hq h => by have h3 : q = n0 := h; subst h3; exact Rd.apartG HRD5.out HG6.out hq))
 have HG7 := Aside0.mk hgl
 clear hx hgl y0 y1 y2 y3 y4 y5 y6 yf
 obtain ⟨e0, e1, e2, e3, e4, e5, e6⟩ := HT7.out.bg.box
 obtain ⟨p0, p1, p2, p3, p4, p5, p6, p7, p8, p9⟩ := HT7.out.bp.box
 obtain ⟨z0, z1, z2, z3, z4, z5, z6⟩ := HT7.out.bz.box
 have zf := HT7.out.bz.free
 obtain ⟨y0, y1, y2, y3, y4, y5, y6⟩ := HG7.out.box
 have yf := HG7.out.free
 dsimp only at y0 y1 y2 y3 y4 y5 y6
 have hC17 := HC17.out
 simp only [Try.f23] at hC17
 subst hC17
 clear HC17
 go_wp2
 have hst := stored (r := ⟨g.id, g.fi, g.tm, g.ht, g.hv, g.hc, L⟩) (A' := A5) (c' := c5) HT7.out.bz HRD7.out HT7.out.b (Nat.le_add_right s 2) (by have := HT7.out.b.size; have := HS.out; omega)
 try simp only [List.length_nil] at hst
 obtain ⟨r0, r1, r2, r3, r4, r5, r6⟩ := hst.1.box
 try dsimp only at r0 r1 r2 r3 r4 r5 r6
 refine bodyPost_ret (v := vG ⟨g.id, g.fi, g.tm, g.ht, g.hv, g.hc, L⟩ A5 c5) (by simp [results, Try.results23, go_sem, vG, r0, r1, r2, r3, r4, r5, r6]) rfl ⟨A5, c5, by rw [HG.out], by rw [HG.out]; exact hst.2.1, by rw [HS.out]; exact hst.2.2⟩
set_option maxHeartbeats 8000000 in
set_option maxRecDepth 100000 in
theorem ref_Do6_k3 (g : Grp) (A : Option Addr) (c : Nat) (pg pk : Int) (pl : List Ent) (pht phv phc pix ptm : Int) (pm ph : Bool) (Ap : Option Addr) (cp : Nat) (w : World) (h : Rd w A c g.l) (hp : Rd w Ap cp pl) (hl : g.l.length + pl.length ≤ 4398046511104) (h4 : pk = 3) (n : Nat) (hk : atL g.l pix = (n : Int)) (hi0 : 0 ≤ pix) (hi1 : pix ≤ 1099511627776) :
   Calls Try.prog 23 #[vG g A c, vP ⟨pg, pk, pl, pht, phv, phc, pix, ptm, pm, ph⟩ Ap cp] w (GotG w (doRG g ⟨pg, pk, pl, pht, phv, phc, pix, ptm, pm, ph⟩)) := by
 subst h4
 have HG : Aside0 (doRG g ⟨pg, 3, pl, pht, phv, phc, pix, ptm, pm, ph⟩ = ⟨g.id, pix + 1, termL g.l pix, g.ht, g.hv, g.hc, fromL g.l (pix + 1)⟩) := ⟨rfl⟩
 have HIX := Aside0.mk (And.intro hi0 hi1)
 have HK := Aside0.mk hk
 clear hi0 hi1 hk
 have HT0 := Aside0.mk (Two.new g A c ⟨pg, 3, pl, pht, phv, phc, pix, ptm, pm, ph⟩ Ap cp w h hp)
 have HLN := Aside0.mk hl
 clear h hp hl
 unfold vG vP
 go_enter Try.func23, Try.ntmps23
 obtain ⟨C, hC⟩ : ∃ C, (match Try.f23.body with | some (.seq _ c) => c | _ => .skip) = C := ⟨_, rfl⟩
 have HC := Aside0.mk hC
 simp only [Try.f23] at hC
 rw [hC]
 clear hC
 go_wp2
 obtain ⟨s, hs⟩ : ∃ s, w.heap.size = s := ⟨_, rfl⟩
 have HT1 := HT0.out
 rw [hs] at HT1 ⊢
 obtain ⟨W, hW⟩ : ∃ W, (((w.alloc (.cells #[.int .i64 g.id, .int .i64 g.fi, .int .i64 g.tm, .int .i64 g.ht, .int .i64 g.hv, .int .i64 g.hc, .slice A g.l.length c] 26)).alloc (.cells #[.int .i64 pg, .int .i64 3, .slice Ap pl.length cp, .int .i64 pht, .int .i64 phv, .int .i64 phc, .int .i64 pix, .int .i64 ptm, .bool pm, .bool ph] 28)).alloc (.cells #[.int .i64 0, .int .i64 0, .int .i64 0, .int .i64 0, .int .i64 0, .int .i64 0, .slice none 0 0] 26)) = W := ⟨_, rfl⟩
 rw [hW] at HT1 ⊢
 have HT := Aside0.mk HT1
 have HS := Aside0.mk hs
 have hC := HC.out
 simp only [Try.f23] at hC
 subst hC
 clear HC
 clear hW HT1 HT0 hs
 obtain ⟨C3, hC3⟩ : ∃ C, (match Try.f23.body with | some (.seq _ (.seq _ c)) => c | _ => .skip) = C := ⟨_, rfl⟩
 have HC3 := Aside0.mk hC3
 simp only [Try.f23] at hC3
 rw [hC3]
 clear hC3
 obtain ⟨e0, e1, e2, e3, e4, e5, e6⟩ := HT.out.bg.box
 obtain ⟨p0, p1, p2, p3, p4, p5, p6, p7, p8, p9⟩ := HT.out.bp.box
 obtain ⟨z0, z1, z2, z3, z4, z5, z6⟩ := HT.out.bz.box
 have zf := HT.out.bz.free
 have hgn := BlkG.new g A c W
 obtain ⟨n0, hn0⟩ : ∃ n, W.heap.size = n := ⟨_, rfl⟩
 have HN0 := Aside0.mk hn0
 have HSN : Aside0 (s + 3 ≤ n0) := ⟨by rw [← hn0]; exact HT.out.sz⟩
 have l1 : s < n0 := by have := HSN.out; omega
 have l2 : s + 1 < n0 := by have := HSN.out; omega
 have l3 : s + 2 < n0 := by have := HSN.out; omega
 have m1 : s ≠ n0 := by omega
 have m2 : s + 1 ≠ n0 := by omega
 have m3 : s + 2 ≠ n0 := by omega
 have o1 := Ne.symm m1
 have o2 := Ne.symm m2
 have o3 := Ne.symm m3
 rw [hn0] at hgn
 have HGN := Aside0.mk hgn
 have HTA := Aside0.mk (HT.out.below ((Below.refl _ _).alloc (Nat.le_refl _) (.cells #[.int .i64 g.id, .int .i64 g.fi, .int .i64 g.tm, .int .i64 g.ht, .int .i64 g.hv, .int .i64 g.hc, .slice A g.l.length c] 26)))
 clear hgn
 go_wp2
 obtain ⟨W3, hW3⟩ : ∃ W3, W.alloc (.cells #[.int .i64 g.id, .int .i64 g.fi, .int .i64 g.tm, .int .i64 g.ht, .int .i64 g.hv, .int .i64 g.hc, .slice A g.l.length c] 26) = W3 := ⟨_, rfl⟩
 rw [hW3] at HTA HGN ⊢
 clear hW3 hn0 e0 e1 e2 e3 e4 e5 e6 p0 p1 p2 p3 p4 p5 p6 p7 p8 p9 z0 z1 z2 z3 z4 z5 z6 zf
 have hC3 := HC3.out
 simp only [Try.f23] at hC3
 subst hC3
 clear HC3
 obtain ⟨C17, hC17⟩ : ∃ C, (match Try.f23.body with | some (.seq _ (.seq _ (.seq _ c))) => c | _ => .skip) = C := ⟨_, rfl⟩
 have HC17 := Aside0.mk hC17
 simp only [Try.f23] at hC17
 rw [hC17]
 clear hC17
 have h3 := at_some (l := g.l) (i := pix) (by rw [HK.out]; omega)
 rw [HK.out, Int.toNat_natCast] at h3
 obtain ⟨hnl, h3⟩ := h3
 have hnl2 : (n : Int) < (g.l.length : Int) := by omega
 have hn0' : (0 : Int) ≤ (n : Int) := by omega
 obtain ⟨ad, rfl, q0, q1, q2⟩ := HTA.out.rg.at_ hnl
 rw [h3] at q1
 clear h3
 have i0 := HIX.out.1
 have i1 := HIX.out.2
 have hwp : IntKind.i64.wrap (pix + 1) = pix + 1 := by rw [i64_w]; unfold wrap64; omega
 obtain ⟨e0, e1, e2, e3, e4, e5, e6⟩ := HTA.out.bg.box
 obtain ⟨p0, p1, p2, p3, p4, p5, p6, p7, p8, p9⟩ := HTA.out.bp.box
 go_wp2
 have HRg := Aside0.mk (Rd.drew HTA.out.rg)
 refine start_ (n := 11) (S := (fun w' => w'.cell? ⟨s, 0, none⟩ = some (.int .i64 g.id) ∧ w'.cell? ⟨s, 1, none⟩ = some (.int .i64 g.fi) ∧ w'.cell? ⟨s, 2, none⟩ = some (.int .i64 g.tm) ∧ w'.cell? ⟨s, 3, none⟩ = some (.int .i64 g.ht) ∧ w'.cell? ⟨s, 4, none⟩ = some (.int .i64 g.hv) ∧ w'.cell? ⟨s, 5, none⟩ = some (.int .i64 g.hc) ∧ w'.cell? ⟨s, 6, none⟩ = some (.slice (some ad) g.l.length c) ∧ w'.cell? ⟨s + 1, 6, none⟩ = some (.int .i64 pix) ∧ w'.cell? ⟨(ad.add (n * 3)).block, (ad.add (n * 3)).off + 1, none⟩ = some (.int .i64 (termL g.l pix)))) (ds := [10]) #[false, false, false, false, false, false, false, false, false, false, false] (by kernel_rfl) rfl rfl ⟨e0, e1, e2, e3, e4, e5, e6, p6, q1⟩ (fun hHeld => ?_)
 clear e0 e1 e2 e3 e4 e5 e6 p0 p1 p2 p3 p4 p5 p6 p7 p8 p9 q0 q1 q2
 refine pure_ (i := 0) (N := some 31) (v := ?_) (a' := ?_) #[true,false,false,false,false,false,false,false,false,false,false] rfl rfl (by kernel_rfl) (fun _ _ _ h => h) (Or.inl ⟨by rfl, ?_⟩) ?_ ?_
 rotate_left
 · intro w'
   go_simp
   try with_reducible rfl
 rotate_left
 · simp only [Act.put, sA, sB, sC]
   rfl
 refine take_ (i := 1) (N := some 32) (v := ?_) (a' := ?_) #[true,true,false,false,false,false,false,false,false,false,false] rfl rfl (by kernel_rfl) (fun _ _ _ h => h) (Or.inl ⟨by rfl, ?_⟩) hHeld ?_ ?_
 rotate_left
 · rintro w' ⟨e0, e1, e2, e3, e4, e5, e6, p6, q1⟩
   go_simp
   try with_reducible rfl
 rotate_left
 · simp only [Act.put, sA, sB, sC]
   rfl
 refine take_ (i := 2) (N := some 33) (v := ?_) (a' := ?_) #[true,true,true,false,false,false,false,false,false,false,false] rfl rfl (by kernel_rfl) (fun _ _ _ h => h) (Or.inl ⟨by rfl, ?_⟩) hHeld ?_ ?_
 rotate_left
 · rintro w' ⟨e0, e1, e2, e3, e4, e5, e6, p6, q1⟩
   go_simp
   try with_reducible rfl
 rotate_left
 · simp only [Act.put, sA, sB, sC]
   rfl
 refine pure_ (i := 3) (N := some 34) (v := ?_) (a' := ?_) #[true,true,true,true,false,false,false,false,false,false,false] rfl rfl (by kernel_rfl) (fun _ _ _ h => h) (Or.inl ⟨by rfl, ?_⟩) ?_ ?_
 rotate_left
 · intro w'
   go_simp
   try with_reducible rfl
 rotate_left
 · simp only [Act.put, sA, sB, sC]
   rfl
 refine take_ (i := 4) (N := some 35) (v := ?_) (a' := ?_) #[true,true,true,true,true,false,false,false,false,false,false] rfl rfl (by kernel_rfl) (fun _ _ _ h => h) (Or.inl ⟨by rfl, ?_⟩) hHeld ?_ ?_
 rotate_left
 · rintro w' ⟨e0, e1, e2, e3, e4, e5, e6, p6, q1⟩
   go_simp
   try with_reducible rfl
 rotate_left
 · simp only [Act.put, sA, sB, sC]
   rfl
 refine one_ (i := 5) (N := some 36) #[true,true,true,true,true,true,false,false,false,false,false] rfl rfl (by kernel_rfl) (by decide) (fun K hK => ?_)
 go_simp
 refine (atv_calls g (some ad) c pix _ HRg.out HK.out).mono ?_; rintro e w3 ⟨rfl, hw3⟩; have HW3 := Aside0.mk hw3; clear hw3
 refine hK.out _ _ ?_ (fun hHeld => ?_)
 · obtain ⟨e0, e1, e2, e3, e4, e5, e6, p6, q1⟩ := hHeld; exact ⟨(HW3.out.cell (World.block_lt_of_cell? _ _ e0)).trans e0, (HW3.out.cell (World.block_lt_of_cell? _ _ e1)).trans e1, (HW3.out.cell (World.block_lt_of_cell? _ _ e2)).trans e2, (HW3.out.cell (World.block_lt_of_cell? _ _ e3)).trans e3, (HW3.out.cell (World.block_lt_of_cell? _ _ e4)).trans e4, (HW3.out.cell (World.block_lt_of_cell? _ _ e5)).trans e5, (HW3.out.cell (World.block_lt_of_cell? _ _ e6)).trans e6, (HW3.out.cell (World.block_lt_of_cell? _ _ p6)).trans p6, (HW3.out.cell (World.block_lt_of_cell? _ _ q1)).trans q1⟩
 clear hK K
 try simp only [Act.put, sA, sB, sC]
 have HT4 := Aside0.mk ((HTA.out.drew).below HW3.out)
 have HG4 := Aside0.mk (BlkG.below (HGN.out.below (below_drew (Below.refl _ _))) HW3.out)
 obtain ⟨y0, y1, y2, y3, y4, y5, y6⟩ := HG4.out.box
 have yf := HG4.out.free
 refine pure_ (i := 6) (N := some 37) (v := ?_) (a' := ?_) #[true,true,true,true,true,true,true,false,false,false,false] rfl rfl (by kernel_rfl) (fun _ _ _ h => h) (Or.inl ⟨by rfl, ?_⟩) ?_ ?_
 rotate_left
 · intro w'
   go_simp
   try with_reducible rfl
 rotate_left
 · simp only [Act.put, sA, sB, sC]
   rfl
 refine pure_ (i := 7) (N := some 38) (v := ?_) (a' := ?_) #[true,true,true,true,true,true,true,true,false,false,false] rfl rfl (by kernel_rfl) (fun _ _ _ h => h) (Or.inl ⟨by rfl, ?_⟩) ?_ ?_
 rotate_left
 · intro w'
   go_simp
   try with_reducible rfl
 rotate_left
 · simp only [Act.put, sA, sB, sC]
   rfl
 refine take_ (i := 8) (N := some 39) (v := ?_) (a' := ?_) #[true,true,true,true,true,true,true,true,true,false,false] rfl rfl (by kernel_rfl) (fun _ _ _ h => h) (Or.inl ⟨by rfl, ?_⟩) hHeld ?_ ?_
 rotate_left
 · rintro w' ⟨e0, e1, e2, e3, e4, e5, e6, p6, q1⟩
   go_simp
   try with_reducible rfl
 rotate_left
 · simp only [Act.put, sA, sB, sC]
   rfl
 refine pure_ (i := 9) (N := some 40) (v := ?_) (a' := ?_) #[true,true,true,true,true,true,true,true,true,true,false] rfl rfl (by kernel_rfl) (fun _ _ _ h => h) (Or.inl ⟨by rfl, ?_⟩) ?_ ?_
 rotate_left
 · intro w'
   go_simp
   try with_reducible rfl
 rotate_left
 · simp only [Act.put, sA, sB, sC]
   rfl
 refine last_ (i := 10) (N := none) #[true,true,true,true,true,true,true,true,true,true,true] rfl rfl (by kernel_rfl) (by decide) (fun K hK => ?_)
 go_simp
 refine hK.out _ _ ?_
 clear hK K
 try simp only [Act.put, sA, sB, sC]
 refine done_ (by kernel_rfl) ?_
 have hx := (Only.refl (fun q => q = n0) w3).setCell (p := ⟨n0, 2, none⟩) rfl (.int .i64 (termL g.l pix))
 have hb := HG4.out.set2 (termL g.l pix)
 obtain ⟨W5, hW5⟩ : ∃ W5, w3.setCell ⟨n0, 2, none⟩ (.int .i64 (termL g.l pix)) = W5 := ⟨_, rfl⟩
 rw [hW5] at hx hb ⊢
 have HT5 := Aside0.mk (HT4.out.only hx (fun q hq h => by have h2 : q = n0 := h; have := HSN.out; omega))
 have HG5 := Aside0.mk hb
 clear hx hb hW5 hHeld y0 y1 y2 y3 y4 y5 y6 yf
 obtain ⟨e0, e1, e2, e3, e4, e5, e6⟩ := HT5.out.bg.box
 obtain ⟨p0, p1, p2, p3, p4, p5, p6, p7, p8, p9⟩ := HT5.out.bp.box
 obtain ⟨y0, y1, y2, y3, y4, y5, y6⟩ := HG5.out.box
 have yf := HG5.out.free
 dsimp only at y0 y1 y2 y3 y4 y5 y6
 go_wp2_with (first | (go_at_call 48; refine (ref_from g.l (some ad) c (pix + 1) _ HT5.out.rg).mono ?_; rintro e w6 ⟨A1, c1, rfl, hrd6, hfr6, hw6⟩; have HRD6 := Aside0.mk hrd6; have HFR6 := Aside0.mk hfr6; have HT6 := Aside0.mk (HT5.out.below hw6); have HG6 := Aside0.mk (HG5.out.below hw6); clear hrd6 hfr6 hw6; clear e0 e1 e2 e3 e4 e5 e6 p0 p1 p2 p3 p4 p5 p6 p7 p8 p9 y0 y1 y2 y3 y4 y5 y6 yf; obtain ⟨e0, e1, e2, e3, e4, e5, e6⟩ := HT6.out.bg.box; obtain ⟨p0, p1, p2, p3, p4, p5, p6, p7, p8, p9⟩ := HT6.out.bp.box; obtain ⟨y0, y1, y2, y3, y4, y5, y6⟩ := HG6.out.box; have yf := HG6.out.free; dsimp only at y0 y1 y2 y3 y4 y5 y6) | fail)
 have hx := ((Only.refl (fun q => q = n0) w6).setCell (p := ⟨n0, 6, none⟩) rfl (.slice A1 (fromL g.l (pix + 1)).length c1)).setCell (p := ⟨n0, 1, none⟩) rfl (.int .i64 (pix + 1))
 have hb := HG6.out.lay (fromL g.l (pix + 1)) A1 c1 pix
 obtain ⟨W7, hW7⟩ : ∃ W7, ((w6.setCell ⟨n0, 6, none⟩ (.slice A1 (fromL g.l (pix + 1)).length c1)).setCell ⟨n0, 1, none⟩ (.int .i64 (pix + 1))) = W7 := ⟨_, rfl⟩
 have hr := Rd.only HRD6.out hx (fun q hq h => by have h3 : q = n0 := h; subst h3; exact Rd.apartG HRD6.out HG6.out hq)
 rw [hW7] at hx hb hr ⊢
 have HT7 := Aside0.mk (HT6.out.only hx (fun q hq h => by have h2 : q = n0 := h; have := HSN.out; omega))
 have HG7 := Aside0.mk hb
 have HRD7 := Aside0.mk hr
 clear hx hb hr hW7 e0 e1 e2 e3 e4 e5 e6 p0 p1 p2 p3 p4 p5 p6 p7 p8 p9 y0 y1 y2 y3 y4 y5 y6 yf
 obtain ⟨e0, e1, e2, e3, e4, e5, e6⟩ := HT7.out.bg.box
 obtain ⟨p0, p1, p2, p3, p4, p5, p6, p7, p8, p9⟩ := HT7.out.bp.box
 obtain ⟨z0, z1, z2, z3, z4, z5, z6⟩ := HT7.out.bz.box
 have zf := HT7.out.bz.free
 obtain ⟨y0, y1, y2, y3, y4, y5, y6⟩ := HG7.out.box
 have yf := HG7.out.free
 dsimp only at y0 y1 y2 y3 y4 y5 y6
 have hC17 := HC17.out
 simp only [Try.f23] at hC17
 subst hC17
 clear HC17
 go_wp2
 have hst := stored (r := ⟨g.id, pix + 1, termL g.l pix, g.ht, g.hv, g.hc, fromL g.l (pix + 1)⟩) (A' := A1) (c' := c1) HT7.out.bz HRD7.out HT7.out.b (Nat.le_add_right s 2) (by have := HT7.out.b.size; have := HS.out; omega)
 try simp only [List.length_nil] at hst
 obtain ⟨r0, r1, r2, r3, r4, r5, r6⟩ := hst.1.box
 try dsimp only at r0 r1 r2 r3 r4 r5 r6
 refine bodyPost_ret (v := vG ⟨g.id, pix + 1, termL g.l pix, g.ht, g.hv, g.hc, fromL g.l (pix + 1)⟩ A1 c1) (by simp [results, Try.results23, go_sem, vG, r0, r1, r2, r3, r4, r5, r6]) rfl ⟨A1, c1, by rw [HG.out], by rw [HG.out]; exact hst.2.1, by rw [HS.out]; exact hst.2.2⟩
set_option maxHeartbeats 8000000 in
set_option maxRecDepth 100000 in
theorem ref_Do6_k4a (g : Grp) (A : Option Addr) (c : Nat) (pg pk : Int) (pl : List Ent) (pht phv phc pix ptm : Int) (pm ph : Bool) (Ap : Option Addr) (cp : Nat) (w : World) (h : Rd w A c g.l) (hp : Rd w Ap cp pl) (hl : g.l.length + pl.length ≤ 4398046511104) (h4 : pk = 4) (k : Int) (hk : atL g.l pix = k) (hno : ¬ 0 ≤ k) (hi0 : 0 ≤ pix) (hi1 : pix ≤ 1099511627776) :
   Calls Try.prog 23 #[vG g A c, vP ⟨pg, pk, pl, pht, phv, phc, pix, ptm, pm, ph⟩ Ap cp] w (GotG w (doRG g ⟨pg, pk, pl, pht, phv, phc, pix, ptm, pm, ph⟩)) := by
 subst h4
 have HG : Aside0 (doRG g ⟨pg, 4, pl, pht, phv, phc, pix, ptm, pm, ph⟩ = ⟨g.id, pix + 1, ptm, g.ht, g.hv, g.hc, []⟩) := ⟨by show (⟨g.id, pix + 1, ptm, g.ht, g.hv, g.hc, if 0 ≤ atL g.l pix ∧ termL g.l pix = ptm then fromL g.l (pix + 1) else []⟩ : Grp) = _; rw [if_neg (fun h => hno (by rw [← hk]; exact h.1))]⟩
 have HIX := Aside0.mk (And.intro hi0 hi1)
 have HK := Aside0.mk hk
 clear hi0 hi1 hk
 have HNO := Aside0.mk hno
 clear hno
 have HT0 := Aside0.mk (Two.new g A c ⟨pg, 4, pl, pht, phv, phc, pix, ptm, pm, ph⟩ Ap cp w h hp)
 have HLN := Aside0.mk hl
 clear h hp hl
 unfold vG vP
 go_enter Try.func23, Try.ntmps23
 obtain ⟨C, hC⟩ : ∃ C, (match Try.f23.body with | some (.seq _ c) => c | _ => .skip) = C := ⟨_, rfl⟩
 have HC := Aside0.mk hC
 simp only [Try.f23] at hC
 rw [hC]
 clear hC
 go_wp2
 obtain ⟨s, hs⟩ : ∃ s, w.heap.size = s := ⟨_, rfl⟩
 have HT1 := HT0.out
 rw [hs] at HT1 ⊢
 obtain ⟨W, hW⟩ : ∃ W, (((w.alloc (.cells #[.int .i64 g.id, .int .i64 g.fi, .int .i64 g.tm, .int .i64 g.ht, .int .i64 g.hv, .int .i64 g.hc, .slice A g.l.length c] 26)).alloc (.cells #[.int .i64 pg, .int .i64 4, .slice Ap pl.length cp, .int .i64 pht, .int .i64 phv, .int .i64 phc, .int .i64 pix, .int .i64 ptm, .bool pm, .bool ph] 28)).alloc (.cells #[.int .i64 0, .int .i64 0, .int .i64 0, .int .i64 0, .int .i64 0, .int .i64 0, .slice none 0 0] 26)) = W := ⟨_, rfl⟩
 rw [hW] at HT1 ⊢
 have HT := Aside0.mk HT1
 have HS := Aside0.mk hs
 have hC := HC.out
 simp only [Try.f23] at hC
 subst hC
 clear HC
 clear hW HT1 HT0 hs
 obtain ⟨C3, hC3⟩ : ∃ C, (match Try.f23.body with | some (.seq _ (.seq _ c)) => c | _ => .skip) = C := ⟨_, rfl⟩
 have HC3 := Aside0.mk hC3
 simp only [Try.f23] at hC3
 rw [hC3]
 clear hC3
 obtain ⟨e0, e1, e2, e3, e4, e5, e6⟩ := HT.out.bg.box
 obtain ⟨p0, p1, p2, p3, p4, p5, p6, p7, p8, p9⟩ := HT.out.bp.box
 obtain ⟨z0, z1, z2, z3, z4, z5, z6⟩ := HT.out.bz.box
 have zf := HT.out.bz.free
 have hgn := BlkG.new g A c W
 obtain ⟨n0, hn0⟩ : ∃ n, W.heap.size = n := ⟨_, rfl⟩
 have HN0 := Aside0.mk hn0
 have HSN : Aside0 (s + 3 ≤ n0) := ⟨by rw [← hn0]; exact HT.out.sz⟩
 have l1 : s < n0 := by have := HSN.out; omega
 have l2 : s + 1 < n0 := by have := HSN.out; omega
 have l3 : s + 2 < n0 := by have := HSN.out; omega
 have m1 : s ≠ n0 := by omega
 have m2 : s + 1 ≠ n0 := by omega
 have m3 : s + 2 ≠ n0 := by omega
 have o1 := Ne.symm m1
 have o2 := Ne.symm m2
 have o3 := Ne.symm m3
 rw [hn0] at hgn
 have HGN := Aside0.mk hgn
 have HTA := Aside0.mk (HT.out.below ((Below.refl _ _).alloc (Nat.le_refl _) (.cells #[.int .i64 g.id, .int .i64 g.fi, .int .i64 g.tm, .int .i64 g.ht, .int .i64 g.hv, .int .i64 g.hc, .slice A g.l.length c] 26)))
 clear hgn
 go_wp2
 obtain ⟨W3, hW3⟩ : ∃ W3, W.alloc (.cells #[.int .i64 g.id, .int .i64 g.fi, .int .i64 g.tm, .int .i64 g.ht, .int .i64 g.hv, .int .i64 g.hc, .slice A g.l.length c] 26) = W3 := ⟨_, rfl⟩
 rw [hW3] at HTA HGN ⊢
 clear hW3 hn0 e0 e1 e2 e3 e4 e5 e6 p0 p1 p2 p3 p4 p5 p6 p7 p8 p9 z0 z1 z2 z3 z4 z5 z6 zf
 have hC3 := HC3.out
 simp only [Try.f23] at hC3
 subst hC3
 clear HC3
 obtain ⟨C17, hC17⟩ : ∃ C, (match Try.f23.body with | some (.seq _ (.seq _ (.seq _ c))) => c | _ => .skip) = C := ⟨_, rfl⟩
 have HC17 := Aside0.mk hC17
 simp only [Try.f23] at hC17
 rw [hC17]
 clear hC17
 have i0 := HIX.out.1
 have i1 := HIX.out.2
 have hwp : IntKind.i64.wrap (pix + 1) = pix + 1 := by rw [i64_w]; unfold wrap64; omega
 have j0 : decide ((0 : Int) ≤ k) = false := decide_eq_false (by have := HNO.out; omega)
 obtain ⟨C14, hC14⟩ : ∃ C, (match Try.f23.body with | some (.seq _ (.seq _ (.seq (.seq _ (.block _ (.seq _ (.cond _ _ (.seq _ (.cond _ _ (.seq _ (.cond _ _ (.seq _ (.cond _ (.seq _ (.seq _ c)) _)))))))))) _))) => c | _ => .skip) = C := ⟨_, rfl⟩
 have HC14 := Aside0.mk hC14
 simp only [Try.f23] at hC14
 rw [hC14]
 clear hC14
 obtain ⟨e0, e1, e2, e3, e4, e5, e6⟩ := HTA.out.bg.box
 obtain ⟨p0, p1, p2, p3, p4, p5, p6, p7, p8, p9⟩ := HTA.out.bp.box
 obtain ⟨y0, y1, y2, y3, y4, y5, y6⟩ := HGN.out.box
 have yf := HGN.out.free
 go_wp2_with (first | (go_at_call 47; refine (atv_calls g A c pix _ HTA.out.rg HK.out).mono ?_; rintro e w4 ⟨rfl, hw4⟩; have HT4 := Aside0.mk (HTA.out.below hw4); have HG4 := Aside0.mk (HGN.out.below hw4); clear hw4; clear e0 e1 e2 e3 e4 e5 e6 p0 p1 p2 p3 p4 p5 p6 p7 p8 p9 y0 y1 y2 y3 y4 y5 y6 yf; obtain ⟨e0, e1, e2, e3, e4, e5, e6⟩ := HT4.out.bg.box; obtain ⟨p0, p1, p2, p3, p4, p5, p6, p7, p8, p9⟩ := HT4.out.bp.box; obtain ⟨y0, y1, y2, y3, y4, y5, y6⟩ := HG4.out.box; have yf := HG4.out.free) | fail)
 have hx := (Only.refl (fun q => q = n0) w4).setCell (p := ⟨n0, 6, none⟩) rfl (.slice none 0 0)
 have hb := HG4.out.setL [] none 0
 simp only [List.length_nil] at hb
 obtain ⟨W5, hW5⟩ : ∃ W5, w4.setCell ⟨n0, 6, none⟩ (.slice none 0 0) = W5 := ⟨_, rfl⟩
 rw [hW5] at hx hb ⊢
 have HT5 := Aside0.mk (HT4.out.only hx (fun q hq h => by have h2 : q = n0 := h; have := HSN.out; omega))
 have HG5 := Aside0.mk hb
 clear hx hb hW5 e0 e1 e2 e3 e4 e5 e6 p0 p1 p2 p3 p4 p5 p6 p7 p8 p9 y0 y1 y2 y3 y4 y5 y6 yf
 obtain ⟨e0, e1, e2, e3, e4, e5, e6⟩ := HT5.out.bg.box
 obtain ⟨p0, p1, p2, p3, p4, p5, p6, p7, p8, p9⟩ := HT5.out.bp.box
 obtain ⟨y0, y1, y2, y3, y4, y5, y6⟩ := HG5.out.box
 have yf := HG5.out.free
 have hC14 := HC14.out
 simp only [Try.f23] at hC14
 subst hC14
 clear HC14
 go_wp2
 refine start_ (n := 13) (S := (fun w' => w'.cell? ⟨s, 6, none⟩ = some (.slice A g.l.length c) ∧ w'.cell? ⟨s + 1, 7, none⟩ = some (.int .i64 ptm))) (ds := []) #[false, false, false, false, false, false, false, false, false, false, false, false, false] (by kernel_rfl) rfl rfl ⟨e6, p7⟩ (fun hHeld => ?_)
 clear e0 e1 e2 e3 e4 e5 e6 p0 p1 p2 p3 p4 p5 p6 p7 p8 p9 y0 y1 y2 y3 y4 y5 y6 yf
 refine pure_ (i := 0) (N := some 59) (v := ?_) (a' := ?_) #[true,false,false,false,false,false,false,false,false,false,false,false,false] rfl rfl (by kernel_rfl) (fun _ _ _ h => h) (Or.inl ⟨by rfl, ?_⟩) ?_ ?_
 rotate_left
 · intro w'
   go_simp
   try with_reducible rfl
 rotate_left
 · simp only [Act.put, sA, sB, sC]
   rfl
 refine pure_ (i := 1) (N := some 60) (v := ?_) (a' := ?_) #[true,true,false,false,false,false,false,false,false,false,false,false,false] rfl rfl (by kernel_rfl) (fun _ _ _ h => h) (Or.inl ⟨by rfl, ?_⟩) ?_ ?_
 rotate_left
 · intro w'
   go_simp
   try with_reducible rfl
 rotate_left
 · simp only [Act.put, sA, sB, sC]
   rfl
 refine pure_ (i := 2) (N := some 61) (v := ?_) (a' := ?_) #[true,true,true,false,false,false,false,false,false,false,false,false,false] rfl rfl (by kernel_rfl) (fun _ _ _ h => h) (Or.inl ⟨by rfl, ?_⟩) ?_ ?_
 rotate_left
 · intro w'
   go_simp
   try with_reducible rfl
 rotate_left
 · simp only [Act.put, sA, sB, sC]
   rfl
 refine pure_ (i := 3) (N := some 62) (v := undef) (a' := ?_) #[true,true,true,true,false,false,false,false,false,false,false,false,false] rfl rfl (by kernel_rfl) (fun _ _ _ h => h) (Or.inr ⟨by rfl, rfl⟩) ?_ ?_
 rotate_left
 · simp only [Act.put, sA, sB, sC]
   rfl
 refine pure_ (i := 4) (N := some 63) (v := undef) (a' := ?_) #[true,true,true,true,true,false,false,false,false,false,false,false,false] rfl rfl (by kernel_rfl) (fun _ _ _ h => h) (Or.inr ⟨by rfl, rfl⟩) ?_ ?_
 rotate_left
 · simp only [Act.put, sA, sB, sC]
   rfl
 refine pure_ (i := 5) (N := some 64) (v := undef) (a' := ?_) #[true,true,true,true,true,true,false,false,false,false,false,false,false] rfl rfl (by kernel_rfl) (fun _ _ _ h => h) (Or.inr ⟨by rfl, rfl⟩) ?_ ?_
 rotate_left
 · simp only [Act.put, sA, sB, sC]
   rfl
 refine pure_ (i := 6) (N := some 65) (v := undef) (a' := ?_) #[true,true,true,true,true,true,true,false,false,false,false,false,false] rfl rfl (by kernel_rfl) (fun _ _ _ h => h) (Or.inr ⟨by rfl, rfl⟩) ?_ ?_
 rotate_left
 · simp only [Act.put, sA, sB, sC]
   rfl
 refine pure_ (i := 7) (N := some 66) (v := undef) (a' := ?_) #[true,true,true,true,true,true,true,true,false,false,false,false,false] rfl rfl (by kernel_rfl) (fun _ _ _ h => h) (Or.inr ⟨by rfl, rfl⟩) ?_ ?_
 rotate_left
 · simp only [Act.put, sA, sB, sC]
   rfl
 refine pure_ (i := 8) (N := some 67) (v := undef) (a' := ?_) #[true,true,true,true,true,true,true,true,true,false,false,false,false] rfl rfl (by kernel_rfl) (fun _ _ _ h => h) (Or.inr ⟨by rfl, rfl⟩) ?_ ?_
 rotate_left
 · simp only [Act.put, sA, sB, sC]
   rfl
 refine pure_ (i := 9) (N := some 68) (v := undef) (a' := ?_) #[true,true,true,true,true,true,true,true,true,true,false,false,false] rfl rfl (by kernel_rfl) (fun _ _ _ h => h) (Or.inr ⟨by rfl, rfl⟩) ?_ ?_
 rotate_left
 · simp only [Act.put, sA, sB, sC]
   rfl
 refine pure_ (i := 10) (N := some 69) (v := undef) (a' := ?_) #[true,true,true,true,true,true,true,true,true,true,true,false,false] rfl rfl (by kernel_rfl) (fun _ _ _ h => h) (Or.inr ⟨by rfl, rfl⟩) ?_ ?_
 rotate_left
 · simp only [Act.put, sA, sB, sC]
   rfl
 refine pure_ (i := 11) (N := some 70) (v := undef) (a' := ?_) #[true,true,true,true,true,true,true,true,true,true,true,true,false] rfl rfl (by kernel_rfl) (fun _ _ _ h => h) (Or.inr ⟨by rfl, rfl⟩) ?_ ?_
 rotate_left
 · simp only [Act.put, sA, sB, sC]
   rfl
 refine pure_ (i := 12) (N := some 71) (v := ?_) (a' := ?_) #[true,true,true,true,true,true,true,true,true,true,true,true,true] rfl rfl (by kernel_rfl) (fun _ _ _ h => h) (Or.inl ⟨by rfl, ?_⟩) ?_ ?_
 rotate_left
 · intro w'
   go_simp
   try with_reducible rfl
 rotate_left
 · simp only [Act.put, sA, sB, sC]
   rfl
 refine done_ (by kernel_rfl) ?_
 obtain ⟨W6, hW6⟩ : ∃ W6, W5.drew = W6 := ⟨_, rfl⟩
 have HT6 := Aside0.mk (HT5.out.drew)
 have HG6 := Aside0.mk (HG5.out.below (below_drew (Below.refl _ _)))
 rw [hW6] at HT6 HG6 ⊢
 clear hW6 hHeld
 obtain ⟨e0, e1, e2, e3, e4, e5, e6⟩ := HT6.out.bg.box
 obtain ⟨p0, p1, p2, p3, p4, p5, p6, p7, p8, p9⟩ := HT6.out.bp.box
 obtain ⟨y0, y1, y2, y3, y4, y5, y6⟩ := HG6.out.box
 have yf := HG6.out.free
 try dsimp only [List.length_nil] at y0 y1 y2 y3 y4 y5 y6
 go_wp2
 have HRD6 : Aside0 (Rd W6 none 0 []) := ⟨Rd.nil _⟩
 refine start_ (n := 9) (S := (fun w' => w'.cell? ⟨s + 1, 6, none⟩ = some (.int .i64 pix) ∧ w'.cell? ⟨s + 1, 7, none⟩ = some (.int .i64 ptm))) (ds := [8]) #[false, false, false, false, false, false, false, false, false] (by kernel_rfl) rfl rfl ⟨p6, p7⟩ (fun hHeld => ?_)
 clear e0 e1 e2 e3 e4 e5 e6 p0 p1 p2 p3 p4 p5 p6 p7 p8 p9
 refine pure_ (i := 0) (N := some 79) (v := ?_) (a' := ?_) #[true,false,false,false,false,false,false,false,false] rfl rfl (by kernel_rfl) (fun _ _ _ h => h) (Or.inl ⟨by rfl, ?_⟩) ?_ ?_
 rotate_left
 · intro w'
   go_simp
   try with_reducible rfl
 rotate_left
 · simp only [Act.put, sA, sB, sC]
   rfl
 refine take_ (i := 1) (N := some 80) (v := ?_) (a' := ?_) #[true,true,false,false,false,false,false,false,false] rfl rfl (by kernel_rfl) (fun _ _ _ h => h) (Or.inl ⟨by rfl, ?_⟩) hHeld ?_ ?_
 rotate_left
 · rintro w' ⟨s0, s1⟩
   go_simp
   try with_reducible rfl
 rotate_left
 · simp only [Act.put, sA, sB, sC]
   rfl
 refine pure_ (i := 2) (N := some 81) (v := ?_) (a' := ?_) #[true,true,true,false,false,false,false,false,false] rfl rfl (by kernel_rfl) (fun _ _ _ h => h) (Or.inl ⟨by rfl, ?_⟩) ?_ ?_
 rotate_left
 · intro w'
   go_simp
   try with_reducible rfl
 rotate_left
 · simp only [Act.put, sA, sB, sC]
   rfl
 refine pure_ (i := 3) (N := some 82) (v := ?_) (a' := ?_) #[true,true,true,true,false,false,false,false,false] rfl rfl (by kernel_rfl) (fun _ _ _ h => h) (Or.inl ⟨by rfl, ?_⟩) ?_ ?_
 rotate_left
 · intro w'
   go_simp
   try with_reducible rfl
 rotate_left
 · simp only [Act.put, sA, sB, sC]
   rfl
 refine take_ (i := 4) (N := some 83) (v := ?_) (a' := ?_) #[true,true,true,true,true,false,false,false,false] rfl rfl (by kernel_rfl) (fun _ _ _ h => h) (Or.inl ⟨by rfl, ?_⟩) hHeld ?_ ?_
 rotate_left
 · rintro w' ⟨s0, s1⟩
   go_simp
   try with_reducible rfl
 rotate_left
 · simp only [Act.put, sA, sB, sC]
   rfl
 refine pure_ (i := 5) (N := some 84) (v := ?_) (a' := ?_) #[true,true,true,true,true,true,false,false,false] rfl rfl (by kernel_rfl) (fun _ _ _ h => h) (Or.inl ⟨by rfl, ?_⟩) ?_ ?_
 rotate_left
 · intro w'
   go_simp
   try with_reducible rfl
 rotate_left
 · simp only [Act.put, sA, sB, sC]
   rfl
 refine one_ (i := 6) (N := none) #[true,true,true,true,true,true,true,false,false] rfl rfl (by kernel_rfl) (by decide) (fun K hK => ?_)
 go_simp
 refine hK.out _ _ ?_ (fun hHeld => ?_)
 · obtain ⟨s0, s1⟩ := hHeld; exact ⟨((Only.refl (fun q => q = n0) _).setCell (p := ⟨n0, 1, none⟩) rfl (.int .i64 (pix + 1))).cell s0 (fun h => by have h2 : s + 1 = n0 := h; omega), ((Only.refl (fun q => q = n0) _).setCell (p := ⟨n0, 1, none⟩) rfl (.int .i64 (pix + 1))).cell s1 (fun h => by have h2 : s + 1 = n0 := h; omega)⟩
 clear hK K
 try simp only [Act.put, sA, sB, sC]
 refine pure_ (i := 7) (N := some 85) (v := ?_) (a' := ?_) #[true,true,true,true,true,true,true,true,false] rfl rfl (by kernel_rfl) (fun _ _ _ h => h) (Or.inl ⟨by rfl, ?_⟩) ?_ ?_
 rotate_left
 · intro w'
   go_simp
   try with_reducible rfl
 rotate_left
 · simp only [Act.put, sA, sB, sC]
   rfl
 refine last_ (i := 8) (N := none) #[true,true,true,true,true,true,true,true,true] rfl rfl (by kernel_rfl) (by decide) (fun K hK => ?_)
 go_simp
 refine hK.out _ _ ?_
 clear hK K
 try simp only [Act.put, sA, sB, sC]
 refine done_ (by kernel_rfl) ?_
 obtain ⟨W9, hW9⟩ : ∃ W9, ((W6.setCell ⟨n0, 1, none⟩ (.int .i64 (pix + 1))).setCell ⟨n0, 2, none⟩ (.int .i64 ptm)).drew = W9 := ⟨_, rfl⟩
 have hb : BlkG ⟨g.id, pix + 1, ptm, g.ht, g.hv, g.hc, []⟩ none 0 n0 W9 := by rw [← hW9]; exact (HG6.out.lay2 pix ptm).below (below_drew (Below.refl _ _))
 have ho : Only (fun q => q = n0) W6 W9 := by rw [← hW9]; exact (((Only.refl (fun q => q = n0) W6).setCell (p := ⟨n0, 1, none⟩) rfl _).setCell (p := ⟨n0, 2, none⟩) rfl _).drew
 have hr := Rd.only HRD6.out ho (fun q hq h => by have h3 : q = n0 := h; subst h3; exact Rd.apartG HRD6.out HG6.out hq)
 rw [hW9]
 have HT9 := Aside0.mk (HT6.out.only ho (fun q hq h => by have h2 : q = n0 := h; have := HSN.out; omega))
 have HG9 := Aside0.mk hb
 have HRD9 := Aside0.mk hr
 clear hW9 ho hb hr hHeld y0 y1 y2 y3 y4 y5 y6 yf
 obtain ⟨e0, e1, e2, e3, e4, e5, e6⟩ := HT9.out.bg.box
 obtain ⟨p0, p1, p2, p3, p4, p5, p6, p7, p8, p9⟩ := HT9.out.bp.box
 obtain ⟨z0, z1, z2, z3, z4, z5, z6⟩ := HT9.out.bz.box
 have zf := HT9.out.bz.free
 obtain ⟨y0, y1, y2, y3, y4, y5, y6⟩ := HG9.out.box
 have yf := HG9.out.free
 dsimp only at y0 y1 y2 y3 y4 y5 y6
 try dsimp only [List.length_nil] at y0 y1 y2 y3 y4 y5 y6
 have hC17 := HC17.out
 simp only [Try.f23] at hC17
 subst hC17
 clear HC17
 go_wp2
 have hst := stored (r := ⟨g.id, pix + 1, ptm, g.ht, g.hv, g.hc, []⟩) (A' := none) (c' := 0) HT9.out.bz HRD9.out HT9.out.b (Nat.le_add_right s 2) (by have := HT9.out.b.size; have := HS.out; omega)
 try simp only [List.length_nil] at hst
 obtain ⟨r0, r1, r2, r3, r4, r5, r6⟩ := hst.1.box
 try dsimp only at r0 r1 r2 r3 r4 r5 r6
 refine bodyPost_ret (v := vG ⟨g.id, pix + 1, ptm, g.ht, g.hv, g.hc, []⟩ none 0) (by simp [results, Try.results23, go_sem, vG, r0, r1, r2, r3, r4, r5, r6]) rfl ⟨none, 0, by rw [HG.out], by rw [HG.out]; exact hst.2.1, by rw [HS.out]; exact hst.2.2⟩
set_option maxHeartbeats 8000000 in
set_option maxRecDepth 100000 in
theorem ref_Do6_k4b (g : Grp) (A : Option Addr) (c : Nat) (pg pk : Int) (pl : List Ent) (pht phv phc pix ptm : Int) (pm ph : Bool) (Ap : Option Addr) (cp : Nat) (w : World) (h : Rd w A c g.l) (hp : Rd w Ap cp pl) (hl : g.l.length + pl.length ≤ 4398046511104) (h4 : pk = 4) (n : Nat) (hk : atL g.l pix = (n : Int)) (ht : ¬ termL g.l pix = ptm) (hi0 : 0 ≤ pix) (hi1 : pix ≤ 1099511627776) :
   Calls Try.prog 23 #[vG g A c, vP ⟨pg, pk, pl, pht, phv, phc, pix, ptm, pm, ph⟩ Ap cp] w (GotG w (doRG g ⟨pg, pk, pl, pht, phv, phc, pix, ptm, pm, ph⟩)) := by
 subst h4
 have HG : Aside0 (doRG g ⟨pg, 4, pl, pht, phv, phc, pix, ptm, pm, ph⟩ = ⟨g.id, pix + 1, ptm, g.ht, g.hv, g.hc, []⟩) := ⟨by show (⟨g.id, pix + 1, ptm, g.ht, g.hv, g.hc, if 0 ≤ atL g.l pix ∧ termL g.l pix = ptm then fromL g.l (pix + 1) else []⟩ : Grp) = _; rw [if_neg (fun h => ht h.2)]⟩
 have HIX := Aside0.mk (And.intro hi0 hi1)
 have HK := Aside0.mk hk
 clear hi0 hi1 hk
 have jt : (termL g.l pix == ptm) = false := beq_eq_false_iff_ne.2 ht
 clear ht
 have HT0 := Aside0.mk (Two.new g A c ⟨pg, 4, pl, pht, phv, phc, pix, ptm, pm, ph⟩ Ap cp w h hp)
 have HLN := Aside0.mk hl
 clear h hp hl
 unfold vG vP
 go_enter Try.func23, Try.ntmps23
 obtain ⟨C, hC⟩ : ∃ C, (match Try.f23.body with | some (.seq _ c) => c | _ => .skip) = C := ⟨_, rfl⟩
 have HC := Aside0.mk hC
 simp only [Try.f23] at hC
 rw [hC]
 clear hC
 go_wp2
 obtain ⟨s, hs⟩ : ∃ s, w.heap.size = s := ⟨_, rfl⟩
 have HT1 := HT0.out
 rw [hs] at HT1 ⊢
 obtain ⟨W, hW⟩ : ∃ W, (((w.alloc (.cells #[.int .i64 g.id, .int .i64 g.fi, .int .i64 g.tm, .int .i64 g.ht, .int .i64 g.hv, .int .i64 g.hc, .slice A g.l.length c] 26)).alloc (.cells #[.int .i64 pg, .int .i64 4, .slice Ap pl.length cp, .int .i64 pht, .int .i64 phv, .int .i64 phc, .int .i64 pix, .int .i64 ptm, .bool pm, .bool ph] 28)).alloc (.cells #[.int .i64 0, .int .i64 0, .int .i64 0, .int .i64 0, .int .i64 0, .int .i64 0, .slice none 0 0] 26)) = W := ⟨_, rfl⟩
 rw [hW] at HT1 ⊢
 have HT := Aside0.mk HT1
 have HS := Aside0.mk hs
 have hC := HC.out
 simp only [Try.f23] at hC
 subst hC
 clear HC
 clear hW HT1 HT0 hs
 obtain ⟨C3, hC3⟩ : ∃ C, (match Try.f23.body with | some (.seq _ (.seq _ c)) => c | _ => .skip) = C := ⟨_, rfl⟩
 have HC3 := Aside0.mk hC3
 simp only [Try.f23] at hC3
 rw [hC3]
 clear hC3
 obtain ⟨e0, e1, e2, e3, e4, e5, e6⟩ := HT.out.bg.box
 obtain ⟨p0, p1, p2, p3, p4, p5, p6, p7, p8, p9⟩ := HT.out.bp.box
 obtain ⟨z0, z1, z2, z3, z4, z5, z6⟩ := HT.out.bz.box
 have zf := HT.out.bz.free
 have hgn := BlkG.new g A c W
 obtain ⟨n0, hn0⟩ : ∃ n, W.heap.size = n := ⟨_, rfl⟩
 have HN0 := Aside0.mk hn0
 have HSN : Aside0 (s + 3 ≤ n0) := ⟨by rw [← hn0]; exact HT.out.sz⟩
 have l1 : s < n0 := by have := HSN.out; omega
 have l2 : s + 1 < n0 := by have := HSN.out; omega
 have l3 : s + 2 < n0 := by have := HSN.out; omega
 have m1 : s ≠ n0 := by omega
 have m2 : s + 1 ≠ n0 := by omega
 have m3 : s + 2 ≠ n0 := by omega
 have o1 := Ne.symm m1
 have o2 := Ne.symm m2
 have o3 := Ne.symm m3
 rw [hn0] at hgn
 have HGN := Aside0.mk hgn
 have HTA := Aside0.mk (HT.out.below ((Below.refl _ _).alloc (Nat.le_refl _) (.cells #[.int .i64 g.id, .int .i64 g.fi, .int .i64 g.tm, .int .i64 g.ht, .int .i64 g.hv, .int .i64 g.hc, .slice A g.l.length c] 26)))
 clear hgn
 go_wp2
 obtain ⟨W3, hW3⟩ : ∃ W3, W.alloc (.cells #[.int .i64 g.id, .int .i64 g.fi, .int .i64 g.tm, .int .i64 g.ht, .int .i64 g.hv, .int .i64 g.hc, .slice A g.l.length c] 26) = W3 := ⟨_, rfl⟩
 rw [hW3] at HTA HGN ⊢
 clear hW3 hn0 e0 e1 e2 e3 e4 e5 e6 p0 p1 p2 p3 p4 p5 p6 p7 p8 p9 z0 z1 z2 z3 z4 z5 z6 zf
 have hC3 := HC3.out
 simp only [Try.f23] at hC3
 subst hC3
 clear HC3
 obtain ⟨C17, hC17⟩ : ∃ C, (match Try.f23.body with | some (.seq _ (.seq _ (.seq _ c))) => c | _ => .skip) = C := ⟨_, rfl⟩
 have HC17 := Aside0.mk hC17
 simp only [Try.f23] at hC17
 rw [hC17]
 clear hC17
 have i0 := HIX.out.1
 have i1 := HIX.out.2
 have hwp : IntKind.i64.wrap (pix + 1) = pix + 1 := by rw [i64_w]; unfold wrap64; omega
 have h3 := at_some (l := g.l) (i := pix) (by rw [HK.out]; omega)
 rw [HK.out, Int.toNat_natCast] at h3
 obtain ⟨hnl, h3⟩ := h3
 have hnl2 : (n : Int) < (g.l.length : Int) := by omega
 have hn0' : (0 : Int) ≤ (n : Int) := by omega
 have HN3 := Aside0.mk h3
 have HNL := Aside0.mk hnl
 obtain ⟨ad, rfl, _⟩ := HTA.out.rg.at_ hnl
 clear h3
 obtain ⟨C14, hC14⟩ : ∃ C, (match Try.f23.body with | some (.seq _ (.seq _ (.seq (.seq _ (.block _ (.seq _ (.cond _ _ (.seq _ (.cond _ _ (.seq _ (.cond _ _ (.seq _ (.cond _ (.seq _ (.seq _ c)) _)))))))))) _))) => c | _ => .skip) = C := ⟨_, rfl⟩
 have HC14 := Aside0.mk hC14
 simp only [Try.f23] at hC14
 rw [hC14]
 clear hC14
 obtain ⟨e0, e1, e2, e3, e4, e5, e6⟩ := HTA.out.bg.box
 obtain ⟨p0, p1, p2, p3, p4, p5, p6, p7, p8, p9⟩ := HTA.out.bp.box
 obtain ⟨y0, y1, y2, y3, y4, y5, y6⟩ := HGN.out.box
 have yf := HGN.out.free
 go_wp2_with (first | (go_at_call 47; refine (atv_calls g (some ad) c pix _ HTA.out.rg HK.out).mono ?_; rintro e w4 ⟨rfl, hw4⟩; have HT4 := Aside0.mk (HTA.out.below hw4); have HG4 := Aside0.mk (HGN.out.below hw4); clear hw4; clear e0 e1 e2 e3 e4 e5 e6 p0 p1 p2 p3 p4 p5 p6 p7 p8 p9 y0 y1 y2 y3 y4 y5 y6 yf; obtain ⟨e0, e1, e2, e3, e4, e5, e6⟩ := HT4.out.bg.box; obtain ⟨p0, p1, p2, p3, p4, p5, p6, p7, p8, p9⟩ := HT4.out.bp.box; obtain ⟨y0, y1, y2, y3, y4, y5, y6⟩ := HG4.out.box; have yf := HG4.out.free) | fail)
 have hx := (Only.refl (fun q => q = n0) w4).setCell (p := ⟨n0, 6, none⟩) rfl (.slice none 0 0)
 have hb := HG4.out.setL [] none 0
 simp only [List.length_nil] at hb
 obtain ⟨W5, hW5⟩ : ∃ W5, w4.setCell ⟨n0, 6, none⟩ (.slice none 0 0) = W5 := ⟨_, rfl⟩
 rw [hW5] at hx hb ⊢
 have HT5 := Aside0.mk (HT4.out.only hx (fun q hq h => by have h2 : q = n0 := h; have := HSN.out; omega))
 have HG5 := Aside0.mk hb
 clear hx hb hW5 e0 e1 e2 e3 e4 e5 e6 p0 p1 p2 p3 p4 p5 p6 p7 p8 p9 y0 y1 y2 y3 y4 y5 y6 yf
 obtain ⟨e0, e1, e2, e3, e4, e5, e6⟩ := HT5.out.bg.box
 obtain ⟨p0, p1, p2, p3, p4, p5, p6, p7, p8, p9⟩ := HT5.out.bp.box
 obtain ⟨y0, y1, y2, y3, y4, y5, y6⟩ := HG5.out.box
 have yf := HG5.out.free
 obtain ⟨ad', hq, q0, q1, q2⟩ := HT5.out.rg.at_ HNL.out
 cases hq
 rw [HN3.out] at q1
 have hC14 := HC14.out
 simp only [Try.f23] at hC14
 subst hC14
 clear HC14
 go_wp2
 refine start_ (n := 13) (S := (fun w' => w'.cell? ⟨s, 6, none⟩ = some (.slice (some ad) g.l.length c) ∧ w'.cell? ⟨s + 1, 7, none⟩ = some (.int .i64 ptm) ∧ w'.cell? ⟨(ad.add (n * 3)).block, (ad.add (n * 3)).off + 1, none⟩ = some (.int .i64 (termL g.l pix)))) (ds := []) #[false, false, false, false, false, false, false, false, false, false, false, false, false] (by kernel_rfl) rfl rfl ⟨e6, p7, q1⟩ (fun hHeld => ?_)
 clear e0 e1 e2 e3 e4 e5 e6 p0 p1 p2 p3 p4 p5 p6 p7 p8 p9 y0 y1 y2 y3 y4 y5 y6 yf q0 q1 q2
 refine pure_ (i := 0) (N := some 59) (v := ?_) (a' := ?_) #[true,false,false,false,false,false,false,false,false,false,false,false,false] rfl rfl (by kernel_rfl) (fun _ _ _ h => h) (Or.inl ⟨by rfl, ?_⟩) ?_ ?_
 rotate_left
 · intro w'
   go_simp
   try with_reducible rfl
 rotate_left
 · simp only [Act.put, sA, sB, sC]
   rfl
 refine pure_ (i := 1) (N := some 60) (v := ?_) (a' := ?_) #[true,true,false,false,false,false,false,false,false,false,false,false,false] rfl rfl (by kernel_rfl) (fun _ _ _ h => h) (Or.inl ⟨by rfl, ?_⟩) ?_ ?_
 rotate_left
 · intro w'
   go_simp
   try with_reducible rfl
 rotate_left
 · simp only [Act.put, sA, sB, sC]
   rfl
 refine pure_ (i := 2) (N := some 61) (v := ?_) (a' := ?_) #[true,true,true,false,false,false,false,false,false,false,false,false,false] rfl rfl (by kernel_rfl) (fun _ _ _ h => h) (Or.inl ⟨by rfl, ?_⟩) ?_ ?_
 rotate_left
 · intro w'
   go_simp
   try with_reducible rfl
 rotate_left
 · simp only [Act.put, sA, sB, sC]
   rfl
 refine pure_ (i := 3) (N := some 62) (v := ?_) (a' := ?_) #[true,true,true,true,false,false,false,false,false,false,false,false,false] rfl rfl (by kernel_rfl) (fun _ _ _ h => h) (Or.inl ⟨by rfl, ?_⟩) ?_ ?_
 rotate_left
 · intro w'
   go_simp
   try with_reducible rfl
 rotate_left
 · simp only [Act.put, sA, sB, sC]
   rfl
 refine take_ (i := 4) (N := some 63) (v := ?_) (a' := ?_) #[true,true,true,true,true,false,false,false,false,false,false,false,false] rfl rfl (by kernel_rfl) (fun _ _ _ h => h) (Or.inl ⟨by rfl, ?_⟩) hHeld ?_ ?_
 rotate_left
 · rintro w' ⟨e6, p7, q1⟩
   go_simp
   try with_reducible rfl
 rotate_left
 · simp only [Act.put, sA, sB, sC]
   rfl
 refine pure_ (i := 5) (N := some 64) (v := ?_) (a' := ?_) #[true,true,true,true,true,true,false,false,false,false,false,false,false] rfl rfl (by kernel_rfl) (fun _ _ _ h => h) (Or.inl ⟨by rfl, ?_⟩) ?_ ?_
 rotate_left
 · intro w'
   go_simp
   try with_reducible rfl
 rotate_left
 · simp only [Act.put, sA, sB, sC]
   rfl
 refine pure_ (i := 6) (N := some 65) (v := ?_) (a' := ?_) #[true,true,true,true,true,true,true,false,false,false,false,false,false] rfl rfl (by kernel_rfl) (fun _ _ _ h => h) (Or.inl ⟨by rfl, ?_⟩) ?_ ?_
 rotate_left
 · intro w'
   go_simp
   try with_reducible rfl
 rotate_left
 · simp only [Act.put, sA, sB, sC]
   rfl
 refine pure_ (i := 7) (N := some 66) (v := ?_) (a' := ?_) #[true,true,true,true,true,true,true,true,false,false,false,false,false] rfl rfl (by kernel_rfl) (fun _ _ _ h => h) (Or.inl ⟨by rfl, ?_⟩) ?_ ?_
 rotate_left
 · intro w'
   go_simp
   try with_reducible rfl
 rotate_left
 · simp only [Act.put, sA, sB, sC]
   rfl
 refine take_ (i := 8) (N := some 67) (v := ?_) (a' := ?_) #[true,true,true,true,true,true,true,true,true,false,false,false,false] rfl rfl (by kernel_rfl) (fun _ _ _ h => h) (Or.inl ⟨by rfl, ?_⟩) hHeld ?_ ?_
 rotate_left
 · rintro w' ⟨e6, p7, q1⟩
   go_simp
   try with_reducible rfl
 rotate_left
 · simp only [Act.put, sA, sB, sC]
   rfl
 refine pure_ (i := 9) (N := some 68) (v := ?_) (a' := ?_) #[true,true,true,true,true,true,true,true,true,true,false,false,false] rfl rfl (by kernel_rfl) (fun _ _ _ h => h) (Or.inl ⟨by rfl, ?_⟩) ?_ ?_
 rotate_left
 · intro w'
   go_simp
   try with_reducible rfl
 rotate_left
 · simp only [Act.put, sA, sB, sC]
   rfl
 refine take_ (i := 10) (N := some 69) (v := ?_) (a' := ?_) #[true,true,true,true,true,true,true,true,true,true,true,false,false] rfl rfl (by kernel_rfl) (fun _ _ _ h => h) (Or.inl ⟨by rfl, ?_⟩) hHeld ?_ ?_
 rotate_left
 · rintro w' ⟨e6, p7, q1⟩
   go_simp
   try with_reducible rfl
 rotate_left
 · simp only [Act.put, sA, sB, sC]
   rfl
 refine pure_ (i := 11) (N := some 70) (v := ?_) (a' := ?_) #[true,true,true,true,true,true,true,true,true,true,true,true,false] rfl rfl (by kernel_rfl) (fun _ _ _ h => h) (Or.inl ⟨by rfl, ?_⟩) ?_ ?_
 rotate_left
 · intro w'
   go_simp
   try with_reducible rfl
 rotate_left
 · simp only [Act.put, sA, sB, sC]
   rfl
 refine pure_ (i := 12) (N := some 71) (v := ?_) (a' := ?_) #[true,true,true,true,true,true,true,true,true,true,true,true,true] rfl rfl (by kernel_rfl) (fun _ _ _ h => h) (Or.inl ⟨by rfl, ?_⟩) ?_ ?_
 rotate_left
 · intro w'
   go_simp
   try with_reducible rfl
 rotate_left
 · simp only [Act.put, sA, sB, sC]
   rfl
 refine done_ (by kernel_rfl) ?_
 obtain ⟨W6, hW6⟩ : ∃ W6, W5.drew = W6 := ⟨_, rfl⟩
 have HT6 := Aside0.mk (HT5.out.drew)
 have HG6 := Aside0.mk (HG5.out.below (below_drew (Below.refl _ _)))
 rw [hW6] at HT6 HG6 ⊢
 clear hW6 hHeld
 obtain ⟨e0, e1, e2, e3, e4, e5, e6⟩ := HT6.out.bg.box
 obtain ⟨p0, p1, p2, p3, p4, p5, p6, p7, p8, p9⟩ := HT6.out.bp.box
 obtain ⟨y0, y1, y2, y3, y4, y5, y6⟩ := HG6.out.box
 have yf := HG6.out.free
 try dsimp only [List.length_nil] at y0 y1 y2 y3 y4 y5 y6
 go_wp2
 have HRD6 : Aside0 (Rd W6 none 0 []) := ⟨Rd.nil _⟩
 refine start_ (n := 9) (S := (fun w' => w'.cell? ⟨s + 1, 6, none⟩ = some (.int .i64 pix) ∧ w'.cell? ⟨s + 1, 7, none⟩ = some (.int .i64 ptm))) (ds := [8]) #[false, false, false, false, false, false, false, false, false] (by kernel_rfl) rfl rfl ⟨p6, p7⟩ (fun hHeld => ?_)
 clear e0 e1 e2 e3 e4 e5 e6 p0 p1 p2 p3 p4 p5 p6 p7 p8 p9
 refine pure_ (i := 0) (N := some 79) (v := ?_) (a' := ?_) #[true,false,false,false,false,false,false,false,false] rfl rfl (by kernel_rfl) (fun _ _ _ h => h) (Or.inl ⟨by rfl, ?_⟩) ?_ ?_
 rotate_left
 · intro w'
   go_simp
   try with_reducible rfl
 rotate_left
 · simp only [Act.put, sA, sB, sC]
   rfl
 refine take_ (i := 1) (N := some 80) (v := ?_) (a' := ?_) #[true,true,false,false,false,false,false,false,false] rfl rfl (by kernel_rfl) (fun _ _ _ h => h) (Or.inl ⟨by rfl, ?_⟩) hHeld ?_ ?_
 rotate_left
 · rintro w' ⟨s0, s1⟩
   go_simp
   try with_reducible rfl
 rotate_left
 · simp only [Act.put, sA, sB, sC]
   rfl
 refine pure_ (i := 2) (N := some 81) (v := ?_) (a' := ?_) #[true,true,true,false,false,false,false,false,false] rfl rfl (by kernel_rfl) (fun _ _ _ h => h) (Or.inl ⟨by rfl, ?_⟩) ?_ ?_
 rotate_left
 · intro w'
   go_simp
   try with_reducible rfl
 rotate_left
 · simp only [Act.put, sA, sB, sC]
   rfl
 refine pure_ (i := 3) (N := some 82) (v := ?_) (a' := ?_) #[true,true,true,true,false,false,false,false,false] rfl rfl (by kernel_rfl) (fun _ _ _ h => h) (Or.inl ⟨by rfl, ?_⟩) ?_ ?_
 rotate_left
 · intro w'
   go_simp
   try with_reducible rfl
 rotate_left
 · simp only [Act.put, sA, sB, sC]
   rfl
 refine take_ (i := 4) (N := some 83) (v := ?_) (a' := ?_) #[true,true,true,true,true,false,false,false,false] rfl rfl (by kernel_rfl) (fun _ _ _ h => h) (Or.inl ⟨by rfl, ?_⟩) hHeld ?_ ?_
 rotate_left
 · rintro w' ⟨s0, s1⟩
   go_simp
   try with_reducible rfl
 rotate_left
 · simp only [Act.put, sA, sB, sC]
   rfl
 refine pure_ (i := 5) (N := some 84) (v := ?_) (a' := ?_) #[true,true,true,true,true,true,false,false,false] rfl rfl (by kernel_rfl) (fun _ _ _ h => h) (Or.inl ⟨by rfl, ?_⟩) ?_ ?_
 rotate_left
 · intro w'
   go_simp
   try with_reducible rfl
 rotate_left
 · simp only [Act.put, sA, sB, sC]
   rfl
 refine one_ (i := 6) (N := none) #[true,true,true,true,true,true,true,false,false] rfl rfl (by kernel_rfl) (by decide) (fun K hK => ?_)
 go_simp
 refine hK.out _ _ ?_ (fun hHeld => ?_)
 · obtain ⟨s0, s1⟩ := hHeld; exact ⟨((Only.refl (fun q => q = n0) _).setCell (p := ⟨n0, 1, none⟩) rfl (.int .i64 (pix + 1))).cell s0 (fun h => by have h2 : s + 1 = n0 := h; omega), ((Only.refl (fun q => q = n0) _).setCell (p := ⟨n0, 1, none⟩) rfl (.int .i64 (pix + 1))).cell s1 (fun h => by have h2 : s + 1 = n0 := h; omega)⟩
 clear hK K
 try simp only [Act.put, sA, sB, sC]
 refine pure_ (i := 7) (N := some 85) (v := ?_) (a' := ?_) #[true,true,true,true,true,true,true,true,false] rfl rfl (by kernel_rfl) (fun _ _ _ h => h) (Or.inl ⟨by rfl, ?_⟩) ?_ ?_
 rotate_left
 · intro w'
   go_simp
   try with_reducible rfl
 rotate_left
 · simp only [Act.put, sA, sB, sC]
   rfl
 refine last_ (i := 8) (N := none) #[true,true,true,true,true,true,true,true,true] rfl rfl (by kernel_rfl) (by decide) (fun K hK => ?_)
 go_simp
 refine hK.out _ _ ?_
 clear hK K
 try simp only [Act.put, sA, sB, sC]
 refine done_ (by kernel_rfl) ?_
 obtain ⟨W9, hW9⟩ : ∃ W9, ((W6.setCell ⟨n0, 1, none⟩ (.int .i64 (pix + 1))).setCell ⟨n0, 2, none⟩ (.int .i64 ptm)).drew = W9 := ⟨_, rfl⟩
 have hb : BlkG ⟨g.id, pix + 1, ptm, g.ht, g.hv, g.hc, []⟩ none 0 n0 W9 := by rw [← hW9]; exact (HG6.out.lay2 pix ptm).below (below_drew (Below.refl _ _))
 have ho : Only (fun q => q = n0) W6 W9 := by rw [← hW9]; exact (((Only.refl (fun q => q = n0) W6).setCell (p := ⟨n0, 1, none⟩) rfl _).setCell (p := ⟨n0, 2, none⟩) rfl _).drew
 have hr := Rd.only HRD6.out ho (fun q hq h => by have h3 : q = n0 := h; subst h3; exact Rd.apartG HRD6.out HG6.out hq)
 rw [hW9]
 have HT9 := Aside0.mk (HT6.out.only ho (fun q hq h => by have h2 : q = n0 := h; have := HSN.out; omega))
 have HG9 := Aside0.mk hb
 have HRD9 := Aside0.mk hr
 clear hW9 ho hb hr hHeld y0 y1 y2 y3 y4 y5 y6 yf
 obtain ⟨e0, e1, e2, e3, e4, e5, e6⟩ := HT9.out.bg.box
 obtain ⟨p0, p1, p2, p3, p4, p5, p6, p7, p8, p9⟩ := HT9.out.bp.box
 obtain ⟨z0, z1, z2, z3, z4, z5, z6⟩ := HT9.out.bz.box
 have zf := HT9.out.bz.free
 obtain ⟨y0, y1, y2, y3, y4, y5, y6⟩ := HG9.out.box
 have yf := HG9.out.free
 dsimp only at y0 y1 y2 y3 y4 y5 y6
 try dsimp only [List.length_nil] at y0 y1 y2 y3 y4 y5 y6
 have hC17 := HC17.out
 simp only [Try.f23] at hC17
 subst hC17
 clear HC17
 go_wp2
 have hst := stored (r := ⟨g.id, pix + 1, ptm, g.ht, g.hv, g.hc, []⟩) (A' := none) (c' := 0) HT9.out.bz HRD9.out HT9.out.b (Nat.le_add_right s 2) (by have := HT9.out.b.size; have := HS.out; omega)
 try simp only [List.length_nil] at hst
 obtain ⟨r0, r1, r2, r3, r4, r5, r6⟩ := hst.1.box
 try dsimp only at r0 r1 r2 r3 r4 r5 r6
 refine bodyPost_ret (v := vG ⟨g.id, pix + 1, ptm, g.ht, g.hv, g.hc, []⟩ none 0) (by simp [results, Try.results23, go_sem, vG, r0, r1, r2, r3, r4, r5, r6]) rfl ⟨none, 0, by rw [HG.out], by rw [HG.out]; exact hst.2.1, by rw [HS.out]; exact hst.2.2⟩
set_option maxHeartbeats 8000000 in
set_option maxRecDepth 100000 in
theorem ref_Do6_k4c (g : Grp) (A : Option Addr) (c : Nat) (pg pk : Int) (pl : List Ent) (pht phv phc pix ptm : Int) (pm ph : Bool) (Ap : Option Addr) (cp : Nat) (w : World) (h : Rd w A c g.l) (hp : Rd w Ap cp pl) (hl : g.l.length + pl.length ≤ 4398046511104) (h4 : pk = 4) (n : Nat) (hk : atL g.l pix = (n : Int)) (ht : termL g.l pix = ptm) (hi0 : 0 ≤ pix) (hi1 : pix ≤ 1099511627776) :
   Calls Try.prog 23 #[vG g A c, vP ⟨pg, pk, pl, pht, phv, phc, pix, ptm, pm, ph⟩ Ap cp] w (GotG w (doRG g ⟨pg, pk, pl, pht, phv, phc, pix, ptm, pm, ph⟩)) := by
 subst h4
 have HG : Aside0 (doRG g ⟨pg, 4, pl, pht, phv, phc, pix, ptm, pm, ph⟩ = ⟨g.id, pix + 1, ptm, g.ht, g.hv, g.hc, fromL g.l (pix + 1)⟩) := ⟨by show (⟨g.id, pix + 1, ptm, g.ht, g.hv, g.hc, if 0 ≤ atL g.l pix ∧ termL g.l pix = ptm then fromL g.l (pix + 1) else []⟩ : Grp) = _; rw [if_pos ⟨by rw [hk]; omega, ht⟩]⟩
 have HIX := Aside0.mk (And.intro hi0 hi1)
 have HK := Aside0.mk hk
 clear hi0 hi1 hk
 have jt : (termL g.l pix == ptm) = true := beq_iff_eq.2 ht
 clear ht
 have HT0 := Aside0.mk (Two.new g A c ⟨pg, 4, pl, pht, phv, phc, pix, ptm, pm, ph⟩ Ap cp w h hp)
 have HLN := Aside0.mk hl
 clear h hp hl
 unfold vG vP
 go_enter Try.func23, Try.ntmps23
 obtain ⟨C, hC⟩ : ∃ C, (match Try.f23.body with | some (.seq _ c) => c | _ => .skip) = C := ⟨_, rfl⟩
 have HC := Aside0.mk hC
 simp only [Try.f23] at hC
 rw [hC]
 clear hC
 go_wp2
 obtain ⟨s, hs⟩ : ∃ s, w.heap.size = s := ⟨_, rfl⟩
 have HT1 := HT0.out
 rw [hs] at HT1 ⊢
 obtain ⟨W, hW⟩ : ∃ W, (((w.alloc (.cells #[.int .i64 g.id, .int .i64 g.fi, .int .i64 g.tm, .int .i64 g.ht, .int .i64 g.hv, .int .i64 g.hc, .slice A g.l.length c] 26)).alloc (.cells #[.int .i64 pg, .int .i64 4, .slice Ap pl.length cp, .int .i64 pht, .int .i64 phv, .int .i64 phc, .int .i64 pix, .int .i64 ptm, .bool pm, .bool ph] 28)).alloc (.cells #[.int .i64 0, .int .i64 0, .int .i64 0, .int .i64 0, .int .i64 0, .int .i64 0, .slice none 0 0] 26)) = W := ⟨_, rfl⟩
 rw [hW] at HT1 ⊢
 have HT := Aside0.mk HT1
 have HS := Aside0.mk hs
 have hC := HC.out
 simp only [Try.f23] at hC
 subst hC
 clear HC
 clear hW HT1 HT0 hs
 obtain ⟨C3, hC3⟩ : ∃ C, (match Try.f23.body with | some (.seq _ (.seq _ c)) => c | _ => .skip) = C := ⟨_, rfl⟩
 have HC3 := Aside0.mk hC3
 simp only [Try.f23] at hC3
 rw [hC3]
 clear hC3
 obtain ⟨e0, e1, e2, e3, e4, e5, e6⟩ := HT.out.bg.box
 obtain ⟨p0, p1, p2, p3, p4, p5, p6, p7, p8, p9⟩ := HT.out.bp.box
 obtain ⟨z0, z1, z2, z3, z4, z5, z6⟩ := HT.out.bz.box
 have zf := HT.out.bz.free
 have hgn := BlkG.new g A c W
 obtain ⟨n0, hn0⟩ : ∃ n, W.heap.size = n := ⟨_, rfl⟩
 have HN0 := Aside0.mk hn0
 have HSN : Aside0 (s + 3 ≤ n0) := ⟨by rw [← hn0]; exact HT.out.sz⟩
 have l1 : s < n0 := by have := HSN.out; omega
 have l2 : s + 1 < n0 := by have := HSN.out; omega
 have l3 : s + 2 < n0 := by have := HSN.out; omega
 have m1 : s ≠ n0 := by omega
 have m2 : s + 1 ≠ n0 := by omega
 have m3 : s + 2 ≠ n0 := by omega
 have o1 := Ne.symm m1
 have o2 := Ne.symm m2
 have o3 := Ne.symm m3
 rw [hn0] at hgn
 have HGN := Aside0.mk hgn
 have HTA := Aside0.mk (HT.out.below ((Below.refl _ _).alloc (Nat.le_refl _) (.cells #[.int .i64 g.id, .int .i64 g.fi, .int .i64 g.tm, .int .i64 g.ht, .int .i64 g.hv, .int .i64 g.hc, .slice A g.l.length c] 26)))
 clear hgn
 go_wp2
 obtain ⟨W3, hW3⟩ : ∃ W3, W.alloc (.cells #[.int .i64 g.id, .int .i64 g.fi, .int .i64 g.tm, .int .i64 g.ht, .int .i64 g.hv, .int .i64 g.hc, .slice A g.l.length c] 26) = W3 := ⟨_, rfl⟩
 rw [hW3] at HTA HGN ⊢
 clear hW3 hn0 e0 e1 e2 e3 e4 e5 e6 p0 p1 p2 p3 p4 p5 p6 p7 p8 p9 z0 z1 z2 z3 z4 z5 z6 zf
 have hC3 := HC3.out
 simp only [Try.f23] at hC3
 subst hC3
 clear HC3
 obtain ⟨C17, hC17⟩ : ∃ C, (match Try.f23.body with | some (.seq _ (.seq _ (.seq _ c))) => c | _ => .skip) = C := ⟨_, rfl⟩
 have HC17 := Aside0.mk hC17
 simp only [Try.f23] at hC17
 rw [hC17]
 clear hC17
 have i0 := HIX.out.1
 have i1 := HIX.out.2
 have hwp : IntKind.i64.wrap (pix + 1) = pix + 1 := by rw [i64_w]; unfold wrap64; omega
 have h3 := at_some (l := g.l) (i := pix) (by rw [HK.out]; omega)
 rw [HK.out, Int.toNat_natCast] at h3
 obtain ⟨hnl, h3⟩ := h3
 have hnl2 : (n : Int) < (g.l.length : Int) := by omega
 have hn0' : (0 : Int) ≤ (n : Int) := by omega
 have HN3 := Aside0.mk h3
 have HNL := Aside0.mk hnl
 obtain ⟨ad, rfl, _⟩ := HTA.out.rg.at_ hnl
 clear h3
 obtain ⟨C14, hC14⟩ : ∃ C, (match Try.f23.body with | some (.seq _ (.seq _ (.seq (.seq _ (.block _ (.seq _ (.cond _ _ (.seq _ (.cond _ _ (.seq _ (.cond _ _ (.seq _ (.cond _ (.seq _ (.seq _ c)) _)))))))))) _))) => c | _ => .skip) = C := ⟨_, rfl⟩
 have HC14 := Aside0.mk hC14
 simp only [Try.f23] at hC14
 rw [hC14]
 clear hC14
 obtain ⟨e0, e1, e2, e3, e4, e5, e6⟩ := HTA.out.bg.box
 obtain ⟨p0, p1, p2, p3, p4, p5, p6, p7, p8, p9⟩ := HTA.out.bp.box
 obtain ⟨y0, y1, y2, y3, y4, y5, y6⟩ := HGN.out.box
 have yf := HGN.out.free
 go_wp2_with (first | (go_at_call 47; refine (atv_calls g (some ad) c pix _ HTA.out.rg HK.out).mono ?_; rintro e w4 ⟨rfl, hw4⟩; have HT4 := Aside0.mk (HTA.out.below hw4); have HG4 := Aside0.mk (HGN.out.below hw4); clear hw4; clear e0 e1 e2 e3 e4 e5 e6 p0 p1 p2 p3 p4 p5 p6 p7 p8 p9 y0 y1 y2 y3 y4 y5 y6 yf; obtain ⟨e0, e1, e2, e3, e4, e5, e6⟩ := HT4.out.bg.box; obtain ⟨p0, p1, p2, p3, p4, p5, p6, p7, p8, p9⟩ := HT4.out.bp.box; obtain ⟨y0, y1, y2, y3, y4, y5, y6⟩ := HG4.out.box; have yf := HG4.out.free) | fail)
 have hx := (Only.refl (fun q => q = n0) w4).setCell (p := ⟨n0, 6, none⟩) rfl (.slice none 0 0)
 have hb := HG4.out.setL [] none 0
 simp only [List.length_nil] at hb
 obtain ⟨W5, hW5⟩ : ∃ W5, w4.setCell ⟨n0, 6, none⟩ (.slice none 0 0) = W5 := ⟨_, rfl⟩
 rw [hW5] at hx hb ⊢
 have HT5 := Aside0.mk (HT4.out.only hx (fun q hq h => by have h2 : q = n0 := h; have := HSN.out; omega))
 have HG5 := Aside0.mk hb
 clear hx hb hW5 e0 e1 e2 e3 e4 e5 e6 p0 p1 p2 p3 p4 p5 p6 p7 p8 p9 y0 y1 y2 y3 y4 y5 y6 yf
 obtain ⟨e0, e1, e2, e3, e4, e5, e6⟩ := HT5.out.bg.box
 obtain ⟨p0, p1, p2, p3, p4, p5, p6, p7, p8, p9⟩ := HT5.out.bp.box
 obtain ⟨y0, y1, y2, y3, y4, y5, y6⟩ := HG5.out.box
 have yf := HG5.out.free
 obtain ⟨ad', hq, q0, q1, q2⟩ := HT5.out.rg.at_ HNL.out
 cases hq
 rw [HN3.out] at q1
 have hC14 := HC14.out
 simp only [Try.f23] at hC14
 subst hC14
 clear HC14
 go_wp2
 refine start_ (n := 13) (S := (fun w' => w'.cell? ⟨s, 6, none⟩ = some (.slice (some ad) g.l.length c) ∧ w'.cell? ⟨s + 1, 7, none⟩ = some (.int .i64 ptm) ∧ w'.cell? ⟨(ad.add (n * 3)).block, (ad.add (n * 3)).off + 1, none⟩ = some (.int .i64 (termL g.l pix)))) (ds := []) #[false, false, false, false, false, false, false, false, false, false, false, false, false] (by kernel_rfl) rfl rfl ⟨e6, p7, q1⟩ (fun hHeld => ?_)
 clear e0 e1 e2 e3 e4 e5 e6 p0 p1 p2 p3 p4 p5 p6 p7 p8 p9 y0 y1 y2 y3 y4 y5 y6 yf q0 q1 q2
 refine pure_ (i := 0) (N := some 59) (v := ?_) (a' := ?_) #[true,false,false,false,false,false,false,false,false,false,false,false,false] rfl rfl (by kernel_rfl) (fun _ _ _ h => h) (Or.inl ⟨by rfl, ?_⟩) ?_ ?_
 rotate_left
 · intro w'
   go_simp
   try with_reducible rfl
 rotate_left
 · simp only [Act.put, sA, sB, sC]
   rfl
 refine pure_ (i := 1) (N := some 60) (v := ?_) (a' := ?_) #[true,true,false,false,false,false,false,false,false,false,false,false,false] rfl rfl (by kernel_rfl) (fun _ _ _ h => h) (Or.inl ⟨by rfl, ?_⟩) ?_ ?_
 rotate_left
 · intro w'
   go_simp
   try with_reducible rfl
 rotate_left
 · simp only [Act.put, sA, sB, sC]
   rfl
 refine pure_ (i := 2) (N := some 61) (v := ?_) (a' := ?_) #[true,true,true,false,false,false,false,false,false,false,false,false,false] rfl rfl (by kernel_rfl) (fun _ _ _ h => h) (Or.inl ⟨by rfl, ?_⟩) ?_ ?_
 rotate_left
 · intro w'
   go_simp
   try with_reducible rfl
 rotate_left
 · simp only [Act.put, sA, sB, sC]
   rfl
 refine pure_ (i := 3) (N := some 62) (v := ?_) (a' := ?_) #[true,true,true,true,false,false,false,false,false,false,false,false,false] rfl rfl (by kernel_rfl) (fun _ _ _ h => h) (Or.inl ⟨by rfl, ?_⟩) ?_ ?_
 rotate_left
 · intro w'
   go_simp
   try with_reducible rfl
 rotate_left
 · simp only [Act.put, sA, sB, sC]
   rfl
 refine take_ (i := 4) (N := some 63) (v := ?_) (a' := ?_) #[true,true,true,true,true,false,false,false,false,false,false,false,false] rfl rfl (by kernel_rfl) (fun _ _ _ h => h) (Or.inl ⟨by rfl, ?_⟩) hHeld ?_ ?_
 rotate_left
 · rintro w' ⟨e6, p7, q1⟩
   go_simp
   try with_reducible rfl
 rotate_left
 · simp only [Act.put, sA, sB, sC]
   rfl
 refine pure_ (i := 5) (N := some 64) (v := ?_) (a' := ?_) #[true,true,true,true,true,true,false,false,false,false,false,false,false] rfl rfl (by kernel_rfl) (fun _ _ _ h => h) (Or.inl ⟨by rfl, ?_⟩) ?_ ?_
 rotate_left
 · intro w'
   go_simp
   try with_reducible rfl
 rotate_left
 · simp only [Act.put, sA, sB, sC]
   rfl
 refine pure_ (i := 6) (N := some 65) (v := ?_) (a' := ?_) #[true,true,true,true,true,true,true,false,false,false,false,false,false] rfl rfl (by kernel_rfl) (fun _ _ _ h => h) (Or.inl ⟨by rfl, ?_⟩) ?_ ?_
 rotate_left
 · intro w'
   go_simp
   try with_reducible rfl
 rotate_left
 · simp only [Act.put, sA, sB, sC]
   rfl
 refine pure_ (i := 7) (N := some 66) (v := ?_) (a' := ?_) #[true,true,true,true,true,true,true,true,false,false,false,false,false] rfl rfl (by kernel_rfl) (fun _ _ _ h => h) (Or.inl ⟨by rfl, ?_⟩) ?_ ?_
 rotate_left
 · intro w'
   go_simp
   try with_reducible rfl
 rotate_left
 · simp only [Act.put, sA, sB, sC]
   rfl
 refine take_ (i := 8) (N := some 67) (v := ?_) (a' := ?_) #[true,true,true,true,true,true,true,true,true,false,false,false,false] rfl rfl (by kernel_rfl) (fun _ _ _ h => h) (Or.inl ⟨by rfl, ?_⟩) hHeld ?_ ?_
 rotate_left
 · rintro w' ⟨e6, p7, q1⟩
   go_simp
   try with_reducible rfl
 rotate_left
 · simp only [Act.put, sA, sB, sC]
   rfl
 refine pure_ (i := 9) (N := some 68) (v := ?_) (a' := ?_) #[true,true,true,true,true,true,true,true,true,true,false,false,false] rfl rfl (by kernel_rfl) (fun _ _ _ h => h) (Or.inl ⟨by rfl, ?_⟩) ?_ ?_
 rotate_left
 · intro w'
   go_simp
   try with_reducible rfl
 rotate_left
 · simp only [Act.put, sA, sB, sC]
   rfl
 refine take_ (i := 10) (N := some 69) (v := ?_) (a' := ?_) #[true,true,true,true,true,true,true,true,true,true,true,false,false] rfl rfl (by kernel_rfl) (fun _ _ _ h => h) (Or.inl ⟨by rfl, ?_⟩) hHeld ?_ ?_
 rotate_left
 · rintro w' ⟨e6, p7, q1⟩
   go_simp
   try with_reducible rfl
 rotate_left
 · simp only [Act.put, sA, sB, sC]
   rfl
 refine pure_ (i := 11) (N := some 70) (v := ?_) (a' := ?_) #[true,true,true,true,true,true,true,true,true,true,true,true,false] rfl rfl (by kernel_rfl) (fun _ _ _ h => h) (Or.inl ⟨by rfl, ?_⟩) ?_ ?_
 rotate_left
 · intro w'
   go_simp
   try with_reducible rfl
 rotate_left
 · simp only [Act.put, sA, sB, sC]
   rfl
 refine pure_ (i := 12) (N := some 71) (v := ?_) (a' := ?_) #[true,true,true,true,true,true,true,true,true,true,true,true,true] rfl rfl (by kernel_rfl) (fun _ _ _ h => h) (Or.inl ⟨by rfl, ?_⟩) ?_ ?_
 rotate_left
 · intro w'
   go_simp
   try with_reducible rfl
 rotate_left
 · simp only [Act.put, sA, sB, sC]
   rfl
 refine done_ (by kernel_rfl) ?_
 obtain ⟨W6, hW6⟩ : ∃ W6, W5.drew = W6 := ⟨_, rfl⟩
 have HT6 := Aside0.mk (HT5.out.drew)
 have HG6 := Aside0.mk (HG5.out.below (below_drew (Below.refl _ _)))
 rw [hW6] at HT6 HG6 ⊢
 clear hW6 hHeld
 obtain ⟨e0, e1, e2, e3, e4, e5, e6⟩ := HT6.out.bg.box
 obtain ⟨p0, p1, p2, p3, p4, p5, p6, p7, p8, p9⟩ := HT6.out.bp.box
 obtain ⟨y0, y1, y2, y3, y4, y5, y6⟩ := HG6.out.box
 have yf := HG6.out.free
 try dsimp only [List.length_nil] at y0 y1 y2 y3 y4 y5 y6
 go_wp2_with (first | (go_at_call 48; refine (ref_from g.l (some ad) c (pix + 1) _ HT6.out.rg).mono ?_; rintro e w7 ⟨A1, c1, rfl, hrd6, hfr6, hw7⟩; have HRD7 := Aside0.mk hrd6; have HFR7 := Aside0.mk hfr6; have HT7 := Aside0.mk (HT6.out.below hw7); have HG7 := Aside0.mk (HG6.out.below hw7); clear hrd6 hfr6 hw7; clear e0 e1 e2 e3 e4 e5 e6 p0 p1 p2 p3 p4 p5 p6 p7 p8 p9 y0 y1 y2 y3 y4 y5 y6 yf; obtain ⟨e0, e1, e2, e3, e4, e5, e6⟩ := HT7.out.bg.box; obtain ⟨p0, p1, p2, p3, p4, p5, p6, p7, p8, p9⟩ := HT7.out.bp.box; obtain ⟨y0, y1, y2, y3, y4, y5, y6⟩ := HG7.out.box; have yf := HG7.out.free; dsimp only [List.length_nil] at y0 y1 y2 y3 y4 y5 y6) | fail)
 have hx := (Only.refl (fun q => q = n0) w7).setCell (p := ⟨n0, 6, none⟩) rfl (.slice A1 (fromL g.l (pix + 1)).length c1)
 have hb := HG7.out.setL (fromL g.l (pix + 1)) A1 c1
 have hr := Rd.only HRD7.out hx (fun q hq h => by have h3 : q = n0 := h; subst h3; exact Rd.apartG HRD7.out HG7.out hq)
 obtain ⟨W8, hW8⟩ : ∃ W8, w7.setCell ⟨n0, 6, none⟩ (.slice A1 (fromL g.l (pix + 1)).length c1) = W8 := ⟨_, rfl⟩
 rw [hW8] at hx hb hr ⊢
 have HT8 := Aside0.mk (HT7.out.only hx (fun q hq h => by have h2 : q = n0 := h; have := HSN.out; omega))
 have HG8 := Aside0.mk hb
 have HRD8 := Aside0.mk hr
 clear hx hb hr hW8 e0 e1 e2 e3 e4 e5 e6 p0 p1 p2 p3 p4 p5 p6 p7 p8 p9 y0 y1 y2 y3 y4 y5 y6 yf
 obtain ⟨e0, e1, e2, e3, e4, e5, e6⟩ := HT8.out.bg.box
 obtain ⟨p0, p1, p2, p3, p4, p5, p6, p7, p8, p9⟩ := HT8.out.bp.box
 obtain ⟨y0, y1, y2, y3, y4, y5, y6⟩ := HG8.out.box
 have yf := HG8.out.free
 dsimp only at y0 y1 y2 y3 y4 y5 y6
 refine start_ (n := 9) (S := (fun w' => w'.cell? ⟨s + 1, 6, none⟩ = some (.int .i64 pix) ∧ w'.cell? ⟨s + 1, 7, none⟩ = some (.int .i64 ptm))) (ds := [8]) #[false, false, false, false, false, false, false, false, false] (by kernel_rfl) rfl rfl ⟨p6, p7⟩ (fun hHeld => ?_)
 clear e0 e1 e2 e3 e4 e5 e6 p0 p1 p2 p3 p4 p5 p6 p7 p8 p9
 refine pure_ (i := 0) (N := some 79) (v := ?_) (a' := ?_) #[true,false,false,false,false,false,false,false,false] rfl rfl (by kernel_rfl) (fun _ _ _ h => h) (Or.inl ⟨by rfl, ?_⟩) ?_ ?_
 rotate_left
 · intro w'
   go_simp
   try with_reducible rfl
 rotate_left
 · simp only [Act.put, sA, sB, sC]
   rfl
 refine take_ (i := 1) (N := some 80) (v := ?_) (a' := ?_) #[true,true,false,false,false,false,false,false,false] rfl rfl (by kernel_rfl) (fun _ _ _ h => h) (Or.inl ⟨by rfl, ?_⟩) hHeld ?_ ?_
 rotate_left
 · rintro w' ⟨s0, s1⟩
   go_simp
   try with_reducible rfl
 rotate_left
 · simp only [Act.put, sA, sB, sC]
   rfl
 refine pure_ (i := 2) (N := some 81) (v := ?_) (a' := ?_) #[true,true,true,false,false,false,false,false,false] rfl rfl (by kernel_rfl) (fun _ _ _ h => h) (Or.inl ⟨by rfl, ?_⟩) ?_ ?_
 rotate_left
 · intro w'
   go_simp
   try with_reducible rfl
 rotate_left
 · simp only [Act.put, sA, sB, sC]
   rfl
 refine pure_ (i := 3) (N := some 82) (v := ?_) (a' := ?_) #[true,true,true,true,false,false,false,false,false] rfl rfl (by kernel_rfl) (fun _ _ _ h => h) (Or.inl ⟨by rfl, ?_⟩) ?_ ?_
 rotate_left
 · intro w'
   go_simp
   try with_reducible rfl
 rotate_left
 · simp only [Act.put, sA, sB, sC]
   rfl
 refine take_ (i := 4) (N := some 83) (v := ?_) (a' := ?_) #[true,true,true,true,true,false,false,false,false] rfl rfl (by kernel_rfl) (fun _ _ _ h => h) (Or.inl ⟨by rfl, ?_⟩) hHeld ?_ ?_
 rotate_left
 · rintro w' ⟨s0, s1⟩
   go_simp
   try with_reducible rfl
 rotate_left
 · simp only [Act.put, sA, sB, sC]
   rfl
 refine pure_ (i := 5) (N := some 84) (v := ?_) (a' := ?_) #[true,true,true,true,true,true,false,false,false] rfl rfl (by kernel_rfl) (fun _ _ _ h => h) (Or.inl ⟨by rfl, ?_⟩) ?_ ?_
 rotate_left
 · intro w'
   go_simp
   try with_reducible rfl
 rotate_left
 · simp only [Act.put, sA, sB, sC]
   rfl
 refine one_ (i := 6) (N := none) #[true,true,true,true,true,true,true,false,false] rfl rfl (by kernel_rfl) (by decide) (fun K hK => ?_)
 go_simp
 refine hK.out _ _ ?_ (fun hHeld => ?_)
 · obtain ⟨s0, s1⟩ := hHeld; exact ⟨((Only.refl (fun q => q = n0) _).setCell (p := ⟨n0, 1, none⟩) rfl (.int .i64 (pix + 1))).cell s0 (fun h => by have h2 : s + 1 = n0 := h; omega), ((Only.refl (fun q => q = n0) _).setCell (p := ⟨n0, 1, none⟩) rfl (.int .i64 (pix + 1))).cell s1 (fun h => by have h2 : s + 1 = n0 := h; omega)⟩
 clear hK K
 try simp only [Act.put, sA, sB, sC]
 refine pure_ (i := 7) (N := some 85) (v := ?_) (a' := ?_) #[true,true,true,true,true,true,true,true,false] rfl rfl (by kernel_rfl) (fun _ _ _ h => h) (Or.inl ⟨by rfl, ?_⟩) ?_ ?_
 rotate_left
 · intro w'
   go_simp
   try with_reducible rfl
 rotate_left
 · simp only [Act.put, sA, sB, sC]
   rfl
 refine last_ (i := 8) (N := none) #[true,true,true,true,true,true,true,true,true] rfl rfl (by kernel_rfl) (by decide) (fun K hK => ?_)
 go_simp
 refine hK.out _ _ ?_
 clear hK K
 try simp only [Act.put, sA, sB, sC]
 refine done_ (by kernel_rfl) ?_
 obtain ⟨W9, hW9⟩ : ∃ W9, ((W8.setCell ⟨n0, 1, none⟩ (.int .i64 (pix + 1))).setCell ⟨n0, 2, none⟩ (.int .i64 ptm)).drew = W9 := ⟨_, rfl⟩
 have hb : BlkG ⟨g.id, pix + 1, ptm, g.ht, g.hv, g.hc, (fromL g.l (pix + 1))⟩ A1 c1 n0 W9 := by rw [← hW9]; exact (HG8.out.lay2 pix ptm).below (below_drew (Below.refl _ _))
 have ho : Only (fun q => q = n0) W8 W9 := by rw [← hW9]; exact (((Only.refl (fun q => q = n0) W8).setCell (p := ⟨n0, 1, none⟩) rfl _).setCell (p := ⟨n0, 2, none⟩) rfl _).drew
 have hr := Rd.only HRD8.out ho (fun q hq h => by have h3 : q = n0 := h; subst h3; exact Rd.apartG HRD8.out HG8.out hq)
 rw [hW9]
 have HT9 := Aside0.mk (HT8.out.only ho (fun q hq h => by have h2 : q = n0 := h; have := HSN.out; omega))
 have HG9 := Aside0.mk hb
 have HRD9 := Aside0.mk hr
 clear hW9 ho hb hr hHeld y0 y1 y2 y3 y4 y5 y6 yf
 obtain ⟨e0, e1, e2, e3, e4, e5, e6⟩ := HT9.out.bg.box
 obtain ⟨p0, p1, p2, p3, p4, p5, p6, p7, p8, p9⟩ := HT9.out.bp.box
 obtain ⟨z0, z1, z2, z3, z4, z5, z6⟩ := HT9.out.bz.box
 have zf := HT9.out.bz.free
 obtain ⟨y0, y1, y2, y3, y4, y5, y6⟩ := HG9.out.box
 have yf := HG9.out.free
 dsimp only at y0 y1 y2 y3 y4 y5 y6
 try dsimp only [List.length_nil] at y0 y1 y2 y3 y4 y5 y6
 have hC17 := HC17.out
 simp only [Try.f23] at hC17
 subst hC17
 clear HC17
 go_wp2
 have hst := stored (r := ⟨g.id, pix + 1, ptm, g.ht, g.hv, g.hc, (fromL g.l (pix + 1))⟩) (A' := A1) (c' := c1) HT9.out.bz HRD9.out HT9.out.b (Nat.le_add_right s 2) (by have := HT9.out.b.size; have := HS.out; omega)
 try simp only [List.length_nil] at hst
 obtain ⟨r0, r1, r2, r3, r4, r5, r6⟩ := hst.1.box
 try dsimp only at r0 r1 r2 r3 r4 r5 r6
 refine bodyPost_ret (v := vG ⟨g.id, pix + 1, ptm, g.ht, g.hv, g.hc, (fromL g.l (pix + 1))⟩ A1 c1) (by simp [results, Try.results23, go_sem, vG, r0, r1, r2, r3, r4, r5, r6]) rfl ⟨A1, c1, by rw [HG.out], by rw [HG.out]; exact hst.2.1, by rw [HS.out]; exact hst.2.2⟩
theorem ref_Do6 (g : Grp) (A : Option Addr) (c : Nat) (p : Prt) (Ap : Option Addr) (cp : Nat) (w : World) (h : Rd w A c g.l) (hp : Rd w Ap cp p.l) (hl : g.l.length + p.l.length ≤ 4398046511104) (hc : canR g p) :
   Calls Try.prog 23 #[vG g A c, vP p Ap cp] w (GotG w (doRG g p)) := by
 obtain ⟨pg, pk, pl, pht, phv, phc, pix, ptm, pm, ph⟩ := p
 rcases hc with ⟨h4, hne⟩ | h4 | ⟨h4, ha, hi0, hi1⟩ | ⟨h4, hi0, hi1⟩
 · exact ref_Do6_k1 g A c pg pk pl pht phv phc pix ptm pm ph Ap cp w h hp hl h4 hne
 · exact ref_Do6_k2 g A c pg pk pl pht phv phc pix ptm pm ph Ap cp w h hp hl h4
 · obtain ⟨n, hn⟩ := Int.eq_ofNat_of_zero_le ha
   exact ref_Do6_k3 g A c pg pk pl pht phv phc pix ptm pm ph Ap cp w h hp hl h4 n hn hi0 hi1
 · by_cases ha : 0 ≤ atL g.l pix
   · obtain ⟨n, hn⟩ := Int.eq_ofNat_of_zero_le ha
     by_cases ht : termL g.l pix = ptm
     · exact ref_Do6_k4c g A c pg pk pl pht phv phc pix ptm pm ph Ap cp w h hp hl h4 n hn ht hi0 hi1
     · exact ref_Do6_k4b g A c pg pk pl pht phv phc pix ptm pm ph Ap cp w h hp hl h4 n hn ht hi0 hi1
   · exact ref_Do6_k4a g A c pg pk pl pht phv phc pix ptm pm ph Ap cp w h hp hl h4 _ rfl ha hi0 hi1
end Go.Proofs.Ytlfdmlacadoolaa.PartW
