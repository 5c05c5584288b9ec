/- The walk of laderef6.Check. -/
import Derived.Test.YtlfdmlacadoolaaLast
import Derived.Test.YtlfdmlacadoolaaMf
set_option linter.unusedVariables false
set_option linter.unusedSimpArgs false
namespace Go.Proofs.Ytlfdmlacadoolaa.Sp
open Go Go.RowKit Go.Proofs.Ytlfdmlacadoolaa.A Go.Proofs.YtlfdmlacadoolaaW.PrintWords Go.Proofs.YtlfdmlacadoolaaW.PrintLast Go.Proofs.YtlfdmlacadoolaaW.PrintMore
/-- may this part be done, of a part that is one and stands in this group -/
def chkK (g : Grp) (p : Prt) : Int :=
 if p.k = 1 then (if (el p.l 0).f0 < g.fi then 15 else if lastG g < wrap64 ((el p.l 0).f0 - 1) then 14 else 0)
 else if p.k = 3 then (if p.ix < g.fi then 15 else if lastG g < p.ix then 16 else if p.tm ≠ 0 ∧ p.tm ≠ (el g.l (p.ix - g.fi).toNat).f1 then 11 else 0)
 else if p.k = 4 then (if p.ix < g.fi then 15 else 0)
 else 0
def chkG (g : Grp) (p : Prt) : Int := if isP p = true ∧ p.k ≠ 6 ∧ p.k ≠ 5 ∧ p.g = g.id then chkK g p else 11
end Go.Proofs.Ytlfdmlacadoolaa.Sp
namespace Go.Proofs.Ytlfdmlacadoolaa.PartW
open Go Go.RowKit Go.Shelf Go.Proofs.Ytlfdmlacadoolaa.A Go.Proofs.Ytlfdmlacadoolaa.Sp Go.Proofs.Ytlfdmlacadoolaa.Reg Go.Proofs.Ytlfdmlacadoolaa.Seq Go.Proofs.YtlfdmlacadoolaaW.PrintWords Go.Proofs.YtlfdmlacadoolaaW.PrintLast Go.Proofs.YtlfdmlacadoolaaW.PrintMore
/-- a group and a part in their boxes -/
structure Pair (g : Grp) (A : Option Addr) (c : Nat) (p : Prt) (Ap : Option Addr) (cp : Nat) (s : Nat) (w W : World) : Prop where
 hs : w.heap.size = s
 bg : BlkG g A c s W
 bp : BlkP p Ap cp (s + 1) W
 rg : Rd W A c g.l
 rp : Rd W Ap cp p.l
 ag : ∀ b, inA A g.l b → b < s
 ap : ∀ b, inA Ap p.l b → b < s
 b : Below s w W
 sz : s + 2 ≤ W.heap.size
section
variable {g : Grp} {A : Option Addr} {c : Nat} {p : Prt} {Ap : Option Addr} {cp s : Nat} {w W W' : World}
theorem Pair.below (h : Pair g A c p Ap cp s w W) (hb : Below W.heap.size W W') : Pair g A c p Ap cp s w W' :=
 ⟨h.hs, h.bg.below hb, h.bp.below hb, h.rg.below hb, h.rp.below hb, h.ag, h.ap, h.b.trans (hb.mono (by have := h.sz; omega)), Nat.le_trans h.sz hb.size⟩
theorem Pair.alloc (h : Pair g A c p Ap cp s w W) (o : Obj) : Pair g A c p Ap cp s w (W.alloc o) := h.below ((Below.refl _ _).alloc (Nat.le_refl _) o)
theorem Pair.drew (h : Pair g A c p Ap cp s w W) : Pair g A c p Ap cp s w W.drew := h.below (below_drew (Below.refl _ _))
theorem Pair.only {U : Nat → Prop} (h : Pair g A c p Ap cp s w W) (ho : Only U W W') (hU : ∀ q, q < s + 2 → ¬ U q) : Pair g A c p Ap cp s w W' :=
 ⟨h.hs, h.bg.only ho (hU _ (by omega)), BlkP.only h.bp ho (hU _ (by omega)), h.rg.only ho (fun q hq => hU _ (by have := h.ag q hq; omega)), h.rp.only ho (fun q hq => hU _ (by have := h.ap q hq; omega)), h.ag, h.ap,
   h.b.trans (ho.below (by have := h.sz; omega) (fun q hq => hU _ (by omega))), Nat.le_trans h.sz ho.size⟩
theorem Pair.new (g : Grp) (A : Option Addr) (c : Nat) (p : Prt) (Ap : Option Addr) (cp : Nat) (w : World) (h : Rd w A c g.l) (hp : Rd w Ap cp p.l) :
   Pair g A c p Ap cp w.heap.size w ((w.alloc (.cells #[.int .i64 g.id, .int .i64 g.fi, .int .i64 g.tm, .int .i64 g.ht, .int .i64 g.hv, .int .i64 g.hc, .slice A g.l.length c] 26)).alloc (.cells #[.int .i64 p.g, .int .i64 p.k, .slice Ap p.l.length cp, .int .i64 p.ht, .int .i64 p.hv, .int .i64 p.hc, .int .i64 p.ix, .int .i64 p.tm, .bool p.mrk, .bool p.hed] 28)) := by
 have p0 := BlkP.new p Ap cp (w.alloc (.cells #[.int .i64 g.id, .int .i64 g.fi, .int .i64 g.tm, .int .i64 g.ht, .int .i64 g.hv, .int .i64 g.hc, .slice A g.l.length c] 26))
 rw [World.size_alloc] at p0
 exact ⟨rfl, (BlkG.new g A c w).alloc _, p0, (h.alloc _).alloc _, (hp.alloc _).alloc _, fun b hb => h.lt hb, fun b hb => hp.lt hb, by repeat (first | exact Below.refl _ _ | apply below_alloc), by simp⟩
end
theorem ris_calls (p : Prt) (A : Option Addr) (c : Nat) (w : World) (h : Rd w A c p.l) {b : Bool} (hb : isP p = b) : Calls Try.prog 40 #[vP p A c] w fun e w' => e = .returned (.bool b) ∧ Below w.heap.size w w' := by
 rw [← hb]; exact ref_Is p A c w h
set_option maxHeartbeats 8000000 in
set_option maxRecDepth 100000 in
theorem ref_Check_n1 (g : Grp) (A : Option Addr) (c : Nat) (pg pk : Int) (pl : List Ent) (pht phv phc pix ptm : Int) (pm ph : Bool) (Ap : Option Addr) (cp : Nat) (w : World) (h : Rd w A c g.l) (hp : Rd w Ap cp pl) (h1 : isP ⟨pg, pk, pl, pht, phv, phc, pix, ptm, pm, ph⟩ = false) :
   Calls Try.prog 21 #[vG g A c, vP ⟨pg, pk, pl, pht, phv, phc, pix, ptm, pm, ph⟩ Ap cp] w fun e w' => e = .returned (.int .i64 (chkG g ⟨pg, pk, pl, pht, phv, phc, pix, ptm, pm, ph⟩)) ∧ Below w.heap.size w w' := by
 have HG : Aside0 (chkG g ⟨pg, pk, pl, pht, phv, phc, pix, ptm, pm, ph⟩ = 11) := ⟨by unfold chkG; rw [if_neg (by rw [h1]; simp)]⟩
 have HB := Aside0.mk h1
 clear h1
 obtain ⟨s, hs⟩ : ∃ s, w.heap.size = s := ⟨_, rfl⟩
 have hp0 := Pair.new g A c ⟨pg, pk, pl, pht, phv, phc, pix, ptm, pm, ph⟩ Ap cp w h hp
 rw [hs] at hp0
 have HP0 := Aside0.mk hp0
 have HS := Aside0.mk hs
 clear h hp hp0
 unfold vG vP
 go_enter Try.func21, Try.ntmps21
 go_wp2_with (first | (go_at_call 40; refine (ris_calls ⟨pg, pk, pl, pht, phv, phc, pix, ptm, pm, ph⟩ _ cp _ HP0.out.rp HB.out).mono ?_; rintro e w1 ⟨rfl, hw1⟩; have HP1 := Aside0.mk (HP0.out.below hw1); clear hw1; obtain ⟨e0, e1, e2, e3, e4, e5, e6⟩ := HP1.out.bg.box; obtain ⟨p0, p1, p2, p3, p4, p5, p6, p7, p8, p9⟩ := HP1.out.bp.box) | fail)
 go_ret
 exact ⟨by rw [HG.out]; try rfl, by first | exact HP1.out.b | (rw [HS.out]; exact HP1.out.b)⟩
set_option maxHeartbeats 8000000 in
set_option maxRecDepth 100000 in
theorem ref_Check_n2 (g : Grp) (A : Option Addr) (c : Nat) (pg pk : Int) (pl : List Ent) (pht phv phc pix ptm : Int) (pm ph : Bool) (Ap : Option Addr) (cp : Nat) (w : World) (h : Rd w A c g.l) (hp : Rd w Ap cp pl) (h1 : isP ⟨pg, pk, pl, pht, phv, phc, pix, ptm, pm, ph⟩ = true) (h2 : pk = 6) :
   Calls Try.prog 21 #[vG g A c, vP ⟨pg, pk, pl, pht, phv, phc, pix, ptm, pm, ph⟩ Ap cp] w fun e w' => e = .returned (.int .i64 (chkG g ⟨pg, pk, pl, pht, phv, phc, pix, ptm, pm, ph⟩)) ∧ Below w.heap.size w w' := by
 subst h2
 have HG : Aside0 (chkG g ⟨pg, 6, pl, pht, phv, phc, pix, ptm, pm, ph⟩ = 11) := ⟨by unfold chkG; rw [if_neg (by rintro ⟨_, h2, h3, _⟩; first | exact h2 rfl | exact h3 rfl)]⟩
 have HB := Aside0.mk h1
 clear h1
 obtain ⟨s, hs⟩ : ∃ s, w.heap.size = s := ⟨_, rfl⟩
 have hp0 := Pair.new g A c ⟨pg, 6, pl, pht, phv, phc, pix, ptm, pm, ph⟩ Ap cp w h hp
 rw [hs] at hp0
 have HP0 := Aside0.mk hp0
 have HS := Aside0.mk hs
 clear h hp hp0
 unfold vG vP
 go_enter Try.func21, Try.ntmps21
 go_wp2_with (first | (go_at_call 40; refine (ris_calls ⟨pg, 6, pl, pht, phv, phc, pix, ptm, pm, ph⟩ _ cp _ HP0.out.rp HB.out).mono ?_; rintro e w1 ⟨rfl, hw1⟩; have HP1 := Aside0.mk (HP0.out.below hw1); clear hw1; obtain ⟨e0, e1, e2, e3, e4, e5, e6⟩ := HP1.out.bg.box; obtain ⟨p0, p1, p2, p3, p4, p5, p6, p7, p8, p9⟩ := HP1.out.bp.box) | fail)
 go_ret
 exact ⟨by rw [HG.out]; try rfl, by first | exact HP1.out.b | (rw [HS.out]; exact HP1.out.b)⟩
set_option maxHeartbeats 8000000 in
set_option maxRecDepth 100000 in
theorem ref_Check_n3 (g : Grp) (A : Option Addr) (c : Nat) (pg pk : Int) (pl : List Ent) (pht phv phc pix ptm : Int) (pm ph : Bool) (Ap : Option Addr) (cp : Nat) (w : World) (h : Rd w A c g.l) (hp : Rd w Ap cp pl) (h1 : isP ⟨pg, pk, pl, pht, phv, phc, pix, ptm, pm, ph⟩ = true) (h2 : pk = 5) :
   Calls Try.prog 21 #[vG g A c, vP ⟨pg, pk, pl, pht, phv, phc, pix, ptm, pm, ph⟩ Ap cp] w fun e w' => e = .returned (.int .i64 (chkG g ⟨pg, pk, pl, pht, phv, phc, pix, ptm, pm, ph⟩)) ∧ Below w.heap.size w w' := by
 subst h2
 have HG : Aside0 (chkG g ⟨pg, 5, pl, pht, phv, phc, pix, ptm, pm, ph⟩ = 11) := ⟨by unfold chkG; rw [if_neg (by rintro ⟨_, h2, h3, _⟩; first | exact h2 rfl | exact h3 rfl)]⟩
 have HB := Aside0.mk h1
 clear h1
 obtain ⟨s, hs⟩ : ∃ s, w.heap.size = s := ⟨_, rfl⟩
 have hp0 := Pair.new g A c ⟨pg, 5, pl, pht, phv, phc, pix, ptm, pm, ph⟩ Ap cp w h hp
 rw [hs] at hp0
 have HP0 := Aside0.mk hp0
 have HS := Aside0.mk hs
 clear h hp hp0
 unfold vG vP
 go_enter Try.func21, Try.ntmps21
 go_wp2_with (first | (go_at_call 40; refine (ris_calls ⟨pg, 5, pl, pht, phv, phc, pix, ptm, pm, ph⟩ _ cp _ HP0.out.rp HB.out).mono ?_; rintro e w1 ⟨rfl, hw1⟩; have HP1 := Aside0.mk (HP0.out.below hw1); clear hw1; obtain ⟨e0, e1, e2, e3, e4, e5, e6⟩ := HP1.out.bg.box; obtain ⟨p0, p1, p2, p3, p4, p5, p6, p7, p8, p9⟩ := HP1.out.bp.box) | fail)
 go_ret
 exact ⟨by rw [HG.out]; try rfl, by first | exact HP1.out.b | (rw [HS.out]; exact HP1.out.b)⟩
set_option maxHeartbeats 8000000 in
set_option maxRecDepth 100000 in
theorem ref_Check_n4 (g : Grp) (A : Option Addr) (c : Nat) (pg pk : Int) (pl : List Ent) (pht phv phc pix ptm : Int) (pm ph : Bool) (Ap : Option Addr) (cp : Nat) (w : World) (h : Rd w A c g.l) (hp : Rd w Ap cp pl) (h1 : isP ⟨pg, pk, pl, pht, phv, phc, pix, ptm, pm, ph⟩ = true) (h2 : pk ≠ 6) (h3 : pk ≠ 5) (h4 : pg ≠ g.id) :
   Calls Try.prog 21 #[vG g A c, vP ⟨pg, pk, pl, pht, phv, phc, pix, ptm, pm, ph⟩ Ap cp] w fun e w' => e = .returned (.int .i64 (chkG g ⟨pg, pk, pl, pht, phv, phc, pix, ptm, pm, ph⟩)) ∧ Below w.heap.size w w' := by
 have HG : Aside0 (chkG g ⟨pg, pk, pl, pht, phv, phc, pix, ptm, pm, ph⟩ = 11) := ⟨by unfold chkG; rw [if_neg (by rintro ⟨_, _, _, h5⟩; exact h4 h5)]⟩
 have HB := Aside0.mk h1
 have j2 : (pk == 6) = false := beq_eq_false_iff_ne.2 h2
 have j3 : (pk == 5) = false := beq_eq_false_iff_ne.2 h3
 have j4 : (pg == g.id) = false := beq_eq_false_iff_ne.2 h4
 clear h1 h2 h3 h4
 obtain ⟨s, hs⟩ : ∃ s, w.heap.size = s := ⟨_, rfl⟩
 have hp0 := Pair.new g A c ⟨pg, pk, pl, pht, phv, phc, pix, ptm, pm, ph⟩ Ap cp w h hp
 rw [hs] at hp0
 have HP0 := Aside0.mk hp0
 have HS := Aside0.mk hs
 clear h hp hp0
 unfold vG vP
 go_enter Try.func21, Try.ntmps21
 go_wp2_with (first | (go_at_call 40; refine (ris_calls ⟨pg, pk, pl, pht, phv, phc, pix, ptm, pm, ph⟩ _ cp _ HP0.out.rp HB.out).mono ?_; rintro e w1 ⟨rfl, hw1⟩; have HP1 := Aside0.mk (HP0.out.below hw1); clear hw1; obtain ⟨e0, e1, e2, e3, e4, e5, e6⟩ := HP1.out.bg.box; obtain ⟨p0, p1, p2, p3, p4, p5, p6, p7, p8, p9⟩ := HP1.out.bp.box) | fail)
 go_ret
 exact ⟨by rw [HG.out]; try rfl, by first | exact HP1.out.b | (rw [HS.out]; exact HP1.out.b)⟩
set_option maxHeartbeats 8000000 in
set_option maxRecDepth 100000 in
theorem ref_Check_b (g : Grp) (A : Option Addr) (c : Nat) (pg pk : Int) (pl : List Ent) (pht phv phc pix ptm : Int) (pm ph : Bool) (Ap : Option Addr) (cp : Nat) (w : World) (h : Rd w A c g.l) (hp : Rd w Ap cp pl) (h1 : isP ⟨pg, pk, pl, pht, phv, phc, pix, ptm, pm, ph⟩ = true) (h3 : pg = g.id) (h4 : pk = 2) :
   Calls Try.prog 21 #[vG g A c, vP ⟨pg, pk, pl, pht, phv, phc, pix, ptm, pm, ph⟩ Ap cp] w fun e w' => e = .returned (.int .i64 (chkG g ⟨pg, pk, pl, pht, phv, phc, pix, ptm, pm, ph⟩)) ∧ Below w.heap.size w w' := by
 subst h3
 subst h4
 have HG : Aside0 (chkG g ⟨g.id, 2, pl, pht, phv, phc, pix, ptm, pm, ph⟩ = 0) := ⟨by unfold chkG; rw [if_pos ⟨h1, by show ¬ (2 : Int) = 6; decide, by show ¬ (2 : Int) = 5; decide, rfl⟩]; rfl⟩
 have HB := Aside0.mk h1
 clear h1
 obtain ⟨s, hs⟩ : ∃ s, w.heap.size = s := ⟨_, rfl⟩
 have hp0 := Pair.new g A c ⟨g.id, 2, pl, pht, phv, phc, pix, ptm, pm, ph⟩ Ap cp w h hp
 rw [hs] at hp0
 have HP0 := Aside0.mk hp0
 have HS := Aside0.mk hs
 clear h hp hp0
 unfold vG vP
 go_enter Try.func21, Try.ntmps21
 go_wp2_with (first | (go_at_call 40; refine (ris_calls ⟨g.id, 2, pl, pht, phv, phc, pix, ptm, pm, ph⟩ _ cp _ HP0.out.rp HB.out).mono ?_; rintro e w1 ⟨rfl, hw1⟩; have HP1 := Aside0.mk (HP0.out.below hw1); clear hw1; obtain ⟨e0, e1, e2, e3, e4, e5, e6⟩ := HP1.out.bg.box; obtain ⟨p0, p1, p2, p3, p4, p5, p6, p7, p8, p9⟩ := HP1.out.bp.box) | fail)
 go_ret
 exact ⟨by rw [HG.out]; try rfl, by first | exact HP1.out.b | (rw [HS.out]; exact HP1.out.b)⟩
set_option maxHeartbeats 8000000 in
set_option maxRecDepth 100000 in
theorem ref_Check_d1 (g : Grp) (A : Option Addr) (c : Nat) (pg pk : Int) (pl : List Ent) (pht phv phc pix ptm : Int) (pm ph : Bool) (Ap : Option Addr) (cp : Nat) (w : World) (h : Rd w A c g.l) (hp : Rd w Ap cp pl) (h1 : isP ⟨pg, pk, pl, pht, phv, phc, pix, ptm, pm, ph⟩ = true) (h3 : pg = g.id) (h4 : pk = 4) (h5 : pix < g.fi) :
   Calls Try.prog 21 #[vG g A c, vP ⟨pg, pk, pl, pht, phv, phc, pix, ptm, pm, ph⟩ Ap cp] w fun e w' => e = .returned (.int .i64 (chkG g ⟨pg, pk, pl, pht, phv, phc, pix, ptm, pm, ph⟩)) ∧ Below w.heap.size w w' := by
 subst h3
 subst h4
 have HG : Aside0 (chkG g ⟨g.id, 4, pl, pht, phv, phc, pix, ptm, pm, ph⟩ = 15) := ⟨by unfold chkG; rw [if_pos ⟨h1, by show ¬ (4 : Int) = 6; decide, by show ¬ (4 : Int) = 5; decide, rfl⟩]; unfold chkK; rw [if_neg (by show ¬ (4 : Int) = 1; decide), if_neg (by show ¬ (4 : Int) = 3; decide), if_pos rfl, if_pos h5]⟩
 have HB := Aside0.mk h1
 have j5 : decide (pix < g.fi) = true := decide_eq_true h5
 clear h5
 clear h1
 obtain ⟨s, hs⟩ : ∃ s, w.heap.size = s := ⟨_, rfl⟩
 have hp0 := Pair.new g A c ⟨g.id, 4, pl, pht, phv, phc, pix, ptm, pm, ph⟩ Ap cp w h hp
 rw [hs] at hp0
 have HP0 := Aside0.mk hp0
 have HS := Aside0.mk hs
 clear h hp hp0
 unfold vG vP
 go_enter Try.func21, Try.ntmps21
 go_wp2_with (first | (go_at_call 40; refine (ris_calls ⟨g.id, 4, pl, pht, phv, phc, pix, ptm, pm, ph⟩ _ cp _ HP0.out.rp HB.out).mono ?_; rintro e w1 ⟨rfl, hw1⟩; have HP1 := Aside0.mk (HP0.out.below hw1); clear hw1; obtain ⟨e0, e1, e2, e3, e4, e5, e6⟩ := HP1.out.bg.box; obtain ⟨p0, p1, p2, p3, p4, p5, p6, p7, p8, p9⟩ := HP1.out.bp.box) | fail)
 go_ret
 exact ⟨by rw [HG.out]; try rfl, by first | exact HP1.out.b | (rw [HS.out]; exact HP1.out.b)⟩
set_option maxHeartbeats 8000000 in
set_option maxRecDepth 100000 in
theorem ref_Check_d2 (g : Grp) (A : Option Addr) (c : Nat) (pg pk : Int) (pl : List Ent) (pht phv phc pix ptm : Int) (pm ph : Bool) (Ap : Option Addr) (cp : Nat) (w : World) (h : Rd w A c g.l) (hp : Rd w Ap cp pl) (h1 : isP ⟨pg, pk, pl, pht, phv, phc, pix, ptm, pm, ph⟩ = true) (h3 : pg = g.id) (h4 : pk = 4) (h5 : ¬ pix < g.fi) :
   Calls Try.prog 21 #[vG g A c, vP ⟨pg, pk, pl, pht, phv, phc, pix, ptm, pm, ph⟩ Ap cp] w fun e w' => e = .returned (.int .i64 (chkG g ⟨pg, pk, pl, pht, phv, phc, pix, ptm, pm, ph⟩)) ∧ Below w.heap.size w w' := by
 subst h3
 subst h4
 have HG : Aside0 (chkG g ⟨g.id, 4, pl, pht, phv, phc, pix, ptm, pm, ph⟩ = 0) := ⟨by unfold chkG; rw [if_pos ⟨h1, by show ¬ (4 : Int) = 6; decide, by show ¬ (4 : Int) = 5; decide, rfl⟩]; unfold chkK; rw [if_neg (by show ¬ (4 : Int) = 1; decide), if_neg (by show ¬ (4 : Int) = 3; decide), if_pos rfl, if_neg h5]⟩
 have HB := Aside0.mk h1
 have j5 : decide (pix < g.fi) = false := decide_eq_false h5
 clear h5
 clear h1
 obtain ⟨s, hs⟩ : ∃ s, w.heap.size = s := ⟨_, rfl⟩
 have hp0 := Pair.new g A c ⟨g.id, 4, pl, pht, phv, phc, pix, ptm, pm, ph⟩ Ap cp w h hp
 rw [hs] at hp0
 have HP0 := Aside0.mk hp0
 have HS := Aside0.mk hs
 clear h hp hp0
 unfold vG vP
 go_enter Try.func21, Try.ntmps21
 go_wp2_with (first | (go_at_call 40; refine (ris_calls ⟨g.id, 4, pl, pht, phv, phc, pix, ptm, pm, ph⟩ _ cp _ HP0.out.rp HB.out).mono ?_; rintro e w1 ⟨rfl, hw1⟩; have HP1 := Aside0.mk (HP0.out.below hw1); clear hw1; obtain ⟨e0, e1, e2, e3, e4, e5, e6⟩ := HP1.out.bg.box; obtain ⟨p0, p1, p2, p3, p4, p5, p6, p7, p8, p9⟩ := HP1.out.bp.box) | fail)
 go_ret
 exact ⟨by rw [HG.out]; try rfl, by first | exact HP1.out.b | (rw [HS.out]; exact HP1.out.b)⟩
set_option maxHeartbeats 8000000 in
set_option maxRecDepth 100000 in
theorem ref_Check_c1 (g : Grp) (A : Option Addr) (c : Nat) (pg pk : Int) (pl : List Ent) (pht phv phc pix ptm : Int) (pm ph : Bool) (Ap : Option Addr) (cp : Nat) (w : World) (h : Rd w A c g.l) (hp : Rd w Ap cp pl) (h1 : isP ⟨pg, pk, pl, pht, phv, phc, pix, ptm, pm, ph⟩ = true) (h3 : pg = g.id) (h4 : pk = 3) (h5 : pix < g.fi) :
   Calls Try.prog 21 #[vG g A c, vP ⟨pg, pk, pl, pht, phv, phc, pix, ptm, pm, ph⟩ Ap cp] w fun e w' => e = .returned (.int .i64 (chkG g ⟨pg, pk, pl, pht, phv, phc, pix, ptm, pm, ph⟩)) ∧ Below w.heap.size w w' := by
 subst h3
 subst h4
 have HG : Aside0 (chkG g ⟨g.id, 3, pl, pht, phv, phc, pix, ptm, pm, ph⟩ = 15) := ⟨by unfold chkG; rw [if_pos ⟨h1, by show ¬ (3 : Int) = 6; decide, by show ¬ (3 : Int) = 5; decide, rfl⟩]; unfold chkK; rw [if_neg (by show ¬ (3 : Int) = 1; decide), if_pos rfl, if_pos h5]⟩
 have HB := Aside0.mk h1
 have j5 : decide (pix < g.fi) = true := decide_eq_true h5
 clear h5
 clear h1
 obtain ⟨s, hs⟩ : ∃ s, w.heap.size = s := ⟨_, rfl⟩
 have hp0 := Pair.new g A c ⟨g.id, 3, pl, pht, phv, phc, pix, ptm, pm, ph⟩ Ap cp w h hp
 rw [hs] at hp0
 have HP0 := Aside0.mk hp0
 have HS := Aside0.mk hs
 clear h hp hp0
 unfold vG vP
 go_enter Try.func21, Try.ntmps21
 go_wp2_with (first | (go_at_call 40; refine (ris_calls ⟨g.id, 3, pl, pht, phv, phc, pix, ptm, pm, ph⟩ _ cp _ HP0.out.rp HB.out).mono ?_; rintro e w1 ⟨rfl, hw1⟩; have HP1 := Aside0.mk (HP0.out.below hw1); clear hw1; obtain ⟨e0, e1, e2, e3, e4, e5, e6⟩ := HP1.out.bg.box; obtain ⟨p0, p1, p2, p3, p4, p5, p6, p7, p8, p9⟩ := HP1.out.bp.box) | fail)
 go_ret
 exact ⟨by rw [HG.out]; try rfl, by first | exact HP1.out.b | (rw [HS.out]; exact HP1.out.b)⟩
set_option maxHeartbeats 8000000 in
set_option maxRecDepth 100000 in
theorem ref_Check_c2 (g : Grp) (A : Option Addr) (c : Nat) (pg pk : Int) (pl : List Ent) (pht phv phc pix ptm : Int) (pm ph : Bool) (Ap : Option Addr) (cp : Nat) (w : World) (h : Rd w A c g.l) (hp : Rd w Ap cp pl) (h1 : isP ⟨pg, pk, pl, pht, phv, phc, pix, ptm, pm, ph⟩ = true) (h3 : pg = g.id) (h4 : pk = 3) (h5 : ¬ pix < g.fi) (h6 : lastG g < pix) :
   Calls Try.prog 21 #[vG g A c, vP ⟨pg, pk, pl, pht, phv, phc, pix, ptm, pm, ph⟩ Ap cp] w fun e w' => e = .returned (.int .i64 (chkG g ⟨pg, pk, pl, pht, phv, phc, pix, ptm, pm, ph⟩)) ∧ Below w.heap.size w w' := by
 subst h3
 subst h4
 have HG : Aside0 (chkG g ⟨g.id, 3, pl, pht, phv, phc, pix, ptm, pm, ph⟩ = 16) := ⟨by unfold chkG; rw [if_pos ⟨h1, by show ¬ (3 : Int) = 6; decide, by show ¬ (3 : Int) = 5; decide, rfl⟩]; unfold chkK; rw [if_neg (by show ¬ (3 : Int) = 1; decide), if_pos rfl, if_neg h5, if_pos h6]⟩
 have HB := Aside0.mk h1
 have j5 : decide (pix < g.fi) = false := decide_eq_false h5
 have j6 : decide (lastG g < pix) = true := decide_eq_true h6
 clear h5 h6
 clear h1
 obtain ⟨s, hs⟩ : ∃ s, w.heap.size = s := ⟨_, rfl⟩
 have hp0 := Pair.new g A c ⟨g.id, 3, pl, pht, phv, phc, pix, ptm, pm, ph⟩ Ap cp w h hp
 rw [hs] at hp0
 have HP0 := Aside0.mk hp0
 have HS := Aside0.mk hs
 clear h hp hp0
 unfold vG vP
 go_enter Try.func21, Try.ntmps21
 go_wp2_with (first | (go_at_call 40; refine (ris_calls ⟨g.id, 3, pl, pht, phv, phc, pix, ptm, pm, ph⟩ _ cp _ HP0.out.rp HB.out).mono ?_; rintro e w1 ⟨rfl, hw1⟩; have HP1 := Aside0.mk (HP0.out.below hw1); clear hw1; obtain ⟨e0, e1, e2, e3, e4, e5, e6⟩ := HP1.out.bg.box; obtain ⟨p0, p1, p2, p3, p4, p5, p6, p7, p8, p9⟩ := HP1.out.bp.box) | fail)
 have HR1 := Aside0.mk (Rd.drew HP1.out.rg)
 refine start_ (n := 6) (S := (fun w' => w'.cell? ⟨s, 0, none⟩ = some (.int .i64 g.id) ∧ w'.cell? ⟨s, 1, none⟩ = some (.int .i64 g.fi) ∧ w'.cell? ⟨s, 2, none⟩ = some (.int .i64 g.tm) ∧ w'.cell? ⟨s, 3, none⟩ = some (.int .i64 g.ht) ∧ w'.cell? ⟨s, 4, none⟩ = some (.int .i64 g.hv) ∧ w'.cell? ⟨s, 5, none⟩ = some (.int .i64 g.hc) ∧ w'.cell? ⟨s, 6, none⟩ = some (.slice A g.l.length c) ∧ w'.cell? ⟨s + 1, 6, none⟩ = some (.int .i64 pix))) (ds := []) #[false, false, false, false, false, false] (by kernel_rfl) rfl rfl ⟨e0, e1, e2, e3, e4, e5, e6, p6⟩ (fun hHeld => ?_)
 clear e0 e1 e2 e3 e4 e5 e6 p0 p1 p2 p3 p4 p5 p6 p7 p8 p9
 refine pure_ (i := 0) (N := some 53) (v := ?_) (a' := ?_) #[true,false,false,false,false,false] rfl rfl (by kernel_rfl) (fun _ _ _ h => h) (Or.inl ⟨by rfl, ?_⟩) ?_ ?_
 rotate_left
 · intro w'
   go_simp
   try with_reducible rfl
 rotate_left
 · simp only [Act.put, sA, sB, sC]
   rfl
 refine take_ (i := 1) (N := some 54) (v := ?_) (a' := ?_) #[true,true,false,false,false,false] rfl rfl (by kernel_rfl) (fun _ _ _ h => h) (Or.inl ⟨by rfl, ?_⟩) hHeld ?_ ?_
 rotate_left
 · rintro w' ⟨e0, e1, e2, e3, e4, e5, e6, p6⟩
   go_simp
   try with_reducible rfl
 rotate_left
 · simp only [Act.put, sA, sB, sC]
   rfl
 refine take_ (i := 2) (N := some 55) (v := ?_) (a' := ?_) #[true,true,true,false,false,false] rfl rfl (by kernel_rfl) (fun _ _ _ h => h) (Or.inl ⟨by rfl, ?_⟩) hHeld ?_ ?_
 rotate_left
 · rintro w' ⟨e0, e1, e2, e3, e4, e5, e6, p6⟩
   go_simp
   try with_reducible rfl
 rotate_left
 · simp only [Act.put, sA, sB, sC]
   rfl
 refine one_ (i := 3) (N := some 56) #[true,true,true,true,false,false] rfl rfl (by kernel_rfl) (by decide) (fun K hK => ?_)
 go_simp
 refine (ref_Last' g A c _ HR1.out).mono ?_; rintro e w2 ⟨rfl, hw2⟩; have HP2 := Aside0.mk ((HP1.out.drew).below hw2); have HW2 := Aside0.mk hw2; clear hw2
 refine hK.out _ _ ?_ (fun hHeld => ?_)
 · obtain ⟨e0, e1, e2, e3, e4, e5, e6, p6⟩ := hHeld; exact ⟨(HW2.out.cell (World.block_lt_of_cell? _ _ e0)).trans e0, (HW2.out.cell (World.block_lt_of_cell? _ _ e1)).trans e1, (HW2.out.cell (World.block_lt_of_cell? _ _ e2)).trans e2, (HW2.out.cell (World.block_lt_of_cell? _ _ e3)).trans e3, (HW2.out.cell (World.block_lt_of_cell? _ _ e4)).trans e4, (HW2.out.cell (World.block_lt_of_cell? _ _ e5)).trans e5, (HW2.out.cell (World.block_lt_of_cell? _ _ e6)).trans e6, (HW2.out.cell (World.block_lt_of_cell? _ _ p6)).trans p6⟩
 clear hK K
 try simp only [Act.put, sA, sB, sC]
 refine pure_ (i := 4) (N := some 57) (v := ?_) (a' := ?_) #[true,true,true,true,true,false] rfl rfl (by kernel_rfl) (fun _ _ _ h => h) (Or.inl ⟨by rfl, ?_⟩) ?_ ?_
 rotate_left
 · intro w'
   go_simp
   try with_reducible rfl
 rotate_left
 · simp only [Act.put, sA, sB, sC]
   rfl
 refine pure_ (i := 5) (N := some 52) (v := ?_) (a' := ?_) #[true,true,true,true,true,true] rfl rfl (by kernel_rfl) (fun _ _ _ h => h) (Or.inl ⟨by rfl, ?_⟩) ?_ ?_
 rotate_left
 · intro w'
   go_simp
   try with_reducible rfl
 rotate_left
 · simp only [Act.put, sA, sB, sC]
   rfl
 refine done_ (by kernel_rfl) ?_
 clear hHeld
 obtain ⟨e0, e1, e2, e3, e4, e5, e6⟩ := HP2.out.bg.box; obtain ⟨p0, p1, p2, p3, p4, p5, p6, p7, p8, p9⟩ := HP2.out.bp.box
 go_wp2
 go_ret
 exact ⟨by rw [HG.out]; try rfl, by first | exact HP2.out.b | (rw [HS.out]; exact HP2.out.b)⟩
set_option maxHeartbeats 8000000 in
set_option maxRecDepth 100000 in
theorem ref_Check_c3 (g : Grp) (A : Option Addr) (c : Nat) (pg pk : Int) (pl : List Ent) (pht phv phc pix ptm : Int) (pm ph : Bool) (Ap : Option Addr) (cp : Nat) (w : World) (h : Rd w A c g.l) (hp : Rd w Ap cp pl) (h1 : isP ⟨pg, pk, pl, pht, phv, phc, pix, ptm, pm, ph⟩ = true) (h3 : pg = g.id) (h4 : pk = 3) (h5 : ¬ pix < g.fi) (h6 : ¬ lastG g < pix) (h7 : ptm = 0) :
   Calls Try.prog 21 #[vG g A c, vP ⟨pg, pk, pl, pht, phv, phc, pix, ptm, pm, ph⟩ Ap cp] w fun e w' => e = .returned (.int .i64 (chkG g ⟨pg, pk, pl, pht, phv, phc, pix, ptm, pm, ph⟩)) ∧ Below w.heap.size w w' := by
 subst h3
 subst h4
 have HG : Aside0 (chkG g ⟨g.id, 3, pl, pht, phv, phc, pix, ptm, pm, ph⟩ = 0) := ⟨by unfold chkG; rw [if_pos ⟨h1, by show ¬ (3 : Int) = 6; decide, by show ¬ (3 : Int) = 5; decide, rfl⟩]; unfold chkK; rw [if_neg (by show ¬ (3 : Int) = 1; decide), if_pos rfl, if_neg h5, if_neg h6, if_neg (by rintro ⟨h8, _⟩; exact h8 h7)]⟩
 have HB := Aside0.mk h1
 have j5 : decide (pix < g.fi) = false := decide_eq_false h5
 have j6 : decide (lastG g < pix) = false := decide_eq_false h6
 have j7 : (ptm == 0) = true := beq_iff_eq.2 h7
 have j7n : (ptm != 0) = false := by rw [bne, j7]; rfl
 have j7m : (!(ptm == 0)) = false := by rw [j7]; rfl
 clear h5 h6 h7
 clear h1
 obtain ⟨s, hs⟩ : ∃ s, w.heap.size = s := ⟨_, rfl⟩
 have hp0 := Pair.new g A c ⟨g.id, 3, pl, pht, phv, phc, pix, ptm, pm, ph⟩ Ap cp w h hp
 rw [hs] at hp0
 have HP0 := Aside0.mk hp0
 have HS := Aside0.mk hs
 clear h hp hp0
 unfold vG vP
 go_enter Try.func21, Try.ntmps21
 go_wp2_with (first | (go_at_call 40; refine (ris_calls ⟨g.id, 3, pl, pht, phv, phc, pix, ptm, pm, ph⟩ _ cp _ HP0.out.rp HB.out).mono ?_; rintro e w1 ⟨rfl, hw1⟩; have HP1 := Aside0.mk (HP0.out.below hw1); clear hw1; obtain ⟨e0, e1, e2, e3, e4, e5, e6⟩ := HP1.out.bg.box; obtain ⟨p0, p1, p2, p3, p4, p5, p6, p7, p8, p9⟩ := HP1.out.bp.box) | fail)
 have HR1 := Aside0.mk (Rd.drew HP1.out.rg)
 refine start_ (n := 6) (S := (fun w' => w'.cell? ⟨s, 0, none⟩ = some (.int .i64 g.id) ∧ w'.cell? ⟨s, 1, none⟩ = some (.int .i64 g.fi) ∧ w'.cell? ⟨s, 2, none⟩ = some (.int .i64 g.tm) ∧ w'.cell? ⟨s, 3, none⟩ = some (.int .i64 g.ht) ∧ w'.cell? ⟨s, 4, none⟩ = some (.int .i64 g.hv) ∧ w'.cell? ⟨s, 5, none⟩ = some (.int .i64 g.hc) ∧ w'.cell? ⟨s, 6, none⟩ = some (.slice A g.l.length c) ∧ w'.cell? ⟨s + 1, 6, none⟩ = some (.int .i64 pix))) (ds := []) #[false, false, false, false, false, false] (by kernel_rfl) rfl rfl ⟨e0, e1, e2, e3, e4, e5, e6, p6⟩ (fun hHeld => ?_)
 clear e0 e1 e2 e3 e4 e5 e6 p0 p1 p2 p3 p4 p5 p6 p7 p8 p9
 refine pure_ (i := 0) (N := some 53) (v := ?_) (a' := ?_) #[true,false,false,false,false,false] rfl rfl (by kernel_rfl) (fun _ _ _ h => h) (Or.inl ⟨by rfl, ?_⟩) ?_ ?_
 rotate_left
 · intro w'
   go_simp
   try with_reducible rfl
 rotate_left
 · simp only [Act.put, sA, sB, sC]
   rfl
 refine take_ (i := 1) (N := some 54) (v := ?_) (a' := ?_) #[true,true,false,false,false,false] rfl rfl (by kernel_rfl) (fun _ _ _ h => h) (Or.inl ⟨by rfl, ?_⟩) hHeld ?_ ?_
 rotate_left
 · rintro w' ⟨e0, e1, e2, e3, e4, e5, e6, p6⟩
   go_simp
   try with_reducible rfl
 rotate_left
 · simp only [Act.put, sA, sB, sC]
   rfl
 refine take_ (i := 2) (N := some 55) (v := ?_) (a' := ?_) #[true,true,true,false,false,false] rfl rfl (by kernel_rfl) (fun _ _ _ h => h) (Or.inl ⟨by rfl, ?_⟩) hHeld ?_ ?_
 rotate_left
 · rintro w' ⟨e0, e1, e2, e3, e4, e5, e6, p6⟩
   go_simp
   try with_reducible rfl
 rotate_left
 · simp only [Act.put, sA, sB, sC]
   rfl
 refine one_ (i := 3) (N := some 56) #[true,true,true,true,false,false] rfl rfl (by kernel_rfl) (by decide) (fun K hK => ?_)
 go_simp
 refine (ref_Last' g A c _ HR1.out).mono ?_; rintro e w2 ⟨rfl, hw2⟩; have HP2 := Aside0.mk ((HP1.out.drew).below hw2); have HW2 := Aside0.mk hw2; clear hw2
 refine hK.out _ _ ?_ (fun hHeld => ?_)
 · obtain ⟨e0, e1, e2, e3, e4, e5, e6, p6⟩ := hHeld; exact ⟨(HW2.out.cell (World.block_lt_of_cell? _ _ e0)).trans e0, (HW2.out.cell (World.block_lt_of_cell? _ _ e1)).trans e1, (HW2.out.cell (World.block_lt_of_cell? _ _ e2)).trans e2, (HW2.out.cell (World.block_lt_of_cell? _ _ e3)).trans e3, (HW2.out.cell (World.block_lt_of_cell? _ _ e4)).trans e4, (HW2.out.cell (World.block_lt_of_cell? _ _ e5)).trans e5, (HW2.out.cell (World.block_lt_of_cell? _ _ e6)).trans e6, (HW2.out.cell (World.block_lt_of_cell? _ _ p6)).trans p6⟩
 clear hK K
 try simp only [Act.put, sA, sB, sC]
 refine pure_ (i := 4) (N := some 57) (v := ?_) (a' := ?_) #[true,true,true,true,true,false] rfl rfl (by kernel_rfl) (fun _ _ _ h => h) (Or.inl ⟨by rfl, ?_⟩) ?_ ?_
 rotate_left
 · intro w'
   go_simp
   try with_reducible rfl
 rotate_left
 · simp only [Act.put, sA, sB, sC]
   rfl
 refine pure_ (i := 5) (N := some 52) (v := ?_) (a' := ?_) #[true,true,true,true,true,true] rfl rfl (by kernel_rfl) (fun _ _ _ h => h) (Or.inl ⟨by rfl, ?_⟩) ?_ ?_
 rotate_left
 · intro w'
   go_simp
   try with_reducible rfl
 rotate_left
 · simp only [Act.put, sA, sB, sC]
   rfl
 refine done_ (by kernel_rfl) ?_
 clear hHeld
 obtain ⟨e0, e1, e2, e3, e4, e5, e6⟩ := HP2.out.bg.box; obtain ⟨p0, p1, p2, p3, p4, p5, p6, p7, p8, p9⟩ := HP2.out.bp.box
 go_wp2
 refine start_ (n := 19) (S := (fun w' => w'.cell? ⟨s + 1, 7, none⟩ = some (.int .i64 ptm))) (ds := []) #[false, false, false, false, false, false, false, false, false, false, false, false, false, false, false, false, false, false, false] (by kernel_rfl) rfl rfl p7 (fun hHeld => ?_)
 clear e0 e1 e2 e3 e4 e5 e6 p0 p1 p2 p3 p4 p5 p6 p7 p8 p9
 refine pure_ (i := 0) (N := some 59) (v := ?_) (a' := ?_) #[true,false,false,false,false,false,false,false,false,false,false,false,false,false,false,false,false,false,false] rfl rfl (by kernel_rfl) (fun _ _ _ h => h) (Or.inl ⟨by rfl, ?_⟩) ?_ ?_
 rotate_left
 · intro w'
   go_simp
   try with_reducible rfl
 rotate_left
 · simp only [Act.put, sA, sB, sC]
   rfl
 refine take_ (i := 1) (N := some 60) (v := ?_) (a' := ?_) #[true,true,false,false,false,false,false,false,false,false,false,false,false,false,false,false,false,false,false] rfl rfl (by kernel_rfl) (fun _ _ _ h => h) (Or.inl ⟨by rfl, ?_⟩) hHeld ?_ ?_
 rotate_left
 · rintro w' p7
   go_simp
   try with_reducible rfl
 rotate_left
 · simp only [Act.put, sA, sB, sC]
   rfl
 refine pure_ (i := 2) (N := some 61) (v := ?_) (a' := ?_) #[true,true,true,false,false,false,false,false,false,false,false,false,false,false,false,false,false,false,false] rfl rfl (by kernel_rfl) (fun _ _ _ h => h) (Or.inl ⟨by rfl, ?_⟩) ?_ ?_
 rotate_left
 · intro w'
   go_simp
   try with_reducible rfl
 rotate_left
 · simp only [Act.put, sA, sB, sC]
   rfl
 refine pure_ (i := 3) (N := some 62) (v := ?_) (a' := ?_) #[true,true,true,true,false,false,false,false,false,false,false,false,false,false,false,false,false,false,false] rfl rfl (by kernel_rfl) (fun _ _ _ h => h) (Or.inl ⟨by rfl, ?_⟩) ?_ ?_
 rotate_left
 · intro w'
   go_simp
   try with_reducible rfl
 rotate_left
 · simp only [Act.put, sA, sB, sC]
   rfl
 refine pure_ (i := 4) (N := some 63) (v := undef) (a' := ?_) #[true,true,true,true,true,false,false,false,false,false,false,false,false,false,false,false,false,false,false] rfl rfl (by kernel_rfl) (fun _ _ _ h => h) (Or.inr ⟨by rfl, rfl⟩) ?_ ?_
 rotate_left
 · simp only [Act.put, sA, sB, sC]
   rfl
 refine pure_ (i := 5) (N := some 64) (v := undef) (a' := ?_) #[true,true,true,true,true,true,false,false,false,false,false,false,false,false,false,false,false,false,false] rfl rfl (by kernel_rfl) (fun _ _ _ h => h) (Or.inr ⟨by rfl, rfl⟩) ?_ ?_
 rotate_left
 · simp only [Act.put, sA, sB, sC]
   rfl
 refine pure_ (i := 6) (N := some 65) (v := undef) (a' := ?_) #[true,true,true,true,true,true,true,false,false,false,false,false,false,false,false,false,false,false,false] rfl rfl (by kernel_rfl) (fun _ _ _ h => h) (Or.inr ⟨by rfl, rfl⟩) ?_ ?_
 rotate_left
 · simp only [Act.put, sA, sB, sC]
   rfl
 refine pure_ (i := 7) (N := some 66) (v := undef) (a' := ?_) #[true,true,true,true,true,true,true,true,false,false,false,false,false,false,false,false,false,false,false] rfl rfl (by kernel_rfl) (fun _ _ _ h => h) (Or.inr ⟨by rfl, rfl⟩) ?_ ?_
 rotate_left
 · simp only [Act.put, sA, sB, sC]
   rfl
 refine pure_ (i := 8) (N := some 67) (v := undef) (a' := ?_) #[true,true,true,true,true,true,true,true,true,false,false,false,false,false,false,false,false,false,false] rfl rfl (by kernel_rfl) (fun _ _ _ h => h) (Or.inr ⟨by rfl, rfl⟩) ?_ ?_
 rotate_left
 · simp only [Act.put, sA, sB, sC]
   rfl
 refine pure_ (i := 9) (N := some 68) (v := undef) (a' := ?_) #[true,true,true,true,true,true,true,true,true,true,false,false,false,false,false,false,false,false,false] rfl rfl (by kernel_rfl) (fun _ _ _ h => h) (Or.inr ⟨by rfl, rfl⟩) ?_ ?_
 rotate_left
 · simp only [Act.put, sA, sB, sC]
   rfl
 refine pure_ (i := 10) (N := some 69) (v := undef) (a' := ?_) #[true,true,true,true,true,true,true,true,true,true,true,false,false,false,false,false,false,false,false] rfl rfl (by kernel_rfl) (fun _ _ _ h => h) (Or.inr ⟨by rfl, rfl⟩) ?_ ?_
 rotate_left
 · simp only [Act.put, sA, sB, sC]
   rfl
 refine pure_ (i := 11) (N := some 70) (v := undef) (a' := ?_) #[true,true,true,true,true,true,true,true,true,true,true,true,false,false,false,false,false,false,false] rfl rfl (by kernel_rfl) (fun _ _ _ h => h) (Or.inr ⟨by rfl, rfl⟩) ?_ ?_
 rotate_left
 · simp only [Act.put, sA, sB, sC]
   rfl
 refine pure_ (i := 12) (N := some 71) (v := undef) (a' := ?_) #[true,true,true,true,true,true,true,true,true,true,true,true,true,false,false,false,false,false,false] rfl rfl (by kernel_rfl) (fun _ _ _ h => h) (Or.inr ⟨by rfl, rfl⟩) ?_ ?_
 rotate_left
 · simp only [Act.put, sA, sB, sC]
   rfl
 refine pure_ (i := 13) (N := some 72) (v := undef) (a' := ?_) #[true,true,true,true,true,true,true,true,true,true,true,true,true,true,false,false,false,false,false] rfl rfl (by kernel_rfl) (fun _ _ _ h => h) (Or.inr ⟨by rfl, rfl⟩) ?_ ?_
 rotate_left
 · simp only [Act.put, sA, sB, sC]
   rfl
 refine pure_ (i := 14) (N := some 73) (v := undef) (a' := ?_) #[true,true,true,true,true,true,true,true,true,true,true,true,true,true,true,false,false,false,false] rfl rfl (by kernel_rfl) (fun _ _ _ h => h) (Or.inr ⟨by rfl, rfl⟩) ?_ ?_
 rotate_left
 · simp only [Act.put, sA, sB, sC]
   rfl
 refine pure_ (i := 15) (N := some 74) (v := undef) (a' := ?_) #[true,true,true,true,true,true,true,true,true,true,true,true,true,true,true,true,false,false,false] rfl rfl (by kernel_rfl) (fun _ _ _ h => h) (Or.inr ⟨by rfl, rfl⟩) ?_ ?_
 rotate_left
 · simp only [Act.put, sA, sB, sC]
   rfl
 refine pure_ (i := 16) (N := some 75) (v := undef) (a' := ?_) #[true,true,true,true,true,true,true,true,true,true,true,true,true,true,true,true,true,false,false] rfl rfl (by kernel_rfl) (fun _ _ _ h => h) (Or.inr ⟨by rfl, rfl⟩) ?_ ?_
 rotate_left
 · simp only [Act.put, sA, sB, sC]
   rfl
 refine pure_ (i := 17) (N := some 76) (v := ?_) (a' := ?_) #[true,true,true,true,true,true,true,true,true,true,true,true,true,true,true,true,true,true,false] rfl rfl (by kernel_rfl) (fun _ _ _ h => h) (Or.inl ⟨by rfl, ?_⟩) ?_ ?_
 rotate_left
 · intro w'
   go_simp
   try with_reducible rfl
 rotate_left
 · simp only [Act.put, sA, sB, sC]
   rfl
 refine pure_ (i := 18) (N := some 58) (v := ?_) (a' := ?_) #[true,true,true,true,true,true,true,true,true,true,true,true,true,true,true,true,true,true,true] rfl rfl (by kernel_rfl) (fun _ _ _ h => h) (Or.inl ⟨by rfl, ?_⟩) ?_ ?_
 rotate_left
 · intro w'
   go_simp
   try with_reducible rfl
 rotate_left
 · simp only [Act.put, sA, sB, sC]
   rfl
 refine done_ (by kernel_rfl) ?_
 clear hHeld
 have HPD := Aside0.mk (HP2.out.drew)
 obtain ⟨e0, e1, e2, e3, e4, e5, e6⟩ := HPD.out.bg.box; obtain ⟨p0, p1, p2, p3, p4, p5, p6, p7, p8, p9⟩ := HPD.out.bp.box
 go_wp2
 go_ret
 exact ⟨by rw [HG.out]; try rfl, by first | exact HPD.out.b | (rw [HS.out]; exact HPD.out.b)⟩
set_option maxHeartbeats 8000000 in
set_option maxRecDepth 100000 in
theorem ref_Check_c4 (g : Grp) (A : Option Addr) (c : Nat) (pg pk : Int) (pl : List Ent) (pht phv phc pix ptm : Int) (pm ph : Bool) (Ap : Option Addr) (cp : Nat) (w : World) (h : Rd w A c g.l) (hp : Rd w Ap cp pl) (h1 : isP ⟨pg, pk, pl, pht, phv, phc, pix, ptm, pm, ph⟩ = true) (h3 : pg = g.id) (h4 : pk = 3) (hD : isG true g = true) (h5 : ¬ pix < g.fi) (h6 : ¬ lastG g < pix) (h7 : ptm ≠ 0) (h8 : ptm ≠ (el g.l (pix - g.fi).toNat).f1) :
   Calls Try.prog 21 #[vG g A c, vP ⟨pg, pk, pl, pht, phv, phc, pix, ptm, pm, ph⟩ Ap cp] w fun e w' => e = .returned (.int .i64 (chkG g ⟨pg, pk, pl, pht, phv, phc, pix, ptm, pm, ph⟩)) ∧ Below w.heap.size w w' := by
 subst h3
 subst h4
 have HG : Aside0 (chkG g ⟨g.id, 3, pl, pht, phv, phc, pix, ptm, pm, ph⟩ = 11) := ⟨by unfold chkG; rw [if_pos ⟨h1, by show ¬ (3 : Int) = 6; decide, by show ¬ (3 : Int) = 5; decide, rfl⟩]; unfold chkK; rw [if_neg (by show ¬ (3 : Int) = 1; decide), if_pos rfl, if_neg h5, if_neg h6, if_pos ⟨h7, h8⟩]⟩
 have HB := Aside0.mk h1
 have j5 : decide (pix < g.fi) = false := decide_eq_false h5
 have j6 : decide (lastG g < pix) = false := decide_eq_false h6
 have j7 : (ptm == 0) = false := beq_eq_false_iff_ne.2 h7
 have j7n : (ptm != 0) = true := by rw [bne, j7]; rfl
 have j7m : (!(ptm == 0)) = true := by rw [j7]; rfl
 have hf := isG_fi hD
 have hla := dense_last hD
 have hb1 := h.bd
 obtain ⟨n, hn⟩ : ∃ n : Nat, pix - g.fi = n := ⟨(pix - g.fi).toNat, by omega⟩
 have hnl : n < g.l.length := by omega
 have hw : IntKind.i64.wrap (pix - g.fi) = (n : Int) := by rw [i64_w, hn]; unfold wrap64; omega
 rw [hn, Int.toNat_natCast] at h8
 have j8 : (ptm == (el g.l n).f1) = false := beq_eq_false_iff_ne.2 h8
 have j8n : (ptm != (el g.l n).f1) = true := by rw [bne, j8]; rfl
 have j8m : (!(ptm == (el g.l n).f1)) = true := by rw [j8]; rfl
 have HNL := Aside0.mk hnl
 obtain ⟨ad, rfl, _⟩ := h.at_ hnl
 have hnl2 : (n : Int) < (g.l.length : Int) := by omega
 have hn0 : (0 : Int) ≤ (n : Int) := by omega
 clear h5 h6 h7 h8 hf hla hb1 hn hnl hD
 clear h1
 obtain ⟨s, hs⟩ : ∃ s, w.heap.size = s := ⟨_, rfl⟩
 have hp0 := Pair.new g (some ad) c ⟨g.id, 3, pl, pht, phv, phc, pix, ptm, pm, ph⟩ Ap cp w h hp
 rw [hs] at hp0
 have HP0 := Aside0.mk hp0
 have HS := Aside0.mk hs
 clear h hp hp0
 unfold vG vP
 go_enter Try.func21, Try.ntmps21
 go_wp2_with (first | (go_at_call 40; refine (ris_calls ⟨g.id, 3, pl, pht, phv, phc, pix, ptm, pm, ph⟩ _ cp _ HP0.out.rp HB.out).mono ?_; rintro e w1 ⟨rfl, hw1⟩; have HP1 := Aside0.mk (HP0.out.below hw1); clear hw1; obtain ⟨e0, e1, e2, e3, e4, e5, e6⟩ := HP1.out.bg.box; obtain ⟨p0, p1, p2, p3, p4, p5, p6, p7, p8, p9⟩ := HP1.out.bp.box) | fail)
 have HR1 := Aside0.mk (Rd.drew HP1.out.rg)
 refine start_ (n := 6) (S := (fun w' => w'.cell? ⟨s, 0, none⟩ = some (.int .i64 g.id) ∧ w'.cell? ⟨s, 1, none⟩ = some (.int .i64 g.fi) ∧ w'.cell? ⟨s, 2, none⟩ = some (.int .i64 g.tm) ∧ w'.cell? ⟨s, 3, none⟩ = some (.int .i64 g.ht) ∧ w'.cell? ⟨s, 4, none⟩ = some (.int .i64 g.hv) ∧ w'.cell? ⟨s, 5, none⟩ = some (.int .i64 g.hc) ∧ w'.cell? ⟨s, 6, none⟩ = some (.slice (some ad) g.l.length c) ∧ w'.cell? ⟨s + 1, 6, none⟩ = some (.int .i64 pix))) (ds := []) #[false, false, false, false, false, false] (by kernel_rfl) rfl rfl ⟨e0, e1, e2, e3, e4, e5, e6, p6⟩ (fun hHeld => ?_)
 clear e0 e1 e2 e3 e4 e5 e6 p0 p1 p2 p3 p4 p5 p6 p7 p8 p9
 refine pure_ (i := 0) (N := some 53) (v := ?_) (a' := ?_) #[true,false,false,false,false,false] rfl rfl (by kernel_rfl) (fun _ _ _ h => h) (Or.inl ⟨by rfl, ?_⟩) ?_ ?_
 rotate_left
 · intro w'
   go_simp
   try with_reducible rfl
 rotate_left
 · simp only [Act.put, sA, sB, sC]
   rfl
 refine take_ (i := 1) (N := some 54) (v := ?_) (a' := ?_) #[true,true,false,false,false,false] rfl rfl (by kernel_rfl) (fun _ _ _ h => h) (Or.inl ⟨by rfl, ?_⟩) hHeld ?_ ?_
 rotate_left
 · rintro w' ⟨e0, e1, e2, e3, e4, e5, e6, p6⟩
   go_simp
   try with_reducible rfl
 rotate_left
 · simp only [Act.put, sA, sB, sC]
   rfl
 refine take_ (i := 2) (N := some 55) (v := ?_) (a' := ?_) #[true,true,true,false,false,false] rfl rfl (by kernel_rfl) (fun _ _ _ h => h) (Or.inl ⟨by rfl, ?_⟩) hHeld ?_ ?_
 rotate_left
 · rintro w' ⟨e0, e1, e2, e3, e4, e5, e6, p6⟩
   go_simp
   try with_reducible rfl
 rotate_left
 · simp only [Act.put, sA, sB, sC]
   rfl
 refine one_ (i := 3) (N := some 56) #[true,true,true,true,false,false] rfl rfl (by kernel_rfl) (by decide) (fun K hK => ?_)
 go_simp
 refine (ref_Last' g (some ad) c _ HR1.out).mono ?_; rintro e w2 ⟨rfl, hw2⟩; have HP2 := Aside0.mk ((HP1.out.drew).below hw2); have HW2 := Aside0.mk hw2; clear hw2
 refine hK.out _ _ ?_ (fun hHeld => ?_)
 · obtain ⟨e0, e1, e2, e3, e4, e5, e6, p6⟩ := hHeld; exact ⟨(HW2.out.cell (World.block_lt_of_cell? _ _ e0)).trans e0, (HW2.out.cell (World.block_lt_of_cell? _ _ e1)).trans e1, (HW2.out.cell (World.block_lt_of_cell? _ _ e2)).trans e2, (HW2.out.cell (World.block_lt_of_cell? _ _ e3)).trans e3, (HW2.out.cell (World.block_lt_of_cell? _ _ e4)).trans e4, (HW2.out.cell (World.block_lt_of_cell? _ _ e5)).trans e5, (HW2.out.cell (World.block_lt_of_cell? _ _ e6)).trans e6, (HW2.out.cell (World.block_lt_of_cell? _ _ p6)).trans p6⟩
 clear hK K
 try simp only [Act.put, sA, sB, sC]
 refine pure_ (i := 4) (N := some 57) (v := ?_) (a' := ?_) #[true,true,true,true,true,false] rfl rfl (by kernel_rfl) (fun _ _ _ h => h) (Or.inl ⟨by rfl, ?_⟩) ?_ ?_
 rotate_left
 · intro w'
   go_simp
   try with_reducible rfl
 rotate_left
 · simp only [Act.put, sA, sB, sC]
   rfl
 refine pure_ (i := 5) (N := some 52) (v := ?_) (a' := ?_) #[true,true,true,true,true,true] rfl rfl (by kernel_rfl) (fun _ _ _ h => h) (Or.inl ⟨by rfl, ?_⟩) ?_ ?_
 rotate_left
 · intro w'
   go_simp
   try with_reducible rfl
 rotate_left
 · simp only [Act.put, sA, sB, sC]
   rfl
 refine done_ (by kernel_rfl) ?_
 clear hHeld
 obtain ⟨e0, e1, e2, e3, e4, e5, e6⟩ := HP2.out.bg.box; obtain ⟨p0, p1, p2, p3, p4, p5, p6, p7, p8, p9⟩ := HP2.out.bp.box
 go_wp2
 obtain ⟨ad', hq, q0, q1, q2⟩ := HP2.out.rg.at_ (i := n) HNL.out
 cases hq
 refine start_ (n := 19) (S := (fun w' => w'.cell? ⟨s + 1, 7, none⟩ = some (.int .i64 ptm) ∧ w'.cell? ⟨s + 1, 6, none⟩ = some (.int .i64 pix) ∧ w'.cell? ⟨s, 6, none⟩ = some (.slice (some ad) g.l.length c) ∧ w'.cell? ⟨s, 1, none⟩ = some (.int .i64 g.fi) ∧ w'.cell? ⟨(ad.add (n * 3)).block, (ad.add (n * 3)).off + 1, none⟩ = some (.int .i64 (el g.l n).f1))) (ds := []) #[false, false, false, false, false, false, false, false, false, false, false, false, false, false, false, false, false, false, false] (by kernel_rfl) rfl rfl ⟨p7, p6, e6, e1, q1⟩ (fun hHeld => ?_)
 clear e0 e1 e2 e3 e4 e5 e6 p0 p1 p2 p3 p4 p5 p6 p7 p8 p9 q0 q1 q2
 refine pure_ (i := 0) (N := some 59) (v := ?_) (a' := ?_) #[true,false,false,false,false,false,false,false,false,false,false,false,false,false,false,false,false,false,false] rfl rfl (by kernel_rfl) (fun _ _ _ h => h) (Or.inl ⟨by rfl, ?_⟩) ?_ ?_
 rotate_left
 · intro w'
   go_simp
   try with_reducible rfl
 rotate_left
 · simp only [Act.put, sA, sB, sC]
   rfl
 refine take_ (i := 1) (N := some 60) (v := ?_) (a' := ?_) #[true,true,false,false,false,false,false,false,false,false,false,false,false,false,false,false,false,false,false] rfl rfl (by kernel_rfl) (fun _ _ _ h => h) (Or.inl ⟨by rfl, ?_⟩) hHeld ?_ ?_
 rotate_left
 · rintro w' ⟨p7, p6, e6, e1, q1⟩
   go_simp
   try with_reducible rfl
 rotate_left
 · simp only [Act.put, sA, sB, sC]
   rfl
 refine pure_ (i := 2) (N := some 61) (v := ?_) (a' := ?_) #[true,true,true,false,false,false,false,false,false,false,false,false,false,false,false,false,false,false,false] rfl rfl (by kernel_rfl) (fun _ _ _ h => h) (Or.inl ⟨by rfl, ?_⟩) ?_ ?_
 rotate_left
 · intro w'
   go_simp
   try with_reducible rfl
 rotate_left
 · simp only [Act.put, sA, sB, sC]
   rfl
 refine pure_ (i := 3) (N := some 62) (v := ?_) (a' := ?_) #[true,true,true,true,false,false,false,false,false,false,false,false,false,false,false,false,false,false,false] rfl rfl (by kernel_rfl) (fun _ _ _ h => h) (Or.inl ⟨by rfl, ?_⟩) ?_ ?_
 rotate_left
 · intro w'
   go_simp
   try with_reducible rfl
 rotate_left
 · simp only [Act.put, sA, sB, sC]
   rfl
 refine pure_ (i := 4) (N := some 63) (v := ?_) (a' := ?_) #[true,true,true,true,true,false,false,false,false,false,false,false,false,false,false,false,false,false,false] rfl rfl (by kernel_rfl) (fun _ _ _ h => h) (Or.inl ⟨by rfl, ?_⟩) ?_ ?_
 rotate_left
 · intro w'
   go_simp
   try with_reducible rfl
 rotate_left
 · simp only [Act.put, sA, sB, sC]
   rfl
 refine take_ (i := 5) (N := some 64) (v := ?_) (a' := ?_) #[true,true,true,true,true,true,false,false,false,false,false,false,false,false,false,false,false,false,false] rfl rfl (by kernel_rfl) (fun _ _ _ h => h) (Or.inl ⟨by rfl, ?_⟩) hHeld ?_ ?_
 rotate_left
 · rintro w' ⟨p7, p6, e6, e1, q1⟩
   go_simp
   try with_reducible rfl
 rotate_left
 · simp only [Act.put, sA, sB, sC]
   rfl
 refine pure_ (i := 6) (N := some 65) (v := ?_) (a' := ?_) #[true,true,true,true,true,true,true,false,false,false,false,false,false,false,false,false,false,false,false] rfl rfl (by kernel_rfl) (fun _ _ _ h => h) (Or.inl ⟨by rfl, ?_⟩) ?_ ?_
 rotate_left
 · intro w'
   go_simp
   try with_reducible rfl
 rotate_left
 · simp only [Act.put, sA, sB, sC]
   rfl
 refine take_ (i := 7) (N := some 66) (v := ?_) (a' := ?_) #[true,true,true,true,true,true,true,true,false,false,false,false,false,false,false,false,false,false,false] rfl rfl (by kernel_rfl) (fun _ _ _ h => h) (Or.inl ⟨by rfl, ?_⟩) hHeld ?_ ?_
 rotate_left
 · rintro w' ⟨p7, p6, e6, e1, q1⟩
   go_simp
   try with_reducible rfl
 rotate_left
 · simp only [Act.put, sA, sB, sC]
   rfl
 refine pure_ (i := 8) (N := some 67) (v := ?_) (a' := ?_) #[true,true,true,true,true,true,true,true,true,false,false,false,false,false,false,false,false,false,false] rfl rfl (by kernel_rfl) (fun _ _ _ h => h) (Or.inl ⟨by rfl, ?_⟩) ?_ ?_
 rotate_left
 · intro w'
   go_simp
   try with_reducible rfl
 rotate_left
 · simp only [Act.put, sA, sB, sC]
   rfl
 refine take_ (i := 9) (N := some 68) (v := ?_) (a' := ?_) #[true,true,true,true,true,true,true,true,true,true,false,false,false,false,false,false,false,false,false] rfl rfl (by kernel_rfl) (fun _ _ _ h => h) (Or.inl ⟨by rfl, ?_⟩) hHeld ?_ ?_
 rotate_left
 · rintro w' ⟨p7, p6, e6, e1, q1⟩
   go_simp
   try with_reducible rfl
 rotate_left
 · simp only [Act.put, sA, sB, sC]
   rfl
 refine pure_ (i := 10) (N := some 69) (v := ?_) (a' := ?_) #[true,true,true,true,true,true,true,true,true,true,true,false,false,false,false,false,false,false,false] rfl rfl (by kernel_rfl) (fun _ _ _ h => h) (Or.inl ⟨by rfl, ?_⟩) ?_ ?_
 rotate_left
 · intro w'
   go_simp
   try with_reducible rfl
 rotate_left
 · simp only [Act.put, sA, sB, sC]
   rfl
 refine take_ (i := 11) (N := some 70) (v := ?_) (a' := ?_) #[true,true,true,true,true,true,true,true,true,true,true,true,false,false,false,false,false,false,false] rfl rfl (by kernel_rfl) (fun _ _ _ h => h) (Or.inl ⟨by rfl, ?_⟩) hHeld ?_ ?_
 rotate_left
 · rintro w' ⟨p7, p6, e6, e1, q1⟩
   go_simp
   try with_reducible rfl
 rotate_left
 · simp only [Act.put, sA, sB, sC]
   rfl
 refine pure_ (i := 12) (N := some 71) (v := ?_) (a' := ?_) #[true,true,true,true,true,true,true,true,true,true,true,true,true,false,false,false,false,false,false] rfl rfl (by kernel_rfl) (fun _ _ _ h => h) (Or.inl ⟨by rfl, ?_⟩) ?_ ?_
 rotate_left
 · intro w'
   go_simp
   try with_reducible rfl
 rotate_left
 · simp only [Act.put, sA, sB, sC]
   rfl
 refine pure_ (i := 13) (N := some 72) (v := ?_) (a' := ?_) #[true,true,true,true,true,true,true,true,true,true,true,true,true,true,false,false,false,false,false] rfl rfl (by kernel_rfl) (fun _ _ _ h => h) (Or.inl ⟨by rfl, ?_⟩) ?_ ?_
 rotate_left
 · intro w'
   go_simp
   try with_reducible rfl
 rotate_left
 · simp only [Act.put, sA, sB, sC]
   rfl
 refine pure_ (i := 14) (N := some 73) (v := ?_) (a' := ?_) #[true,true,true,true,true,true,true,true,true,true,true,true,true,true,true,false,false,false,false] rfl rfl (by kernel_rfl) (fun _ _ _ h => h) (Or.inl ⟨by rfl, ?_⟩) ?_ ?_
 rotate_left
 · intro w'
   go_simp
   try with_reducible rfl
 rotate_left
 · simp only [Act.put, sA, sB, sC]
   rfl
 refine take_ (i := 15) (N := some 74) (v := ?_) (a' := ?_) #[true,true,true,true,true,true,true,true,true,true,true,true,true,true,true,true,false,false,false] rfl rfl (by kernel_rfl) (fun _ _ _ h => h) (Or.inl ⟨by rfl, ?_⟩) hHeld ?_ ?_
 rotate_left
 · rintro w' ⟨p7, p6, e6, e1, q1⟩
   go_simp
   try with_reducible rfl
 rotate_left
 · simp only [Act.put, sA, sB, sC]
   rfl
 refine pure_ (i := 16) (N := some 75) (v := ?_) (a' := ?_) #[true,true,true,true,true,true,true,true,true,true,true,true,true,true,true,true,true,false,false] rfl rfl (by kernel_rfl) (fun _ _ _ h => h) (Or.inl ⟨by rfl, ?_⟩) ?_ ?_
 rotate_left
 · intro w'
   go_simp
   try with_reducible rfl
 rotate_left
 · simp only [Act.put, sA, sB, sC]
   rfl
 refine pure_ (i := 17) (N := some 76) (v := ?_) (a' := ?_) #[true,true,true,true,true,true,true,true,true,true,true,true,true,true,true,true,true,true,false] rfl rfl (by kernel_rfl) (fun _ _ _ h => h) (Or.inl ⟨by rfl, ?_⟩) ?_ ?_
 rotate_left
 · intro w'
   go_simp
   try with_reducible rfl
 rotate_left
 · simp only [Act.put, sA, sB, sC]
   rfl
 refine pure_ (i := 18) (N := some 58) (v := ?_) (a' := ?_) #[true,true,true,true,true,true,true,true,true,true,true,true,true,true,true,true,true,true,true] rfl rfl (by kernel_rfl) (fun _ _ _ h => h) (Or.inl ⟨by rfl, ?_⟩) ?_ ?_
 rotate_left
 · intro w'
   go_simp
   try with_reducible rfl
 rotate_left
 · simp only [Act.put, sA, sB, sC]
   rfl
 refine done_ (by kernel_rfl) ?_
 clear hHeld
 have HPD := Aside0.mk (HP2.out.drew)
 obtain ⟨e0, e1, e2, e3, e4, e5, e6⟩ := HPD.out.bg.box; obtain ⟨p0, p1, p2, p3, p4, p5, p6, p7, p8, p9⟩ := HPD.out.bp.box
 go_wp2
 go_ret
 exact ⟨by rw [HG.out]; try rfl, by first | exact HPD.out.b | (rw [HS.out]; exact HPD.out.b)⟩
set_option maxHeartbeats 8000000 in
set_option maxRecDepth 100000 in
theorem ref_Check_c5 (g : Grp) (A : Option Addr) (c : Nat) (pg pk : Int) (pl : List Ent) (pht phv phc pix ptm : Int) (pm ph : Bool) (Ap : Option Addr) (cp : Nat) (w : World) (h : Rd w A c g.l) (hp : Rd w Ap cp pl) (h1 : isP ⟨pg, pk, pl, pht, phv, phc, pix, ptm, pm, ph⟩ = true) (h3 : pg = g.id) (h4 : pk = 3) (hD : isG true g = true) (h5 : ¬ pix < g.fi) (h6 : ¬ lastG g < pix) (h7 : ptm ≠ 0) (h8 : ptm = (el g.l (pix - g.fi).toNat).f1) :
   Calls Try.prog 21 #[vG g A c, vP ⟨pg, pk, pl, pht, phv, phc, pix, ptm, pm, ph⟩ Ap cp] w fun e w' => e = .returned (.int .i64 (chkG g ⟨pg, pk, pl, pht, phv, phc, pix, ptm, pm, ph⟩)) ∧ Below w.heap.size w w' := by
 subst h3
 subst h4
 have HG : Aside0 (chkG g ⟨g.id, 3, pl, pht, phv, phc, pix, ptm, pm, ph⟩ = 0) := ⟨by unfold chkG; rw [if_pos ⟨h1, by show ¬ (3 : Int) = 6; decide, by show ¬ (3 : Int) = 5; decide, rfl⟩]; unfold chkK; rw [if_neg (by show ¬ (3 : Int) = 1; decide), if_pos rfl, if_neg h5, if_neg h6, if_neg (by rintro ⟨_, h9⟩; exact h9 h8)]⟩
 have HB := Aside0.mk h1
 have j5 : decide (pix < g.fi) = false := decide_eq_false h5
 have j6 : decide (lastG g < pix) = false := decide_eq_false h6
 have j7 : (ptm == 0) = false := beq_eq_false_iff_ne.2 h7
 have j7n : (ptm != 0) = true := by rw [bne, j7]; rfl
 have j7m : (!(ptm == 0)) = true := by rw [j7]; rfl
 have hf := isG_fi hD
 have hla := dense_last hD
 have hb1 := h.bd
 obtain ⟨n, hn⟩ : ∃ n : Nat, pix - g.fi = n := ⟨(pix - g.fi).toNat, by omega⟩
 have hnl : n < g.l.length := by omega
 have hw : IntKind.i64.wrap (pix - g.fi) = (n : Int) := by rw [i64_w, hn]; unfold wrap64; omega
 rw [hn, Int.toNat_natCast] at h8
 have j8 : (ptm == (el g.l n).f1) = true := beq_iff_eq.2 h8
 have j8n : (ptm != (el g.l n).f1) = false := by rw [bne, j8]; rfl
 have j8m : (!(ptm == (el g.l n).f1)) = false := by rw [j8]; rfl
 have HNL := Aside0.mk hnl
 obtain ⟨ad, rfl, _⟩ := h.at_ hnl
 have hnl2 : (n : Int) < (g.l.length : Int) := by omega
 have hn0 : (0 : Int) ≤ (n : Int) := by omega
 clear h5 h6 h7 h8 hf hla hb1 hn hnl hD
 clear h1
 obtain ⟨s, hs⟩ : ∃ s, w.heap.size = s := ⟨_, rfl⟩
 have hp0 := Pair.new g (some ad) c ⟨g.id, 3, pl, pht, phv, phc, pix, ptm, pm, ph⟩ Ap cp w h hp
 rw [hs] at hp0
 have HP0 := Aside0.mk hp0
 have HS := Aside0.mk hs
 clear h hp hp0
 unfold vG vP
 go_enter Try.func21, Try.ntmps21
 go_wp2_with (first | (go_at_call 40; refine (ris_calls ⟨g.id, 3, pl, pht, phv, phc, pix, ptm, pm, ph⟩ _ cp _ HP0.out.rp HB.out).mono ?_; rintro e w1 ⟨rfl, hw1⟩; have HP1 := Aside0.mk (HP0.out.below hw1); clear hw1; obtain ⟨e0, e1, e2, e3, e4, e5, e6⟩ := HP1.out.bg.box; obtain ⟨p0, p1, p2, p3, p4, p5, p6, p7, p8, p9⟩ := HP1.out.bp.box) | fail)
 have HR1 := Aside0.mk (Rd.drew HP1.out.rg)
 refine start_ (n := 6) (S := (fun w' => w'.cell? ⟨s, 0, none⟩ = some (.int .i64 g.id) ∧ w'.cell? ⟨s, 1, none⟩ = some (.int .i64 g.fi) ∧ w'.cell? ⟨s, 2, none⟩ = some (.int .i64 g.tm) ∧ w'.cell? ⟨s, 3, none⟩ = some (.int .i64 g.ht) ∧ w'.cell? ⟨s, 4, none⟩ = some (.int .i64 g.hv) ∧ w'.cell? ⟨s, 5, none⟩ = some (.int .i64 g.hc) ∧ w'.cell? ⟨s, 6, none⟩ = some (.slice (some ad) g.l.length c) ∧ w'.cell? ⟨s + 1, 6, none⟩ = some (.int .i64 pix))) (ds := []) #[false, false, false, false, false, false] (by kernel_rfl) rfl rfl ⟨e0, e1, e2, e3, e4, e5, e6, p6⟩ (fun hHeld => ?_)
 clear e0 e1 e2 e3 e4 e5 e6 p0 p1 p2 p3 p4 p5 p6 p7 p8 p9
 refine pure_ (i := 0) (N := some 53) (v := ?_) (a' := ?_) #[true,false,false,false,false,false] rfl rfl (by kernel_rfl) (fun _ _ _ h => h) (Or.inl ⟨by rfl, ?_⟩) ?_ ?_
 rotate_left
 · intro w'
   go_simp
   try with_reducible rfl
 rotate_left
 · simp only [Act.put, sA, sB, sC]
   rfl
 refine take_ (i := 1) (N := some 54) (v := ?_) (a' := ?_) #[true,true,false,false,false,false] rfl rfl (by kernel_rfl) (fun _ _ _ h => h) (Or.inl ⟨by rfl, ?_⟩) hHeld ?_ ?_
 rotate_left
 · rintro w' ⟨e0, e1, e2, e3, e4, e5, e6, p6⟩
   go_simp
   try with_reducible rfl
 rotate_left
 · simp only [Act.put, sA, sB, sC]
   rfl
 refine take_ (i := 2) (N := some 55) (v := ?_) (a' := ?_) #[true,true,true,false,false,false] rfl rfl (by kernel_rfl) (fun _ _ _ h => h) (Or.inl ⟨by rfl, ?_⟩) hHeld ?_ ?_
 rotate_left
 · rintro w' ⟨e0, e1, e2, e3, e4, e5, e6, p6⟩
   go_simp
   try with_reducible rfl
 rotate_left
 · simp only [Act.put, sA, sB, sC]
   rfl
 refine one_ (i := 3) (N := some 56) #[true,true,true,true,false,false] rfl rfl (by kernel_rfl) (by decide) (fun K hK => ?_)
 go_simp
 refine (ref_Last' g (some ad) c _ HR1.out).mono ?_; rintro e w2 ⟨rfl, hw2⟩; have HP2 := Aside0.mk ((HP1.out.drew).below hw2); have HW2 := Aside0.mk hw2; clear hw2
 refine hK.out _ _ ?_ (fun hHeld => ?_)
 · obtain ⟨e0, e1, e2, e3, e4, e5, e6, p6⟩ := hHeld; exact ⟨(HW2.out.cell (World.block_lt_of_cell? _ _ e0)).trans e0, (HW2.out.cell (World.block_lt_of_cell? _ _ e1)).trans e1, (HW2.out.cell (World.block_lt_of_cell? _ _ e2)).trans e2, (HW2.out.cell (World.block_lt_of_cell? _ _ e3)).trans e3, (HW2.out.cell (World.block_lt_of_cell? _ _ e4)).trans e4, (HW2.out.cell (World.block_lt_of_cell? _ _ e5)).trans e5, (HW2.out.cell (World.block_lt_of_cell? _ _ e6)).trans e6, (HW2.out.cell (World.block_lt_of_cell? _ _ p6)).trans p6⟩
 clear hK K
 try simp only [Act.put, sA, sB, sC]
 refine pure_ (i := 4) (N := some 57) (v := ?_) (a' := ?_) #[true,true,true,true,true,false] rfl rfl (by kernel_rfl) (fun _ _ _ h => h) (Or.inl ⟨by rfl, ?_⟩) ?_ ?_
 rotate_left
 · intro w'
   go_simp
   try with_reducible rfl
 rotate_left
 · simp only [Act.put, sA, sB, sC]
   rfl
 refine pure_ (i := 5) (N := some 52) (v := ?_) (a' := ?_) #[true,true,true,true,true,true] rfl rfl (by kernel_rfl) (fun _ _ _ h => h) (Or.inl ⟨by rfl, ?_⟩) ?_ ?_
 rotate_left
 · intro w'
   go_simp
   try with_reducible rfl
 rotate_left
 · simp only [Act.put, sA, sB, sC]
   rfl
 refine done_ (by kernel_rfl) ?_
 clear hHeld
 obtain ⟨e0, e1, e2, e3, e4, e5, e6⟩ := HP2.out.bg.box; obtain ⟨p0, p1, p2, p3, p4, p5, p6, p7, p8, p9⟩ := HP2.out.bp.box
 go_wp2
 obtain ⟨ad', hq, q0, q1, q2⟩ := HP2.out.rg.at_ (i := n) HNL.out
 cases hq
 refine start_ (n := 19) (S := (fun w' => w'.cell? ⟨s + 1, 7, none⟩ = some (.int .i64 ptm) ∧ w'.cell? ⟨s + 1, 6, none⟩ = some (.int .i64 pix) ∧ w'.cell? ⟨s, 6, none⟩ = some (.slice (some ad) g.l.length c) ∧ w'.cell? ⟨s, 1, none⟩ = some (.int .i64 g.fi) ∧ w'.cell? ⟨(ad.add (n * 3)).block, (ad.add (n * 3)).off + 1, none⟩ = some (.int .i64 (el g.l n).f1))) (ds := []) #[false, false, false, false, false, false, false, false, false, false, false, false, false, false, false, false, false, false, false] (by kernel_rfl) rfl rfl ⟨p7, p6, e6, e1, q1⟩ (fun hHeld => ?_)
 clear e0 e1 e2 e3 e4 e5 e6 p0 p1 p2 p3 p4 p5 p6 p7 p8 p9 q0 q1 q2
 refine pure_ (i := 0) (N := some 59) (v := ?_) (a' := ?_) #[true,false,false,false,false,false,false,false,false,false,false,false,false,false,false,false,false,false,false] rfl rfl (by kernel_rfl) (fun _ _ _ h => h) (Or.inl ⟨by rfl, ?_⟩) ?_ ?_
 rotate_left
 · intro w'
   go_simp
   try with_reducible rfl
 rotate_left
 · simp only [Act.put, sA, sB, sC]
   rfl
 refine take_ (i := 1) (N := some 60) (v := ?_) (a' := ?_) #[true,true,false,false,false,false,false,false,false,false,false,false,false,false,false,false,false,false,false] rfl rfl (by kernel_rfl) (fun _ _ _ h => h) (Or.inl ⟨by rfl, ?_⟩) hHeld ?_ ?_
 rotate_left
 · rintro w' ⟨p7, p6, e6, e1, q1⟩
   go_simp
   try with_reducible rfl
 rotate_left
 · simp only [Act.put, sA, sB, sC]
   rfl
 refine pure_ (i := 2) (N := some 61) (v := ?_) (a' := ?_) #[true,true,true,false,false,false,false,false,false,false,false,false,false,false,false,false,false,false,false] rfl rfl (by kernel_rfl) (fun _ _ _ h => h) (Or.inl ⟨by rfl, ?_⟩) ?_ ?_
 rotate_left
 · intro w'
   go_simp
   try with_reducible rfl
 rotate_left
 · simp only [Act.put, sA, sB, sC]
   rfl
 refine pure_ (i := 3) (N := some 62) (v := ?_) (a' := ?_) #[true,true,true,true,false,false,false,false,false,false,false,false,false,false,false,false,false,false,false] rfl rfl (by kernel_rfl) (fun _ _ _ h => h) (Or.inl ⟨by rfl, ?_⟩) ?_ ?_
 rotate_left
 · intro w'
   go_simp
   try with_reducible rfl
 rotate_left
 · simp only [Act.put, sA, sB, sC]
   rfl
 refine pure_ (i := 4) (N := some 63) (v := ?_) (a' := ?_) #[true,true,true,true,true,false,false,false,false,false,false,false,false,false,false,false,false,false,false] rfl rfl (by kernel_rfl) (fun _ _ _ h => h) (Or.inl ⟨by rfl, ?_⟩) ?_ ?_
 rotate_left
 · intro w'
   go_simp
   try with_reducible rfl
 rotate_left
 · simp only [Act.put, sA, sB, sC]
   rfl
 refine take_ (i := 5) (N := some 64) (v := ?_) (a' := ?_) #[true,true,true,true,true,true,false,false,false,false,false,false,false,false,false,false,false,false,false] rfl rfl (by kernel_rfl) (fun _ _ _ h => h) (Or.inl ⟨by rfl, ?_⟩) hHeld ?_ ?_
 rotate_left
 · rintro w' ⟨p7, p6, e6, e1, q1⟩
   go_simp
   try with_reducible rfl
 rotate_left
 · simp only [Act.put, sA, sB, sC]
   rfl
 refine pure_ (i := 6) (N := some 65) (v := ?_) (a' := ?_) #[true,true,true,true,true,true,true,false,false,false,false,false,false,false,false,false,false,false,false] rfl rfl (by kernel_rfl) (fun _ _ _ h => h) (Or.inl ⟨by rfl, ?_⟩) ?_ ?_
 rotate_left
 · intro w'
   go_simp
   try with_reducible rfl
 rotate_left
 · simp only [Act.put, sA, sB, sC]
   rfl
 refine take_ (i := 7) (N := some 66) (v := ?_) (a' := ?_) #[true,true,true,true,true,true,true,true,false,false,false,false,false,false,false,false,false,false,false] rfl rfl (by kernel_rfl) (fun _ _ _ h => h) (Or.inl ⟨by rfl, ?_⟩) hHeld ?_ ?_
 rotate_left
 · rintro w' ⟨p7, p6, e6, e1, q1⟩
   go_simp
   try with_reducible rfl
 rotate_left
 · simp only [Act.put, sA, sB, sC]
   rfl
 refine pure_ (i := 8) (N := some 67) (v := ?_) (a' := ?_) #[true,true,true,true,true,true,true,true,true,false,false,false,false,false,false,false,false,false,false] rfl rfl (by kernel_rfl) (fun _ _ _ h => h) (Or.inl ⟨by rfl, ?_⟩) ?_ ?_
 rotate_left
 · intro w'
   go_simp
   try with_reducible rfl
 rotate_left
 · simp only [Act.put, sA, sB, sC]
   rfl
 refine take_ (i := 9) (N := some 68) (v := ?_) (a' := ?_) #[true,true,true,true,true,true,true,true,true,true,false,false,false,false,false,false,false,false,false] rfl rfl (by kernel_rfl) (fun _ _ _ h => h) (Or.inl ⟨by rfl, ?_⟩) hHeld ?_ ?_
 rotate_left
 · rintro w' ⟨p7, p6, e6, e1, q1⟩
   go_simp
   try with_reducible rfl
 rotate_left
 · simp only [Act.put, sA, sB, sC]
   rfl
 refine pure_ (i := 10) (N := some 69) (v := ?_) (a' := ?_) #[true,true,true,true,true,true,true,true,true,true,true,false,false,false,false,false,false,false,false] rfl rfl (by kernel_rfl) (fun _ _ _ h => h) (Or.inl ⟨by rfl, ?_⟩) ?_ ?_
 rotate_left
 · intro w'
   go_simp
   try with_reducible rfl
 rotate_left
 · simp only [Act.put, sA, sB, sC]
   rfl
 refine take_ (i := 11) (N := some 70) (v := ?_) (a' := ?_) #[true,true,true,true,true,true,true,true,true,true,true,true,false,false,false,false,false,false,false] rfl rfl (by kernel_rfl) (fun _ _ _ h => h) (Or.inl ⟨by rfl, ?_⟩) hHeld ?_ ?_
 rotate_left
 · rintro w' ⟨p7, p6, e6, e1, q1⟩
   go_simp
   try with_reducible rfl
 rotate_left
 · simp only [Act.put, sA, sB, sC]
   rfl
 refine pure_ (i := 12) (N := some 71) (v := ?_) (a' := ?_) #[true,true,true,true,true,true,true,true,true,true,true,true,true,false,false,false,false,false,false] rfl rfl (by kernel_rfl) (fun _ _ _ h => h) (Or.inl ⟨by rfl, ?_⟩) ?_ ?_
 rotate_left
 · intro w'
   go_simp
   try with_reducible rfl
 rotate_left
 · simp only [Act.put, sA, sB, sC]
   rfl
 refine pure_ (i := 13) (N := some 72) (v := ?_) (a' := ?_) #[true,true,true,true,true,true,true,true,true,true,true,true,true,true,false,false,false,false,false] rfl rfl (by kernel_rfl) (fun _ _ _ h => h) (Or.inl ⟨by rfl, ?_⟩) ?_ ?_
 rotate_left
 · intro w'
   go_simp
   try with_reducible rfl
 rotate_left
 · simp only [Act.put, sA, sB, sC]
   rfl
 refine pure_ (i := 14) (N := some 73) (v := ?_) (a' := ?_) #[true,true,true,true,true,true,true,true,true,true,true,true,true,true,true,false,false,false,false] rfl rfl (by kernel_rfl) (fun _ _ _ h => h) (Or.inl ⟨by rfl, ?_⟩) ?_ ?_
 rotate_left
 · intro w'
   go_simp
   try with_reducible rfl
 rotate_left
 · simp only [Act.put, sA, sB, sC]
   rfl
 refine take_ (i := 15) (N := some 74) (v := ?_) (a' := ?_) #[true,true,true,true,true,true,true,true,true,true,true,true,true,true,true,true,false,false,false] rfl rfl (by kernel_rfl) (fun _ _ _ h => h) (Or.inl ⟨by rfl, ?_⟩) hHeld ?_ ?_
 rotate_left
 · rintro w' ⟨p7, p6, e6, e1, q1⟩
   go_simp
   try with_reducible rfl
 rotate_left
 · simp only [Act.put, sA, sB, sC]
   rfl
 refine pure_ (i := 16) (N := some 75) (v := ?_) (a' := ?_) #[true,true,true,true,true,true,true,true,true,true,true,true,true,true,true,true,true,false,false] rfl rfl (by kernel_rfl) (fun _ _ _ h => h) (Or.inl ⟨by rfl, ?_⟩) ?_ ?_
 rotate_left
 · intro w'
   go_simp
   try with_reducible rfl
 rotate_left
 · simp only [Act.put, sA, sB, sC]
   rfl
 refine pure_ (i := 17) (N := some 76) (v := ?_) (a' := ?_) #[true,true,true,true,true,true,true,true,true,true,true,true,true,true,true,true,true,true,false] rfl rfl (by kernel_rfl) (fun _ _ _ h => h) (Or.inl ⟨by rfl, ?_⟩) ?_ ?_
 rotate_left
 · intro w'
   go_simp
   try with_reducible rfl
 rotate_left
 · simp only [Act.put, sA, sB, sC]
   rfl
 refine pure_ (i := 18) (N := some 58) (v := ?_) (a' := ?_) #[true,true,true,true,true,true,true,true,true,true,true,true,true,true,true,true,true,true,true] rfl rfl (by kernel_rfl) (fun _ _ _ h => h) (Or.inl ⟨by rfl, ?_⟩) ?_ ?_
 rotate_left
 · intro w'
   go_simp
   try with_reducible rfl
 rotate_left
 · simp only [Act.put, sA, sB, sC]
   rfl
 refine done_ (by kernel_rfl) ?_
 clear hHeld
 have HPD := Aside0.mk (HP2.out.drew)
 obtain ⟨e0, e1, e2, e3, e4, e5, e6⟩ := HPD.out.bg.box; obtain ⟨p0, p1, p2, p3, p4, p5, p6, p7, p8, p9⟩ := HPD.out.bp.box
 go_wp2
 go_ret
 exact ⟨by rw [HG.out]; try rfl, by first | exact HPD.out.b | (rw [HS.out]; exact HPD.out.b)⟩
set_option maxHeartbeats 8000000 in
set_option maxRecDepth 100000 in
theorem ref_Check_a1 (g : Grp) (A : Option Addr) (c : Nat) (pg pk : Int) (pl : List Ent) (pht phv phc pix ptm : Int) (pm ph : Bool) (Ap : Option Addr) (cp : Nat) (w : World) (h : Rd w A c g.l) (hp : Rd w Ap cp pl) (h1 : isP ⟨pg, pk, pl, pht, phv, phc, pix, ptm, pm, ph⟩ = true) (h3 : pg = g.id) (h4 : pk = 1) (h5 : (el pl 0).f0 < g.fi) :
   Calls Try.prog 21 #[vG g A c, vP ⟨pg, pk, pl, pht, phv, phc, pix, ptm, pm, ph⟩ Ap cp] w fun e w' => e = .returned (.int .i64 (chkG g ⟨pg, pk, pl, pht, phv, phc, pix, ptm, pm, ph⟩)) ∧ Below w.heap.size w w' := by
 subst h3
 subst h4
 have HG : Aside0 (chkG g ⟨g.id, 1, pl, pht, phv, phc, pix, ptm, pm, ph⟩ = 15) := ⟨by unfold chkG; rw [if_pos ⟨h1, by show ¬ (1 : Int) = 6; decide, by show ¬ (1 : Int) = 5; decide, rfl⟩]; unfold chkK; rw [if_pos rfl, if_pos h5]⟩
 have HB := Aside0.mk h1
 have hne : 0 < pl.length := prt_ne h1 rfl
 have HNE := Aside0.mk hne
 obtain ⟨ad, rfl, _⟩ := hp.at_ hne
 have hne2 : (0 : Int) < (pl.length : Int) := by omega
 have j5 : decide ((el pl 0).f0 < g.fi) = true := decide_eq_true h5
 clear h5 hne
 clear h1
 obtain ⟨s, hs⟩ : ∃ s, w.heap.size = s := ⟨_, rfl⟩
 have hp0 := Pair.new g A c ⟨g.id, 1, pl, pht, phv, phc, pix, ptm, pm, ph⟩ (some ad) cp w h hp
 rw [hs] at hp0
 have HP0 := Aside0.mk hp0
 have HS := Aside0.mk hs
 clear h hp hp0
 unfold vG vP
 go_enter Try.func21, Try.ntmps21
 go_wp2_with (first | (go_at_call 40; refine (ris_calls ⟨g.id, 1, pl, pht, phv, phc, pix, ptm, pm, ph⟩ _ cp _ HP0.out.rp HB.out).mono ?_; rintro e w1 ⟨rfl, hw1⟩; have HP1 := Aside0.mk (HP0.out.below hw1); clear hw1; obtain ⟨e0, e1, e2, e3, e4, e5, e6⟩ := HP1.out.bg.box; obtain ⟨p0, p1, p2, p3, p4, p5, p6, p7, p8, p9⟩ := HP1.out.bp.box; obtain ⟨ad', hq, q0, q1, q2⟩ := HP1.out.rp.at_ (i := 0) HNE.out; cases hq; simp only [ad0] at q0 q1 q2) | fail)
 go_ret
 exact ⟨by rw [HG.out]; try rfl, by first | exact HP1.out.b | (rw [HS.out]; exact HP1.out.b)⟩
set_option maxHeartbeats 8000000 in
set_option maxRecDepth 100000 in
theorem ref_Check_a2 (g : Grp) (A : Option Addr) (c : Nat) (pg pk : Int) (pl : List Ent) (pht phv phc pix ptm : Int) (pm ph : Bool) (Ap : Option Addr) (cp : Nat) (w : World) (h : Rd w A c g.l) (hp : Rd w Ap cp pl) (h1 : isP ⟨pg, pk, pl, pht, phv, phc, pix, ptm, pm, ph⟩ = true) (h3 : pg = g.id) (h4 : pk = 1) (h5 : ¬ (el pl 0).f0 < g.fi) (h6 : lastG g < wrap64 ((el pl 0).f0 - 1)) :
   Calls Try.prog 21 #[vG g A c, vP ⟨pg, pk, pl, pht, phv, phc, pix, ptm, pm, ph⟩ Ap cp] w fun e w' => e = .returned (.int .i64 (chkG g ⟨pg, pk, pl, pht, phv, phc, pix, ptm, pm, ph⟩)) ∧ Below w.heap.size w w' := by
 subst h3
 subst h4
 have HG : Aside0 (chkG g ⟨g.id, 1, pl, pht, phv, phc, pix, ptm, pm, ph⟩ = 14) := ⟨by unfold chkG; rw [if_pos ⟨h1, by show ¬ (1 : Int) = 6; decide, by show ¬ (1 : Int) = 5; decide, rfl⟩]; unfold chkK; rw [if_pos rfl, if_neg h5, if_pos h6]⟩
 have HB := Aside0.mk h1
 have hne : 0 < pl.length := prt_ne h1 rfl
 have HNE := Aside0.mk hne
 obtain ⟨ad, rfl, _⟩ := hp.at_ hne
 have hne2 : (0 : Int) < (pl.length : Int) := by omega
 have j5 : decide ((el pl 0).f0 < g.fi) = false := decide_eq_false h5
 have j6 : decide (lastG g < wrap64 ((el pl 0).f0 - 1)) = true := decide_eq_true h6
 clear h5 h6 hne
 clear h1
 obtain ⟨s, hs⟩ : ∃ s, w.heap.size = s := ⟨_, rfl⟩
 have hp0 := Pair.new g A c ⟨g.id, 1, pl, pht, phv, phc, pix, ptm, pm, ph⟩ (some ad) cp w h hp
 rw [hs] at hp0
 have HP0 := Aside0.mk hp0
 have HS := Aside0.mk hs
 clear h hp hp0
 unfold vG vP
 go_enter Try.func21, Try.ntmps21
 go_wp2_with (first | (go_at_call 40; refine (ris_calls ⟨g.id, 1, pl, pht, phv, phc, pix, ptm, pm, ph⟩ _ cp _ HP0.out.rp HB.out).mono ?_; rintro e w1 ⟨rfl, hw1⟩; have HP1 := Aside0.mk (HP0.out.below hw1); clear hw1; obtain ⟨e0, e1, e2, e3, e4, e5, e6⟩ := HP1.out.bg.box; obtain ⟨p0, p1, p2, p3, p4, p5, p6, p7, p8, p9⟩ := HP1.out.bp.box; obtain ⟨ad', hq, q0, q1, q2⟩ := HP1.out.rp.at_ (i := 0) HNE.out; cases hq; simp only [ad0] at q0 q1 q2) | (go_at_call 26; refine (ref_Last' g _ c _ HP1.out.rg).mono ?_; rintro e w2 ⟨rfl, hw2⟩; have HP2 := Aside0.mk (HP1.out.below hw2); clear hw2; clear e0 e1 e2 e3 e4 e5 e6 p0 p1 p2 p3 p4 p5 p6 p7 p8 p9; obtain ⟨e0, e1, e2, e3, e4, e5, e6⟩ := HP2.out.bg.box; obtain ⟨p0, p1, p2, p3, p4, p5, p6, p7, p8, p9⟩ := HP2.out.bp.box; clear q0 q1 q2; obtain ⟨ad', hq, q0, q1, q2⟩ := HP2.out.rp.at_ (i := 0) HNE.out; cases hq; simp only [ad0] at q0 q1 q2) | fail)
 go_ret
 exact ⟨by rw [HG.out]; try rfl, by first | exact HP2.out.b | (rw [HS.out]; exact HP2.out.b)⟩
set_option maxHeartbeats 8000000 in
set_option maxRecDepth 100000 in
theorem ref_Check_a3 (g : Grp) (A : Option Addr) (c : Nat) (pg pk : Int) (pl : List Ent) (pht phv phc pix ptm : Int) (pm ph : Bool) (Ap : Option Addr) (cp : Nat) (w : World) (h : Rd w A c g.l) (hp : Rd w Ap cp pl) (h1 : isP ⟨pg, pk, pl, pht, phv, phc, pix, ptm, pm, ph⟩ = true) (h3 : pg = g.id) (h4 : pk = 1) (h5 : ¬ (el pl 0).f0 < g.fi) (h6 : ¬ lastG g < wrap64 ((el pl 0).f0 - 1)) :
   Calls Try.prog 21 #[vG g A c, vP ⟨pg, pk, pl, pht, phv, phc, pix, ptm, pm, ph⟩ Ap cp] w fun e w' => e = .returned (.int .i64 (chkG g ⟨pg, pk, pl, pht, phv, phc, pix, ptm, pm, ph⟩)) ∧ Below w.heap.size w w' := by
 subst h3
 subst h4
 have HG : Aside0 (chkG g ⟨g.id, 1, pl, pht, phv, phc, pix, ptm, pm, ph⟩ = 0) := ⟨by unfold chkG; rw [if_pos ⟨h1, by show ¬ (1 : Int) = 6; decide, by show ¬ (1 : Int) = 5; decide, rfl⟩]; unfold chkK; rw [if_pos rfl, if_neg h5, if_neg h6]⟩
 have HB := Aside0.mk h1
 have hne : 0 < pl.length := prt_ne h1 rfl
 have HNE := Aside0.mk hne
 obtain ⟨ad, rfl, _⟩ := hp.at_ hne
 have hne2 : (0 : Int) < (pl.length : Int) := by omega
 have j5 : decide ((el pl 0).f0 < g.fi) = false := decide_eq_false h5
 have j6 : decide (lastG g < wrap64 ((el pl 0).f0 - 1)) = false := decide_eq_false h6
 clear h5 h6 hne
 clear h1
 obtain ⟨s, hs⟩ : ∃ s, w.heap.size = s := ⟨_, rfl⟩
 have hp0 := Pair.new g A c ⟨g.id, 1, pl, pht, phv, phc, pix, ptm, pm, ph⟩ (some ad) cp w h hp
 rw [hs] at hp0
 have HP0 := Aside0.mk hp0
 have HS := Aside0.mk hs
 clear h hp hp0
 unfold vG vP
 go_enter Try.func21, Try.ntmps21
 go_wp2_with (first | (go_at_call 40; refine (ris_calls ⟨g.id, 1, pl, pht, phv, phc, pix, ptm, pm, ph⟩ _ cp _ HP0.out.rp HB.out).mono ?_; rintro e w1 ⟨rfl, hw1⟩; have HP1 := Aside0.mk (HP0.out.below hw1); clear hw1; obtain ⟨e0, e1, e2, e3, e4, e5, e6⟩ := HP1.out.bg.box; obtain ⟨p0, p1, p2, p3, p4, p5, p6, p7, p8, p9⟩ := HP1.out.bp.box; obtain ⟨ad', hq, q0, q1, q2⟩ := HP1.out.rp.at_ (i := 0) HNE.out; cases hq; simp only [ad0] at q0 q1 q2) | (go_at_call 26; refine (ref_Last' g _ c _ HP1.out.rg).mono ?_; rintro e w2 ⟨rfl, hw2⟩; have HP2 := Aside0.mk (HP1.out.below hw2); clear hw2; clear e0 e1 e2 e3 e4 e5 e6 p0 p1 p2 p3 p4 p5 p6 p7 p8 p9; obtain ⟨e0, e1, e2, e3, e4, e5, e6⟩ := HP2.out.bg.box; obtain ⟨p0, p1, p2, p3, p4, p5, p6, p7, p8, p9⟩ := HP2.out.bp.box; clear q0 q1 q2; obtain ⟨ad', hq, q0, q1, q2⟩ := HP2.out.rp.at_ (i := 0) HNE.out; cases hq; simp only [ad0] at q0 q1 q2) | fail)
 go_ret
 exact ⟨by rw [HG.out]; try rfl, by first | exact HP2.out.b | (rw [HS.out]; exact HP2.out.b)⟩
theorem ref_Check (g : Grp) (A : Option Addr) (c : Nat) (p : Prt) (Ap : Option Addr) (cp : Nat) (w : World) (h : Rd w A c g.l) (hp : Rd w Ap cp p.l) (hD : isG true g = true) :
   Calls Try.prog 21 #[vG g A c, vP p Ap cp] w fun e w' => e = .returned (.int .i64 (chkG g p)) ∧ Below w.heap.size w w' := by
 obtain ⟨pg, pk, pl, pht, phv, phc, pix, ptm, pm, ph⟩ := p
 cases h1 : isP ⟨pg, pk, pl, pht, phv, phc, pix, ptm, pm, ph⟩ with
 | false => exact ref_Check_n1 g A c pg pk pl pht phv phc pix ptm pm ph Ap cp w h hp h1
 | true =>
   by_cases k6 : pk = 6
   · exact ref_Check_n2 g A c pg pk pl pht phv phc pix ptm pm ph Ap cp w h hp h1 k6
   by_cases k5 : pk = 5
   · exact ref_Check_n3 g A c pg pk pl pht phv phc pix ptm pm ph Ap cp w h hp h1 k5
   by_cases h3 : pg = g.id
   · rcases prt_kind h1 with h4 | h4 | h4 | h4 | h4 | h4
     · by_cases h5 : (el pl 0).f0 < g.fi
       · exact ref_Check_a1 g A c pg pk pl pht phv phc pix ptm pm ph Ap cp w h hp h1 h3 h4 h5
       · by_cases h6 : lastG g < wrap64 ((el pl 0).f0 - 1)
         · exact ref_Check_a2 g A c pg pk pl pht phv phc pix ptm pm ph Ap cp w h hp h1 h3 h4 h5 h6
         · exact ref_Check_a3 g A c pg pk pl pht phv phc pix ptm pm ph Ap cp w h hp h1 h3 h4 h5 h6
     · exact ref_Check_b g A c pg pk pl pht phv phc pix ptm pm ph Ap cp w h hp h1 h3 h4
     · by_cases h5 : pix < g.fi
       · exact ref_Check_c1 g A c pg pk pl pht phv phc pix ptm pm ph Ap cp w h hp h1 h3 h4 h5
       · by_cases h6 : lastG g < pix
         · exact ref_Check_c2 g A c pg pk pl pht phv phc pix ptm pm ph Ap cp w h hp h1 h3 h4 h5 h6
         · by_cases h7 : ptm = 0
           · exact ref_Check_c3 g A c pg pk pl pht phv phc pix ptm pm ph Ap cp w h hp h1 h3 h4 h5 h6 h7
           · by_cases h8 : ptm = (el g.l (pix - g.fi).toNat).f1
             · exact ref_Check_c5 g A c pg pk pl pht phv phc pix ptm pm ph Ap cp w h hp h1 h3 h4 hD h5 h6 h7 h8
             · exact ref_Check_c4 g A c pg pk pl pht phv phc pix ptm pm ph Ap cp w h hp h1 h3 h4 hD h5 h6 h7 h8
     · by_cases h5 : pix < g.fi
       · exact ref_Check_d1 g A c pg pk pl pht phv phc pix ptm pm ph Ap cp w h hp h1 h3 h4 h5
       · exact ref_Check_d2 g A c pg pk pl pht phv phc pix ptm pm ph Ap cp w h hp h1 h3 h4 h5
     · exact absurd h4 k5
     · exact absurd h4 k6
   · exact ref_Check_n4 g A c pg pk pl pht phv phc pix ptm pm ph Ap cp w h hp h1 k6 k5 h3
end Go.Proofs.Ytlfdmlacadoolaa.PartW
