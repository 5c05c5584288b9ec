/- The statement SparseDense: of a log without holes a part that may be done does the same as it does there; no condition beyond the row's. -/
import Derived.Test.YtfnflbclhaeedaaKnown
import Derived.Test.YtfnflbclhaeedaaLoose
import Derived.Test.YtfnflbclhaeedaaFew
import Derived.Test.YtfnflbclhaeedaaDenseQ
set_option linter.unusedVariables false
set_option linter.unusedSimpArgs false
namespace Go.Proofs.Ytfnflbclhaeedaa.PartW
open Go Go.RowKit Go.Shelf Go.Proofs.Ytfnflbclhaeedaa.A Go.Proofs.Ytfnflbclhaeedaa.Sp Go.Proofs.Ytfnflbclhaeedaa.Reg Go.Proofs.Ytfnflbclhaeedaa.Seq Go.Proofs.YtfnflbclhaeedaaW.PrintWords Go.Proofs.YtfnflbclhaeedaaW.PrintLast Go.Proofs.YtfnflbclhaeedaaW.PrintMore
theorem dis_calls (g : Grp) (A : Option Addr) (c : Nat) (w : World) (h : Rd w A c g.l) {b : Bool} (hb : isG true g = b) : Calls Try.prog 16 #[vG g A c] w fun e w' => e = .returned (.bool b) ∧ Below w.heap.size w w' := by
 rw [← hb]; exact ref_Is6 g A c w h
theorem dchk_calls (g : Grp) (A : Option Addr) (c : Nat) (p : Prt) (Ap : Option Addr) (cp : Nat) (w : World) (h : Rd w A c g.l) (hp : Rd w Ap cp p.l) (hD : isG true g = true) {v : Int} (hv : chkG g p = v) : Calls Try.prog 19 #[vG g A c, vP p Ap cp] w fun e w' => e = .returned (.int .i64 v) ∧ Below w.heap.size w w' := by
 rw [← hv]; exact ref_Check g A c p Ap cp w h hp hD
theorem dsame_calls (a b : Grp) (A : Option Addr) (c : Nat) (A' : Option Addr) (c' : Nat) (w : World) (ha : Rd w A c a.l) (hb : Rd w A' c' b.l) {r : Bool} (hr : sameG a b = r) : Calls Try.prog 17 #[vG a A c, vG b A' c'] w fun e w' => e = .returned (.bool r) ∧ Below w.heap.size w w' := by
 rw [← hr]; exact ref_SameG a b A c A' c' w ha hb
theorem BlkP.free' {p : Prt} {A : Option Addr} {c B : Nat} {W : World} (h : BlkP p A c B W) (o : Nat) : W.frozen? ⟨B, o, none⟩ = false := by
 unfold BlkP at h
 unfold World.frozen?
 simp [h]
theorem GP.kind3 {g : Grp} {A : Option Addr} {c : Nat} {p : Prt} {Ap : Option Addr} {cp s : Nat} {w W : World} (h : GP g A c p Ap cp s w W) : GP g A c ⟨p.g, 3, p.l, p.ht, p.hv, p.hc, p.ix, p.tm, p.mrk, p.hed⟩ Ap cp s w (W.setCell ⟨s + 1, 1, none⟩ (.int .i64 3)) := by
 have ho : Only (fun q => q = s + 1) W (W.setCell ⟨s + 1, 1, none⟩ (.int .i64 3)) := (Only.refl (fun q => q = s + 1) W).setCell (p := ⟨s + 1, 1, none⟩) rfl _
 refine ⟨h.hs, h.bg.only ho (fun h => by have h2 : s = s + 1 := h; omega), ?_, h.rg.only ho (fun q hq h2 => by have h3 : q = s + 1 := h2; have := h.ag q hq; omega), h.rp.only ho (fun q hq h2 => by have h3 : q = s + 1 := h2; have := h.ap q hq; omega), h.ag, h.ap,
   h.b.trans (ho.below (by have := h.sz; omega) (fun q hq h => by have h2 : q = s + 1 := h; omega)), Nat.le_trans h.sz ho.size⟩
 have hb := h.bp
 unfold BlkP at hb ⊢
 simp [World.setCell, Array.getElem?_modify, hb]
set_option maxHeartbeats 8000000 in
set_option maxRecDepth 100000 in
theorem dense_n1 (g : Grp) (A : Option Addr) (c : Nat) (p : Prt) (Ap : Option Addr) (cp : Nat) (w : World) (h : Rd w A c g.l) (hp : Rd w Ap cp p.l) {r1 r2 : Bool}
   (hf1 : ∀ (A : Option Addr) (c : Nat) (w : World), Rd w A c g.l → Calls Try.prog 10 #[vG g A c] w fun e w' => e = .returned (.bool r1) ∧ Below w.heap.size w w')
   (hf2 : ∀ (A : Option Addr) (c : Nat) (w : World), Rd w A c p.l → Calls Try.prog 11 #[vP p A c] w fun e w' => e = .returned (.bool r2) ∧ Below w.heap.size w w') (x1 : r1 = false) :
   Calls Try.prog 4 #[vG g A c, vP p Ap cp] w fun e w' => e = .returned (.bool true) ∧ Below w.heap.size w w' := by
 obtain ⟨s, hs⟩ : ∃ s, w.heap.size = s := ⟨_, rfl⟩
 have hg0 := GP.new g A c p Ap cp w h hp
 rw [hs] at hg0
 have HP0 := Aside0.mk hg0
 have HF1 := Aside0.mk hf1
 have HF2 := Aside0.mk hf2
 have HS := Aside0.mk hs
 subst x1
 clear h hp hf1 hf2 hg0
 unfold vG vP
 go_enter Try.func4, Try.ntmps4
 go_wp2_with (first | (go_at_call 9; refine (known12 _).mono ?_; rintro e w1 ⟨rfl, hw1⟩; have HP1 := Aside0.mk (HP0.out.below hw1); clear hw1; obtain ⟨e0, e1, e2, e3, e4, e5, e6⟩ := HP1.out.bg.box; obtain ⟨p0, p1, p2, p3, p4, p5, p6, p7, p8, p9⟩ := HP1.out.bp.box) | (go_at_call 10; refine (HF1.out A c _ HP1.out.rg).mono ?_; rintro e w2 ⟨rfl, hw2⟩; have HP2 := Aside0.mk (HP1.out.below hw2); clear hw2; clear e0 e1 e2 e3 e4 e5 e6 p0 p1 p2 p3 p4 p5 p6 p7 p8 p9; obtain ⟨e0, e1, e2, e3, e4, e5, e6⟩ := HP2.out.bg.box; obtain ⟨p0, p1, p2, p3, p4, p5, p6, p7, p8, p9⟩ := HP2.out.bp.box))
 go_ret
 exact ⟨rfl, by first | exact HP2.out.b | (rw [HS.out]; exact HP2.out.b)⟩
set_option maxHeartbeats 8000000 in
set_option maxRecDepth 100000 in
theorem dense_n2 (g : Grp) (A : Option Addr) (c : Nat) (p : Prt) (Ap : Option Addr) (cp : Nat) (w : World) (h : Rd w A c g.l) (hp : Rd w Ap cp p.l) {r1 r2 : Bool}
   (hf1 : ∀ (A : Option Addr) (c : Nat) (w : World), Rd w A c g.l → Calls Try.prog 10 #[vG g A c] w fun e w' => e = .returned (.bool r1) ∧ Below w.heap.size w w')
   (hf2 : ∀ (A : Option Addr) (c : Nat) (w : World), Rd w A c p.l → Calls Try.prog 11 #[vP p A c] w fun e w' => e = .returned (.bool r2) ∧ Below w.heap.size w w') (x1 : r1 = true) (x2 : r2 = false) :
   Calls Try.prog 4 #[vG g A c, vP p Ap cp] w fun e w' => e = .returned (.bool true) ∧ Below w.heap.size w w' := by
 obtain ⟨s, hs⟩ : ∃ s, w.heap.size = s := ⟨_, rfl⟩
 have hg0 := GP.new g A c p Ap cp w h hp
 rw [hs] at hg0
 have HP0 := Aside0.mk hg0
 have HF1 := Aside0.mk hf1
 have HF2 := Aside0.mk hf2
 have HS := Aside0.mk hs
 subst x1
 subst x2
 clear h hp hf1 hf2 hg0
 unfold vG vP
 go_enter Try.func4, Try.ntmps4
 go_wp2_with (first | (go_at_call 9; refine (known12 _).mono ?_; rintro e w1 ⟨rfl, hw1⟩; have HP1 := Aside0.mk (HP0.out.below hw1); clear hw1; obtain ⟨e0, e1, e2, e3, e4, e5, e6⟩ := HP1.out.bg.box; obtain ⟨p0, p1, p2, p3, p4, p5, p6, p7, p8, p9⟩ := HP1.out.bp.box) | (go_at_call 10; refine (HF1.out A c _ HP1.out.rg).mono ?_; rintro e w2 ⟨rfl, hw2⟩; have HP2 := Aside0.mk (HP1.out.below hw2); clear hw2; clear e0 e1 e2 e3 e4 e5 e6 p0 p1 p2 p3 p4 p5 p6 p7 p8 p9; obtain ⟨e0, e1, e2, e3, e4, e5, e6⟩ := HP2.out.bg.box; obtain ⟨p0, p1, p2, p3, p4, p5, p6, p7, p8, p9⟩ := HP2.out.bp.box) | (go_at_call 11; refine (HF2.out Ap cp _ HP2.out.rp).mono ?_; rintro e w3 ⟨rfl, hw3⟩; have HP3 := Aside0.mk (HP2.out.below hw3); clear hw3; clear e0 e1 e2 e3 e4 e5 e6 p0 p1 p2 p3 p4 p5 p6 p7 p8 p9; obtain ⟨e0, e1, e2, e3, e4, e5, e6⟩ := HP3.out.bg.box; obtain ⟨p0, p1, p2, p3, p4, p5, p6, p7, p8, p9⟩ := HP3.out.bp.box))
 go_ret
 exact ⟨rfl, by first | exact HP3.out.b | (rw [HS.out]; exact HP3.out.b)⟩
set_option maxHeartbeats 8000000 in
set_option maxRecDepth 100000 in
theorem dense_n3 (g : Grp) (A : Option Addr) (c : Nat) (p : Prt) (Ap : Option Addr) (cp : Nat) (w : World) (h : Rd w A c g.l) (hp : Rd w Ap cp p.l) {r1 r2 : Bool}
   (hf1 : ∀ (A : Option Addr) (c : Nat) (w : World), Rd w A c g.l → Calls Try.prog 10 #[vG g A c] w fun e w' => e = .returned (.bool r1) ∧ Below w.heap.size w w')
   (hf2 : ∀ (A : Option Addr) (c : Nat) (w : World), Rd w A c p.l → Calls Try.prog 11 #[vP p A c] w fun e w' => e = .returned (.bool r2) ∧ Below w.heap.size w w') (x1 : r1 = true) (x2 : r2 = true) (x3 : isG true g = false) :
   Calls Try.prog 4 #[vG g A c, vP p Ap cp] w fun e w' => e = .returned (.bool true) ∧ Below w.heap.size w w' := by
 obtain ⟨s, hs⟩ : ∃ s, w.heap.size = s := ⟨_, rfl⟩
 have hg0 := GP.new g A c p Ap cp w h hp
 rw [hs] at hg0
 have HP0 := Aside0.mk hg0
 have HF1 := Aside0.mk hf1
 have HF2 := Aside0.mk hf2
 have HS := Aside0.mk hs
 subst x1
 subst x2
 have HD := Aside0.mk x3
 clear x3
 clear h hp hf1 hf2 hg0
 unfold vG vP
 go_enter Try.func4, Try.ntmps4
 go_wp2_with (first | (go_at_call 9; refine (known12 _).mono ?_; rintro e w1 ⟨rfl, hw1⟩; have HP1 := Aside0.mk (HP0.out.below hw1); clear hw1; obtain ⟨e0, e1, e2, e3, e4, e5, e6⟩ := HP1.out.bg.box; obtain ⟨p0, p1, p2, p3, p4, p5, p6, p7, p8, p9⟩ := HP1.out.bp.box) | (go_at_call 10; refine (HF1.out A c _ HP1.out.rg).mono ?_; rintro e w2 ⟨rfl, hw2⟩; have HP2 := Aside0.mk (HP1.out.below hw2); clear hw2; clear e0 e1 e2 e3 e4 e5 e6 p0 p1 p2 p3 p4 p5 p6 p7 p8 p9; obtain ⟨e0, e1, e2, e3, e4, e5, e6⟩ := HP2.out.bg.box; obtain ⟨p0, p1, p2, p3, p4, p5, p6, p7, p8, p9⟩ := HP2.out.bp.box) | (go_at_call 11; refine (HF2.out Ap cp _ HP2.out.rp).mono ?_; rintro e w3 ⟨rfl, hw3⟩; have HP3 := Aside0.mk (HP2.out.below hw3); clear hw3; clear e0 e1 e2 e3 e4 e5 e6 p0 p1 p2 p3 p4 p5 p6 p7 p8 p9; obtain ⟨e0, e1, e2, e3, e4, e5, e6⟩ := HP3.out.bg.box; obtain ⟨p0, p1, p2, p3, p4, p5, p6, p7, p8, p9⟩ := HP3.out.bp.box) | (go_at_call 16; refine (dis_calls g A c _ HP3.out.rg HD.out).mono ?_; rintro e w4 ⟨rfl, hw4⟩; have HP4 := Aside0.mk (HP3.out.below hw4); clear hw4; clear e0 e1 e2 e3 e4 e5 e6 p0 p1 p2 p3 p4 p5 p6 p7 p8 p9; obtain ⟨e0, e1, e2, e3, e4, e5, e6⟩ := HP4.out.bg.box; obtain ⟨p0, p1, p2, p3, p4, p5, p6, p7, p8, p9⟩ := HP4.out.bp.box))
 go_ret
 exact ⟨rfl, by first | exact HP4.out.b | (rw [HS.out]; exact HP4.out.b)⟩
set_option maxHeartbeats 8000000 in
set_option maxRecDepth 100000 in
theorem dense_n4 (g : Grp) (A : Option Addr) (c : Nat) (p : Prt) (Ap : Option Addr) (cp : Nat) (w : World) (h : Rd w A c g.l) (hp : Rd w Ap cp p.l) {r1 r2 : Bool}
   (hf1 : ∀ (A : Option Addr) (c : Nat) (w : World), Rd w A c g.l → Calls Try.prog 10 #[vG g A c] w fun e w' => e = .returned (.bool r1) ∧ Below w.heap.size w w')
   (hf2 : ∀ (A : Option Addr) (c : Nat) (w : World), Rd w A c p.l → Calls Try.prog 11 #[vP p A c] w fun e w' => e = .returned (.bool r2) ∧ Below w.heap.size w w') (x1 : r1 = true) (x2 : r2 = true) (x3 : isG true g = true) (v : Int) (x4 : chkG g p = v) (x5 : v ≠ 0) :
   Calls Try.prog 4 #[vG g A c, vP p Ap cp] w fun e w' => e = .returned (.bool true) ∧ Below w.heap.size w w' := by
 obtain ⟨s, hs⟩ : ∃ s, w.heap.size = s := ⟨_, rfl⟩
 have hg0 := GP.new g A c p Ap cp w h hp
 rw [hs] at hg0
 have HP0 := Aside0.mk hg0
 have HF1 := Aside0.mk hf1
 have HF2 := Aside0.mk hf2
 have HS := Aside0.mk hs
 subst x1
 subst x2
 have HD := Aside0.mk x3
 have HC := Aside0.mk x4
 have j5 : (v == 0) = false := beq_eq_false_iff_ne.2 x5
 have j5n : (v != 0) = true := by rw [bne, j5]; rfl
 have j5m : (!(v == 0)) = true := by rw [j5]; rfl
 clear x3 x4 x5
 clear h hp hf1 hf2 hg0
 unfold vG vP
 go_enter Try.func4, Try.ntmps4
 go_wp2_with (first | (go_at_call 9; refine (known12 _).mono ?_; rintro e w1 ⟨rfl, hw1⟩; have HP1 := Aside0.mk (HP0.out.below hw1); clear hw1; obtain ⟨e0, e1, e2, e3, e4, e5, e6⟩ := HP1.out.bg.box; obtain ⟨p0, p1, p2, p3, p4, p5, p6, p7, p8, p9⟩ := HP1.out.bp.box) | (go_at_call 10; refine (HF1.out A c _ HP1.out.rg).mono ?_; rintro e w2 ⟨rfl, hw2⟩; have HP2 := Aside0.mk (HP1.out.below hw2); clear hw2; clear e0 e1 e2 e3 e4 e5 e6 p0 p1 p2 p3 p4 p5 p6 p7 p8 p9; obtain ⟨e0, e1, e2, e3, e4, e5, e6⟩ := HP2.out.bg.box; obtain ⟨p0, p1, p2, p3, p4, p5, p6, p7, p8, p9⟩ := HP2.out.bp.box) | (go_at_call 11; refine (HF2.out Ap cp _ HP2.out.rp).mono ?_; rintro e w3 ⟨rfl, hw3⟩; have HP3 := Aside0.mk (HP2.out.below hw3); clear hw3; clear e0 e1 e2 e3 e4 e5 e6 p0 p1 p2 p3 p4 p5 p6 p7 p8 p9; obtain ⟨e0, e1, e2, e3, e4, e5, e6⟩ := HP3.out.bg.box; obtain ⟨p0, p1, p2, p3, p4, p5, p6, p7, p8, p9⟩ := HP3.out.bp.box) | (go_at_call 16; refine (dis_calls g A c _ HP3.out.rg HD.out).mono ?_; rintro e w4 ⟨rfl, hw4⟩; have HP4 := Aside0.mk (HP3.out.below hw4); clear hw4; clear e0 e1 e2 e3 e4 e5 e6 p0 p1 p2 p3 p4 p5 p6 p7 p8 p9; obtain ⟨e0, e1, e2, e3, e4, e5, e6⟩ := HP4.out.bg.box; obtain ⟨p0, p1, p2, p3, p4, p5, p6, p7, p8, p9⟩ := HP4.out.bp.box) | (go_at_call 19; refine (dchk_calls g A c p Ap cp _ HP4.out.rg HP4.out.rp HD.out HC.out).mono ?_; rintro e w5 ⟨rfl, hw5⟩; have HP5 := Aside0.mk (HP4.out.below hw5); clear hw5; clear e0 e1 e2 e3 e4 e5 e6 p0 p1 p2 p3 p4 p5 p6 p7 p8 p9; obtain ⟨e0, e1, e2, e3, e4, e5, e6⟩ := HP5.out.bg.box; obtain ⟨p0, p1, p2, p3, p4, p5, p6, p7, p8, p9⟩ := HP5.out.bp.box))
 go_ret
 exact ⟨rfl, by first | exact HP5.out.b | (rw [HS.out]; exact HP5.out.b)⟩
set_option maxHeartbeats 8000000 in
set_option maxRecDepth 100000 in
theorem dense_e1 (g : Grp) (A : Option Addr) (c : Nat) (p : Prt) (Ap : Option Addr) (cp : Nat) (w : World) (h : Rd w A c g.l) (hp : Rd w Ap cp p.l) {r1 r2 : Bool}
   (hf1 : ∀ (A : Option Addr) (c : Nat) (w : World), Rd w A c g.l → Calls Try.prog 10 #[vG g A c] w fun e w' => e = .returned (.bool r1) ∧ Below w.heap.size w w')
   (hf2 : ∀ (A : Option Addr) (c : Nat) (w : World), Rd w A c p.l → Calls Try.prog 11 #[vP p A c] w fun e w' => e = .returned (.bool r2) ∧ Below w.heap.size w w') (x1 : r1 = true) (x2 : r2 = true) (x3 : isG true g = true) (x4 : chkG g p = 0) (hL : g.l.length + p.l.length ≤ 4398046511104) (hk4 : p.k ≠ 4) :
   Calls Try.prog 4 #[vG g A c, vP p Ap cp] w fun e w' => e = .returned (.bool true) ∧ Below w.heap.size w w' := by
 obtain ⟨s, hs⟩ : ∃ s, w.heap.size = s := ⟨_, rfl⟩
 have hg0 := GP.new g A c p Ap cp w h hp
 rw [hs] at hg0
 have HP0 := Aside0.mk hg0
 have HF1 := Aside0.mk hf1
 have HF2 := Aside0.mk hf2
 have HS := Aside0.mk hs
 subst x1
 subst x2
 have ht : turn g p = p := by unfold turn; exact if_neg (fun h => hk4 h.1)
 have HCN : Aside0 (canR g p) := ⟨by rw [← ht]; exact turn_can x3 x4⟩
 have HSM : Aside0 (sameG (doG g p) (doRG g p) = true) := ⟨by rw [← ht, dense_do x3 x4]; exact sameG_iff.2 rfl⟩
 have HD := Aside0.mk x3
 have HC := Aside0.mk x4
 have HL1 := Aside0.mk hL
 have jk : (p.k == 4) = false := beq_eq_false_iff_ne.2 hk4
 obtain ⟨k, hk⟩ : ∃ k, atL g.l p.ix = k := ⟨_, rfl⟩
 have HK := Aside0.mk hk
 clear hk hk4
 clear x3 x4 hL ht
 clear h hp hf1 hf2 hg0
 unfold vG vP
 go_enter Try.func4, Try.ntmps4
 go_wp2_with (first | (go_at_call 9; refine (known12 _).mono ?_; rintro e w1 ⟨rfl, hw1⟩; have HP1 := Aside0.mk (HP0.out.below hw1); clear hw1; obtain ⟨e0, e1, e2, e3, e4, e5, e6⟩ := HP1.out.bg.box; obtain ⟨p0, p1, p2, p3, p4, p5, p6, p7, p8, p9⟩ := HP1.out.bp.box) | (go_at_call 10; refine (HF1.out A c _ HP1.out.rg).mono ?_; rintro e w2 ⟨rfl, hw2⟩; have HP2 := Aside0.mk (HP1.out.below hw2); clear hw2; clear e0 e1 e2 e3 e4 e5 e6 p0 p1 p2 p3 p4 p5 p6 p7 p8 p9; obtain ⟨e0, e1, e2, e3, e4, e5, e6⟩ := HP2.out.bg.box; obtain ⟨p0, p1, p2, p3, p4, p5, p6, p7, p8, p9⟩ := HP2.out.bp.box) | (go_at_call 11; refine (HF2.out Ap cp _ HP2.out.rp).mono ?_; rintro e w3 ⟨rfl, hw3⟩; have HP3 := Aside0.mk (HP2.out.below hw3); clear hw3; clear e0 e1 e2 e3 e4 e5 e6 p0 p1 p2 p3 p4 p5 p6 p7 p8 p9; obtain ⟨e0, e1, e2, e3, e4, e5, e6⟩ := HP3.out.bg.box; obtain ⟨p0, p1, p2, p3, p4, p5, p6, p7, p8, p9⟩ := HP3.out.bp.box) | (go_at_call 16; refine (dis_calls g A c _ HP3.out.rg HD.out).mono ?_; rintro e w4 ⟨rfl, hw4⟩; have HP4 := Aside0.mk (HP3.out.below hw4); clear hw4; clear e0 e1 e2 e3 e4 e5 e6 p0 p1 p2 p3 p4 p5 p6 p7 p8 p9; obtain ⟨e0, e1, e2, e3, e4, e5, e6⟩ := HP4.out.bg.box; obtain ⟨p0, p1, p2, p3, p4, p5, p6, p7, p8, p9⟩ := HP4.out.bp.box) | (go_at_call 19; refine (dchk_calls g A c p Ap cp _ HP4.out.rg HP4.out.rp HD.out HC.out).mono ?_; rintro e w5 ⟨rfl, hw5⟩; have HP5 := Aside0.mk (HP4.out.below hw5); clear hw5; clear e0 e1 e2 e3 e4 e5 e6 p0 p1 p2 p3 p4 p5 p6 p7 p8 p9; obtain ⟨e0, e1, e2, e3, e4, e5, e6⟩ := HP5.out.bg.box; obtain ⟨p0, p1, p2, p3, p4, p5, p6, p7, p8, p9⟩ := HP5.out.bp.box) | (go_at_call 20; refine (atv_calls g A c p.ix _ HP5.out.rg HK.out).mono ?_; rintro e w6 ⟨rfl, hw6⟩; have HP6 := Aside0.mk (HP5.out.below hw6); clear hw6; clear e0 e1 e2 e3 e4 e5 e6 p0 p1 p2 p3 p4 p5 p6 p7 p8 p9; obtain ⟨e0, e1, e2, e3, e4, e5, e6⟩ := HP6.out.bg.box; obtain ⟨p0, p1, p2, p3, p4, p5, p6, p7, p8, p9⟩ := HP6.out.bp.box))
 refine start_ (n := 18) (S := (fun w' => w'.cell? ⟨s + 1, 1, none⟩ = some (.int .i64 p.k))) (ds := []) #[false, false, false, false, false, false, false, false, false, false, false, false, false, false, false, false, false, false] (by kernel_rfl) rfl rfl p1 (fun hHeld => ?_)
 clear e0 e1 e2 e3 e4 e5 e6 p0 p1 p2 p3 p4 p5 p6 p7 p8 p9
 refine pure_ (i := 0) (N := some 31) (v := ?_) (a' := ?_) #[true,false,false,false,false,false,false,false,false,false,false,false,false,false,false,false,false,false] rfl rfl (by kernel_rfl) (fun _ _ _ h => h) (Or.inl ⟨by rfl, ?_⟩) ?_ ?_
 rotate_left
 · intro w'
   go_simp
   try with_reducible rfl
 rotate_left
 · simp only [Act.put, sA, sB, sC]
   rfl
 refine take_ (i := 1) (N := some 32) (v := ?_) (a' := ?_) #[true,true,false,false,false,false,false,false,false,false,false,false,false,false,false,false,false,false] rfl rfl (by kernel_rfl) (fun _ _ _ h => h) (Or.inl ⟨by rfl, ?_⟩) hHeld ?_ ?_
 rotate_left
 · rintro w' p1
   go_simp
   try with_reducible rfl
 rotate_left
 · simp only [Act.put, sA, sB, sC]
   rfl
 refine pure_ (i := 2) (N := some 33) (v := ?_) (a' := ?_) #[true,true,true,false,false,false,false,false,false,false,false,false,false,false,false,false,false,false] rfl rfl (by kernel_rfl) (fun _ _ _ h => h) (Or.inl ⟨by rfl, ?_⟩) ?_ ?_
 rotate_left
 · intro w'
   go_simp
   try with_reducible rfl
 rotate_left
 · simp only [Act.put, sA, sB, sC]
   rfl
 refine pure_ (i := 3) (N := some 34) (v := ?_) (a' := ?_) #[true,true,true,true,false,false,false,false,false,false,false,false,false,false,false,false,false,false] rfl rfl (by kernel_rfl) (fun _ _ _ h => h) (Or.inl ⟨by rfl, ?_⟩) ?_ ?_
 rotate_left
 · intro w'
   go_simp
   try with_reducible rfl
 rotate_left
 · simp only [Act.put, sA, sB, sC]
   rfl
 refine pure_ (i := 4) (N := some 35) (v := undef) (a' := ?_) #[true,true,true,true,true,false,false,false,false,false,false,false,false,false,false,false,false,false] rfl rfl (by kernel_rfl) (fun _ _ _ h => h) (Or.inr ⟨by rfl, rfl⟩) ?_ ?_
 rotate_left
 · simp only [Act.put, sA, sB, sC]
   rfl
 refine pure_ (i := 5) (N := some 36) (v := undef) (a' := ?_) #[true,true,true,true,true,true,false,false,false,false,false,false,false,false,false,false,false,false] rfl rfl (by kernel_rfl) (fun _ _ _ h => h) (Or.inr ⟨by rfl, rfl⟩) ?_ ?_
 rotate_left
 · simp only [Act.put, sA, sB, sC]
   rfl
 refine pure_ (i := 6) (N := some 37) (v := ?_) (a' := ?_) #[true,true,true,true,true,true,true,false,false,false,false,false,false,false,false,false,false,false] rfl rfl (by kernel_rfl) (fun _ _ _ h => h) (Or.inl ⟨by rfl, ?_⟩) ?_ ?_
 rotate_left
 · intro w'
   go_simp
   try with_reducible rfl
 rotate_left
 · simp only [Act.put, sA, sB, sC]
   rfl
 refine pure_ (i := 7) (N := some 38) (v := ?_) (a' := ?_) #[true,true,true,true,true,true,true,true,false,false,false,false,false,false,false,false,false,false] rfl rfl (by kernel_rfl) (fun _ _ _ h => h) (Or.inl ⟨by rfl, ?_⟩) ?_ ?_
 rotate_left
 · intro w'
   go_simp
   try with_reducible rfl
 rotate_left
 · simp only [Act.put, sA, sB, sC]
   rfl
 refine pure_ (i := 8) (N := some 39) (v := undef) (a' := ?_) #[true,true,true,true,true,true,true,true,true,false,false,false,false,false,false,false,false,false] rfl rfl (by kernel_rfl) (fun _ _ _ h => h) (Or.inr ⟨by rfl, rfl⟩) ?_ ?_
 rotate_left
 · simp only [Act.put, sA, sB, sC]
   rfl
 refine pure_ (i := 9) (N := some 40) (v := undef) (a' := ?_) #[true,true,true,true,true,true,true,true,true,true,false,false,false,false,false,false,false,false] rfl rfl (by kernel_rfl) (fun _ _ _ h => h) (Or.inr ⟨by rfl, rfl⟩) ?_ ?_
 rotate_left
 · simp only [Act.put, sA, sB, sC]
   rfl
 refine pure_ (i := 10) (N := some 41) (v := undef) (a' := ?_) #[true,true,true,true,true,true,true,true,true,true,true,false,false,false,false,false,false,false] rfl rfl (by kernel_rfl) (fun _ _ _ h => h) (Or.inr ⟨by rfl, rfl⟩) ?_ ?_
 rotate_left
 · simp only [Act.put, sA, sB, sC]
   rfl
 refine pure_ (i := 11) (N := some 42) (v := undef) (a' := ?_) #[true,true,true,true,true,true,true,true,true,true,true,true,false,false,false,false,false,false] rfl rfl (by kernel_rfl) (fun _ _ _ h => h) (Or.inr ⟨by rfl, rfl⟩) ?_ ?_
 rotate_left
 · simp only [Act.put, sA, sB, sC]
   rfl
 refine pure_ (i := 12) (N := some 43) (v := undef) (a' := ?_) #[true,true,true,true,true,true,true,true,true,true,true,true,true,false,false,false,false,false] rfl rfl (by kernel_rfl) (fun _ _ _ h => h) (Or.inr ⟨by rfl, rfl⟩) ?_ ?_
 rotate_left
 · simp only [Act.put, sA, sB, sC]
   rfl
 refine pure_ (i := 13) (N := some 44) (v := undef) (a' := ?_) #[true,true,true,true,true,true,true,true,true,true,true,true,true,true,false,false,false,false] rfl rfl (by kernel_rfl) (fun _ _ _ h => h) (Or.inr ⟨by rfl, rfl⟩) ?_ ?_
 rotate_left
 · simp only [Act.put, sA, sB, sC]
   rfl
 refine pure_ (i := 14) (N := some 45) (v := undef) (a' := ?_) #[true,true,true,true,true,true,true,true,true,true,true,true,true,true,true,false,false,false] rfl rfl (by kernel_rfl) (fun _ _ _ h => h) (Or.inr ⟨by rfl, rfl⟩) ?_ ?_
 rotate_left
 · simp only [Act.put, sA, sB, sC]
   rfl
 refine pure_ (i := 15) (N := some 46) (v := undef) (a' := ?_) #[true,true,true,true,true,true,true,true,true,true,true,true,true,true,true,true,false,false] rfl rfl (by kernel_rfl) (fun _ _ _ h => h) (Or.inr ⟨by rfl, rfl⟩) ?_ ?_
 rotate_left
 · simp only [Act.put, sA, sB, sC]
   rfl
 refine pure_ (i := 16) (N := some 47) (v := undef) (a' := ?_) #[true,true,true,true,true,true,true,true,true,true,true,true,true,true,true,true,true,false] rfl rfl (by kernel_rfl) (fun _ _ _ h => h) (Or.inr ⟨by rfl, rfl⟩) ?_ ?_
 rotate_left
 · simp only [Act.put, sA, sB, sC]
   rfl
 refine pure_ (i := 17) (N := some 48) (v := ?_) (a' := ?_) #[true,true,true,true,true,true,true,true,true,true,true,true,true,true,true,true,true,true] rfl rfl (by kernel_rfl) (fun _ _ _ h => h) (Or.inl ⟨by rfl, ?_⟩) ?_ ?_
 rotate_left
 · intro w'
   go_simp
   try with_reducible rfl
 rotate_left
 · simp only [Act.put, sA, sB, sC]
   rfl
 refine done_ (by kernel_rfl) ?_
 clear hHeld
 have HP7 := Aside0.mk (HP6.out.drew)
 obtain ⟨e0, e1, e2, e3, e4, e5, e6⟩ := HP7.out.bg.box; obtain ⟨p0, p1, p2, p3, p4, p5, p6, p7, p8, p9⟩ := HP7.out.bp.box
 have pf := BlkP.free' HP7.out.bp
 go_wp2
 have HP8 := HP7
 have HPX0 := Aside0.mk (HP8.out.drew)
 refine start_ (n := 8) (S := (fun w' => BoxG g A c s w' ∧ BoxP p Ap cp (s + 1) w')) (ds := []) #[false, false, false, false, false, false, false, false] (by kernel_rfl) rfl rfl ⟨HPX0.out.bg.box, HPX0.out.bp.box⟩ (fun hHeld => ?_)
 clear e0 e1 e2 e3 e4 e5 e6 p0 p1 p2 p3 p4 p5 p6 p7 p8 p9
 refine take_ (i := 0) (N := some 50) (v := ?_) (a' := ?_) #[true,false,false,false,false,false,false,false] rfl rfl (by kernel_rfl) (fun _ _ _ h => h) (Or.inl ⟨by rfl, ?_⟩) hHeld ?_ ?_
 rotate_left
 · rintro w' ⟨⟨e0, e1, e2, e3, e4, e5, e6⟩, ⟨p0, p1, p2, p3, p4, p5, p6, p7, p8, p9⟩⟩
   go_simp
   try with_reducible rfl
 rotate_left
 · simp only [Act.put, sA, sB, sC]
   rfl
 refine take_ (i := 1) (N := some 51) (v := ?_) (a' := ?_) #[true,true,false,false,false,false,false,false] rfl rfl (by kernel_rfl) (fun _ _ _ h => h) (Or.inl ⟨by rfl, ?_⟩) hHeld ?_ ?_
 rotate_left
 · rintro w' ⟨⟨e0, e1, e2, e3, e4, e5, e6⟩, ⟨p0, p1, p2, p3, p4, p5, p6, p7, p8, p9⟩⟩
   go_simp
   try with_reducible rfl
 rotate_left
 · simp only [Act.put, sA, sB, sC]
   rfl
 refine take_ (i := 3) (N := some 53) (v := ?_) (a' := ?_) #[true,true,false,true,false,false,false,false] rfl rfl (by kernel_rfl) (fun _ _ _ h => h) (Or.inl ⟨by rfl, ?_⟩) hHeld ?_ ?_
 rotate_left
 · rintro w' ⟨⟨e0, e1, e2, e3, e4, e5, e6⟩, ⟨p0, p1, p2, p3, p4, p5, p6, p7, p8, p9⟩⟩
   go_simp
   try with_reducible rfl
 rotate_left
 · simp only [Act.put, sA, sB, sC]
   rfl
 refine take_ (i := 4) (N := some 54) (v := ?_) (a' := ?_) #[true,true,false,true,true,false,false,false] rfl rfl (by kernel_rfl) (fun _ _ _ h => h) (Or.inl ⟨by rfl, ?_⟩) hHeld ?_ ?_
 rotate_left
 · rintro w' ⟨⟨e0, e1, e2, e3, e4, e5, e6⟩, ⟨p0, p1, p2, p3, p4, p5, p6, p7, p8, p9⟩⟩
   go_simp
   try with_reducible rfl
 rotate_left
 · simp only [Act.put, sA, sB, sC]
   rfl
 refine one_ (i := 2) (N := some 52) #[true,true,true,true,true,false,false,false] rfl rfl (by kernel_rfl) (by decide) (fun K hK => ?_)
 go_simp
 refine (sparse_Do g A c p Ap cp _ HPX0.out.rg HPX0.out.rp HL1.out).mono ?_; rintro e x1 ⟨A3, c3, rfl, hrd3, hx⟩; have HRD3 := Aside0.mk hrd3; have HPX1 := Aside0.mk (HPX0.out.below hx); clear hrd3 hx
 refine hK.out _ _ ?_ (fun hHeld => ?_)
 · exact ⟨HPX1.out.bg.box, HPX1.out.bp.box⟩
 clear hK K
 try simp only [Act.put, sA, sB, sC]
 refine one_ (i := 5) (N := some 55) #[true,true,true,true,true,true,false,false] rfl rfl (by kernel_rfl) (by decide) (fun K hK => ?_)
 go_simp
 refine (ref_Do6 g A c p Ap cp _ HPX1.out.rg HPX1.out.rp HL1.out HCN.out).mono ?_; rintro e x2 ⟨A4, c4, rfl, hrd4, hx⟩; have HRD4 := Aside0.mk hrd4; have HRD5 := Aside0.mk (HRD3.out.below hx); have HPX2 := Aside0.mk (HPX1.out.below hx); clear hrd4 hx
 refine hK.out _ _ ?_ (fun hHeld => ?_)
 · exact ⟨HPX2.out.bg.box, HPX2.out.bp.box⟩
 clear hK K
 try simp only [Act.put, sA, sB, sC]
 refine one_ (i := 6) (N := some 56) #[true,true,true,true,true,true,true,false] rfl rfl (by kernel_rfl) (by decide) (fun K hK => ?_)
 go_simp
 refine (dsame_calls (doG g p) (doRG g p) A3 c3 A4 c4 _ HRD5.out HRD4.out HSM.out).mono ?_; rintro e x3 ⟨rfl, hx⟩; have HPX3 := Aside0.mk (HPX2.out.below hx); clear hx
 refine hK.out _ _ ?_ (fun hHeld => ?_)
 · exact ⟨HPX3.out.bg.box, HPX3.out.bp.box⟩
 clear hK K
 try simp only [Act.put, sA, sB, sC]
 refine pure_ (i := 7) (N := some 4) (v := ?_) (a' := ?_) #[true,true,true,true,true,true,true,true] rfl rfl (by kernel_rfl) (fun _ _ _ h => h) (Or.inl ⟨by rfl, ?_⟩) ?_ ?_
 rotate_left
 · intro w'
   go_simp
   try with_reducible rfl
 rotate_left
 · simp only [Act.put, sA, sB, sC]
   rfl
 refine done_ (by kernel_rfl) ?_
 clear hHeld
 go_wp2
 go_ret
 exact ⟨rfl, by first | exact HPX3.out.b | (rw [HS.out]; exact HPX3.out.b)⟩
set_option maxHeartbeats 8000000 in
set_option maxRecDepth 100000 in
theorem dense_e2 (g : Grp) (A : Option Addr) (c : Nat) (p : Prt) (Ap : Option Addr) (cp : Nat) (w : World) (h : Rd w A c g.l) (hp : Rd w Ap cp p.l) {r1 r2 : Bool}
   (hf1 : ∀ (A : Option Addr) (c : Nat) (w : World), Rd w A c g.l → Calls Try.prog 10 #[vG g A c] w fun e w' => e = .returned (.bool r1) ∧ Below w.heap.size w w')
   (hf2 : ∀ (A : Option Addr) (c : Nat) (w : World), Rd w A c p.l → Calls Try.prog 11 #[vP p A c] w fun e w' => e = .returned (.bool r2) ∧ Below w.heap.size w w') (x1 : r1 = true) (x2 : r2 = true) (x3 : isG true g = true) (x4 : chkG g p = 0) (hL : g.l.length + p.l.length ≤ 4398046511104) (hk4 : p.k = 4) (k : Int) (hk : atL g.l p.ix = k) (hno : k < 0) :
   Calls Try.prog 4 #[vG g A c, vP p Ap cp] w fun e w' => e = .returned (.bool true) ∧ Below w.heap.size w w' := by
 obtain ⟨s, hs⟩ : ∃ s, w.heap.size = s := ⟨_, rfl⟩
 have hg0 := GP.new g A c p Ap cp w h hp
 rw [hs] at hg0
 have HP0 := Aside0.mk hg0
 have HF1 := Aside0.mk hf1
 have HF2 := Aside0.mk hf2
 have HS := Aside0.mk hs
 subst x1
 subst x2
 have ht : turn g p = p := by unfold turn; exact if_neg (fun h => by have := h.2.1; omega)
 have HCN : Aside0 (canR g p) := ⟨by rw [← ht]; exact turn_can x3 x4⟩
 have HSM : Aside0 (sameG (doG g p) (doRG g p) = true) := ⟨by rw [← ht, dense_do x3 x4]; exact sameG_iff.2 rfl⟩
 have HD := Aside0.mk x3
 have HC := Aside0.mk x4
 have HL1 := Aside0.mk hL
 have jk : (p.k == 4) = true := beq_iff_eq.2 hk4
 have j0 : decide ((0 : Int) ≤ k) = false := decide_eq_false (by omega)
 have HK := Aside0.mk hk
 clear hk hk4 hno
 clear x3 x4 hL ht
 clear h hp hf1 hf2 hg0
 unfold vG vP
 go_enter Try.func4, Try.ntmps4
 go_wp2_with (first | (go_at_call 9; refine (known12 _).mono ?_; rintro e w1 ⟨rfl, hw1⟩; have HP1 := Aside0.mk (HP0.out.below hw1); clear hw1; obtain ⟨e0, e1, e2, e3, e4, e5, e6⟩ := HP1.out.bg.box; obtain ⟨p0, p1, p2, p3, p4, p5, p6, p7, p8, p9⟩ := HP1.out.bp.box) | (go_at_call 10; refine (HF1.out A c _ HP1.out.rg).mono ?_; rintro e w2 ⟨rfl, hw2⟩; have HP2 := Aside0.mk (HP1.out.below hw2); clear hw2; clear e0 e1 e2 e3 e4 e5 e6 p0 p1 p2 p3 p4 p5 p6 p7 p8 p9; obtain ⟨e0, e1, e2, e3, e4, e5, e6⟩ := HP2.out.bg.box; obtain ⟨p0, p1, p2, p3, p4, p5, p6, p7, p8, p9⟩ := HP2.out.bp.box) | (go_at_call 11; refine (HF2.out Ap cp _ HP2.out.rp).mono ?_; rintro e w3 ⟨rfl, hw3⟩; have HP3 := Aside0.mk (HP2.out.below hw3); clear hw3; clear e0 e1 e2 e3 e4 e5 e6 p0 p1 p2 p3 p4 p5 p6 p7 p8 p9; obtain ⟨e0, e1, e2, e3, e4, e5, e6⟩ := HP3.out.bg.box; obtain ⟨p0, p1, p2, p3, p4, p5, p6, p7, p8, p9⟩ := HP3.out.bp.box) | (go_at_call 16; refine (dis_calls g A c _ HP3.out.rg HD.out).mono ?_; rintro e w4 ⟨rfl, hw4⟩; have HP4 := Aside0.mk (HP3.out.below hw4); clear hw4; clear e0 e1 e2 e3 e4 e5 e6 p0 p1 p2 p3 p4 p5 p6 p7 p8 p9; obtain ⟨e0, e1, e2, e3, e4, e5, e6⟩ := HP4.out.bg.box; obtain ⟨p0, p1, p2, p3, p4, p5, p6, p7, p8, p9⟩ := HP4.out.bp.box) | (go_at_call 19; refine (dchk_calls g A c p Ap cp _ HP4.out.rg HP4.out.rp HD.out HC.out).mono ?_; rintro e w5 ⟨rfl, hw5⟩; have HP5 := Aside0.mk (HP4.out.below hw5); clear hw5; clear e0 e1 e2 e3 e4 e5 e6 p0 p1 p2 p3 p4 p5 p6 p7 p8 p9; obtain ⟨e0, e1, e2, e3, e4, e5, e6⟩ := HP5.out.bg.box; obtain ⟨p0, p1, p2, p3, p4, p5, p6, p7, p8, p9⟩ := HP5.out.bp.box) | (go_at_call 20; refine (atv_calls g A c p.ix _ HP5.out.rg HK.out).mono ?_; rintro e w6 ⟨rfl, hw6⟩; have HP6 := Aside0.mk (HP5.out.below hw6); clear hw6; clear e0 e1 e2 e3 e4 e5 e6 p0 p1 p2 p3 p4 p5 p6 p7 p8 p9; obtain ⟨e0, e1, e2, e3, e4, e5, e6⟩ := HP6.out.bg.box; obtain ⟨p0, p1, p2, p3, p4, p5, p6, p7, p8, p9⟩ := HP6.out.bp.box))
 refine start_ (n := 18) (S := (fun w' => w'.cell? ⟨s + 1, 1, none⟩ = some (.int .i64 p.k))) (ds := []) #[false, false, false, false, false, false, false, false, false, false, false, false, false, false, false, false, false, false] (by kernel_rfl) rfl rfl p1 (fun hHeld => ?_)
 clear e0 e1 e2 e3 e4 e5 e6 p0 p1 p2 p3 p4 p5 p6 p7 p8 p9
 refine pure_ (i := 0) (N := some 31) (v := ?_) (a' := ?_) #[true,false,false,false,false,false,false,false,false,false,false,false,false,false,false,false,false,false] rfl rfl (by kernel_rfl) (fun _ _ _ h => h) (Or.inl ⟨by rfl, ?_⟩) ?_ ?_
 rotate_left
 · intro w'
   go_simp
   try with_reducible rfl
 rotate_left
 · simp only [Act.put, sA, sB, sC]
   rfl
 refine take_ (i := 1) (N := some 32) (v := ?_) (a' := ?_) #[true,true,false,false,false,false,false,false,false,false,false,false,false,false,false,false,false,false] rfl rfl (by kernel_rfl) (fun _ _ _ h => h) (Or.inl ⟨by rfl, ?_⟩) hHeld ?_ ?_
 rotate_left
 · rintro w' p1
   go_simp
   try with_reducible rfl
 rotate_left
 · simp only [Act.put, sA, sB, sC]
   rfl
 refine pure_ (i := 2) (N := some 33) (v := ?_) (a' := ?_) #[true,true,true,false,false,false,false,false,false,false,false,false,false,false,false,false,false,false] rfl rfl (by kernel_rfl) (fun _ _ _ h => h) (Or.inl ⟨by rfl, ?_⟩) ?_ ?_
 rotate_left
 · intro w'
   go_simp
   try with_reducible rfl
 rotate_left
 · simp only [Act.put, sA, sB, sC]
   rfl
 refine pure_ (i := 3) (N := some 34) (v := ?_) (a' := ?_) #[true,true,true,true,false,false,false,false,false,false,false,false,false,false,false,false,false,false] rfl rfl (by kernel_rfl) (fun _ _ _ h => h) (Or.inl ⟨by rfl, ?_⟩) ?_ ?_
 rotate_left
 · intro w'
   go_simp
   try with_reducible rfl
 rotate_left
 · simp only [Act.put, sA, sB, sC]
   rfl
 refine pure_ (i := 4) (N := some 35) (v := ?_) (a' := ?_) #[true,true,true,true,true,false,false,false,false,false,false,false,false,false,false,false,false,false] rfl rfl (by kernel_rfl) (fun _ _ _ h => h) (Or.inl ⟨by rfl, ?_⟩) ?_ ?_
 rotate_left
 · intro w'
   go_simp
   try with_reducible rfl
 rotate_left
 · simp only [Act.put, sA, sB, sC]
   rfl
 refine pure_ (i := 5) (N := some 36) (v := ?_) (a' := ?_) #[true,true,true,true,true,true,false,false,false,false,false,false,false,false,false,false,false,false] rfl rfl (by kernel_rfl) (fun _ _ _ h => h) (Or.inl ⟨by rfl, ?_⟩) ?_ ?_
 rotate_left
 · intro w'
   go_simp
   try with_reducible rfl
 rotate_left
 · simp only [Act.put, sA, sB, sC]
   rfl
 refine pure_ (i := 6) (N := some 37) (v := ?_) (a' := ?_) #[true,true,true,true,true,true,true,false,false,false,false,false,false,false,false,false,false,false] rfl rfl (by kernel_rfl) (fun _ _ _ h => h) (Or.inl ⟨by rfl, ?_⟩) ?_ ?_
 rotate_left
 · intro w'
   go_simp
   try with_reducible rfl
 rotate_left
 · simp only [Act.put, sA, sB, sC]
   rfl
 refine pure_ (i := 7) (N := some 38) (v := ?_) (a' := ?_) #[true,true,true,true,true,true,true,true,false,false,false,false,false,false,false,false,false,false] rfl rfl (by kernel_rfl) (fun _ _ _ h => h) (Or.inl ⟨by rfl, ?_⟩) ?_ ?_
 rotate_left
 · intro w'
   go_simp
   try with_reducible rfl
 rotate_left
 · simp only [Act.put, sA, sB, sC]
   rfl
 refine pure_ (i := 8) (N := some 39) (v := undef) (a' := ?_) #[true,true,true,true,true,true,true,true,true,false,false,false,false,false,false,false,false,false] rfl rfl (by kernel_rfl) (fun _ _ _ h => h) (Or.inr ⟨by rfl, rfl⟩) ?_ ?_
 rotate_left
 · simp only [Act.put, sA, sB, sC]
   rfl
 refine pure_ (i := 9) (N := some 40) (v := undef) (a' := ?_) #[true,true,true,true,true,true,true,true,true,true,false,false,false,false,false,false,false,false] rfl rfl (by kernel_rfl) (fun _ _ _ h => h) (Or.inr ⟨by rfl, rfl⟩) ?_ ?_
 rotate_left
 · simp only [Act.put, sA, sB, sC]
   rfl
 refine pure_ (i := 10) (N := some 41) (v := undef) (a' := ?_) #[true,true,true,true,true,true,true,true,true,true,true,false,false,false,false,false,false,false] rfl rfl (by kernel_rfl) (fun _ _ _ h => h) (Or.inr ⟨by rfl, rfl⟩) ?_ ?_
 rotate_left
 · simp only [Act.put, sA, sB, sC]
   rfl
 refine pure_ (i := 11) (N := some 42) (v := undef) (a' := ?_) #[true,true,true,true,true,true,true,true,true,true,true,true,false,false,false,false,false,false] rfl rfl (by kernel_rfl) (fun _ _ _ h => h) (Or.inr ⟨by rfl, rfl⟩) ?_ ?_
 rotate_left
 · simp only [Act.put, sA, sB, sC]
   rfl
 refine pure_ (i := 12) (N := some 43) (v := undef) (a' := ?_) #[true,true,true,true,true,true,true,true,true,true,true,true,true,false,false,false,false,false] rfl rfl (by kernel_rfl) (fun _ _ _ h => h) (Or.inr ⟨by rfl, rfl⟩) ?_ ?_
 rotate_left
 · simp only [Act.put, sA, sB, sC]
   rfl
 refine pure_ (i := 13) (N := some 44) (v := undef) (a' := ?_) #[true,true,true,true,true,true,true,true,true,true,true,true,true,true,false,false,false,false] rfl rfl (by kernel_rfl) (fun _ _ _ h => h) (Or.inr ⟨by rfl, rfl⟩) ?_ ?_
 rotate_left
 · simp only [Act.put, sA, sB, sC]
   rfl
 refine pure_ (i := 14) (N := some 45) (v := undef) (a' := ?_) #[true,true,true,true,true,true,true,true,true,true,true,true,true,true,true,false,false,false] rfl rfl (by kernel_rfl) (fun _ _ _ h => h) (Or.inr ⟨by rfl, rfl⟩) ?_ ?_
 rotate_left
 · simp only [Act.put, sA, sB, sC]
   rfl
 refine pure_ (i := 15) (N := some 46) (v := undef) (a' := ?_) #[true,true,true,true,true,true,true,true,true,true,true,true,true,true,true,true,false,false] rfl rfl (by kernel_rfl) (fun _ _ _ h => h) (Or.inr ⟨by rfl, rfl⟩) ?_ ?_
 rotate_left
 · simp only [Act.put, sA, sB, sC]
   rfl
 refine pure_ (i := 16) (N := some 47) (v := undef) (a' := ?_) #[true,true,true,true,true,true,true,true,true,true,true,true,true,true,true,true,true,false] rfl rfl (by kernel_rfl) (fun _ _ _ h => h) (Or.inr ⟨by rfl, rfl⟩) ?_ ?_
 rotate_left
 · simp only [Act.put, sA, sB, sC]
   rfl
 refine pure_ (i := 17) (N := some 48) (v := ?_) (a' := ?_) #[true,true,true,true,true,true,true,true,true,true,true,true,true,true,true,true,true,true] rfl rfl (by kernel_rfl) (fun _ _ _ h => h) (Or.inl ⟨by rfl, ?_⟩) ?_ ?_
 rotate_left
 · intro w'
   go_simp
   try with_reducible rfl
 rotate_left
 · simp only [Act.put, sA, sB, sC]
   rfl
 refine done_ (by kernel_rfl) ?_
 clear hHeld
 have HP7 := Aside0.mk (HP6.out.drew)
 obtain ⟨e0, e1, e2, e3, e4, e5, e6⟩ := HP7.out.bg.box; obtain ⟨p0, p1, p2, p3, p4, p5, p6, p7, p8, p9⟩ := HP7.out.bp.box
 have pf := BlkP.free' HP7.out.bp
 go_wp2
 have HP8 := HP7
 have HPX0 := Aside0.mk (HP8.out.drew)
 refine start_ (n := 8) (S := (fun w' => BoxG g A c s w' ∧ BoxP p Ap cp (s + 1) w')) (ds := []) #[false, false, false, false, false, false, false, false] (by kernel_rfl) rfl rfl ⟨HPX0.out.bg.box, HPX0.out.bp.box⟩ (fun hHeld => ?_)
 clear e0 e1 e2 e3 e4 e5 e6 p0 p1 p2 p3 p4 p5 p6 p7 p8 p9
 refine take_ (i := 0) (N := some 50) (v := ?_) (a' := ?_) #[true,false,false,false,false,false,false,false] rfl rfl (by kernel_rfl) (fun _ _ _ h => h) (Or.inl ⟨by rfl, ?_⟩) hHeld ?_ ?_
 rotate_left
 · rintro w' ⟨⟨e0, e1, e2, e3, e4, e5, e6⟩, ⟨p0, p1, p2, p3, p4, p5, p6, p7, p8, p9⟩⟩
   go_simp
   try with_reducible rfl
 rotate_left
 · simp only [Act.put, sA, sB, sC]
   rfl
 refine take_ (i := 1) (N := some 51) (v := ?_) (a' := ?_) #[true,true,false,false,false,false,false,false] rfl rfl (by kernel_rfl) (fun _ _ _ h => h) (Or.inl ⟨by rfl, ?_⟩) hHeld ?_ ?_
 rotate_left
 · rintro w' ⟨⟨e0, e1, e2, e3, e4, e5, e6⟩, ⟨p0, p1, p2, p3, p4, p5, p6, p7, p8, p9⟩⟩
   go_simp
   try with_reducible rfl
 rotate_left
 · simp only [Act.put, sA, sB, sC]
   rfl
 refine take_ (i := 3) (N := some 53) (v := ?_) (a' := ?_) #[true,true,false,true,false,false,false,false] rfl rfl (by kernel_rfl) (fun _ _ _ h => h) (Or.inl ⟨by rfl, ?_⟩) hHeld ?_ ?_
 rotate_left
 · rintro w' ⟨⟨e0, e1, e2, e3, e4, e5, e6⟩, ⟨p0, p1, p2, p3, p4, p5, p6, p7, p8, p9⟩⟩
   go_simp
   try with_reducible rfl
 rotate_left
 · simp only [Act.put, sA, sB, sC]
   rfl
 refine take_ (i := 4) (N := some 54) (v := ?_) (a' := ?_) #[true,true,false,true,true,false,false,false] rfl rfl (by kernel_rfl) (fun _ _ _ h => h) (Or.inl ⟨by rfl, ?_⟩) hHeld ?_ ?_
 rotate_left
 · rintro w' ⟨⟨e0, e1, e2, e3, e4, e5, e6⟩, ⟨p0, p1, p2, p3, p4, p5, p6, p7, p8, p9⟩⟩
   go_simp
   try with_reducible rfl
 rotate_left
 · simp only [Act.put, sA, sB, sC]
   rfl
 refine one_ (i := 2) (N := some 52) #[true,true,true,true,true,false,false,false] rfl rfl (by kernel_rfl) (by decide) (fun K hK => ?_)
 go_simp
 refine (sparse_Do g A c p Ap cp _ HPX0.out.rg HPX0.out.rp HL1.out).mono ?_; rintro e x1 ⟨A3, c3, rfl, hrd3, hx⟩; have HRD3 := Aside0.mk hrd3; have HPX1 := Aside0.mk (HPX0.out.below hx); clear hrd3 hx
 refine hK.out _ _ ?_ (fun hHeld => ?_)
 · exact ⟨HPX1.out.bg.box, HPX1.out.bp.box⟩
 clear hK K
 try simp only [Act.put, sA, sB, sC]
 refine one_ (i := 5) (N := some 55) #[true,true,true,true,true,true,false,false] rfl rfl (by kernel_rfl) (by decide) (fun K hK => ?_)
 go_simp
 refine (ref_Do6 g A c p Ap cp _ HPX1.out.rg HPX1.out.rp HL1.out HCN.out).mono ?_; rintro e x2 ⟨A4, c4, rfl, hrd4, hx⟩; have HRD4 := Aside0.mk hrd4; have HRD5 := Aside0.mk (HRD3.out.below hx); have HPX2 := Aside0.mk (HPX1.out.below hx); clear hrd4 hx
 refine hK.out _ _ ?_ (fun hHeld => ?_)
 · exact ⟨HPX2.out.bg.box, HPX2.out.bp.box⟩
 clear hK K
 try simp only [Act.put, sA, sB, sC]
 refine one_ (i := 6) (N := some 56) #[true,true,true,true,true,true,true,false] rfl rfl (by kernel_rfl) (by decide) (fun K hK => ?_)
 go_simp
 refine (dsame_calls (doG g p) (doRG g p) A3 c3 A4 c4 _ HRD5.out HRD4.out HSM.out).mono ?_; rintro e x3 ⟨rfl, hx⟩; have HPX3 := Aside0.mk (HPX2.out.below hx); clear hx
 refine hK.out _ _ ?_ (fun hHeld => ?_)
 · exact ⟨HPX3.out.bg.box, HPX3.out.bp.box⟩
 clear hK K
 try simp only [Act.put, sA, sB, sC]
 refine pure_ (i := 7) (N := some 4) (v := ?_) (a' := ?_) #[true,true,true,true,true,true,true,true] rfl rfl (by kernel_rfl) (fun _ _ _ h => h) (Or.inl ⟨by rfl, ?_⟩) ?_ ?_
 rotate_left
 · intro w'
   go_simp
   try with_reducible rfl
 rotate_left
 · simp only [Act.put, sA, sB, sC]
   rfl
 refine done_ (by kernel_rfl) ?_
 clear hHeld
 go_wp2
 go_ret
 exact ⟨rfl, by first | exact HPX3.out.b | (rw [HS.out]; exact HPX3.out.b)⟩
set_option maxHeartbeats 8000000 in
set_option maxRecDepth 100000 in
theorem dense_e3 (g : Grp) (A : Option Addr) (c : Nat) (p : Prt) (Ap : Option Addr) (cp : Nat) (w : World) (h : Rd w A c g.l) (hp : Rd w Ap cp p.l) {r1 r2 : Bool}
   (hf1 : ∀ (A : Option Addr) (c : Nat) (w : World), Rd w A c g.l → Calls Try.prog 10 #[vG g A c] w fun e w' => e = .returned (.bool r1) ∧ Below w.heap.size w w')
   (hf2 : ∀ (A : Option Addr) (c : Nat) (w : World), Rd w A c p.l → Calls Try.prog 11 #[vP p A c] w fun e w' => e = .returned (.bool r2) ∧ Below w.heap.size w w') (x1 : r1 = true) (x2 : r2 = true) (x3 : isG true g = true) (x4 : chkG g p = 0) (hL : g.l.length + p.l.length ≤ 4398046511104) (hk4 : p.k = 4) (n : Nat) (hk : atL g.l p.ix = (n : Int)) (hnl : n < g.l.length) (hT : (el g.l n).f1 = termL g.l p.ix) (hne : (el g.l n).f1 ≠ p.tm) :
   Calls Try.prog 4 #[vG g A c, vP p Ap cp] w fun e w' => e = .returned (.bool true) ∧ Below w.heap.size w w' := by
 obtain ⟨s, hs⟩ : ∃ s, w.heap.size = s := ⟨_, rfl⟩
 have hg0 := GP.new g A c p Ap cp w h hp
 rw [hs] at hg0
 have HP0 := Aside0.mk hg0
 have HF1 := Aside0.mk hf1
 have HF2 := Aside0.mk hf2
 have HS := Aside0.mk hs
 subst x1
 subst x2
 have ht : turn g p = p := by unfold turn; exact if_neg (fun h => hne (hT.trans h.2.2))
 have HCN : Aside0 (canR g p) := ⟨by rw [← ht]; exact turn_can x3 x4⟩
 have HSM : Aside0 (sameG (doG g p) (doRG g p) = true) := ⟨by rw [← ht, dense_do x3 x4]; exact sameG_iff.2 rfl⟩
 have HD := Aside0.mk x3
 have HC := Aside0.mk x4
 have HL1 := Aside0.mk hL
 have jk : (p.k == 4) = true := beq_iff_eq.2 hk4
 have jt : ((el g.l n).f1 == p.tm) = false := beq_eq_false_iff_ne.2 hne
 have HK := Aside0.mk hk
 have HNL := Aside0.mk hnl
 obtain ⟨ad, rfl, _⟩ := h.at_ hnl
 have hnl2 : (n : Int) < (g.l.length : Int) := by omega
 have hn0 : (0 : Int) ≤ (n : Int) := by omega
 clear hk hk4 hnl hT hne
 clear x3 x4 hL ht
 clear h hp hf1 hf2 hg0
 unfold vG vP
 go_enter Try.func4, Try.ntmps4
 go_wp2_with (first | (go_at_call 9; refine (known12 _).mono ?_; rintro e w1 ⟨rfl, hw1⟩; have HP1 := Aside0.mk (HP0.out.below hw1); clear hw1; obtain ⟨e0, e1, e2, e3, e4, e5, e6⟩ := HP1.out.bg.box; obtain ⟨p0, p1, p2, p3, p4, p5, p6, p7, p8, p9⟩ := HP1.out.bp.box) | (go_at_call 10; refine (HF1.out (some ad) c _ HP1.out.rg).mono ?_; rintro e w2 ⟨rfl, hw2⟩; have HP2 := Aside0.mk (HP1.out.below hw2); clear hw2; clear e0 e1 e2 e3 e4 e5 e6 p0 p1 p2 p3 p4 p5 p6 p7 p8 p9; obtain ⟨e0, e1, e2, e3, e4, e5, e6⟩ := HP2.out.bg.box; obtain ⟨p0, p1, p2, p3, p4, p5, p6, p7, p8, p9⟩ := HP2.out.bp.box) | (go_at_call 11; refine (HF2.out Ap cp _ HP2.out.rp).mono ?_; rintro e w3 ⟨rfl, hw3⟩; have HP3 := Aside0.mk (HP2.out.below hw3); clear hw3; clear e0 e1 e2 e3 e4 e5 e6 p0 p1 p2 p3 p4 p5 p6 p7 p8 p9; obtain ⟨e0, e1, e2, e3, e4, e5, e6⟩ := HP3.out.bg.box; obtain ⟨p0, p1, p2, p3, p4, p5, p6, p7, p8, p9⟩ := HP3.out.bp.box) | (go_at_call 16; refine (dis_calls g (some ad) c _ HP3.out.rg HD.out).mono ?_; rintro e w4 ⟨rfl, hw4⟩; have HP4 := Aside0.mk (HP3.out.below hw4); clear hw4; clear e0 e1 e2 e3 e4 e5 e6 p0 p1 p2 p3 p4 p5 p6 p7 p8 p9; obtain ⟨e0, e1, e2, e3, e4, e5, e6⟩ := HP4.out.bg.box; obtain ⟨p0, p1, p2, p3, p4, p5, p6, p7, p8, p9⟩ := HP4.out.bp.box) | (go_at_call 19; refine (dchk_calls g (some ad) c p Ap cp _ HP4.out.rg HP4.out.rp HD.out HC.out).mono ?_; rintro e w5 ⟨rfl, hw5⟩; have HP5 := Aside0.mk (HP4.out.below hw5); clear hw5; clear e0 e1 e2 e3 e4 e5 e6 p0 p1 p2 p3 p4 p5 p6 p7 p8 p9; obtain ⟨e0, e1, e2, e3, e4, e5, e6⟩ := HP5.out.bg.box; obtain ⟨p0, p1, p2, p3, p4, p5, p6, p7, p8, p9⟩ := HP5.out.bp.box) | (go_at_call 20; refine (atv_calls g (some ad) c p.ix _ HP5.out.rg HK.out).mono ?_; rintro e w6 ⟨rfl, hw6⟩; have HP6 := Aside0.mk (HP5.out.below hw6); clear hw6; clear e0 e1 e2 e3 e4 e5 e6 p0 p1 p2 p3 p4 p5 p6 p7 p8 p9; obtain ⟨e0, e1, e2, e3, e4, e5, e6⟩ := HP6.out.bg.box; obtain ⟨p0, p1, p2, p3, p4, p5, p6, p7, p8, p9⟩ := HP6.out.bp.box))
 obtain ⟨ad', hq, q0, q1, q2⟩ := HP6.out.rg.at_ (i := n) HNL.out
 cases hq
 refine start_ (n := 18) (S := (fun w' => w'.cell? ⟨s + 1, 1, none⟩ = some (.int .i64 p.k) ∧ w'.cell? ⟨s, 6, none⟩ = some (.slice (some ad) g.l.length c) ∧ w'.cell? ⟨s + 1, 7, none⟩ = some (.int .i64 p.tm) ∧ w'.cell? ⟨(ad.add (n * 3)).block, (ad.add (n * 3)).off + 1, none⟩ = some (.int .i64 (el g.l n).f1))) (ds := []) #[false, false, false, false, false, false, false, false, false, false, false, false, false, false, false, false, false, false] (by kernel_rfl) rfl rfl ⟨p1, e6, p7, q1⟩ (fun hHeld => ?_)
 clear e0 e1 e2 e3 e4 e5 e6 p0 p1 p2 p3 p4 p5 p6 p7 p8 p9 q0 q1 q2
 refine pure_ (i := 0) (N := some 31) (v := ?_) (a' := ?_) #[true,false,false,false,false,false,false,false,false,false,false,false,false,false,false,false,false,false] rfl rfl (by kernel_rfl) (fun _ _ _ h => h) (Or.inl ⟨by rfl, ?_⟩) ?_ ?_
 rotate_left
 · intro w'
   go_simp
   try with_reducible rfl
 rotate_left
 · simp only [Act.put, sA, sB, sC]
   rfl
 refine take_ (i := 1) (N := some 32) (v := ?_) (a' := ?_) #[true,true,false,false,false,false,false,false,false,false,false,false,false,false,false,false,false,false] rfl rfl (by kernel_rfl) (fun _ _ _ h => h) (Or.inl ⟨by rfl, ?_⟩) hHeld ?_ ?_
 rotate_left
 · rintro w' ⟨p1, e6, p7, q1⟩
   go_simp
   try with_reducible rfl
 rotate_left
 · simp only [Act.put, sA, sB, sC]
   rfl
 refine pure_ (i := 2) (N := some 33) (v := ?_) (a' := ?_) #[true,true,true,false,false,false,false,false,false,false,false,false,false,false,false,false,false,false] rfl rfl (by kernel_rfl) (fun _ _ _ h => h) (Or.inl ⟨by rfl, ?_⟩) ?_ ?_
 rotate_left
 · intro w'
   go_simp
   try with_reducible rfl
 rotate_left
 · simp only [Act.put, sA, sB, sC]
   rfl
 refine pure_ (i := 3) (N := some 34) (v := ?_) (a' := ?_) #[true,true,true,true,false,false,false,false,false,false,false,false,false,false,false,false,false,false] rfl rfl (by kernel_rfl) (fun _ _ _ h => h) (Or.inl ⟨by rfl, ?_⟩) ?_ ?_
 rotate_left
 · intro w'
   go_simp
   try with_reducible rfl
 rotate_left
 · simp only [Act.put, sA, sB, sC]
   rfl
 refine pure_ (i := 4) (N := some 35) (v := ?_) (a' := ?_) #[true,true,true,true,true,false,false,false,false,false,false,false,false,false,false,false,false,false] rfl rfl (by kernel_rfl) (fun _ _ _ h => h) (Or.inl ⟨by rfl, ?_⟩) ?_ ?_
 rotate_left
 · intro w'
   go_simp
   try with_reducible rfl
 rotate_left
 · simp only [Act.put, sA, sB, sC]
   rfl
 refine pure_ (i := 5) (N := some 36) (v := ?_) (a' := ?_) #[true,true,true,true,true,true,false,false,false,false,false,false,false,false,false,false,false,false] rfl rfl (by kernel_rfl) (fun _ _ _ h => h) (Or.inl ⟨by rfl, ?_⟩) ?_ ?_
 rotate_left
 · intro w'
   go_simp
   try with_reducible rfl
 rotate_left
 · simp only [Act.put, sA, sB, sC]
   rfl
 refine pure_ (i := 6) (N := some 37) (v := ?_) (a' := ?_) #[true,true,true,true,true,true,true,false,false,false,false,false,false,false,false,false,false,false] rfl rfl (by kernel_rfl) (fun _ _ _ h => h) (Or.inl ⟨by rfl, ?_⟩) ?_ ?_
 rotate_left
 · intro w'
   go_simp
   try with_reducible rfl
 rotate_left
 · simp only [Act.put, sA, sB, sC]
   rfl
 refine pure_ (i := 7) (N := some 38) (v := ?_) (a' := ?_) #[true,true,true,true,true,true,true,true,false,false,false,false,false,false,false,false,false,false] rfl rfl (by kernel_rfl) (fun _ _ _ h => h) (Or.inl ⟨by rfl, ?_⟩) ?_ ?_
 rotate_left
 · intro w'
   go_simp
   try with_reducible rfl
 rotate_left
 · simp only [Act.put, sA, sB, sC]
   rfl
 refine pure_ (i := 8) (N := some 39) (v := ?_) (a' := ?_) #[true,true,true,true,true,true,true,true,true,false,false,false,false,false,false,false,false,false] rfl rfl (by kernel_rfl) (fun _ _ _ h => h) (Or.inl ⟨by rfl, ?_⟩) ?_ ?_
 rotate_left
 · intro w'
   go_simp
   try with_reducible rfl
 rotate_left
 · simp only [Act.put, sA, sB, sC]
   rfl
 refine take_ (i := 9) (N := some 40) (v := ?_) (a' := ?_) #[true,true,true,true,true,true,true,true,true,true,false,false,false,false,false,false,false,false] rfl rfl (by kernel_rfl) (fun _ _ _ h => h) (Or.inl ⟨by rfl, ?_⟩) hHeld ?_ ?_
 rotate_left
 · rintro w' ⟨p1, e6, p7, q1⟩
   go_simp
   try with_reducible rfl
 rotate_left
 · simp only [Act.put, sA, sB, sC]
   rfl
 refine pure_ (i := 10) (N := some 41) (v := ?_) (a' := ?_) #[true,true,true,true,true,true,true,true,true,true,true,false,false,false,false,false,false,false] rfl rfl (by kernel_rfl) (fun _ _ _ h => h) (Or.inl ⟨by rfl, ?_⟩) ?_ ?_
 rotate_left
 · intro w'
   go_simp
   try with_reducible rfl
 rotate_left
 · simp only [Act.put, sA, sB, sC]
   rfl
 refine pure_ (i := 11) (N := some 42) (v := ?_) (a' := ?_) #[true,true,true,true,true,true,true,true,true,true,true,true,false,false,false,false,false,false] rfl rfl (by kernel_rfl) (fun _ _ _ h => h) (Or.inl ⟨by rfl, ?_⟩) ?_ ?_
 rotate_left
 · intro w'
   go_simp
   try with_reducible rfl
 rotate_left
 · simp only [Act.put, sA, sB, sC]
   rfl
 refine pure_ (i := 12) (N := some 43) (v := ?_) (a' := ?_) #[true,true,true,true,true,true,true,true,true,true,true,true,true,false,false,false,false,false] rfl rfl (by kernel_rfl) (fun _ _ _ h => h) (Or.inl ⟨by rfl, ?_⟩) ?_ ?_
 rotate_left
 · intro w'
   go_simp
   try with_reducible rfl
 rotate_left
 · simp only [Act.put, sA, sB, sC]
   rfl
 refine take_ (i := 13) (N := some 44) (v := ?_) (a' := ?_) #[true,true,true,true,true,true,true,true,true,true,true,true,true,true,false,false,false,false] rfl rfl (by kernel_rfl) (fun _ _ _ h => h) (Or.inl ⟨by rfl, ?_⟩) hHeld ?_ ?_
 rotate_left
 · rintro w' ⟨p1, e6, p7, q1⟩
   go_simp
   try with_reducible rfl
 rotate_left
 · simp only [Act.put, sA, sB, sC]
   rfl
 refine pure_ (i := 14) (N := some 45) (v := ?_) (a' := ?_) #[true,true,true,true,true,true,true,true,true,true,true,true,true,true,true,false,false,false] rfl rfl (by kernel_rfl) (fun _ _ _ h => h) (Or.inl ⟨by rfl, ?_⟩) ?_ ?_
 rotate_left
 · intro w'
   go_simp
   try with_reducible rfl
 rotate_left
 · simp only [Act.put, sA, sB, sC]
   rfl
 refine take_ (i := 15) (N := some 46) (v := ?_) (a' := ?_) #[true,true,true,true,true,true,true,true,true,true,true,true,true,true,true,true,false,false] rfl rfl (by kernel_rfl) (fun _ _ _ h => h) (Or.inl ⟨by rfl, ?_⟩) hHeld ?_ ?_
 rotate_left
 · rintro w' ⟨p1, e6, p7, q1⟩
   go_simp
   try with_reducible rfl
 rotate_left
 · simp only [Act.put, sA, sB, sC]
   rfl
 refine pure_ (i := 16) (N := some 47) (v := ?_) (a' := ?_) #[true,true,true,true,true,true,true,true,true,true,true,true,true,true,true,true,true,false] rfl rfl (by kernel_rfl) (fun _ _ _ h => h) (Or.inl ⟨by rfl, ?_⟩) ?_ ?_
 rotate_left
 · intro w'
   go_simp
   try with_reducible rfl
 rotate_left
 · simp only [Act.put, sA, sB, sC]
   rfl
 refine pure_ (i := 17) (N := some 48) (v := ?_) (a' := ?_) #[true,true,true,true,true,true,true,true,true,true,true,true,true,true,true,true,true,true] rfl rfl (by kernel_rfl) (fun _ _ _ h => h) (Or.inl ⟨by rfl, ?_⟩) ?_ ?_
 rotate_left
 · intro w'
   go_simp
   try with_reducible rfl
 rotate_left
 · simp only [Act.put, sA, sB, sC]
   rfl
 refine done_ (by kernel_rfl) ?_
 clear hHeld
 have HP7 := Aside0.mk (HP6.out.drew)
 obtain ⟨e0, e1, e2, e3, e4, e5, e6⟩ := HP7.out.bg.box; obtain ⟨p0, p1, p2, p3, p4, p5, p6, p7, p8, p9⟩ := HP7.out.bp.box
 have pf := BlkP.free' HP7.out.bp
 go_wp2
 have HP8 := HP7
 have HPX0 := Aside0.mk (HP8.out.drew)
 refine start_ (n := 8) (S := (fun w' => BoxG g (some ad) c s w' ∧ BoxP p Ap cp (s + 1) w')) (ds := []) #[false, false, false, false, false, false, false, false] (by kernel_rfl) rfl rfl ⟨HPX0.out.bg.box, HPX0.out.bp.box⟩ (fun hHeld => ?_)
 clear e0 e1 e2 e3 e4 e5 e6 p0 p1 p2 p3 p4 p5 p6 p7 p8 p9
 refine take_ (i := 0) (N := some 50) (v := ?_) (a' := ?_) #[true,false,false,false,false,false,false,false] rfl rfl (by kernel_rfl) (fun _ _ _ h => h) (Or.inl ⟨by rfl, ?_⟩) hHeld ?_ ?_
 rotate_left
 · rintro w' ⟨⟨e0, e1, e2, e3, e4, e5, e6⟩, ⟨p0, p1, p2, p3, p4, p5, p6, p7, p8, p9⟩⟩
   go_simp
   try with_reducible rfl
 rotate_left
 · simp only [Act.put, sA, sB, sC]
   rfl
 refine take_ (i := 1) (N := some 51) (v := ?_) (a' := ?_) #[true,true,false,false,false,false,false,false] rfl rfl (by kernel_rfl) (fun _ _ _ h => h) (Or.inl ⟨by rfl, ?_⟩) hHeld ?_ ?_
 rotate_left
 · rintro w' ⟨⟨e0, e1, e2, e3, e4, e5, e6⟩, ⟨p0, p1, p2, p3, p4, p5, p6, p7, p8, p9⟩⟩
   go_simp
   try with_reducible rfl
 rotate_left
 · simp only [Act.put, sA, sB, sC]
   rfl
 refine take_ (i := 3) (N := some 53) (v := ?_) (a' := ?_) #[true,true,false,true,false,false,false,false] rfl rfl (by kernel_rfl) (fun _ _ _ h => h) (Or.inl ⟨by rfl, ?_⟩) hHeld ?_ ?_
 rotate_left
 · rintro w' ⟨⟨e0, e1, e2, e3, e4, e5, e6⟩, ⟨p0, p1, p2, p3, p4, p5, p6, p7, p8, p9⟩⟩
   go_simp
   try with_reducible rfl
 rotate_left
 · simp only [Act.put, sA, sB, sC]
   rfl
 refine take_ (i := 4) (N := some 54) (v := ?_) (a' := ?_) #[true,true,false,true,true,false,false,false] rfl rfl (by kernel_rfl) (fun _ _ _ h => h) (Or.inl ⟨by rfl, ?_⟩) hHeld ?_ ?_
 rotate_left
 · rintro w' ⟨⟨e0, e1, e2, e3, e4, e5, e6⟩, ⟨p0, p1, p2, p3, p4, p5, p6, p7, p8, p9⟩⟩
   go_simp
   try with_reducible rfl
 rotate_left
 · simp only [Act.put, sA, sB, sC]
   rfl
 refine one_ (i := 2) (N := some 52) #[true,true,true,true,true,false,false,false] rfl rfl (by kernel_rfl) (by decide) (fun K hK => ?_)
 go_simp
 refine (sparse_Do g (some ad) c p Ap cp _ HPX0.out.rg HPX0.out.rp HL1.out).mono ?_; rintro e x1 ⟨A3, c3, rfl, hrd3, hx⟩; have HRD3 := Aside0.mk hrd3; have HPX1 := Aside0.mk (HPX0.out.below hx); clear hrd3 hx
 refine hK.out _ _ ?_ (fun hHeld => ?_)
 · exact ⟨HPX1.out.bg.box, HPX1.out.bp.box⟩
 clear hK K
 try simp only [Act.put, sA, sB, sC]
 refine one_ (i := 5) (N := some 55) #[true,true,true,true,true,true,false,false] rfl rfl (by kernel_rfl) (by decide) (fun K hK => ?_)
 go_simp
 refine (ref_Do6 g (some ad) c p Ap cp _ HPX1.out.rg HPX1.out.rp HL1.out HCN.out).mono ?_; rintro e x2 ⟨A4, c4, rfl, hrd4, hx⟩; have HRD4 := Aside0.mk hrd4; have HRD5 := Aside0.mk (HRD3.out.below hx); have HPX2 := Aside0.mk (HPX1.out.below hx); clear hrd4 hx
 refine hK.out _ _ ?_ (fun hHeld => ?_)
 · exact ⟨HPX2.out.bg.box, HPX2.out.bp.box⟩
 clear hK K
 try simp only [Act.put, sA, sB, sC]
 refine one_ (i := 6) (N := some 56) #[true,true,true,true,true,true,true,false] rfl rfl (by kernel_rfl) (by decide) (fun K hK => ?_)
 go_simp
 refine (dsame_calls (doG g p) (doRG g p) A3 c3 A4 c4 _ HRD5.out HRD4.out HSM.out).mono ?_; rintro e x3 ⟨rfl, hx⟩; have HPX3 := Aside0.mk (HPX2.out.below hx); clear hx
 refine hK.out _ _ ?_ (fun hHeld => ?_)
 · exact ⟨HPX3.out.bg.box, HPX3.out.bp.box⟩
 clear hK K
 try simp only [Act.put, sA, sB, sC]
 refine pure_ (i := 7) (N := some 4) (v := ?_) (a' := ?_) #[true,true,true,true,true,true,true,true] rfl rfl (by kernel_rfl) (fun _ _ _ h => h) (Or.inl ⟨by rfl, ?_⟩) ?_ ?_
 rotate_left
 · intro w'
   go_simp
   try with_reducible rfl
 rotate_left
 · simp only [Act.put, sA, sB, sC]
   rfl
 refine done_ (by kernel_rfl) ?_
 clear hHeld
 go_wp2
 go_ret
 exact ⟨rfl, by first | exact HPX3.out.b | (rw [HS.out]; exact HPX3.out.b)⟩
set_option maxHeartbeats 8000000 in
set_option maxRecDepth 100000 in
theorem dense_e4 (g : Grp) (A : Option Addr) (c : Nat) (p : Prt) (Ap : Option Addr) (cp : Nat) (w : World) (h : Rd w A c g.l) (hp : Rd w Ap cp p.l) {r1 r2 : Bool}
   (hf1 : ∀ (A : Option Addr) (c : Nat) (w : World), Rd w A c g.l → Calls Try.prog 10 #[vG g A c] w fun e w' => e = .returned (.bool r1) ∧ Below w.heap.size w w')
   (hf2 : ∀ (A : Option Addr) (c : Nat) (w : World), Rd w A c p.l → Calls Try.prog 11 #[vP p A c] w fun e w' => e = .returned (.bool r2) ∧ Below w.heap.size w w') (x1 : r1 = true) (x2 : r2 = true) (x3 : isG true g = true) (x4 : chkG g p = 0) (hL : g.l.length + p.l.length ≤ 4398046511104) (hk4 : p.k = 4) (n : Nat) (hk : atL g.l p.ix = (n : Int)) (hnl : n < g.l.length) (hT : (el g.l n).f1 = termL g.l p.ix) (heq : (el g.l n).f1 = p.tm) :
   Calls Try.prog 4 #[vG g A c, vP p Ap cp] w fun e w' => e = .returned (.bool true) ∧ Below w.heap.size w w' := by
 obtain ⟨s, hs⟩ : ∃ s, w.heap.size = s := ⟨_, rfl⟩
 have hg0 := GP.new g A c p Ap cp w h hp
 rw [hs] at hg0
 have HP0 := Aside0.mk hg0
 have HF1 := Aside0.mk hf1
 have HF2 := Aside0.mk hf2
 have HS := Aside0.mk hs
 subst x1
 subst x2
 have ht : turn g p = ⟨p.g, 3, p.l, p.ht, p.hv, p.hc, p.ix, p.tm, p.mrk, p.hed⟩ := by unfold turn; exact if_pos ⟨hk4, by omega, by rw [← hT]; exact heq⟩
 have HCN : Aside0 (canR g ⟨p.g, 3, p.l, p.ht, p.hv, p.hc, p.ix, p.tm, p.mrk, p.hed⟩) := ⟨by rw [← ht]; exact turn_can x3 x4⟩
 have HSM : Aside0 (sameG (doG g ⟨p.g, 3, p.l, p.ht, p.hv, p.hc, p.ix, p.tm, p.mrk, p.hed⟩) (doRG g ⟨p.g, 3, p.l, p.ht, p.hv, p.hc, p.ix, p.tm, p.mrk, p.hed⟩) = true) := ⟨by rw [← ht, dense_do x3 x4]; exact sameG_iff.2 rfl⟩
 have HD := Aside0.mk x3
 have HC := Aside0.mk x4
 have HL1 := Aside0.mk hL
 have jk : (p.k == 4) = true := beq_iff_eq.2 hk4
 have jt : ((el g.l n).f1 == p.tm) = true := beq_iff_eq.2 heq
 have HK := Aside0.mk hk
 have HNL := Aside0.mk hnl
 obtain ⟨ad, rfl, _⟩ := h.at_ hnl
 have hnl2 : (n : Int) < (g.l.length : Int) := by omega
 have hn0 : (0 : Int) ≤ (n : Int) := by omega
 clear hk hk4 hnl hT heq
 clear x3 x4 hL ht
 clear h hp hf1 hf2 hg0
 unfold vG vP
 go_enter Try.func4, Try.ntmps4
 go_wp2_with (first | (go_at_call 9; refine (known12 _).mono ?_; rintro e w1 ⟨rfl, hw1⟩; have HP1 := Aside0.mk (HP0.out.below hw1); clear hw1; obtain ⟨e0, e1, e2, e3, e4, e5, e6⟩ := HP1.out.bg.box; obtain ⟨p0, p1, p2, p3, p4, p5, p6, p7, p8, p9⟩ := HP1.out.bp.box) | (go_at_call 10; refine (HF1.out (some ad) c _ HP1.out.rg).mono ?_; rintro e w2 ⟨rfl, hw2⟩; have HP2 := Aside0.mk (HP1.out.below hw2); clear hw2; clear e0 e1 e2 e3 e4 e5 e6 p0 p1 p2 p3 p4 p5 p6 p7 p8 p9; obtain ⟨e0, e1, e2, e3, e4, e5, e6⟩ := HP2.out.bg.box; obtain ⟨p0, p1, p2, p3, p4, p5, p6, p7, p8, p9⟩ := HP2.out.bp.box) | (go_at_call 11; refine (HF2.out Ap cp _ HP2.out.rp).mono ?_; rintro e w3 ⟨rfl, hw3⟩; have HP3 := Aside0.mk (HP2.out.below hw3); clear hw3; clear e0 e1 e2 e3 e4 e5 e6 p0 p1 p2 p3 p4 p5 p6 p7 p8 p9; obtain ⟨e0, e1, e2, e3, e4, e5, e6⟩ := HP3.out.bg.box; obtain ⟨p0, p1, p2, p3, p4, p5, p6, p7, p8, p9⟩ := HP3.out.bp.box) | (go_at_call 16; refine (dis_calls g (some ad) c _ HP3.out.rg HD.out).mono ?_; rintro e w4 ⟨rfl, hw4⟩; have HP4 := Aside0.mk (HP3.out.below hw4); clear hw4; clear e0 e1 e2 e3 e4 e5 e6 p0 p1 p2 p3 p4 p5 p6 p7 p8 p9; obtain ⟨e0, e1, e2, e3, e4, e5, e6⟩ := HP4.out.bg.box; obtain ⟨p0, p1, p2, p3, p4, p5, p6, p7, p8, p9⟩ := HP4.out.bp.box) | (go_at_call 19; refine (dchk_calls g (some ad) c p Ap cp _ HP4.out.rg HP4.out.rp HD.out HC.out).mono ?_; rintro e w5 ⟨rfl, hw5⟩; have HP5 := Aside0.mk (HP4.out.below hw5); clear hw5; clear e0 e1 e2 e3 e4 e5 e6 p0 p1 p2 p3 p4 p5 p6 p7 p8 p9; obtain ⟨e0, e1, e2, e3, e4, e5, e6⟩ := HP5.out.bg.box; obtain ⟨p0, p1, p2, p3, p4, p5, p6, p7, p8, p9⟩ := HP5.out.bp.box) | (go_at_call 20; refine (atv_calls g (some ad) c p.ix _ HP5.out.rg HK.out).mono ?_; rintro e w6 ⟨rfl, hw6⟩; have HP6 := Aside0.mk (HP5.out.below hw6); clear hw6; clear e0 e1 e2 e3 e4 e5 e6 p0 p1 p2 p3 p4 p5 p6 p7 p8 p9; obtain ⟨e0, e1, e2, e3, e4, e5, e6⟩ := HP6.out.bg.box; obtain ⟨p0, p1, p2, p3, p4, p5, p6, p7, p8, p9⟩ := HP6.out.bp.box))
 obtain ⟨ad', hq, q0, q1, q2⟩ := HP6.out.rg.at_ (i := n) HNL.out
 cases hq
 refine start_ (n := 18) (S := (fun w' => w'.cell? ⟨s + 1, 1, none⟩ = some (.int .i64 p.k) ∧ w'.cell? ⟨s, 6, none⟩ = some (.slice (some ad) g.l.length c) ∧ w'.cell? ⟨s + 1, 7, none⟩ = some (.int .i64 p.tm) ∧ w'.cell? ⟨(ad.add (n * 3)).block, (ad.add (n * 3)).off + 1, none⟩ = some (.int .i64 (el g.l n).f1))) (ds := []) #[false, false, false, false, false, false, false, false, false, false, false, false, false, false, false, false, false, false] (by kernel_rfl) rfl rfl ⟨p1, e6, p7, q1⟩ (fun hHeld => ?_)
 clear e0 e1 e2 e3 e4 e5 e6 p0 p1 p2 p3 p4 p5 p6 p7 p8 p9 q0 q1 q2
 refine pure_ (i := 0) (N := some 31) (v := ?_) (a' := ?_) #[true,false,false,false,false,false,false,false,false,false,false,false,false,false,false,false,false,false] rfl rfl (by kernel_rfl) (fun _ _ _ h => h) (Or.inl ⟨by rfl, ?_⟩) ?_ ?_
 rotate_left
 · intro w'
   go_simp
   try with_reducible rfl
 rotate_left
 · simp only [Act.put, sA, sB, sC]
   rfl
 refine take_ (i := 1) (N := some 32) (v := ?_) (a' := ?_) #[true,true,false,false,false,false,false,false,false,false,false,false,false,false,false,false,false,false] rfl rfl (by kernel_rfl) (fun _ _ _ h => h) (Or.inl ⟨by rfl, ?_⟩) hHeld ?_ ?_
 rotate_left
 · rintro w' ⟨p1, e6, p7, q1⟩
   go_simp
   try with_reducible rfl
 rotate_left
 · simp only [Act.put, sA, sB, sC]
   rfl
 refine pure_ (i := 2) (N := some 33) (v := ?_) (a' := ?_) #[true,true,true,false,false,false,false,false,false,false,false,false,false,false,false,false,false,false] rfl rfl (by kernel_rfl) (fun _ _ _ h => h) (Or.inl ⟨by rfl, ?_⟩) ?_ ?_
 rotate_left
 · intro w'
   go_simp
   try with_reducible rfl
 rotate_left
 · simp only [Act.put, sA, sB, sC]
   rfl
 refine pure_ (i := 3) (N := some 34) (v := ?_) (a' := ?_) #[true,true,true,true,false,false,false,false,false,false,false,false,false,false,false,false,false,false] rfl rfl (by kernel_rfl) (fun _ _ _ h => h) (Or.inl ⟨by rfl, ?_⟩) ?_ ?_
 rotate_left
 · intro w'
   go_simp
   try with_reducible rfl
 rotate_left
 · simp only [Act.put, sA, sB, sC]
   rfl
 refine pure_ (i := 4) (N := some 35) (v := ?_) (a' := ?_) #[true,true,true,true,true,false,false,false,false,false,false,false,false,false,false,false,false,false] rfl rfl (by kernel_rfl) (fun _ _ _ h => h) (Or.inl ⟨by rfl, ?_⟩) ?_ ?_
 rotate_left
 · intro w'
   go_simp
   try with_reducible rfl
 rotate_left
 · simp only [Act.put, sA, sB, sC]
   rfl
 refine pure_ (i := 5) (N := some 36) (v := ?_) (a' := ?_) #[true,true,true,true,true,true,false,false,false,false,false,false,false,false,false,false,false,false] rfl rfl (by kernel_rfl) (fun _ _ _ h => h) (Or.inl ⟨by rfl, ?_⟩) ?_ ?_
 rotate_left
 · intro w'
   go_simp
   try with_reducible rfl
 rotate_left
 · simp only [Act.put, sA, sB, sC]
   rfl
 refine pure_ (i := 6) (N := some 37) (v := ?_) (a' := ?_) #[true,true,true,true,true,true,true,false,false,false,false,false,false,false,false,false,false,false] rfl rfl (by kernel_rfl) (fun _ _ _ h => h) (Or.inl ⟨by rfl, ?_⟩) ?_ ?_
 rotate_left
 · intro w'
   go_simp
   try with_reducible rfl
 rotate_left
 · simp only [Act.put, sA, sB, sC]
   rfl
 refine pure_ (i := 7) (N := some 38) (v := ?_) (a' := ?_) #[true,true,true,true,true,true,true,true,false,false,false,false,false,false,false,false,false,false] rfl rfl (by kernel_rfl) (fun _ _ _ h => h) (Or.inl ⟨by rfl, ?_⟩) ?_ ?_
 rotate_left
 · intro w'
   go_simp
   try with_reducible rfl
 rotate_left
 · simp only [Act.put, sA, sB, sC]
   rfl
 refine pure_ (i := 8) (N := some 39) (v := ?_) (a' := ?_) #[true,true,true,true,true,true,true,true,true,false,false,false,false,false,false,false,false,false] rfl rfl (by kernel_rfl) (fun _ _ _ h => h) (Or.inl ⟨by rfl, ?_⟩) ?_ ?_
 rotate_left
 · intro w'
   go_simp
   try with_reducible rfl
 rotate_left
 · simp only [Act.put, sA, sB, sC]
   rfl
 refine take_ (i := 9) (N := some 40) (v := ?_) (a' := ?_) #[true,true,true,true,true,true,true,true,true,true,false,false,false,false,false,false,false,false] rfl rfl (by kernel_rfl) (fun _ _ _ h => h) (Or.inl ⟨by rfl, ?_⟩) hHeld ?_ ?_
 rotate_left
 · rintro w' ⟨p1, e6, p7, q1⟩
   go_simp
   try with_reducible rfl
 rotate_left
 · simp only [Act.put, sA, sB, sC]
   rfl
 refine pure_ (i := 10) (N := some 41) (v := ?_) (a' := ?_) #[true,true,true,true,true,true,true,true,true,true,true,false,false,false,false,false,false,false] rfl rfl (by kernel_rfl) (fun _ _ _ h => h) (Or.inl ⟨by rfl, ?_⟩) ?_ ?_
 rotate_left
 · intro w'
   go_simp
   try with_reducible rfl
 rotate_left
 · simp only [Act.put, sA, sB, sC]
   rfl
 refine pure_ (i := 11) (N := some 42) (v := ?_) (a' := ?_) #[true,true,true,true,true,true,true,true,true,true,true,true,false,false,false,false,false,false] rfl rfl (by kernel_rfl) (fun _ _ _ h => h) (Or.inl ⟨by rfl, ?_⟩) ?_ ?_
 rotate_left
 · intro w'
   go_simp
   try with_reducible rfl
 rotate_left
 · simp only [Act.put, sA, sB, sC]
   rfl
 refine pure_ (i := 12) (N := some 43) (v := ?_) (a' := ?_) #[true,true,true,true,true,true,true,true,true,true,true,true,true,false,false,false,false,false] rfl rfl (by kernel_rfl) (fun _ _ _ h => h) (Or.inl ⟨by rfl, ?_⟩) ?_ ?_
 rotate_left
 · intro w'
   go_simp
   try with_reducible rfl
 rotate_left
 · simp only [Act.put, sA, sB, sC]
   rfl
 refine take_ (i := 13) (N := some 44) (v := ?_) (a' := ?_) #[true,true,true,true,true,true,true,true,true,true,true,true,true,true,false,false,false,false] rfl rfl (by kernel_rfl) (fun _ _ _ h => h) (Or.inl ⟨by rfl, ?_⟩) hHeld ?_ ?_
 rotate_left
 · rintro w' ⟨p1, e6, p7, q1⟩
   go_simp
   try with_reducible rfl
 rotate_left
 · simp only [Act.put, sA, sB, sC]
   rfl
 refine pure_ (i := 14) (N := some 45) (v := ?_) (a' := ?_) #[true,true,true,true,true,true,true,true,true,true,true,true,true,true,true,false,false,false] rfl rfl (by kernel_rfl) (fun _ _ _ h => h) (Or.inl ⟨by rfl, ?_⟩) ?_ ?_
 rotate_left
 · intro w'
   go_simp
   try with_reducible rfl
 rotate_left
 · simp only [Act.put, sA, sB, sC]
   rfl
 refine take_ (i := 15) (N := some 46) (v := ?_) (a' := ?_) #[true,true,true,true,true,true,true,true,true,true,true,true,true,true,true,true,false,false] rfl rfl (by kernel_rfl) (fun _ _ _ h => h) (Or.inl ⟨by rfl, ?_⟩) hHeld ?_ ?_
 rotate_left
 · rintro w' ⟨p1, e6, p7, q1⟩
   go_simp
   try with_reducible rfl
 rotate_left
 · simp only [Act.put, sA, sB, sC]
   rfl
 refine pure_ (i := 16) (N := some 47) (v := ?_) (a' := ?_) #[true,true,true,true,true,true,true,true,true,true,true,true,true,true,true,true,true,false] rfl rfl (by kernel_rfl) (fun _ _ _ h => h) (Or.inl ⟨by rfl, ?_⟩) ?_ ?_
 rotate_left
 · intro w'
   go_simp
   try with_reducible rfl
 rotate_left
 · simp only [Act.put, sA, sB, sC]
   rfl
 refine pure_ (i := 17) (N := some 48) (v := ?_) (a' := ?_) #[true,true,true,true,true,true,true,true,true,true,true,true,true,true,true,true,true,true] rfl rfl (by kernel_rfl) (fun _ _ _ h => h) (Or.inl ⟨by rfl, ?_⟩) ?_ ?_
 rotate_left
 · intro w'
   go_simp
   try with_reducible rfl
 rotate_left
 · simp only [Act.put, sA, sB, sC]
   rfl
 refine done_ (by kernel_rfl) ?_
 clear hHeld
 have HP7 := Aside0.mk (HP6.out.drew)
 obtain ⟨e0, e1, e2, e3, e4, e5, e6⟩ := HP7.out.bg.box; obtain ⟨p0, p1, p2, p3, p4, p5, p6, p7, p8, p9⟩ := HP7.out.bp.box
 have pf := BlkP.free' HP7.out.bp
 go_wp2
 have HP8 := Aside0.mk ((HP6.out.kind3).drew)
 obtain ⟨W8, hW8⟩ : ∃ W8, (w6.setCell ⟨s + 1, 1, none⟩ (.int .i64 3)).drew = W8 := ⟨_, rfl⟩
 rw [hW8] at HP8 ⊢
 clear hW8 e0 e1 e2 e3 e4 e5 e6 p0 p1 p2 p3 p4 p5 p6 p7 p8 p9
 obtain ⟨e0, e1, e2, e3, e4, e5, e6⟩ := HP8.out.bg.box; obtain ⟨p0, p1, p2, p3, p4, p5, p6, p7, p8, p9⟩ := HP8.out.bp.box
 have HPX0 := Aside0.mk (HP8.out.drew)
 refine start_ (n := 8) (S := (fun w' => BoxG g (some ad) c s w' ∧ BoxP ⟨p.g, 3, p.l, p.ht, p.hv, p.hc, p.ix, p.tm, p.mrk, p.hed⟩ Ap cp (s + 1) w')) (ds := []) #[false, false, false, false, false, false, false, false] (by kernel_rfl) rfl rfl ⟨HPX0.out.bg.box, HPX0.out.bp.box⟩ (fun hHeld => ?_)
 clear e0 e1 e2 e3 e4 e5 e6 p0 p1 p2 p3 p4 p5 p6 p7 p8 p9
 refine take_ (i := 0) (N := some 50) (v := ?_) (a' := ?_) #[true,false,false,false,false,false,false,false] rfl rfl (by kernel_rfl) (fun _ _ _ h => h) (Or.inl ⟨by rfl, ?_⟩) hHeld ?_ ?_
 rotate_left
 · rintro w' ⟨⟨e0, e1, e2, e3, e4, e5, e6⟩, ⟨p0, p1, p2, p3, p4, p5, p6, p7, p8, p9⟩⟩
   go_simp
   try with_reducible rfl
 rotate_left
 · simp only [Act.put, sA, sB, sC]
   rfl
 refine take_ (i := 1) (N := some 51) (v := ?_) (a' := ?_) #[true,true,false,false,false,false,false,false] rfl rfl (by kernel_rfl) (fun _ _ _ h => h) (Or.inl ⟨by rfl, ?_⟩) hHeld ?_ ?_
 rotate_left
 · rintro w' ⟨⟨e0, e1, e2, e3, e4, e5, e6⟩, ⟨p0, p1, p2, p3, p4, p5, p6, p7, p8, p9⟩⟩
   go_simp
   try with_reducible rfl
 rotate_left
 · simp only [Act.put, sA, sB, sC]
   rfl
 refine take_ (i := 3) (N := some 53) (v := ?_) (a' := ?_) #[true,true,false,true,false,false,false,false] rfl rfl (by kernel_rfl) (fun _ _ _ h => h) (Or.inl ⟨by rfl, ?_⟩) hHeld ?_ ?_
 rotate_left
 · rintro w' ⟨⟨e0, e1, e2, e3, e4, e5, e6⟩, ⟨p0, p1, p2, p3, p4, p5, p6, p7, p8, p9⟩⟩
   go_simp
   try with_reducible rfl
 rotate_left
 · simp only [Act.put, sA, sB, sC]
   rfl
 refine take_ (i := 4) (N := some 54) (v := ?_) (a' := ?_) #[true,true,false,true,true,false,false,false] rfl rfl (by kernel_rfl) (fun _ _ _ h => h) (Or.inl ⟨by rfl, ?_⟩) hHeld ?_ ?_
 rotate_left
 · rintro w' ⟨⟨e0, e1, e2, e3, e4, e5, e6⟩, ⟨p0, p1, p2, p3, p4, p5, p6, p7, p8, p9⟩⟩
   go_simp
   try with_reducible rfl
 rotate_left
 · simp only [Act.put, sA, sB, sC]
   rfl
 refine one_ (i := 2) (N := some 52) #[true,true,true,true,true,false,false,false] rfl rfl (by kernel_rfl) (by decide) (fun K hK => ?_)
 go_simp
 refine (sparse_Do g (some ad) c ⟨p.g, 3, p.l, p.ht, p.hv, p.hc, p.ix, p.tm, p.mrk, p.hed⟩ Ap cp _ HPX0.out.rg HPX0.out.rp HL1.out).mono ?_; rintro e x1 ⟨A3, c3, rfl, hrd3, hx⟩; have HRD3 := Aside0.mk hrd3; have HPX1 := Aside0.mk (HPX0.out.below hx); clear hrd3 hx
 refine hK.out _ _ ?_ (fun hHeld => ?_)
 · exact ⟨HPX1.out.bg.box, HPX1.out.bp.box⟩
 clear hK K
 try simp only [Act.put, sA, sB, sC]
 refine one_ (i := 5) (N := some 55) #[true,true,true,true,true,true,false,false] rfl rfl (by kernel_rfl) (by decide) (fun K hK => ?_)
 go_simp
 refine (ref_Do6 g (some ad) c ⟨p.g, 3, p.l, p.ht, p.hv, p.hc, p.ix, p.tm, p.mrk, p.hed⟩ Ap cp _ HPX1.out.rg HPX1.out.rp HL1.out HCN.out).mono ?_; rintro e x2 ⟨A4, c4, rfl, hrd4, hx⟩; have HRD4 := Aside0.mk hrd4; have HRD5 := Aside0.mk (HRD3.out.below hx); have HPX2 := Aside0.mk (HPX1.out.below hx); clear hrd4 hx
 refine hK.out _ _ ?_ (fun hHeld => ?_)
 · exact ⟨HPX2.out.bg.box, HPX2.out.bp.box⟩
 clear hK K
 try simp only [Act.put, sA, sB, sC]
 refine one_ (i := 6) (N := some 56) #[true,true,true,true,true,true,true,false] rfl rfl (by kernel_rfl) (by decide) (fun K hK => ?_)
 go_simp
 refine (dsame_calls (doG g ⟨p.g, 3, p.l, p.ht, p.hv, p.hc, p.ix, p.tm, p.mrk, p.hed⟩) (doRG g ⟨p.g, 3, p.l, p.ht, p.hv, p.hc, p.ix, p.tm, p.mrk, p.hed⟩) A3 c3 A4 c4 _ HRD5.out HRD4.out HSM.out).mono ?_; rintro e x3 ⟨rfl, hx⟩; have HPX3 := Aside0.mk (HPX2.out.below hx); clear hx
 refine hK.out _ _ ?_ (fun hHeld => ?_)
 · exact ⟨HPX3.out.bg.box, HPX3.out.bp.box⟩
 clear hK K
 try simp only [Act.put, sA, sB, sC]
 refine pure_ (i := 7) (N := some 4) (v := ?_) (a' := ?_) #[true,true,true,true,true,true,true,true] rfl rfl (by kernel_rfl) (fun _ _ _ h => h) (Or.inl ⟨by rfl, ?_⟩) ?_ ?_
 rotate_left
 · intro w'
   go_simp
   try with_reducible rfl
 rotate_left
 · simp only [Act.put, sA, sB, sC]
   rfl
 refine done_ (by kernel_rfl) ?_
 clear hHeld
 go_wp2
 go_ret
 exact ⟨rfl, by first | exact HPX3.out.b | (rw [HS.out]; exact HPX3.out.b)⟩
theorem dense_walk (g : Grp) (A : Option Addr) (c : Nat) (p : Prt) (Ap : Option Addr) (cp : Nat) (w : World) (h : Rd w A c g.l) (hp : Rd w Ap cp p.l) :
   Calls Try.prog 4 #[vG g A c, vP p Ap cp] w fun e w' => e = .returned (.bool true) ∧ Below w.heap.size w w' := by
 obtain ⟨r1, hq1, hf1⟩ := few_group g h.bd
 obtain ⟨r2, hq2, hf2⟩ := few_part p hp.bd
 cases x1 : r1 with
 | false => exact dense_n1 g A c p Ap cp w h hp hf1 hf2 x1
 | true =>
   cases x2 : r2 with
   | false => exact dense_n2 g A c p Ap cp w h hp hf1 hf2 x1 x2
   | true =>
     cases x3 : isG true g with
     | false => exact dense_n3 g A c p Ap cp w h hp hf1 hf2 x1 x2 x3
     | true =>
       by_cases x4 : chkG g p = 0
       · have hL : g.l.length + p.l.length ≤ 4398046511104 := by have := hq1 x1; have := hq2 x2; omega
         by_cases hk4 : p.k = 4
         · by_cases hk : 0 ≤ atL g.l p.ix
           · obtain ⟨n, hn⟩ := Int.eq_ofNat_of_zero_le hk
             have h3 := at_some hk
             rw [hn, Int.toNat_natCast] at h3
             by_cases ht : (el g.l n).f1 = p.tm
             · exact dense_e4 g A c p Ap cp w h hp hf1 hf2 x1 x2 x3 x4 hL hk4 n hn h3.1 h3.2 ht
             · exact dense_e3 g A c p Ap cp w h hp hf1 hf2 x1 x2 x3 x4 hL hk4 n hn h3.1 h3.2 ht
           · exact dense_e2 g A c p Ap cp w h hp hf1 hf2 x1 x2 x3 x4 hL hk4 _ rfl (by omega)
         · exact dense_e1 g A c p Ap cp w h hp hf1 hf2 x1 x2 x3 x4 hL hk4
       · exact dense_n4 g A c p Ap cp w h hp hf1 hf2 x1 x2 x3 _ rfl x4
end Go.Proofs.Ytfnflbclhaeedaa.PartW
namespace Go.Proofs.Ytfnflbclhaeedaa.Pure
open Go Go.RowKit Go.Proofs.Ytfnflbclhaeedaa.Sp Go.Proofs.Ytfnflbclhaeedaa.PartW
theorem SparseDense.walk (g : Grp) (A : Option Addr) (c : Nat) (p : Prt) (Ap : Option Addr) (cp : Nat) (w : World) (h : Rd w A c g.l) (hp : Rd w Ap cp p.l) :
   Calls Try.prog 4 #[vG g A c, vP p Ap cp] w fun e w' => e = .returned (.bool true) ∧ Below w.heap.size w w' := dense_walk g A c p Ap cp w h hp
end Go.Proofs.Ytfnflbclhaeedaa.Pure
