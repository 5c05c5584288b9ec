/- The statement GroupAppends; no condition beyond the row's. -/
import Derived.Test.YtlfdmlacadoolaaSameQ
import Derived.Test.YtlfdmlacadoolaaFew6
import Derived.Test.YtlfdmlacadoolaaCalls6
import Derived.Test.YtlfdmlacadoolaaStay
set_option linter.unusedVariables false
set_option linter.unusedSimpArgs false
namespace Go.Proofs.Ytlfdmlacadoolaa.PartW
open Go Go.RowKit Go.Shelf Go.Proofs.Ytlfdmlacadoolaa.A Go.Proofs.Ytlfdmlacadoolaa.Sp Go.Proofs.Ytlfdmlacadoolaa.Reg Go.Proofs.Ytlfdmlacadoolaa.Seq Go.Proofs.YtlfdmlacadoolaaW.PrintWords Go.Proofs.YtlfdmlacadoolaaW.PrintLast Go.Proofs.YtlfdmlacadoolaaW.PrintMore
theorem rsamep_c (a b : Prt) (A : Option Addr) (c : Nat) (A' : Option Addr) (c' : Nat) (w : World) (ha : Rd w A c a.l) (hb : Rd w A' c' b.l) {r : Bool} (hr : sameP a b = r) : Calls Try.prog 32 #[vP a A c, vP b A' c'] w fun e w' => e = .returned (.bool r) ∧ Below w.heap.size w w' := by
  rw [← hr]; exact ref_SamePart a b A c A' c' w ha hb
set_option maxHeartbeats 8000000 in
set_option maxRecDepth 100000 in
theorem apps6_n1 (g : Grp) (A : Option Addr) (c : Nat) (p : Prt) (Ap : Option Addr) (cp : Nat) (w : World) (hg : Rd w A c g.l) (hp : Rd w Ap cp p.l) {r1 r3 : Bool} (hf1 : (∀ (A : Option Addr) (c : Nat) (w : World), Rd w A c g.l → Calls Try.prog 13 #[vG g A c] w fun e w' => e = .returned (.bool r1) ∧ Below w.heap.size w w')) (hf3 : (∀ (A : Option Addr) (c : Nat) (w : World), Rd w A c p.l → Calls Try.prog 14 #[vP p A c] w fun e w' => e = .returned (.bool r3) ∧ Below w.heap.size w w')) (x1 : r1 = false) :
  Calls Try.prog 6 #[vG g A c, vP p Ap cp] w fun e w' => e = .returned (.bool true) ∧ Below w.heap.size w w' := by
 subst x1
 have HF1 := Aside0.mk hf1
 have HF3 := Aside0.mk hf3
 obtain ⟨s, hs⟩ : ∃ s, w.heap.size = s := ⟨_, rfl⟩
 have HSs := Aside0.mk hs
 unfold vG vP
 go_enter Try.func6, Try.ntmps6
 have HB := Aside0.mk (Bel.refl w)
 have HR1 := Aside0.mk (hg)
 have HR3 := Aside0.mk (hp)
 clear hf1 hf3 hg hp
 obtain ⟨C1, hC1⟩ : ∃ C, (match Try.f6.body with | some (.seq _ c) => c | _ => .skip) = C := ⟨_, rfl⟩
 have HC1 := Aside0.mk hC1
 simp only [Try.f6] at hC1
 rw [hC1]
 clear hC1
 go_wp2
 replace HB := laB HB (.cells #[.int .i64 g.id, .int .i64 g.fi, .int .i64 g.tm, .int .i64 g.ht, .int .i64 g.hv, .int .i64 g.hc, .slice A g.l.length c] 26)
 replace HR1 := laR HR1 (.cells #[.int .i64 g.id, .int .i64 g.fi, .int .i64 g.tm, .int .i64 g.ht, .int .i64 g.hv, .int .i64 g.hc, .slice A g.l.length c] 26)
 replace HR3 := laR HR3 (.cells #[.int .i64 g.id, .int .i64 g.fi, .int .i64 g.tm, .int .i64 g.ht, .int .i64 g.hv, .int .i64 g.hc, .slice A g.l.length c] 26)
 replace HB := laB HB (.cells #[.int .i64 p.g, .int .i64 p.k, .slice Ap p.l.length cp, .int .i64 p.ht, .int .i64 p.hv, .int .i64 p.hc, .int .i64 p.ix, .int .i64 p.tm, .bool p.mrk, .bool p.hed] 28)
 replace HR1 := laR HR1 (.cells #[.int .i64 p.g, .int .i64 p.k, .slice Ap p.l.length cp, .int .i64 p.ht, .int .i64 p.hv, .int .i64 p.hc, .int .i64 p.ix, .int .i64 p.tm, .bool p.mrk, .bool p.hed] 28)
 replace HR3 := laR HR3 (.cells #[.int .i64 p.g, .int .i64 p.k, .slice Ap p.l.length cp, .int .i64 p.ht, .int .i64 p.hv, .int .i64 p.hc, .int .i64 p.ix, .int .i64 p.tm, .bool p.mrk, .bool p.hed] 28)
 have HG : Aside0 (BlkG g A c s ((w.alloc (.cells #[.int .i64 g.id, .int .i64 g.fi, .int .i64 g.tm, .int .i64 g.ht, .int .i64 g.hv, .int .i64 g.hc, .slice A g.l.length c] 26)).alloc (.cells #[.int .i64 p.g, .int .i64 p.k, .slice Ap p.l.length cp, .int .i64 p.ht, .int .i64 p.hv, .int .i64 p.hc, .int .i64 p.ix, .int .i64 p.tm, .bool p.mrk, .bool p.hed] 28))) := ⟨(by have hq := BlkG.new g A c w; rw [hs] at hq; exact hq.alloc (.cells #[.int .i64 p.g, .int .i64 p.k, .slice Ap p.l.length cp, .int .i64 p.ht, .int .i64 p.hv, .int .i64 p.hc, .int .i64 p.ix, .int .i64 p.tm, .bool p.mrk, .bool p.hed] 28))⟩
 have HP : Aside0 (BlkP p Ap cp (s + 1) ((w.alloc (.cells #[.int .i64 g.id, .int .i64 g.fi, .int .i64 g.tm, .int .i64 g.ht, .int .i64 g.hv, .int .i64 g.hc, .slice A g.l.length c] 26)).alloc (.cells #[.int .i64 p.g, .int .i64 p.k, .slice Ap p.l.length cp, .int .i64 p.ht, .int .i64 p.hv, .int .i64 p.hc, .int .i64 p.ix, .int .i64 p.tm, .bool p.mrk, .bool p.hed] 28))) := ⟨(by have hq := BlkP.new p Ap cp (w.alloc (.cells #[.int .i64 g.id, .int .i64 g.fi, .int .i64 g.tm, .int .i64 g.ht, .int .i64 g.hv, .int .i64 g.hc, .slice A g.l.length c] 26)); rw [World.size_alloc, hs] at hq; exact hq)⟩
 obtain ⟨W0, hW0⟩ : ∃ W, (w.alloc (.cells #[.int .i64 g.id, .int .i64 g.fi, .int .i64 g.tm, .int .i64 g.ht, .int .i64 g.hv, .int .i64 g.hc, .slice A g.l.length c] 26)).alloc (.cells #[.int .i64 p.g, .int .i64 p.k, .slice Ap p.l.length cp, .int .i64 p.ht, .int .i64 p.hv, .int .i64 p.hc, .int .i64 p.ix, .int .i64 p.tm, .bool p.mrk, .bool p.hed] 28) = W := ⟨_, rfl⟩
 rw [hW0] at HB HR1 HR3 HG HP ⊢
 clear hW0
 clear hs
 obtain ⟨hg0, hg1, hg2, hg3, hg4, hg5, hg6⟩ := HG.out.box
 obtain ⟨hp0, hp1, hp2, hp3, hp4, hp5, hp6, hp7, hp8, hp9⟩ := HP.out.box
 have hC1 := HC1.out
 simp only [Try.f6] at hC1
 subst hC1
 clear HC1
 go_wp2_with fail
 go_at_call 12
 refine (known6 _).mono ?_
 rintro e w1 ⟨rfl, hw1⟩
 replace HB := lbB HB hw1
 replace HR1 := lbR HR1 hw1
 replace HR3 := lbR HR3 hw1
 replace HG := lbG HG hw1
 replace HP := lbP HP hw1
 clear hw1
 clear hg0 hg1 hg2 hg3 hg4 hg5 hg6 hp0 hp1 hp2 hp3 hp4 hp5 hp6 hp7 hp8 hp9
 obtain ⟨hg0, hg1, hg2, hg3, hg4, hg5, hg6⟩ := HG.out.box
 obtain ⟨hp0, hp1, hp2, hp3, hp4, hp5, hp6, hp7, hp8, hp9⟩ := HP.out.box
 go_wp2_with fail
 go_at_call 13
 refine (HF1.out A c _ HR1.out).mono ?_
 rintro e w2 ⟨rfl, hw2⟩
 replace HB := lbB HB hw2
 replace HR1 := lbR HR1 hw2
 replace HR3 := lbR HR3 hw2
 replace HG := lbG HG hw2
 replace HP := lbP HP hw2
 clear hw2
 clear hg0 hg1 hg2 hg3 hg4 hg5 hg6 hp0 hp1 hp2 hp3 hp4 hp5 hp6 hp7 hp8 hp9
 obtain ⟨hg0, hg1, hg2, hg3, hg4, hg5, hg6⟩ := HG.out.box
 obtain ⟨hp0, hp1, hp2, hp3, hp4, hp5, hp6, hp7, hp8, hp9⟩ := HP.out.box
 go_wp2_with fail
 go_ret
 exact ⟨rfl, HB.out.b⟩
set_option maxHeartbeats 8000000 in
set_option maxRecDepth 100000 in
theorem apps6_n2 (g : Grp) (A : Option Addr) (c : Nat) (p : Prt) (Ap : Option Addr) (cp : Nat) (w : World) (hg : Rd w A c g.l) (hp : Rd w Ap cp p.l) {r1 r3 : Bool} (hf1 : (∀ (A : Option Addr) (c : Nat) (w : World), Rd w A c g.l → Calls Try.prog 13 #[vG g A c] w fun e w' => e = .returned (.bool r1) ∧ Below w.heap.size w w')) (hf3 : (∀ (A : Option Addr) (c : Nat) (w : World), Rd w A c p.l → Calls Try.prog 14 #[vP p A c] w fun e w' => e = .returned (.bool r3) ∧ Below w.heap.size w w')) (x1 : r1 = true) (x3 : r3 = false) :
  Calls Try.prog 6 #[vG g A c, vP p Ap cp] w fun e w' => e = .returned (.bool true) ∧ Below w.heap.size w w' := by
 subst x1
 subst x3
 have HF1 := Aside0.mk hf1
 have HF3 := Aside0.mk hf3
 obtain ⟨s, hs⟩ : ∃ s, w.heap.size = s := ⟨_, rfl⟩
 have HSs := Aside0.mk hs
 unfold vG vP
 go_enter Try.func6, Try.ntmps6
 have HB := Aside0.mk (Bel.refl w)
 have HR1 := Aside0.mk (hg)
 have HR3 := Aside0.mk (hp)
 clear hf1 hf3 hg hp
 obtain ⟨C1, hC1⟩ : ∃ C, (match Try.f6.body with | some (.seq _ c) => c | _ => .skip) = C := ⟨_, rfl⟩
 have HC1 := Aside0.mk hC1
 simp only [Try.f6] at hC1
 rw [hC1]
 clear hC1
 go_wp2
 replace HB := laB HB (.cells #[.int .i64 g.id, .int .i64 g.fi, .int .i64 g.tm, .int .i64 g.ht, .int .i64 g.hv, .int .i64 g.hc, .slice A g.l.length c] 26)
 replace HR1 := laR HR1 (.cells #[.int .i64 g.id, .int .i64 g.fi, .int .i64 g.tm, .int .i64 g.ht, .int .i64 g.hv, .int .i64 g.hc, .slice A g.l.length c] 26)
 replace HR3 := laR HR3 (.cells #[.int .i64 g.id, .int .i64 g.fi, .int .i64 g.tm, .int .i64 g.ht, .int .i64 g.hv, .int .i64 g.hc, .slice A g.l.length c] 26)
 replace HB := laB HB (.cells #[.int .i64 p.g, .int .i64 p.k, .slice Ap p.l.length cp, .int .i64 p.ht, .int .i64 p.hv, .int .i64 p.hc, .int .i64 p.ix, .int .i64 p.tm, .bool p.mrk, .bool p.hed] 28)
 replace HR1 := laR HR1 (.cells #[.int .i64 p.g, .int .i64 p.k, .slice Ap p.l.length cp, .int .i64 p.ht, .int .i64 p.hv, .int .i64 p.hc, .int .i64 p.ix, .int .i64 p.tm, .bool p.mrk, .bool p.hed] 28)
 replace HR3 := laR HR3 (.cells #[.int .i64 p.g, .int .i64 p.k, .slice Ap p.l.length cp, .int .i64 p.ht, .int .i64 p.hv, .int .i64 p.hc, .int .i64 p.ix, .int .i64 p.tm, .bool p.mrk, .bool p.hed] 28)
 have HG : Aside0 (BlkG g A c s ((w.alloc (.cells #[.int .i64 g.id, .int .i64 g.fi, .int .i64 g.tm, .int .i64 g.ht, .int .i64 g.hv, .int .i64 g.hc, .slice A g.l.length c] 26)).alloc (.cells #[.int .i64 p.g, .int .i64 p.k, .slice Ap p.l.length cp, .int .i64 p.ht, .int .i64 p.hv, .int .i64 p.hc, .int .i64 p.ix, .int .i64 p.tm, .bool p.mrk, .bool p.hed] 28))) := ⟨(by have hq := BlkG.new g A c w; rw [hs] at hq; exact hq.alloc (.cells #[.int .i64 p.g, .int .i64 p.k, .slice Ap p.l.length cp, .int .i64 p.ht, .int .i64 p.hv, .int .i64 p.hc, .int .i64 p.ix, .int .i64 p.tm, .bool p.mrk, .bool p.hed] 28))⟩
 have HP : Aside0 (BlkP p Ap cp (s + 1) ((w.alloc (.cells #[.int .i64 g.id, .int .i64 g.fi, .int .i64 g.tm, .int .i64 g.ht, .int .i64 g.hv, .int .i64 g.hc, .slice A g.l.length c] 26)).alloc (.cells #[.int .i64 p.g, .int .i64 p.k, .slice Ap p.l.length cp, .int .i64 p.ht, .int .i64 p.hv, .int .i64 p.hc, .int .i64 p.ix, .int .i64 p.tm, .bool p.mrk, .bool p.hed] 28))) := ⟨(by have hq := BlkP.new p Ap cp (w.alloc (.cells #[.int .i64 g.id, .int .i64 g.fi, .int .i64 g.tm, .int .i64 g.ht, .int .i64 g.hv, .int .i64 g.hc, .slice A g.l.length c] 26)); rw [World.size_alloc, hs] at hq; exact hq)⟩
 obtain ⟨W0, hW0⟩ : ∃ W, (w.alloc (.cells #[.int .i64 g.id, .int .i64 g.fi, .int .i64 g.tm, .int .i64 g.ht, .int .i64 g.hv, .int .i64 g.hc, .slice A g.l.length c] 26)).alloc (.cells #[.int .i64 p.g, .int .i64 p.k, .slice Ap p.l.length cp, .int .i64 p.ht, .int .i64 p.hv, .int .i64 p.hc, .int .i64 p.ix, .int .i64 p.tm, .bool p.mrk, .bool p.hed] 28) = W := ⟨_, rfl⟩
 rw [hW0] at HB HR1 HR3 HG HP ⊢
 clear hW0
 clear hs
 obtain ⟨hg0, hg1, hg2, hg3, hg4, hg5, hg6⟩ := HG.out.box
 obtain ⟨hp0, hp1, hp2, hp3, hp4, hp5, hp6, hp7, hp8, hp9⟩ := HP.out.box
 have hC1 := HC1.out
 simp only [Try.f6] at hC1
 subst hC1
 clear HC1
 go_wp2_with fail
 go_at_call 12
 refine (known6 _).mono ?_
 rintro e w1 ⟨rfl, hw1⟩
 replace HB := lbB HB hw1
 replace HR1 := lbR HR1 hw1
 replace HR3 := lbR HR3 hw1
 replace HG := lbG HG hw1
 replace HP := lbP HP hw1
 clear hw1
 clear hg0 hg1 hg2 hg3 hg4 hg5 hg6 hp0 hp1 hp2 hp3 hp4 hp5 hp6 hp7 hp8 hp9
 obtain ⟨hg0, hg1, hg2, hg3, hg4, hg5, hg6⟩ := HG.out.box
 obtain ⟨hp0, hp1, hp2, hp3, hp4, hp5, hp6, hp7, hp8, hp9⟩ := HP.out.box
 go_wp2_with fail
 go_at_call 13
 refine (HF1.out A c _ HR1.out).mono ?_
 rintro e w2 ⟨rfl, hw2⟩
 replace HB := lbB HB hw2
 replace HR1 := lbR HR1 hw2
 replace HR3 := lbR HR3 hw2
 replace HG := lbG HG hw2
 replace HP := lbP HP hw2
 clear hw2
 clear hg0 hg1 hg2 hg3 hg4 hg5 hg6 hp0 hp1 hp2 hp3 hp4 hp5 hp6 hp7 hp8 hp9
 obtain ⟨hg0, hg1, hg2, hg3, hg4, hg5, hg6⟩ := HG.out.box
 obtain ⟨hp0, hp1, hp2, hp3, hp4, hp5, hp6, hp7, hp8, hp9⟩ := HP.out.box
 go_wp2_with fail
 go_at_call 14
 refine (HF3.out Ap cp _ HR3.out).mono ?_
 rintro e w3 ⟨rfl, hw3⟩
 replace HB := lbB HB hw3
 replace HR1 := lbR HR1 hw3
 replace HR3 := lbR HR3 hw3
 replace HG := lbG HG hw3
 replace HP := lbP HP hw3
 clear hw3
 clear hg0 hg1 hg2 hg3 hg4 hg5 hg6 hp0 hp1 hp2 hp3 hp4 hp5 hp6 hp7 hp8 hp9
 obtain ⟨hg0, hg1, hg2, hg3, hg4, hg5, hg6⟩ := HG.out.box
 obtain ⟨hp0, hp1, hp2, hp3, hp4, hp5, hp6, hp7, hp8, hp9⟩ := HP.out.box
 go_wp2_with fail
 go_ret
 exact ⟨rfl, HB.out.b⟩
set_option maxHeartbeats 8000000 in
set_option maxRecDepth 100000 in
theorem apps6_n3 (g : Grp) (A : Option Addr) (c : Nat) (p : Prt) (Ap : Option Addr) (cp : Nat) (w : World) (hg : Rd w A c g.l) (hp : Rd w Ap cp p.l) {r1 r3 : Bool} (hf1 : (∀ (A : Option Addr) (c : Nat) (w : World), Rd w A c g.l → Calls Try.prog 13 #[vG g A c] w fun e w' => e = .returned (.bool r1) ∧ Below w.heap.size w w')) (hf3 : (∀ (A : Option Addr) (c : Nat) (w : World), Rd w A c p.l → Calls Try.prog 14 #[vP p A c] w fun e w' => e = .returned (.bool r3) ∧ Below w.heap.size w w')) (x1 : r1 = true) (x3 : r3 = true) (x4 : isG true g = false) :
  Calls Try.prog 6 #[vG g A c, vP p Ap cp] w fun e w' => e = .returned (.bool true) ∧ Below w.heap.size w w' := by
 subst x1
 subst x3
 have J1 := Aside0.mk x4
 clear x4
 have HF1 := Aside0.mk hf1
 have HF3 := Aside0.mk hf3
 obtain ⟨s, hs⟩ : ∃ s, w.heap.size = s := ⟨_, rfl⟩
 have HSs := Aside0.mk hs
 unfold vG vP
 go_enter Try.func6, Try.ntmps6
 have HB := Aside0.mk (Bel.refl w)
 have HR1 := Aside0.mk (hg)
 have HR3 := Aside0.mk (hp)
 clear hf1 hf3 hg hp
 obtain ⟨C1, hC1⟩ : ∃ C, (match Try.f6.body with | some (.seq _ c) => c | _ => .skip) = C := ⟨_, rfl⟩
 have HC1 := Aside0.mk hC1
 simp only [Try.f6] at hC1
 rw [hC1]
 clear hC1
 go_wp2
 replace HB := laB HB (.cells #[.int .i64 g.id, .int .i64 g.fi, .int .i64 g.tm, .int .i64 g.ht, .int .i64 g.hv, .int .i64 g.hc, .slice A g.l.length c] 26)
 replace HR1 := laR HR1 (.cells #[.int .i64 g.id, .int .i64 g.fi, .int .i64 g.tm, .int .i64 g.ht, .int .i64 g.hv, .int .i64 g.hc, .slice A g.l.length c] 26)
 replace HR3 := laR HR3 (.cells #[.int .i64 g.id, .int .i64 g.fi, .int .i64 g.tm, .int .i64 g.ht, .int .i64 g.hv, .int .i64 g.hc, .slice A g.l.length c] 26)
 replace HB := laB HB (.cells #[.int .i64 p.g, .int .i64 p.k, .slice Ap p.l.length cp, .int .i64 p.ht, .int .i64 p.hv, .int .i64 p.hc, .int .i64 p.ix, .int .i64 p.tm, .bool p.mrk, .bool p.hed] 28)
 replace HR1 := laR HR1 (.cells #[.int .i64 p.g, .int .i64 p.k, .slice Ap p.l.length cp, .int .i64 p.ht, .int .i64 p.hv, .int .i64 p.hc, .int .i64 p.ix, .int .i64 p.tm, .bool p.mrk, .bool p.hed] 28)
 replace HR3 := laR HR3 (.cells #[.int .i64 p.g, .int .i64 p.k, .slice Ap p.l.length cp, .int .i64 p.ht, .int .i64 p.hv, .int .i64 p.hc, .int .i64 p.ix, .int .i64 p.tm, .bool p.mrk, .bool p.hed] 28)
 have HG : Aside0 (BlkG g A c s ((w.alloc (.cells #[.int .i64 g.id, .int .i64 g.fi, .int .i64 g.tm, .int .i64 g.ht, .int .i64 g.hv, .int .i64 g.hc, .slice A g.l.length c] 26)).alloc (.cells #[.int .i64 p.g, .int .i64 p.k, .slice Ap p.l.length cp, .int .i64 p.ht, .int .i64 p.hv, .int .i64 p.hc, .int .i64 p.ix, .int .i64 p.tm, .bool p.mrk, .bool p.hed] 28))) := ⟨(by have hq := BlkG.new g A c w; rw [hs] at hq; exact hq.alloc (.cells #[.int .i64 p.g, .int .i64 p.k, .slice Ap p.l.length cp, .int .i64 p.ht, .int .i64 p.hv, .int .i64 p.hc, .int .i64 p.ix, .int .i64 p.tm, .bool p.mrk, .bool p.hed] 28))⟩
 have HP : Aside0 (BlkP p Ap cp (s + 1) ((w.alloc (.cells #[.int .i64 g.id, .int .i64 g.fi, .int .i64 g.tm, .int .i64 g.ht, .int .i64 g.hv, .int .i64 g.hc, .slice A g.l.length c] 26)).alloc (.cells #[.int .i64 p.g, .int .i64 p.k, .slice Ap p.l.length cp, .int .i64 p.ht, .int .i64 p.hv, .int .i64 p.hc, .int .i64 p.ix, .int .i64 p.tm, .bool p.mrk, .bool p.hed] 28))) := ⟨(by have hq := BlkP.new p Ap cp (w.alloc (.cells #[.int .i64 g.id, .int .i64 g.fi, .int .i64 g.tm, .int .i64 g.ht, .int .i64 g.hv, .int .i64 g.hc, .slice A g.l.length c] 26)); rw [World.size_alloc, hs] at hq; exact hq)⟩
 obtain ⟨W0, hW0⟩ : ∃ W, (w.alloc (.cells #[.int .i64 g.id, .int .i64 g.fi, .int .i64 g.tm, .int .i64 g.ht, .int .i64 g.hv, .int .i64 g.hc, .slice A g.l.length c] 26)).alloc (.cells #[.int .i64 p.g, .int .i64 p.k, .slice Ap p.l.length cp, .int .i64 p.ht, .int .i64 p.hv, .int .i64 p.hc, .int .i64 p.ix, .int .i64 p.tm, .bool p.mrk, .bool p.hed] 28) = W := ⟨_, rfl⟩
 rw [hW0] at HB HR1 HR3 HG HP ⊢
 clear hW0
 clear hs
 obtain ⟨hg0, hg1, hg2, hg3, hg4, hg5, hg6⟩ := HG.out.box
 obtain ⟨hp0, hp1, hp2, hp3, hp4, hp5, hp6, hp7, hp8, hp9⟩ := HP.out.box
 have hC1 := HC1.out
 simp only [Try.f6] at hC1
 subst hC1
 clear HC1
 go_wp2_with fail
 go_at_call 12
 refine (known6 _).mono ?_
 rintro e w1 ⟨rfl, hw1⟩
 replace HB := lbB HB hw1
 replace HR1 := lbR HR1 hw1
 replace HR3 := lbR HR3 hw1
 replace HG := lbG HG hw1
 replace HP := lbP HP hw1
 clear hw1
 clear hg0 hg1 hg2 hg3 hg4 hg5 hg6 hp0 hp1 hp2 hp3 hp4 hp5 hp6 hp7 hp8 hp9
 obtain ⟨hg0, hg1, hg2, hg3, hg4, hg5, hg6⟩ := HG.out.box
 obtain ⟨hp0, hp1, hp2, hp3, hp4, hp5, hp6, hp7, hp8, hp9⟩ := HP.out.box
 go_wp2_with fail
 go_at_call 13
 refine (HF1.out A c _ HR1.out).mono ?_
 rintro e w2 ⟨rfl, hw2⟩
 replace HB := lbB HB hw2
 replace HR1 := lbR HR1 hw2
 replace HR3 := lbR HR3 hw2
 replace HG := lbG HG hw2
 replace HP := lbP HP hw2
 clear hw2
 clear hg0 hg1 hg2 hg3 hg4 hg5 hg6 hp0 hp1 hp2 hp3 hp4 hp5 hp6 hp7 hp8 hp9
 obtain ⟨hg0, hg1, hg2, hg3, hg4, hg5, hg6⟩ := HG.out.box
 obtain ⟨hp0, hp1, hp2, hp3, hp4, hp5, hp6, hp7, hp8, hp9⟩ := HP.out.box
 go_wp2_with fail
 go_at_call 14
 refine (HF3.out Ap cp _ HR3.out).mono ?_
 rintro e w3 ⟨rfl, hw3⟩
 replace HB := lbB HB hw3
 replace HR1 := lbR HR1 hw3
 replace HR3 := lbR HR3 hw3
 replace HG := lbG HG hw3
 replace HP := lbP HP hw3
 clear hw3
 clear hg0 hg1 hg2 hg3 hg4 hg5 hg6 hp0 hp1 hp2 hp3 hp4 hp5 hp6 hp7 hp8 hp9
 obtain ⟨hg0, hg1, hg2, hg3, hg4, hg5, hg6⟩ := HG.out.box
 obtain ⟨hp0, hp1, hp2, hp3, hp4, hp5, hp6, hp7, hp8, hp9⟩ := HP.out.box
 go_wp2_with fail
 go_at_call 15
 refine (gis_calls g A c _ HR1.out J1.out).mono ?_
 rintro e w4 ⟨rfl, hw4⟩
 replace HB := lbB HB hw4
 replace HR1 := lbR HR1 hw4
 replace HR3 := lbR HR3 hw4
 replace HG := lbG HG hw4
 replace HP := lbP HP hw4
 clear hw4
 clear hg0 hg1 hg2 hg3 hg4 hg5 hg6 hp0 hp1 hp2 hp3 hp4 hp5 hp6 hp7 hp8 hp9
 obtain ⟨hg0, hg1, hg2, hg3, hg4, hg5, hg6⟩ := HG.out.box
 obtain ⟨hp0, hp1, hp2, hp3, hp4, hp5, hp6, hp7, hp8, hp9⟩ := HP.out.box
 go_wp2_with fail
 go_ret
 exact ⟨rfl, HB.out.b⟩
set_option maxHeartbeats 8000000 in
set_option maxRecDepth 100000 in
theorem apps6_n4 (g : Grp) (A : Option Addr) (c : Nat) (p : Prt) (Ap : Option Addr) (cp : Nat) (w : World) (hg : Rd w A c g.l) (hp : Rd w Ap cp p.l) {r1 r3 : Bool} (hf1 : (∀ (A : Option Addr) (c : Nat) (w : World), Rd w A c g.l → Calls Try.prog 13 #[vG g A c] w fun e w' => e = .returned (.bool r1) ∧ Below w.heap.size w w')) (hf3 : (∀ (A : Option Addr) (c : Nat) (w : World), Rd w A c p.l → Calls Try.prog 14 #[vP p A c] w fun e w' => e = .returned (.bool r3) ∧ Below w.heap.size w w')) (x1 : r1 = true) (x3 : r3 = true) (x4 : isG true g = true) (hk : p.k ≠ 1) :
  Calls Try.prog 6 #[vG g A c, vP p Ap cp] w fun e w' => e = .returned (.bool true) ∧ Below w.heap.size w w' := by
 subst x1
 subst x3
 have J1 := Aside0.mk x4
 have jk : (p.k == 1) = false := beq_eq_false_iff_ne.2 hk
 have jkn : (p.k != 1) = true := by rw [bne, jk]; rfl
 have jkm : (!(p.k == 1)) = true := by rw [jk]; rfl
 clear x4 hk
 have HF1 := Aside0.mk hf1
 have HF3 := Aside0.mk hf3
 obtain ⟨s, hs⟩ : ∃ s, w.heap.size = s := ⟨_, rfl⟩
 have HSs := Aside0.mk hs
 unfold vG vP
 go_enter Try.func6, Try.ntmps6
 have HB := Aside0.mk (Bel.refl w)
 have HR1 := Aside0.mk (hg)
 have HR3 := Aside0.mk (hp)
 clear hf1 hf3 hg hp
 obtain ⟨C1, hC1⟩ : ∃ C, (match Try.f6.body with | some (.seq _ c) => c | _ => .skip) = C := ⟨_, rfl⟩
 have HC1 := Aside0.mk hC1
 simp only [Try.f6] at hC1
 rw [hC1]
 clear hC1
 go_wp2
 replace HB := laB HB (.cells #[.int .i64 g.id, .int .i64 g.fi, .int .i64 g.tm, .int .i64 g.ht, .int .i64 g.hv, .int .i64 g.hc, .slice A g.l.length c] 26)
 replace HR1 := laR HR1 (.cells #[.int .i64 g.id, .int .i64 g.fi, .int .i64 g.tm, .int .i64 g.ht, .int .i64 g.hv, .int .i64 g.hc, .slice A g.l.length c] 26)
 replace HR3 := laR HR3 (.cells #[.int .i64 g.id, .int .i64 g.fi, .int .i64 g.tm, .int .i64 g.ht, .int .i64 g.hv, .int .i64 g.hc, .slice A g.l.length c] 26)
 replace HB := laB HB (.cells #[.int .i64 p.g, .int .i64 p.k, .slice Ap p.l.length cp, .int .i64 p.ht, .int .i64 p.hv, .int .i64 p.hc, .int .i64 p.ix, .int .i64 p.tm, .bool p.mrk, .bool p.hed] 28)
 replace HR1 := laR HR1 (.cells #[.int .i64 p.g, .int .i64 p.k, .slice Ap p.l.length cp, .int .i64 p.ht, .int .i64 p.hv, .int .i64 p.hc, .int .i64 p.ix, .int .i64 p.tm, .bool p.mrk, .bool p.hed] 28)
 replace HR3 := laR HR3 (.cells #[.int .i64 p.g, .int .i64 p.k, .slice Ap p.l.length cp, .int .i64 p.ht, .int .i64 p.hv, .int .i64 p.hc, .int .i64 p.ix, .int .i64 p.tm, .bool p.mrk, .bool p.hed] 28)
 have HG : Aside0 (BlkG g A c s ((w.alloc (.cells #[.int .i64 g.id, .int .i64 g.fi, .int .i64 g.tm, .int .i64 g.ht, .int .i64 g.hv, .int .i64 g.hc, .slice A g.l.length c] 26)).alloc (.cells #[.int .i64 p.g, .int .i64 p.k, .slice Ap p.l.length cp, .int .i64 p.ht, .int .i64 p.hv, .int .i64 p.hc, .int .i64 p.ix, .int .i64 p.tm, .bool p.mrk, .bool p.hed] 28))) := ⟨(by have hq := BlkG.new g A c w; rw [hs] at hq; exact hq.alloc (.cells #[.int .i64 p.g, .int .i64 p.k, .slice Ap p.l.length cp, .int .i64 p.ht, .int .i64 p.hv, .int .i64 p.hc, .int .i64 p.ix, .int .i64 p.tm, .bool p.mrk, .bool p.hed] 28))⟩
 have HP : Aside0 (BlkP p Ap cp (s + 1) ((w.alloc (.cells #[.int .i64 g.id, .int .i64 g.fi, .int .i64 g.tm, .int .i64 g.ht, .int .i64 g.hv, .int .i64 g.hc, .slice A g.l.length c] 26)).alloc (.cells #[.int .i64 p.g, .int .i64 p.k, .slice Ap p.l.length cp, .int .i64 p.ht, .int .i64 p.hv, .int .i64 p.hc, .int .i64 p.ix, .int .i64 p.tm, .bool p.mrk, .bool p.hed] 28))) := ⟨(by have hq := BlkP.new p Ap cp (w.alloc (.cells #[.int .i64 g.id, .int .i64 g.fi, .int .i64 g.tm, .int .i64 g.ht, .int .i64 g.hv, .int .i64 g.hc, .slice A g.l.length c] 26)); rw [World.size_alloc, hs] at hq; exact hq)⟩
 obtain ⟨W0, hW0⟩ : ∃ W, (w.alloc (.cells #[.int .i64 g.id, .int .i64 g.fi, .int .i64 g.tm, .int .i64 g.ht, .int .i64 g.hv, .int .i64 g.hc, .slice A g.l.length c] 26)).alloc (.cells #[.int .i64 p.g, .int .i64 p.k, .slice Ap p.l.length cp, .int .i64 p.ht, .int .i64 p.hv, .int .i64 p.hc, .int .i64 p.ix, .int .i64 p.tm, .bool p.mrk, .bool p.hed] 28) = W := ⟨_, rfl⟩
 rw [hW0] at HB HR1 HR3 HG HP ⊢
 clear hW0
 clear hs
 obtain ⟨hg0, hg1, hg2, hg3, hg4, hg5, hg6⟩ := HG.out.box
 obtain ⟨hp0, hp1, hp2, hp3, hp4, hp5, hp6, hp7, hp8, hp9⟩ := HP.out.box
 have hC1 := HC1.out
 simp only [Try.f6] at hC1
 subst hC1
 clear HC1
 go_wp2_with fail
 go_at_call 12
 refine (known6 _).mono ?_
 rintro e w1 ⟨rfl, hw1⟩
 replace HB := lbB HB hw1
 replace HR1 := lbR HR1 hw1
 replace HR3 := lbR HR3 hw1
 replace HG := lbG HG hw1
 replace HP := lbP HP hw1
 clear hw1
 clear hg0 hg1 hg2 hg3 hg4 hg5 hg6 hp0 hp1 hp2 hp3 hp4 hp5 hp6 hp7 hp8 hp9
 obtain ⟨hg0, hg1, hg2, hg3, hg4, hg5, hg6⟩ := HG.out.box
 obtain ⟨hp0, hp1, hp2, hp3, hp4, hp5, hp6, hp7, hp8, hp9⟩ := HP.out.box
 go_wp2_with fail
 go_at_call 13
 refine (HF1.out A c _ HR1.out).mono ?_
 rintro e w2 ⟨rfl, hw2⟩
 replace HB := lbB HB hw2
 replace HR1 := lbR HR1 hw2
 replace HR3 := lbR HR3 hw2
 replace HG := lbG HG hw2
 replace HP := lbP HP hw2
 clear hw2
 clear hg0 hg1 hg2 hg3 hg4 hg5 hg6 hp0 hp1 hp2 hp3 hp4 hp5 hp6 hp7 hp8 hp9
 obtain ⟨hg0, hg1, hg2, hg3, hg4, hg5, hg6⟩ := HG.out.box
 obtain ⟨hp0, hp1, hp2, hp3, hp4, hp5, hp6, hp7, hp8, hp9⟩ := HP.out.box
 go_wp2_with fail
 go_at_call 14
 refine (HF3.out Ap cp _ HR3.out).mono ?_
 rintro e w3 ⟨rfl, hw3⟩
 replace HB := lbB HB hw3
 replace HR1 := lbR HR1 hw3
 replace HR3 := lbR HR3 hw3
 replace HG := lbG HG hw3
 replace HP := lbP HP hw3
 clear hw3
 clear hg0 hg1 hg2 hg3 hg4 hg5 hg6 hp0 hp1 hp2 hp3 hp4 hp5 hp6 hp7 hp8 hp9
 obtain ⟨hg0, hg1, hg2, hg3, hg4, hg5, hg6⟩ := HG.out.box
 obtain ⟨hp0, hp1, hp2, hp3, hp4, hp5, hp6, hp7, hp8, hp9⟩ := HP.out.box
 go_wp2_with fail
 go_at_call 15
 refine (gis_calls g A c _ HR1.out J1.out).mono ?_
 rintro e w4 ⟨rfl, hw4⟩
 replace HB := lbB HB hw4
 replace HR1 := lbR HR1 hw4
 replace HR3 := lbR HR3 hw4
 replace HG := lbG HG hw4
 replace HP := lbP HP hw4
 clear hw4
 clear hg0 hg1 hg2 hg3 hg4 hg5 hg6 hp0 hp1 hp2 hp3 hp4 hp5 hp6 hp7 hp8 hp9
 obtain ⟨hg0, hg1, hg2, hg3, hg4, hg5, hg6⟩ := HG.out.box
 obtain ⟨hp0, hp1, hp2, hp3, hp4, hp5, hp6, hp7, hp8, hp9⟩ := HP.out.box
 go_wp2_with fail
 go_ret
 exact ⟨rfl, HB.out.b⟩
set_option maxHeartbeats 8000000 in
set_option maxRecDepth 100000 in
theorem apps6_v (g : Grp) (A : Option Addr) (c : Nat) (p : Prt) (Ap : Option Addr) (cp : Nat) (w : World) (hg : Rd w A c g.l) (hp : Rd w Ap cp p.l) {r1 r3 : Bool} (hf1 : (∀ (A : Option Addr) (c : Nat) (w : World), Rd w A c g.l → Calls Try.prog 13 #[vG g A c] w fun e w' => e = .returned (.bool r1) ∧ Below w.heap.size w w')) (hf3 : (∀ (A : Option Addr) (c : Nat) (w : World), Rd w A c p.l → Calls Try.prog 14 #[vP p A c] w fun e w' => e = .returned (.bool r3) ∧ Below w.heap.size w w')) (x1 : r1 = true) (x3 : r3 = true) (x4 : isG true g = true) (hk : p.k = 1) (hl : g.l.length + p.l.length ≤ 4398046511104) (v : Int) (x5 : chwG g p = v) (hv : v ≠ 0) :
  Calls Try.prog 6 #[vG g A c, vP p Ap cp] w fun e w' => e = .returned (.bool true) ∧ Below w.heap.size w w' := by
 subst x1
 subst x3
 have J1 := Aside0.mk x4
 have J6 := Aside0.mk hl
 obtain ⟨X, hX⟩ : ∃ X, dwG g p = X := ⟨_, rfl⟩
 have J7 := Aside0.mk hX
 have jk : (p.k == 1) = true := beq_iff_eq.2 hk
 have jkn : (p.k != 1) = false := by rw [bne, jk]; rfl
 have jkm : (!(p.k == 1)) = false := by rw [jk]; rfl
 have jv : (v == 0) = false := beq_eq_false_iff_ne.2 hv
 have jvn : (v != 0) = true := by rw [bne, jv]; rfl
 have jvm : (!(v == 0)) = true := by rw [jv]; rfl
 have J8 := Aside0.mk x5
 clear x4 hk hl x5 hv hX
 have HF1 := Aside0.mk hf1
 have HF3 := Aside0.mk hf3
 obtain ⟨s, hs⟩ : ∃ s, w.heap.size = s := ⟨_, rfl⟩
 have HSs := Aside0.mk hs
 unfold vG vP
 go_enter Try.func6, Try.ntmps6
 have HB := Aside0.mk (Bel.refl w)
 have HR1 := Aside0.mk (hg)
 have HR3 := Aside0.mk (hp)
 clear hf1 hf3 hg hp
 obtain ⟨C1, hC1⟩ : ∃ C, (match Try.f6.body with | some (.seq _ c) => c | _ => .skip) = C := ⟨_, rfl⟩
 have HC1 := Aside0.mk hC1
 simp only [Try.f6] at hC1
 rw [hC1]
 clear hC1
 go_wp2
 replace HB := laB HB (.cells #[.int .i64 g.id, .int .i64 g.fi, .int .i64 g.tm, .int .i64 g.ht, .int .i64 g.hv, .int .i64 g.hc, .slice A g.l.length c] 26)
 replace HR1 := laR HR1 (.cells #[.int .i64 g.id, .int .i64 g.fi, .int .i64 g.tm, .int .i64 g.ht, .int .i64 g.hv, .int .i64 g.hc, .slice A g.l.length c] 26)
 replace HR3 := laR HR3 (.cells #[.int .i64 g.id, .int .i64 g.fi, .int .i64 g.tm, .int .i64 g.ht, .int .i64 g.hv, .int .i64 g.hc, .slice A g.l.length c] 26)
 replace HB := laB HB (.cells #[.int .i64 p.g, .int .i64 p.k, .slice Ap p.l.length cp, .int .i64 p.ht, .int .i64 p.hv, .int .i64 p.hc, .int .i64 p.ix, .int .i64 p.tm, .bool p.mrk, .bool p.hed] 28)
 replace HR1 := laR HR1 (.cells #[.int .i64 p.g, .int .i64 p.k, .slice Ap p.l.length cp, .int .i64 p.ht, .int .i64 p.hv, .int .i64 p.hc, .int .i64 p.ix, .int .i64 p.tm, .bool p.mrk, .bool p.hed] 28)
 replace HR3 := laR HR3 (.cells #[.int .i64 p.g, .int .i64 p.k, .slice Ap p.l.length cp, .int .i64 p.ht, .int .i64 p.hv, .int .i64 p.hc, .int .i64 p.ix, .int .i64 p.tm, .bool p.mrk, .bool p.hed] 28)
 have HG : Aside0 (BlkG g A c s ((w.alloc (.cells #[.int .i64 g.id, .int .i64 g.fi, .int .i64 g.tm, .int .i64 g.ht, .int .i64 g.hv, .int .i64 g.hc, .slice A g.l.length c] 26)).alloc (.cells #[.int .i64 p.g, .int .i64 p.k, .slice Ap p.l.length cp, .int .i64 p.ht, .int .i64 p.hv, .int .i64 p.hc, .int .i64 p.ix, .int .i64 p.tm, .bool p.mrk, .bool p.hed] 28))) := ⟨(by have hq := BlkG.new g A c w; rw [hs] at hq; exact hq.alloc (.cells #[.int .i64 p.g, .int .i64 p.k, .slice Ap p.l.length cp, .int .i64 p.ht, .int .i64 p.hv, .int .i64 p.hc, .int .i64 p.ix, .int .i64 p.tm, .bool p.mrk, .bool p.hed] 28))⟩
 have HP : Aside0 (BlkP p Ap cp (s + 1) ((w.alloc (.cells #[.int .i64 g.id, .int .i64 g.fi, .int .i64 g.tm, .int .i64 g.ht, .int .i64 g.hv, .int .i64 g.hc, .slice A g.l.length c] 26)).alloc (.cells #[.int .i64 p.g, .int .i64 p.k, .slice Ap p.l.length cp, .int .i64 p.ht, .int .i64 p.hv, .int .i64 p.hc, .int .i64 p.ix, .int .i64 p.tm, .bool p.mrk, .bool p.hed] 28))) := ⟨(by have hq := BlkP.new p Ap cp (w.alloc (.cells #[.int .i64 g.id, .int .i64 g.fi, .int .i64 g.tm, .int .i64 g.ht, .int .i64 g.hv, .int .i64 g.hc, .slice A g.l.length c] 26)); rw [World.size_alloc, hs] at hq; exact hq)⟩
 obtain ⟨W0, hW0⟩ : ∃ W, (w.alloc (.cells #[.int .i64 g.id, .int .i64 g.fi, .int .i64 g.tm, .int .i64 g.ht, .int .i64 g.hv, .int .i64 g.hc, .slice A g.l.length c] 26)).alloc (.cells #[.int .i64 p.g, .int .i64 p.k, .slice Ap p.l.length cp, .int .i64 p.ht, .int .i64 p.hv, .int .i64 p.hc, .int .i64 p.ix, .int .i64 p.tm, .bool p.mrk, .bool p.hed] 28) = W := ⟨_, rfl⟩
 rw [hW0] at HB HR1 HR3 HG HP ⊢
 clear hW0
 clear hs
 obtain ⟨hg0, hg1, hg2, hg3, hg4, hg5, hg6⟩ := HG.out.box
 obtain ⟨hp0, hp1, hp2, hp3, hp4, hp5, hp6, hp7, hp8, hp9⟩ := HP.out.box
 have hC1 := HC1.out
 simp only [Try.f6] at hC1
 subst hC1
 clear HC1
 obtain ⟨C6, hC6⟩ : ∃ C, (match Try.f6.body with | some (.seq _ (.seq _ (.seq _ (.seq _ c)))) => c | _ => .skip) = C := ⟨_, rfl⟩
 have HC6 := Aside0.mk hC6
 simp only [Try.f6] at hC6
 rw [hC6]
 clear hC6
 go_wp2_with fail
 go_at_call 12
 refine (known6 _).mono ?_
 rintro e w1 ⟨rfl, hw1⟩
 replace HB := lbB HB hw1
 replace HR1 := lbR HR1 hw1
 replace HR3 := lbR HR3 hw1
 replace HG := lbG HG hw1
 replace HP := lbP HP hw1
 clear hw1
 clear hg0 hg1 hg2 hg3 hg4 hg5 hg6 hp0 hp1 hp2 hp3 hp4 hp5 hp6 hp7 hp8 hp9
 obtain ⟨hg0, hg1, hg2, hg3, hg4, hg5, hg6⟩ := HG.out.box
 obtain ⟨hp0, hp1, hp2, hp3, hp4, hp5, hp6, hp7, hp8, hp9⟩ := HP.out.box
 go_wp2_with fail
 go_at_call 13
 refine (HF1.out A c _ HR1.out).mono ?_
 rintro e w2 ⟨rfl, hw2⟩
 replace HB := lbB HB hw2
 replace HR1 := lbR HR1 hw2
 replace HR3 := lbR HR3 hw2
 replace HG := lbG HG hw2
 replace HP := lbP HP hw2
 clear hw2
 clear hg0 hg1 hg2 hg3 hg4 hg5 hg6 hp0 hp1 hp2 hp3 hp4 hp5 hp6 hp7 hp8 hp9
 obtain ⟨hg0, hg1, hg2, hg3, hg4, hg5, hg6⟩ := HG.out.box
 obtain ⟨hp0, hp1, hp2, hp3, hp4, hp5, hp6, hp7, hp8, hp9⟩ := HP.out.box
 go_wp2_with fail
 go_at_call 14
 refine (HF3.out Ap cp _ HR3.out).mono ?_
 rintro e w3 ⟨rfl, hw3⟩
 replace HB := lbB HB hw3
 replace HR1 := lbR HR1 hw3
 replace HR3 := lbR HR3 hw3
 replace HG := lbG HG hw3
 replace HP := lbP HP hw3
 clear hw3
 clear hg0 hg1 hg2 hg3 hg4 hg5 hg6 hp0 hp1 hp2 hp3 hp4 hp5 hp6 hp7 hp8 hp9
 obtain ⟨hg0, hg1, hg2, hg3, hg4, hg5, hg6⟩ := HG.out.box
 obtain ⟨hp0, hp1, hp2, hp3, hp4, hp5, hp6, hp7, hp8, hp9⟩ := HP.out.box
 go_wp2_with fail
 go_at_call 15
 refine (gis_calls g A c _ HR1.out J1.out).mono ?_
 rintro e w4 ⟨rfl, hw4⟩
 replace HB := lbB HB hw4
 replace HR1 := lbR HR1 hw4
 replace HR3 := lbR HR3 hw4
 replace HG := lbG HG hw4
 replace HP := lbP HP hw4
 clear hw4
 clear hg0 hg1 hg2 hg3 hg4 hg5 hg6 hp0 hp1 hp2 hp3 hp4 hp5 hp6 hp7 hp8 hp9
 obtain ⟨hg0, hg1, hg2, hg3, hg4, hg5, hg6⟩ := HG.out.box
 obtain ⟨hp0, hp1, hp2, hp3, hp4, hp5, hp6, hp7, hp8, hp9⟩ := HP.out.box
 go_wp2_with fail
 go_at_call 22
 refine (gdo_calls g A c p Ap cp _ HR1.out HR3.out J6.out J7.out J8.out).mono ?_
 rintro e w5 ⟨A3, c3, rfl, hrd, hw5⟩
 replace HB := lbB HB hw5
 replace HR1 := lbR HR1 hw5
 replace HR3 := lbR HR3 hw5
 replace HG := lbG HG hw5
 replace HP := lbP HP hw5
 have HR4 := Aside0.mk (hrd)
 clear hrd
 clear hw5
 clear hg0 hg1 hg2 hg3 hg4 hg5 hg6 hp0 hp1 hp2 hp3 hp4 hp5 hp6 hp7 hp8 hp9
 obtain ⟨hg0, hg1, hg2, hg3, hg4, hg5, hg6⟩ := HG.out.box
 obtain ⟨hp0, hp1, hp2, hp3, hp4, hp5, hp6, hp7, hp8, hp9⟩ := HP.out.box
 obtain ⟨n8, hn8⟩ : ∃ n, w5.heap.size = n := ⟨_, rfl⟩
 have HSn8 := Aside0.mk hn8
 go_wp2_with fail
 clear hg0 hg1 hg2 hg3 hg4 hg5 hg6 hp0 hp1 hp2 hp3 hp4 hp5 hp6 hp7 hp8 hp9
 replace HB := laB HB (.cells #[.int .i64 X.id, .int .i64 X.fi, .int .i64 X.tm, .int .i64 X.ht, .int .i64 X.hv, .int .i64 X.hc, .slice A3 X.l.length c3] 26)
 replace HR1 := laR HR1 (.cells #[.int .i64 X.id, .int .i64 X.fi, .int .i64 X.tm, .int .i64 X.ht, .int .i64 X.hv, .int .i64 X.hc, .slice A3 X.l.length c3] 26)
 replace HR3 := laR HR3 (.cells #[.int .i64 X.id, .int .i64 X.fi, .int .i64 X.tm, .int .i64 X.ht, .int .i64 X.hv, .int .i64 X.hc, .slice A3 X.l.length c3] 26)
 replace HG := laG HG (.cells #[.int .i64 X.id, .int .i64 X.fi, .int .i64 X.tm, .int .i64 X.ht, .int .i64 X.hv, .int .i64 X.hc, .slice A3 X.l.length c3] 26)
 replace HP := laP HP (.cells #[.int .i64 X.id, .int .i64 X.fi, .int .i64 X.tm, .int .i64 X.ht, .int .i64 X.hv, .int .i64 X.hc, .slice A3 X.l.length c3] 26)
 replace HR4 := laR HR4 (.cells #[.int .i64 X.id, .int .i64 X.fi, .int .i64 X.tm, .int .i64 X.ht, .int .i64 X.hv, .int .i64 X.hc, .slice A3 X.l.length c3] 26)
 have HX : Aside0 (BlkG X A3 c3 n8 (w5.alloc (.cells #[.int .i64 X.id, .int .i64 X.fi, .int .i64 X.tm, .int .i64 X.ht, .int .i64 X.hv, .int .i64 X.hc, .slice A3 X.l.length c3] 26))) := ⟨(by have hq := BlkG.new X A3 c3 w5; rw [HSn8.out] at hq; exact hq : BlkG X A3 c3 n8 (w5.alloc (.cells #[.int .i64 X.id, .int .i64 X.fi, .int .i64 X.tm, .int .i64 X.ht, .int .i64 X.hv, .int .i64 X.hc, .slice A3 X.l.length c3] 26)))⟩
 obtain ⟨W1, hW1⟩ : ∃ W, w5.alloc (.cells #[.int .i64 X.id, .int .i64 X.fi, .int .i64 X.tm, .int .i64 X.ht, .int .i64 X.hv, .int .i64 X.hc, .slice A3 X.l.length c3] 26) = W := ⟨_, rfl⟩
 rw [hW1] at HB HR1 HR3 HG HP HR4 HX ⊢
 clear hW1
 clear hn8
 obtain ⟨hg0, hg1, hg2, hg3, hg4, hg5, hg6⟩ := HG.out.box
 obtain ⟨hp0, hp1, hp2, hp3, hp4, hp5, hp6, hp7, hp8, hp9⟩ := HP.out.box
 obtain ⟨hx0, hx1, hx2, hx3, hx4, hx5, hx6⟩ := HX.out.box
 have hC6 := HC6.out
 simp only [Try.f6] at hC6
 subst hC6
 clear HC6
 go_wp2_with fail
 go_ret
 exact ⟨rfl, HB.out.b⟩
set_option maxHeartbeats 8000000 in
set_option maxRecDepth 100000 in
theorem apps6_z (g : Grp) (A : Option Addr) (c : Nat) (p : Prt) (Ap : Option Addr) (cp : Nat) (w : World) (hg : Rd w A c g.l) (hp : Rd w Ap cp p.l) {r1 r3 : Bool} (hf1 : (∀ (A : Option Addr) (c : Nat) (w : World), Rd w A c g.l → Calls Try.prog 13 #[vG g A c] w fun e w' => e = .returned (.bool r1) ∧ Below w.heap.size w w')) (hf3 : (∀ (A : Option Addr) (c : Nat) (w : World), Rd w A c p.l → Calls Try.prog 14 #[vP p A c] w fun e w' => e = .returned (.bool r3) ∧ Below w.heap.size w w')) (x1 : r1 = true) (x3 : r3 = true) (x4 : isG true g = true) (hk : p.k = 1) (hl : g.l.length + p.l.length ≤ 4398046511104) (x5 : chwG g p = 0) :
  Calls Try.prog 6 #[vG g A c, vP p Ap cp] w fun e w' => e = .returned (.bool true) ∧ Below w.heap.size w w' := by
 subst x1
 subst x3
 have J1 := Aside0.mk x4
 have J6 := Aside0.mk hl
 obtain ⟨X, hX⟩ : ∃ X, dwG g p = X := ⟨_, rfl⟩
 have J7 := Aside0.mk hX
 have jk : (p.k == 1) = true := beq_iff_eq.2 hk
 have jkn : (p.k != 1) = false := by rw [bne, jk]; rfl
 have jkm : (!(p.k == 1)) = false := by rw [jk]; rfl
 have J8 := Aside0.mk x5
 have hc : chkG g p = 0 := by rw [← chw_chk x4]; exact x5
 have h1 := app_at x4 hc hk
 obtain ⟨F, hF⟩ : ∃ F, (el p.l 0).f0 = F := ⟨_, rfl⟩
 have h2 := do_dense x4 p
 obtain ⟨M, LV, a1, a2, a3, a4, a5⟩ := app_reads x4 hc hk
 rw [hX] at h2 a1 a3 a4
 rw [hF] at a2 a3 a4 a5 h1
 have JF := Aside0.mk hF
 have JD := Aside0.mk h2
 have JL := Aside0.mk a1
 have JE1 := Aside0.mk a3
 have JE2 := Aside0.mk a4
 have JE3 := Aside0.mk a5
 have HNE := Aside0.mk h1.2.2.1
 have hfi := isG_fi x4
 have JH : Aside0 (LV + 1 ≤ 9223372036854775807) := ⟨by omega⟩
 have JF2 : Aside0 (F ≤ 9223372036854775807) := ⟨by omega⟩
 have JS1 : Aside0 (sameP ⟨0, 0, p.l, 0, 0, 0, 0, 0, false, false⟩ ⟨0, 0, p.l, 0, 0, 0, 0, 0, false, false⟩ = true) := ⟨sameP_iff.2 rfl⟩
 have JS2 : Aside0 (sameP ⟨0, 0, M, 0, 0, 0, 0, 0, false, false⟩ ⟨0, 0, M, 0, 0, 0, 0, 0, false, false⟩ = true) := ⟨sameP_iff.2 rfl⟩
 have hw1 : IntKind.i64.wrap (LV + 1) = LV + 1 := by rw [i64_w]; unfold wrap64; omega
 have hw2 : IntKind.i64.wrap (F + (p.l.length : Int)) = F + (p.l.length : Int) := by rw [i64_w]; unfold wrap64; omega
 have hw3 : IntKind.i64.wrap (F + (p.l.length : Int) - 1) = F + (p.l.length : Int) - 1 := by rw [i64_w]; unfold wrap64; omega
 have jl : (LV == F + (p.l.length : Int) - 1) = true := beq_iff_eq.2 a2
 have jp : (((p.l.length : Int)) == 0) = false := beq_eq_false_iff_ne.2 (by omega)
 obtain ⟨ad, rfl, _⟩ := hp.at_ h1.2.2.1
 clear x4 hk hl x5 hX hc h1 hF h2 a1 a2 a3 a4 a5 hfi
 have HF1 := Aside0.mk hf1
 have HF3 := Aside0.mk hf3
 obtain ⟨s, hs⟩ : ∃ s, w.heap.size = s := ⟨_, rfl⟩
 have HSs := Aside0.mk hs
 unfold vG vP
 go_enter Try.func6, Try.ntmps6
 have HB := Aside0.mk (Bel.refl w)
 have HR1 := Aside0.mk (hg)
 have HR3 := Aside0.mk (hp)
 clear hf1 hf3 hg hp
 obtain ⟨C1, hC1⟩ : ∃ C, (match Try.f6.body with | some (.seq _ c) => c | _ => .skip) = C := ⟨_, rfl⟩
 have HC1 := Aside0.mk hC1
 simp only [Try.f6] at hC1
 rw [hC1]
 clear hC1
 go_wp2
 replace HB := laB HB (.cells #[.int .i64 g.id, .int .i64 g.fi, .int .i64 g.tm, .int .i64 g.ht, .int .i64 g.hv, .int .i64 g.hc, .slice A g.l.length c] 26)
 replace HR1 := laR HR1 (.cells #[.int .i64 g.id, .int .i64 g.fi, .int .i64 g.tm, .int .i64 g.ht, .int .i64 g.hv, .int .i64 g.hc, .slice A g.l.length c] 26)
 replace HR3 := laR HR3 (.cells #[.int .i64 g.id, .int .i64 g.fi, .int .i64 g.tm, .int .i64 g.ht, .int .i64 g.hv, .int .i64 g.hc, .slice A g.l.length c] 26)
 replace HB := laB HB (.cells #[.int .i64 p.g, .int .i64 p.k, .slice (some ad) p.l.length cp, .int .i64 p.ht, .int .i64 p.hv, .int .i64 p.hc, .int .i64 p.ix, .int .i64 p.tm, .bool p.mrk, .bool p.hed] 28)
 replace HR1 := laR HR1 (.cells #[.int .i64 p.g, .int .i64 p.k, .slice (some ad) p.l.length cp, .int .i64 p.ht, .int .i64 p.hv, .int .i64 p.hc, .int .i64 p.ix, .int .i64 p.tm, .bool p.mrk, .bool p.hed] 28)
 replace HR3 := laR HR3 (.cells #[.int .i64 p.g, .int .i64 p.k, .slice (some ad) p.l.length cp, .int .i64 p.ht, .int .i64 p.hv, .int .i64 p.hc, .int .i64 p.ix, .int .i64 p.tm, .bool p.mrk, .bool p.hed] 28)
 have HG : Aside0 (BlkG g A c s ((w.alloc (.cells #[.int .i64 g.id, .int .i64 g.fi, .int .i64 g.tm, .int .i64 g.ht, .int .i64 g.hv, .int .i64 g.hc, .slice A g.l.length c] 26)).alloc (.cells #[.int .i64 p.g, .int .i64 p.k, .slice (some ad) p.l.length cp, .int .i64 p.ht, .int .i64 p.hv, .int .i64 p.hc, .int .i64 p.ix, .int .i64 p.tm, .bool p.mrk, .bool p.hed] 28))) := ⟨(by have hq := BlkG.new g A c w; rw [hs] at hq; exact hq.alloc (.cells #[.int .i64 p.g, .int .i64 p.k, .slice (some ad) p.l.length cp, .int .i64 p.ht, .int .i64 p.hv, .int .i64 p.hc, .int .i64 p.ix, .int .i64 p.tm, .bool p.mrk, .bool p.hed] 28))⟩
 have HP : Aside0 (BlkP p (some ad) cp (s + 1) ((w.alloc (.cells #[.int .i64 g.id, .int .i64 g.fi, .int .i64 g.tm, .int .i64 g.ht, .int .i64 g.hv, .int .i64 g.hc, .slice A g.l.length c] 26)).alloc (.cells #[.int .i64 p.g, .int .i64 p.k, .slice (some ad) p.l.length cp, .int .i64 p.ht, .int .i64 p.hv, .int .i64 p.hc, .int .i64 p.ix, .int .i64 p.tm, .bool p.mrk, .bool p.hed] 28))) := ⟨(by have hq := BlkP.new p (some ad) cp (w.alloc (.cells #[.int .i64 g.id, .int .i64 g.fi, .int .i64 g.tm, .int .i64 g.ht, .int .i64 g.hv, .int .i64 g.hc, .slice A g.l.length c] 26)); rw [World.size_alloc, hs] at hq; exact hq)⟩
 obtain ⟨W0, hW0⟩ : ∃ W, (w.alloc (.cells #[.int .i64 g.id, .int .i64 g.fi, .int .i64 g.tm, .int .i64 g.ht, .int .i64 g.hv, .int .i64 g.hc, .slice A g.l.length c] 26)).alloc (.cells #[.int .i64 p.g, .int .i64 p.k, .slice (some ad) p.l.length cp, .int .i64 p.ht, .int .i64 p.hv, .int .i64 p.hc, .int .i64 p.ix, .int .i64 p.tm, .bool p.mrk, .bool p.hed] 28) = W := ⟨_, rfl⟩
 rw [hW0] at HB HR1 HR3 HG HP ⊢
 clear hW0
 clear hs
 obtain ⟨hg0, hg1, hg2, hg3, hg4, hg5, hg6⟩ := HG.out.box
 obtain ⟨hp0, hp1, hp2, hp3, hp4, hp5, hp6, hp7, hp8, hp9⟩ := HP.out.box
 have hC1 := HC1.out
 simp only [Try.f6] at hC1
 subst hC1
 clear HC1
 obtain ⟨C6, hC6⟩ : ∃ C, (match Try.f6.body with | some (.seq _ (.seq _ (.seq _ (.seq _ c)))) => c | _ => .skip) = C := ⟨_, rfl⟩
 have HC6 := Aside0.mk hC6
 simp only [Try.f6] at hC6
 rw [hC6]
 clear hC6
 go_wp2_with fail
 go_at_call 12
 refine (known6 _).mono ?_
 rintro e w1 ⟨rfl, hw1⟩
 replace HB := lbB HB hw1
 replace HR1 := lbR HR1 hw1
 replace HR3 := lbR HR3 hw1
 replace HG := lbG HG hw1
 replace HP := lbP HP hw1
 clear hw1
 clear hg0 hg1 hg2 hg3 hg4 hg5 hg6 hp0 hp1 hp2 hp3 hp4 hp5 hp6 hp7 hp8 hp9
 obtain ⟨hg0, hg1, hg2, hg3, hg4, hg5, hg6⟩ := HG.out.box
 obtain ⟨hp0, hp1, hp2, hp3, hp4, hp5, hp6, hp7, hp8, hp9⟩ := HP.out.box
 go_wp2_with fail
 go_at_call 13
 refine (HF1.out A c _ HR1.out).mono ?_
 rintro e w2 ⟨rfl, hw2⟩
 replace HB := lbB HB hw2
 replace HR1 := lbR HR1 hw2
 replace HR3 := lbR HR3 hw2
 replace HG := lbG HG hw2
 replace HP := lbP HP hw2
 clear hw2
 clear hg0 hg1 hg2 hg3 hg4 hg5 hg6 hp0 hp1 hp2 hp3 hp4 hp5 hp6 hp7 hp8 hp9
 obtain ⟨hg0, hg1, hg2, hg3, hg4, hg5, hg6⟩ := HG.out.box
 obtain ⟨hp0, hp1, hp2, hp3, hp4, hp5, hp6, hp7, hp8, hp9⟩ := HP.out.box
 go_wp2_with fail
 go_at_call 14
 refine (HF3.out (some ad) cp _ HR3.out).mono ?_
 rintro e w3 ⟨rfl, hw3⟩
 replace HB := lbB HB hw3
 replace HR1 := lbR HR1 hw3
 replace HR3 := lbR HR3 hw3
 replace HG := lbG HG hw3
 replace HP := lbP HP hw3
 clear hw3
 clear hg0 hg1 hg2 hg3 hg4 hg5 hg6 hp0 hp1 hp2 hp3 hp4 hp5 hp6 hp7 hp8 hp9
 obtain ⟨hg0, hg1, hg2, hg3, hg4, hg5, hg6⟩ := HG.out.box
 obtain ⟨hp0, hp1, hp2, hp3, hp4, hp5, hp6, hp7, hp8, hp9⟩ := HP.out.box
 go_wp2_with fail
 go_at_call 15
 refine (gis_calls g A c _ HR1.out J1.out).mono ?_
 rintro e w4 ⟨rfl, hw4⟩
 replace HB := lbB HB hw4
 replace HR1 := lbR HR1 hw4
 replace HR3 := lbR HR3 hw4
 replace HG := lbG HG hw4
 replace HP := lbP HP hw4
 clear hw4
 clear hg0 hg1 hg2 hg3 hg4 hg5 hg6 hp0 hp1 hp2 hp3 hp4 hp5 hp6 hp7 hp8 hp9
 obtain ⟨hg0, hg1, hg2, hg3, hg4, hg5, hg6⟩ := HG.out.box
 obtain ⟨hp0, hp1, hp2, hp3, hp4, hp5, hp6, hp7, hp8, hp9⟩ := HP.out.box
 go_wp2_with fail
 go_at_call 22
 refine (gdo_calls g A c p (some ad) cp _ HR1.out HR3.out J6.out J7.out J8.out).mono ?_
 rintro e w5 ⟨A3, c3, rfl, hrd, hw5⟩
 replace HB := lbB HB hw5
 replace HR1 := lbR HR1 hw5
 replace HR3 := lbR HR3 hw5
 replace HG := lbG HG hw5
 replace HP := lbP HP hw5
 have HR4 := Aside0.mk (hrd)
 clear hrd
 clear hw5
 clear hg0 hg1 hg2 hg3 hg4 hg5 hg6 hp0 hp1 hp2 hp3 hp4 hp5 hp6 hp7 hp8 hp9
 obtain ⟨hg0, hg1, hg2, hg3, hg4, hg5, hg6⟩ := HG.out.box
 obtain ⟨hp0, hp1, hp2, hp3, hp4, hp5, hp6, hp7, hp8, hp9⟩ := HP.out.box
 obtain ⟨n8, hn8⟩ : ∃ n, w5.heap.size = n := ⟨_, rfl⟩
 have HSn8 := Aside0.mk hn8
 go_wp2_with fail
 clear hg0 hg1 hg2 hg3 hg4 hg5 hg6 hp0 hp1 hp2 hp3 hp4 hp5 hp6 hp7 hp8 hp9
 replace HB := laB HB (.cells #[.int .i64 X.id, .int .i64 X.fi, .int .i64 X.tm, .int .i64 X.ht, .int .i64 X.hv, .int .i64 X.hc, .slice A3 X.l.length c3] 26)
 replace HR1 := laR HR1 (.cells #[.int .i64 X.id, .int .i64 X.fi, .int .i64 X.tm, .int .i64 X.ht, .int .i64 X.hv, .int .i64 X.hc, .slice A3 X.l.length c3] 26)
 replace HR3 := laR HR3 (.cells #[.int .i64 X.id, .int .i64 X.fi, .int .i64 X.tm, .int .i64 X.ht, .int .i64 X.hv, .int .i64 X.hc, .slice A3 X.l.length c3] 26)
 replace HG := laG HG (.cells #[.int .i64 X.id, .int .i64 X.fi, .int .i64 X.tm, .int .i64 X.ht, .int .i64 X.hv, .int .i64 X.hc, .slice A3 X.l.length c3] 26)
 replace HP := laP HP (.cells #[.int .i64 X.id, .int .i64 X.fi, .int .i64 X.tm, .int .i64 X.ht, .int .i64 X.hv, .int .i64 X.hc, .slice A3 X.l.length c3] 26)
 replace HR4 := laR HR4 (.cells #[.int .i64 X.id, .int .i64 X.fi, .int .i64 X.tm, .int .i64 X.ht, .int .i64 X.hv, .int .i64 X.hc, .slice A3 X.l.length c3] 26)
 have HX : Aside0 (BlkG X A3 c3 n8 (w5.alloc (.cells #[.int .i64 X.id, .int .i64 X.fi, .int .i64 X.tm, .int .i64 X.ht, .int .i64 X.hv, .int .i64 X.hc, .slice A3 X.l.length c3] 26))) := ⟨(by have hq := BlkG.new X A3 c3 w5; rw [HSn8.out] at hq; exact hq : BlkG X A3 c3 n8 (w5.alloc (.cells #[.int .i64 X.id, .int .i64 X.fi, .int .i64 X.tm, .int .i64 X.ht, .int .i64 X.hv, .int .i64 X.hc, .slice A3 X.l.length c3] 26)))⟩
 obtain ⟨W1, hW1⟩ : ∃ W, w5.alloc (.cells #[.int .i64 X.id, .int .i64 X.fi, .int .i64 X.tm, .int .i64 X.ht, .int .i64 X.hv, .int .i64 X.hc, .slice A3 X.l.length c3] 26) = W := ⟨_, rfl⟩
 rw [hW1] at HB HR1 HR3 HG HP HR4 HX ⊢
 clear hW1
 clear hn8
 obtain ⟨hg0, hg1, hg2, hg3, hg4, hg5, hg6⟩ := HG.out.box
 obtain ⟨hp0, hp1, hp2, hp3, hp4, hp5, hp6, hp7, hp8, hp9⟩ := HP.out.box
 obtain ⟨hx0, hx1, hx2, hx3, hx4, hx5, hx6⟩ := HX.out.box
 have hC6 := HC6.out
 simp only [Try.f6] at hC6
 subst hC6
 clear HC6
 have hne := HNE.out
 have hne2 : (0 : Int) < (p.l.length : Int) := by omega
 obtain ⟨ad', hq, q0, q1, q2⟩ := HR3.out.at_ (i := 0) HNE.out
 cases hq
 simp only [ad0] at q0 q1 q2
 rw [JF.out] at q0
 go_wp2_with fail
 clear q0 q1 q2
 clear hg0 hg1 hg2 hg3 hg4 hg5 hg6 hp0 hp1 hp2 hp3 hp4 hp5 hp6 hp7 hp8 hp9 hx0 hx1 hx2 hx3 hx4 hx5 hx6
 replace HB := ldB HB
 replace HR1 := ldR HR1
 replace HR3 := ldR HR3
 replace HG := ldG HG
 replace HP := ldP HP
 replace HR4 := ldR HR4
 replace HX := ldG HX
 refine start_ (n := 11) (S := (fun w' => BoxG X A3 c3 n8 w')) (ds := []) #[false,false,false,false,false,false,false,false,false,false,false] (by kernel_rfl) rfl rfl HX.out.box (fun hHeld => ?_)
 refine take_ (i := 0) (N := some 56) (v := ?_) (a' := ?_) #[true,false,false,false,false,false,false,false,false,false,false] rfl rfl (by kernel_rfl) (fun _ _ _ h => h) (Or.inl ⟨by rfl, ?_⟩) hHeld ?_ ?_
 rotate_left
 · rintro w' ⟨hx0, hx1, hx2, hx3, hx4, hx5, hx6⟩
   go_simp
   try with_reducible rfl
 rotate_left
 · simp only [Act.put, sA, sB, sC]
   rfl
 refine pure_ (i := 1) (N := some 57) (v := ?_) (a' := ?_) #[true,true,false,false,false,false,false,false,false,false,false] rfl rfl (by kernel_rfl) (fun _ _ _ h => h) (Or.inl ⟨by rfl, ?_⟩) ?_ ?_
 rotate_left
 · intro w'
   go_simp
   try with_reducible rfl
 rotate_left
 · simp only [Act.put, sA, sB, sC]
   rfl
 refine take_ (i := 2) (N := some 58) (v := ?_) (a' := ?_) #[true,true,true,false,false,false,false,false,false,false,false] rfl rfl (by kernel_rfl) (fun _ _ _ h => h) (Or.inl ⟨by rfl, ?_⟩) hHeld ?_ ?_
 rotate_left
 · rintro w' ⟨hx0, hx1, hx2, hx3, hx4, hx5, hx6⟩
   go_simp
   try with_reducible rfl
 rotate_left
 · simp only [Act.put, sA, sB, sC]
   rfl
 refine one_ (i := 3) (N := some 59) #[true,true,true,true,false,false,false,false,false,false,false] rfl rfl (by kernel_rfl) (by decide) (fun K hK => ?_)
 go_simp
 refine (glast_calls X A3 c3 _ HR4.out JL.out).mono ?_; rintro e w6 ⟨rfl, hw6⟩; replace HB := lbB HB hw6; replace HR1 := lbR HR1 hw6; replace HR3 := lbR HR3 hw6; replace HG := lbG HG hw6; replace HP := lbP HP hw6; replace HR4 := lbR HR4 hw6; replace HX := lbG HX hw6; clear hw6
 refine hK.out _ _ ?_ (fun hHeld => ?_)
 · exact HX.out.box
 clear hK K
 try simp only [Act.put, sA, sB, sC]
 refine pure_ (i := 4) (N := some 60) (v := ?_) (a' := ?_) #[true,true,true,true,true,false,false,false,false,false,false] rfl rfl (by kernel_rfl) (fun _ _ _ h => h) (Or.inl ⟨by rfl, ?_⟩) ?_ ?_
 rotate_left
 · intro w'
   go_simp
   try with_reducible rfl
 rotate_left
 · simp only [Act.put, sA, sB, sC]
   rfl
 refine one_ (i := 5) (N := some 61) #[true,true,true,true,true,true,false,false,false,false,false] rfl rfl (by kernel_rfl) (by decide) (fun K hK => ?_)
 go_simp
 refine (gents_calls X A3 c3 F (LV + 1) _ HR4.out JD.out JH.out JE1.out).mono ?_; rintro e w7 ⟨A5, c5, rfl, hrd, hw7⟩; replace HB := lbB HB hw7; replace HR1 := lbR HR1 hw7; replace HR3 := lbR HR3 hw7; replace HG := lbG HG hw7; replace HP := lbP HP hw7; replace HR4 := lbR HR4 hw7; replace HX := lbG HX hw7; have HL1 := Aside0.mk (hrd); clear hrd; clear hw7
 refine hK.out _ _ ?_ (fun hHeld => ?_)
 · exact HX.out.box
 clear hK K
 try simp only [Act.put, sA, sB, sC]
 refine pure_ (i := 6) (N := some 55) (v := ?_) (a' := ?_) #[true,true,true,true,true,true,true,false,false,false,false] rfl rfl (by kernel_rfl) (fun _ _ _ h => h) (Or.inl ⟨by rfl, ?_⟩) ?_ ?_
 rotate_left
 · intro w'
   go_simp
   try with_reducible rfl
 rotate_left
 · simp only [Act.put, sA, sB, sC]
   rfl
 refine pure_ (i := 7) (N := some 62) (v := ?_) (a' := ?_) #[true,true,true,true,true,true,true,true,false,false,false] rfl rfl (by kernel_rfl) (fun _ _ _ h => h) (Or.inl ⟨by rfl, ?_⟩) ?_ ?_
 rotate_left
 · intro w'
   go_simp
   try with_reducible rfl
 rotate_left
 · simp only [Act.put, sA, sB, sC]
   rfl
 refine pure_ (i := 8) (N := some 63) (v := ?_) (a' := ?_) #[true,true,true,true,true,true,true,true,true,false,false] rfl rfl (by kernel_rfl) (fun _ _ _ h => h) (Or.inl ⟨by rfl, ?_⟩) ?_ ?_
 rotate_left
 · intro w'
   go_simp
   try with_reducible rfl
 rotate_left
 · simp only [Act.put, sA, sB, sC]
   rfl
 refine pure_ (i := 9) (N := some 8) (v := ?_) (a' := ?_) #[true,true,true,true,true,true,true,true,true,true,false] rfl rfl (by kernel_rfl) (fun _ _ _ h => h) (Or.inl ⟨by rfl, ?_⟩) ?_ ?_
 rotate_left
 · intro w'
   go_simp
   try with_reducible rfl
 rotate_left
 · simp only [Act.put, sA, sB, sC]
   rfl
 refine pure_ (i := 10) (N := some 9) (v := ?_) (a' := ?_) #[true,true,true,true,true,true,true,true,true,true,true] rfl rfl (by kernel_rfl) (fun _ _ _ h => h) (Or.inl ⟨by rfl, ?_⟩) ?_ ?_
 rotate_left
 · intro w'
   go_simp
   try with_reducible rfl
 rotate_left
 · simp only [Act.put, sA, sB, sC]
   rfl
 refine done_ (by kernel_rfl) ?_
 clear hHeld
 obtain ⟨hg0, hg1, hg2, hg3, hg4, hg5, hg6⟩ := HG.out.box
 obtain ⟨hp0, hp1, hp2, hp3, hp4, hp5, hp6, hp7, hp8, hp9⟩ := HP.out.box
 obtain ⟨hx0, hx1, hx2, hx3, hx4, hx5, hx6⟩ := HX.out.box
 go_wp2_with fail
 go_at_call 29
 refine (gents_calls X A3 c3 X.fi F _ HR4.out JD.out JF2.out JE2.out).mono ?_
 rintro e w8 ⟨A6, c6, rfl, hrd, hw8⟩
 replace HB := lbB HB hw8
 replace HR1 := lbR HR1 hw8
 replace HR3 := lbR HR3 hw8
 replace HG := lbG HG hw8
 replace HP := lbP HP hw8
 replace HR4 := lbR HR4 hw8
 replace HX := lbG HX hw8
 replace HL1 := lbR HL1 hw8
 have HL2 := Aside0.mk (hrd)
 clear hrd
 clear hw8
 clear hg0 hg1 hg2 hg3 hg4 hg5 hg6 hp0 hp1 hp2 hp3 hp4 hp5 hp6 hp7 hp8 hp9 hx0 hx1 hx2 hx3 hx4 hx5 hx6
 obtain ⟨hg0, hg1, hg2, hg3, hg4, hg5, hg6⟩ := HG.out.box
 obtain ⟨hp0, hp1, hp2, hp3, hp4, hp5, hp6, hp7, hp8, hp9⟩ := HP.out.box
 obtain ⟨hx0, hx1, hx2, hx3, hx4, hx5, hx6⟩ := HX.out.box
 go_wp2_with fail
 go_at_call 29
 refine (gents_calls g A c g.fi F _ HR1.out J1.out JF2.out JE3.out).mono ?_
 rintro e w9 ⟨A7, c7, rfl, hrd, hw9⟩
 replace HB := lbB HB hw9
 replace HR1 := lbR HR1 hw9
 replace HR3 := lbR HR3 hw9
 replace HG := lbG HG hw9
 replace HP := lbP HP hw9
 replace HR4 := lbR HR4 hw9
 replace HX := lbG HX hw9
 replace HL1 := lbR HL1 hw9
 replace HL2 := lbR HL2 hw9
 have HL3 := Aside0.mk (hrd)
 clear hrd
 clear hw9
 clear hg0 hg1 hg2 hg3 hg4 hg5 hg6 hp0 hp1 hp2 hp3 hp4 hp5 hp6 hp7 hp8 hp9 hx0 hx1 hx2 hx3 hx4 hx5 hx6
 obtain ⟨hg0, hg1, hg2, hg3, hg4, hg5, hg6⟩ := HG.out.box
 obtain ⟨hp0, hp1, hp2, hp3, hp4, hp5, hp6, hp7, hp8, hp9⟩ := HP.out.box
 obtain ⟨hx0, hx1, hx2, hx3, hx4, hx5, hx6⟩ := HX.out.box
 go_wp2_with fail
 clear HG
 clear hg0 hg1 hg2 hg3 hg4 hg5 hg6 hp0 hp1 hp2 hp3 hp4 hp5 hp6 hp7 hp8 hp9 hx0 hx1 hx2 hx3 hx4 hx5 hx6
 obtain ⟨hp0, hp1, hp2, hp3, hp4, hp5, hp6, hp7, hp8, hp9⟩ := HP.out.box
 obtain ⟨hx0, hx1, hx2, hx3, hx4, hx5, hx6⟩ := HX.out.box
 clear hp0 hp1 hp2 hp3 hp4 hp5 hp6 hp7 hp8 hp9 hx0 hx1 hx2 hx3 hx4 hx5 hx6
 replace HB := ldB HB
 replace HR1 := ldR HR1
 replace HR3 := ldR HR3
 replace HP := ldP HP
 replace HR4 := ldR HR4
 replace HX := ldG HX
 replace HL1 := ldR HL1
 replace HL2 := ldR HL2
 replace HL3 := ldR HL3
 refine start_ (n := 37) (S := (fun w' => BoxG X A3 c3 n8 w' ∧ BoxP p (some ad) cp (s + 1) w')) (ds := []) #[false,false,false,false,false,false,false,false,false,false,false,false,false,false,false,false,false,false,false,false,false,false,false,false,false,false,false,false,false,false,false,false,false,false,false,false,false] (by kernel_rfl) rfl rfl ⟨HX.out.box, HP.out.box⟩ (fun hHeld => ?_)
 refine pure_ (i := 0) (N := some 80) (v := ?_) (a' := ?_) #[true,false,false,false,false,false,false,false,false,false,false,false,false,false,false,false,false,false,false,false,false,false,false,false,false,false,false,false,false,false,false,false,false,false,false,false,false] rfl rfl (by kernel_rfl) (fun _ _ _ h => h) (Or.inl ⟨by rfl, ?_⟩) ?_ ?_
 rotate_left
 · intro w'
   go_simp
   try with_reducible rfl
 rotate_left
 · simp only [Act.put, sA, sB, sC]
   rfl
 refine pure_ (i := 1) (N := some 81) (v := ?_) (a' := ?_) #[true,true,false,false,false,false,false,false,false,false,false,false,false,false,false,false,false,false,false,false,false,false,false,false,false,false,false,false,false,false,false,false,false,false,false,false,false] rfl rfl (by kernel_rfl) (fun _ _ _ h => h) (Or.inl ⟨by rfl, ?_⟩) ?_ ?_
 rotate_left
 · intro w'
   go_simp
   try with_reducible rfl
 rotate_left
 · simp only [Act.put, sA, sB, sC]
   rfl
 refine pure_ (i := 2) (N := some 82) (v := ?_) (a' := ?_) #[true,true,true,false,false,false,false,false,false,false,false,false,false,false,false,false,false,false,false,false,false,false,false,false,false,false,false,false,false,false,false,false,false,false,false,false,false] rfl rfl (by kernel_rfl) (fun _ _ _ h => h) (Or.inl ⟨by rfl, ?_⟩) ?_ ?_
 rotate_left
 · intro w'
   go_simp
   try with_reducible rfl
 rotate_left
 · simp only [Act.put, sA, sB, sC]
   rfl
 refine pure_ (i := 3) (N := some 83) (v := ?_) (a' := ?_) #[true,true,true,true,false,false,false,false,false,false,false,false,false,false,false,false,false,false,false,false,false,false,false,false,false,false,false,false,false,false,false,false,false,false,false,false,false] rfl rfl (by kernel_rfl) (fun _ _ _ h => h) (Or.inl ⟨by rfl, ?_⟩) ?_ ?_
 rotate_left
 · intro w'
   go_simp
   try with_reducible rfl
 rotate_left
 · simp only [Act.put, sA, sB, sC]
   rfl
 refine pure_ (i := 4) (N := some 84) (v := ?_) (a' := ?_) #[true,true,true,true,true,false,false,false,false,false,false,false,false,false,false,false,false,false,false,false,false,false,false,false,false,false,false,false,false,false,false,false,false,false,false,false,false] rfl rfl (by kernel_rfl) (fun _ _ _ h => h) (Or.inl ⟨by rfl, ?_⟩) ?_ ?_
 rotate_left
 · intro w'
   go_simp
   try with_reducible rfl
 rotate_left
 · simp only [Act.put, sA, sB, sC]
   rfl
 refine pure_ (i := 5) (N := some 85) (v := ?_) (a' := ?_) #[true,true,true,true,true,true,false,false,false,false,false,false,false,false,false,false,false,false,false,false,false,false,false,false,false,false,false,false,false,false,false,false,false,false,false,false,false] rfl rfl (by kernel_rfl) (fun _ _ _ h => h) (Or.inl ⟨by rfl, ?_⟩) ?_ ?_
 rotate_left
 · intro w'
   go_simp
   try with_reducible rfl
 rotate_left
 · simp only [Act.put, sA, sB, sC]
   rfl
 refine pure_ (i := 6) (N := some 86) (v := ?_) (a' := ?_) #[true,true,true,true,true,true,true,false,false,false,false,false,false,false,false,false,false,false,false,false,false,false,false,false,false,false,false,false,false,false,false,false,false,false,false,false,false] rfl rfl (by kernel_rfl) (fun _ _ _ h => h) (Or.inl ⟨by rfl, ?_⟩) ?_ ?_
 rotate_left
 · intro w'
   go_simp
   try with_reducible rfl
 rotate_left
 · simp only [Act.put, sA, sB, sC]
   rfl
 refine pure_ (i := 7) (N := some 87) (v := ?_) (a' := ?_) #[true,true,true,true,true,true,true,true,false,false,false,false,false,false,false,false,false,false,false,false,false,false,false,false,false,false,false,false,false,false,false,false,false,false,false,false,false] rfl rfl (by kernel_rfl) (fun _ _ _ h => h) (Or.inl ⟨by rfl, ?_⟩) ?_ ?_
 rotate_left
 · intro w'
   go_simp
   try with_reducible rfl
 rotate_left
 · simp only [Act.put, sA, sB, sC]
   rfl
 refine pure_ (i := 8) (N := some 88) (v := ?_) (a' := ?_) #[true,true,true,true,true,true,true,true,true,false,false,false,false,false,false,false,false,false,false,false,false,false,false,false,false,false,false,false,false,false,false,false,false,false,false,false,false] rfl rfl (by kernel_rfl) (fun _ _ _ h => h) (Or.inl ⟨by rfl, ?_⟩) ?_ ?_
 rotate_left
 · intro w'
   go_simp
   try with_reducible rfl
 rotate_left
 · simp only [Act.put, sA, sB, sC]
   rfl
 refine pure_ (i := 9) (N := some 89) (v := ?_) (a' := ?_) #[true,true,true,true,true,true,true,true,true,true,false,false,false,false,false,false,false,false,false,false,false,false,false,false,false,false,false,false,false,false,false,false,false,false,false,false,false] rfl rfl (by kernel_rfl) (fun _ _ _ h => h) (Or.inl ⟨by rfl, ?_⟩) ?_ ?_
 rotate_left
 · intro w'
   go_simp
   try with_reducible rfl
 rotate_left
 · simp only [Act.put, sA, sB, sC]
   rfl
 refine pure_ (i := 10) (N := some 90) (v := ?_) (a' := ?_) #[true,true,true,true,true,true,true,true,true,true,true,false,false,false,false,false,false,false,false,false,false,false,false,false,false,false,false,false,false,false,false,false,false,false,false,false,false] rfl rfl (by kernel_rfl) (fun _ _ _ h => h) (Or.inl ⟨by rfl, ?_⟩) ?_ ?_
 rotate_left
 · intro w'
   go_simp
   try with_reducible rfl
 rotate_left
 · simp only [Act.put, sA, sB, sC]
   rfl
 refine pure_ (i := 11) (N := some 91) (v := ?_) (a' := ?_) #[true,true,true,true,true,true,true,true,true,true,true,true,false,false,false,false,false,false,false,false,false,false,false,false,false,false,false,false,false,false,false,false,false,false,false,false,false] rfl rfl (by kernel_rfl) (fun _ _ _ h => h) (Or.inl ⟨by rfl, ?_⟩) ?_ ?_
 rotate_left
 · intro w'
   go_simp
   try with_reducible rfl
 rotate_left
 · simp only [Act.put, sA, sB, sC]
   rfl
 refine pure_ (i := 12) (N := some 92) (v := ?_) (a' := ?_) #[true,true,true,true,true,true,true,true,true,true,true,true,true,false,false,false,false,false,false,false,false,false,false,false,false,false,false,false,false,false,false,false,false,false,false,false,false] rfl rfl (by kernel_rfl) (fun _ _ _ h => h) (Or.inl ⟨by rfl, ?_⟩) ?_ ?_
 rotate_left
 · intro w'
   go_simp
   try with_reducible rfl
 rotate_left
 · simp only [Act.put, sA, sB, sC]
   rfl
 refine pure_ (i := 13) (N := some 93) (v := ?_) (a' := ?_) #[true,true,true,true,true,true,true,true,true,true,true,true,true,true,false,false,false,false,false,false,false,false,false,false,false,false,false,false,false,false,false,false,false,false,false,false,false] rfl rfl (by kernel_rfl) (fun _ _ _ h => h) (Or.inl ⟨by rfl, ?_⟩) ?_ ?_
 rotate_left
 · intro w'
   go_simp
   try with_reducible rfl
 rotate_left
 · simp only [Act.put, sA, sB, sC]
   rfl
 refine take_ (i := 14) (N := some 94) (v := ?_) (a' := ?_) #[true,true,true,true,true,true,true,true,true,true,true,true,true,true,true,false,false,false,false,false,false,false,false,false,false,false,false,false,false,false,false,false,false,false,false,false,false] rfl rfl (by kernel_rfl) (fun _ _ _ h => h) (Or.inl ⟨by rfl, ?_⟩) hHeld ?_ ?_
 rotate_left
 · rintro w' ⟨⟨hx0, hx1, hx2, hx3, hx4, hx5, hx6⟩, ⟨hp0, hp1, hp2, hp3, hp4, hp5, hp6, hp7, hp8, hp9⟩⟩
   go_simp
   try with_reducible rfl
 rotate_left
 · simp only [Act.put, sA, sB, sC]
   rfl
 refine pure_ (i := 15) (N := some 95) (v := ?_) (a' := ?_) #[true,true,true,true,true,true,true,true,true,true,true,true,true,true,true,true,false,false,false,false,false,false,false,false,false,false,false,false,false,false,false,false,false,false,false,false,false] rfl rfl (by kernel_rfl) (fun _ _ _ h => h) (Or.inl ⟨by rfl, ?_⟩) ?_ ?_
 rotate_left
 · intro w'
   go_simp
   try with_reducible rfl
 rotate_left
 · simp only [Act.put, sA, sB, sC]
   rfl
 refine one_ (i := 16) (N := some 96) #[true,true,true,true,true,true,true,true,true,true,true,true,true,true,true,true,true,false,false,false,false,false,false,false,false,false,false,false,false,false,false,false,false,false,false,false,false] rfl rfl (by kernel_rfl) (by decide) (fun K hK => ?_)
 go_simp
 refine (rsamep_c ⟨0, 0, p.l, 0, 0, 0, 0, 0, false, false⟩ ⟨0, 0, p.l, 0, 0, 0, 0, 0, false, false⟩ A5 c5 (some ad) cp _ HL1.out HR3.out JS1.out).mono ?_; rintro e w10 ⟨rfl, hw10⟩; replace HB := lbB HB hw10; replace HR1 := lbR HR1 hw10; replace HR3 := lbR HR3 hw10; replace HP := lbP HP hw10; replace HR4 := lbR HR4 hw10; replace HX := lbG HX hw10; replace HL1 := lbR HL1 hw10; replace HL2 := lbR HL2 hw10; replace HL3 := lbR HL3 hw10; clear hw10
 refine hK.out _ _ ?_ (fun hHeld => ?_)
 · exact ⟨HX.out.box, HP.out.box⟩
 clear hK K
 try simp only [Act.put, sA, sB, sC]
 refine pure_ (i := 17) (N := some 97) (v := ?_) (a' := ?_) #[true,true,true,true,true,true,true,true,true,true,true,true,true,true,true,true,true,true,false,false,false,false,false,false,false,false,false,false,false,false,false,false,false,false,false,false,false] rfl rfl (by kernel_rfl) (fun _ _ _ h => h) (Or.inl ⟨by rfl, ?_⟩) ?_ ?_
 rotate_left
 · intro w'
   go_simp
   try with_reducible rfl
 rotate_left
 · simp only [Act.put, sA, sB, sC]
   rfl
 refine pure_ (i := 18) (N := some 98) (v := ?_) (a' := ?_) #[true,true,true,true,true,true,true,true,true,true,true,true,true,true,true,true,true,true,true,false,false,false,false,false,false,false,false,false,false,false,false,false,false,false,false,false,false] rfl rfl (by kernel_rfl) (fun _ _ _ h => h) (Or.inl ⟨by rfl, ?_⟩) ?_ ?_
 rotate_left
 · intro w'
   go_simp
   try with_reducible rfl
 rotate_left
 · simp only [Act.put, sA, sB, sC]
   rfl
 refine pure_ (i := 19) (N := some 99) (v := ?_) (a' := ?_) #[true,true,true,true,true,true,true,true,true,true,true,true,true,true,true,true,true,true,true,true,false,false,false,false,false,false,false,false,false,false,false,false,false,false,false,false,false] rfl rfl (by kernel_rfl) (fun _ _ _ h => h) (Or.inl ⟨by rfl, ?_⟩) ?_ ?_
 rotate_left
 · intro w'
   go_simp
   try with_reducible rfl
 rotate_left
 · simp only [Act.put, sA, sB, sC]
   rfl
 refine pure_ (i := 20) (N := some 100) (v := ?_) (a' := ?_) #[true,true,true,true,true,true,true,true,true,true,true,true,true,true,true,true,true,true,true,true,true,false,false,false,false,false,false,false,false,false,false,false,false,false,false,false,false] rfl rfl (by kernel_rfl) (fun _ _ _ h => h) (Or.inl ⟨by rfl, ?_⟩) ?_ ?_
 rotate_left
 · intro w'
   go_simp
   try with_reducible rfl
 rotate_left
 · simp only [Act.put, sA, sB, sC]
   rfl
 refine pure_ (i := 21) (N := some 101) (v := ?_) (a' := ?_) #[true,true,true,true,true,true,true,true,true,true,true,true,true,true,true,true,true,true,true,true,true,true,false,false,false,false,false,false,false,false,false,false,false,false,false,false,false] rfl rfl (by kernel_rfl) (fun _ _ _ h => h) (Or.inl ⟨by rfl, ?_⟩) ?_ ?_
 rotate_left
 · intro w'
   go_simp
   try with_reducible rfl
 rotate_left
 · simp only [Act.put, sA, sB, sC]
   rfl
 refine pure_ (i := 22) (N := some 102) (v := ?_) (a' := ?_) #[true,true,true,true,true,true,true,true,true,true,true,true,true,true,true,true,true,true,true,true,true,true,true,false,false,false,false,false,false,false,false,false,false,false,false,false,false] rfl rfl (by kernel_rfl) (fun _ _ _ h => h) (Or.inl ⟨by rfl, ?_⟩) ?_ ?_
 rotate_left
 · intro w'
   go_simp
   try with_reducible rfl
 rotate_left
 · simp only [Act.put, sA, sB, sC]
   rfl
 refine one_ (i := 23) (N := some 103) #[true,true,true,true,true,true,true,true,true,true,true,true,true,true,true,true,true,true,true,true,true,true,true,true,false,false,false,false,false,false,false,false,false,false,false,false,false] rfl rfl (by kernel_rfl) (by decide) (fun K hK => ?_)
 go_simp
 refine (rsamep_c ⟨0, 0, M, 0, 0, 0, 0, 0, false, false⟩ ⟨0, 0, M, 0, 0, 0, 0, 0, false, false⟩ A6 c6 A7 c7 _ HL2.out HL3.out JS2.out).mono ?_; rintro e w11 ⟨rfl, hw11⟩; replace HB := lbB HB hw11; replace HR1 := lbR HR1 hw11; replace HR3 := lbR HR3 hw11; replace HP := lbP HP hw11; replace HR4 := lbR HR4 hw11; replace HX := lbG HX hw11; replace HL1 := lbR HL1 hw11; replace HL2 := lbR HL2 hw11; replace HL3 := lbR HL3 hw11; clear hw11
 refine hK.out _ _ ?_ (fun hHeld => ?_)
 · exact ⟨HX.out.box, HP.out.box⟩
 clear hK K
 try simp only [Act.put, sA, sB, sC]
 refine pure_ (i := 24) (N := some 104) (v := ?_) (a' := ?_) #[true,true,true,true,true,true,true,true,true,true,true,true,true,true,true,true,true,true,true,true,true,true,true,true,true,false,false,false,false,false,false,false,false,false,false,false,false] rfl rfl (by kernel_rfl) (fun _ _ _ h => h) (Or.inl ⟨by rfl, ?_⟩) ?_ ?_
 rotate_left
 · intro w'
   go_simp
   try with_reducible rfl
 rotate_left
 · simp only [Act.put, sA, sB, sC]
   rfl
 refine pure_ (i := 25) (N := some 105) (v := ?_) (a' := ?_) #[true,true,true,true,true,true,true,true,true,true,true,true,true,true,true,true,true,true,true,true,true,true,true,true,true,true,false,false,false,false,false,false,false,false,false,false,false] rfl rfl (by kernel_rfl) (fun _ _ _ h => h) (Or.inl ⟨by rfl, ?_⟩) ?_ ?_
 rotate_left
 · intro w'
   go_simp
   try with_reducible rfl
 rotate_left
 · simp only [Act.put, sA, sB, sC]
   rfl
 refine take_ (i := 26) (N := some 106) (v := ?_) (a' := ?_) #[true,true,true,true,true,true,true,true,true,true,true,true,true,true,true,true,true,true,true,true,true,true,true,true,true,true,true,false,false,false,false,false,false,false,false,false,false] rfl rfl (by kernel_rfl) (fun _ _ _ h => h) (Or.inl ⟨by rfl, ?_⟩) hHeld ?_ ?_
 rotate_left
 · rintro w' ⟨⟨hx0, hx1, hx2, hx3, hx4, hx5, hx6⟩, ⟨hp0, hp1, hp2, hp3, hp4, hp5, hp6, hp7, hp8, hp9⟩⟩
   go_simp
   try with_reducible rfl
 rotate_left
 · simp only [Act.put, sA, sB, sC]
   rfl
 refine pure_ (i := 28) (N := some 108) (v := ?_) (a' := ?_) #[true,true,true,true,true,true,true,true,true,true,true,true,true,true,true,true,true,true,true,true,true,true,true,true,true,true,true,false,true,false,false,false,false,false,false,false,false] rfl rfl (by kernel_rfl) (fun _ _ _ h => h) (Or.inl ⟨by rfl, ?_⟩) ?_ ?_
 rotate_left
 · intro w'
   go_simp
   try with_reducible rfl
 rotate_left
 · simp only [Act.put, sA, sB, sC]
   rfl
 refine pure_ (i := 29) (N := some 109) (v := ?_) (a' := ?_) #[true,true,true,true,true,true,true,true,true,true,true,true,true,true,true,true,true,true,true,true,true,true,true,true,true,true,true,false,true,true,false,false,false,false,false,false,false] rfl rfl (by kernel_rfl) (fun _ _ _ h => h) (Or.inl ⟨by rfl, ?_⟩) ?_ ?_
 rotate_left
 · intro w'
   go_simp
   try with_reducible rfl
 rotate_left
 · simp only [Act.put, sA, sB, sC]
   rfl
 refine take_ (i := 30) (N := some 110) (v := ?_) (a' := ?_) #[true,true,true,true,true,true,true,true,true,true,true,true,true,true,true,true,true,true,true,true,true,true,true,true,true,true,true,false,true,true,true,false,false,false,false,false,false] rfl rfl (by kernel_rfl) (fun _ _ _ h => h) (Or.inl ⟨by rfl, ?_⟩) hHeld ?_ ?_
 rotate_left
 · rintro w' ⟨⟨hx0, hx1, hx2, hx3, hx4, hx5, hx6⟩, ⟨hp0, hp1, hp2, hp3, hp4, hp5, hp6, hp7, hp8, hp9⟩⟩
   go_simp
   try with_reducible rfl
 rotate_left
 · simp only [Act.put, sA, sB, sC]
   rfl
 refine pure_ (i := 31) (N := some 111) (v := ?_) (a' := ?_) #[true,true,true,true,true,true,true,true,true,true,true,true,true,true,true,true,true,true,true,true,true,true,true,true,true,true,true,false,true,true,true,true,false,false,false,false,false] rfl rfl (by kernel_rfl) (fun _ _ _ h => h) (Or.inl ⟨by rfl, ?_⟩) ?_ ?_
 rotate_left
 · intro w'
   go_simp
   try with_reducible rfl
 rotate_left
 · simp only [Act.put, sA, sB, sC]
   rfl
 refine pure_ (i := 32) (N := some 112) (v := ?_) (a' := ?_) #[true,true,true,true,true,true,true,true,true,true,true,true,true,true,true,true,true,true,true,true,true,true,true,true,true,true,true,false,true,true,true,true,true,false,false,false,false] rfl rfl (by kernel_rfl) (fun _ _ _ h => h) (Or.inl ⟨by rfl, ?_⟩) ?_ ?_
 rotate_left
 · intro w'
   go_simp
   try with_reducible rfl
 rotate_left
 · simp only [Act.put, sA, sB, sC]
   rfl
 refine pure_ (i := 33) (N := some 113) (v := ?_) (a' := ?_) #[true,true,true,true,true,true,true,true,true,true,true,true,true,true,true,true,true,true,true,true,true,true,true,true,true,true,true,false,true,true,true,true,true,true,false,false,false] rfl rfl (by kernel_rfl) (fun _ _ _ h => h) (Or.inl ⟨by rfl, ?_⟩) ?_ ?_
 rotate_left
 · intro w'
   go_simp
   try with_reducible rfl
 rotate_left
 · simp only [Act.put, sA, sB, sC]
   rfl
 refine one_ (i := 27) (N := some 107) #[true,true,true,true,true,true,true,true,true,true,true,true,true,true,true,true,true,true,true,true,true,true,true,true,true,true,true,true,true,true,true,true,true,true,false,false,false] rfl rfl (by kernel_rfl) (by decide) (fun K hK => ?_)
 go_simp
 refine (glast_calls X A3 c3 _ HR4.out JL.out).mono ?_; rintro e w12 ⟨rfl, hw12⟩; replace HB := lbB HB hw12; replace HR1 := lbR HR1 hw12; replace HR3 := lbR HR3 hw12; replace HP := lbP HP hw12; replace HR4 := lbR HR4 hw12; replace HX := lbG HX hw12; replace HL1 := lbR HL1 hw12; replace HL2 := lbR HL2 hw12; replace HL3 := lbR HL3 hw12; clear hw12
 refine hK.out _ _ ?_ (fun hHeld => ?_)
 · exact ⟨HX.out.box, HP.out.box⟩
 clear hK K
 try simp only [Act.put, sA, sB, sC]
 refine pure_ (i := 34) (N := some 114) (v := ?_) (a' := ?_) #[true,true,true,true,true,true,true,true,true,true,true,true,true,true,true,true,true,true,true,true,true,true,true,true,true,true,true,true,true,true,true,true,true,true,true,false,false] rfl rfl (by kernel_rfl) (fun _ _ _ h => h) (Or.inl ⟨by rfl, ?_⟩) ?_ ?_
 rotate_left
 · intro w'
   go_simp
   try with_reducible rfl
 rotate_left
 · simp only [Act.put, sA, sB, sC]
   rfl
 refine pure_ (i := 35) (N := some 115) (v := ?_) (a' := ?_) #[true,true,true,true,true,true,true,true,true,true,true,true,true,true,true,true,true,true,true,true,true,true,true,true,true,true,true,true,true,true,true,true,true,true,true,true,false] rfl rfl (by kernel_rfl) (fun _ _ _ h => h) (Or.inl ⟨by rfl, ?_⟩) ?_ ?_
 rotate_left
 · intro w'
   go_simp
   try with_reducible rfl
 rotate_left
 · simp only [Act.put, sA, sB, sC]
   rfl
 refine pure_ (i := 36) (N := some 4) (v := ?_) (a' := ?_) #[true,true,true,true,true,true,true,true,true,true,true,true,true,true,true,true,true,true,true,true,true,true,true,true,true,true,true,true,true,true,true,true,true,true,true,true,true] rfl rfl (by kernel_rfl) (fun _ _ _ h => h) (Or.inl ⟨by rfl, ?_⟩) ?_ ?_
 rotate_left
 · intro w'
   go_simp
   try with_reducible rfl
 rotate_left
 · simp only [Act.put, sA, sB, sC]
   rfl
 refine done_ (by kernel_rfl) ?_
 clear hHeld
 obtain ⟨hp0, hp1, hp2, hp3, hp4, hp5, hp6, hp7, hp8, hp9⟩ := HP.out.box
 obtain ⟨hx0, hx1, hx2, hx3, hx4, hx5, hx6⟩ := HX.out.box
 go_wp2
 go_ret
 exact ⟨rfl, HB.out.b⟩
theorem apps6_walk (g : Grp) (A : Option Addr) (c : Nat) (p : Prt) (Ap : Option Addr) (cp : Nat) (w : World) (hg : Rd w A c g.l) (hp : Rd w Ap cp p.l) :
    Calls Try.prog 6 #[vG g A c, vP p Ap cp] w fun e w' => e = .returned (.bool true) ∧ Below w.heap.size w w' := by
  obtain ⟨r1, hq1, hf1⟩ := few_group g hg.bd
  obtain ⟨r3, hq3, hf3⟩ := few_part p hp.bd
  cases x1 : r1 with
  | false => exact apps6_n1 g A c p Ap cp w hg hp hf1 hf3 x1
  | true =>
    cases x3 : r3 with
    | false => exact apps6_n2 g A c p Ap cp w hg hp hf1 hf3 x1 x3
    | true =>
      cases x4 : isG true g with
      | false => exact apps6_n3 g A c p Ap cp w hg hp hf1 hf3 x1 x3 x4
      | true =>
        have hl : g.l.length + p.l.length ≤ 4398046511104 := by have := hq1 x1; have := hq3 x3; omega
        by_cases hk : p.k = 1
        · by_cases hv : chwG g p = 0
          · exact apps6_z g A c p Ap cp w hg hp hf1 hf3 x1 x3 x4 hk hl hv
          · exact apps6_v g A c p Ap cp w hg hp hf1 hf3 x1 x3 x4 hk hl _ rfl hv
        · exact apps6_n4 g A c p Ap cp w hg hp hf1 hf3 x1 x3 x4 hk
end Go.Proofs.Ytlfdmlacadoolaa.PartW
namespace Go.Proofs.Ytlfdmlacadoolaa.Pure
open Go Go.RowKit Go.Proofs.Ytlfdmlacadoolaa.Sp Go.Proofs.Ytlfdmlacadoolaa.PartW
theorem GroupAppends.walk (g : Grp) (A : Option Addr) (c : Nat) (p : Prt) (Ap : Option Addr) (cp : Nat) (w : World) (hg : Rd w A c g.l) (hp : Rd w Ap cp p.l) :
    Calls Try.prog 6 #[vG g A c, vP p Ap cp] w fun e w' => e = .returned (.bool true) ∧ Below w.heap.size w w' := apps6_walk g A c p Ap cp w hg hp
end Go.Proofs.Ytlfdmlacadoolaa.Pure
