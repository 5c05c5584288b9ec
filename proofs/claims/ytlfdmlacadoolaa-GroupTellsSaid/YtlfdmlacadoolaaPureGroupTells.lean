/- The statement GroupTells; no condition beyond the row's. -/
import Derived.Test.YtlfdmlacadoolaaSameQ
import Derived.Test.YtlfdmlacadoolaaFew6
import Derived.Test.YtlfdmlacadoolaaCalls6
set_option linter.unusedVariables false
set_option linter.unusedSimpArgs false
namespace Go.Proofs.Ytlfdmlacadoolaa.PartW
open Go Go.RowKit Go.Shelf Go.Proofs.Ytlfdmlacadoolaa.A Go.Proofs.Ytlfdmlacadoolaa.Sp Go.Proofs.Ytlfdmlacadoolaa.Reg Go.Proofs.Ytlfdmlacadoolaa.Seq Go.Proofs.YtlfdmlacadoolaaW.PrintWords Go.Proofs.YtlfdmlacadoolaaW.PrintLast Go.Proofs.YtlfdmlacadoolaaW.PrintMore
set_option maxHeartbeats 8000000 in
set_option maxRecDepth 100000 in
theorem tells6_n1 (g : Grp) (A : Option Addr) (c : Nat) (h : Grp) (B : Option Addr) (d : Nat) (p : Prt) (Ap : Option Addr) (cp : Nat) (w : World) (hg : Rd w A c g.l) (hh : Rd w B d h.l) (hp : Rd w Ap cp p.l) {r1 r2 r3 : Bool} (hf1 : (∀ (A : Option Addr) (c : Nat) (w : World), Rd w A c g.l → Calls Try.prog 13 #[vG g A c] w fun e w' => e = .returned (.bool r1) ∧ Below w.heap.size w w')) (hf2 : (∀ (A : Option Addr) (c : Nat) (w : World), Rd w A c h.l → Calls Try.prog 13 #[vG h A c] w fun e w' => e = .returned (.bool r2) ∧ Below w.heap.size w w')) (hf3 : (∀ (A : Option Addr) (c : Nat) (w : World), Rd w A c p.l → Calls Try.prog 14 #[vP p A c] w fun e w' => e = .returned (.bool r3) ∧ Below w.heap.size w w')) (x1 : r1 = false) :
  Calls Try.prog 3 #[vG g A c, vG h B d, vP p Ap cp] w fun e w' => e = .returned (.bool true) ∧ Below w.heap.size w w' := by
 subst x1
 have HF1 := Aside0.mk hf1
 have HF2 := Aside0.mk hf2
 have HF3 := Aside0.mk hf3
 obtain ⟨s, hs⟩ : ∃ s, w.heap.size = s := ⟨_, rfl⟩
 have HSs := Aside0.mk hs
 unfold vG vP
 go_enter Try.func3, Try.ntmps3
 have HB := Aside0.mk (Bel.refl w)
 have HR1 := Aside0.mk (hg)
 have HR2 := Aside0.mk (hh)
 have HR3 := Aside0.mk (hp)
 clear hf1 hf2 hf3 hg hh hp
 obtain ⟨C1, hC1⟩ : ∃ C, (match Try.f3.body with | some (.seq _ c) => c | _ => .skip) = C := ⟨_, rfl⟩
 have HC1 := Aside0.mk hC1
 simp only [Try.f3] at hC1
 rw [hC1]
 clear hC1
 go_wp2
 replace HB := laB HB (.cells #[.int .i64 g.id, .int .i64 g.fi, .int .i64 g.tm, .int .i64 g.ht, .int .i64 g.hv, .int .i64 g.hc, .slice A g.l.length c] 26)
 replace HR1 := laR HR1 (.cells #[.int .i64 g.id, .int .i64 g.fi, .int .i64 g.tm, .int .i64 g.ht, .int .i64 g.hv, .int .i64 g.hc, .slice A g.l.length c] 26)
 replace HR2 := laR HR2 (.cells #[.int .i64 g.id, .int .i64 g.fi, .int .i64 g.tm, .int .i64 g.ht, .int .i64 g.hv, .int .i64 g.hc, .slice A g.l.length c] 26)
 replace HR3 := laR HR3 (.cells #[.int .i64 g.id, .int .i64 g.fi, .int .i64 g.tm, .int .i64 g.ht, .int .i64 g.hv, .int .i64 g.hc, .slice A g.l.length c] 26)
 replace HB := laB HB (.cells #[.int .i64 h.id, .int .i64 h.fi, .int .i64 h.tm, .int .i64 h.ht, .int .i64 h.hv, .int .i64 h.hc, .slice B h.l.length d] 26)
 replace HR1 := laR HR1 (.cells #[.int .i64 h.id, .int .i64 h.fi, .int .i64 h.tm, .int .i64 h.ht, .int .i64 h.hv, .int .i64 h.hc, .slice B h.l.length d] 26)
 replace HR2 := laR HR2 (.cells #[.int .i64 h.id, .int .i64 h.fi, .int .i64 h.tm, .int .i64 h.ht, .int .i64 h.hv, .int .i64 h.hc, .slice B h.l.length d] 26)
 replace HR3 := laR HR3 (.cells #[.int .i64 h.id, .int .i64 h.fi, .int .i64 h.tm, .int .i64 h.ht, .int .i64 h.hv, .int .i64 h.hc, .slice B h.l.length d] 26)
 replace HB := laB HB (.cells #[.int .i64 p.g, .int .i64 p.k, .slice Ap p.l.length cp, .int .i64 p.ht, .int .i64 p.hv, .int .i64 p.hc, .int .i64 p.ix, .int .i64 p.tm, .bool p.mrk, .bool p.hed] 28)
 replace HR1 := laR HR1 (.cells #[.int .i64 p.g, .int .i64 p.k, .slice Ap p.l.length cp, .int .i64 p.ht, .int .i64 p.hv, .int .i64 p.hc, .int .i64 p.ix, .int .i64 p.tm, .bool p.mrk, .bool p.hed] 28)
 replace HR2 := laR HR2 (.cells #[.int .i64 p.g, .int .i64 p.k, .slice Ap p.l.length cp, .int .i64 p.ht, .int .i64 p.hv, .int .i64 p.hc, .int .i64 p.ix, .int .i64 p.tm, .bool p.mrk, .bool p.hed] 28)
 replace HR3 := laR HR3 (.cells #[.int .i64 p.g, .int .i64 p.k, .slice Ap p.l.length cp, .int .i64 p.ht, .int .i64 p.hv, .int .i64 p.hc, .int .i64 p.ix, .int .i64 p.tm, .bool p.mrk, .bool p.hed] 28)
 have HG := Aside0.mk ((by have hq := BlkG.new g A c w; rw [hs] at hq; exact (hq.alloc (.cells #[.int .i64 h.id, .int .i64 h.fi, .int .i64 h.tm, .int .i64 h.ht, .int .i64 h.hv, .int .i64 h.hc, .slice B h.l.length d] 26)).alloc (.cells #[.int .i64 p.g, .int .i64 p.k, .slice Ap p.l.length cp, .int .i64 p.ht, .int .i64 p.hv, .int .i64 p.hc, .int .i64 p.ix, .int .i64 p.tm, .bool p.mrk, .bool p.hed] 28)))
 have HH := Aside0.mk ((by have hq := BlkG.new h B d (w.alloc (.cells #[.int .i64 g.id, .int .i64 g.fi, .int .i64 g.tm, .int .i64 g.ht, .int .i64 g.hv, .int .i64 g.hc, .slice A g.l.length c] 26)); rw [World.size_alloc, hs] at hq; exact hq.alloc (.cells #[.int .i64 p.g, .int .i64 p.k, .slice Ap p.l.length cp, .int .i64 p.ht, .int .i64 p.hv, .int .i64 p.hc, .int .i64 p.ix, .int .i64 p.tm, .bool p.mrk, .bool p.hed] 28)))
 have HP := Aside0.mk ((by have hq := BlkP.new p Ap cp ((w.alloc (.cells #[.int .i64 g.id, .int .i64 g.fi, .int .i64 g.tm, .int .i64 g.ht, .int .i64 g.hv, .int .i64 g.hc, .slice A g.l.length c] 26)).alloc (.cells #[.int .i64 h.id, .int .i64 h.fi, .int .i64 h.tm, .int .i64 h.ht, .int .i64 h.hv, .int .i64 h.hc, .slice B h.l.length d] 26)); rw [World.size_alloc, World.size_alloc, hs] at hq; exact hq))
 obtain ⟨W0, hW0⟩ : ∃ W, ((w.alloc (.cells #[.int .i64 g.id, .int .i64 g.fi, .int .i64 g.tm, .int .i64 g.ht, .int .i64 g.hv, .int .i64 g.hc, .slice A g.l.length c] 26)).alloc (.cells #[.int .i64 h.id, .int .i64 h.fi, .int .i64 h.tm, .int .i64 h.ht, .int .i64 h.hv, .int .i64 h.hc, .slice B h.l.length d] 26)).alloc (.cells #[.int .i64 p.g, .int .i64 p.k, .slice Ap p.l.length cp, .int .i64 p.ht, .int .i64 p.hv, .int .i64 p.hc, .int .i64 p.ix, .int .i64 p.tm, .bool p.mrk, .bool p.hed] 28) = W := ⟨_, rfl⟩
 rw [hW0] at HB HR1 HR2 HR3 HG HH HP ⊢
 clear hW0
 clear hs
 obtain ⟨hg0, hg1, hg2, hg3, hg4, hg5, hg6⟩ := HG.out.box
 obtain ⟨hh0, hh1, hh2, hh3, hh4, hh5, hh6⟩ := HH.out.box
 obtain ⟨hp0, hp1, hp2, hp3, hp4, hp5, hp6, hp7, hp8, hp9⟩ := HP.out.box
 have hC1 := HC1.out
 simp only [Try.f3] at hC1
 subst hC1
 clear HC1
 go_wp2_with fail
 go_at_call 12
 refine (known6 _).mono ?_
 rintro e w1 ⟨rfl, hw1⟩
 replace HB := lbB HB hw1
 replace HR1 := lbR HR1 hw1
 replace HR2 := lbR HR2 hw1
 replace HR3 := lbR HR3 hw1
 replace HG := lbG HG hw1
 replace HH := lbG HH hw1
 replace HP := lbP HP hw1
 clear hw1
 clear hg0 hg1 hg2 hg3 hg4 hg5 hg6 hh0 hh1 hh2 hh3 hh4 hh5 hh6 hp0 hp1 hp2 hp3 hp4 hp5 hp6 hp7 hp8 hp9
 obtain ⟨hg0, hg1, hg2, hg3, hg4, hg5, hg6⟩ := HG.out.box
 obtain ⟨hh0, hh1, hh2, hh3, hh4, hh5, hh6⟩ := HH.out.box
 obtain ⟨hp0, hp1, hp2, hp3, hp4, hp5, hp6, hp7, hp8, hp9⟩ := HP.out.box
 go_wp2_with fail
 go_at_call 13
 refine (HF1.out A c _ HR1.out).mono ?_
 rintro e w2 ⟨rfl, hw2⟩
 replace HB := lbB HB hw2
 replace HR1 := lbR HR1 hw2
 replace HR2 := lbR HR2 hw2
 replace HR3 := lbR HR3 hw2
 replace HG := lbG HG hw2
 replace HH := lbG HH hw2
 replace HP := lbP HP hw2
 clear hw2
 clear hg0 hg1 hg2 hg3 hg4 hg5 hg6 hh0 hh1 hh2 hh3 hh4 hh5 hh6 hp0 hp1 hp2 hp3 hp4 hp5 hp6 hp7 hp8 hp9
 obtain ⟨hg0, hg1, hg2, hg3, hg4, hg5, hg6⟩ := HG.out.box
 obtain ⟨hh0, hh1, hh2, hh3, hh4, hh5, hh6⟩ := HH.out.box
 obtain ⟨hp0, hp1, hp2, hp3, hp4, hp5, hp6, hp7, hp8, hp9⟩ := HP.out.box
 go_wp2_with fail
 go_ret
 exact ⟨rfl, HB.out.b⟩
set_option maxHeartbeats 8000000 in
set_option maxRecDepth 100000 in
theorem tells6_n2 (g : Grp) (A : Option Addr) (c : Nat) (h : Grp) (B : Option Addr) (d : Nat) (p : Prt) (Ap : Option Addr) (cp : Nat) (w : World) (hg : Rd w A c g.l) (hh : Rd w B d h.l) (hp : Rd w Ap cp p.l) {r1 r2 r3 : Bool} (hf1 : (∀ (A : Option Addr) (c : Nat) (w : World), Rd w A c g.l → Calls Try.prog 13 #[vG g A c] w fun e w' => e = .returned (.bool r1) ∧ Below w.heap.size w w')) (hf2 : (∀ (A : Option Addr) (c : Nat) (w : World), Rd w A c h.l → Calls Try.prog 13 #[vG h A c] w fun e w' => e = .returned (.bool r2) ∧ Below w.heap.size w w')) (hf3 : (∀ (A : Option Addr) (c : Nat) (w : World), Rd w A c p.l → Calls Try.prog 14 #[vP p A c] w fun e w' => e = .returned (.bool r3) ∧ Below w.heap.size w w')) (x1 : r1 = true) (x2 : r2 = false) :
  Calls Try.prog 3 #[vG g A c, vG h B d, vP p Ap cp] w fun e w' => e = .returned (.bool true) ∧ Below w.heap.size w w' := by
 subst x1
 subst x2
 have HF1 := Aside0.mk hf1
 have HF2 := Aside0.mk hf2
 have HF3 := Aside0.mk hf3
 obtain ⟨s, hs⟩ : ∃ s, w.heap.size = s := ⟨_, rfl⟩
 have HSs := Aside0.mk hs
 unfold vG vP
 go_enter Try.func3, Try.ntmps3
 have HB := Aside0.mk (Bel.refl w)
 have HR1 := Aside0.mk (hg)
 have HR2 := Aside0.mk (hh)
 have HR3 := Aside0.mk (hp)
 clear hf1 hf2 hf3 hg hh hp
 obtain ⟨C1, hC1⟩ : ∃ C, (match Try.f3.body with | some (.seq _ c) => c | _ => .skip) = C := ⟨_, rfl⟩
 have HC1 := Aside0.mk hC1
 simp only [Try.f3] at hC1
 rw [hC1]
 clear hC1
 go_wp2
 replace HB := laB HB (.cells #[.int .i64 g.id, .int .i64 g.fi, .int .i64 g.tm, .int .i64 g.ht, .int .i64 g.hv, .int .i64 g.hc, .slice A g.l.length c] 26)
 replace HR1 := laR HR1 (.cells #[.int .i64 g.id, .int .i64 g.fi, .int .i64 g.tm, .int .i64 g.ht, .int .i64 g.hv, .int .i64 g.hc, .slice A g.l.length c] 26)
 replace HR2 := laR HR2 (.cells #[.int .i64 g.id, .int .i64 g.fi, .int .i64 g.tm, .int .i64 g.ht, .int .i64 g.hv, .int .i64 g.hc, .slice A g.l.length c] 26)
 replace HR3 := laR HR3 (.cells #[.int .i64 g.id, .int .i64 g.fi, .int .i64 g.tm, .int .i64 g.ht, .int .i64 g.hv, .int .i64 g.hc, .slice A g.l.length c] 26)
 replace HB := laB HB (.cells #[.int .i64 h.id, .int .i64 h.fi, .int .i64 h.tm, .int .i64 h.ht, .int .i64 h.hv, .int .i64 h.hc, .slice B h.l.length d] 26)
 replace HR1 := laR HR1 (.cells #[.int .i64 h.id, .int .i64 h.fi, .int .i64 h.tm, .int .i64 h.ht, .int .i64 h.hv, .int .i64 h.hc, .slice B h.l.length d] 26)
 replace HR2 := laR HR2 (.cells #[.int .i64 h.id, .int .i64 h.fi, .int .i64 h.tm, .int .i64 h.ht, .int .i64 h.hv, .int .i64 h.hc, .slice B h.l.length d] 26)
 replace HR3 := laR HR3 (.cells #[.int .i64 h.id, .int .i64 h.fi, .int .i64 h.tm, .int .i64 h.ht, .int .i64 h.hv, .int .i64 h.hc, .slice B h.l.length d] 26)
 replace HB := laB HB (.cells #[.int .i64 p.g, .int .i64 p.k, .slice Ap p.l.length cp, .int .i64 p.ht, .int .i64 p.hv, .int .i64 p.hc, .int .i64 p.ix, .int .i64 p.tm, .bool p.mrk, .bool p.hed] 28)
 replace HR1 := laR HR1 (.cells #[.int .i64 p.g, .int .i64 p.k, .slice Ap p.l.length cp, .int .i64 p.ht, .int .i64 p.hv, .int .i64 p.hc, .int .i64 p.ix, .int .i64 p.tm, .bool p.mrk, .bool p.hed] 28)
 replace HR2 := laR HR2 (.cells #[.int .i64 p.g, .int .i64 p.k, .slice Ap p.l.length cp, .int .i64 p.ht, .int .i64 p.hv, .int .i64 p.hc, .int .i64 p.ix, .int .i64 p.tm, .bool p.mrk, .bool p.hed] 28)
 replace HR3 := laR HR3 (.cells #[.int .i64 p.g, .int .i64 p.k, .slice Ap p.l.length cp, .int .i64 p.ht, .int .i64 p.hv, .int .i64 p.hc, .int .i64 p.ix, .int .i64 p.tm, .bool p.mrk, .bool p.hed] 28)
 have HG := Aside0.mk ((by have hq := BlkG.new g A c w; rw [hs] at hq; exact (hq.alloc (.cells #[.int .i64 h.id, .int .i64 h.fi, .int .i64 h.tm, .int .i64 h.ht, .int .i64 h.hv, .int .i64 h.hc, .slice B h.l.length d] 26)).alloc (.cells #[.int .i64 p.g, .int .i64 p.k, .slice Ap p.l.length cp, .int .i64 p.ht, .int .i64 p.hv, .int .i64 p.hc, .int .i64 p.ix, .int .i64 p.tm, .bool p.mrk, .bool p.hed] 28)))
 have HH := Aside0.mk ((by have hq := BlkG.new h B d (w.alloc (.cells #[.int .i64 g.id, .int .i64 g.fi, .int .i64 g.tm, .int .i64 g.ht, .int .i64 g.hv, .int .i64 g.hc, .slice A g.l.length c] 26)); rw [World.size_alloc, hs] at hq; exact hq.alloc (.cells #[.int .i64 p.g, .int .i64 p.k, .slice Ap p.l.length cp, .int .i64 p.ht, .int .i64 p.hv, .int .i64 p.hc, .int .i64 p.ix, .int .i64 p.tm, .bool p.mrk, .bool p.hed] 28)))
 have HP := Aside0.mk ((by have hq := BlkP.new p Ap cp ((w.alloc (.cells #[.int .i64 g.id, .int .i64 g.fi, .int .i64 g.tm, .int .i64 g.ht, .int .i64 g.hv, .int .i64 g.hc, .slice A g.l.length c] 26)).alloc (.cells #[.int .i64 h.id, .int .i64 h.fi, .int .i64 h.tm, .int .i64 h.ht, .int .i64 h.hv, .int .i64 h.hc, .slice B h.l.length d] 26)); rw [World.size_alloc, World.size_alloc, hs] at hq; exact hq))
 obtain ⟨W0, hW0⟩ : ∃ W, ((w.alloc (.cells #[.int .i64 g.id, .int .i64 g.fi, .int .i64 g.tm, .int .i64 g.ht, .int .i64 g.hv, .int .i64 g.hc, .slice A g.l.length c] 26)).alloc (.cells #[.int .i64 h.id, .int .i64 h.fi, .int .i64 h.tm, .int .i64 h.ht, .int .i64 h.hv, .int .i64 h.hc, .slice B h.l.length d] 26)).alloc (.cells #[.int .i64 p.g, .int .i64 p.k, .slice Ap p.l.length cp, .int .i64 p.ht, .int .i64 p.hv, .int .i64 p.hc, .int .i64 p.ix, .int .i64 p.tm, .bool p.mrk, .bool p.hed] 28) = W := ⟨_, rfl⟩
 rw [hW0] at HB HR1 HR2 HR3 HG HH HP ⊢
 clear hW0
 clear hs
 obtain ⟨hg0, hg1, hg2, hg3, hg4, hg5, hg6⟩ := HG.out.box
 obtain ⟨hh0, hh1, hh2, hh3, hh4, hh5, hh6⟩ := HH.out.box
 obtain ⟨hp0, hp1, hp2, hp3, hp4, hp5, hp6, hp7, hp8, hp9⟩ := HP.out.box
 have hC1 := HC1.out
 simp only [Try.f3] at hC1
 subst hC1
 clear HC1
 go_wp2_with fail
 go_at_call 12
 refine (known6 _).mono ?_
 rintro e w1 ⟨rfl, hw1⟩
 replace HB := lbB HB hw1
 replace HR1 := lbR HR1 hw1
 replace HR2 := lbR HR2 hw1
 replace HR3 := lbR HR3 hw1
 replace HG := lbG HG hw1
 replace HH := lbG HH hw1
 replace HP := lbP HP hw1
 clear hw1
 clear hg0 hg1 hg2 hg3 hg4 hg5 hg6 hh0 hh1 hh2 hh3 hh4 hh5 hh6 hp0 hp1 hp2 hp3 hp4 hp5 hp6 hp7 hp8 hp9
 obtain ⟨hg0, hg1, hg2, hg3, hg4, hg5, hg6⟩ := HG.out.box
 obtain ⟨hh0, hh1, hh2, hh3, hh4, hh5, hh6⟩ := HH.out.box
 obtain ⟨hp0, hp1, hp2, hp3, hp4, hp5, hp6, hp7, hp8, hp9⟩ := HP.out.box
 go_wp2_with fail
 go_at_call 13
 refine (HF1.out A c _ HR1.out).mono ?_
 rintro e w2 ⟨rfl, hw2⟩
 replace HB := lbB HB hw2
 replace HR1 := lbR HR1 hw2
 replace HR2 := lbR HR2 hw2
 replace HR3 := lbR HR3 hw2
 replace HG := lbG HG hw2
 replace HH := lbG HH hw2
 replace HP := lbP HP hw2
 clear hw2
 clear hg0 hg1 hg2 hg3 hg4 hg5 hg6 hh0 hh1 hh2 hh3 hh4 hh5 hh6 hp0 hp1 hp2 hp3 hp4 hp5 hp6 hp7 hp8 hp9
 obtain ⟨hg0, hg1, hg2, hg3, hg4, hg5, hg6⟩ := HG.out.box
 obtain ⟨hh0, hh1, hh2, hh3, hh4, hh5, hh6⟩ := HH.out.box
 obtain ⟨hp0, hp1, hp2, hp3, hp4, hp5, hp6, hp7, hp8, hp9⟩ := HP.out.box
 go_wp2_with fail
 go_at_call 13
 refine (HF2.out B d _ HR2.out).mono ?_
 rintro e w3 ⟨rfl, hw3⟩
 replace HB := lbB HB hw3
 replace HR1 := lbR HR1 hw3
 replace HR2 := lbR HR2 hw3
 replace HR3 := lbR HR3 hw3
 replace HG := lbG HG hw3
 replace HH := lbG HH hw3
 replace HP := lbP HP hw3
 clear hw3
 clear hg0 hg1 hg2 hg3 hg4 hg5 hg6 hh0 hh1 hh2 hh3 hh4 hh5 hh6 hp0 hp1 hp2 hp3 hp4 hp5 hp6 hp7 hp8 hp9
 obtain ⟨hg0, hg1, hg2, hg3, hg4, hg5, hg6⟩ := HG.out.box
 obtain ⟨hh0, hh1, hh2, hh3, hh4, hh5, hh6⟩ := HH.out.box
 obtain ⟨hp0, hp1, hp2, hp3, hp4, hp5, hp6, hp7, hp8, hp9⟩ := HP.out.box
 go_wp2_with fail
 go_ret
 exact ⟨rfl, HB.out.b⟩
set_option maxHeartbeats 8000000 in
set_option maxRecDepth 100000 in
theorem tells6_n3 (g : Grp) (A : Option Addr) (c : Nat) (h : Grp) (B : Option Addr) (d : Nat) (p : Prt) (Ap : Option Addr) (cp : Nat) (w : World) (hg : Rd w A c g.l) (hh : Rd w B d h.l) (hp : Rd w Ap cp p.l) {r1 r2 r3 : Bool} (hf1 : (∀ (A : Option Addr) (c : Nat) (w : World), Rd w A c g.l → Calls Try.prog 13 #[vG g A c] w fun e w' => e = .returned (.bool r1) ∧ Below w.heap.size w w')) (hf2 : (∀ (A : Option Addr) (c : Nat) (w : World), Rd w A c h.l → Calls Try.prog 13 #[vG h A c] w fun e w' => e = .returned (.bool r2) ∧ Below w.heap.size w w')) (hf3 : (∀ (A : Option Addr) (c : Nat) (w : World), Rd w A c p.l → Calls Try.prog 14 #[vP p A c] w fun e w' => e = .returned (.bool r3) ∧ Below w.heap.size w w')) (x1 : r1 = true) (x2 : r2 = true) (x3 : r3 = false) :
  Calls Try.prog 3 #[vG g A c, vG h B d, vP p Ap cp] w fun e w' => e = .returned (.bool true) ∧ Below w.heap.size w w' := by
 subst x1
 subst x2
 subst x3
 have HF1 := Aside0.mk hf1
 have HF2 := Aside0.mk hf2
 have HF3 := Aside0.mk hf3
 obtain ⟨s, hs⟩ : ∃ s, w.heap.size = s := ⟨_, rfl⟩
 have HSs := Aside0.mk hs
 unfold vG vP
 go_enter Try.func3, Try.ntmps3
 have HB := Aside0.mk (Bel.refl w)
 have HR1 := Aside0.mk (hg)
 have HR2 := Aside0.mk (hh)
 have HR3 := Aside0.mk (hp)
 clear hf1 hf2 hf3 hg hh hp
 obtain ⟨C1, hC1⟩ : ∃ C, (match Try.f3.body with | some (.seq _ c) => c | _ => .skip) = C := ⟨_, rfl⟩
 have HC1 := Aside0.mk hC1
 simp only [Try.f3] at hC1
 rw [hC1]
 clear hC1
 go_wp2
 replace HB := laB HB (.cells #[.int .i64 g.id, .int .i64 g.fi, .int .i64 g.tm, .int .i64 g.ht, .int .i64 g.hv, .int .i64 g.hc, .slice A g.l.length c] 26)
 replace HR1 := laR HR1 (.cells #[.int .i64 g.id, .int .i64 g.fi, .int .i64 g.tm, .int .i64 g.ht, .int .i64 g.hv, .int .i64 g.hc, .slice A g.l.length c] 26)
 replace HR2 := laR HR2 (.cells #[.int .i64 g.id, .int .i64 g.fi, .int .i64 g.tm, .int .i64 g.ht, .int .i64 g.hv, .int .i64 g.hc, .slice A g.l.length c] 26)
 replace HR3 := laR HR3 (.cells #[.int .i64 g.id, .int .i64 g.fi, .int .i64 g.tm, .int .i64 g.ht, .int .i64 g.hv, .int .i64 g.hc, .slice A g.l.length c] 26)
 replace HB := laB HB (.cells #[.int .i64 h.id, .int .i64 h.fi, .int .i64 h.tm, .int .i64 h.ht, .int .i64 h.hv, .int .i64 h.hc, .slice B h.l.length d] 26)
 replace HR1 := laR HR1 (.cells #[.int .i64 h.id, .int .i64 h.fi, .int .i64 h.tm, .int .i64 h.ht, .int .i64 h.hv, .int .i64 h.hc, .slice B h.l.length d] 26)
 replace HR2 := laR HR2 (.cells #[.int .i64 h.id, .int .i64 h.fi, .int .i64 h.tm, .int .i64 h.ht, .int .i64 h.hv, .int .i64 h.hc, .slice B h.l.length d] 26)
 replace HR3 := laR HR3 (.cells #[.int .i64 h.id, .int .i64 h.fi, .int .i64 h.tm, .int .i64 h.ht, .int .i64 h.hv, .int .i64 h.hc, .slice B h.l.length d] 26)
 replace HB := laB HB (.cells #[.int .i64 p.g, .int .i64 p.k, .slice Ap p.l.length cp, .int .i64 p.ht, .int .i64 p.hv, .int .i64 p.hc, .int .i64 p.ix, .int .i64 p.tm, .bool p.mrk, .bool p.hed] 28)
 replace HR1 := laR HR1 (.cells #[.int .i64 p.g, .int .i64 p.k, .slice Ap p.l.length cp, .int .i64 p.ht, .int .i64 p.hv, .int .i64 p.hc, .int .i64 p.ix, .int .i64 p.tm, .bool p.mrk, .bool p.hed] 28)
 replace HR2 := laR HR2 (.cells #[.int .i64 p.g, .int .i64 p.k, .slice Ap p.l.length cp, .int .i64 p.ht, .int .i64 p.hv, .int .i64 p.hc, .int .i64 p.ix, .int .i64 p.tm, .bool p.mrk, .bool p.hed] 28)
 replace HR3 := laR HR3 (.cells #[.int .i64 p.g, .int .i64 p.k, .slice Ap p.l.length cp, .int .i64 p.ht, .int .i64 p.hv, .int .i64 p.hc, .int .i64 p.ix, .int .i64 p.tm, .bool p.mrk, .bool p.hed] 28)
 have HG := Aside0.mk ((by have hq := BlkG.new g A c w; rw [hs] at hq; exact (hq.alloc (.cells #[.int .i64 h.id, .int .i64 h.fi, .int .i64 h.tm, .int .i64 h.ht, .int .i64 h.hv, .int .i64 h.hc, .slice B h.l.length d] 26)).alloc (.cells #[.int .i64 p.g, .int .i64 p.k, .slice Ap p.l.length cp, .int .i64 p.ht, .int .i64 p.hv, .int .i64 p.hc, .int .i64 p.ix, .int .i64 p.tm, .bool p.mrk, .bool p.hed] 28)))
 have HH := Aside0.mk ((by have hq := BlkG.new h B d (w.alloc (.cells #[.int .i64 g.id, .int .i64 g.fi, .int .i64 g.tm, .int .i64 g.ht, .int .i64 g.hv, .int .i64 g.hc, .slice A g.l.length c] 26)); rw [World.size_alloc, hs] at hq; exact hq.alloc (.cells #[.int .i64 p.g, .int .i64 p.k, .slice Ap p.l.length cp, .int .i64 p.ht, .int .i64 p.hv, .int .i64 p.hc, .int .i64 p.ix, .int .i64 p.tm, .bool p.mrk, .bool p.hed] 28)))
 have HP := Aside0.mk ((by have hq := BlkP.new p Ap cp ((w.alloc (.cells #[.int .i64 g.id, .int .i64 g.fi, .int .i64 g.tm, .int .i64 g.ht, .int .i64 g.hv, .int .i64 g.hc, .slice A g.l.length c] 26)).alloc (.cells #[.int .i64 h.id, .int .i64 h.fi, .int .i64 h.tm, .int .i64 h.ht, .int .i64 h.hv, .int .i64 h.hc, .slice B h.l.length d] 26)); rw [World.size_alloc, World.size_alloc, hs] at hq; exact hq))
 obtain ⟨W0, hW0⟩ : ∃ W, ((w.alloc (.cells #[.int .i64 g.id, .int .i64 g.fi, .int .i64 g.tm, .int .i64 g.ht, .int .i64 g.hv, .int .i64 g.hc, .slice A g.l.length c] 26)).alloc (.cells #[.int .i64 h.id, .int .i64 h.fi, .int .i64 h.tm, .int .i64 h.ht, .int .i64 h.hv, .int .i64 h.hc, .slice B h.l.length d] 26)).alloc (.cells #[.int .i64 p.g, .int .i64 p.k, .slice Ap p.l.length cp, .int .i64 p.ht, .int .i64 p.hv, .int .i64 p.hc, .int .i64 p.ix, .int .i64 p.tm, .bool p.mrk, .bool p.hed] 28) = W := ⟨_, rfl⟩
 rw [hW0] at HB HR1 HR2 HR3 HG HH HP ⊢
 clear hW0
 clear hs
 obtain ⟨hg0, hg1, hg2, hg3, hg4, hg5, hg6⟩ := HG.out.box
 obtain ⟨hh0, hh1, hh2, hh3, hh4, hh5, hh6⟩ := HH.out.box
 obtain ⟨hp0, hp1, hp2, hp3, hp4, hp5, hp6, hp7, hp8, hp9⟩ := HP.out.box
 have hC1 := HC1.out
 simp only [Try.f3] at hC1
 subst hC1
 clear HC1
 go_wp2_with fail
 go_at_call 12
 refine (known6 _).mono ?_
 rintro e w1 ⟨rfl, hw1⟩
 replace HB := lbB HB hw1
 replace HR1 := lbR HR1 hw1
 replace HR2 := lbR HR2 hw1
 replace HR3 := lbR HR3 hw1
 replace HG := lbG HG hw1
 replace HH := lbG HH hw1
 replace HP := lbP HP hw1
 clear hw1
 clear hg0 hg1 hg2 hg3 hg4 hg5 hg6 hh0 hh1 hh2 hh3 hh4 hh5 hh6 hp0 hp1 hp2 hp3 hp4 hp5 hp6 hp7 hp8 hp9
 obtain ⟨hg0, hg1, hg2, hg3, hg4, hg5, hg6⟩ := HG.out.box
 obtain ⟨hh0, hh1, hh2, hh3, hh4, hh5, hh6⟩ := HH.out.box
 obtain ⟨hp0, hp1, hp2, hp3, hp4, hp5, hp6, hp7, hp8, hp9⟩ := HP.out.box
 go_wp2_with fail
 go_at_call 13
 refine (HF1.out A c _ HR1.out).mono ?_
 rintro e w2 ⟨rfl, hw2⟩
 replace HB := lbB HB hw2
 replace HR1 := lbR HR1 hw2
 replace HR2 := lbR HR2 hw2
 replace HR3 := lbR HR3 hw2
 replace HG := lbG HG hw2
 replace HH := lbG HH hw2
 replace HP := lbP HP hw2
 clear hw2
 clear hg0 hg1 hg2 hg3 hg4 hg5 hg6 hh0 hh1 hh2 hh3 hh4 hh5 hh6 hp0 hp1 hp2 hp3 hp4 hp5 hp6 hp7 hp8 hp9
 obtain ⟨hg0, hg1, hg2, hg3, hg4, hg5, hg6⟩ := HG.out.box
 obtain ⟨hh0, hh1, hh2, hh3, hh4, hh5, hh6⟩ := HH.out.box
 obtain ⟨hp0, hp1, hp2, hp3, hp4, hp5, hp6, hp7, hp8, hp9⟩ := HP.out.box
 go_wp2_with fail
 go_at_call 13
 refine (HF2.out B d _ HR2.out).mono ?_
 rintro e w3 ⟨rfl, hw3⟩
 replace HB := lbB HB hw3
 replace HR1 := lbR HR1 hw3
 replace HR2 := lbR HR2 hw3
 replace HR3 := lbR HR3 hw3
 replace HG := lbG HG hw3
 replace HH := lbG HH hw3
 replace HP := lbP HP hw3
 clear hw3
 clear hg0 hg1 hg2 hg3 hg4 hg5 hg6 hh0 hh1 hh2 hh3 hh4 hh5 hh6 hp0 hp1 hp2 hp3 hp4 hp5 hp6 hp7 hp8 hp9
 obtain ⟨hg0, hg1, hg2, hg3, hg4, hg5, hg6⟩ := HG.out.box
 obtain ⟨hh0, hh1, hh2, hh3, hh4, hh5, hh6⟩ := HH.out.box
 obtain ⟨hp0, hp1, hp2, hp3, hp4, hp5, hp6, hp7, hp8, hp9⟩ := HP.out.box
 go_wp2_with fail
 go_at_call 14
 refine (HF3.out Ap cp _ HR3.out).mono ?_
 rintro e w4 ⟨rfl, hw4⟩
 replace HB := lbB HB hw4
 replace HR1 := lbR HR1 hw4
 replace HR2 := lbR HR2 hw4
 replace HR3 := lbR HR3 hw4
 replace HG := lbG HG hw4
 replace HH := lbG HH hw4
 replace HP := lbP HP hw4
 clear hw4
 clear hg0 hg1 hg2 hg3 hg4 hg5 hg6 hh0 hh1 hh2 hh3 hh4 hh5 hh6 hp0 hp1 hp2 hp3 hp4 hp5 hp6 hp7 hp8 hp9
 obtain ⟨hg0, hg1, hg2, hg3, hg4, hg5, hg6⟩ := HG.out.box
 obtain ⟨hh0, hh1, hh2, hh3, hh4, hh5, hh6⟩ := HH.out.box
 obtain ⟨hp0, hp1, hp2, hp3, hp4, hp5, hp6, hp7, hp8, hp9⟩ := HP.out.box
 go_wp2_with fail
 go_ret
 exact ⟨rfl, HB.out.b⟩
set_option maxHeartbeats 8000000 in
set_option maxRecDepth 100000 in
theorem tells6_n4 (g : Grp) (A : Option Addr) (c : Nat) (h : Grp) (B : Option Addr) (d : Nat) (p : Prt) (Ap : Option Addr) (cp : Nat) (w : World) (hg : Rd w A c g.l) (hh : Rd w B d h.l) (hp : Rd w Ap cp p.l) {r1 r2 r3 : Bool} (hf1 : (∀ (A : Option Addr) (c : Nat) (w : World), Rd w A c g.l → Calls Try.prog 13 #[vG g A c] w fun e w' => e = .returned (.bool r1) ∧ Below w.heap.size w w')) (hf2 : (∀ (A : Option Addr) (c : Nat) (w : World), Rd w A c h.l → Calls Try.prog 13 #[vG h A c] w fun e w' => e = .returned (.bool r2) ∧ Below w.heap.size w w')) (hf3 : (∀ (A : Option Addr) (c : Nat) (w : World), Rd w A c p.l → Calls Try.prog 14 #[vP p A c] w fun e w' => e = .returned (.bool r3) ∧ Below w.heap.size w w')) (x1 : r1 = true) (x2 : r2 = true) (x3 : r3 = true) (x4 : isG true g = false) :
  Calls Try.prog 3 #[vG g A c, vG h B d, vP p Ap cp] w fun e w' => e = .returned (.bool true) ∧ Below w.heap.size w w' := by
 subst x1
 subst x2
 subst x3
 obtain ⟨b2, hb2⟩ : ∃ b, sameG g h = b := ⟨_, rfl⟩
 have J2 := Aside0.mk hb2
 obtain ⟨N, hN⟩ : ∃ N : Grp, (⟨g.id, 1, 0, 0, 0, 0, []⟩ : Grp) = N := ⟨_, rfl⟩
 have J3 := Aside0.mk hN
 have J4 : Aside0 (sameG N N = true) := ⟨sameG_iff.2 rfl⟩
 clear hb2 hN
 have J1 := Aside0.mk x4
 clear x4
 have HF1 := Aside0.mk hf1
 have HF2 := Aside0.mk hf2
 have HF3 := Aside0.mk hf3
 obtain ⟨s, hs⟩ : ∃ s, w.heap.size = s := ⟨_, rfl⟩
 have HSs := Aside0.mk hs
 unfold vG vP
 go_enter Try.func3, Try.ntmps3
 have HB := Aside0.mk (Bel.refl w)
 have HR1 := Aside0.mk (hg)
 have HR2 := Aside0.mk (hh)
 have HR3 := Aside0.mk (hp)
 clear hf1 hf2 hf3 hg hh hp
 obtain ⟨C1, hC1⟩ : ∃ C, (match Try.f3.body with | some (.seq _ c) => c | _ => .skip) = C := ⟨_, rfl⟩
 have HC1 := Aside0.mk hC1
 simp only [Try.f3] at hC1
 rw [hC1]
 clear hC1
 go_wp2
 replace HB := laB HB (.cells #[.int .i64 g.id, .int .i64 g.fi, .int .i64 g.tm, .int .i64 g.ht, .int .i64 g.hv, .int .i64 g.hc, .slice A g.l.length c] 26)
 replace HR1 := laR HR1 (.cells #[.int .i64 g.id, .int .i64 g.fi, .int .i64 g.tm, .int .i64 g.ht, .int .i64 g.hv, .int .i64 g.hc, .slice A g.l.length c] 26)
 replace HR2 := laR HR2 (.cells #[.int .i64 g.id, .int .i64 g.fi, .int .i64 g.tm, .int .i64 g.ht, .int .i64 g.hv, .int .i64 g.hc, .slice A g.l.length c] 26)
 replace HR3 := laR HR3 (.cells #[.int .i64 g.id, .int .i64 g.fi, .int .i64 g.tm, .int .i64 g.ht, .int .i64 g.hv, .int .i64 g.hc, .slice A g.l.length c] 26)
 replace HB := laB HB (.cells #[.int .i64 h.id, .int .i64 h.fi, .int .i64 h.tm, .int .i64 h.ht, .int .i64 h.hv, .int .i64 h.hc, .slice B h.l.length d] 26)
 replace HR1 := laR HR1 (.cells #[.int .i64 h.id, .int .i64 h.fi, .int .i64 h.tm, .int .i64 h.ht, .int .i64 h.hv, .int .i64 h.hc, .slice B h.l.length d] 26)
 replace HR2 := laR HR2 (.cells #[.int .i64 h.id, .int .i64 h.fi, .int .i64 h.tm, .int .i64 h.ht, .int .i64 h.hv, .int .i64 h.hc, .slice B h.l.length d] 26)
 replace HR3 := laR HR3 (.cells #[.int .i64 h.id, .int .i64 h.fi, .int .i64 h.tm, .int .i64 h.ht, .int .i64 h.hv, .int .i64 h.hc, .slice B h.l.length d] 26)
 replace HB := laB HB (.cells #[.int .i64 p.g, .int .i64 p.k, .slice Ap p.l.length cp, .int .i64 p.ht, .int .i64 p.hv, .int .i64 p.hc, .int .i64 p.ix, .int .i64 p.tm, .bool p.mrk, .bool p.hed] 28)
 replace HR1 := laR HR1 (.cells #[.int .i64 p.g, .int .i64 p.k, .slice Ap p.l.length cp, .int .i64 p.ht, .int .i64 p.hv, .int .i64 p.hc, .int .i64 p.ix, .int .i64 p.tm, .bool p.mrk, .bool p.hed] 28)
 replace HR2 := laR HR2 (.cells #[.int .i64 p.g, .int .i64 p.k, .slice Ap p.l.length cp, .int .i64 p.ht, .int .i64 p.hv, .int .i64 p.hc, .int .i64 p.ix, .int .i64 p.tm, .bool p.mrk, .bool p.hed] 28)
 replace HR3 := laR HR3 (.cells #[.int .i64 p.g, .int .i64 p.k, .slice Ap p.l.length cp, .int .i64 p.ht, .int .i64 p.hv, .int .i64 p.hc, .int .i64 p.ix, .int .i64 p.tm, .bool p.mrk, .bool p.hed] 28)
 have HG := Aside0.mk ((by have hq := BlkG.new g A c w; rw [hs] at hq; exact (hq.alloc (.cells #[.int .i64 h.id, .int .i64 h.fi, .int .i64 h.tm, .int .i64 h.ht, .int .i64 h.hv, .int .i64 h.hc, .slice B h.l.length d] 26)).alloc (.cells #[.int .i64 p.g, .int .i64 p.k, .slice Ap p.l.length cp, .int .i64 p.ht, .int .i64 p.hv, .int .i64 p.hc, .int .i64 p.ix, .int .i64 p.tm, .bool p.mrk, .bool p.hed] 28)))
 have HH := Aside0.mk ((by have hq := BlkG.new h B d (w.alloc (.cells #[.int .i64 g.id, .int .i64 g.fi, .int .i64 g.tm, .int .i64 g.ht, .int .i64 g.hv, .int .i64 g.hc, .slice A g.l.length c] 26)); rw [World.size_alloc, hs] at hq; exact hq.alloc (.cells #[.int .i64 p.g, .int .i64 p.k, .slice Ap p.l.length cp, .int .i64 p.ht, .int .i64 p.hv, .int .i64 p.hc, .int .i64 p.ix, .int .i64 p.tm, .bool p.mrk, .bool p.hed] 28)))
 have HP := Aside0.mk ((by have hq := BlkP.new p Ap cp ((w.alloc (.cells #[.int .i64 g.id, .int .i64 g.fi, .int .i64 g.tm, .int .i64 g.ht, .int .i64 g.hv, .int .i64 g.hc, .slice A g.l.length c] 26)).alloc (.cells #[.int .i64 h.id, .int .i64 h.fi, .int .i64 h.tm, .int .i64 h.ht, .int .i64 h.hv, .int .i64 h.hc, .slice B h.l.length d] 26)); rw [World.size_alloc, World.size_alloc, hs] at hq; exact hq))
 obtain ⟨W0, hW0⟩ : ∃ W, ((w.alloc (.cells #[.int .i64 g.id, .int .i64 g.fi, .int .i64 g.tm, .int .i64 g.ht, .int .i64 g.hv, .int .i64 g.hc, .slice A g.l.length c] 26)).alloc (.cells #[.int .i64 h.id, .int .i64 h.fi, .int .i64 h.tm, .int .i64 h.ht, .int .i64 h.hv, .int .i64 h.hc, .slice B h.l.length d] 26)).alloc (.cells #[.int .i64 p.g, .int .i64 p.k, .slice Ap p.l.length cp, .int .i64 p.ht, .int .i64 p.hv, .int .i64 p.hc, .int .i64 p.ix, .int .i64 p.tm, .bool p.mrk, .bool p.hed] 28) = W := ⟨_, rfl⟩
 rw [hW0] at HB HR1 HR2 HR3 HG HH HP ⊢
 clear hW0
 clear hs
 obtain ⟨hg0, hg1, hg2, hg3, hg4, hg5, hg6⟩ := HG.out.box
 obtain ⟨hh0, hh1, hh2, hh3, hh4, hh5, hh6⟩ := HH.out.box
 obtain ⟨hp0, hp1, hp2, hp3, hp4, hp5, hp6, hp7, hp8, hp9⟩ := HP.out.box
 have hC1 := HC1.out
 simp only [Try.f3] at hC1
 subst hC1
 clear HC1
 go_wp2_with fail
 go_at_call 12
 refine (known6 _).mono ?_
 rintro e w1 ⟨rfl, hw1⟩
 replace HB := lbB HB hw1
 replace HR1 := lbR HR1 hw1
 replace HR2 := lbR HR2 hw1
 replace HR3 := lbR HR3 hw1
 replace HG := lbG HG hw1
 replace HH := lbG HH hw1
 replace HP := lbP HP hw1
 clear hw1
 clear hg0 hg1 hg2 hg3 hg4 hg5 hg6 hh0 hh1 hh2 hh3 hh4 hh5 hh6 hp0 hp1 hp2 hp3 hp4 hp5 hp6 hp7 hp8 hp9
 obtain ⟨hg0, hg1, hg2, hg3, hg4, hg5, hg6⟩ := HG.out.box
 obtain ⟨hh0, hh1, hh2, hh3, hh4, hh5, hh6⟩ := HH.out.box
 obtain ⟨hp0, hp1, hp2, hp3, hp4, hp5, hp6, hp7, hp8, hp9⟩ := HP.out.box
 go_wp2_with fail
 go_at_call 13
 refine (HF1.out A c _ HR1.out).mono ?_
 rintro e w2 ⟨rfl, hw2⟩
 replace HB := lbB HB hw2
 replace HR1 := lbR HR1 hw2
 replace HR2 := lbR HR2 hw2
 replace HR3 := lbR HR3 hw2
 replace HG := lbG HG hw2
 replace HH := lbG HH hw2
 replace HP := lbP HP hw2
 clear hw2
 clear hg0 hg1 hg2 hg3 hg4 hg5 hg6 hh0 hh1 hh2 hh3 hh4 hh5 hh6 hp0 hp1 hp2 hp3 hp4 hp5 hp6 hp7 hp8 hp9
 obtain ⟨hg0, hg1, hg2, hg3, hg4, hg5, hg6⟩ := HG.out.box
 obtain ⟨hh0, hh1, hh2, hh3, hh4, hh5, hh6⟩ := HH.out.box
 obtain ⟨hp0, hp1, hp2, hp3, hp4, hp5, hp6, hp7, hp8, hp9⟩ := HP.out.box
 go_wp2_with fail
 go_at_call 13
 refine (HF2.out B d _ HR2.out).mono ?_
 rintro e w3 ⟨rfl, hw3⟩
 replace HB := lbB HB hw3
 replace HR1 := lbR HR1 hw3
 replace HR2 := lbR HR2 hw3
 replace HR3 := lbR HR3 hw3
 replace HG := lbG HG hw3
 replace HH := lbG HH hw3
 replace HP := lbP HP hw3
 clear hw3
 clear hg0 hg1 hg2 hg3 hg4 hg5 hg6 hh0 hh1 hh2 hh3 hh4 hh5 hh6 hp0 hp1 hp2 hp3 hp4 hp5 hp6 hp7 hp8 hp9
 obtain ⟨hg0, hg1, hg2, hg3, hg4, hg5, hg6⟩ := HG.out.box
 obtain ⟨hh0, hh1, hh2, hh3, hh4, hh5, hh6⟩ := HH.out.box
 obtain ⟨hp0, hp1, hp2, hp3, hp4, hp5, hp6, hp7, hp8, hp9⟩ := HP.out.box
 go_wp2_with fail
 go_at_call 14
 refine (HF3.out Ap cp _ HR3.out).mono ?_
 rintro e w4 ⟨rfl, hw4⟩
 replace HB := lbB HB hw4
 replace HR1 := lbR HR1 hw4
 replace HR2 := lbR HR2 hw4
 replace HR3 := lbR HR3 hw4
 replace HG := lbG HG hw4
 replace HH := lbG HH hw4
 replace HP := lbP HP hw4
 clear hw4
 clear hg0 hg1 hg2 hg3 hg4 hg5 hg6 hh0 hh1 hh2 hh3 hh4 hh5 hh6 hp0 hp1 hp2 hp3 hp4 hp5 hp6 hp7 hp8 hp9
 obtain ⟨hg0, hg1, hg2, hg3, hg4, hg5, hg6⟩ := HG.out.box
 obtain ⟨hh0, hh1, hh2, hh3, hh4, hh5, hh6⟩ := HH.out.box
 obtain ⟨hp0, hp1, hp2, hp3, hp4, hp5, hp6, hp7, hp8, hp9⟩ := HP.out.box
 go_wp2_with fail
 clear hg0 hg1 hg2 hg3 hg4 hg5 hg6 hh0 hh1 hh2 hh3 hh4 hh5 hh6 hp0 hp1 hp2 hp3 hp4 hp5 hp6 hp7 hp8 hp9
 replace HB := ldB HB
 replace HR1 := ldR HR1
 replace HR2 := ldR HR2
 replace HR3 := ldR HR3
 replace HG := ldG HG
 replace HH := ldG HH
 replace HP := ldP HP
 refine start_ (n := 24) (S := (fun w' => BoxG g A c s w' ∧ BoxG h B d (s + 1) w')) (ds := []) #[false,false,false,false,false,false,false,false,false,false,false,false,false,false,false,false,false,false,false,false,false,false,false,false] (by kernel_rfl) rfl rfl ⟨HG.out.box, HH.out.box⟩ (fun hHeld => ?_)
 refine take_ (i := 0) (N := some 26) (v := ?_) (a' := ?_) #[true,false,false,false,false,false,false,false,false,false,false,false,false,false,false,false,false,false,false,false,false,false,false,false] rfl rfl (by kernel_rfl) (fun _ _ _ h => h) (Or.inl ⟨by rfl, ?_⟩) hHeld ?_ ?_
 rotate_left
 · rintro w' ⟨⟨hg0, hg1, hg2, hg3, hg4, hg5, hg6⟩, ⟨hh0, hh1, hh2, hh3, hh4, hh5, hh6⟩⟩
   go_simp
   try with_reducible rfl
 rotate_left
 · simp only [Act.put, sA, sB, sC]
   rfl
 refine take_ (i := 2) (N := some 28) (v := ?_) (a' := ?_) #[true,false,true,false,false,false,false,false,false,false,false,false,false,false,false,false,false,false,false,false,false,false,false,false] rfl rfl (by kernel_rfl) (fun _ _ _ h => h) (Or.inl ⟨by rfl, ?_⟩) hHeld ?_ ?_
 rotate_left
 · rintro w' ⟨⟨hg0, hg1, hg2, hg3, hg4, hg5, hg6⟩, ⟨hh0, hh1, hh2, hh3, hh4, hh5, hh6⟩⟩
   go_simp
   try with_reducible rfl
 rotate_left
 · simp only [Act.put, sA, sB, sC]
   rfl
 refine one_ (i := 1) (N := some 27) #[true,true,true,false,false,false,false,false,false,false,false,false,false,false,false,false,false,false,false,false,false,false,false,false] rfl rfl (by kernel_rfl) (by decide) (fun K hK => ?_)
 go_simp
 refine (gis_calls g A c _ HR1.out J1.out).mono ?_; rintro e w5 ⟨rfl, hw5⟩; replace HB := lbB HB hw5; replace HR1 := lbR HR1 hw5; replace HR2 := lbR HR2 hw5; replace HR3 := lbR HR3 hw5; replace HG := lbG HG hw5; replace HH := lbG HH hw5; replace HP := lbP HP hw5; clear hw5
 refine hK.out _ _ ?_ (fun hHeld => ?_)
 · exact ⟨HG.out.box, HH.out.box⟩
 clear hK K
 try simp only [Act.put, sA, sB, sC]
 refine one_ (i := 3) (N := some 29) #[true,true,true,true,false,false,false,false,false,false,false,false,false,false,false,false,false,false,false,false,false,false,false,false] rfl rfl (by kernel_rfl) (by decide) (fun K hK => ?_)
 go_simp
 refine (ris_c g A c _ HR1.out J1.out).mono ?_; rintro e w6 ⟨rfl, hw6⟩; replace HB := lbB HB hw6; replace HR1 := lbR HR1 hw6; replace HR2 := lbR HR2 hw6; replace HR3 := lbR HR3 hw6; replace HG := lbG HG hw6; replace HH := lbG HH hw6; replace HP := lbP HP hw6; clear hw6
 refine hK.out _ _ ?_ (fun hHeld => ?_)
 · exact ⟨HG.out.box, HH.out.box⟩
 clear hK K
 try simp only [Act.put, sA, sB, sC]
 refine pure_ (i := 4) (N := some 30) (v := ?_) (a' := ?_) #[true,true,true,true,true,false,false,false,false,false,false,false,false,false,false,false,false,false,false,false,false,false,false,false] rfl rfl (by kernel_rfl) (fun _ _ _ h => h) (Or.inl ⟨by rfl, ?_⟩) ?_ ?_
 rotate_left
 · intro w'
   go_simp
   try with_reducible rfl
 rotate_left
 · simp only [Act.put, sA, sB, sC]
   rfl
 refine pure_ (i := 5) (N := some 31) (v := ?_) (a' := ?_) #[true,true,true,true,true,true,false,false,false,false,false,false,false,false,false,false,false,false,false,false,false,false,false,false] rfl rfl (by kernel_rfl) (fun _ _ _ h => h) (Or.inl ⟨by rfl, ?_⟩) ?_ ?_
 rotate_left
 · intro w'
   go_simp
   try with_reducible rfl
 rotate_left
 · simp only [Act.put, sA, sB, sC]
   rfl
 refine take_ (i := 6) (N := some 32) (v := ?_) (a' := ?_) #[true,true,true,true,true,true,true,false,false,false,false,false,false,false,false,false,false,false,false,false,false,false,false,false] rfl rfl (by kernel_rfl) (fun _ _ _ h => h) (Or.inl ⟨by rfl, ?_⟩) hHeld ?_ ?_
 rotate_left
 · rintro w' ⟨⟨hg0, hg1, hg2, hg3, hg4, hg5, hg6⟩, ⟨hh0, hh1, hh2, hh3, hh4, hh5, hh6⟩⟩
   go_simp
   try with_reducible rfl
 rotate_left
 · simp only [Act.put, sA, sB, sC]
   rfl
 refine take_ (i := 7) (N := some 33) (v := ?_) (a' := ?_) #[true,true,true,true,true,true,true,true,false,false,false,false,false,false,false,false,false,false,false,false,false,false,false,false] rfl rfl (by kernel_rfl) (fun _ _ _ h => h) (Or.inl ⟨by rfl, ?_⟩) hHeld ?_ ?_
 rotate_left
 · rintro w' ⟨⟨hg0, hg1, hg2, hg3, hg4, hg5, hg6⟩, ⟨hh0, hh1, hh2, hh3, hh4, hh5, hh6⟩⟩
   go_simp
   try with_reducible rfl
 rotate_left
 · simp only [Act.put, sA, sB, sC]
   rfl
 refine take_ (i := 9) (N := some 35) (v := ?_) (a' := ?_) #[true,true,true,true,true,true,true,true,false,true,false,false,false,false,false,false,false,false,false,false,false,false,false,false] rfl rfl (by kernel_rfl) (fun _ _ _ h => h) (Or.inl ⟨by rfl, ?_⟩) hHeld ?_ ?_
 rotate_left
 · rintro w' ⟨⟨hg0, hg1, hg2, hg3, hg4, hg5, hg6⟩, ⟨hh0, hh1, hh2, hh3, hh4, hh5, hh6⟩⟩
   go_simp
   try with_reducible rfl
 rotate_left
 · simp only [Act.put, sA, sB, sC]
   rfl
 refine take_ (i := 10) (N := some 36) (v := ?_) (a' := ?_) #[true,true,true,true,true,true,true,true,false,true,true,false,false,false,false,false,false,false,false,false,false,false,false,false] rfl rfl (by kernel_rfl) (fun _ _ _ h => h) (Or.inl ⟨by rfl, ?_⟩) hHeld ?_ ?_
 rotate_left
 · rintro w' ⟨⟨hg0, hg1, hg2, hg3, hg4, hg5, hg6⟩, ⟨hh0, hh1, hh2, hh3, hh4, hh5, hh6⟩⟩
   go_simp
   try with_reducible rfl
 rotate_left
 · simp only [Act.put, sA, sB, sC]
   rfl
 refine one_ (i := 8) (N := some 34) #[true,true,true,true,true,true,true,true,true,true,true,false,false,false,false,false,false,false,false,false,false,false,false,false] rfl rfl (by kernel_rfl) (by decide) (fun K hK => ?_)
 go_simp
 refine (gsame_calls g h A c B d _ HR1.out HR2.out J2.out).mono ?_; rintro e w7 ⟨rfl, hw7⟩; replace HB := lbB HB hw7; replace HR1 := lbR HR1 hw7; replace HR2 := lbR HR2 hw7; replace HR3 := lbR HR3 hw7; replace HG := lbG HG hw7; replace HH := lbG HH hw7; replace HP := lbP HP hw7; clear hw7
 refine hK.out _ _ ?_ (fun hHeld => ?_)
 · exact ⟨HG.out.box, HH.out.box⟩
 clear hK K
 try simp only [Act.put, sA, sB, sC]
 refine one_ (i := 11) (N := some 37) #[true,true,true,true,true,true,true,true,true,true,true,true,false,false,false,false,false,false,false,false,false,false,false,false] rfl rfl (by kernel_rfl) (by decide) (fun K hK => ?_)
 go_simp
 refine (rsame_c g h A c B d _ HR1.out HR2.out J2.out).mono ?_; rintro e w8 ⟨rfl, hw8⟩; replace HB := lbB HB hw8; replace HR1 := lbR HR1 hw8; replace HR2 := lbR HR2 hw8; replace HR3 := lbR HR3 hw8; replace HG := lbG HG hw8; replace HH := lbG HH hw8; replace HP := lbP HP hw8; clear hw8
 refine hK.out _ _ ?_ (fun hHeld => ?_)
 · exact ⟨HG.out.box, HH.out.box⟩
 clear hK K
 try simp only [Act.put, sA, sB, sC]
 refine pure_ (i := 12) (N := some 38) (v := ?_) (a' := ?_) #[true,true,true,true,true,true,true,true,true,true,true,true,true,false,false,false,false,false,false,false,false,false,false,false] rfl rfl (by kernel_rfl) (fun _ _ _ h => h) (Or.inl ⟨by rfl, ?_⟩) ?_ ?_
 rotate_left
 · intro w'
   go_simp
   try with_reducible rfl
 rotate_left
 · simp only [Act.put, sA, sB, sC]
   rfl
 refine pure_ (i := 13) (N := some 39) (v := ?_) (a' := ?_) #[true,true,true,true,true,true,true,true,true,true,true,true,true,true,false,false,false,false,false,false,false,false,false,false] rfl rfl (by kernel_rfl) (fun _ _ _ h => h) (Or.inl ⟨by rfl, ?_⟩) ?_ ?_
 rotate_left
 · intro w'
   go_simp
   try with_reducible rfl
 rotate_left
 · simp only [Act.put, sA, sB, sC]
   rfl
 refine pure_ (i := 14) (N := some 40) (v := ?_) (a' := ?_) #[true,true,true,true,true,true,true,true,true,true,true,true,true,true,true,false,false,false,false,false,false,false,false,false] rfl rfl (by kernel_rfl) (fun _ _ _ h => h) (Or.inl ⟨by rfl, ?_⟩) ?_ ?_
 rotate_left
 · intro w'
   go_simp
   try with_reducible rfl
 rotate_left
 · simp only [Act.put, sA, sB, sC]
   rfl
 refine pure_ (i := 15) (N := some 41) (v := ?_) (a' := ?_) #[true,true,true,true,true,true,true,true,true,true,true,true,true,true,true,true,false,false,false,false,false,false,false,false] rfl rfl (by kernel_rfl) (fun _ _ _ h => h) (Or.inl ⟨by rfl, ?_⟩) ?_ ?_
 rotate_left
 · intro w'
   go_simp
   try with_reducible rfl
 rotate_left
 · simp only [Act.put, sA, sB, sC]
   rfl
 refine take_ (i := 16) (N := some 42) (v := ?_) (a' := ?_) #[true,true,true,true,true,true,true,true,true,true,true,true,true,true,true,true,true,false,false,false,false,false,false,false] rfl rfl (by kernel_rfl) (fun _ _ _ h => h) (Or.inl ⟨by rfl, ?_⟩) hHeld ?_ ?_
 rotate_left
 · rintro w' ⟨⟨hg0, hg1, hg2, hg3, hg4, hg5, hg6⟩, ⟨hh0, hh1, hh2, hh3, hh4, hh5, hh6⟩⟩
   go_simp
   try with_reducible rfl
 rotate_left
 · simp only [Act.put, sA, sB, sC]
   rfl
 refine pure_ (i := 18) (N := some 44) (v := ?_) (a' := ?_) #[true,true,true,true,true,true,true,true,true,true,true,true,true,true,true,true,true,false,true,false,false,false,false,false] rfl rfl (by kernel_rfl) (fun _ _ _ h => h) (Or.inl ⟨by rfl, ?_⟩) ?_ ?_
 rotate_left
 · intro w'
   go_simp
   try with_reducible rfl
 rotate_left
 · simp only [Act.put, sA, sB, sC]
   rfl
 refine take_ (i := 19) (N := some 45) (v := ?_) (a' := ?_) #[true,true,true,true,true,true,true,true,true,true,true,true,true,true,true,true,true,false,true,true,false,false,false,false] rfl rfl (by kernel_rfl) (fun _ _ _ h => h) (Or.inl ⟨by rfl, ?_⟩) hHeld ?_ ?_
 rotate_left
 · rintro w' ⟨⟨hg0, hg1, hg2, hg3, hg4, hg5, hg6⟩, ⟨hh0, hh1, hh2, hh3, hh4, hh5, hh6⟩⟩
   go_simp
   try with_reducible rfl
 rotate_left
 · simp only [Act.put, sA, sB, sC]
   rfl
 refine one_ (i := 17) (N := some 43) #[true,true,true,true,true,true,true,true,true,true,true,true,true,true,true,true,true,true,true,true,false,false,false,false] rfl rfl (by kernel_rfl) (by decide) (fun K hK => ?_)
 go_simp
 refine (new_c g.id _ J3.out).mono ?_; rintro e w9 ⟨A1, c1, rfl, hrd, hw9⟩; replace HB := lbB HB hw9; replace HR1 := lbR HR1 hw9; replace HR2 := lbR HR2 hw9; replace HR3 := lbR HR3 hw9; replace HG := lbG HG hw9; replace HH := lbG HH hw9; replace HP := lbP HP hw9; have HN1 := Aside0.mk (hrd); clear hrd; clear hw9
 refine hK.out _ _ ?_ (fun hHeld => ?_)
 · exact ⟨HG.out.box, HH.out.box⟩
 clear hK K
 try simp only [Act.put, sA, sB, sC]
 refine one_ (i := 20) (N := some 46) #[true,true,true,true,true,true,true,true,true,true,true,true,true,true,true,true,true,true,true,true,true,false,false,false] rfl rfl (by kernel_rfl) (by decide) (fun K hK => ?_)
 go_simp
 refine (rnew_c g.id _ J3.out).mono ?_; rintro e w10 ⟨A2, c2, rfl, hrd, hw10⟩; replace HB := lbB HB hw10; replace HR1 := lbR HR1 hw10; replace HR2 := lbR HR2 hw10; replace HR3 := lbR HR3 hw10; replace HG := lbG HG hw10; replace HH := lbG HH hw10; replace HP := lbP HP hw10; replace HN1 := lbR HN1 hw10; have HN2 := Aside0.mk (hrd); clear hrd; clear hw10
 refine hK.out _ _ ?_ (fun hHeld => ?_)
 · exact ⟨HG.out.box, HH.out.box⟩
 clear hK K
 try simp only [Act.put, sA, sB, sC]
 refine one_ (i := 21) (N := some 47) #[true,true,true,true,true,true,true,true,true,true,true,true,true,true,true,true,true,true,true,true,true,true,false,false] rfl rfl (by kernel_rfl) (by decide) (fun K hK => ?_)
 go_simp
 refine (rsame_c N N A1 c1 A2 c2 _ HN1.out HN2.out J4.out).mono ?_; rintro e w11 ⟨rfl, hw11⟩; replace HB := lbB HB hw11; replace HR1 := lbR HR1 hw11; replace HR2 := lbR HR2 hw11; replace HR3 := lbR HR3 hw11; replace HG := lbG HG hw11; replace HH := lbG HH hw11; replace HP := lbP HP hw11; replace HN1 := lbR HN1 hw11; replace HN2 := lbR HN2 hw11; clear hw11
 refine hK.out _ _ ?_ (fun hHeld => ?_)
 · exact ⟨HG.out.box, HH.out.box⟩
 clear hK K
 try simp only [Act.put, sA, sB, sC]
 refine pure_ (i := 22) (N := some 48) (v := ?_) (a' := ?_) #[true,true,true,true,true,true,true,true,true,true,true,true,true,true,true,true,true,true,true,true,true,true,true,false] rfl rfl (by kernel_rfl) (fun _ _ _ h => h) (Or.inl ⟨by rfl, ?_⟩) ?_ ?_
 rotate_left
 · intro w'
   go_simp
   try with_reducible rfl
 rotate_left
 · simp only [Act.put, sA, sB, sC]
   rfl
 refine pure_ (i := 23) (N := some 49) (v := ?_) (a' := ?_) #[true,true,true,true,true,true,true,true,true,true,true,true,true,true,true,true,true,true,true,true,true,true,true,true] rfl rfl (by kernel_rfl) (fun _ _ _ h => h) (Or.inl ⟨by rfl, ?_⟩) ?_ ?_
 rotate_left
 · intro w'
   go_simp
   try with_reducible rfl
 rotate_left
 · simp only [Act.put, sA, sB, sC]
   rfl
 refine done_ (by kernel_rfl) ?_
 clear hHeld
 obtain ⟨hg0, hg1, hg2, hg3, hg4, hg5, hg6⟩ := HG.out.box
 obtain ⟨hh0, hh1, hh2, hh3, hh4, hh5, hh6⟩ := HH.out.box
 obtain ⟨hp0, hp1, hp2, hp3, hp4, hp5, hp6, hp7, hp8, hp9⟩ := HP.out.box
 go_wp2_with fail
 clear HN1
 clear HN2
 clear HH
 clear hg0 hg1 hg2 hg3 hg4 hg5 hg6 hh0 hh1 hh2 hh3 hh4 hh5 hh6 hp0 hp1 hp2 hp3 hp4 hp5 hp6 hp7 hp8 hp9
 obtain ⟨hg0, hg1, hg2, hg3, hg4, hg5, hg6⟩ := HG.out.box
 obtain ⟨hp0, hp1, hp2, hp3, hp4, hp5, hp6, hp7, hp8, hp9⟩ := HP.out.box
 go_at_call 16
 refine (ris_c g A c _ HR1.out J1.out).mono ?_
 rintro e w12 ⟨rfl, hw12⟩
 replace HB := lbB HB hw12
 replace HR1 := lbR HR1 hw12
 replace HR2 := lbR HR2 hw12
 replace HR3 := lbR HR3 hw12
 replace HG := lbG HG hw12
 replace HP := lbP HP hw12
 clear hw12
 clear hg0 hg1 hg2 hg3 hg4 hg5 hg6 hp0 hp1 hp2 hp3 hp4 hp5 hp6 hp7 hp8 hp9
 obtain ⟨hg0, hg1, hg2, hg3, hg4, hg5, hg6⟩ := HG.out.box
 obtain ⟨hp0, hp1, hp2, hp3, hp4, hp5, hp6, hp7, hp8, hp9⟩ := HP.out.box
 go_wp2_with fail
 go_ret
 exact ⟨rfl, HB.out.b⟩
set_option maxHeartbeats 8000000 in
set_option maxRecDepth 100000 in
theorem tells6_v (g : Grp) (A : Option Addr) (c : Nat) (h : Grp) (B : Option Addr) (d : Nat) (p : Prt) (Ap : Option Addr) (cp : Nat) (w : World) (hg : Rd w A c g.l) (hh : Rd w B d h.l) (hp : Rd w Ap cp p.l) {r1 r2 r3 : Bool} (hf1 : (∀ (A : Option Addr) (c : Nat) (w : World), Rd w A c g.l → Calls Try.prog 13 #[vG g A c] w fun e w' => e = .returned (.bool r1) ∧ Below w.heap.size w w')) (hf2 : (∀ (A : Option Addr) (c : Nat) (w : World), Rd w A c h.l → Calls Try.prog 13 #[vG h A c] w fun e w' => e = .returned (.bool r2) ∧ Below w.heap.size w w')) (hf3 : (∀ (A : Option Addr) (c : Nat) (w : World), Rd w A c p.l → Calls Try.prog 14 #[vP p A c] w fun e w' => e = .returned (.bool r3) ∧ Below w.heap.size w w')) (x1 : r1 = true) (x2 : r2 = true) (x3 : r3 = true) (x4 : isG true g = true) (v : Int) (x5 : chkG g p = v) (hl : g.l.length + p.l.length ≤ 4398046511104) (hv : v ≠ 0) :
  Calls Try.prog 3 #[vG g A c, vG h B d, vP p Ap cp] w fun e w' => e = .returned (.bool true) ∧ Below w.heap.size w w' := by
 subst x1
 subst x2
 subst x3
 obtain ⟨b2, hb2⟩ : ∃ b, sameG g h = b := ⟨_, rfl⟩
 have J2 := Aside0.mk hb2
 obtain ⟨N, hN⟩ : ∃ N : Grp, (⟨g.id, 1, 0, 0, 0, 0, []⟩ : Grp) = N := ⟨_, rfl⟩
 have J3 := Aside0.mk hN
 have J4 : Aside0 (sameG N N = true) := ⟨sameG_iff.2 rfl⟩
 clear hb2 hN
 have J1 := Aside0.mk x4
 have J5 := Aside0.mk x5
 have J6 := Aside0.mk hl
 have J8 : Aside0 (chwG g p = v) := ⟨by rw [chw_chk x4]; exact x5⟩
 obtain ⟨LV, hLV⟩ : ∃ V, lastG g = V := ⟨_, rfl⟩
 have J12 := Aside0.mk hLV
 clear hLV
 obtain ⟨X, hX⟩ : ∃ X, g = X := ⟨_, rfl⟩
 have J7 : Aside0 (dwG g p = X) := ⟨by rw [dw_do x4, if_neg (by rw [x5]; exact hv)]; exact hX⟩
 have J11 : Aside0 (sameG X g = true) := ⟨sameG_iff.2 hX.symm⟩
 have jv : (v == 0) = false := beq_eq_false_iff_ne.2 hv
 clear x4 x5 hl hv hX
 have HF1 := Aside0.mk hf1
 have HF2 := Aside0.mk hf2
 have HF3 := Aside0.mk hf3
 obtain ⟨s, hs⟩ : ∃ s, w.heap.size = s := ⟨_, rfl⟩
 have HSs := Aside0.mk hs
 unfold vG vP
 go_enter Try.func3, Try.ntmps3
 have HB := Aside0.mk (Bel.refl w)
 have HR1 := Aside0.mk (hg)
 have HR2 := Aside0.mk (hh)
 have HR3 := Aside0.mk (hp)
 clear hf1 hf2 hf3 hg hh hp
 obtain ⟨C1, hC1⟩ : ∃ C, (match Try.f3.body with | some (.seq _ c) => c | _ => .skip) = C := ⟨_, rfl⟩
 have HC1 := Aside0.mk hC1
 simp only [Try.f3] at hC1
 rw [hC1]
 clear hC1
 go_wp2
 replace HB := laB HB (.cells #[.int .i64 g.id, .int .i64 g.fi, .int .i64 g.tm, .int .i64 g.ht, .int .i64 g.hv, .int .i64 g.hc, .slice A g.l.length c] 26)
 replace HR1 := laR HR1 (.cells #[.int .i64 g.id, .int .i64 g.fi, .int .i64 g.tm, .int .i64 g.ht, .int .i64 g.hv, .int .i64 g.hc, .slice A g.l.length c] 26)
 replace HR2 := laR HR2 (.cells #[.int .i64 g.id, .int .i64 g.fi, .int .i64 g.tm, .int .i64 g.ht, .int .i64 g.hv, .int .i64 g.hc, .slice A g.l.length c] 26)
 replace HR3 := laR HR3 (.cells #[.int .i64 g.id, .int .i64 g.fi, .int .i64 g.tm, .int .i64 g.ht, .int .i64 g.hv, .int .i64 g.hc, .slice A g.l.length c] 26)
 replace HB := laB HB (.cells #[.int .i64 h.id, .int .i64 h.fi, .int .i64 h.tm, .int .i64 h.ht, .int .i64 h.hv, .int .i64 h.hc, .slice B h.l.length d] 26)
 replace HR1 := laR HR1 (.cells #[.int .i64 h.id, .int .i64 h.fi, .int .i64 h.tm, .int .i64 h.ht, .int .i64 h.hv, .int .i64 h.hc, .slice B h.l.length d] 26)
 replace HR2 := laR HR2 (.cells #[.int .i64 h.id, .int .i64 h.fi, .int .i64 h.tm, .int .i64 h.ht, .int .i64 h.hv, .int .i64 h.hc, .slice B h.l.length d] 26)
 replace HR3 := laR HR3 (.cells #[.int .i64 h.id, .int .i64 h.fi, .int .i64 h.tm, .int .i64 h.ht, .int .i64 h.hv, .int .i64 h.hc, .slice B h.l.length d] 26)
 replace HB := laB HB (.cells #[.int .i64 p.g, .int .i64 p.k, .slice Ap p.l.length cp, .int .i64 p.ht, .int .i64 p.hv, .int .i64 p.hc, .int .i64 p.ix, .int .i64 p.tm, .bool p.mrk, .bool p.hed] 28)
 replace HR1 := laR HR1 (.cells #[.int .i64 p.g, .int .i64 p.k, .slice Ap p.l.length cp, .int .i64 p.ht, .int .i64 p.hv, .int .i64 p.hc, .int .i64 p.ix, .int .i64 p.tm, .bool p.mrk, .bool p.hed] 28)
 replace HR2 := laR HR2 (.cells #[.int .i64 p.g, .int .i64 p.k, .slice Ap p.l.length cp, .int .i64 p.ht, .int .i64 p.hv, .int .i64 p.hc, .int .i64 p.ix, .int .i64 p.tm, .bool p.mrk, .bool p.hed] 28)
 replace HR3 := laR HR3 (.cells #[.int .i64 p.g, .int .i64 p.k, .slice Ap p.l.length cp, .int .i64 p.ht, .int .i64 p.hv, .int .i64 p.hc, .int .i64 p.ix, .int .i64 p.tm, .bool p.mrk, .bool p.hed] 28)
 have HG := Aside0.mk ((by have hq := BlkG.new g A c w; rw [hs] at hq; exact (hq.alloc (.cells #[.int .i64 h.id, .int .i64 h.fi, .int .i64 h.tm, .int .i64 h.ht, .int .i64 h.hv, .int .i64 h.hc, .slice B h.l.length d] 26)).alloc (.cells #[.int .i64 p.g, .int .i64 p.k, .slice Ap p.l.length cp, .int .i64 p.ht, .int .i64 p.hv, .int .i64 p.hc, .int .i64 p.ix, .int .i64 p.tm, .bool p.mrk, .bool p.hed] 28)))
 have HH := Aside0.mk ((by have hq := BlkG.new h B d (w.alloc (.cells #[.int .i64 g.id, .int .i64 g.fi, .int .i64 g.tm, .int .i64 g.ht, .int .i64 g.hv, .int .i64 g.hc, .slice A g.l.length c] 26)); rw [World.size_alloc, hs] at hq; exact hq.alloc (.cells #[.int .i64 p.g, .int .i64 p.k, .slice Ap p.l.length cp, .int .i64 p.ht, .int .i64 p.hv, .int .i64 p.hc, .int .i64 p.ix, .int .i64 p.tm, .bool p.mrk, .bool p.hed] 28)))
 have HP := Aside0.mk ((by have hq := BlkP.new p Ap cp ((w.alloc (.cells #[.int .i64 g.id, .int .i64 g.fi, .int .i64 g.tm, .int .i64 g.ht, .int .i64 g.hv, .int .i64 g.hc, .slice A g.l.length c] 26)).alloc (.cells #[.int .i64 h.id, .int .i64 h.fi, .int .i64 h.tm, .int .i64 h.ht, .int .i64 h.hv, .int .i64 h.hc, .slice B h.l.length d] 26)); rw [World.size_alloc, World.size_alloc, hs] at hq; exact hq))
 obtain ⟨W0, hW0⟩ : ∃ W, ((w.alloc (.cells #[.int .i64 g.id, .int .i64 g.fi, .int .i64 g.tm, .int .i64 g.ht, .int .i64 g.hv, .int .i64 g.hc, .slice A g.l.length c] 26)).alloc (.cells #[.int .i64 h.id, .int .i64 h.fi, .int .i64 h.tm, .int .i64 h.ht, .int .i64 h.hv, .int .i64 h.hc, .slice B h.l.length d] 26)).alloc (.cells #[.int .i64 p.g, .int .i64 p.k, .slice Ap p.l.length cp, .int .i64 p.ht, .int .i64 p.hv, .int .i64 p.hc, .int .i64 p.ix, .int .i64 p.tm, .bool p.mrk, .bool p.hed] 28) = W := ⟨_, rfl⟩
 rw [hW0] at HB HR1 HR2 HR3 HG HH HP ⊢
 clear hW0
 clear hs
 obtain ⟨hg0, hg1, hg2, hg3, hg4, hg5, hg6⟩ := HG.out.box
 obtain ⟨hh0, hh1, hh2, hh3, hh4, hh5, hh6⟩ := HH.out.box
 obtain ⟨hp0, hp1, hp2, hp3, hp4, hp5, hp6, hp7, hp8, hp9⟩ := HP.out.box
 have hC1 := HC1.out
 simp only [Try.f3] at hC1
 subst hC1
 clear HC1
 obtain ⟨C11, hC11⟩ : ∃ C, (match Try.f3.body with | some (.seq _ (.seq _ (.seq _ (.seq _ (.seq _ (.seq _ (.seq _ c))))))) => c | _ => .skip) = C := ⟨_, rfl⟩
 have HC11 := Aside0.mk hC11
 simp only [Try.f3] at hC11
 rw [hC11]
 clear hC11
 go_wp2_with fail
 go_at_call 12
 refine (known6 _).mono ?_
 rintro e w1 ⟨rfl, hw1⟩
 replace HB := lbB HB hw1
 replace HR1 := lbR HR1 hw1
 replace HR2 := lbR HR2 hw1
 replace HR3 := lbR HR3 hw1
 replace HG := lbG HG hw1
 replace HH := lbG HH hw1
 replace HP := lbP HP hw1
 clear hw1
 clear hg0 hg1 hg2 hg3 hg4 hg5 hg6 hh0 hh1 hh2 hh3 hh4 hh5 hh6 hp0 hp1 hp2 hp3 hp4 hp5 hp6 hp7 hp8 hp9
 obtain ⟨hg0, hg1, hg2, hg3, hg4, hg5, hg6⟩ := HG.out.box
 obtain ⟨hh0, hh1, hh2, hh3, hh4, hh5, hh6⟩ := HH.out.box
 obtain ⟨hp0, hp1, hp2, hp3, hp4, hp5, hp6, hp7, hp8, hp9⟩ := HP.out.box
 go_wp2_with fail
 go_at_call 13
 refine (HF1.out A c _ HR1.out).mono ?_
 rintro e w2 ⟨rfl, hw2⟩
 replace HB := lbB HB hw2
 replace HR1 := lbR HR1 hw2
 replace HR2 := lbR HR2 hw2
 replace HR3 := lbR HR3 hw2
 replace HG := lbG HG hw2
 replace HH := lbG HH hw2
 replace HP := lbP HP hw2
 clear hw2
 clear hg0 hg1 hg2 hg3 hg4 hg5 hg6 hh0 hh1 hh2 hh3 hh4 hh5 hh6 hp0 hp1 hp2 hp3 hp4 hp5 hp6 hp7 hp8 hp9
 obtain ⟨hg0, hg1, hg2, hg3, hg4, hg5, hg6⟩ := HG.out.box
 obtain ⟨hh0, hh1, hh2, hh3, hh4, hh5, hh6⟩ := HH.out.box
 obtain ⟨hp0, hp1, hp2, hp3, hp4, hp5, hp6, hp7, hp8, hp9⟩ := HP.out.box
 go_wp2_with fail
 go_at_call 13
 refine (HF2.out B d _ HR2.out).mono ?_
 rintro e w3 ⟨rfl, hw3⟩
 replace HB := lbB HB hw3
 replace HR1 := lbR HR1 hw3
 replace HR2 := lbR HR2 hw3
 replace HR3 := lbR HR3 hw3
 replace HG := lbG HG hw3
 replace HH := lbG HH hw3
 replace HP := lbP HP hw3
 clear hw3
 clear hg0 hg1 hg2 hg3 hg4 hg5 hg6 hh0 hh1 hh2 hh3 hh4 hh5 hh6 hp0 hp1 hp2 hp3 hp4 hp5 hp6 hp7 hp8 hp9
 obtain ⟨hg0, hg1, hg2, hg3, hg4, hg5, hg6⟩ := HG.out.box
 obtain ⟨hh0, hh1, hh2, hh3, hh4, hh5, hh6⟩ := HH.out.box
 obtain ⟨hp0, hp1, hp2, hp3, hp4, hp5, hp6, hp7, hp8, hp9⟩ := HP.out.box
 go_wp2_with fail
 go_at_call 14
 refine (HF3.out Ap cp _ HR3.out).mono ?_
 rintro e w4 ⟨rfl, hw4⟩
 replace HB := lbB HB hw4
 replace HR1 := lbR HR1 hw4
 replace HR2 := lbR HR2 hw4
 replace HR3 := lbR HR3 hw4
 replace HG := lbG HG hw4
 replace HH := lbG HH hw4
 replace HP := lbP HP hw4
 clear hw4
 clear hg0 hg1 hg2 hg3 hg4 hg5 hg6 hh0 hh1 hh2 hh3 hh4 hh5 hh6 hp0 hp1 hp2 hp3 hp4 hp5 hp6 hp7 hp8 hp9
 obtain ⟨hg0, hg1, hg2, hg3, hg4, hg5, hg6⟩ := HG.out.box
 obtain ⟨hh0, hh1, hh2, hh3, hh4, hh5, hh6⟩ := HH.out.box
 obtain ⟨hp0, hp1, hp2, hp3, hp4, hp5, hp6, hp7, hp8, hp9⟩ := HP.out.box
 go_wp2_with fail
 clear hg0 hg1 hg2 hg3 hg4 hg5 hg6 hh0 hh1 hh2 hh3 hh4 hh5 hh6 hp0 hp1 hp2 hp3 hp4 hp5 hp6 hp7 hp8 hp9
 replace HB := ldB HB
 replace HR1 := ldR HR1
 replace HR2 := ldR HR2
 replace HR3 := ldR HR3
 replace HG := ldG HG
 replace HH := ldG HH
 replace HP := ldP HP
 refine start_ (n := 24) (S := (fun w' => BoxG g A c s w' ∧ BoxG h B d (s + 1) w')) (ds := []) #[false,false,false,false,false,false,false,false,false,false,false,false,false,false,false,false,false,false,false,false,false,false,false,false] (by kernel_rfl) rfl rfl ⟨HG.out.box, HH.out.box⟩ (fun hHeld => ?_)
 refine take_ (i := 0) (N := some 26) (v := ?_) (a' := ?_) #[true,false,false,false,false,false,false,false,false,false,false,false,false,false,false,false,false,false,false,false,false,false,false,false] rfl rfl (by kernel_rfl) (fun _ _ _ h => h) (Or.inl ⟨by rfl, ?_⟩) hHeld ?_ ?_
 rotate_left
 · rintro w' ⟨⟨hg0, hg1, hg2, hg3, hg4, hg5, hg6⟩, ⟨hh0, hh1, hh2, hh3, hh4, hh5, hh6⟩⟩
   go_simp
   try with_reducible rfl
 rotate_left
 · simp only [Act.put, sA, sB, sC]
   rfl
 refine take_ (i := 2) (N := some 28) (v := ?_) (a' := ?_) #[true,false,true,false,false,false,false,false,false,false,false,false,false,false,false,false,false,false,false,false,false,false,false,false] rfl rfl (by kernel_rfl) (fun _ _ _ h => h) (Or.inl ⟨by rfl, ?_⟩) hHeld ?_ ?_
 rotate_left
 · rintro w' ⟨⟨hg0, hg1, hg2, hg3, hg4, hg5, hg6⟩, ⟨hh0, hh1, hh2, hh3, hh4, hh5, hh6⟩⟩
   go_simp
   try with_reducible rfl
 rotate_left
 · simp only [Act.put, sA, sB, sC]
   rfl
 refine one_ (i := 1) (N := some 27) #[true,true,true,false,false,false,false,false,false,false,false,false,false,false,false,false,false,false,false,false,false,false,false,false] rfl rfl (by kernel_rfl) (by decide) (fun K hK => ?_)
 go_simp
 refine (gis_calls g A c _ HR1.out J1.out).mono ?_; rintro e w5 ⟨rfl, hw5⟩; replace HB := lbB HB hw5; replace HR1 := lbR HR1 hw5; replace HR2 := lbR HR2 hw5; replace HR3 := lbR HR3 hw5; replace HG := lbG HG hw5; replace HH := lbG HH hw5; replace HP := lbP HP hw5; clear hw5
 refine hK.out _ _ ?_ (fun hHeld => ?_)
 · exact ⟨HG.out.box, HH.out.box⟩
 clear hK K
 try simp only [Act.put, sA, sB, sC]
 refine one_ (i := 3) (N := some 29) #[true,true,true,true,false,false,false,false,false,false,false,false,false,false,false,false,false,false,false,false,false,false,false,false] rfl rfl (by kernel_rfl) (by decide) (fun K hK => ?_)
 go_simp
 refine (ris_c g A c _ HR1.out J1.out).mono ?_; rintro e w6 ⟨rfl, hw6⟩; replace HB := lbB HB hw6; replace HR1 := lbR HR1 hw6; replace HR2 := lbR HR2 hw6; replace HR3 := lbR HR3 hw6; replace HG := lbG HG hw6; replace HH := lbG HH hw6; replace HP := lbP HP hw6; clear hw6
 refine hK.out _ _ ?_ (fun hHeld => ?_)
 · exact ⟨HG.out.box, HH.out.box⟩
 clear hK K
 try simp only [Act.put, sA, sB, sC]
 refine pure_ (i := 4) (N := some 30) (v := ?_) (a' := ?_) #[true,true,true,true,true,false,false,false,false,false,false,false,false,false,false,false,false,false,false,false,false,false,false,false] rfl rfl (by kernel_rfl) (fun _ _ _ h => h) (Or.inl ⟨by rfl, ?_⟩) ?_ ?_
 rotate_left
 · intro w'
   go_simp
   try with_reducible rfl
 rotate_left
 · simp only [Act.put, sA, sB, sC]
   rfl
 refine pure_ (i := 5) (N := some 31) (v := ?_) (a' := ?_) #[true,true,true,true,true,true,false,false,false,false,false,false,false,false,false,false,false,false,false,false,false,false,false,false] rfl rfl (by kernel_rfl) (fun _ _ _ h => h) (Or.inl ⟨by rfl, ?_⟩) ?_ ?_
 rotate_left
 · intro w'
   go_simp
   try with_reducible rfl
 rotate_left
 · simp only [Act.put, sA, sB, sC]
   rfl
 refine take_ (i := 6) (N := some 32) (v := ?_) (a' := ?_) #[true,true,true,true,true,true,true,false,false,false,false,false,false,false,false,false,false,false,false,false,false,false,false,false] rfl rfl (by kernel_rfl) (fun _ _ _ h => h) (Or.inl ⟨by rfl, ?_⟩) hHeld ?_ ?_
 rotate_left
 · rintro w' ⟨⟨hg0, hg1, hg2, hg3, hg4, hg5, hg6⟩, ⟨hh0, hh1, hh2, hh3, hh4, hh5, hh6⟩⟩
   go_simp
   try with_reducible rfl
 rotate_left
 · simp only [Act.put, sA, sB, sC]
   rfl
 refine take_ (i := 7) (N := some 33) (v := ?_) (a' := ?_) #[true,true,true,true,true,true,true,true,false,false,false,false,false,false,false,false,false,false,false,false,false,false,false,false] rfl rfl (by kernel_rfl) (fun _ _ _ h => h) (Or.inl ⟨by rfl, ?_⟩) hHeld ?_ ?_
 rotate_left
 · rintro w' ⟨⟨hg0, hg1, hg2, hg3, hg4, hg5, hg6⟩, ⟨hh0, hh1, hh2, hh3, hh4, hh5, hh6⟩⟩
   go_simp
   try with_reducible rfl
 rotate_left
 · simp only [Act.put, sA, sB, sC]
   rfl
 refine take_ (i := 9) (N := some 35) (v := ?_) (a' := ?_) #[true,true,true,true,true,true,true,true,false,true,false,false,false,false,false,false,false,false,false,false,false,false,false,false] rfl rfl (by kernel_rfl) (fun _ _ _ h => h) (Or.inl ⟨by rfl, ?_⟩) hHeld ?_ ?_
 rotate_left
 · rintro w' ⟨⟨hg0, hg1, hg2, hg3, hg4, hg5, hg6⟩, ⟨hh0, hh1, hh2, hh3, hh4, hh5, hh6⟩⟩
   go_simp
   try with_reducible rfl
 rotate_left
 · simp only [Act.put, sA, sB, sC]
   rfl
 refine take_ (i := 10) (N := some 36) (v := ?_) (a' := ?_) #[true,true,true,true,true,true,true,true,false,true,true,false,false,false,false,false,false,false,false,false,false,false,false,false] rfl rfl (by kernel_rfl) (fun _ _ _ h => h) (Or.inl ⟨by rfl, ?_⟩) hHeld ?_ ?_
 rotate_left
 · rintro w' ⟨⟨hg0, hg1, hg2, hg3, hg4, hg5, hg6⟩, ⟨hh0, hh1, hh2, hh3, hh4, hh5, hh6⟩⟩
   go_simp
   try with_reducible rfl
 rotate_left
 · simp only [Act.put, sA, sB, sC]
   rfl
 refine one_ (i := 8) (N := some 34) #[true,true,true,true,true,true,true,true,true,true,true,false,false,false,false,false,false,false,false,false,false,false,false,false] rfl rfl (by kernel_rfl) (by decide) (fun K hK => ?_)
 go_simp
 refine (gsame_calls g h A c B d _ HR1.out HR2.out J2.out).mono ?_; rintro e w7 ⟨rfl, hw7⟩; replace HB := lbB HB hw7; replace HR1 := lbR HR1 hw7; replace HR2 := lbR HR2 hw7; replace HR3 := lbR HR3 hw7; replace HG := lbG HG hw7; replace HH := lbG HH hw7; replace HP := lbP HP hw7; clear hw7
 refine hK.out _ _ ?_ (fun hHeld => ?_)
 · exact ⟨HG.out.box, HH.out.box⟩
 clear hK K
 try simp only [Act.put, sA, sB, sC]
 refine one_ (i := 11) (N := some 37) #[true,true,true,true,true,true,true,true,true,true,true,true,false,false,false,false,false,false,false,false,false,false,false,false] rfl rfl (by kernel_rfl) (by decide) (fun K hK => ?_)
 go_simp
 refine (rsame_c g h A c B d _ HR1.out HR2.out J2.out).mono ?_; rintro e w8 ⟨rfl, hw8⟩; replace HB := lbB HB hw8; replace HR1 := lbR HR1 hw8; replace HR2 := lbR HR2 hw8; replace HR3 := lbR HR3 hw8; replace HG := lbG HG hw8; replace HH := lbG HH hw8; replace HP := lbP HP hw8; clear hw8
 refine hK.out _ _ ?_ (fun hHeld => ?_)
 · exact ⟨HG.out.box, HH.out.box⟩
 clear hK K
 try simp only [Act.put, sA, sB, sC]
 refine pure_ (i := 12) (N := some 38) (v := ?_) (a' := ?_) #[true,true,true,true,true,true,true,true,true,true,true,true,true,false,false,false,false,false,false,false,false,false,false,false] rfl rfl (by kernel_rfl) (fun _ _ _ h => h) (Or.inl ⟨by rfl, ?_⟩) ?_ ?_
 rotate_left
 · intro w'
   go_simp
   try with_reducible rfl
 rotate_left
 · simp only [Act.put, sA, sB, sC]
   rfl
 refine pure_ (i := 13) (N := some 39) (v := ?_) (a' := ?_) #[true,true,true,true,true,true,true,true,true,true,true,true,true,true,false,false,false,false,false,false,false,false,false,false] rfl rfl (by kernel_rfl) (fun _ _ _ h => h) (Or.inl ⟨by rfl, ?_⟩) ?_ ?_
 rotate_left
 · intro w'
   go_simp
   try with_reducible rfl
 rotate_left
 · simp only [Act.put, sA, sB, sC]
   rfl
 refine pure_ (i := 14) (N := some 40) (v := ?_) (a' := ?_) #[true,true,true,true,true,true,true,true,true,true,true,true,true,true,true,false,false,false,false,false,false,false,false,false] rfl rfl (by kernel_rfl) (fun _ _ _ h => h) (Or.inl ⟨by rfl, ?_⟩) ?_ ?_
 rotate_left
 · intro w'
   go_simp
   try with_reducible rfl
 rotate_left
 · simp only [Act.put, sA, sB, sC]
   rfl
 refine pure_ (i := 15) (N := some 41) (v := ?_) (a' := ?_) #[true,true,true,true,true,true,true,true,true,true,true,true,true,true,true,true,false,false,false,false,false,false,false,false] rfl rfl (by kernel_rfl) (fun _ _ _ h => h) (Or.inl ⟨by rfl, ?_⟩) ?_ ?_
 rotate_left
 · intro w'
   go_simp
   try with_reducible rfl
 rotate_left
 · simp only [Act.put, sA, sB, sC]
   rfl
 refine take_ (i := 16) (N := some 42) (v := ?_) (a' := ?_) #[true,true,true,true,true,true,true,true,true,true,true,true,true,true,true,true,true,false,false,false,false,false,false,false] rfl rfl (by kernel_rfl) (fun _ _ _ h => h) (Or.inl ⟨by rfl, ?_⟩) hHeld ?_ ?_
 rotate_left
 · rintro w' ⟨⟨hg0, hg1, hg2, hg3, hg4, hg5, hg6⟩, ⟨hh0, hh1, hh2, hh3, hh4, hh5, hh6⟩⟩
   go_simp
   try with_reducible rfl
 rotate_left
 · simp only [Act.put, sA, sB, sC]
   rfl
 refine pure_ (i := 18) (N := some 44) (v := ?_) (a' := ?_) #[true,true,true,true,true,true,true,true,true,true,true,true,true,true,true,true,true,false,true,false,false,false,false,false] rfl rfl (by kernel_rfl) (fun _ _ _ h => h) (Or.inl ⟨by rfl, ?_⟩) ?_ ?_
 rotate_left
 · intro w'
   go_simp
   try with_reducible rfl
 rotate_left
 · simp only [Act.put, sA, sB, sC]
   rfl
 refine take_ (i := 19) (N := some 45) (v := ?_) (a' := ?_) #[true,true,true,true,true,true,true,true,true,true,true,true,true,true,true,true,true,false,true,true,false,false,false,false] rfl rfl (by kernel_rfl) (fun _ _ _ h => h) (Or.inl ⟨by rfl, ?_⟩) hHeld ?_ ?_
 rotate_left
 · rintro w' ⟨⟨hg0, hg1, hg2, hg3, hg4, hg5, hg6⟩, ⟨hh0, hh1, hh2, hh3, hh4, hh5, hh6⟩⟩
   go_simp
   try with_reducible rfl
 rotate_left
 · simp only [Act.put, sA, sB, sC]
   rfl
 refine one_ (i := 17) (N := some 43) #[true,true,true,true,true,true,true,true,true,true,true,true,true,true,true,true,true,true,true,true,false,false,false,false] rfl rfl (by kernel_rfl) (by decide) (fun K hK => ?_)
 go_simp
 refine (new_c g.id _ J3.out).mono ?_; rintro e w9 ⟨A1, c1, rfl, hrd, hw9⟩; replace HB := lbB HB hw9; replace HR1 := lbR HR1 hw9; replace HR2 := lbR HR2 hw9; replace HR3 := lbR HR3 hw9; replace HG := lbG HG hw9; replace HH := lbG HH hw9; replace HP := lbP HP hw9; have HN1 := Aside0.mk (hrd); clear hrd; clear hw9
 refine hK.out _ _ ?_ (fun hHeld => ?_)
 · exact ⟨HG.out.box, HH.out.box⟩
 clear hK K
 try simp only [Act.put, sA, sB, sC]
 refine one_ (i := 20) (N := some 46) #[true,true,true,true,true,true,true,true,true,true,true,true,true,true,true,true,true,true,true,true,true,false,false,false] rfl rfl (by kernel_rfl) (by decide) (fun K hK => ?_)
 go_simp
 refine (rnew_c g.id _ J3.out).mono ?_; rintro e w10 ⟨A2, c2, rfl, hrd, hw10⟩; replace HB := lbB HB hw10; replace HR1 := lbR HR1 hw10; replace HR2 := lbR HR2 hw10; replace HR3 := lbR HR3 hw10; replace HG := lbG HG hw10; replace HH := lbG HH hw10; replace HP := lbP HP hw10; replace HN1 := lbR HN1 hw10; have HN2 := Aside0.mk (hrd); clear hrd; clear hw10
 refine hK.out _ _ ?_ (fun hHeld => ?_)
 · exact ⟨HG.out.box, HH.out.box⟩
 clear hK K
 try simp only [Act.put, sA, sB, sC]
 refine one_ (i := 21) (N := some 47) #[true,true,true,true,true,true,true,true,true,true,true,true,true,true,true,true,true,true,true,true,true,true,false,false] rfl rfl (by kernel_rfl) (by decide) (fun K hK => ?_)
 go_simp
 refine (rsame_c N N A1 c1 A2 c2 _ HN1.out HN2.out J4.out).mono ?_; rintro e w11 ⟨rfl, hw11⟩; replace HB := lbB HB hw11; replace HR1 := lbR HR1 hw11; replace HR2 := lbR HR2 hw11; replace HR3 := lbR HR3 hw11; replace HG := lbG HG hw11; replace HH := lbG HH hw11; replace HP := lbP HP hw11; replace HN1 := lbR HN1 hw11; replace HN2 := lbR HN2 hw11; clear hw11
 refine hK.out _ _ ?_ (fun hHeld => ?_)
 · exact ⟨HG.out.box, HH.out.box⟩
 clear hK K
 try simp only [Act.put, sA, sB, sC]
 refine pure_ (i := 22) (N := some 48) (v := ?_) (a' := ?_) #[true,true,true,true,true,true,true,true,true,true,true,true,true,true,true,true,true,true,true,true,true,true,true,false] rfl rfl (by kernel_rfl) (fun _ _ _ h => h) (Or.inl ⟨by rfl, ?_⟩) ?_ ?_
 rotate_left
 · intro w'
   go_simp
   try with_reducible rfl
 rotate_left
 · simp only [Act.put, sA, sB, sC]
   rfl
 refine pure_ (i := 23) (N := some 49) (v := ?_) (a' := ?_) #[true,true,true,true,true,true,true,true,true,true,true,true,true,true,true,true,true,true,true,true,true,true,true,true] rfl rfl (by kernel_rfl) (fun _ _ _ h => h) (Or.inl ⟨by rfl, ?_⟩) ?_ ?_
 rotate_left
 · intro w'
   go_simp
   try with_reducible rfl
 rotate_left
 · simp only [Act.put, sA, sB, sC]
   rfl
 refine done_ (by kernel_rfl) ?_
 clear hHeld
 obtain ⟨hg0, hg1, hg2, hg3, hg4, hg5, hg6⟩ := HG.out.box
 obtain ⟨hh0, hh1, hh2, hh3, hh4, hh5, hh6⟩ := HH.out.box
 obtain ⟨hp0, hp1, hp2, hp3, hp4, hp5, hp6, hp7, hp8, hp9⟩ := HP.out.box
 go_wp2_with fail
 clear HN1
 clear HN2
 clear HH
 clear hg0 hg1 hg2 hg3 hg4 hg5 hg6 hh0 hh1 hh2 hh3 hh4 hh5 hh6 hp0 hp1 hp2 hp3 hp4 hp5 hp6 hp7 hp8 hp9
 obtain ⟨hg0, hg1, hg2, hg3, hg4, hg5, hg6⟩ := HG.out.box
 obtain ⟨hp0, hp1, hp2, hp3, hp4, hp5, hp6, hp7, hp8, hp9⟩ := HP.out.box
 go_at_call 16
 refine (ris_c g A c _ HR1.out J1.out).mono ?_
 rintro e w12 ⟨rfl, hw12⟩
 replace HB := lbB HB hw12
 replace HR1 := lbR HR1 hw12
 replace HR2 := lbR HR2 hw12
 replace HR3 := lbR HR3 hw12
 replace HG := lbG HG hw12
 replace HP := lbP HP hw12
 clear hw12
 clear hg0 hg1 hg2 hg3 hg4 hg5 hg6 hp0 hp1 hp2 hp3 hp4 hp5 hp6 hp7 hp8 hp9
 obtain ⟨hg0, hg1, hg2, hg3, hg4, hg5, hg6⟩ := HG.out.box
 obtain ⟨hp0, hp1, hp2, hp3, hp4, hp5, hp6, hp7, hp8, hp9⟩ := HP.out.box
 go_wp2_with fail
 go_at_call 21
 refine (rchk_c g A c p Ap cp _ HR1.out HR3.out J1.out J5.out).mono ?_
 rintro e w13 ⟨rfl, hw13⟩
 replace HB := lbB HB hw13
 replace HR1 := lbR HR1 hw13
 replace HR2 := lbR HR2 hw13
 replace HR3 := lbR HR3 hw13
 replace HG := lbG HG hw13
 replace HP := lbP HP hw13
 clear hw13
 clear hg0 hg1 hg2 hg3 hg4 hg5 hg6 hp0 hp1 hp2 hp3 hp4 hp5 hp6 hp7 hp8 hp9
 obtain ⟨hg0, hg1, hg2, hg3, hg4, hg5, hg6⟩ := HG.out.box
 obtain ⟨hp0, hp1, hp2, hp3, hp4, hp5, hp6, hp7, hp8, hp9⟩ := HP.out.box
 go_wp2_with fail
 go_at_call 22
 refine (gdo_calls g A c p Ap cp _ HR1.out HR3.out J6.out J7.out J8.out).mono ?_
 rintro e w14 ⟨A3, c3, rfl, hrd, hw14⟩
 replace HB := lbB HB hw14
 replace HR1 := lbR HR1 hw14
 replace HR2 := lbR HR2 hw14
 replace HR3 := lbR HR3 hw14
 replace HG := lbG HG hw14
 replace HP := lbP HP hw14
 have HR4 := Aside0.mk (hrd)
 clear hrd
 clear hw14
 clear hg0 hg1 hg2 hg3 hg4 hg5 hg6 hp0 hp1 hp2 hp3 hp4 hp5 hp6 hp7 hp8 hp9
 obtain ⟨hg0, hg1, hg2, hg3, hg4, hg5, hg6⟩ := HG.out.box
 obtain ⟨hp0, hp1, hp2, hp3, hp4, hp5, hp6, hp7, hp8, hp9⟩ := HP.out.box
 obtain ⟨n8, hn8⟩ : ∃ n, w14.heap.size = n := ⟨_, rfl⟩
 have HSn8 := Aside0.mk hn8
 go_wp2_with fail
 clear hg0 hg1 hg2 hg3 hg4 hg5 hg6 hp0 hp1 hp2 hp3 hp4 hp5 hp6 hp7 hp8 hp9
 replace HB := laB HB (.cells #[.int .i64 X.id, .int .i64 X.fi, .int .i64 X.tm, .int .i64 X.ht, .int .i64 X.hv, .int .i64 X.hc, .slice A3 X.l.length c3] 26)
 replace HR1 := laR HR1 (.cells #[.int .i64 X.id, .int .i64 X.fi, .int .i64 X.tm, .int .i64 X.ht, .int .i64 X.hv, .int .i64 X.hc, .slice A3 X.l.length c3] 26)
 replace HR2 := laR HR2 (.cells #[.int .i64 X.id, .int .i64 X.fi, .int .i64 X.tm, .int .i64 X.ht, .int .i64 X.hv, .int .i64 X.hc, .slice A3 X.l.length c3] 26)
 replace HR3 := laR HR3 (.cells #[.int .i64 X.id, .int .i64 X.fi, .int .i64 X.tm, .int .i64 X.ht, .int .i64 X.hv, .int .i64 X.hc, .slice A3 X.l.length c3] 26)
 replace HG := laG HG (.cells #[.int .i64 X.id, .int .i64 X.fi, .int .i64 X.tm, .int .i64 X.ht, .int .i64 X.hv, .int .i64 X.hc, .slice A3 X.l.length c3] 26)
 replace HP := laP HP (.cells #[.int .i64 X.id, .int .i64 X.fi, .int .i64 X.tm, .int .i64 X.ht, .int .i64 X.hv, .int .i64 X.hc, .slice A3 X.l.length c3] 26)
 replace HR4 := laR HR4 (.cells #[.int .i64 X.id, .int .i64 X.fi, .int .i64 X.tm, .int .i64 X.ht, .int .i64 X.hv, .int .i64 X.hc, .slice A3 X.l.length c3] 26)
 have HX := Aside0.mk ((by have hq := BlkG.new X A3 c3 w14; rw [HSn8.out] at hq; exact hq : BlkG X A3 c3 n8 (w14.alloc (.cells #[.int .i64 X.id, .int .i64 X.fi, .int .i64 X.tm, .int .i64 X.ht, .int .i64 X.hv, .int .i64 X.hc, .slice A3 X.l.length c3] 26))))
 obtain ⟨W1, hW1⟩ : ∃ W, w14.alloc (.cells #[.int .i64 X.id, .int .i64 X.fi, .int .i64 X.tm, .int .i64 X.ht, .int .i64 X.hv, .int .i64 X.hc, .slice A3 X.l.length c3] 26) = W := ⟨_, rfl⟩
 rw [hW1] at HB HR1 HR2 HR3 HG HP HR4 HX ⊢
 clear hW1
 clear hn8
 obtain ⟨hg0, hg1, hg2, hg3, hg4, hg5, hg6⟩ := HG.out.box
 obtain ⟨hp0, hp1, hp2, hp3, hp4, hp5, hp6, hp7, hp8, hp9⟩ := HP.out.box
 obtain ⟨hx0, hx1, hx2, hx3, hx4, hx5, hx6⟩ := HX.out.box
 have hC11 := HC11.out
 simp only [Try.f3] at hC11
 subst hC11
 clear HC11
 obtain ⟨C12, hC12⟩ : ∃ C, (match Try.f3.body with | some (.seq _ (.seq _ (.seq _ (.seq _ (.seq _ (.seq _ (.seq _ (.seq _ c)))))))) => c | _ => .skip) = C := ⟨_, rfl⟩
 have HC12 := Aside0.mk hC12
 simp only [Try.f3] at hC12
 rw [hC12]
 clear hC12
 obtain ⟨n10, hn10⟩ : ∃ n, W1.heap.size = n := ⟨_, rfl⟩
 have HSn10 := Aside0.mk hn10
 have Q1 : Aside0 (s + 2 < n10) := ⟨by rw [← hn10]; exact (Array.getElem?_eq_some_iff.1 HP.out).1⟩
 have Q2 : Aside0 (n8 < n10) := ⟨by rw [← hn10]; exact HX.out.lt⟩
 go_wp2_with fail
 clear hg0 hg1 hg2 hg3 hg4 hg5 hg6 hp0 hp1 hp2 hp3 hp4 hp5 hp6 hp7 hp8 hp9 hx0 hx1 hx2 hx3 hx4 hx5 hx6
 replace HB := laB HB (.cells #[.int .i64 g.id, .int .i64 g.fi, .int .i64 g.tm, .int .i64 g.ht, .int .i64 g.hv, .int .i64 g.hc, .slice A g.l.length c] 26)
 replace HR1 := laR HR1 (.cells #[.int .i64 g.id, .int .i64 g.fi, .int .i64 g.tm, .int .i64 g.ht, .int .i64 g.hv, .int .i64 g.hc, .slice A g.l.length c] 26)
 replace HR2 := laR HR2 (.cells #[.int .i64 g.id, .int .i64 g.fi, .int .i64 g.tm, .int .i64 g.ht, .int .i64 g.hv, .int .i64 g.hc, .slice A g.l.length c] 26)
 replace HR3 := laR HR3 (.cells #[.int .i64 g.id, .int .i64 g.fi, .int .i64 g.tm, .int .i64 g.ht, .int .i64 g.hv, .int .i64 g.hc, .slice A g.l.length c] 26)
 replace HG := laG HG (.cells #[.int .i64 g.id, .int .i64 g.fi, .int .i64 g.tm, .int .i64 g.ht, .int .i64 g.hv, .int .i64 g.hc, .slice A g.l.length c] 26)
 replace HP := laP HP (.cells #[.int .i64 g.id, .int .i64 g.fi, .int .i64 g.tm, .int .i64 g.ht, .int .i64 g.hv, .int .i64 g.hc, .slice A g.l.length c] 26)
 replace HR4 := laR HR4 (.cells #[.int .i64 g.id, .int .i64 g.fi, .int .i64 g.tm, .int .i64 g.ht, .int .i64 g.hv, .int .i64 g.hc, .slice A g.l.length c] 26)
 replace HX := laG HX (.cells #[.int .i64 g.id, .int .i64 g.fi, .int .i64 g.tm, .int .i64 g.ht, .int .i64 g.hv, .int .i64 g.hc, .slice A g.l.length c] 26)
 have HY := Aside0.mk ((by have hq := BlkG.new g A c W1; rw [HSn10.out] at hq; exact hq : BlkG g A c n10 (W1.alloc (.cells #[.int .i64 g.id, .int .i64 g.fi, .int .i64 g.tm, .int .i64 g.ht, .int .i64 g.hv, .int .i64 g.hc, .slice A g.l.length c] 26))))
 obtain ⟨W2, hW2⟩ : ∃ W, W1.alloc (.cells #[.int .i64 g.id, .int .i64 g.fi, .int .i64 g.tm, .int .i64 g.ht, .int .i64 g.hv, .int .i64 g.hc, .slice A g.l.length c] 26) = W := ⟨_, rfl⟩
 rw [hW2] at HB HR1 HR2 HR3 HG HP HR4 HX HY ⊢
 clear hW2
 clear hn10
 obtain ⟨hg0, hg1, hg2, hg3, hg4, hg5, hg6⟩ := HG.out.box
 obtain ⟨hp0, hp1, hp2, hp3, hp4, hp5, hp6, hp7, hp8, hp9⟩ := HP.out.box
 obtain ⟨hx0, hx1, hx2, hx3, hx4, hx5, hx6⟩ := HX.out.box
 obtain ⟨hy0, hy1, hy2, hy3, hy4, hy5, hy6⟩ := HY.out.box
 have hC12 := HC12.out
 simp only [Try.f3] at hC12
 subst hC12
 clear HC12
 obtain ⟨C14, hC14⟩ : ∃ C, (match Try.f3.body with | some (.seq _ (.seq _ (.seq _ (.seq _ (.seq _ (.seq _ (.seq _ (.seq _ (.seq _ c))))))))) => c | _ => .skip) = C := ⟨_, rfl⟩
 have HC14 := Aside0.mk hC14
 simp only [Try.f3] at hC14
 rw [hC14]
 clear hC14
 go_wp2
 clear hg0 hg1 hg2 hg3 hg4 hg5 hg6 hp0 hp1 hp2 hp3 hp4 hp5 hp6 hp7 hp8 hp9 hx0 hx1 hx2 hx3 hx4 hx5 hx6 hy0 hy1 hy2 hy3 hy4 hy5 hy6
 obtain ⟨hg0, hg1, hg2, hg3, hg4, hg5, hg6⟩ := HG.out.box
 obtain ⟨hp0, hp1, hp2, hp3, hp4, hp5, hp6, hp7, hp8, hp9⟩ := HP.out.box
 obtain ⟨hx0, hx1, hx2, hx3, hx4, hx5, hx6⟩ := HX.out.box
 obtain ⟨hy0, hy1, hy2, hy3, hy4, hy5, hy6⟩ := HY.out.box
 have hC14 := HC14.out
 simp only [Try.f3] at hC14
 subst hC14
 clear HC14
 go_wp2_with fail
 clear hg0 hg1 hg2 hg3 hg4 hg5 hg6 hp0 hp1 hp2 hp3 hp4 hp5 hp6 hp7 hp8 hp9 hx0 hx1 hx2 hx3 hx4 hx5 hx6 hy0 hy1 hy2 hy3 hy4 hy5 hy6
 replace HB := ldB HB
 replace HR1 := ldR HR1
 replace HR2 := ldR HR2
 replace HR3 := ldR HR3
 replace HG := ldG HG
 replace HP := ldP HP
 replace HR4 := ldR HR4
 replace HX := ldG HX
 replace HY := ldG HY
 refine start_ (n := 23) (S := (fun w' => BoxG g A c s w' ∧ BoxP p Ap cp (s + 2) w' ∧ BoxG X A3 c3 n8 w' ∧ BoxG g A c n10 w')) (ds := []) #[false,false,false,false,false,false,false,false,false,false,false,false,false,false,false,false,false,false,false,false,false,false,false] (by kernel_rfl) rfl rfl ⟨HG.out.box, HP.out.box, HX.out.box, HY.out.box⟩ (fun hHeld => ?_)
 refine take_ (i := 0) (N := some 68) (v := ?_) (a' := ?_) #[true,false,false,false,false,false,false,false,false,false,false,false,false,false,false,false,false,false,false,false,false,false,false] rfl rfl (by kernel_rfl) (fun _ _ _ h => h) (Or.inl ⟨by rfl, ?_⟩) hHeld ?_ ?_
 rotate_left
 · rintro w' ⟨⟨hg0, hg1, hg2, hg3, hg4, hg5, hg6⟩, ⟨hp0, hp1, hp2, hp3, hp4, hp5, hp6, hp7, hp8, hp9⟩, ⟨hx0, hx1, hx2, hx3, hx4, hx5, hx6⟩, ⟨hy0, hy1, hy2, hy3, hy4, hy5, hy6⟩⟩
   go_simp
   try with_reducible rfl
 rotate_left
 · simp only [Act.put, sA, sB, sC]
   rfl
 refine take_ (i := 1) (N := some 69) (v := ?_) (a' := ?_) #[true,true,false,false,false,false,false,false,false,false,false,false,false,false,false,false,false,false,false,false,false,false,false] rfl rfl (by kernel_rfl) (fun _ _ _ h => h) (Or.inl ⟨by rfl, ?_⟩) hHeld ?_ ?_
 rotate_left
 · rintro w' ⟨⟨hg0, hg1, hg2, hg3, hg4, hg5, hg6⟩, ⟨hp0, hp1, hp2, hp3, hp4, hp5, hp6, hp7, hp8, hp9⟩, ⟨hx0, hx1, hx2, hx3, hx4, hx5, hx6⟩, ⟨hy0, hy1, hy2, hy3, hy4, hy5, hy6⟩⟩
   go_simp
   try with_reducible rfl
 rotate_left
 · simp only [Act.put, sA, sB, sC]
   rfl
 refine pure_ (i := 3) (N := some 71) (v := ?_) (a' := ?_) #[true,true,false,true,false,false,false,false,false,false,false,false,false,false,false,false,false,false,false,false,false,false,false] rfl rfl (by kernel_rfl) (fun _ _ _ h => h) (Or.inl ⟨by rfl, ?_⟩) ?_ ?_
 rotate_left
 · intro w'
   go_simp
   try with_reducible rfl
 rotate_left
 · simp only [Act.put, sA, sB, sC]
   rfl
 refine one_ (i := 2) (N := some 70) #[true,true,true,true,false,false,false,false,false,false,false,false,false,false,false,false,false,false,false,false,false,false,false] rfl rfl (by kernel_rfl) (by decide) (fun K hK => ?_)
 go_simp
 refine (gchk_calls g A c p Ap cp _ HR1.out HR3.out J8.out).mono ?_; rintro e w15 ⟨rfl, hw15⟩; replace HB := lbB HB hw15; replace HR1 := lbR HR1 hw15; replace HR2 := lbR HR2 hw15; replace HR3 := lbR HR3 hw15; replace HG := lbG HG hw15; replace HP := lbP HP hw15; replace HR4 := lbR HR4 hw15; replace HX := lbG HX hw15; replace HY := lbG HY hw15; clear hw15
 refine hK.out _ _ ?_ (fun hHeld => ?_)
 · exact ⟨HG.out.box, HP.out.box, HX.out.box, HY.out.box⟩
 clear hK K
 try simp only [Act.put, sA, sB, sC]
 refine pure_ (i := 4) (N := some 72) (v := ?_) (a' := ?_) #[true,true,true,true,true,false,false,false,false,false,false,false,false,false,false,false,false,false,false,false,false,false,false] rfl rfl (by kernel_rfl) (fun _ _ _ h => h) (Or.inl ⟨by rfl, ?_⟩) ?_ ?_
 rotate_left
 · intro w'
   go_simp
   try with_reducible rfl
 rotate_left
 · simp only [Act.put, sA, sB, sC]
   rfl
 refine pure_ (i := 5) (N := some 73) (v := ?_) (a' := ?_) #[true,true,true,true,true,true,false,false,false,false,false,false,false,false,false,false,false,false,false,false,false,false,false] rfl rfl (by kernel_rfl) (fun _ _ _ h => h) (Or.inl ⟨by rfl, ?_⟩) ?_ ?_
 rotate_left
 · intro w'
   go_simp
   try with_reducible rfl
 rotate_left
 · simp only [Act.put, sA, sB, sC]
   rfl
 refine pure_ (i := 6) (N := some 74) (v := ?_) (a' := ?_) #[true,true,true,true,true,true,true,false,false,false,false,false,false,false,false,false,false,false,false,false,false,false,false] rfl rfl (by kernel_rfl) (fun _ _ _ h => h) (Or.inl ⟨by rfl, ?_⟩) ?_ ?_
 rotate_left
 · intro w'
   go_simp
   try with_reducible rfl
 rotate_left
 · simp only [Act.put, sA, sB, sC]
   rfl
 refine pure_ (i := 7) (N := some 75) (v := ?_) (a' := ?_) #[true,true,true,true,true,true,true,true,false,false,false,false,false,false,false,false,false,false,false,false,false,false,false] rfl rfl (by kernel_rfl) (fun _ _ _ h => h) (Or.inl ⟨by rfl, ?_⟩) ?_ ?_
 rotate_left
 · intro w'
   go_simp
   try with_reducible rfl
 rotate_left
 · simp only [Act.put, sA, sB, sC]
   rfl
 refine pure_ (i := 8) (N := some 76) (v := ?_) (a' := ?_) #[true,true,true,true,true,true,true,true,true,false,false,false,false,false,false,false,false,false,false,false,false,false,false] rfl rfl (by kernel_rfl) (fun _ _ _ h => h) (Or.inl ⟨by rfl, ?_⟩) ?_ ?_
 rotate_left
 · intro w'
   go_simp
   try with_reducible rfl
 rotate_left
 · simp only [Act.put, sA, sB, sC]
   rfl
 refine pure_ (i := 9) (N := some 77) (v := ?_) (a' := ?_) #[true,true,true,true,true,true,true,true,true,true,false,false,false,false,false,false,false,false,false,false,false,false,false] rfl rfl (by kernel_rfl) (fun _ _ _ h => h) (Or.inl ⟨by rfl, ?_⟩) ?_ ?_
 rotate_left
 · intro w'
   go_simp
   try with_reducible rfl
 rotate_left
 · simp only [Act.put, sA, sB, sC]
   rfl
 refine pure_ (i := 10) (N := some 78) (v := ?_) (a' := ?_) #[true,true,true,true,true,true,true,true,true,true,true,false,false,false,false,false,false,false,false,false,false,false,false] rfl rfl (by kernel_rfl) (fun _ _ _ h => h) (Or.inl ⟨by rfl, ?_⟩) ?_ ?_
 rotate_left
 · intro w'
   go_simp
   try with_reducible rfl
 rotate_left
 · simp only [Act.put, sA, sB, sC]
   rfl
 refine take_ (i := 11) (N := some 79) (v := ?_) (a' := ?_) #[true,true,true,true,true,true,true,true,true,true,true,true,false,false,false,false,false,false,false,false,false,false,false] rfl rfl (by kernel_rfl) (fun _ _ _ h => h) (Or.inl ⟨by rfl, ?_⟩) hHeld ?_ ?_
 rotate_left
 · rintro w' ⟨⟨hg0, hg1, hg2, hg3, hg4, hg5, hg6⟩, ⟨hp0, hp1, hp2, hp3, hp4, hp5, hp6, hp7, hp8, hp9⟩, ⟨hx0, hx1, hx2, hx3, hx4, hx5, hx6⟩, ⟨hy0, hy1, hy2, hy3, hy4, hy5, hy6⟩⟩
   go_simp
   try with_reducible rfl
 rotate_left
 · simp only [Act.put, sA, sB, sC]
   rfl
 refine take_ (i := 12) (N := some 80) (v := ?_) (a' := ?_) #[true,true,true,true,true,true,true,true,true,true,true,true,true,false,false,false,false,false,false,false,false,false,false] rfl rfl (by kernel_rfl) (fun _ _ _ h => h) (Or.inl ⟨by rfl, ?_⟩) hHeld ?_ ?_
 rotate_left
 · rintro w' ⟨⟨hg0, hg1, hg2, hg3, hg4, hg5, hg6⟩, ⟨hp0, hp1, hp2, hp3, hp4, hp5, hp6, hp7, hp8, hp9⟩, ⟨hx0, hx1, hx2, hx3, hx4, hx5, hx6⟩, ⟨hy0, hy1, hy2, hy3, hy4, hy5, hy6⟩⟩
   go_simp
   try with_reducible rfl
 rotate_left
 · simp only [Act.put, sA, sB, sC]
   rfl
 refine one_ (i := 13) (N := some 81) #[true,true,true,true,true,true,true,true,true,true,true,true,true,true,false,false,false,false,false,false,false,false,false] rfl rfl (by kernel_rfl) (by decide) (fun K hK => ?_)
 go_simp
 refine (rsame_c X g A3 c3 A c _ HR4.out HR1.out J11.out).mono ?_; rintro e w16 ⟨rfl, hw16⟩; replace HB := lbB HB hw16; replace HR1 := lbR HR1 hw16; replace HR2 := lbR HR2 hw16; replace HR3 := lbR HR3 hw16; replace HG := lbG HG hw16; replace HP := lbP HP hw16; replace HR4 := lbR HR4 hw16; replace HX := lbG HX hw16; replace HY := lbG HY hw16; clear hw16
 refine hK.out _ _ ?_ (fun hHeld => ?_)
 · exact ⟨HG.out.box, HP.out.box, HX.out.box, HY.out.box⟩
 clear hK K
 try simp only [Act.put, sA, sB, sC]
 refine pure_ (i := 14) (N := some 82) (v := ?_) (a' := ?_) #[true,true,true,true,true,true,true,true,true,true,true,true,true,true,true,false,false,false,false,false,false,false,false] rfl rfl (by kernel_rfl) (fun _ _ _ h => h) (Or.inl ⟨by rfl, ?_⟩) ?_ ?_
 rotate_left
 · intro w'
   go_simp
   try with_reducible rfl
 rotate_left
 · simp only [Act.put, sA, sB, sC]
   rfl
 refine pure_ (i := 15) (N := some 83) (v := ?_) (a' := ?_) #[true,true,true,true,true,true,true,true,true,true,true,true,true,true,true,true,false,false,false,false,false,false,false] rfl rfl (by kernel_rfl) (fun _ _ _ h => h) (Or.inl ⟨by rfl, ?_⟩) ?_ ?_
 rotate_left
 · intro w'
   go_simp
   try with_reducible rfl
 rotate_left
 · simp only [Act.put, sA, sB, sC]
   rfl
 refine take_ (i := 16) (N := some 84) (v := ?_) (a' := ?_) #[true,true,true,true,true,true,true,true,true,true,true,true,true,true,true,true,true,false,false,false,false,false,false] rfl rfl (by kernel_rfl) (fun _ _ _ h => h) (Or.inl ⟨by rfl, ?_⟩) hHeld ?_ ?_
 rotate_left
 · rintro w' ⟨⟨hg0, hg1, hg2, hg3, hg4, hg5, hg6⟩, ⟨hp0, hp1, hp2, hp3, hp4, hp5, hp6, hp7, hp8, hp9⟩, ⟨hx0, hx1, hx2, hx3, hx4, hx5, hx6⟩, ⟨hy0, hy1, hy2, hy3, hy4, hy5, hy6⟩⟩
   go_simp
   try with_reducible rfl
 rotate_left
 · simp only [Act.put, sA, sB, sC]
   rfl
 refine take_ (i := 18) (N := some 86) (v := ?_) (a' := ?_) #[true,true,true,true,true,true,true,true,true,true,true,true,true,true,true,true,true,false,true,false,false,false,false] rfl rfl (by kernel_rfl) (fun _ _ _ h => h) (Or.inl ⟨by rfl, ?_⟩) hHeld ?_ ?_
 rotate_left
 · rintro w' ⟨⟨hg0, hg1, hg2, hg3, hg4, hg5, hg6⟩, ⟨hp0, hp1, hp2, hp3, hp4, hp5, hp6, hp7, hp8, hp9⟩, ⟨hx0, hx1, hx2, hx3, hx4, hx5, hx6⟩, ⟨hy0, hy1, hy2, hy3, hy4, hy5, hy6⟩⟩
   go_simp
   try with_reducible rfl
 rotate_left
 · simp only [Act.put, sA, sB, sC]
   rfl
 refine one_ (i := 17) (N := some 85) #[true,true,true,true,true,true,true,true,true,true,true,true,true,true,true,true,true,true,true,false,false,false,false] rfl rfl (by kernel_rfl) (by decide) (fun K hK => ?_)
 go_simp
 refine (glast_calls g A c _ HR1.out J12.out).mono ?_; rintro e w17 ⟨rfl, hw17⟩; replace HB := lbB HB hw17; replace HR1 := lbR HR1 hw17; replace HR2 := lbR HR2 hw17; replace HR3 := lbR HR3 hw17; replace HG := lbG HG hw17; replace HP := lbP HP hw17; replace HR4 := lbR HR4 hw17; replace HX := lbG HX hw17; replace HY := lbG HY hw17; clear hw17
 refine hK.out _ _ ?_ (fun hHeld => ?_)
 · exact ⟨HG.out.box, HP.out.box, HX.out.box, HY.out.box⟩
 clear hK K
 try simp only [Act.put, sA, sB, sC]
 refine one_ (i := 19) (N := some 87) #[true,true,true,true,true,true,true,true,true,true,true,true,true,true,true,true,true,true,true,true,false,false,false] rfl rfl (by kernel_rfl) (by decide) (fun K hK => ?_)
 go_simp
 refine (rlast_c g A c _ HR1.out J12.out).mono ?_; rintro e w18 ⟨rfl, hw18⟩; replace HB := lbB HB hw18; replace HR1 := lbR HR1 hw18; replace HR2 := lbR HR2 hw18; replace HR3 := lbR HR3 hw18; replace HG := lbG HG hw18; replace HP := lbP HP hw18; replace HR4 := lbR HR4 hw18; replace HX := lbG HX hw18; replace HY := lbG HY hw18; clear hw18
 refine hK.out _ _ ?_ (fun hHeld => ?_)
 · exact ⟨HG.out.box, HP.out.box, HX.out.box, HY.out.box⟩
 clear hK K
 try simp only [Act.put, sA, sB, sC]
 refine pure_ (i := 20) (N := some 88) (v := ?_) (a' := ?_) #[true,true,true,true,true,true,true,true,true,true,true,true,true,true,true,true,true,true,true,true,true,false,false] rfl rfl (by kernel_rfl) (fun _ _ _ h => h) (Or.inl ⟨by rfl, ?_⟩) ?_ ?_
 rotate_left
 · intro w'
   go_simp
   try with_reducible rfl
 rotate_left
 · simp only [Act.put, sA, sB, sC]
   rfl
 refine pure_ (i := 21) (N := some 89) (v := ?_) (a' := ?_) #[true,true,true,true,true,true,true,true,true,true,true,true,true,true,true,true,true,true,true,true,true,true,false] rfl rfl (by kernel_rfl) (fun _ _ _ h => h) (Or.inl ⟨by rfl, ?_⟩) ?_ ?_
 rotate_left
 · intro w'
   go_simp
   try with_reducible rfl
 rotate_left
 · simp only [Act.put, sA, sB, sC]
   rfl
 refine pure_ (i := 22) (N := some 6) (v := ?_) (a' := ?_) #[true,true,true,true,true,true,true,true,true,true,true,true,true,true,true,true,true,true,true,true,true,true,true] rfl rfl (by kernel_rfl) (fun _ _ _ h => h) (Or.inl ⟨by rfl, ?_⟩) ?_ ?_
 rotate_left
 · intro w'
   go_simp
   try with_reducible rfl
 rotate_left
 · simp only [Act.put, sA, sB, sC]
   rfl
 refine done_ (by kernel_rfl) ?_
 clear hHeld
 obtain ⟨hg0, hg1, hg2, hg3, hg4, hg5, hg6⟩ := HG.out.box
 obtain ⟨hp0, hp1, hp2, hp3, hp4, hp5, hp6, hp7, hp8, hp9⟩ := HP.out.box
 obtain ⟨hx0, hx1, hx2, hx3, hx4, hx5, hx6⟩ := HX.out.box
 obtain ⟨hy0, hy1, hy2, hy3, hy4, hy5, hy6⟩ := HY.out.box
 go_wp2
 go_ret
 exact ⟨rfl, HB.out.b⟩
set_option maxHeartbeats 8000000 in
set_option maxRecDepth 100000 in
theorem tells6_z (g : Grp) (A : Option Addr) (c : Nat) (h : Grp) (B : Option Addr) (d : Nat) (p : Prt) (Ap : Option Addr) (cp : Nat) (w : World) (hg : Rd w A c g.l) (hh : Rd w B d h.l) (hp : Rd w Ap cp p.l) {r1 r2 r3 : Bool} (hf1 : (∀ (A : Option Addr) (c : Nat) (w : World), Rd w A c g.l → Calls Try.prog 13 #[vG g A c] w fun e w' => e = .returned (.bool r1) ∧ Below w.heap.size w w')) (hf2 : (∀ (A : Option Addr) (c : Nat) (w : World), Rd w A c h.l → Calls Try.prog 13 #[vG h A c] w fun e w' => e = .returned (.bool r2) ∧ Below w.heap.size w w')) (hf3 : (∀ (A : Option Addr) (c : Nat) (w : World), Rd w A c p.l → Calls Try.prog 14 #[vP p A c] w fun e w' => e = .returned (.bool r3) ∧ Below w.heap.size w w')) (x1 : r1 = true) (x2 : r2 = true) (x3 : r3 = true) (x4 : isG true g = true) (v : Int) (x5 : chkG g p = v) (hl : g.l.length + p.l.length ≤ 4398046511104) (hv : v = 0) :
  Calls Try.prog 3 #[vG g A c, vG h B d, vP p Ap cp] w fun e w' => e = .returned (.bool true) ∧ Below w.heap.size w w' := by
 subst x1
 subst x2
 subst x3
 obtain ⟨b2, hb2⟩ : ∃ b, sameG g h = b := ⟨_, rfl⟩
 have J2 := Aside0.mk hb2
 obtain ⟨N, hN⟩ : ∃ N : Grp, (⟨g.id, 1, 0, 0, 0, 0, []⟩ : Grp) = N := ⟨_, rfl⟩
 have J3 := Aside0.mk hN
 have J4 : Aside0 (sameG N N = true) := ⟨sameG_iff.2 rfl⟩
 clear hb2 hN
 have J1 := Aside0.mk x4
 have J5 := Aside0.mk x5
 have J6 := Aside0.mk hl
 have J8 : Aside0 (chwG g p = v) := ⟨by rw [chw_chk x4]; exact x5⟩
 obtain ⟨LV, hLV⟩ : ∃ V, lastG g = V := ⟨_, rfl⟩
 have J12 := Aside0.mk hLV
 clear hLV
 obtain ⟨X, hX⟩ : ∃ X, doRG g p = X := ⟨_, rfl⟩
 have J7 : Aside0 (dwG g p = X) := ⟨by rw [dw_do x4, if_pos (by rw [x5]; exact hv)]; exact hX⟩
 have J9 : Aside0 (canR g p) := ⟨chk_can x4 (x5.trans hv)⟩
 have J10 := Aside0.mk hX
 have J11 : Aside0 (sameG X X = true) := ⟨sameG_iff.2 rfl⟩
 have jv : (v == 0) = true := beq_iff_eq.2 hv
 clear x4 x5 hl hv hX
 have HF1 := Aside0.mk hf1
 have HF2 := Aside0.mk hf2
 have HF3 := Aside0.mk hf3
 obtain ⟨s, hs⟩ : ∃ s, w.heap.size = s := ⟨_, rfl⟩
 have HSs := Aside0.mk hs
 unfold vG vP
 go_enter Try.func3, Try.ntmps3
 have HB := Aside0.mk (Bel.refl w)
 have HR1 := Aside0.mk (hg)
 have HR2 := Aside0.mk (hh)
 have HR3 := Aside0.mk (hp)
 clear hf1 hf2 hf3 hg hh hp
 obtain ⟨C1, hC1⟩ : ∃ C, (match Try.f3.body with | some (.seq _ c) => c | _ => .skip) = C := ⟨_, rfl⟩
 have HC1 := Aside0.mk hC1
 simp only [Try.f3] at hC1
 rw [hC1]
 clear hC1
 go_wp2
 replace HB := laB HB (.cells #[.int .i64 g.id, .int .i64 g.fi, .int .i64 g.tm, .int .i64 g.ht, .int .i64 g.hv, .int .i64 g.hc, .slice A g.l.length c] 26)
 replace HR1 := laR HR1 (.cells #[.int .i64 g.id, .int .i64 g.fi, .int .i64 g.tm, .int .i64 g.ht, .int .i64 g.hv, .int .i64 g.hc, .slice A g.l.length c] 26)
 replace HR2 := laR HR2 (.cells #[.int .i64 g.id, .int .i64 g.fi, .int .i64 g.tm, .int .i64 g.ht, .int .i64 g.hv, .int .i64 g.hc, .slice A g.l.length c] 26)
 replace HR3 := laR HR3 (.cells #[.int .i64 g.id, .int .i64 g.fi, .int .i64 g.tm, .int .i64 g.ht, .int .i64 g.hv, .int .i64 g.hc, .slice A g.l.length c] 26)
 replace HB := laB HB (.cells #[.int .i64 h.id, .int .i64 h.fi, .int .i64 h.tm, .int .i64 h.ht, .int .i64 h.hv, .int .i64 h.hc, .slice B h.l.length d] 26)
 replace HR1 := laR HR1 (.cells #[.int .i64 h.id, .int .i64 h.fi, .int .i64 h.tm, .int .i64 h.ht, .int .i64 h.hv, .int .i64 h.hc, .slice B h.l.length d] 26)
 replace HR2 := laR HR2 (.cells #[.int .i64 h.id, .int .i64 h.fi, .int .i64 h.tm, .int .i64 h.ht, .int .i64 h.hv, .int .i64 h.hc, .slice B h.l.length d] 26)
 replace HR3 := laR HR3 (.cells #[.int .i64 h.id, .int .i64 h.fi, .int .i64 h.tm, .int .i64 h.ht, .int .i64 h.hv, .int .i64 h.hc, .slice B h.l.length d] 26)
 replace HB := laB HB (.cells #[.int .i64 p.g, .int .i64 p.k, .slice Ap p.l.length cp, .int .i64 p.ht, .int .i64 p.hv, .int .i64 p.hc, .int .i64 p.ix, .int .i64 p.tm, .bool p.mrk, .bool p.hed] 28)
 replace HR1 := laR HR1 (.cells #[.int .i64 p.g, .int .i64 p.k, .slice Ap p.l.length cp, .int .i64 p.ht, .int .i64 p.hv, .int .i64 p.hc, .int .i64 p.ix, .int .i64 p.tm, .bool p.mrk, .bool p.hed] 28)
 replace HR2 := laR HR2 (.cells #[.int .i64 p.g, .int .i64 p.k, .slice Ap p.l.length cp, .int .i64 p.ht, .int .i64 p.hv, .int .i64 p.hc, .int .i64 p.ix, .int .i64 p.tm, .bool p.mrk, .bool p.hed] 28)
 replace HR3 := laR HR3 (.cells #[.int .i64 p.g, .int .i64 p.k, .slice Ap p.l.length cp, .int .i64 p.ht, .int .i64 p.hv, .int .i64 p.hc, .int .i64 p.ix, .int .i64 p.tm, .bool p.mrk, .bool p.hed] 28)
 have HG := Aside0.mk ((by have hq := BlkG.new g A c w; rw [hs] at hq; exact (hq.alloc (.cells #[.int .i64 h.id, .int .i64 h.fi, .int .i64 h.tm, .int .i64 h.ht, .int .i64 h.hv, .int .i64 h.hc, .slice B h.l.length d] 26)).alloc (.cells #[.int .i64 p.g, .int .i64 p.k, .slice Ap p.l.length cp, .int .i64 p.ht, .int .i64 p.hv, .int .i64 p.hc, .int .i64 p.ix, .int .i64 p.tm, .bool p.mrk, .bool p.hed] 28)))
 have HH := Aside0.mk ((by have hq := BlkG.new h B d (w.alloc (.cells #[.int .i64 g.id, .int .i64 g.fi, .int .i64 g.tm, .int .i64 g.ht, .int .i64 g.hv, .int .i64 g.hc, .slice A g.l.length c] 26)); rw [World.size_alloc, hs] at hq; exact hq.alloc (.cells #[.int .i64 p.g, .int .i64 p.k, .slice Ap p.l.length cp, .int .i64 p.ht, .int .i64 p.hv, .int .i64 p.hc, .int .i64 p.ix, .int .i64 p.tm, .bool p.mrk, .bool p.hed] 28)))
 have HP := Aside0.mk ((by have hq := BlkP.new p Ap cp ((w.alloc (.cells #[.int .i64 g.id, .int .i64 g.fi, .int .i64 g.tm, .int .i64 g.ht, .int .i64 g.hv, .int .i64 g.hc, .slice A g.l.length c] 26)).alloc (.cells #[.int .i64 h.id, .int .i64 h.fi, .int .i64 h.tm, .int .i64 h.ht, .int .i64 h.hv, .int .i64 h.hc, .slice B h.l.length d] 26)); rw [World.size_alloc, World.size_alloc, hs] at hq; exact hq))
 obtain ⟨W0, hW0⟩ : ∃ W, ((w.alloc (.cells #[.int .i64 g.id, .int .i64 g.fi, .int .i64 g.tm, .int .i64 g.ht, .int .i64 g.hv, .int .i64 g.hc, .slice A g.l.length c] 26)).alloc (.cells #[.int .i64 h.id, .int .i64 h.fi, .int .i64 h.tm, .int .i64 h.ht, .int .i64 h.hv, .int .i64 h.hc, .slice B h.l.length d] 26)).alloc (.cells #[.int .i64 p.g, .int .i64 p.k, .slice Ap p.l.length cp, .int .i64 p.ht, .int .i64 p.hv, .int .i64 p.hc, .int .i64 p.ix, .int .i64 p.tm, .bool p.mrk, .bool p.hed] 28) = W := ⟨_, rfl⟩
 rw [hW0] at HB HR1 HR2 HR3 HG HH HP ⊢
 clear hW0
 clear hs
 obtain ⟨hg0, hg1, hg2, hg3, hg4, hg5, hg6⟩ := HG.out.box
 obtain ⟨hh0, hh1, hh2, hh3, hh4, hh5, hh6⟩ := HH.out.box
 obtain ⟨hp0, hp1, hp2, hp3, hp4, hp5, hp6, hp7, hp8, hp9⟩ := HP.out.box
 have hC1 := HC1.out
 simp only [Try.f3] at hC1
 subst hC1
 clear HC1
 obtain ⟨C11, hC11⟩ : ∃ C, (match Try.f3.body with | some (.seq _ (.seq _ (.seq _ (.seq _ (.seq _ (.seq _ (.seq _ c))))))) => c | _ => .skip) = C := ⟨_, rfl⟩
 have HC11 := Aside0.mk hC11
 simp only [Try.f3] at hC11
 rw [hC11]
 clear hC11
 go_wp2_with fail
 go_at_call 12
 refine (known6 _).mono ?_
 rintro e w1 ⟨rfl, hw1⟩
 replace HB := lbB HB hw1
 replace HR1 := lbR HR1 hw1
 replace HR2 := lbR HR2 hw1
 replace HR3 := lbR HR3 hw1
 replace HG := lbG HG hw1
 replace HH := lbG HH hw1
 replace HP := lbP HP hw1
 clear hw1
 clear hg0 hg1 hg2 hg3 hg4 hg5 hg6 hh0 hh1 hh2 hh3 hh4 hh5 hh6 hp0 hp1 hp2 hp3 hp4 hp5 hp6 hp7 hp8 hp9
 obtain ⟨hg0, hg1, hg2, hg3, hg4, hg5, hg6⟩ := HG.out.box
 obtain ⟨hh0, hh1, hh2, hh3, hh4, hh5, hh6⟩ := HH.out.box
 obtain ⟨hp0, hp1, hp2, hp3, hp4, hp5, hp6, hp7, hp8, hp9⟩ := HP.out.box
 go_wp2_with fail
 go_at_call 13
 refine (HF1.out A c _ HR1.out).mono ?_
 rintro e w2 ⟨rfl, hw2⟩
 replace HB := lbB HB hw2
 replace HR1 := lbR HR1 hw2
 replace HR2 := lbR HR2 hw2
 replace HR3 := lbR HR3 hw2
 replace HG := lbG HG hw2
 replace HH := lbG HH hw2
 replace HP := lbP HP hw2
 clear hw2
 clear hg0 hg1 hg2 hg3 hg4 hg5 hg6 hh0 hh1 hh2 hh3 hh4 hh5 hh6 hp0 hp1 hp2 hp3 hp4 hp5 hp6 hp7 hp8 hp9
 obtain ⟨hg0, hg1, hg2, hg3, hg4, hg5, hg6⟩ := HG.out.box
 obtain ⟨hh0, hh1, hh2, hh3, hh4, hh5, hh6⟩ := HH.out.box
 obtain ⟨hp0, hp1, hp2, hp3, hp4, hp5, hp6, hp7, hp8, hp9⟩ := HP.out.box
 go_wp2_with fail
 go_at_call 13
 refine (HF2.out B d _ HR2.out).mono ?_
 rintro e w3 ⟨rfl, hw3⟩
 replace HB := lbB HB hw3
 replace HR1 := lbR HR1 hw3
 replace HR2 := lbR HR2 hw3
 replace HR3 := lbR HR3 hw3
 replace HG := lbG HG hw3
 replace HH := lbG HH hw3
 replace HP := lbP HP hw3
 clear hw3
 clear hg0 hg1 hg2 hg3 hg4 hg5 hg6 hh0 hh1 hh2 hh3 hh4 hh5 hh6 hp0 hp1 hp2 hp3 hp4 hp5 hp6 hp7 hp8 hp9
 obtain ⟨hg0, hg1, hg2, hg3, hg4, hg5, hg6⟩ := HG.out.box
 obtain ⟨hh0, hh1, hh2, hh3, hh4, hh5, hh6⟩ := HH.out.box
 obtain ⟨hp0, hp1, hp2, hp3, hp4, hp5, hp6, hp7, hp8, hp9⟩ := HP.out.box
 go_wp2_with fail
 go_at_call 14
 refine (HF3.out Ap cp _ HR3.out).mono ?_
 rintro e w4 ⟨rfl, hw4⟩
 replace HB := lbB HB hw4
 replace HR1 := lbR HR1 hw4
 replace HR2 := lbR HR2 hw4
 replace HR3 := lbR HR3 hw4
 replace HG := lbG HG hw4
 replace HH := lbG HH hw4
 replace HP := lbP HP hw4
 clear hw4
 clear hg0 hg1 hg2 hg3 hg4 hg5 hg6 hh0 hh1 hh2 hh3 hh4 hh5 hh6 hp0 hp1 hp2 hp3 hp4 hp5 hp6 hp7 hp8 hp9
 obtain ⟨hg0, hg1, hg2, hg3, hg4, hg5, hg6⟩ := HG.out.box
 obtain ⟨hh0, hh1, hh2, hh3, hh4, hh5, hh6⟩ := HH.out.box
 obtain ⟨hp0, hp1, hp2, hp3, hp4, hp5, hp6, hp7, hp8, hp9⟩ := HP.out.box
 go_wp2_with fail
 clear hg0 hg1 hg2 hg3 hg4 hg5 hg6 hh0 hh1 hh2 hh3 hh4 hh5 hh6 hp0 hp1 hp2 hp3 hp4 hp5 hp6 hp7 hp8 hp9
 replace HB := ldB HB
 replace HR1 := ldR HR1
 replace HR2 := ldR HR2
 replace HR3 := ldR HR3
 replace HG := ldG HG
 replace HH := ldG HH
 replace HP := ldP HP
 refine start_ (n := 24) (S := (fun w' => BoxG g A c s w' ∧ BoxG h B d (s + 1) w')) (ds := []) #[false,false,false,false,false,false,false,false,false,false,false,false,false,false,false,false,false,false,false,false,false,false,false,false] (by kernel_rfl) rfl rfl ⟨HG.out.box, HH.out.box⟩ (fun hHeld => ?_)
 refine take_ (i := 0) (N := some 26) (v := ?_) (a' := ?_) #[true,false,false,false,false,false,false,false,false,false,false,false,false,false,false,false,false,false,false,false,false,false,false,false] rfl rfl (by kernel_rfl) (fun _ _ _ h => h) (Or.inl ⟨by rfl, ?_⟩) hHeld ?_ ?_
 rotate_left
 · rintro w' ⟨⟨hg0, hg1, hg2, hg3, hg4, hg5, hg6⟩, ⟨hh0, hh1, hh2, hh3, hh4, hh5, hh6⟩⟩
   go_simp
   try with_reducible rfl
 rotate_left
 · simp only [Act.put, sA, sB, sC]
   rfl
 refine take_ (i := 2) (N := some 28) (v := ?_) (a' := ?_) #[true,false,true,false,false,false,false,false,false,false,false,false,false,false,false,false,false,false,false,false,false,false,false,false] rfl rfl (by kernel_rfl) (fun _ _ _ h => h) (Or.inl ⟨by rfl, ?_⟩) hHeld ?_ ?_
 rotate_left
 · rintro w' ⟨⟨hg0, hg1, hg2, hg3, hg4, hg5, hg6⟩, ⟨hh0, hh1, hh2, hh3, hh4, hh5, hh6⟩⟩
   go_simp
   try with_reducible rfl
 rotate_left
 · simp only [Act.put, sA, sB, sC]
   rfl
 refine one_ (i := 1) (N := some 27) #[true,true,true,false,false,false,false,false,false,false,false,false,false,false,false,false,false,false,false,false,false,false,false,false] rfl rfl (by kernel_rfl) (by decide) (fun K hK => ?_)
 go_simp
 refine (gis_calls g A c _ HR1.out J1.out).mono ?_; rintro e w5 ⟨rfl, hw5⟩; replace HB := lbB HB hw5; replace HR1 := lbR HR1 hw5; replace HR2 := lbR HR2 hw5; replace HR3 := lbR HR3 hw5; replace HG := lbG HG hw5; replace HH := lbG HH hw5; replace HP := lbP HP hw5; clear hw5
 refine hK.out _ _ ?_ (fun hHeld => ?_)
 · exact ⟨HG.out.box, HH.out.box⟩
 clear hK K
 try simp only [Act.put, sA, sB, sC]
 refine one_ (i := 3) (N := some 29) #[true,true,true,true,false,false,false,false,false,false,false,false,false,false,false,false,false,false,false,false,false,false,false,false] rfl rfl (by kernel_rfl) (by decide) (fun K hK => ?_)
 go_simp
 refine (ris_c g A c _ HR1.out J1.out).mono ?_; rintro e w6 ⟨rfl, hw6⟩; replace HB := lbB HB hw6; replace HR1 := lbR HR1 hw6; replace HR2 := lbR HR2 hw6; replace HR3 := lbR HR3 hw6; replace HG := lbG HG hw6; replace HH := lbG HH hw6; replace HP := lbP HP hw6; clear hw6
 refine hK.out _ _ ?_ (fun hHeld => ?_)
 · exact ⟨HG.out.box, HH.out.box⟩
 clear hK K
 try simp only [Act.put, sA, sB, sC]
 refine pure_ (i := 4) (N := some 30) (v := ?_) (a' := ?_) #[true,true,true,true,true,false,false,false,false,false,false,false,false,false,false,false,false,false,false,false,false,false,false,false] rfl rfl (by kernel_rfl) (fun _ _ _ h => h) (Or.inl ⟨by rfl, ?_⟩) ?_ ?_
 rotate_left
 · intro w'
   go_simp
   try with_reducible rfl
 rotate_left
 · simp only [Act.put, sA, sB, sC]
   rfl
 refine pure_ (i := 5) (N := some 31) (v := ?_) (a' := ?_) #[true,true,true,true,true,true,false,false,false,false,false,false,false,false,false,false,false,false,false,false,false,false,false,false] rfl rfl (by kernel_rfl) (fun _ _ _ h => h) (Or.inl ⟨by rfl, ?_⟩) ?_ ?_
 rotate_left
 · intro w'
   go_simp
   try with_reducible rfl
 rotate_left
 · simp only [Act.put, sA, sB, sC]
   rfl
 refine take_ (i := 6) (N := some 32) (v := ?_) (a' := ?_) #[true,true,true,true,true,true,true,false,false,false,false,false,false,false,false,false,false,false,false,false,false,false,false,false] rfl rfl (by kernel_rfl) (fun _ _ _ h => h) (Or.inl ⟨by rfl, ?_⟩) hHeld ?_ ?_
 rotate_left
 · rintro w' ⟨⟨hg0, hg1, hg2, hg3, hg4, hg5, hg6⟩, ⟨hh0, hh1, hh2, hh3, hh4, hh5, hh6⟩⟩
   go_simp
   try with_reducible rfl
 rotate_left
 · simp only [Act.put, sA, sB, sC]
   rfl
 refine take_ (i := 7) (N := some 33) (v := ?_) (a' := ?_) #[true,true,true,true,true,true,true,true,false,false,false,false,false,false,false,false,false,false,false,false,false,false,false,false] rfl rfl (by kernel_rfl) (fun _ _ _ h => h) (Or.inl ⟨by rfl, ?_⟩) hHeld ?_ ?_
 rotate_left
 · rintro w' ⟨⟨hg0, hg1, hg2, hg3, hg4, hg5, hg6⟩, ⟨hh0, hh1, hh2, hh3, hh4, hh5, hh6⟩⟩
   go_simp
   try with_reducible rfl
 rotate_left
 · simp only [Act.put, sA, sB, sC]
   rfl
 refine take_ (i := 9) (N := some 35) (v := ?_) (a' := ?_) #[true,true,true,true,true,true,true,true,false,true,false,false,false,false,false,false,false,false,false,false,false,false,false,false] rfl rfl (by kernel_rfl) (fun _ _ _ h => h) (Or.inl ⟨by rfl, ?_⟩) hHeld ?_ ?_
 rotate_left
 · rintro w' ⟨⟨hg0, hg1, hg2, hg3, hg4, hg5, hg6⟩, ⟨hh0, hh1, hh2, hh3, hh4, hh5, hh6⟩⟩
   go_simp
   try with_reducible rfl
 rotate_left
 · simp only [Act.put, sA, sB, sC]
   rfl
 refine take_ (i := 10) (N := some 36) (v := ?_) (a' := ?_) #[true,true,true,true,true,true,true,true,false,true,true,false,false,false,false,false,false,false,false,false,false,false,false,false] rfl rfl (by kernel_rfl) (fun _ _ _ h => h) (Or.inl ⟨by rfl, ?_⟩) hHeld ?_ ?_
 rotate_left
 · rintro w' ⟨⟨hg0, hg1, hg2, hg3, hg4, hg5, hg6⟩, ⟨hh0, hh1, hh2, hh3, hh4, hh5, hh6⟩⟩
   go_simp
   try with_reducible rfl
 rotate_left
 · simp only [Act.put, sA, sB, sC]
   rfl
 refine one_ (i := 8) (N := some 34) #[true,true,true,true,true,true,true,true,true,true,true,false,false,false,false,false,false,false,false,false,false,false,false,false] rfl rfl (by kernel_rfl) (by decide) (fun K hK => ?_)
 go_simp
 refine (gsame_calls g h A c B d _ HR1.out HR2.out J2.out).mono ?_; rintro e w7 ⟨rfl, hw7⟩; replace HB := lbB HB hw7; replace HR1 := lbR HR1 hw7; replace HR2 := lbR HR2 hw7; replace HR3 := lbR HR3 hw7; replace HG := lbG HG hw7; replace HH := lbG HH hw7; replace HP := lbP HP hw7; clear hw7
 refine hK.out _ _ ?_ (fun hHeld => ?_)
 · exact ⟨HG.out.box, HH.out.box⟩
 clear hK K
 try simp only [Act.put, sA, sB, sC]
 refine one_ (i := 11) (N := some 37) #[true,true,true,true,true,true,true,true,true,true,true,true,false,false,false,false,false,false,false,false,false,false,false,false] rfl rfl (by kernel_rfl) (by decide) (fun K hK => ?_)
 go_simp
 refine (rsame_c g h A c B d _ HR1.out HR2.out J2.out).mono ?_; rintro e w8 ⟨rfl, hw8⟩; replace HB := lbB HB hw8; replace HR1 := lbR HR1 hw8; replace HR2 := lbR HR2 hw8; replace HR3 := lbR HR3 hw8; replace HG := lbG HG hw8; replace HH := lbG HH hw8; replace HP := lbP HP hw8; clear hw8
 refine hK.out _ _ ?_ (fun hHeld => ?_)
 · exact ⟨HG.out.box, HH.out.box⟩
 clear hK K
 try simp only [Act.put, sA, sB, sC]
 refine pure_ (i := 12) (N := some 38) (v := ?_) (a' := ?_) #[true,true,true,true,true,true,true,true,true,true,true,true,true,false,false,false,false,false,false,false,false,false,false,false] rfl rfl (by kernel_rfl) (fun _ _ _ h => h) (Or.inl ⟨by rfl, ?_⟩) ?_ ?_
 rotate_left
 · intro w'
   go_simp
   try with_reducible rfl
 rotate_left
 · simp only [Act.put, sA, sB, sC]
   rfl
 refine pure_ (i := 13) (N := some 39) (v := ?_) (a' := ?_) #[true,true,true,true,true,true,true,true,true,true,true,true,true,true,false,false,false,false,false,false,false,false,false,false] rfl rfl (by kernel_rfl) (fun _ _ _ h => h) (Or.inl ⟨by rfl, ?_⟩) ?_ ?_
 rotate_left
 · intro w'
   go_simp
   try with_reducible rfl
 rotate_left
 · simp only [Act.put, sA, sB, sC]
   rfl
 refine pure_ (i := 14) (N := some 40) (v := ?_) (a' := ?_) #[true,true,true,true,true,true,true,true,true,true,true,true,true,true,true,false,false,false,false,false,false,false,false,false] rfl rfl (by kernel_rfl) (fun _ _ _ h => h) (Or.inl ⟨by rfl, ?_⟩) ?_ ?_
 rotate_left
 · intro w'
   go_simp
   try with_reducible rfl
 rotate_left
 · simp only [Act.put, sA, sB, sC]
   rfl
 refine pure_ (i := 15) (N := some 41) (v := ?_) (a' := ?_) #[true,true,true,true,true,true,true,true,true,true,true,true,true,true,true,true,false,false,false,false,false,false,false,false] rfl rfl (by kernel_rfl) (fun _ _ _ h => h) (Or.inl ⟨by rfl, ?_⟩) ?_ ?_
 rotate_left
 · intro w'
   go_simp
   try with_reducible rfl
 rotate_left
 · simp only [Act.put, sA, sB, sC]
   rfl
 refine take_ (i := 16) (N := some 42) (v := ?_) (a' := ?_) #[true,true,true,true,true,true,true,true,true,true,true,true,true,true,true,true,true,false,false,false,false,false,false,false] rfl rfl (by kernel_rfl) (fun _ _ _ h => h) (Or.inl ⟨by rfl, ?_⟩) hHeld ?_ ?_
 rotate_left
 · rintro w' ⟨⟨hg0, hg1, hg2, hg3, hg4, hg5, hg6⟩, ⟨hh0, hh1, hh2, hh3, hh4, hh5, hh6⟩⟩
   go_simp
   try with_reducible rfl
 rotate_left
 · simp only [Act.put, sA, sB, sC]
   rfl
 refine pure_ (i := 18) (N := some 44) (v := ?_) (a' := ?_) #[true,true,true,true,true,true,true,true,true,true,true,true,true,true,true,true,true,false,true,false,false,false,false,false] rfl rfl (by kernel_rfl) (fun _ _ _ h => h) (Or.inl ⟨by rfl, ?_⟩) ?_ ?_
 rotate_left
 · intro w'
   go_simp
   try with_reducible rfl
 rotate_left
 · simp only [Act.put, sA, sB, sC]
   rfl
 refine take_ (i := 19) (N := some 45) (v := ?_) (a' := ?_) #[true,true,true,true,true,true,true,true,true,true,true,true,true,true,true,true,true,false,true,true,false,false,false,false] rfl rfl (by kernel_rfl) (fun _ _ _ h => h) (Or.inl ⟨by rfl, ?_⟩) hHeld ?_ ?_
 rotate_left
 · rintro w' ⟨⟨hg0, hg1, hg2, hg3, hg4, hg5, hg6⟩, ⟨hh0, hh1, hh2, hh3, hh4, hh5, hh6⟩⟩
   go_simp
   try with_reducible rfl
 rotate_left
 · simp only [Act.put, sA, sB, sC]
   rfl
 refine one_ (i := 17) (N := some 43) #[true,true,true,true,true,true,true,true,true,true,true,true,true,true,true,true,true,true,true,true,false,false,false,false] rfl rfl (by kernel_rfl) (by decide) (fun K hK => ?_)
 go_simp
 refine (new_c g.id _ J3.out).mono ?_; rintro e w9 ⟨A1, c1, rfl, hrd, hw9⟩; replace HB := lbB HB hw9; replace HR1 := lbR HR1 hw9; replace HR2 := lbR HR2 hw9; replace HR3 := lbR HR3 hw9; replace HG := lbG HG hw9; replace HH := lbG HH hw9; replace HP := lbP HP hw9; have HN1 := Aside0.mk (hrd); clear hrd; clear hw9
 refine hK.out _ _ ?_ (fun hHeld => ?_)
 · exact ⟨HG.out.box, HH.out.box⟩
 clear hK K
 try simp only [Act.put, sA, sB, sC]
 refine one_ (i := 20) (N := some 46) #[true,true,true,true,true,true,true,true,true,true,true,true,true,true,true,true,true,true,true,true,true,false,false,false] rfl rfl (by kernel_rfl) (by decide) (fun K hK => ?_)
 go_simp
 refine (rnew_c g.id _ J3.out).mono ?_; rintro e w10 ⟨A2, c2, rfl, hrd, hw10⟩; replace HB := lbB HB hw10; replace HR1 := lbR HR1 hw10; replace HR2 := lbR HR2 hw10; replace HR3 := lbR HR3 hw10; replace HG := lbG HG hw10; replace HH := lbG HH hw10; replace HP := lbP HP hw10; replace HN1 := lbR HN1 hw10; have HN2 := Aside0.mk (hrd); clear hrd; clear hw10
 refine hK.out _ _ ?_ (fun hHeld => ?_)
 · exact ⟨HG.out.box, HH.out.box⟩
 clear hK K
 try simp only [Act.put, sA, sB, sC]
 refine one_ (i := 21) (N := some 47) #[true,true,true,true,true,true,true,true,true,true,true,true,true,true,true,true,true,true,true,true,true,true,false,false] rfl rfl (by kernel_rfl) (by decide) (fun K hK => ?_)
 go_simp
 refine (rsame_c N N A1 c1 A2 c2 _ HN1.out HN2.out J4.out).mono ?_; rintro e w11 ⟨rfl, hw11⟩; replace HB := lbB HB hw11; replace HR1 := lbR HR1 hw11; replace HR2 := lbR HR2 hw11; replace HR3 := lbR HR3 hw11; replace HG := lbG HG hw11; replace HH := lbG HH hw11; replace HP := lbP HP hw11; replace HN1 := lbR HN1 hw11; replace HN2 := lbR HN2 hw11; clear hw11
 refine hK.out _ _ ?_ (fun hHeld => ?_)
 · exact ⟨HG.out.box, HH.out.box⟩
 clear hK K
 try simp only [Act.put, sA, sB, sC]
 refine pure_ (i := 22) (N := some 48) (v := ?_) (a' := ?_) #[true,true,true,true,true,true,true,true,true,true,true,true,true,true,true,true,true,true,true,true,true,true,true,false] rfl rfl (by kernel_rfl) (fun _ _ _ h => h) (Or.inl ⟨by rfl, ?_⟩) ?_ ?_
 rotate_left
 · intro w'
   go_simp
   try with_reducible rfl
 rotate_left
 · simp only [Act.put, sA, sB, sC]
   rfl
 refine pure_ (i := 23) (N := some 49) (v := ?_) (a' := ?_) #[true,true,true,true,true,true,true,true,true,true,true,true,true,true,true,true,true,true,true,true,true,true,true,true] rfl rfl (by kernel_rfl) (fun _ _ _ h => h) (Or.inl ⟨by rfl, ?_⟩) ?_ ?_
 rotate_left
 · intro w'
   go_simp
   try with_reducible rfl
 rotate_left
 · simp only [Act.put, sA, sB, sC]
   rfl
 refine done_ (by kernel_rfl) ?_
 clear hHeld
 obtain ⟨hg0, hg1, hg2, hg3, hg4, hg5, hg6⟩ := HG.out.box
 obtain ⟨hh0, hh1, hh2, hh3, hh4, hh5, hh6⟩ := HH.out.box
 obtain ⟨hp0, hp1, hp2, hp3, hp4, hp5, hp6, hp7, hp8, hp9⟩ := HP.out.box
 go_wp2_with fail
 clear HN1
 clear HN2
 clear HH
 clear hg0 hg1 hg2 hg3 hg4 hg5 hg6 hh0 hh1 hh2 hh3 hh4 hh5 hh6 hp0 hp1 hp2 hp3 hp4 hp5 hp6 hp7 hp8 hp9
 obtain ⟨hg0, hg1, hg2, hg3, hg4, hg5, hg6⟩ := HG.out.box
 obtain ⟨hp0, hp1, hp2, hp3, hp4, hp5, hp6, hp7, hp8, hp9⟩ := HP.out.box
 go_at_call 16
 refine (ris_c g A c _ HR1.out J1.out).mono ?_
 rintro e w12 ⟨rfl, hw12⟩
 replace HB := lbB HB hw12
 replace HR1 := lbR HR1 hw12
 replace HR2 := lbR HR2 hw12
 replace HR3 := lbR HR3 hw12
 replace HG := lbG HG hw12
 replace HP := lbP HP hw12
 clear hw12
 clear hg0 hg1 hg2 hg3 hg4 hg5 hg6 hp0 hp1 hp2 hp3 hp4 hp5 hp6 hp7 hp8 hp9
 obtain ⟨hg0, hg1, hg2, hg3, hg4, hg5, hg6⟩ := HG.out.box
 obtain ⟨hp0, hp1, hp2, hp3, hp4, hp5, hp6, hp7, hp8, hp9⟩ := HP.out.box
 go_wp2_with fail
 go_at_call 21
 refine (rchk_c g A c p Ap cp _ HR1.out HR3.out J1.out J5.out).mono ?_
 rintro e w13 ⟨rfl, hw13⟩
 replace HB := lbB HB hw13
 replace HR1 := lbR HR1 hw13
 replace HR2 := lbR HR2 hw13
 replace HR3 := lbR HR3 hw13
 replace HG := lbG HG hw13
 replace HP := lbP HP hw13
 clear hw13
 clear hg0 hg1 hg2 hg3 hg4 hg5 hg6 hp0 hp1 hp2 hp3 hp4 hp5 hp6 hp7 hp8 hp9
 obtain ⟨hg0, hg1, hg2, hg3, hg4, hg5, hg6⟩ := HG.out.box
 obtain ⟨hp0, hp1, hp2, hp3, hp4, hp5, hp6, hp7, hp8, hp9⟩ := HP.out.box
 go_wp2_with fail
 go_at_call 22
 refine (gdo_calls g A c p Ap cp _ HR1.out HR3.out J6.out J7.out J8.out).mono ?_
 rintro e w14 ⟨A3, c3, rfl, hrd, hw14⟩
 replace HB := lbB HB hw14
 replace HR1 := lbR HR1 hw14
 replace HR2 := lbR HR2 hw14
 replace HR3 := lbR HR3 hw14
 replace HG := lbG HG hw14
 replace HP := lbP HP hw14
 have HR4 := Aside0.mk (hrd)
 clear hrd
 clear hw14
 clear hg0 hg1 hg2 hg3 hg4 hg5 hg6 hp0 hp1 hp2 hp3 hp4 hp5 hp6 hp7 hp8 hp9
 obtain ⟨hg0, hg1, hg2, hg3, hg4, hg5, hg6⟩ := HG.out.box
 obtain ⟨hp0, hp1, hp2, hp3, hp4, hp5, hp6, hp7, hp8, hp9⟩ := HP.out.box
 obtain ⟨n8, hn8⟩ : ∃ n, w14.heap.size = n := ⟨_, rfl⟩
 have HSn8 := Aside0.mk hn8
 go_wp2_with fail
 clear hg0 hg1 hg2 hg3 hg4 hg5 hg6 hp0 hp1 hp2 hp3 hp4 hp5 hp6 hp7 hp8 hp9
 replace HB := laB HB (.cells #[.int .i64 X.id, .int .i64 X.fi, .int .i64 X.tm, .int .i64 X.ht, .int .i64 X.hv, .int .i64 X.hc, .slice A3 X.l.length c3] 26)
 replace HR1 := laR HR1 (.cells #[.int .i64 X.id, .int .i64 X.fi, .int .i64 X.tm, .int .i64 X.ht, .int .i64 X.hv, .int .i64 X.hc, .slice A3 X.l.length c3] 26)
 replace HR2 := laR HR2 (.cells #[.int .i64 X.id, .int .i64 X.fi, .int .i64 X.tm, .int .i64 X.ht, .int .i64 X.hv, .int .i64 X.hc, .slice A3 X.l.length c3] 26)
 replace HR3 := laR HR3 (.cells #[.int .i64 X.id, .int .i64 X.fi, .int .i64 X.tm, .int .i64 X.ht, .int .i64 X.hv, .int .i64 X.hc, .slice A3 X.l.length c3] 26)
 replace HG := laG HG (.cells #[.int .i64 X.id, .int .i64 X.fi, .int .i64 X.tm, .int .i64 X.ht, .int .i64 X.hv, .int .i64 X.hc, .slice A3 X.l.length c3] 26)
 replace HP := laP HP (.cells #[.int .i64 X.id, .int .i64 X.fi, .int .i64 X.tm, .int .i64 X.ht, .int .i64 X.hv, .int .i64 X.hc, .slice A3 X.l.length c3] 26)
 replace HR4 := laR HR4 (.cells #[.int .i64 X.id, .int .i64 X.fi, .int .i64 X.tm, .int .i64 X.ht, .int .i64 X.hv, .int .i64 X.hc, .slice A3 X.l.length c3] 26)
 have HX := Aside0.mk ((by have hq := BlkG.new X A3 c3 w14; rw [HSn8.out] at hq; exact hq : BlkG X A3 c3 n8 (w14.alloc (.cells #[.int .i64 X.id, .int .i64 X.fi, .int .i64 X.tm, .int .i64 X.ht, .int .i64 X.hv, .int .i64 X.hc, .slice A3 X.l.length c3] 26))))
 obtain ⟨W1, hW1⟩ : ∃ W, w14.alloc (.cells #[.int .i64 X.id, .int .i64 X.fi, .int .i64 X.tm, .int .i64 X.ht, .int .i64 X.hv, .int .i64 X.hc, .slice A3 X.l.length c3] 26) = W := ⟨_, rfl⟩
 rw [hW1] at HB HR1 HR2 HR3 HG HP HR4 HX ⊢
 clear hW1
 clear hn8
 obtain ⟨hg0, hg1, hg2, hg3, hg4, hg5, hg6⟩ := HG.out.box
 obtain ⟨hp0, hp1, hp2, hp3, hp4, hp5, hp6, hp7, hp8, hp9⟩ := HP.out.box
 obtain ⟨hx0, hx1, hx2, hx3, hx4, hx5, hx6⟩ := HX.out.box
 have hC11 := HC11.out
 simp only [Try.f3] at hC11
 subst hC11
 clear HC11
 obtain ⟨C12, hC12⟩ : ∃ C, (match Try.f3.body with | some (.seq _ (.seq _ (.seq _ (.seq _ (.seq _ (.seq _ (.seq _ (.seq _ c)))))))) => c | _ => .skip) = C := ⟨_, rfl⟩
 have HC12 := Aside0.mk hC12
 simp only [Try.f3] at hC12
 rw [hC12]
 clear hC12
 obtain ⟨n10, hn10⟩ : ∃ n, W1.heap.size = n := ⟨_, rfl⟩
 have HSn10 := Aside0.mk hn10
 have Q1 : Aside0 (s + 2 < n10) := ⟨by rw [← hn10]; exact (Array.getElem?_eq_some_iff.1 HP.out).1⟩
 have Q2 : Aside0 (n8 < n10) := ⟨by rw [← hn10]; exact HX.out.lt⟩
 go_wp2_with fail
 clear hg0 hg1 hg2 hg3 hg4 hg5 hg6 hp0 hp1 hp2 hp3 hp4 hp5 hp6 hp7 hp8 hp9 hx0 hx1 hx2 hx3 hx4 hx5 hx6
 replace HB := laB HB (.cells #[.int .i64 g.id, .int .i64 g.fi, .int .i64 g.tm, .int .i64 g.ht, .int .i64 g.hv, .int .i64 g.hc, .slice A g.l.length c] 26)
 replace HR1 := laR HR1 (.cells #[.int .i64 g.id, .int .i64 g.fi, .int .i64 g.tm, .int .i64 g.ht, .int .i64 g.hv, .int .i64 g.hc, .slice A g.l.length c] 26)
 replace HR2 := laR HR2 (.cells #[.int .i64 g.id, .int .i64 g.fi, .int .i64 g.tm, .int .i64 g.ht, .int .i64 g.hv, .int .i64 g.hc, .slice A g.l.length c] 26)
 replace HR3 := laR HR3 (.cells #[.int .i64 g.id, .int .i64 g.fi, .int .i64 g.tm, .int .i64 g.ht, .int .i64 g.hv, .int .i64 g.hc, .slice A g.l.length c] 26)
 replace HG := laG HG (.cells #[.int .i64 g.id, .int .i64 g.fi, .int .i64 g.tm, .int .i64 g.ht, .int .i64 g.hv, .int .i64 g.hc, .slice A g.l.length c] 26)
 replace HP := laP HP (.cells #[.int .i64 g.id, .int .i64 g.fi, .int .i64 g.tm, .int .i64 g.ht, .int .i64 g.hv, .int .i64 g.hc, .slice A g.l.length c] 26)
 replace HR4 := laR HR4 (.cells #[.int .i64 g.id, .int .i64 g.fi, .int .i64 g.tm, .int .i64 g.ht, .int .i64 g.hv, .int .i64 g.hc, .slice A g.l.length c] 26)
 replace HX := laG HX (.cells #[.int .i64 g.id, .int .i64 g.fi, .int .i64 g.tm, .int .i64 g.ht, .int .i64 g.hv, .int .i64 g.hc, .slice A g.l.length c] 26)
 have HY := Aside0.mk ((by have hq := BlkG.new g A c W1; rw [HSn10.out] at hq; exact hq : BlkG g A c n10 (W1.alloc (.cells #[.int .i64 g.id, .int .i64 g.fi, .int .i64 g.tm, .int .i64 g.ht, .int .i64 g.hv, .int .i64 g.hc, .slice A g.l.length c] 26))))
 obtain ⟨W2, hW2⟩ : ∃ W, W1.alloc (.cells #[.int .i64 g.id, .int .i64 g.fi, .int .i64 g.tm, .int .i64 g.ht, .int .i64 g.hv, .int .i64 g.hc, .slice A g.l.length c] 26) = W := ⟨_, rfl⟩
 rw [hW2] at HB HR1 HR2 HR3 HG HP HR4 HX HY ⊢
 clear hW2
 clear hn10
 obtain ⟨hg0, hg1, hg2, hg3, hg4, hg5, hg6⟩ := HG.out.box
 obtain ⟨hp0, hp1, hp2, hp3, hp4, hp5, hp6, hp7, hp8, hp9⟩ := HP.out.box
 obtain ⟨hx0, hx1, hx2, hx3, hx4, hx5, hx6⟩ := HX.out.box
 obtain ⟨hy0, hy1, hy2, hy3, hy4, hy5, hy6⟩ := HY.out.box
 have hC12 := HC12.out
 simp only [Try.f3] at hC12
 subst hC12
 clear HC12
 obtain ⟨C14, hC14⟩ : ∃ C, (match Try.f3.body with | some (.seq _ (.seq _ (.seq _ (.seq _ (.seq _ (.seq _ (.seq _ (.seq _ (.seq _ c))))))))) => c | _ => .skip) = C := ⟨_, rfl⟩
 have HC14 := Aside0.mk hC14
 simp only [Try.f3] at hC14
 rw [hC14]
 clear hC14
 go_wp2_with fail
 go_at_call 23
 refine (rdo_c g A c p Ap cp _ HR1.out HR3.out J6.out J9.out J10.out).mono ?_
 rintro e w15 ⟨A4, c4, rfl, hrd, hw15⟩
 replace HB := lbB HB hw15
 replace HR1 := lbR HR1 hw15
 replace HR2 := lbR HR2 hw15
 replace HR3 := lbR HR3 hw15
 replace HG := lbG HG hw15
 replace HP := lbP HP hw15
 replace HR4 := lbR HR4 hw15
 replace HX := lbG HX hw15
 replace HY := lbG HY hw15
 have HR5 := Aside0.mk (hrd)
 clear hrd
 clear hw15
 clear hg0 hg1 hg2 hg3 hg4 hg5 hg6 hp0 hp1 hp2 hp3 hp4 hp5 hp6 hp7 hp8 hp9 hx0 hx1 hx2 hx3 hx4 hx5 hx6 hy0 hy1 hy2 hy3 hy4 hy5 hy6
 obtain ⟨hg0, hg1, hg2, hg3, hg4, hg5, hg6⟩ := HG.out.box
 obtain ⟨hp0, hp1, hp2, hp3, hp4, hp5, hp6, hp7, hp8, hp9⟩ := HP.out.box
 obtain ⟨hx0, hx1, hx2, hx3, hx4, hx5, hx6⟩ := HX.out.box
 obtain ⟨hy0, hy1, hy2, hy3, hy4, hy5, hy6⟩ := HY.out.box
 have yf := HY.out.free
 go_wp2_with fail
 clear yf
 clear hg0 hg1 hg2 hg3 hg4 hg5 hg6 hp0 hp1 hp2 hp3 hp4 hp5 hp6 hp7 hp8 hp9 hx0 hx1 hx2 hx3 hx4 hx5 hx6 hy0 hy1 hy2 hy3 hy4 hy5 hy6
 have hx := only_store X A4 c4 n10 w15
 replace HB := Aside0.mk (Bel.only HB.out hx (fun q hq h => by have h2 : q = n10 := h; have := Q1.out; have := HSs.out; omega))
 replace HR1 := Aside0.mk (Rd.only HR1.out hx (fun q hq h => by have h3 : q = n10 := h; subst h3; exact Rd.apartG HR1.out HY.out hq))
 replace HR2 := Aside0.mk (Rd.only HR2.out hx (fun q hq h => by have h3 : q = n10 := h; subst h3; exact Rd.apartG HR2.out HY.out hq))
 replace HR3 := Aside0.mk (Rd.only HR3.out hx (fun q hq h => by have h3 : q = n10 := h; subst h3; exact Rd.apartG HR3.out HY.out hq))
 replace HG := Aside0.mk (BlkG.only HG.out hx (fun h => by have h2 : s = n10 := h; have := Q1.out; omega))
 replace HP := Aside0.mk (BlkP.only HP.out hx (fun h => by have h2 : (s + 2) = n10 := h; have := Q1.out; omega))
 replace HR4 := Aside0.mk (Rd.only HR4.out hx (fun q hq h => by have h3 : q = n10 := h; subst h3; exact Rd.apartG HR4.out HY.out hq))
 replace HX := Aside0.mk (BlkG.only HX.out hx (fun h => by have h2 : n8 = n10 := h; have := Q2.out; omega))
 replace HR5 := Aside0.mk (Rd.only HR5.out hx (fun q hq h => by have h3 : q = n10 := h; subst h3; exact Rd.apartG HR5.out HY.out hq))
 replace HY := Aside0.mk (BlkG.store (g := X) (A := A4) (c := c4) HY.out)
 clear hx
 obtain ⟨W3, hW3⟩ : ∃ W, (((((((w15.setCell ⟨n10, 0, none⟩ (.int .i64 X.id)).setCell ⟨n10, 1, none⟩ (.int .i64 X.fi)).setCell ⟨n10, 2, none⟩ (.int .i64 X.tm)).setCell ⟨n10, 3, none⟩ (.int .i64 X.ht)).setCell ⟨n10, 4, none⟩ (.int .i64 X.hv)).setCell ⟨n10, 5, none⟩ (.int .i64 X.hc)).setCell ⟨n10, 6, none⟩ (.slice A4 X.l.length c4)) = W := ⟨_, rfl⟩
 rw [hW3] at HB HR1 HR2 HR3 HG HP HR4 HX HY HR5 ⊢
 clear hW3
 obtain ⟨hg0, hg1, hg2, hg3, hg4, hg5, hg6⟩ := HG.out.box
 obtain ⟨hp0, hp1, hp2, hp3, hp4, hp5, hp6, hp7, hp8, hp9⟩ := HP.out.box
 obtain ⟨hx0, hx1, hx2, hx3, hx4, hx5, hx6⟩ := HX.out.box
 obtain ⟨hy0, hy1, hy2, hy3, hy4, hy5, hy6⟩ := HY.out.box
 have hC14 := HC14.out
 simp only [Try.f3] at hC14
 subst hC14
 clear HC14
 go_wp2_with fail
 clear hg0 hg1 hg2 hg3 hg4 hg5 hg6 hp0 hp1 hp2 hp3 hp4 hp5 hp6 hp7 hp8 hp9 hx0 hx1 hx2 hx3 hx4 hx5 hx6 hy0 hy1 hy2 hy3 hy4 hy5 hy6
 replace HB := ldB HB
 replace HR1 := ldR HR1
 replace HR2 := ldR HR2
 replace HR3 := ldR HR3
 replace HG := ldG HG
 replace HP := ldP HP
 replace HR4 := ldR HR4
 replace HX := ldG HX
 replace HY := ldG HY
 replace HR5 := ldR HR5
 refine start_ (n := 23) (S := (fun w' => BoxG g A c s w' ∧ BoxP p Ap cp (s + 2) w' ∧ BoxG X A3 c3 n8 w' ∧ BoxG X A4 c4 n10 w')) (ds := []) #[false,false,false,false,false,false,false,false,false,false,false,false,false,false,false,false,false,false,false,false,false,false,false] (by kernel_rfl) rfl rfl ⟨HG.out.box, HP.out.box, HX.out.box, HY.out.box⟩ (fun hHeld => ?_)
 refine take_ (i := 0) (N := some 68) (v := ?_) (a' := ?_) #[true,false,false,false,false,false,false,false,false,false,false,false,false,false,false,false,false,false,false,false,false,false,false] rfl rfl (by kernel_rfl) (fun _ _ _ h => h) (Or.inl ⟨by rfl, ?_⟩) hHeld ?_ ?_
 rotate_left
 · rintro w' ⟨⟨hg0, hg1, hg2, hg3, hg4, hg5, hg6⟩, ⟨hp0, hp1, hp2, hp3, hp4, hp5, hp6, hp7, hp8, hp9⟩, ⟨hx0, hx1, hx2, hx3, hx4, hx5, hx6⟩, ⟨hy0, hy1, hy2, hy3, hy4, hy5, hy6⟩⟩
   go_simp
   try with_reducible rfl
 rotate_left
 · simp only [Act.put, sA, sB, sC]
   rfl
 refine take_ (i := 1) (N := some 69) (v := ?_) (a' := ?_) #[true,true,false,false,false,false,false,false,false,false,false,false,false,false,false,false,false,false,false,false,false,false,false] rfl rfl (by kernel_rfl) (fun _ _ _ h => h) (Or.inl ⟨by rfl, ?_⟩) hHeld ?_ ?_
 rotate_left
 · rintro w' ⟨⟨hg0, hg1, hg2, hg3, hg4, hg5, hg6⟩, ⟨hp0, hp1, hp2, hp3, hp4, hp5, hp6, hp7, hp8, hp9⟩, ⟨hx0, hx1, hx2, hx3, hx4, hx5, hx6⟩, ⟨hy0, hy1, hy2, hy3, hy4, hy5, hy6⟩⟩
   go_simp
   try with_reducible rfl
 rotate_left
 · simp only [Act.put, sA, sB, sC]
   rfl
 refine pure_ (i := 3) (N := some 71) (v := ?_) (a' := ?_) #[true,true,false,true,false,false,false,false,false,false,false,false,false,false,false,false,false,false,false,false,false,false,false] rfl rfl (by kernel_rfl) (fun _ _ _ h => h) (Or.inl ⟨by rfl, ?_⟩) ?_ ?_
 rotate_left
 · intro w'
   go_simp
   try with_reducible rfl
 rotate_left
 · simp only [Act.put, sA, sB, sC]
   rfl
 refine one_ (i := 2) (N := some 70) #[true,true,true,true,false,false,false,false,false,false,false,false,false,false,false,false,false,false,false,false,false,false,false] rfl rfl (by kernel_rfl) (by decide) (fun K hK => ?_)
 go_simp
 refine (gchk_calls g A c p Ap cp _ HR1.out HR3.out J8.out).mono ?_; rintro e w16 ⟨rfl, hw16⟩; replace HB := lbB HB hw16; replace HR1 := lbR HR1 hw16; replace HR2 := lbR HR2 hw16; replace HR3 := lbR HR3 hw16; replace HG := lbG HG hw16; replace HP := lbP HP hw16; replace HR4 := lbR HR4 hw16; replace HX := lbG HX hw16; replace HY := lbG HY hw16; replace HR5 := lbR HR5 hw16; clear hw16
 refine hK.out _ _ ?_ (fun hHeld => ?_)
 · exact ⟨HG.out.box, HP.out.box, HX.out.box, HY.out.box⟩
 clear hK K
 try simp only [Act.put, sA, sB, sC]
 refine pure_ (i := 4) (N := some 72) (v := ?_) (a' := ?_) #[true,true,true,true,true,false,false,false,false,false,false,false,false,false,false,false,false,false,false,false,false,false,false] rfl rfl (by kernel_rfl) (fun _ _ _ h => h) (Or.inl ⟨by rfl, ?_⟩) ?_ ?_
 rotate_left
 · intro w'
   go_simp
   try with_reducible rfl
 rotate_left
 · simp only [Act.put, sA, sB, sC]
   rfl
 refine pure_ (i := 5) (N := some 73) (v := ?_) (a' := ?_) #[true,true,true,true,true,true,false,false,false,false,false,false,false,false,false,false,false,false,false,false,false,false,false] rfl rfl (by kernel_rfl) (fun _ _ _ h => h) (Or.inl ⟨by rfl, ?_⟩) ?_ ?_
 rotate_left
 · intro w'
   go_simp
   try with_reducible rfl
 rotate_left
 · simp only [Act.put, sA, sB, sC]
   rfl
 refine pure_ (i := 6) (N := some 74) (v := ?_) (a' := ?_) #[true,true,true,true,true,true,true,false,false,false,false,false,false,false,false,false,false,false,false,false,false,false,false] rfl rfl (by kernel_rfl) (fun _ _ _ h => h) (Or.inl ⟨by rfl, ?_⟩) ?_ ?_
 rotate_left
 · intro w'
   go_simp
   try with_reducible rfl
 rotate_left
 · simp only [Act.put, sA, sB, sC]
   rfl
 refine pure_ (i := 7) (N := some 75) (v := ?_) (a' := ?_) #[true,true,true,true,true,true,true,true,false,false,false,false,false,false,false,false,false,false,false,false,false,false,false] rfl rfl (by kernel_rfl) (fun _ _ _ h => h) (Or.inl ⟨by rfl, ?_⟩) ?_ ?_
 rotate_left
 · intro w'
   go_simp
   try with_reducible rfl
 rotate_left
 · simp only [Act.put, sA, sB, sC]
   rfl
 refine pure_ (i := 8) (N := some 76) (v := ?_) (a' := ?_) #[true,true,true,true,true,true,true,true,true,false,false,false,false,false,false,false,false,false,false,false,false,false,false] rfl rfl (by kernel_rfl) (fun _ _ _ h => h) (Or.inl ⟨by rfl, ?_⟩) ?_ ?_
 rotate_left
 · intro w'
   go_simp
   try with_reducible rfl
 rotate_left
 · simp only [Act.put, sA, sB, sC]
   rfl
 refine pure_ (i := 9) (N := some 77) (v := ?_) (a' := ?_) #[true,true,true,true,true,true,true,true,true,true,false,false,false,false,false,false,false,false,false,false,false,false,false] rfl rfl (by kernel_rfl) (fun _ _ _ h => h) (Or.inl ⟨by rfl, ?_⟩) ?_ ?_
 rotate_left
 · intro w'
   go_simp
   try with_reducible rfl
 rotate_left
 · simp only [Act.put, sA, sB, sC]
   rfl
 refine pure_ (i := 10) (N := some 78) (v := ?_) (a' := ?_) #[true,true,true,true,true,true,true,true,true,true,true,false,false,false,false,false,false,false,false,false,false,false,false] rfl rfl (by kernel_rfl) (fun _ _ _ h => h) (Or.inl ⟨by rfl, ?_⟩) ?_ ?_
 rotate_left
 · intro w'
   go_simp
   try with_reducible rfl
 rotate_left
 · simp only [Act.put, sA, sB, sC]
   rfl
 refine take_ (i := 11) (N := some 79) (v := ?_) (a' := ?_) #[true,true,true,true,true,true,true,true,true,true,true,true,false,false,false,false,false,false,false,false,false,false,false] rfl rfl (by kernel_rfl) (fun _ _ _ h => h) (Or.inl ⟨by rfl, ?_⟩) hHeld ?_ ?_
 rotate_left
 · rintro w' ⟨⟨hg0, hg1, hg2, hg3, hg4, hg5, hg6⟩, ⟨hp0, hp1, hp2, hp3, hp4, hp5, hp6, hp7, hp8, hp9⟩, ⟨hx0, hx1, hx2, hx3, hx4, hx5, hx6⟩, ⟨hy0, hy1, hy2, hy3, hy4, hy5, hy6⟩⟩
   go_simp
   try with_reducible rfl
 rotate_left
 · simp only [Act.put, sA, sB, sC]
   rfl
 refine take_ (i := 12) (N := some 80) (v := ?_) (a' := ?_) #[true,true,true,true,true,true,true,true,true,true,true,true,true,false,false,false,false,false,false,false,false,false,false] rfl rfl (by kernel_rfl) (fun _ _ _ h => h) (Or.inl ⟨by rfl, ?_⟩) hHeld ?_ ?_
 rotate_left
 · rintro w' ⟨⟨hg0, hg1, hg2, hg3, hg4, hg5, hg6⟩, ⟨hp0, hp1, hp2, hp3, hp4, hp5, hp6, hp7, hp8, hp9⟩, ⟨hx0, hx1, hx2, hx3, hx4, hx5, hx6⟩, ⟨hy0, hy1, hy2, hy3, hy4, hy5, hy6⟩⟩
   go_simp
   try with_reducible rfl
 rotate_left
 · simp only [Act.put, sA, sB, sC]
   rfl
 refine one_ (i := 13) (N := some 81) #[true,true,true,true,true,true,true,true,true,true,true,true,true,true,false,false,false,false,false,false,false,false,false] rfl rfl (by kernel_rfl) (by decide) (fun K hK => ?_)
 go_simp
 refine (rsame_c X X A3 c3 A4 c4 _ HR4.out HR5.out J11.out).mono ?_; rintro e w17 ⟨rfl, hw17⟩; replace HB := lbB HB hw17; replace HR1 := lbR HR1 hw17; replace HR2 := lbR HR2 hw17; replace HR3 := lbR HR3 hw17; replace HG := lbG HG hw17; replace HP := lbP HP hw17; replace HR4 := lbR HR4 hw17; replace HX := lbG HX hw17; replace HY := lbG HY hw17; replace HR5 := lbR HR5 hw17; clear hw17
 refine hK.out _ _ ?_ (fun hHeld => ?_)
 · exact ⟨HG.out.box, HP.out.box, HX.out.box, HY.out.box⟩
 clear hK K
 try simp only [Act.put, sA, sB, sC]
 refine pure_ (i := 14) (N := some 82) (v := ?_) (a' := ?_) #[true,true,true,true,true,true,true,true,true,true,true,true,true,true,true,false,false,false,false,false,false,false,false] rfl rfl (by kernel_rfl) (fun _ _ _ h => h) (Or.inl ⟨by rfl, ?_⟩) ?_ ?_
 rotate_left
 · intro w'
   go_simp
   try with_reducible rfl
 rotate_left
 · simp only [Act.put, sA, sB, sC]
   rfl
 refine pure_ (i := 15) (N := some 83) (v := ?_) (a' := ?_) #[true,true,true,true,true,true,true,true,true,true,true,true,true,true,true,true,false,false,false,false,false,false,false] rfl rfl (by kernel_rfl) (fun _ _ _ h => h) (Or.inl ⟨by rfl, ?_⟩) ?_ ?_
 rotate_left
 · intro w'
   go_simp
   try with_reducible rfl
 rotate_left
 · simp only [Act.put, sA, sB, sC]
   rfl
 refine take_ (i := 16) (N := some 84) (v := ?_) (a' := ?_) #[true,true,true,true,true,true,true,true,true,true,true,true,true,true,true,true,true,false,false,false,false,false,false] rfl rfl (by kernel_rfl) (fun _ _ _ h => h) (Or.inl ⟨by rfl, ?_⟩) hHeld ?_ ?_
 rotate_left
 · rintro w' ⟨⟨hg0, hg1, hg2, hg3, hg4, hg5, hg6⟩, ⟨hp0, hp1, hp2, hp3, hp4, hp5, hp6, hp7, hp8, hp9⟩, ⟨hx0, hx1, hx2, hx3, hx4, hx5, hx6⟩, ⟨hy0, hy1, hy2, hy3, hy4, hy5, hy6⟩⟩
   go_simp
   try with_reducible rfl
 rotate_left
 · simp only [Act.put, sA, sB, sC]
   rfl
 refine take_ (i := 18) (N := some 86) (v := ?_) (a' := ?_) #[true,true,true,true,true,true,true,true,true,true,true,true,true,true,true,true,true,false,true,false,false,false,false] rfl rfl (by kernel_rfl) (fun _ _ _ h => h) (Or.inl ⟨by rfl, ?_⟩) hHeld ?_ ?_
 rotate_left
 · rintro w' ⟨⟨hg0, hg1, hg2, hg3, hg4, hg5, hg6⟩, ⟨hp0, hp1, hp2, hp3, hp4, hp5, hp6, hp7, hp8, hp9⟩, ⟨hx0, hx1, hx2, hx3, hx4, hx5, hx6⟩, ⟨hy0, hy1, hy2, hy3, hy4, hy5, hy6⟩⟩
   go_simp
   try with_reducible rfl
 rotate_left
 · simp only [Act.put, sA, sB, sC]
   rfl
 refine one_ (i := 17) (N := some 85) #[true,true,true,true,true,true,true,true,true,true,true,true,true,true,true,true,true,true,true,false,false,false,false] rfl rfl (by kernel_rfl) (by decide) (fun K hK => ?_)
 go_simp
 refine (glast_calls g A c _ HR1.out J12.out).mono ?_; rintro e w18 ⟨rfl, hw18⟩; replace HB := lbB HB hw18; replace HR1 := lbR HR1 hw18; replace HR2 := lbR HR2 hw18; replace HR3 := lbR HR3 hw18; replace HG := lbG HG hw18; replace HP := lbP HP hw18; replace HR4 := lbR HR4 hw18; replace HX := lbG HX hw18; replace HY := lbG HY hw18; replace HR5 := lbR HR5 hw18; clear hw18
 refine hK.out _ _ ?_ (fun hHeld => ?_)
 · exact ⟨HG.out.box, HP.out.box, HX.out.box, HY.out.box⟩
 clear hK K
 try simp only [Act.put, sA, sB, sC]
 refine one_ (i := 19) (N := some 87) #[true,true,true,true,true,true,true,true,true,true,true,true,true,true,true,true,true,true,true,true,false,false,false] rfl rfl (by kernel_rfl) (by decide) (fun K hK => ?_)
 go_simp
 refine (rlast_c g A c _ HR1.out J12.out).mono ?_; rintro e w19 ⟨rfl, hw19⟩; replace HB := lbB HB hw19; replace HR1 := lbR HR1 hw19; replace HR2 := lbR HR2 hw19; replace HR3 := lbR HR3 hw19; replace HG := lbG HG hw19; replace HP := lbP HP hw19; replace HR4 := lbR HR4 hw19; replace HX := lbG HX hw19; replace HY := lbG HY hw19; replace HR5 := lbR HR5 hw19; clear hw19
 refine hK.out _ _ ?_ (fun hHeld => ?_)
 · exact ⟨HG.out.box, HP.out.box, HX.out.box, HY.out.box⟩
 clear hK K
 try simp only [Act.put, sA, sB, sC]
 refine pure_ (i := 20) (N := some 88) (v := ?_) (a' := ?_) #[true,true,true,true,true,true,true,true,true,true,true,true,true,true,true,true,true,true,true,true,true,false,false] rfl rfl (by kernel_rfl) (fun _ _ _ h => h) (Or.inl ⟨by rfl, ?_⟩) ?_ ?_
 rotate_left
 · intro w'
   go_simp
   try with_reducible rfl
 rotate_left
 · simp only [Act.put, sA, sB, sC]
   rfl
 refine pure_ (i := 21) (N := some 89) (v := ?_) (a' := ?_) #[true,true,true,true,true,true,true,true,true,true,true,true,true,true,true,true,true,true,true,true,true,true,false] rfl rfl (by kernel_rfl) (fun _ _ _ h => h) (Or.inl ⟨by rfl, ?_⟩) ?_ ?_
 rotate_left
 · intro w'
   go_simp
   try with_reducible rfl
 rotate_left
 · simp only [Act.put, sA, sB, sC]
   rfl
 refine pure_ (i := 22) (N := some 6) (v := ?_) (a' := ?_) #[true,true,true,true,true,true,true,true,true,true,true,true,true,true,true,true,true,true,true,true,true,true,true] rfl rfl (by kernel_rfl) (fun _ _ _ h => h) (Or.inl ⟨by rfl, ?_⟩) ?_ ?_
 rotate_left
 · intro w'
   go_simp
   try with_reducible rfl
 rotate_left
 · simp only [Act.put, sA, sB, sC]
   rfl
 refine done_ (by kernel_rfl) ?_
 clear hHeld
 obtain ⟨hg0, hg1, hg2, hg3, hg4, hg5, hg6⟩ := HG.out.box
 obtain ⟨hp0, hp1, hp2, hp3, hp4, hp5, hp6, hp7, hp8, hp9⟩ := HP.out.box
 obtain ⟨hx0, hx1, hx2, hx3, hx4, hx5, hx6⟩ := HX.out.box
 obtain ⟨hy0, hy1, hy2, hy3, hy4, hy5, hy6⟩ := HY.out.box
 go_wp2
 go_ret
 exact ⟨rfl, HB.out.b⟩
theorem tells6_walk (g : Grp) (A : Option Addr) (c : Nat) (h : Grp) (B : Option Addr) (d : Nat) (p : Prt) (Ap : Option Addr) (cp : Nat) (w : World) (hg : Rd w A c g.l) (hh : Rd w B d h.l) (hp : Rd w Ap cp p.l) :
    Calls Try.prog 3 #[vG g A c, vG h B d, vP p Ap cp] w fun e w' => e = .returned (.bool true) ∧ Below w.heap.size w w' := by
  obtain ⟨r1, hq1, hf1⟩ := few_group g hg.bd
  obtain ⟨r2, hq2, hf2⟩ := few_group h hh.bd
  obtain ⟨r3, hq3, hf3⟩ := few_part p hp.bd
  cases x1 : r1 with
  | false => exact tells6_n1 g A c h B d p Ap cp w hg hh hp hf1 hf2 hf3 x1
  | true =>
    cases x2 : r2 with
    | false => exact tells6_n2 g A c h B d p Ap cp w hg hh hp hf1 hf2 hf3 x1 x2
    | true =>
      cases x3 : r3 with
      | false => exact tells6_n3 g A c h B d p Ap cp w hg hh hp hf1 hf2 hf3 x1 x2 x3
      | true =>
        cases x4 : isG true g with
        | false => exact tells6_n4 g A c h B d p Ap cp w hg hh hp hf1 hf2 hf3 x1 x2 x3 x4
        | true =>
          have hl : g.l.length + p.l.length ≤ 4398046511104 := by have := hq1 x1; have := hq3 x3; omega
          by_cases hv : chkG g p = 0
          · exact tells6_z g A c h B d p Ap cp w hg hh hp hf1 hf2 hf3 x1 x2 x3 x4 _ rfl hl hv
          · exact tells6_v g A c h B d p Ap cp w hg hh hp hf1 hf2 hf3 x1 x2 x3 x4 _ rfl hl hv
end Go.Proofs.Ytlfdmlacadoolaa.PartW
namespace Go.Proofs.Ytlfdmlacadoolaa.Pure
open Go Go.RowKit Go.Proofs.Ytlfdmlacadoolaa.Sp Go.Proofs.Ytlfdmlacadoolaa.PartW
theorem GroupTells.walk (g : Grp) (A : Option Addr) (c : Nat) (h : Grp) (B : Option Addr) (d : Nat) (p : Prt) (Ap : Option Addr) (cp : Nat) (w : World) (hg : Rd w A c g.l) (hh : Rd w B d h.l) (hp : Rd w Ap cp p.l) :
    Calls Try.prog 3 #[vG g A c, vG h B d, vP p Ap cp] w fun e w' => e = .returned (.bool true) ∧ Below w.heap.size w w' := tells6_walk g A c h B d p Ap cp w hg hh hp
end Go.Proofs.Ytlfdmlacadoolaa.Pure
