/- The statement PartTells: the walk; no condition beyond the row's. -/
import Derived.Test.YtokjhocjemjfiaaLwB
set_option linter.unusedVariables false
set_option linter.unusedSimpArgs false
namespace Go.Proofs.Ytokjhocjemjfiaa.PartW
open Go Go.RowKit Go.Shelf Go.Proofs.Ytokjhocjemjfiaa.A Go.Proofs.Ytokjhocjemjfiaa.Sp Go.Proofs.Ytokjhocjemjfiaa.Reg Go.Proofs.Ytokjhocjemjfiaa.Seq Go.Proofs.Ytokjhocjemjfiaa.CodeW Go.Proofs.Ytokjhocjemjfiaa.CodeQ Go.Proofs.Ytokjhocjemjfiaa.Given Go.Proofs.YtokjhocjemjfiaaW.PrintWords Go.Proofs.YtokjhocjemjfiaaW.PrintLast Go.Proofs.YtokjhocjemjfiaaW.PrintMore
set_option maxHeartbeats 8000000 in
set_option maxRecDepth 100000 in
theorem tells4_few1 (p : Prt) (A : Option Addr) (c : Nat) (q : Prt) (A2 : Option Addr) (c2 : Nat) (x : Ent) (w : World) (hp : Rd w A c p.l) (hq : Rd w A2 c2 q.l) (hf1 : (∀ (A : Option Addr) (c : Nat) (w : World), Rd w A c p.l → Calls Try.prog 11 #[vP p A c] w fun e w' => e = .returned (.bool false) ∧ Below w.heap.size w w')) :
  Calls Try.prog 3 #[vP p A c, vP q A2 c2, .agg #[.int .i64 x.f0, .int .i64 x.f1, .string x.f2]] w fun e w' => e = .returned (.bool true) ∧ Below w.heap.size w w' := by
 have HF1 := Aside0.mk hf1
 have HB := Aside0.mk (Bel.refl w)
 have HR1 := Aside0.mk (hp)
 have HR2 := Aside0.mk (hq)
 clear hp hq hf1 
 unfold vP
 go_enter Try.func3, Try.ntmps3
 obtain ⟨C1, hC1⟩ : ∃ C, (match Try.f3.body with | some (.seq _ c) => c | _ => .skip) = C := ⟨_, rfl⟩
 have HC1 := Aside0.mk hC1
 simp only [Try.f3] at hC1
 rw [hC1]
 clear hC1
 go_wp2_with fail
 obtain ⟨s0, hs0⟩ : ∃ n, w.heap.size = n := ⟨_, rfl⟩
 replace HB := laB HB (.cells #[.int .i64 p.g, .int .i64 p.k, .slice A p.l.length c, .int .i64 p.ht, .int .i64 p.hv, .int .i64 p.hc, .int .i64 p.ix, .int .i64 p.tm, .bool p.mrk, .bool p.hed] 26)
 replace HR1 := laR HR1 (.cells #[.int .i64 p.g, .int .i64 p.k, .slice A p.l.length c, .int .i64 p.ht, .int .i64 p.hv, .int .i64 p.hc, .int .i64 p.ix, .int .i64 p.tm, .bool p.mrk, .bool p.hed] 26)
 replace HR2 := laR HR2 (.cells #[.int .i64 p.g, .int .i64 p.k, .slice A p.l.length c, .int .i64 p.ht, .int .i64 p.hv, .int .i64 p.hc, .int .i64 p.ix, .int .i64 p.tm, .bool p.mrk, .bool p.hed] 26)
 have HP : Aside0 (BlkP p A c s0 (w.alloc (.cells #[.int .i64 p.g, .int .i64 p.k, .slice A p.l.length c, .int .i64 p.ht, .int .i64 p.hv, .int .i64 p.hc, .int .i64 p.ix, .int .i64 p.tm, .bool p.mrk, .bool p.hed] 26))) := ⟨(by have hq := BlkP.new p A c w; simp only [World.size_alloc, hs0] at hq; exact hq)⟩
 replace HB := laB HB (.cells #[.int .i64 q.g, .int .i64 q.k, .slice A2 q.l.length c2, .int .i64 q.ht, .int .i64 q.hv, .int .i64 q.hc, .int .i64 q.ix, .int .i64 q.tm, .bool q.mrk, .bool q.hed] 26)
 replace HR1 := laR HR1 (.cells #[.int .i64 q.g, .int .i64 q.k, .slice A2 q.l.length c2, .int .i64 q.ht, .int .i64 q.hv, .int .i64 q.hc, .int .i64 q.ix, .int .i64 q.tm, .bool q.mrk, .bool q.hed] 26)
 replace HR2 := laR HR2 (.cells #[.int .i64 q.g, .int .i64 q.k, .slice A2 q.l.length c2, .int .i64 q.ht, .int .i64 q.hv, .int .i64 q.hc, .int .i64 q.ix, .int .i64 q.tm, .bool q.mrk, .bool q.hed] 26)
 replace HP := laP HP (.cells #[.int .i64 q.g, .int .i64 q.k, .slice A2 q.l.length c2, .int .i64 q.ht, .int .i64 q.hv, .int .i64 q.hc, .int .i64 q.ix, .int .i64 q.tm, .bool q.mrk, .bool q.hed] 26)
 have HQ : Aside0 (BlkP q A2 c2 (s0 + 1) ((w.alloc (.cells #[.int .i64 p.g, .int .i64 p.k, .slice A p.l.length c, .int .i64 p.ht, .int .i64 p.hv, .int .i64 p.hc, .int .i64 p.ix, .int .i64 p.tm, .bool p.mrk, .bool p.hed] 26)).alloc (.cells #[.int .i64 q.g, .int .i64 q.k, .slice A2 q.l.length c2, .int .i64 q.ht, .int .i64 q.hv, .int .i64 q.hc, .int .i64 q.ix, .int .i64 q.tm, .bool q.mrk, .bool q.hed] 26))) := ⟨(by have hq := BlkP.new q A2 c2 (w.alloc (.cells #[.int .i64 p.g, .int .i64 p.k, .slice A p.l.length c, .int .i64 p.ht, .int .i64 p.hv, .int .i64 p.hc, .int .i64 p.ix, .int .i64 p.tm, .bool p.mrk, .bool p.hed] 26)); simp only [World.size_alloc, hs0] at hq; exact hq)⟩
 replace HB := laB HB (.cells #[.int .i64 x.f0, .int .i64 x.f1, .string x.f2] 28)
 replace HR1 := laR HR1 (.cells #[.int .i64 x.f0, .int .i64 x.f1, .string x.f2] 28)
 replace HR2 := laR HR2 (.cells #[.int .i64 x.f0, .int .i64 x.f1, .string x.f2] 28)
 replace HP := laP HP (.cells #[.int .i64 x.f0, .int .i64 x.f1, .string x.f2] 28)
 replace HQ := laP HQ (.cells #[.int .i64 x.f0, .int .i64 x.f1, .string x.f2] 28)
 have HE : Aside0 (BlkE x (s0 + 1 + 1) (((w.alloc (.cells #[.int .i64 p.g, .int .i64 p.k, .slice A p.l.length c, .int .i64 p.ht, .int .i64 p.hv, .int .i64 p.hc, .int .i64 p.ix, .int .i64 p.tm, .bool p.mrk, .bool p.hed] 26)).alloc (.cells #[.int .i64 q.g, .int .i64 q.k, .slice A2 q.l.length c2, .int .i64 q.ht, .int .i64 q.hv, .int .i64 q.hc, .int .i64 q.ix, .int .i64 q.tm, .bool q.mrk, .bool q.hed] 26)).alloc (.cells #[.int .i64 x.f0, .int .i64 x.f1, .string x.f2] 28))) := ⟨(by have hq := BlkE.new x ((w.alloc (.cells #[.int .i64 p.g, .int .i64 p.k, .slice A p.l.length c, .int .i64 p.ht, .int .i64 p.hv, .int .i64 p.hc, .int .i64 p.ix, .int .i64 p.tm, .bool p.mrk, .bool p.hed] 26)).alloc (.cells #[.int .i64 q.g, .int .i64 q.k, .slice A2 q.l.length c2, .int .i64 q.ht, .int .i64 q.hv, .int .i64 q.hc, .int .i64 q.ix, .int .i64 q.tm, .bool q.mrk, .bool q.hed] 26)); simp only [World.size_alloc, hs0] at hq; exact hq)⟩
 try simp only [World.size_alloc, hs0]
 obtain ⟨W0, hW⟩ : ∃ X, (((w.alloc (.cells #[.int .i64 p.g, .int .i64 p.k, .slice A p.l.length c, .int .i64 p.ht, .int .i64 p.hv, .int .i64 p.hc, .int .i64 p.ix, .int .i64 p.tm, .bool p.mrk, .bool p.hed] 26)).alloc (.cells #[.int .i64 q.g, .int .i64 q.k, .slice A2 q.l.length c2, .int .i64 q.ht, .int .i64 q.hv, .int .i64 q.hc, .int .i64 q.ix, .int .i64 q.tm, .bool q.mrk, .bool q.hed] 26)).alloc (.cells #[.int .i64 x.f0, .int .i64 x.f1, .string x.f2] 28)) = X := ⟨_, rfl⟩
 rw [hW] at HB HR1 HR2 HP HQ HE ⊢
 clear hW hs0
 obtain ⟨hp0, hp1, hp2, hp3, hp4, hp5, hp6, hp7, hp8, hp9⟩ := HP.out.box
 obtain ⟨hq0, hq1, hq2, hq3, hq4, hq5, hq6, hq7, hq8, hq9⟩ := HQ.out.box
 obtain ⟨he0, he1, he2⟩ := HE.out.box
 have hC1 := HC1.out
 simp only [Try.f3] at hC1
 subst hC1
 clear HC1
 go_wp2_with fail
 go_at_call 10
 refine (known4 _).mono ?_
 rintro e w1 ⟨rfl, hw1⟩
 replace HB := lbB HB hw1
 replace HR1 := lbR HR1 hw1
 replace HR2 := lbR HR2 hw1
 replace HP := lbP HP hw1
 replace HQ := lbP HQ hw1
 replace HE := lbE HE hw1
 clear hw1
 clear hp0 hp1 hp2 hp3 hp4 hp5 hp6 hp7 hp8 hp9 hq0 hq1 hq2 hq3 hq4 hq5 hq6 hq7 hq8 hq9 he0 he1 he2
 obtain ⟨hp0, hp1, hp2, hp3, hp4, hp5, hp6, hp7, hp8, hp9⟩ := HP.out.box
 obtain ⟨hq0, hq1, hq2, hq3, hq4, hq5, hq6, hq7, hq8, hq9⟩ := HQ.out.box
 obtain ⟨he0, he1, he2⟩ := HE.out.box
 go_wp2_with fail
 go_at_call 11
 refine (HF1.out A c _ HR1.out).mono ?_
 rintro e w2 ⟨rfl, hw2⟩
 replace HB := lbB HB hw2
 replace HR1 := lbR HR1 hw2
 replace HR2 := lbR HR2 hw2
 replace HP := lbP HP hw2
 replace HQ := lbP HQ hw2
 replace HE := lbE HE hw2
 clear hw2
 clear hp0 hp1 hp2 hp3 hp4 hp5 hp6 hp7 hp8 hp9 hq0 hq1 hq2 hq3 hq4 hq5 hq6 hq7 hq8 hq9 he0 he1 he2
 obtain ⟨hp0, hp1, hp2, hp3, hp4, hp5, hp6, hp7, hp8, hp9⟩ := HP.out.box
 obtain ⟨hq0, hq1, hq2, hq3, hq4, hq5, hq6, hq7, hq8, hq9⟩ := HQ.out.box
 obtain ⟨he0, he1, he2⟩ := HE.out.box
 go_wp2_with fail
 go_ret
 exact ⟨rfl, HB.out.b⟩
set_option maxHeartbeats 8000000 in
set_option maxRecDepth 100000 in
theorem tells4_few2 (p : Prt) (A : Option Addr) (c : Nat) (q : Prt) (A2 : Option Addr) (c2 : Nat) (x : Ent) (w : World) (hp : Rd w A c p.l) (hq : Rd w A2 c2 q.l) (hf1 : (∀ (A : Option Addr) (c : Nat) (w : World), Rd w A c p.l → Calls Try.prog 11 #[vP p A c] w fun e w' => e = .returned (.bool true) ∧ Below w.heap.size w w')) (hf2 : (∀ (A : Option Addr) (c : Nat) (w : World), Rd w A c q.l → Calls Try.prog 11 #[vP q A c] w fun e w' => e = .returned (.bool false) ∧ Below w.heap.size w w')) :
  Calls Try.prog 3 #[vP p A c, vP q A2 c2, .agg #[.int .i64 x.f0, .int .i64 x.f1, .string x.f2]] w fun e w' => e = .returned (.bool true) ∧ Below w.heap.size w w' := by
 have HF1 := Aside0.mk hf1
 have HF2 := Aside0.mk hf2
 have HB := Aside0.mk (Bel.refl w)
 have HR1 := Aside0.mk (hp)
 have HR2 := Aside0.mk (hq)
 clear hp hq hf1 hf2
 unfold vP
 go_enter Try.func3, Try.ntmps3
 obtain ⟨C1, hC1⟩ : ∃ C, (match Try.f3.body with | some (.seq _ c) => c | _ => .skip) = C := ⟨_, rfl⟩
 have HC1 := Aside0.mk hC1
 simp only [Try.f3] at hC1
 rw [hC1]
 clear hC1
 go_wp2_with fail
 obtain ⟨s0, hs0⟩ : ∃ n, w.heap.size = n := ⟨_, rfl⟩
 replace HB := laB HB (.cells #[.int .i64 p.g, .int .i64 p.k, .slice A p.l.length c, .int .i64 p.ht, .int .i64 p.hv, .int .i64 p.hc, .int .i64 p.ix, .int .i64 p.tm, .bool p.mrk, .bool p.hed] 26)
 replace HR1 := laR HR1 (.cells #[.int .i64 p.g, .int .i64 p.k, .slice A p.l.length c, .int .i64 p.ht, .int .i64 p.hv, .int .i64 p.hc, .int .i64 p.ix, .int .i64 p.tm, .bool p.mrk, .bool p.hed] 26)
 replace HR2 := laR HR2 (.cells #[.int .i64 p.g, .int .i64 p.k, .slice A p.l.length c, .int .i64 p.ht, .int .i64 p.hv, .int .i64 p.hc, .int .i64 p.ix, .int .i64 p.tm, .bool p.mrk, .bool p.hed] 26)
 have HP : Aside0 (BlkP p A c s0 (w.alloc (.cells #[.int .i64 p.g, .int .i64 p.k, .slice A p.l.length c, .int .i64 p.ht, .int .i64 p.hv, .int .i64 p.hc, .int .i64 p.ix, .int .i64 p.tm, .bool p.mrk, .bool p.hed] 26))) := ⟨(by have hq := BlkP.new p A c w; simp only [World.size_alloc, hs0] at hq; exact hq)⟩
 replace HB := laB HB (.cells #[.int .i64 q.g, .int .i64 q.k, .slice A2 q.l.length c2, .int .i64 q.ht, .int .i64 q.hv, .int .i64 q.hc, .int .i64 q.ix, .int .i64 q.tm, .bool q.mrk, .bool q.hed] 26)
 replace HR1 := laR HR1 (.cells #[.int .i64 q.g, .int .i64 q.k, .slice A2 q.l.length c2, .int .i64 q.ht, .int .i64 q.hv, .int .i64 q.hc, .int .i64 q.ix, .int .i64 q.tm, .bool q.mrk, .bool q.hed] 26)
 replace HR2 := laR HR2 (.cells #[.int .i64 q.g, .int .i64 q.k, .slice A2 q.l.length c2, .int .i64 q.ht, .int .i64 q.hv, .int .i64 q.hc, .int .i64 q.ix, .int .i64 q.tm, .bool q.mrk, .bool q.hed] 26)
 replace HP := laP HP (.cells #[.int .i64 q.g, .int .i64 q.k, .slice A2 q.l.length c2, .int .i64 q.ht, .int .i64 q.hv, .int .i64 q.hc, .int .i64 q.ix, .int .i64 q.tm, .bool q.mrk, .bool q.hed] 26)
 have HQ : Aside0 (BlkP q A2 c2 (s0 + 1) ((w.alloc (.cells #[.int .i64 p.g, .int .i64 p.k, .slice A p.l.length c, .int .i64 p.ht, .int .i64 p.hv, .int .i64 p.hc, .int .i64 p.ix, .int .i64 p.tm, .bool p.mrk, .bool p.hed] 26)).alloc (.cells #[.int .i64 q.g, .int .i64 q.k, .slice A2 q.l.length c2, .int .i64 q.ht, .int .i64 q.hv, .int .i64 q.hc, .int .i64 q.ix, .int .i64 q.tm, .bool q.mrk, .bool q.hed] 26))) := ⟨(by have hq := BlkP.new q A2 c2 (w.alloc (.cells #[.int .i64 p.g, .int .i64 p.k, .slice A p.l.length c, .int .i64 p.ht, .int .i64 p.hv, .int .i64 p.hc, .int .i64 p.ix, .int .i64 p.tm, .bool p.mrk, .bool p.hed] 26)); simp only [World.size_alloc, hs0] at hq; exact hq)⟩
 replace HB := laB HB (.cells #[.int .i64 x.f0, .int .i64 x.f1, .string x.f2] 28)
 replace HR1 := laR HR1 (.cells #[.int .i64 x.f0, .int .i64 x.f1, .string x.f2] 28)
 replace HR2 := laR HR2 (.cells #[.int .i64 x.f0, .int .i64 x.f1, .string x.f2] 28)
 replace HP := laP HP (.cells #[.int .i64 x.f0, .int .i64 x.f1, .string x.f2] 28)
 replace HQ := laP HQ (.cells #[.int .i64 x.f0, .int .i64 x.f1, .string x.f2] 28)
 have HE : Aside0 (BlkE x (s0 + 1 + 1) (((w.alloc (.cells #[.int .i64 p.g, .int .i64 p.k, .slice A p.l.length c, .int .i64 p.ht, .int .i64 p.hv, .int .i64 p.hc, .int .i64 p.ix, .int .i64 p.tm, .bool p.mrk, .bool p.hed] 26)).alloc (.cells #[.int .i64 q.g, .int .i64 q.k, .slice A2 q.l.length c2, .int .i64 q.ht, .int .i64 q.hv, .int .i64 q.hc, .int .i64 q.ix, .int .i64 q.tm, .bool q.mrk, .bool q.hed] 26)).alloc (.cells #[.int .i64 x.f0, .int .i64 x.f1, .string x.f2] 28))) := ⟨(by have hq := BlkE.new x ((w.alloc (.cells #[.int .i64 p.g, .int .i64 p.k, .slice A p.l.length c, .int .i64 p.ht, .int .i64 p.hv, .int .i64 p.hc, .int .i64 p.ix, .int .i64 p.tm, .bool p.mrk, .bool p.hed] 26)).alloc (.cells #[.int .i64 q.g, .int .i64 q.k, .slice A2 q.l.length c2, .int .i64 q.ht, .int .i64 q.hv, .int .i64 q.hc, .int .i64 q.ix, .int .i64 q.tm, .bool q.mrk, .bool q.hed] 26)); simp only [World.size_alloc, hs0] at hq; exact hq)⟩
 try simp only [World.size_alloc, hs0]
 obtain ⟨W0, hW⟩ : ∃ X, (((w.alloc (.cells #[.int .i64 p.g, .int .i64 p.k, .slice A p.l.length c, .int .i64 p.ht, .int .i64 p.hv, .int .i64 p.hc, .int .i64 p.ix, .int .i64 p.tm, .bool p.mrk, .bool p.hed] 26)).alloc (.cells #[.int .i64 q.g, .int .i64 q.k, .slice A2 q.l.length c2, .int .i64 q.ht, .int .i64 q.hv, .int .i64 q.hc, .int .i64 q.ix, .int .i64 q.tm, .bool q.mrk, .bool q.hed] 26)).alloc (.cells #[.int .i64 x.f0, .int .i64 x.f1, .string x.f2] 28)) = X := ⟨_, rfl⟩
 rw [hW] at HB HR1 HR2 HP HQ HE ⊢
 clear hW hs0
 obtain ⟨hp0, hp1, hp2, hp3, hp4, hp5, hp6, hp7, hp8, hp9⟩ := HP.out.box
 obtain ⟨hq0, hq1, hq2, hq3, hq4, hq5, hq6, hq7, hq8, hq9⟩ := HQ.out.box
 obtain ⟨he0, he1, he2⟩ := HE.out.box
 have hC1 := HC1.out
 simp only [Try.f3] at hC1
 subst hC1
 clear HC1
 go_wp2_with fail
 go_at_call 10
 refine (known4 _).mono ?_
 rintro e w1 ⟨rfl, hw1⟩
 replace HB := lbB HB hw1
 replace HR1 := lbR HR1 hw1
 replace HR2 := lbR HR2 hw1
 replace HP := lbP HP hw1
 replace HQ := lbP HQ hw1
 replace HE := lbE HE hw1
 clear hw1
 clear hp0 hp1 hp2 hp3 hp4 hp5 hp6 hp7 hp8 hp9 hq0 hq1 hq2 hq3 hq4 hq5 hq6 hq7 hq8 hq9 he0 he1 he2
 obtain ⟨hp0, hp1, hp2, hp3, hp4, hp5, hp6, hp7, hp8, hp9⟩ := HP.out.box
 obtain ⟨hq0, hq1, hq2, hq3, hq4, hq5, hq6, hq7, hq8, hq9⟩ := HQ.out.box
 obtain ⟨he0, he1, he2⟩ := HE.out.box
 go_wp2_with fail
 go_at_call 11
 refine (HF1.out A c _ HR1.out).mono ?_
 rintro e w2 ⟨rfl, hw2⟩
 replace HB := lbB HB hw2
 replace HR1 := lbR HR1 hw2
 replace HR2 := lbR HR2 hw2
 replace HP := lbP HP hw2
 replace HQ := lbP HQ hw2
 replace HE := lbE HE hw2
 clear hw2
 clear hp0 hp1 hp2 hp3 hp4 hp5 hp6 hp7 hp8 hp9 hq0 hq1 hq2 hq3 hq4 hq5 hq6 hq7 hq8 hq9 he0 he1 he2
 obtain ⟨hp0, hp1, hp2, hp3, hp4, hp5, hp6, hp7, hp8, hp9⟩ := HP.out.box
 obtain ⟨hq0, hq1, hq2, hq3, hq4, hq5, hq6, hq7, hq8, hq9⟩ := HQ.out.box
 obtain ⟨he0, he1, he2⟩ := HE.out.box
 go_wp2_with fail
 go_at_call 11
 refine (HF2.out A2 c2 _ HR2.out).mono ?_
 rintro e w3 ⟨rfl, hw3⟩
 replace HB := lbB HB hw3
 replace HR1 := lbR HR1 hw3
 replace HR2 := lbR HR2 hw3
 replace HP := lbP HP hw3
 replace HQ := lbP HQ hw3
 replace HE := lbE HE hw3
 clear hw3
 clear hp0 hp1 hp2 hp3 hp4 hp5 hp6 hp7 hp8 hp9 hq0 hq1 hq2 hq3 hq4 hq5 hq6 hq7 hq8 hq9 he0 he1 he2
 obtain ⟨hp0, hp1, hp2, hp3, hp4, hp5, hp6, hp7, hp8, hp9⟩ := HP.out.box
 obtain ⟨hq0, hq1, hq2, hq3, hq4, hq5, hq6, hq7, hq8, hq9⟩ := HQ.out.box
 obtain ⟨he0, he1, he2⟩ := HE.out.box
 go_wp2_with fail
 go_ret
 exact ⟨rfl, HB.out.b⟩
set_option maxHeartbeats 8000000 in
set_option maxRecDepth 100000 in
theorem tells4_far (p : Prt) (A : Option Addr) (c : Nat) (q : Prt) (A2 : Option Addr) (c2 : Nat) (x : Ent) (w : World) (hp : Rd w A c p.l) (hq : Rd w A2 c2 q.l) (hf1 : (∀ (A : Option Addr) (c : Nat) (w : World), Rd w A c p.l → Calls Try.prog 11 #[vP p A c] w fun e w' => e = .returned (.bool true) ∧ Below w.heap.size w w')) (hf2 : (∀ (A : Option Addr) (c : Nat) (w : World), Rd w A c q.l → Calls Try.prog 11 #[vP q A c] w fun e w' => e = .returned (.bool true) ∧ Below w.heap.size w w')) (hz : 60 < x.f2.size) :
  Calls Try.prog 3 #[vP p A c, vP q A2 c2, .agg #[.int .i64 x.f0, .int .i64 x.f1, .string x.f2]] w fun e w' => e = .returned (.bool true) ∧ Below w.heap.size w w' := by
 have HF1 := Aside0.mk hf1
 have HF2 := Aside0.mk hf2
 have dz1 : decide ((x.f2.size : Int) > 60) = true := decide_eq_true (by omega)
 have dz2 : decide (60 < (x.f2.size : Int)) = true := dz1
 have dz3 : decide (60 < x.f2.size) = true := decide_eq_true (by omega)
 have HB := Aside0.mk (Bel.refl w)
 have HR1 := Aside0.mk (hp)
 have HR2 := Aside0.mk (hq)
 clear hp hq hf1 hf2 hz
 unfold vP
 go_enter Try.func3, Try.ntmps3
 obtain ⟨C1, hC1⟩ : ∃ C, (match Try.f3.body with | some (.seq _ c) => c | _ => .skip) = C := ⟨_, rfl⟩
 have HC1 := Aside0.mk hC1
 simp only [Try.f3] at hC1
 rw [hC1]
 clear hC1
 go_wp2_with fail
 obtain ⟨s0, hs0⟩ : ∃ n, w.heap.size = n := ⟨_, rfl⟩
 replace HB := laB HB (.cells #[.int .i64 p.g, .int .i64 p.k, .slice A p.l.length c, .int .i64 p.ht, .int .i64 p.hv, .int .i64 p.hc, .int .i64 p.ix, .int .i64 p.tm, .bool p.mrk, .bool p.hed] 26)
 replace HR1 := laR HR1 (.cells #[.int .i64 p.g, .int .i64 p.k, .slice A p.l.length c, .int .i64 p.ht, .int .i64 p.hv, .int .i64 p.hc, .int .i64 p.ix, .int .i64 p.tm, .bool p.mrk, .bool p.hed] 26)
 replace HR2 := laR HR2 (.cells #[.int .i64 p.g, .int .i64 p.k, .slice A p.l.length c, .int .i64 p.ht, .int .i64 p.hv, .int .i64 p.hc, .int .i64 p.ix, .int .i64 p.tm, .bool p.mrk, .bool p.hed] 26)
 have HP : Aside0 (BlkP p A c s0 (w.alloc (.cells #[.int .i64 p.g, .int .i64 p.k, .slice A p.l.length c, .int .i64 p.ht, .int .i64 p.hv, .int .i64 p.hc, .int .i64 p.ix, .int .i64 p.tm, .bool p.mrk, .bool p.hed] 26))) := ⟨(by have hq := BlkP.new p A c w; simp only [World.size_alloc, hs0] at hq; exact hq)⟩
 replace HB := laB HB (.cells #[.int .i64 q.g, .int .i64 q.k, .slice A2 q.l.length c2, .int .i64 q.ht, .int .i64 q.hv, .int .i64 q.hc, .int .i64 q.ix, .int .i64 q.tm, .bool q.mrk, .bool q.hed] 26)
 replace HR1 := laR HR1 (.cells #[.int .i64 q.g, .int .i64 q.k, .slice A2 q.l.length c2, .int .i64 q.ht, .int .i64 q.hv, .int .i64 q.hc, .int .i64 q.ix, .int .i64 q.tm, .bool q.mrk, .bool q.hed] 26)
 replace HR2 := laR HR2 (.cells #[.int .i64 q.g, .int .i64 q.k, .slice A2 q.l.length c2, .int .i64 q.ht, .int .i64 q.hv, .int .i64 q.hc, .int .i64 q.ix, .int .i64 q.tm, .bool q.mrk, .bool q.hed] 26)
 replace HP := laP HP (.cells #[.int .i64 q.g, .int .i64 q.k, .slice A2 q.l.length c2, .int .i64 q.ht, .int .i64 q.hv, .int .i64 q.hc, .int .i64 q.ix, .int .i64 q.tm, .bool q.mrk, .bool q.hed] 26)
 have HQ : Aside0 (BlkP q A2 c2 (s0 + 1) ((w.alloc (.cells #[.int .i64 p.g, .int .i64 p.k, .slice A p.l.length c, .int .i64 p.ht, .int .i64 p.hv, .int .i64 p.hc, .int .i64 p.ix, .int .i64 p.tm, .bool p.mrk, .bool p.hed] 26)).alloc (.cells #[.int .i64 q.g, .int .i64 q.k, .slice A2 q.l.length c2, .int .i64 q.ht, .int .i64 q.hv, .int .i64 q.hc, .int .i64 q.ix, .int .i64 q.tm, .bool q.mrk, .bool q.hed] 26))) := ⟨(by have hq := BlkP.new q A2 c2 (w.alloc (.cells #[.int .i64 p.g, .int .i64 p.k, .slice A p.l.length c, .int .i64 p.ht, .int .i64 p.hv, .int .i64 p.hc, .int .i64 p.ix, .int .i64 p.tm, .bool p.mrk, .bool p.hed] 26)); simp only [World.size_alloc, hs0] at hq; exact hq)⟩
 replace HB := laB HB (.cells #[.int .i64 x.f0, .int .i64 x.f1, .string x.f2] 28)
 replace HR1 := laR HR1 (.cells #[.int .i64 x.f0, .int .i64 x.f1, .string x.f2] 28)
 replace HR2 := laR HR2 (.cells #[.int .i64 x.f0, .int .i64 x.f1, .string x.f2] 28)
 replace HP := laP HP (.cells #[.int .i64 x.f0, .int .i64 x.f1, .string x.f2] 28)
 replace HQ := laP HQ (.cells #[.int .i64 x.f0, .int .i64 x.f1, .string x.f2] 28)
 have HE : Aside0 (BlkE x (s0 + 1 + 1) (((w.alloc (.cells #[.int .i64 p.g, .int .i64 p.k, .slice A p.l.length c, .int .i64 p.ht, .int .i64 p.hv, .int .i64 p.hc, .int .i64 p.ix, .int .i64 p.tm, .bool p.mrk, .bool p.hed] 26)).alloc (.cells #[.int .i64 q.g, .int .i64 q.k, .slice A2 q.l.length c2, .int .i64 q.ht, .int .i64 q.hv, .int .i64 q.hc, .int .i64 q.ix, .int .i64 q.tm, .bool q.mrk, .bool q.hed] 26)).alloc (.cells #[.int .i64 x.f0, .int .i64 x.f1, .string x.f2] 28))) := ⟨(by have hq := BlkE.new x ((w.alloc (.cells #[.int .i64 p.g, .int .i64 p.k, .slice A p.l.length c, .int .i64 p.ht, .int .i64 p.hv, .int .i64 p.hc, .int .i64 p.ix, .int .i64 p.tm, .bool p.mrk, .bool p.hed] 26)).alloc (.cells #[.int .i64 q.g, .int .i64 q.k, .slice A2 q.l.length c2, .int .i64 q.ht, .int .i64 q.hv, .int .i64 q.hc, .int .i64 q.ix, .int .i64 q.tm, .bool q.mrk, .bool q.hed] 26)); simp only [World.size_alloc, hs0] at hq; exact hq)⟩
 try simp only [World.size_alloc, hs0]
 obtain ⟨W0, hW⟩ : ∃ X, (((w.alloc (.cells #[.int .i64 p.g, .int .i64 p.k, .slice A p.l.length c, .int .i64 p.ht, .int .i64 p.hv, .int .i64 p.hc, .int .i64 p.ix, .int .i64 p.tm, .bool p.mrk, .bool p.hed] 26)).alloc (.cells #[.int .i64 q.g, .int .i64 q.k, .slice A2 q.l.length c2, .int .i64 q.ht, .int .i64 q.hv, .int .i64 q.hc, .int .i64 q.ix, .int .i64 q.tm, .bool q.mrk, .bool q.hed] 26)).alloc (.cells #[.int .i64 x.f0, .int .i64 x.f1, .string x.f2] 28)) = X := ⟨_, rfl⟩
 rw [hW] at HB HR1 HR2 HP HQ HE ⊢
 clear hW hs0
 obtain ⟨hp0, hp1, hp2, hp3, hp4, hp5, hp6, hp7, hp8, hp9⟩ := HP.out.box
 obtain ⟨hq0, hq1, hq2, hq3, hq4, hq5, hq6, hq7, hq8, hq9⟩ := HQ.out.box
 obtain ⟨he0, he1, he2⟩ := HE.out.box
 have hC1 := HC1.out
 simp only [Try.f3] at hC1
 subst hC1
 clear HC1
 go_wp2_with fail
 go_at_call 10
 refine (known4 _).mono ?_
 rintro e w1 ⟨rfl, hw1⟩
 replace HB := lbB HB hw1
 replace HR1 := lbR HR1 hw1
 replace HR2 := lbR HR2 hw1
 replace HP := lbP HP hw1
 replace HQ := lbP HQ hw1
 replace HE := lbE HE hw1
 clear hw1
 clear hp0 hp1 hp2 hp3 hp4 hp5 hp6 hp7 hp8 hp9 hq0 hq1 hq2 hq3 hq4 hq5 hq6 hq7 hq8 hq9 he0 he1 he2
 obtain ⟨hp0, hp1, hp2, hp3, hp4, hp5, hp6, hp7, hp8, hp9⟩ := HP.out.box
 obtain ⟨hq0, hq1, hq2, hq3, hq4, hq5, hq6, hq7, hq8, hq9⟩ := HQ.out.box
 obtain ⟨he0, he1, he2⟩ := HE.out.box
 go_wp2_with fail
 go_at_call 11
 refine (HF1.out A c _ HR1.out).mono ?_
 rintro e w2 ⟨rfl, hw2⟩
 replace HB := lbB HB hw2
 replace HR1 := lbR HR1 hw2
 replace HR2 := lbR HR2 hw2
 replace HP := lbP HP hw2
 replace HQ := lbP HQ hw2
 replace HE := lbE HE hw2
 clear hw2
 clear hp0 hp1 hp2 hp3 hp4 hp5 hp6 hp7 hp8 hp9 hq0 hq1 hq2 hq3 hq4 hq5 hq6 hq7 hq8 hq9 he0 he1 he2
 obtain ⟨hp0, hp1, hp2, hp3, hp4, hp5, hp6, hp7, hp8, hp9⟩ := HP.out.box
 obtain ⟨hq0, hq1, hq2, hq3, hq4, hq5, hq6, hq7, hq8, hq9⟩ := HQ.out.box
 obtain ⟨he0, he1, he2⟩ := HE.out.box
 go_wp2_with fail
 go_at_call 11
 refine (HF2.out A2 c2 _ HR2.out).mono ?_
 rintro e w3 ⟨rfl, hw3⟩
 replace HB := lbB HB hw3
 replace HR1 := lbR HR1 hw3
 replace HR2 := lbR HR2 hw3
 replace HP := lbP HP hw3
 replace HQ := lbP HQ hw3
 replace HE := lbE HE hw3
 clear hw3
 clear hp0 hp1 hp2 hp3 hp4 hp5 hp6 hp7 hp8 hp9 hq0 hq1 hq2 hq3 hq4 hq5 hq6 hq7 hq8 hq9 he0 he1 he2
 obtain ⟨hp0, hp1, hp2, hp3, hp4, hp5, hp6, hp7, hp8, hp9⟩ := HP.out.box
 obtain ⟨hq0, hq1, hq2, hq3, hq4, hq5, hq6, hq7, hq8, hq9⟩ := HQ.out.box
 obtain ⟨he0, he1, he2⟩ := HE.out.box
 go_wp2_with fail
 go_ret
 exact ⟨rfl, HB.out.b⟩
set_option maxHeartbeats 8000000 in
set_option maxRecDepth 100000 in
theorem tells4_no (p : Prt) (A : Option Addr) (c : Nat) (q : Prt) (A2 : Option Addr) (c2 : Nat) (x : Ent) (w : World) (hp : Rd w A c p.l) (hq : Rd w A2 c2 q.l) (hf1 : (∀ (A : Option Addr) (c : Nat) (w : World), Rd w A c p.l → Calls Try.prog 11 #[vP p A c] w fun e w' => e = .returned (.bool true) ∧ Below w.heap.size w w')) (hf2 : (∀ (A : Option Addr) (c : Nat) (w : World), Rd w A c q.l → Calls Try.prog 11 #[vP q A c] w fun e w' => e = .returned (.bool true) ∧ Below w.heap.size w w')) (hz : ¬ 60 < x.f2.size) (hpb : isP p = false) :
  Calls Try.prog 3 #[vP p A c, vP q A2 c2, .agg #[.int .i64 x.f0, .int .i64 x.f1, .string x.f2]] w fun e w' => e = .returned (.bool true) ∧ Below w.heap.size w w' := by
 have HF1 := Aside0.mk hf1
 have HF2 := Aside0.mk hf2
 have dz1 : decide ((x.f2.size : Int) > 60) = false := decide_eq_false (by omega)
 have dz2 : decide (60 < (x.f2.size : Int)) = false := dz1
 have dz3 : decide (60 < x.f2.size) = false := decide_eq_false (by omega)
 have HPB := Aside0.mk hpb
 have HBR : Aside0 (bytesR p = (⟨#[]⟩, 11)) := ⟨by unfold bytesR; rw [if_neg (by rw [hpb]; decide)]⟩
 obtain ⟨b1, hb1⟩ : ∃ b, isE x = b := ⟨_, rfl⟩
 have HB1 := Aside0.mk hb1
 obtain ⟨b2, hb2⟩ : ∃ b, sameP p q = b := ⟨_, rfl⟩
 have HB2 := Aside0.mk hb2
 clear hb1 hb2 hpb
 have HB := Aside0.mk (Bel.refl w)
 have HR1 := Aside0.mk (hp)
 have HR2 := Aside0.mk (hq)
 clear hp hq hf1 hf2 hz
 unfold vP
 go_enter Try.func3, Try.ntmps3
 obtain ⟨C1, hC1⟩ : ∃ C, (match Try.f3.body with | some (.seq _ c) => c | _ => .skip) = C := ⟨_, rfl⟩
 have HC1 := Aside0.mk hC1
 simp only [Try.f3] at hC1
 rw [hC1]
 clear hC1
 go_wp2_with fail
 obtain ⟨s0, hs0⟩ : ∃ n, w.heap.size = n := ⟨_, rfl⟩
 replace HB := laB HB (.cells #[.int .i64 p.g, .int .i64 p.k, .slice A p.l.length c, .int .i64 p.ht, .int .i64 p.hv, .int .i64 p.hc, .int .i64 p.ix, .int .i64 p.tm, .bool p.mrk, .bool p.hed] 26)
 replace HR1 := laR HR1 (.cells #[.int .i64 p.g, .int .i64 p.k, .slice A p.l.length c, .int .i64 p.ht, .int .i64 p.hv, .int .i64 p.hc, .int .i64 p.ix, .int .i64 p.tm, .bool p.mrk, .bool p.hed] 26)
 replace HR2 := laR HR2 (.cells #[.int .i64 p.g, .int .i64 p.k, .slice A p.l.length c, .int .i64 p.ht, .int .i64 p.hv, .int .i64 p.hc, .int .i64 p.ix, .int .i64 p.tm, .bool p.mrk, .bool p.hed] 26)
 have HP : Aside0 (BlkP p A c s0 (w.alloc (.cells #[.int .i64 p.g, .int .i64 p.k, .slice A p.l.length c, .int .i64 p.ht, .int .i64 p.hv, .int .i64 p.hc, .int .i64 p.ix, .int .i64 p.tm, .bool p.mrk, .bool p.hed] 26))) := ⟨(by have hq := BlkP.new p A c w; simp only [World.size_alloc, hs0] at hq; exact hq)⟩
 replace HB := laB HB (.cells #[.int .i64 q.g, .int .i64 q.k, .slice A2 q.l.length c2, .int .i64 q.ht, .int .i64 q.hv, .int .i64 q.hc, .int .i64 q.ix, .int .i64 q.tm, .bool q.mrk, .bool q.hed] 26)
 replace HR1 := laR HR1 (.cells #[.int .i64 q.g, .int .i64 q.k, .slice A2 q.l.length c2, .int .i64 q.ht, .int .i64 q.hv, .int .i64 q.hc, .int .i64 q.ix, .int .i64 q.tm, .bool q.mrk, .bool q.hed] 26)
 replace HR2 := laR HR2 (.cells #[.int .i64 q.g, .int .i64 q.k, .slice A2 q.l.length c2, .int .i64 q.ht, .int .i64 q.hv, .int .i64 q.hc, .int .i64 q.ix, .int .i64 q.tm, .bool q.mrk, .bool q.hed] 26)
 replace HP := laP HP (.cells #[.int .i64 q.g, .int .i64 q.k, .slice A2 q.l.length c2, .int .i64 q.ht, .int .i64 q.hv, .int .i64 q.hc, .int .i64 q.ix, .int .i64 q.tm, .bool q.mrk, .bool q.hed] 26)
 have HQ : Aside0 (BlkP q A2 c2 (s0 + 1) ((w.alloc (.cells #[.int .i64 p.g, .int .i64 p.k, .slice A p.l.length c, .int .i64 p.ht, .int .i64 p.hv, .int .i64 p.hc, .int .i64 p.ix, .int .i64 p.tm, .bool p.mrk, .bool p.hed] 26)).alloc (.cells #[.int .i64 q.g, .int .i64 q.k, .slice A2 q.l.length c2, .int .i64 q.ht, .int .i64 q.hv, .int .i64 q.hc, .int .i64 q.ix, .int .i64 q.tm, .bool q.mrk, .bool q.hed] 26))) := ⟨(by have hq := BlkP.new q A2 c2 (w.alloc (.cells #[.int .i64 p.g, .int .i64 p.k, .slice A p.l.length c, .int .i64 p.ht, .int .i64 p.hv, .int .i64 p.hc, .int .i64 p.ix, .int .i64 p.tm, .bool p.mrk, .bool p.hed] 26)); simp only [World.size_alloc, hs0] at hq; exact hq)⟩
 replace HB := laB HB (.cells #[.int .i64 x.f0, .int .i64 x.f1, .string x.f2] 28)
 replace HR1 := laR HR1 (.cells #[.int .i64 x.f0, .int .i64 x.f1, .string x.f2] 28)
 replace HR2 := laR HR2 (.cells #[.int .i64 x.f0, .int .i64 x.f1, .string x.f2] 28)
 replace HP := laP HP (.cells #[.int .i64 x.f0, .int .i64 x.f1, .string x.f2] 28)
 replace HQ := laP HQ (.cells #[.int .i64 x.f0, .int .i64 x.f1, .string x.f2] 28)
 have HE : Aside0 (BlkE x (s0 + 1 + 1) (((w.alloc (.cells #[.int .i64 p.g, .int .i64 p.k, .slice A p.l.length c, .int .i64 p.ht, .int .i64 p.hv, .int .i64 p.hc, .int .i64 p.ix, .int .i64 p.tm, .bool p.mrk, .bool p.hed] 26)).alloc (.cells #[.int .i64 q.g, .int .i64 q.k, .slice A2 q.l.length c2, .int .i64 q.ht, .int .i64 q.hv, .int .i64 q.hc, .int .i64 q.ix, .int .i64 q.tm, .bool q.mrk, .bool q.hed] 26)).alloc (.cells #[.int .i64 x.f0, .int .i64 x.f1, .string x.f2] 28))) := ⟨(by have hq := BlkE.new x ((w.alloc (.cells #[.int .i64 p.g, .int .i64 p.k, .slice A p.l.length c, .int .i64 p.ht, .int .i64 p.hv, .int .i64 p.hc, .int .i64 p.ix, .int .i64 p.tm, .bool p.mrk, .bool p.hed] 26)).alloc (.cells #[.int .i64 q.g, .int .i64 q.k, .slice A2 q.l.length c2, .int .i64 q.ht, .int .i64 q.hv, .int .i64 q.hc, .int .i64 q.ix, .int .i64 q.tm, .bool q.mrk, .bool q.hed] 26)); simp only [World.size_alloc, hs0] at hq; exact hq)⟩
 try simp only [World.size_alloc, hs0]
 obtain ⟨W0, hW⟩ : ∃ X, (((w.alloc (.cells #[.int .i64 p.g, .int .i64 p.k, .slice A p.l.length c, .int .i64 p.ht, .int .i64 p.hv, .int .i64 p.hc, .int .i64 p.ix, .int .i64 p.tm, .bool p.mrk, .bool p.hed] 26)).alloc (.cells #[.int .i64 q.g, .int .i64 q.k, .slice A2 q.l.length c2, .int .i64 q.ht, .int .i64 q.hv, .int .i64 q.hc, .int .i64 q.ix, .int .i64 q.tm, .bool q.mrk, .bool q.hed] 26)).alloc (.cells #[.int .i64 x.f0, .int .i64 x.f1, .string x.f2] 28)) = X := ⟨_, rfl⟩
 rw [hW] at HB HR1 HR2 HP HQ HE ⊢
 clear hW hs0
 obtain ⟨hp0, hp1, hp2, hp3, hp4, hp5, hp6, hp7, hp8, hp9⟩ := HP.out.box
 obtain ⟨hq0, hq1, hq2, hq3, hq4, hq5, hq6, hq7, hq8, hq9⟩ := HQ.out.box
 obtain ⟨he0, he1, he2⟩ := HE.out.box
 have hC1 := HC1.out
 simp only [Try.f3] at hC1
 subst hC1
 clear HC1
 obtain ⟨C7, hC7⟩ : ∃ C, (match Try.f3.body with | some (.seq _ (.seq _ (.seq _ (.seq _ (.seq _ (.seq _ c)))))) => c | _ => .skip) = C := ⟨_, rfl⟩
 have HC7 := Aside0.mk hC7
 simp only [Try.f3] at hC7
 rw [hC7]
 clear hC7
 go_wp2_with fail
 go_at_call 10
 refine (known4 _).mono ?_
 rintro e w1 ⟨rfl, hw1⟩
 replace HB := lbB HB hw1
 replace HR1 := lbR HR1 hw1
 replace HR2 := lbR HR2 hw1
 replace HP := lbP HP hw1
 replace HQ := lbP HQ hw1
 replace HE := lbE HE hw1
 clear hw1
 clear hp0 hp1 hp2 hp3 hp4 hp5 hp6 hp7 hp8 hp9 hq0 hq1 hq2 hq3 hq4 hq5 hq6 hq7 hq8 hq9 he0 he1 he2
 obtain ⟨hp0, hp1, hp2, hp3, hp4, hp5, hp6, hp7, hp8, hp9⟩ := HP.out.box
 obtain ⟨hq0, hq1, hq2, hq3, hq4, hq5, hq6, hq7, hq8, hq9⟩ := HQ.out.box
 obtain ⟨he0, he1, he2⟩ := HE.out.box
 go_wp2_with fail
 go_at_call 11
 refine (HF1.out A c _ HR1.out).mono ?_
 rintro e w2 ⟨rfl, hw2⟩
 replace HB := lbB HB hw2
 replace HR1 := lbR HR1 hw2
 replace HR2 := lbR HR2 hw2
 replace HP := lbP HP hw2
 replace HQ := lbP HQ hw2
 replace HE := lbE HE hw2
 clear hw2
 clear hp0 hp1 hp2 hp3 hp4 hp5 hp6 hp7 hp8 hp9 hq0 hq1 hq2 hq3 hq4 hq5 hq6 hq7 hq8 hq9 he0 he1 he2
 obtain ⟨hp0, hp1, hp2, hp3, hp4, hp5, hp6, hp7, hp8, hp9⟩ := HP.out.box
 obtain ⟨hq0, hq1, hq2, hq3, hq4, hq5, hq6, hq7, hq8, hq9⟩ := HQ.out.box
 obtain ⟨he0, he1, he2⟩ := HE.out.box
 go_wp2_with fail
 go_at_call 11
 refine (HF2.out A2 c2 _ HR2.out).mono ?_
 rintro e w3 ⟨rfl, hw3⟩
 replace HB := lbB HB hw3
 replace HR1 := lbR HR1 hw3
 replace HR2 := lbR HR2 hw3
 replace HP := lbP HP hw3
 replace HQ := lbP HQ hw3
 replace HE := lbE HE hw3
 clear hw3
 clear hp0 hp1 hp2 hp3 hp4 hp5 hp6 hp7 hp8 hp9 hq0 hq1 hq2 hq3 hq4 hq5 hq6 hq7 hq8 hq9 he0 he1 he2
 obtain ⟨hp0, hp1, hp2, hp3, hp4, hp5, hp6, hp7, hp8, hp9⟩ := HP.out.box
 obtain ⟨hq0, hq1, hq2, hq3, hq4, hq5, hq6, hq7, hq8, hq9⟩ := HQ.out.box
 obtain ⟨he0, he1, he2⟩ := HE.out.box
 go_wp2_with fail
 go_at_call 12
 refine (part_Bytes p A c _ HR1.out HBR.out).mono ?_
 rintro e w4 ⟨rfl, hw4⟩
 replace HB := lbB HB hw4
 replace HR1 := lbR HR1 hw4
 replace HR2 := lbR HR2 hw4
 replace HP := lbP HP hw4
 replace HQ := lbP HQ hw4
 replace HE := lbE HE hw4
 clear hw4
 clear hp0 hp1 hp2 hp3 hp4 hp5 hp6 hp7 hp8 hp9 hq0 hq1 hq2 hq3 hq4 hq5 hq6 hq7 hq8 hq9 he0 he1 he2
 obtain ⟨hp0, hp1, hp2, hp3, hp4, hp5, hp6, hp7, hp8, hp9⟩ := HP.out.box
 obtain ⟨hq0, hq1, hq2, hq3, hq4, hq5, hq6, hq7, hq8, hq9⟩ := HQ.out.box
 obtain ⟨he0, he1, he2⟩ := HE.out.box
 go_wp2_with fail
 go_at_call 13
 refine (isr4 p A c _ HR1.out HPB.out).mono ?_
 rintro e w5 ⟨rfl, hw5⟩
 replace HB := lbB HB hw5
 replace HR1 := lbR HR1 hw5
 replace HR2 := lbR HR2 hw5
 replace HP := lbP HP hw5
 replace HQ := lbP HQ hw5
 replace HE := lbE HE hw5
 clear hw5
 clear hp0 hp1 hp2 hp3 hp4 hp5 hp6 hp7 hp8 hp9 hq0 hq1 hq2 hq3 hq4 hq5 hq6 hq7 hq8 hq9 he0 he1 he2
 obtain ⟨hp0, hp1, hp2, hp3, hp4, hp5, hp6, hp7, hp8, hp9⟩ := HP.out.box
 obtain ⟨hq0, hq1, hq2, hq3, hq4, hq5, hq6, hq7, hq8, hq9⟩ := HQ.out.box
 obtain ⟨he0, he1, he2⟩ := HE.out.box
 go_wp2_with fail
 have hC7 := HC7.out
 simp only [Try.f3] at hC7
 subst hC7
 clear HC7
 go_wp2_with fail
 clear hp0 hp1 hp2 hp3 hp4 hp5 hp6 hp7 hp8 hp9 hq0 hq1 hq2 hq3 hq4 hq5 hq6 hq7 hq8 hq9 he0 he1 he2
 replace HB := ldB HB
 replace HR1 := ldR HR1
 replace HR2 := ldR HR2
 replace HP := ldP HP
 replace HQ := ldP HQ
 replace HE := ldE HE
 refine start_ (n := 42) (S := (fun w' => BoxP p A c s0 w' ∧ BoxP q A2 c2 (s0 + 1) w' ∧ BoxE x (s0 + 1 + 1) w')) (ds := []) #[false,false,false,false,false,false,false,false,false,false,false,false,false,false,false,false,false,false,false,false,false,false,false,false,false,false,false,false,false,false,false,false,false,false,false,false,false,false,false,false,false,false] (by kernel_rfl) rfl rfl ⟨HP.out.box, HQ.out.box, HE.out.box⟩ (fun hHeld => ?_)
 refine take_ (i := 0) (N := some 35) (v := ?_) (a' := ?_) #[true,false,false,false,false,false,false,false,false,false,false,false,false,false,false,false,false,false,false,false,false,false,false,false,false,false,false,false,false,false,false,false,false,false,false,false,false,false,false,false,false,false] rfl rfl (by kernel_rfl) (fun _ _ _ h => h) (Or.inl ⟨by rfl, ?_⟩) hHeld ?_ ?_
 rotate_left
 · rintro w' ⟨⟨hp0, hp1, hp2, hp3, hp4, hp5, hp6, hp7, hp8, hp9⟩, ⟨hq0, hq1, hq2, hq3, hq4, hq5, hq6, hq7, hq8, hq9⟩, ⟨he0, he1, he2⟩⟩
   go_simp
   try with_reducible rfl
 rotate_left
 · simp only [Act.put, sA, sB, sC]
   rfl
 refine take_ (i := 2) (N := some 37) (v := ?_) (a' := ?_) #[true,false,true,false,false,false,false,false,false,false,false,false,false,false,false,false,false,false,false,false,false,false,false,false,false,false,false,false,false,false,false,false,false,false,false,false,false,false,false,false,false,false] rfl rfl (by kernel_rfl) (fun _ _ _ h => h) (Or.inl ⟨by rfl, ?_⟩) hHeld ?_ ?_
 rotate_left
 · rintro w' ⟨⟨hp0, hp1, hp2, hp3, hp4, hp5, hp6, hp7, hp8, hp9⟩, ⟨hq0, hq1, hq2, hq3, hq4, hq5, hq6, hq7, hq8, hq9⟩, ⟨he0, he1, he2⟩⟩
   go_simp
   try with_reducible rfl
 rotate_left
 · simp only [Act.put, sA, sB, sC]
   rfl
 refine one_ (i := 1) (N := some 36) #[true,true,true,false,false,false,false,false,false,false,false,false,false,false,false,false,false,false,false,false,false,false,false,false,false,false,false,false,false,false,false,false,false,false,false,false,false,false,false,false,false,false] rfl rfl (by kernel_rfl) (by decide) (fun K hK => ?_)
 go_simp
 refine (isp4 p A c _ HR1.out HPB.out).mono ?_; rintro e w6 ⟨rfl, hw6⟩; replace HB := lbB HB hw6; replace HR1 := lbR HR1 hw6; replace HR2 := lbR HR2 hw6; replace HP := lbP HP hw6; replace HQ := lbP HQ hw6; replace HE := lbE HE hw6; clear hw6
 refine hK.out _ _ ?_ (fun hHeld => ?_)
 · exact ⟨HP.out.box, HQ.out.box, HE.out.box⟩
 clear hK K
 try simp only [Act.put, sA, sB, sC]
 refine one_ (i := 3) (N := some 38) #[true,true,true,true,false,false,false,false,false,false,false,false,false,false,false,false,false,false,false,false,false,false,false,false,false,false,false,false,false,false,false,false,false,false,false,false,false,false,false,false,false,false] rfl rfl (by kernel_rfl) (by decide) (fun K hK => ?_)
 go_simp
 refine (isr4 p A c _ HR1.out HPB.out).mono ?_; rintro e w7 ⟨rfl, hw7⟩; replace HB := lbB HB hw7; replace HR1 := lbR HR1 hw7; replace HR2 := lbR HR2 hw7; replace HP := lbP HP hw7; replace HQ := lbP HQ hw7; replace HE := lbE HE hw7; clear hw7
 refine hK.out _ _ ?_ (fun hHeld => ?_)
 · exact ⟨HP.out.box, HQ.out.box, HE.out.box⟩
 clear hK K
 try simp only [Act.put, sA, sB, sC]
 refine pure_ (i := 4) (N := some 39) (v := ?_) (a' := ?_) #[true,true,true,true,true,false,false,false,false,false,false,false,false,false,false,false,false,false,false,false,false,false,false,false,false,false,false,false,false,false,false,false,false,false,false,false,false,false,false,false,false,false] rfl rfl (by kernel_rfl) (fun _ _ _ h => h) (Or.inl ⟨by rfl, ?_⟩) ?_ ?_
 rotate_left
 · intro w'
   go_simp
   try with_reducible rfl
 rotate_left
 · simp only [Act.put, sA, sB, sC]
   rfl
 refine pure_ (i := 5) (N := some 40) (v := ?_) (a' := ?_) #[true,true,true,true,true,true,false,false,false,false,false,false,false,false,false,false,false,false,false,false,false,false,false,false,false,false,false,false,false,false,false,false,false,false,false,false,false,false,false,false,false,false] rfl rfl (by kernel_rfl) (fun _ _ _ h => h) (Or.inl ⟨by rfl, ?_⟩) ?_ ?_
 rotate_left
 · intro w'
   go_simp
   try with_reducible rfl
 rotate_left
 · simp only [Act.put, sA, sB, sC]
   rfl
 refine take_ (i := 6) (N := some 41) (v := ?_) (a' := ?_) #[true,true,true,true,true,true,true,false,false,false,false,false,false,false,false,false,false,false,false,false,false,false,false,false,false,false,false,false,false,false,false,false,false,false,false,false,false,false,false,false,false,false] rfl rfl (by kernel_rfl) (fun _ _ _ h => h) (Or.inl ⟨by rfl, ?_⟩) hHeld ?_ ?_
 rotate_left
 · rintro w' ⟨⟨hp0, hp1, hp2, hp3, hp4, hp5, hp6, hp7, hp8, hp9⟩, ⟨hq0, hq1, hq2, hq3, hq4, hq5, hq6, hq7, hq8, hq9⟩, ⟨he0, he1, he2⟩⟩
   go_simp
   try with_reducible rfl
 rotate_left
 · simp only [Act.put, sA, sB, sC]
   rfl
 refine take_ (i := 8) (N := some 43) (v := ?_) (a' := ?_) #[true,true,true,true,true,true,true,false,true,false,false,false,false,false,false,false,false,false,false,false,false,false,false,false,false,false,false,false,false,false,false,false,false,false,false,false,false,false,false,false,false,false] rfl rfl (by kernel_rfl) (fun _ _ _ h => h) (Or.inl ⟨by rfl, ?_⟩) hHeld ?_ ?_
 rotate_left
 · rintro w' ⟨⟨hp0, hp1, hp2, hp3, hp4, hp5, hp6, hp7, hp8, hp9⟩, ⟨hq0, hq1, hq2, hq3, hq4, hq5, hq6, hq7, hq8, hq9⟩, ⟨he0, he1, he2⟩⟩
   go_simp
   try with_reducible rfl
 rotate_left
 · simp only [Act.put, sA, sB, sC]
   rfl
 refine one_ (i := 7) (N := some 42) #[true,true,true,true,true,true,true,true,true,false,false,false,false,false,false,false,false,false,false,false,false,false,false,false,false,false,false,false,false,false,false,false,false,false,false,false,false,false,false,false,false,false] rfl rfl (by kernel_rfl) (by decide) (fun K hK => ?_)
 go_simp
 refine (isE_calls x _ HB1.out).mono ?_; rintro e w8 ⟨rfl, hw8⟩; replace HB := lbB HB hw8; replace HR1 := lbR HR1 hw8; replace HR2 := lbR HR2 hw8; replace HP := lbP HP hw8; replace HQ := lbP HQ hw8; replace HE := lbE HE hw8; clear hw8
 refine hK.out _ _ ?_ (fun hHeld => ?_)
 · exact ⟨HP.out.box, HQ.out.box, HE.out.box⟩
 clear hK K
 try simp only [Act.put, sA, sB, sC]
 refine one_ (i := 9) (N := some 44) #[true,true,true,true,true,true,true,true,true,true,false,false,false,false,false,false,false,false,false,false,false,false,false,false,false,false,false,false,false,false,false,false,false,false,false,false,false,false,false,false,false,false] rfl rfl (by kernel_rfl) (by decide) (fun K hK => ?_)
 go_simp
 refine (isE4_calls x _ HB1.out).mono ?_; rintro e w9 ⟨rfl, hw9⟩; replace HB := lbB HB hw9; replace HR1 := lbR HR1 hw9; replace HR2 := lbR HR2 hw9; replace HP := lbP HP hw9; replace HQ := lbP HQ hw9; replace HE := lbE HE hw9; clear hw9
 refine hK.out _ _ ?_ (fun hHeld => ?_)
 · exact ⟨HP.out.box, HQ.out.box, HE.out.box⟩
 clear hK K
 try simp only [Act.put, sA, sB, sC]
 refine pure_ (i := 10) (N := some 45) (v := ?_) (a' := ?_) #[true,true,true,true,true,true,true,true,true,true,true,false,false,false,false,false,false,false,false,false,false,false,false,false,false,false,false,false,false,false,false,false,false,false,false,false,false,false,false,false,false,false] rfl rfl (by kernel_rfl) (fun _ _ _ h => h) (Or.inl ⟨by rfl, ?_⟩) ?_ ?_
 rotate_left
 · intro w'
   go_simp
   try with_reducible rfl
 rotate_left
 · simp only [Act.put, sA, sB, sC]
   rfl
 refine pure_ (i := 11) (N := some 46) (v := ?_) (a' := ?_) #[true,true,true,true,true,true,true,true,true,true,true,true,false,false,false,false,false,false,false,false,false,false,false,false,false,false,false,false,false,false,false,false,false,false,false,false,false,false,false,false,false,false] rfl rfl (by kernel_rfl) (fun _ _ _ h => h) (Or.inl ⟨by rfl, ?_⟩) ?_ ?_
 rotate_left
 · intro w'
   go_simp
   try with_reducible rfl
 rotate_left
 · simp only [Act.put, sA, sB, sC]
   rfl
 refine pure_ (i := 12) (N := some 47) (v := ?_) (a' := ?_) #[true,true,true,true,true,true,true,true,true,true,true,true,true,false,false,false,false,false,false,false,false,false,false,false,false,false,false,false,false,false,false,false,false,false,false,false,false,false,false,false,false,false] rfl rfl (by kernel_rfl) (fun _ _ _ h => h) (Or.inl ⟨by rfl, ?_⟩) ?_ ?_
 rotate_left
 · intro w'
   go_simp
   try with_reducible rfl
 rotate_left
 · simp only [Act.put, sA, sB, sC]
   rfl
 refine pure_ (i := 13) (N := some 48) (v := ?_) (a' := ?_) #[true,true,true,true,true,true,true,true,true,true,true,true,true,true,false,false,false,false,false,false,false,false,false,false,false,false,false,false,false,false,false,false,false,false,false,false,false,false,false,false,false,false] rfl rfl (by kernel_rfl) (fun _ _ _ h => h) (Or.inl ⟨by rfl, ?_⟩) ?_ ?_
 rotate_left
 · intro w'
   go_simp
   try with_reducible rfl
 rotate_left
 · simp only [Act.put, sA, sB, sC]
   rfl
 refine pure_ (i := 14) (N := some 49) (v := ?_) (a' := ?_) #[true,true,true,true,true,true,true,true,true,true,true,true,true,true,true,false,false,false,false,false,false,false,false,false,false,false,false,false,false,false,false,false,false,false,false,false,false,false,false,false,false,false] rfl rfl (by kernel_rfl) (fun _ _ _ h => h) (Or.inl ⟨by rfl, ?_⟩) ?_ ?_
 rotate_left
 · intro w'
   go_simp
   try with_reducible rfl
 rotate_left
 · simp only [Act.put, sA, sB, sC]
   rfl
 refine pure_ (i := 15) (N := some 50) (v := ?_) (a' := ?_) #[true,true,true,true,true,true,true,true,true,true,true,true,true,true,true,true,false,false,false,false,false,false,false,false,false,false,false,false,false,false,false,false,false,false,false,false,false,false,false,false,false,false] rfl rfl (by kernel_rfl) (fun _ _ _ h => h) (Or.inl ⟨by rfl, ?_⟩) ?_ ?_
 rotate_left
 · intro w'
   go_simp
   try with_reducible rfl
 rotate_left
 · simp only [Act.put, sA, sB, sC]
   rfl
 refine pure_ (i := 16) (N := some 51) (v := ?_) (a' := ?_) #[true,true,true,true,true,true,true,true,true,true,true,true,true,true,true,true,true,false,false,false,false,false,false,false,false,false,false,false,false,false,false,false,false,false,false,false,false,false,false,false,false,false] rfl rfl (by kernel_rfl) (fun _ _ _ h => h) (Or.inl ⟨by rfl, ?_⟩) ?_ ?_
 rotate_left
 · intro w'
   go_simp
   try with_reducible rfl
 rotate_left
 · simp only [Act.put, sA, sB, sC]
   rfl
 refine pure_ (i := 17) (N := some 52) (v := ?_) (a' := ?_) #[true,true,true,true,true,true,true,true,true,true,true,true,true,true,true,true,true,true,false,false,false,false,false,false,false,false,false,false,false,false,false,false,false,false,false,false,false,false,false,false,false,false] rfl rfl (by kernel_rfl) (fun _ _ _ h => h) (Or.inl ⟨by rfl, ?_⟩) ?_ ?_
 rotate_left
 · intro w'
   go_simp
   try with_reducible rfl
 rotate_left
 · simp only [Act.put, sA, sB, sC]
   rfl
 refine pure_ (i := 18) (N := some 53) (v := ?_) (a' := ?_) #[true,true,true,true,true,true,true,true,true,true,true,true,true,true,true,true,true,true,true,false,false,false,false,false,false,false,false,false,false,false,false,false,false,false,false,false,false,false,false,false,false,false] rfl rfl (by kernel_rfl) (fun _ _ _ h => h) (Or.inl ⟨by rfl, ?_⟩) ?_ ?_
 rotate_left
 · intro w'
   go_simp
   try with_reducible rfl
 rotate_left
 · simp only [Act.put, sA, sB, sC]
   rfl
 refine take_ (i := 20) (N := some 55) (v := ?_) (a' := ?_) #[true,true,true,true,true,true,true,true,true,true,true,true,true,true,true,true,true,true,true,false,true,false,false,false,false,false,false,false,false,false,false,false,false,false,false,false,false,false,false,false,false,false] rfl rfl (by kernel_rfl) (fun _ _ _ h => h) (Or.inl ⟨by rfl, ?_⟩) hHeld ?_ ?_
 rotate_left
 · rintro w' ⟨⟨hp0, hp1, hp2, hp3, hp4, hp5, hp6, hp7, hp8, hp9⟩, ⟨hq0, hq1, hq2, hq3, hq4, hq5, hq6, hq7, hq8, hq9⟩, ⟨he0, he1, he2⟩⟩
   go_simp
   try with_reducible rfl
 rotate_left
 · simp only [Act.put, sA, sB, sC]
   rfl
 refine pure_ (i := 19) (N := some 54) (v := ?_) (a' := ?_) #[true,true,true,true,true,true,true,true,true,true,true,true,true,true,true,true,true,true,true,true,true,false,false,false,false,false,false,false,false,false,false,false,false,false,false,false,false,false,false,false,false,false] rfl rfl (by kernel_rfl) (fun _ _ _ h => h) (Or.inl ⟨by rfl, ?_⟩) ?_ ?_
 rotate_left
 · intro w'
   go_simp
   try with_reducible rfl
 rotate_left
 · simp only [Act.put, sA, sB, sC]
   rfl
 refine one_ (i := 21) (N := some 56) #[true,true,true,true,true,true,true,true,true,true,true,true,true,true,true,true,true,true,true,true,true,true,false,false,false,false,false,false,false,false,false,false,false,false,false,false,false,false,false,false,false,false] rfl rfl (by kernel_rfl) (by decide) (fun K hK => ?_)
 go_simp
 refine (isr4 p A c _ HR1.out HPB.out).mono ?_; rintro e w10 ⟨rfl, hw10⟩; replace HB := lbB HB hw10; replace HR1 := lbR HR1 hw10; replace HR2 := lbR HR2 hw10; replace HP := lbP HP hw10; replace HQ := lbP HQ hw10; replace HE := lbE HE hw10; clear hw10
 refine hK.out _ _ ?_ (fun hHeld => ?_)
 · exact ⟨HP.out.box, HQ.out.box, HE.out.box⟩
 clear hK K
 try simp only [Act.put, sA, sB, sC]
 refine pure_ (i := 22) (N := some 57) (v := ?_) (a' := ?_) #[true,true,true,true,true,true,true,true,true,true,true,true,true,true,true,true,true,true,true,true,true,true,true,false,false,false,false,false,false,false,false,false,false,false,false,false,false,false,false,false,false,false] rfl rfl (by kernel_rfl) (fun _ _ _ h => h) (Or.inl ⟨by rfl, ?_⟩) ?_ ?_
 rotate_left
 · intro w'
   go_simp
   try with_reducible rfl
 rotate_left
 · simp only [Act.put, sA, sB, sC]
   rfl
 refine pure_ (i := 23) (N := some 58) (v := ?_) (a' := ?_) #[true,true,true,true,true,true,true,true,true,true,true,true,true,true,true,true,true,true,true,true,true,true,true,true,false,false,false,false,false,false,false,false,false,false,false,false,false,false,false,false,false,false] rfl rfl (by kernel_rfl) (fun _ _ _ h => h) (Or.inl ⟨by rfl, ?_⟩) ?_ ?_
 rotate_left
 · intro w'
   go_simp
   try with_reducible rfl
 rotate_left
 · simp only [Act.put, sA, sB, sC]
   rfl
 refine pure_ (i := 24) (N := some 59) (v := ?_) (a' := ?_) #[true,true,true,true,true,true,true,true,true,true,true,true,true,true,true,true,true,true,true,true,true,true,true,true,true,false,false,false,false,false,false,false,false,false,false,false,false,false,false,false,false,false] rfl rfl (by kernel_rfl) (fun _ _ _ h => h) (Or.inl ⟨by rfl, ?_⟩) ?_ ?_
 rotate_left
 · intro w'
   go_simp
   try with_reducible rfl
 rotate_left
 · simp only [Act.put, sA, sB, sC]
   rfl
 refine pure_ (i := 25) (N := some 60) (v := ?_) (a' := ?_) #[true,true,true,true,true,true,true,true,true,true,true,true,true,true,true,true,true,true,true,true,true,true,true,true,true,true,false,false,false,false,false,false,false,false,false,false,false,false,false,false,false,false] rfl rfl (by kernel_rfl) (fun _ _ _ h => h) (Or.inl ⟨by rfl, ?_⟩) ?_ ?_
 rotate_left
 · intro w'
   go_simp
   try with_reducible rfl
 rotate_left
 · simp only [Act.put, sA, sB, sC]
   rfl
 refine pure_ (i := 26) (N := some 61) (v := ?_) (a' := ?_) #[true,true,true,true,true,true,true,true,true,true,true,true,true,true,true,true,true,true,true,true,true,true,true,true,true,true,true,false,false,false,false,false,false,false,false,false,false,false,false,false,false,false] rfl rfl (by kernel_rfl) (fun _ _ _ h => h) (Or.inl ⟨by rfl, ?_⟩) ?_ ?_
 rotate_left
 · intro w'
   go_simp
   try with_reducible rfl
 rotate_left
 · simp only [Act.put, sA, sB, sC]
   rfl
 refine pure_ (i := 27) (N := some 62) (v := ?_) (a' := ?_) #[true,true,true,true,true,true,true,true,true,true,true,true,true,true,true,true,true,true,true,true,true,true,true,true,true,true,true,true,false,false,false,false,false,false,false,false,false,false,false,false,false,false] rfl rfl (by kernel_rfl) (fun _ _ _ h => h) (Or.inl ⟨by rfl, ?_⟩) ?_ ?_
 rotate_left
 · intro w'
   go_simp
   try with_reducible rfl
 rotate_left
 · simp only [Act.put, sA, sB, sC]
   rfl
 refine pure_ (i := 28) (N := some 63) (v := ?_) (a' := ?_) #[true,true,true,true,true,true,true,true,true,true,true,true,true,true,true,true,true,true,true,true,true,true,true,true,true,true,true,true,true,false,false,false,false,false,false,false,false,false,false,false,false,false] rfl rfl (by kernel_rfl) (fun _ _ _ h => h) (Or.inl ⟨by rfl, ?_⟩) ?_ ?_
 rotate_left
 · intro w'
   go_simp
   try with_reducible rfl
 rotate_left
 · simp only [Act.put, sA, sB, sC]
   rfl
 refine pure_ (i := 29) (N := some 64) (v := ?_) (a' := ?_) #[true,true,true,true,true,true,true,true,true,true,true,true,true,true,true,true,true,true,true,true,true,true,true,true,true,true,true,true,true,true,false,false,false,false,false,false,false,false,false,false,false,false] rfl rfl (by kernel_rfl) (fun _ _ _ h => h) (Or.inl ⟨by rfl, ?_⟩) ?_ ?_
 rotate_left
 · intro w'
   go_simp
   try with_reducible rfl
 rotate_left
 · simp only [Act.put, sA, sB, sC]
   rfl
 refine pure_ (i := 30) (N := some 65) (v := ?_) (a' := ?_) #[true,true,true,true,true,true,true,true,true,true,true,true,true,true,true,true,true,true,true,true,true,true,true,true,true,true,true,true,true,true,true,false,false,false,false,false,false,false,false,false,false,false] rfl rfl (by kernel_rfl) (fun _ _ _ h => h) (Or.inl ⟨by rfl, ?_⟩) ?_ ?_
 rotate_left
 · intro w'
   go_simp
   try with_reducible rfl
 rotate_left
 · simp only [Act.put, sA, sB, sC]
   rfl
 refine pure_ (i := 31) (N := some 66) (v := ?_) (a' := ?_) #[true,true,true,true,true,true,true,true,true,true,true,true,true,true,true,true,true,true,true,true,true,true,true,true,true,true,true,true,true,true,true,true,false,false,false,false,false,false,false,false,false,false] rfl rfl (by kernel_rfl) (fun _ _ _ h => h) (Or.inl ⟨by rfl, ?_⟩) ?_ ?_
 rotate_left
 · intro w'
   go_simp
   try with_reducible rfl
 rotate_left
 · simp only [Act.put, sA, sB, sC]
   rfl
 refine pure_ (i := 32) (N := some 67) (v := ?_) (a' := ?_) #[true,true,true,true,true,true,true,true,true,true,true,true,true,true,true,true,true,true,true,true,true,true,true,true,true,true,true,true,true,true,true,true,true,false,false,false,false,false,false,false,false,false] rfl rfl (by kernel_rfl) (fun _ _ _ h => h) (Or.inl ⟨by rfl, ?_⟩) ?_ ?_
 rotate_left
 · intro w'
   go_simp
   try with_reducible rfl
 rotate_left
 · simp only [Act.put, sA, sB, sC]
   rfl
 refine take_ (i := 33) (N := some 68) (v := ?_) (a' := ?_) #[true,true,true,true,true,true,true,true,true,true,true,true,true,true,true,true,true,true,true,true,true,true,true,true,true,true,true,true,true,true,true,true,true,true,false,false,false,false,false,false,false,false] rfl rfl (by kernel_rfl) (fun _ _ _ h => h) (Or.inl ⟨by rfl, ?_⟩) hHeld ?_ ?_
 rotate_left
 · rintro w' ⟨⟨hp0, hp1, hp2, hp3, hp4, hp5, hp6, hp7, hp8, hp9⟩, ⟨hq0, hq1, hq2, hq3, hq4, hq5, hq6, hq7, hq8, hq9⟩, ⟨he0, he1, he2⟩⟩
   go_simp
   try with_reducible rfl
 rotate_left
 · simp only [Act.put, sA, sB, sC]
   rfl
 refine take_ (i := 34) (N := some 69) (v := ?_) (a' := ?_) #[true,true,true,true,true,true,true,true,true,true,true,true,true,true,true,true,true,true,true,true,true,true,true,true,true,true,true,true,true,true,true,true,true,true,true,false,false,false,false,false,false,false] rfl rfl (by kernel_rfl) (fun _ _ _ h => h) (Or.inl ⟨by rfl, ?_⟩) hHeld ?_ ?_
 rotate_left
 · rintro w' ⟨⟨hp0, hp1, hp2, hp3, hp4, hp5, hp6, hp7, hp8, hp9⟩, ⟨hq0, hq1, hq2, hq3, hq4, hq5, hq6, hq7, hq8, hq9⟩, ⟨he0, he1, he2⟩⟩
   go_simp
   try with_reducible rfl
 rotate_left
 · simp only [Act.put, sA, sB, sC]
   rfl
 refine take_ (i := 36) (N := some 71) (v := ?_) (a' := ?_) #[true,true,true,true,true,true,true,true,true,true,true,true,true,true,true,true,true,true,true,true,true,true,true,true,true,true,true,true,true,true,true,true,true,true,true,false,true,false,false,false,false,false] rfl rfl (by kernel_rfl) (fun _ _ _ h => h) (Or.inl ⟨by rfl, ?_⟩) hHeld ?_ ?_
 rotate_left
 · rintro w' ⟨⟨hp0, hp1, hp2, hp3, hp4, hp5, hp6, hp7, hp8, hp9⟩, ⟨hq0, hq1, hq2, hq3, hq4, hq5, hq6, hq7, hq8, hq9⟩, ⟨he0, he1, he2⟩⟩
   go_simp
   try with_reducible rfl
 rotate_left
 · simp only [Act.put, sA, sB, sC]
   rfl
 refine take_ (i := 37) (N := some 72) (v := ?_) (a' := ?_) #[true,true,true,true,true,true,true,true,true,true,true,true,true,true,true,true,true,true,true,true,true,true,true,true,true,true,true,true,true,true,true,true,true,true,true,false,true,true,false,false,false,false] rfl rfl (by kernel_rfl) (fun _ _ _ h => h) (Or.inl ⟨by rfl, ?_⟩) hHeld ?_ ?_
 rotate_left
 · rintro w' ⟨⟨hp0, hp1, hp2, hp3, hp4, hp5, hp6, hp7, hp8, hp9⟩, ⟨hq0, hq1, hq2, hq3, hq4, hq5, hq6, hq7, hq8, hq9⟩, ⟨he0, he1, he2⟩⟩
   go_simp
   try with_reducible rfl
 rotate_left
 · simp only [Act.put, sA, sB, sC]
   rfl
 refine one_ (i := 35) (N := some 70) #[true,true,true,true,true,true,true,true,true,true,true,true,true,true,true,true,true,true,true,true,true,true,true,true,true,true,true,true,true,true,true,true,true,true,true,true,true,true,false,false,false,false] rfl rfl (by kernel_rfl) (by decide) (fun K hK => ?_)
 go_simp
 refine (samep p q A c A2 c2 _ HR1.out HR2.out HB2.out).mono ?_; rintro e w11 ⟨rfl, hw11⟩; replace HB := lbB HB hw11; replace HR1 := lbR HR1 hw11; replace HR2 := lbR HR2 hw11; replace HP := lbP HP hw11; replace HQ := lbP HQ hw11; replace HE := lbE HE hw11; clear hw11
 refine hK.out _ _ ?_ (fun hHeld => ?_)
 · exact ⟨HP.out.box, HQ.out.box, HE.out.box⟩
 clear hK K
 try simp only [Act.put, sA, sB, sC]
 refine one_ (i := 38) (N := some 73) #[true,true,true,true,true,true,true,true,true,true,true,true,true,true,true,true,true,true,true,true,true,true,true,true,true,true,true,true,true,true,true,true,true,true,true,true,true,true,true,false,false,false] rfl rfl (by kernel_rfl) (by decide) (fun K hK => ?_)
 go_simp
 refine (rsamep p q A c A2 c2 _ HR1.out HR2.out HB2.out).mono ?_; rintro e w12 ⟨rfl, hw12⟩; replace HB := lbB HB hw12; replace HR1 := lbR HR1 hw12; replace HR2 := lbR HR2 hw12; replace HP := lbP HP hw12; replace HQ := lbP HQ hw12; replace HE := lbE HE hw12; clear hw12
 refine hK.out _ _ ?_ (fun hHeld => ?_)
 · exact ⟨HP.out.box, HQ.out.box, HE.out.box⟩
 clear hK K
 try simp only [Act.put, sA, sB, sC]
 refine pure_ (i := 39) (N := some 74) (v := ?_) (a' := ?_) #[true,true,true,true,true,true,true,true,true,true,true,true,true,true,true,true,true,true,true,true,true,true,true,true,true,true,true,true,true,true,true,true,true,true,true,true,true,true,true,true,false,false] rfl rfl (by kernel_rfl) (fun _ _ _ h => h) (Or.inl ⟨by rfl, ?_⟩) ?_ ?_
 rotate_left
 · intro w'
   go_simp
   try with_reducible rfl
 rotate_left
 · simp only [Act.put, sA, sB, sC]
   rfl
 refine pure_ (i := 40) (N := some 75) (v := ?_) (a' := ?_) #[true,true,true,true,true,true,true,true,true,true,true,true,true,true,true,true,true,true,true,true,true,true,true,true,true,true,true,true,true,true,true,true,true,true,true,true,true,true,true,true,true,false] rfl rfl (by kernel_rfl) (fun _ _ _ h => h) (Or.inl ⟨by rfl, ?_⟩) ?_ ?_
 rotate_left
 · intro w'
   go_simp
   try with_reducible rfl
 rotate_left
 · simp only [Act.put, sA, sB, sC]
   rfl
 refine pure_ (i := 41) (N := some 6) (v := ?_) (a' := ?_) #[true,true,true,true,true,true,true,true,true,true,true,true,true,true,true,true,true,true,true,true,true,true,true,true,true,true,true,true,true,true,true,true,true,true,true,true,true,true,true,true,true,true] rfl rfl (by kernel_rfl) (fun _ _ _ h => h) (Or.inl ⟨by rfl, ?_⟩) ?_ ?_
 rotate_left
 · intro w'
   go_simp
   try with_reducible rfl
 rotate_left
 · simp only [Act.put, sA, sB, sC]
   rfl
 refine done_ (by kernel_rfl) ?_
 clear hHeld
 obtain ⟨hp0, hp1, hp2, hp3, hp4, hp5, hp6, hp7, hp8, hp9⟩ := HP.out.box
 obtain ⟨hq0, hq1, hq2, hq3, hq4, hq5, hq6, hq7, hq8, hq9⟩ := HQ.out.box
 obtain ⟨he0, he1, he2⟩ := HE.out.box
 go_wp2_with fail
 go_ret
 exact ⟨rfl, HB.out.b⟩
set_option maxHeartbeats 8000000 in
set_option maxRecDepth 100000 in
theorem tells4_yes (p : Prt) (A : Option Addr) (c : Nat) (q : Prt) (A2 : Option Addr) (c2 : Nat) (x : Ent) (w : World) (hp : Rd w A c p.l) (hq : Rd w A2 c2 q.l) (hf1 : (∀ (A : Option Addr) (c : Nat) (w : World), Rd w A c p.l → Calls Try.prog 11 #[vP p A c] w fun e w' => e = .returned (.bool true) ∧ Below w.heap.size w w')) (hf2 : (∀ (A : Option Addr) (c : Nat) (w : World), Rd w A c q.l → Calls Try.prog 11 #[vP q A c] w fun e w' => e = .returned (.bool true) ∧ Below w.heap.size w w')) (hz : ¬ 60 < x.f2.size) (hpb : isP p = true) :
  Calls Try.prog 3 #[vP p A c, vP q A2 c2, .agg #[.int .i64 x.f0, .int .i64 x.f1, .string x.f2]] w fun e w' => e = .returned (.bool true) ∧ Below w.heap.size w w' := by
 have HF1 := Aside0.mk hf1
 have HF2 := Aside0.mk hf2
 have dz1 : decide ((x.f2.size : Int) > 60) = false := decide_eq_false (by omega)
 have dz2 : decide (60 < (x.f2.size : Int)) = false := dz1
 have dz3 : decide (60 < x.f2.size) = false := decide_eq_false (by omega)
 have HPB := Aside0.mk hpb
 obtain ⟨S, hS⟩ : ∃ S, bytesP p = S := ⟨_, rfl⟩
 have ES := Aside0.mk hS
 have HBR : Aside0 (bytesR p = (S, 0)) := ⟨by unfold bytesR; rw [if_pos hpb, hS]⟩
 clear hS
 obtain ⟨b1, hb1⟩ : ∃ b, isE x = b := ⟨_, rfl⟩
 have HB1 := Aside0.mk hb1
 obtain ⟨b2, hb2⟩ : ∃ b, sameP p q = b := ⟨_, rfl⟩
 have HB2 := Aside0.mk hb2
 clear hb1 hb2 hpb
 have HB := Aside0.mk (Bel.refl w)
 have HR1 := Aside0.mk (hp)
 have HR2 := Aside0.mk (hq)
 clear hp hq hf1 hf2 hz
 unfold vP
 go_enter Try.func3, Try.ntmps3
 obtain ⟨C1, hC1⟩ : ∃ C, (match Try.f3.body with | some (.seq _ c) => c | _ => .skip) = C := ⟨_, rfl⟩
 have HC1 := Aside0.mk hC1
 simp only [Try.f3] at hC1
 rw [hC1]
 clear hC1
 go_wp2_with fail
 obtain ⟨s0, hs0⟩ : ∃ n, w.heap.size = n := ⟨_, rfl⟩
 replace HB := laB HB (.cells #[.int .i64 p.g, .int .i64 p.k, .slice A p.l.length c, .int .i64 p.ht, .int .i64 p.hv, .int .i64 p.hc, .int .i64 p.ix, .int .i64 p.tm, .bool p.mrk, .bool p.hed] 26)
 replace HR1 := laR HR1 (.cells #[.int .i64 p.g, .int .i64 p.k, .slice A p.l.length c, .int .i64 p.ht, .int .i64 p.hv, .int .i64 p.hc, .int .i64 p.ix, .int .i64 p.tm, .bool p.mrk, .bool p.hed] 26)
 replace HR2 := laR HR2 (.cells #[.int .i64 p.g, .int .i64 p.k, .slice A p.l.length c, .int .i64 p.ht, .int .i64 p.hv, .int .i64 p.hc, .int .i64 p.ix, .int .i64 p.tm, .bool p.mrk, .bool p.hed] 26)
 have HP : Aside0 (BlkP p A c s0 (w.alloc (.cells #[.int .i64 p.g, .int .i64 p.k, .slice A p.l.length c, .int .i64 p.ht, .int .i64 p.hv, .int .i64 p.hc, .int .i64 p.ix, .int .i64 p.tm, .bool p.mrk, .bool p.hed] 26))) := ⟨(by have hq := BlkP.new p A c w; simp only [World.size_alloc, hs0] at hq; exact hq)⟩
 replace HB := laB HB (.cells #[.int .i64 q.g, .int .i64 q.k, .slice A2 q.l.length c2, .int .i64 q.ht, .int .i64 q.hv, .int .i64 q.hc, .int .i64 q.ix, .int .i64 q.tm, .bool q.mrk, .bool q.hed] 26)
 replace HR1 := laR HR1 (.cells #[.int .i64 q.g, .int .i64 q.k, .slice A2 q.l.length c2, .int .i64 q.ht, .int .i64 q.hv, .int .i64 q.hc, .int .i64 q.ix, .int .i64 q.tm, .bool q.mrk, .bool q.hed] 26)
 replace HR2 := laR HR2 (.cells #[.int .i64 q.g, .int .i64 q.k, .slice A2 q.l.length c2, .int .i64 q.ht, .int .i64 q.hv, .int .i64 q.hc, .int .i64 q.ix, .int .i64 q.tm, .bool q.mrk, .bool q.hed] 26)
 replace HP := laP HP (.cells #[.int .i64 q.g, .int .i64 q.k, .slice A2 q.l.length c2, .int .i64 q.ht, .int .i64 q.hv, .int .i64 q.hc, .int .i64 q.ix, .int .i64 q.tm, .bool q.mrk, .bool q.hed] 26)
 have HQ : Aside0 (BlkP q A2 c2 (s0 + 1) ((w.alloc (.cells #[.int .i64 p.g, .int .i64 p.k, .slice A p.l.length c, .int .i64 p.ht, .int .i64 p.hv, .int .i64 p.hc, .int .i64 p.ix, .int .i64 p.tm, .bool p.mrk, .bool p.hed] 26)).alloc (.cells #[.int .i64 q.g, .int .i64 q.k, .slice A2 q.l.length c2, .int .i64 q.ht, .int .i64 q.hv, .int .i64 q.hc, .int .i64 q.ix, .int .i64 q.tm, .bool q.mrk, .bool q.hed] 26))) := ⟨(by have hq := BlkP.new q A2 c2 (w.alloc (.cells #[.int .i64 p.g, .int .i64 p.k, .slice A p.l.length c, .int .i64 p.ht, .int .i64 p.hv, .int .i64 p.hc, .int .i64 p.ix, .int .i64 p.tm, .bool p.mrk, .bool p.hed] 26)); simp only [World.size_alloc, hs0] at hq; exact hq)⟩
 replace HB := laB HB (.cells #[.int .i64 x.f0, .int .i64 x.f1, .string x.f2] 28)
 replace HR1 := laR HR1 (.cells #[.int .i64 x.f0, .int .i64 x.f1, .string x.f2] 28)
 replace HR2 := laR HR2 (.cells #[.int .i64 x.f0, .int .i64 x.f1, .string x.f2] 28)
 replace HP := laP HP (.cells #[.int .i64 x.f0, .int .i64 x.f1, .string x.f2] 28)
 replace HQ := laP HQ (.cells #[.int .i64 x.f0, .int .i64 x.f1, .string x.f2] 28)
 have HE : Aside0 (BlkE x (s0 + 1 + 1) (((w.alloc (.cells #[.int .i64 p.g, .int .i64 p.k, .slice A p.l.length c, .int .i64 p.ht, .int .i64 p.hv, .int .i64 p.hc, .int .i64 p.ix, .int .i64 p.tm, .bool p.mrk, .bool p.hed] 26)).alloc (.cells #[.int .i64 q.g, .int .i64 q.k, .slice A2 q.l.length c2, .int .i64 q.ht, .int .i64 q.hv, .int .i64 q.hc, .int .i64 q.ix, .int .i64 q.tm, .bool q.mrk, .bool q.hed] 26)).alloc (.cells #[.int .i64 x.f0, .int .i64 x.f1, .string x.f2] 28))) := ⟨(by have hq := BlkE.new x ((w.alloc (.cells #[.int .i64 p.g, .int .i64 p.k, .slice A p.l.length c, .int .i64 p.ht, .int .i64 p.hv, .int .i64 p.hc, .int .i64 p.ix, .int .i64 p.tm, .bool p.mrk, .bool p.hed] 26)).alloc (.cells #[.int .i64 q.g, .int .i64 q.k, .slice A2 q.l.length c2, .int .i64 q.ht, .int .i64 q.hv, .int .i64 q.hc, .int .i64 q.ix, .int .i64 q.tm, .bool q.mrk, .bool q.hed] 26)); simp only [World.size_alloc, hs0] at hq; exact hq)⟩
 try simp only [World.size_alloc, hs0]
 obtain ⟨W0, hW⟩ : ∃ X, (((w.alloc (.cells #[.int .i64 p.g, .int .i64 p.k, .slice A p.l.length c, .int .i64 p.ht, .int .i64 p.hv, .int .i64 p.hc, .int .i64 p.ix, .int .i64 p.tm, .bool p.mrk, .bool p.hed] 26)).alloc (.cells #[.int .i64 q.g, .int .i64 q.k, .slice A2 q.l.length c2, .int .i64 q.ht, .int .i64 q.hv, .int .i64 q.hc, .int .i64 q.ix, .int .i64 q.tm, .bool q.mrk, .bool q.hed] 26)).alloc (.cells #[.int .i64 x.f0, .int .i64 x.f1, .string x.f2] 28)) = X := ⟨_, rfl⟩
 rw [hW] at HB HR1 HR2 HP HQ HE ⊢
 clear hW hs0
 obtain ⟨hp0, hp1, hp2, hp3, hp4, hp5, hp6, hp7, hp8, hp9⟩ := HP.out.box
 obtain ⟨hq0, hq1, hq2, hq3, hq4, hq5, hq6, hq7, hq8, hq9⟩ := HQ.out.box
 obtain ⟨he0, he1, he2⟩ := HE.out.box
 have hC1 := HC1.out
 simp only [Try.f3] at hC1
 subst hC1
 clear HC1
 obtain ⟨C7, hC7⟩ : ∃ C, (match Try.f3.body with | some (.seq _ (.seq _ (.seq _ (.seq _ (.seq _ (.seq _ c)))))) => c | _ => .skip) = C := ⟨_, rfl⟩
 have HC7 := Aside0.mk hC7
 simp only [Try.f3] at hC7
 rw [hC7]
 clear hC7
 go_wp2_with fail
 go_at_call 10
 refine (known4 _).mono ?_
 rintro e w1 ⟨rfl, hw1⟩
 replace HB := lbB HB hw1
 replace HR1 := lbR HR1 hw1
 replace HR2 := lbR HR2 hw1
 replace HP := lbP HP hw1
 replace HQ := lbP HQ hw1
 replace HE := lbE HE hw1
 clear hw1
 clear hp0 hp1 hp2 hp3 hp4 hp5 hp6 hp7 hp8 hp9 hq0 hq1 hq2 hq3 hq4 hq5 hq6 hq7 hq8 hq9 he0 he1 he2
 obtain ⟨hp0, hp1, hp2, hp3, hp4, hp5, hp6, hp7, hp8, hp9⟩ := HP.out.box
 obtain ⟨hq0, hq1, hq2, hq3, hq4, hq5, hq6, hq7, hq8, hq9⟩ := HQ.out.box
 obtain ⟨he0, he1, he2⟩ := HE.out.box
 go_wp2_with fail
 go_at_call 11
 refine (HF1.out A c _ HR1.out).mono ?_
 rintro e w2 ⟨rfl, hw2⟩
 replace HB := lbB HB hw2
 replace HR1 := lbR HR1 hw2
 replace HR2 := lbR HR2 hw2
 replace HP := lbP HP hw2
 replace HQ := lbP HQ hw2
 replace HE := lbE HE hw2
 clear hw2
 clear hp0 hp1 hp2 hp3 hp4 hp5 hp6 hp7 hp8 hp9 hq0 hq1 hq2 hq3 hq4 hq5 hq6 hq7 hq8 hq9 he0 he1 he2
 obtain ⟨hp0, hp1, hp2, hp3, hp4, hp5, hp6, hp7, hp8, hp9⟩ := HP.out.box
 obtain ⟨hq0, hq1, hq2, hq3, hq4, hq5, hq6, hq7, hq8, hq9⟩ := HQ.out.box
 obtain ⟨he0, he1, he2⟩ := HE.out.box
 go_wp2_with fail
 go_at_call 11
 refine (HF2.out A2 c2 _ HR2.out).mono ?_
 rintro e w3 ⟨rfl, hw3⟩
 replace HB := lbB HB hw3
 replace HR1 := lbR HR1 hw3
 replace HR2 := lbR HR2 hw3
 replace HP := lbP HP hw3
 replace HQ := lbP HQ hw3
 replace HE := lbE HE hw3
 clear hw3
 clear hp0 hp1 hp2 hp3 hp4 hp5 hp6 hp7 hp8 hp9 hq0 hq1 hq2 hq3 hq4 hq5 hq6 hq7 hq8 hq9 he0 he1 he2
 obtain ⟨hp0, hp1, hp2, hp3, hp4, hp5, hp6, hp7, hp8, hp9⟩ := HP.out.box
 obtain ⟨hq0, hq1, hq2, hq3, hq4, hq5, hq6, hq7, hq8, hq9⟩ := HQ.out.box
 obtain ⟨he0, he1, he2⟩ := HE.out.box
 go_wp2_with fail
 go_at_call 12
 refine (part_Bytes p A c _ HR1.out HBR.out).mono ?_
 rintro e w4 ⟨rfl, hw4⟩
 replace HB := lbB HB hw4
 replace HR1 := lbR HR1 hw4
 replace HR2 := lbR HR2 hw4
 replace HP := lbP HP hw4
 replace HQ := lbP HQ hw4
 replace HE := lbE HE hw4
 clear hw4
 clear hp0 hp1 hp2 hp3 hp4 hp5 hp6 hp7 hp8 hp9 hq0 hq1 hq2 hq3 hq4 hq5 hq6 hq7 hq8 hq9 he0 he1 he2
 obtain ⟨hp0, hp1, hp2, hp3, hp4, hp5, hp6, hp7, hp8, hp9⟩ := HP.out.box
 obtain ⟨hq0, hq1, hq2, hq3, hq4, hq5, hq6, hq7, hq8, hq9⟩ := HQ.out.box
 obtain ⟨he0, he1, he2⟩ := HE.out.box
 go_wp2_with fail
 go_at_call 13
 refine (isr4 p A c _ HR1.out HPB.out).mono ?_
 rintro e w5 ⟨rfl, hw5⟩
 replace HB := lbB HB hw5
 replace HR1 := lbR HR1 hw5
 replace HR2 := lbR HR2 hw5
 replace HP := lbP HP hw5
 replace HQ := lbP HQ hw5
 replace HE := lbE HE hw5
 clear hw5
 clear hp0 hp1 hp2 hp3 hp4 hp5 hp6 hp7 hp8 hp9 hq0 hq1 hq2 hq3 hq4 hq5 hq6 hq7 hq8 hq9 he0 he1 he2
 obtain ⟨hp0, hp1, hp2, hp3, hp4, hp5, hp6, hp7, hp8, hp9⟩ := HP.out.box
 obtain ⟨hq0, hq1, hq2, hq3, hq4, hq5, hq6, hq7, hq8, hq9⟩ := HQ.out.box
 obtain ⟨he0, he1, he2⟩ := HE.out.box
 go_wp2_with fail
 go_at_call 14
 refine (rbytec p A c _ HR1.out HPB.out ES.out).mono ?_
 rintro e w6 ⟨rfl, hw6⟩
 replace HB := lbB HB hw6
 replace HR1 := lbR HR1 hw6
 replace HR2 := lbR HR2 hw6
 replace HP := lbP HP hw6
 replace HQ := lbP HQ hw6
 replace HE := lbE HE hw6
 clear hw6
 clear hp0 hp1 hp2 hp3 hp4 hp5 hp6 hp7 hp8 hp9 hq0 hq1 hq2 hq3 hq4 hq5 hq6 hq7 hq8 hq9 he0 he1 he2
 obtain ⟨hp0, hp1, hp2, hp3, hp4, hp5, hp6, hp7, hp8, hp9⟩ := HP.out.box
 obtain ⟨hq0, hq1, hq2, hq3, hq4, hq5, hq6, hq7, hq8, hq9⟩ := HQ.out.box
 obtain ⟨he0, he1, he2⟩ := HE.out.box
 go_wp2_with fail
 have hC7 := HC7.out
 simp only [Try.f3] at hC7
 subst hC7
 clear HC7
 go_wp2_with fail
 clear hp0 hp1 hp2 hp3 hp4 hp5 hp6 hp7 hp8 hp9 hq0 hq1 hq2 hq3 hq4 hq5 hq6 hq7 hq8 hq9 he0 he1 he2
 replace HB := ldB HB
 replace HR1 := ldR HR1
 replace HR2 := ldR HR2
 replace HP := ldP HP
 replace HQ := ldP HQ
 replace HE := ldE HE
 refine start_ (n := 42) (S := (fun w' => BoxP p A c s0 w' ∧ BoxP q A2 c2 (s0 + 1) w' ∧ BoxE x (s0 + 1 + 1) w')) (ds := []) #[false,false,false,false,false,false,false,false,false,false,false,false,false,false,false,false,false,false,false,false,false,false,false,false,false,false,false,false,false,false,false,false,false,false,false,false,false,false,false,false,false,false] (by kernel_rfl) rfl rfl ⟨HP.out.box, HQ.out.box, HE.out.box⟩ (fun hHeld => ?_)
 refine take_ (i := 0) (N := some 35) (v := ?_) (a' := ?_) #[true,false,false,false,false,false,false,false,false,false,false,false,false,false,false,false,false,false,false,false,false,false,false,false,false,false,false,false,false,false,false,false,false,false,false,false,false,false,false,false,false,false] rfl rfl (by kernel_rfl) (fun _ _ _ h => h) (Or.inl ⟨by rfl, ?_⟩) hHeld ?_ ?_
 rotate_left
 · rintro w' ⟨⟨hp0, hp1, hp2, hp3, hp4, hp5, hp6, hp7, hp8, hp9⟩, ⟨hq0, hq1, hq2, hq3, hq4, hq5, hq6, hq7, hq8, hq9⟩, ⟨he0, he1, he2⟩⟩
   go_simp
   try with_reducible rfl
 rotate_left
 · simp only [Act.put, sA, sB, sC]
   rfl
 refine take_ (i := 2) (N := some 37) (v := ?_) (a' := ?_) #[true,false,true,false,false,false,false,false,false,false,false,false,false,false,false,false,false,false,false,false,false,false,false,false,false,false,false,false,false,false,false,false,false,false,false,false,false,false,false,false,false,false] rfl rfl (by kernel_rfl) (fun _ _ _ h => h) (Or.inl ⟨by rfl, ?_⟩) hHeld ?_ ?_
 rotate_left
 · rintro w' ⟨⟨hp0, hp1, hp2, hp3, hp4, hp5, hp6, hp7, hp8, hp9⟩, ⟨hq0, hq1, hq2, hq3, hq4, hq5, hq6, hq7, hq8, hq9⟩, ⟨he0, he1, he2⟩⟩
   go_simp
   try with_reducible rfl
 rotate_left
 · simp only [Act.put, sA, sB, sC]
   rfl
 refine one_ (i := 1) (N := some 36) #[true,true,true,false,false,false,false,false,false,false,false,false,false,false,false,false,false,false,false,false,false,false,false,false,false,false,false,false,false,false,false,false,false,false,false,false,false,false,false,false,false,false] rfl rfl (by kernel_rfl) (by decide) (fun K hK => ?_)
 go_simp
 refine (isp4 p A c _ HR1.out HPB.out).mono ?_; rintro e w7 ⟨rfl, hw7⟩; replace HB := lbB HB hw7; replace HR1 := lbR HR1 hw7; replace HR2 := lbR HR2 hw7; replace HP := lbP HP hw7; replace HQ := lbP HQ hw7; replace HE := lbE HE hw7; clear hw7
 refine hK.out _ _ ?_ (fun hHeld => ?_)
 · exact ⟨HP.out.box, HQ.out.box, HE.out.box⟩
 clear hK K
 try simp only [Act.put, sA, sB, sC]
 refine one_ (i := 3) (N := some 38) #[true,true,true,true,false,false,false,false,false,false,false,false,false,false,false,false,false,false,false,false,false,false,false,false,false,false,false,false,false,false,false,false,false,false,false,false,false,false,false,false,false,false] rfl rfl (by kernel_rfl) (by decide) (fun K hK => ?_)
 go_simp
 refine (isr4 p A c _ HR1.out HPB.out).mono ?_; rintro e w8 ⟨rfl, hw8⟩; replace HB := lbB HB hw8; replace HR1 := lbR HR1 hw8; replace HR2 := lbR HR2 hw8; replace HP := lbP HP hw8; replace HQ := lbP HQ hw8; replace HE := lbE HE hw8; clear hw8
 refine hK.out _ _ ?_ (fun hHeld => ?_)
 · exact ⟨HP.out.box, HQ.out.box, HE.out.box⟩
 clear hK K
 try simp only [Act.put, sA, sB, sC]
 refine pure_ (i := 4) (N := some 39) (v := ?_) (a' := ?_) #[true,true,true,true,true,false,false,false,false,false,false,false,false,false,false,false,false,false,false,false,false,false,false,false,false,false,false,false,false,false,false,false,false,false,false,false,false,false,false,false,false,false] rfl rfl (by kernel_rfl) (fun _ _ _ h => h) (Or.inl ⟨by rfl, ?_⟩) ?_ ?_
 rotate_left
 · intro w'
   go_simp
   try with_reducible rfl
 rotate_left
 · simp only [Act.put, sA, sB, sC]
   rfl
 refine pure_ (i := 5) (N := some 40) (v := ?_) (a' := ?_) #[true,true,true,true,true,true,false,false,false,false,false,false,false,false,false,false,false,false,false,false,false,false,false,false,false,false,false,false,false,false,false,false,false,false,false,false,false,false,false,false,false,false] rfl rfl (by kernel_rfl) (fun _ _ _ h => h) (Or.inl ⟨by rfl, ?_⟩) ?_ ?_
 rotate_left
 · intro w'
   go_simp
   try with_reducible rfl
 rotate_left
 · simp only [Act.put, sA, sB, sC]
   rfl
 refine take_ (i := 6) (N := some 41) (v := ?_) (a' := ?_) #[true,true,true,true,true,true,true,false,false,false,false,false,false,false,false,false,false,false,false,false,false,false,false,false,false,false,false,false,false,false,false,false,false,false,false,false,false,false,false,false,false,false] rfl rfl (by kernel_rfl) (fun _ _ _ h => h) (Or.inl ⟨by rfl, ?_⟩) hHeld ?_ ?_
 rotate_left
 · rintro w' ⟨⟨hp0, hp1, hp2, hp3, hp4, hp5, hp6, hp7, hp8, hp9⟩, ⟨hq0, hq1, hq2, hq3, hq4, hq5, hq6, hq7, hq8, hq9⟩, ⟨he0, he1, he2⟩⟩
   go_simp
   try with_reducible rfl
 rotate_left
 · simp only [Act.put, sA, sB, sC]
   rfl
 refine take_ (i := 8) (N := some 43) (v := ?_) (a' := ?_) #[true,true,true,true,true,true,true,false,true,false,false,false,false,false,false,false,false,false,false,false,false,false,false,false,false,false,false,false,false,false,false,false,false,false,false,false,false,false,false,false,false,false] rfl rfl (by kernel_rfl) (fun _ _ _ h => h) (Or.inl ⟨by rfl, ?_⟩) hHeld ?_ ?_
 rotate_left
 · rintro w' ⟨⟨hp0, hp1, hp2, hp3, hp4, hp5, hp6, hp7, hp8, hp9⟩, ⟨hq0, hq1, hq2, hq3, hq4, hq5, hq6, hq7, hq8, hq9⟩, ⟨he0, he1, he2⟩⟩
   go_simp
   try with_reducible rfl
 rotate_left
 · simp only [Act.put, sA, sB, sC]
   rfl
 refine one_ (i := 7) (N := some 42) #[true,true,true,true,true,true,true,true,true,false,false,false,false,false,false,false,false,false,false,false,false,false,false,false,false,false,false,false,false,false,false,false,false,false,false,false,false,false,false,false,false,false] rfl rfl (by kernel_rfl) (by decide) (fun K hK => ?_)
 go_simp
 refine (isE_calls x _ HB1.out).mono ?_; rintro e w9 ⟨rfl, hw9⟩; replace HB := lbB HB hw9; replace HR1 := lbR HR1 hw9; replace HR2 := lbR HR2 hw9; replace HP := lbP HP hw9; replace HQ := lbP HQ hw9; replace HE := lbE HE hw9; clear hw9
 refine hK.out _ _ ?_ (fun hHeld => ?_)
 · exact ⟨HP.out.box, HQ.out.box, HE.out.box⟩
 clear hK K
 try simp only [Act.put, sA, sB, sC]
 refine one_ (i := 9) (N := some 44) #[true,true,true,true,true,true,true,true,true,true,false,false,false,false,false,false,false,false,false,false,false,false,false,false,false,false,false,false,false,false,false,false,false,false,false,false,false,false,false,false,false,false] rfl rfl (by kernel_rfl) (by decide) (fun K hK => ?_)
 go_simp
 refine (isE4_calls x _ HB1.out).mono ?_; rintro e w10 ⟨rfl, hw10⟩; replace HB := lbB HB hw10; replace HR1 := lbR HR1 hw10; replace HR2 := lbR HR2 hw10; replace HP := lbP HP hw10; replace HQ := lbP HQ hw10; replace HE := lbE HE hw10; clear hw10
 refine hK.out _ _ ?_ (fun hHeld => ?_)
 · exact ⟨HP.out.box, HQ.out.box, HE.out.box⟩
 clear hK K
 try simp only [Act.put, sA, sB, sC]
 refine pure_ (i := 10) (N := some 45) (v := ?_) (a' := ?_) #[true,true,true,true,true,true,true,true,true,true,true,false,false,false,false,false,false,false,false,false,false,false,false,false,false,false,false,false,false,false,false,false,false,false,false,false,false,false,false,false,false,false] rfl rfl (by kernel_rfl) (fun _ _ _ h => h) (Or.inl ⟨by rfl, ?_⟩) ?_ ?_
 rotate_left
 · intro w'
   go_simp
   try with_reducible rfl
 rotate_left
 · simp only [Act.put, sA, sB, sC]
   rfl
 refine pure_ (i := 11) (N := some 46) (v := ?_) (a' := ?_) #[true,true,true,true,true,true,true,true,true,true,true,true,false,false,false,false,false,false,false,false,false,false,false,false,false,false,false,false,false,false,false,false,false,false,false,false,false,false,false,false,false,false] rfl rfl (by kernel_rfl) (fun _ _ _ h => h) (Or.inl ⟨by rfl, ?_⟩) ?_ ?_
 rotate_left
 · intro w'
   go_simp
   try with_reducible rfl
 rotate_left
 · simp only [Act.put, sA, sB, sC]
   rfl
 refine pure_ (i := 12) (N := some 47) (v := ?_) (a' := ?_) #[true,true,true,true,true,true,true,true,true,true,true,true,true,false,false,false,false,false,false,false,false,false,false,false,false,false,false,false,false,false,false,false,false,false,false,false,false,false,false,false,false,false] rfl rfl (by kernel_rfl) (fun _ _ _ h => h) (Or.inl ⟨by rfl, ?_⟩) ?_ ?_
 rotate_left
 · intro w'
   go_simp
   try with_reducible rfl
 rotate_left
 · simp only [Act.put, sA, sB, sC]
   rfl
 refine pure_ (i := 13) (N := some 48) (v := ?_) (a' := ?_) #[true,true,true,true,true,true,true,true,true,true,true,true,true,true,false,false,false,false,false,false,false,false,false,false,false,false,false,false,false,false,false,false,false,false,false,false,false,false,false,false,false,false] rfl rfl (by kernel_rfl) (fun _ _ _ h => h) (Or.inl ⟨by rfl, ?_⟩) ?_ ?_
 rotate_left
 · intro w'
   go_simp
   try with_reducible rfl
 rotate_left
 · simp only [Act.put, sA, sB, sC]
   rfl
 refine pure_ (i := 14) (N := some 49) (v := ?_) (a' := ?_) #[true,true,true,true,true,true,true,true,true,true,true,true,true,true,true,false,false,false,false,false,false,false,false,false,false,false,false,false,false,false,false,false,false,false,false,false,false,false,false,false,false,false] rfl rfl (by kernel_rfl) (fun _ _ _ h => h) (Or.inl ⟨by rfl, ?_⟩) ?_ ?_
 rotate_left
 · intro w'
   go_simp
   try with_reducible rfl
 rotate_left
 · simp only [Act.put, sA, sB, sC]
   rfl
 refine pure_ (i := 15) (N := some 50) (v := ?_) (a' := ?_) #[true,true,true,true,true,true,true,true,true,true,true,true,true,true,true,true,false,false,false,false,false,false,false,false,false,false,false,false,false,false,false,false,false,false,false,false,false,false,false,false,false,false] rfl rfl (by kernel_rfl) (fun _ _ _ h => h) (Or.inl ⟨by rfl, ?_⟩) ?_ ?_
 rotate_left
 · intro w'
   go_simp
   try with_reducible rfl
 rotate_left
 · simp only [Act.put, sA, sB, sC]
   rfl
 refine pure_ (i := 16) (N := some 51) (v := ?_) (a' := ?_) #[true,true,true,true,true,true,true,true,true,true,true,true,true,true,true,true,true,false,false,false,false,false,false,false,false,false,false,false,false,false,false,false,false,false,false,false,false,false,false,false,false,false] rfl rfl (by kernel_rfl) (fun _ _ _ h => h) (Or.inl ⟨by rfl, ?_⟩) ?_ ?_
 rotate_left
 · intro w'
   go_simp
   try with_reducible rfl
 rotate_left
 · simp only [Act.put, sA, sB, sC]
   rfl
 refine pure_ (i := 17) (N := some 52) (v := ?_) (a' := ?_) #[true,true,true,true,true,true,true,true,true,true,true,true,true,true,true,true,true,true,false,false,false,false,false,false,false,false,false,false,false,false,false,false,false,false,false,false,false,false,false,false,false,false] rfl rfl (by kernel_rfl) (fun _ _ _ h => h) (Or.inl ⟨by rfl, ?_⟩) ?_ ?_
 rotate_left
 · intro w'
   go_simp
   try with_reducible rfl
 rotate_left
 · simp only [Act.put, sA, sB, sC]
   rfl
 refine pure_ (i := 18) (N := some 53) (v := ?_) (a' := ?_) #[true,true,true,true,true,true,true,true,true,true,true,true,true,true,true,true,true,true,true,false,false,false,false,false,false,false,false,false,false,false,false,false,false,false,false,false,false,false,false,false,false,false] rfl rfl (by kernel_rfl) (fun _ _ _ h => h) (Or.inl ⟨by rfl, ?_⟩) ?_ ?_
 rotate_left
 · intro w'
   go_simp
   try with_reducible rfl
 rotate_left
 · simp only [Act.put, sA, sB, sC]
   rfl
 refine take_ (i := 20) (N := some 55) (v := ?_) (a' := ?_) #[true,true,true,true,true,true,true,true,true,true,true,true,true,true,true,true,true,true,true,false,true,false,false,false,false,false,false,false,false,false,false,false,false,false,false,false,false,false,false,false,false,false] rfl rfl (by kernel_rfl) (fun _ _ _ h => h) (Or.inl ⟨by rfl, ?_⟩) hHeld ?_ ?_
 rotate_left
 · rintro w' ⟨⟨hp0, hp1, hp2, hp3, hp4, hp5, hp6, hp7, hp8, hp9⟩, ⟨hq0, hq1, hq2, hq3, hq4, hq5, hq6, hq7, hq8, hq9⟩, ⟨he0, he1, he2⟩⟩
   go_simp
   try with_reducible rfl
 rotate_left
 · simp only [Act.put, sA, sB, sC]
   rfl
 refine pure_ (i := 19) (N := some 54) (v := ?_) (a' := ?_) #[true,true,true,true,true,true,true,true,true,true,true,true,true,true,true,true,true,true,true,true,true,false,false,false,false,false,false,false,false,false,false,false,false,false,false,false,false,false,false,false,false,false] rfl rfl (by kernel_rfl) (fun _ _ _ h => h) (Or.inl ⟨by rfl, ?_⟩) ?_ ?_
 rotate_left
 · intro w'
   go_simp
   try with_reducible rfl
 rotate_left
 · simp only [Act.put, sA, sB, sC]
   rfl
 refine one_ (i := 21) (N := some 56) #[true,true,true,true,true,true,true,true,true,true,true,true,true,true,true,true,true,true,true,true,true,true,false,false,false,false,false,false,false,false,false,false,false,false,false,false,false,false,false,false,false,false] rfl rfl (by kernel_rfl) (by decide) (fun K hK => ?_)
 go_simp
 refine (isr4 p A c _ HR1.out HPB.out).mono ?_; rintro e w11 ⟨rfl, hw11⟩; replace HB := lbB HB hw11; replace HR1 := lbR HR1 hw11; replace HR2 := lbR HR2 hw11; replace HP := lbP HP hw11; replace HQ := lbP HQ hw11; replace HE := lbE HE hw11; clear hw11
 refine hK.out _ _ ?_ (fun hHeld => ?_)
 · exact ⟨HP.out.box, HQ.out.box, HE.out.box⟩
 clear hK K
 try simp only [Act.put, sA, sB, sC]
 refine pure_ (i := 22) (N := some 57) (v := ?_) (a' := ?_) #[true,true,true,true,true,true,true,true,true,true,true,true,true,true,true,true,true,true,true,true,true,true,true,false,false,false,false,false,false,false,false,false,false,false,false,false,false,false,false,false,false,false] rfl rfl (by kernel_rfl) (fun _ _ _ h => h) (Or.inl ⟨by rfl, ?_⟩) ?_ ?_
 rotate_left
 · intro w'
   go_simp
   try with_reducible rfl
 rotate_left
 · simp only [Act.put, sA, sB, sC]
   rfl
 refine pure_ (i := 23) (N := some 58) (v := ?_) (a' := ?_) #[true,true,true,true,true,true,true,true,true,true,true,true,true,true,true,true,true,true,true,true,true,true,true,true,false,false,false,false,false,false,false,false,false,false,false,false,false,false,false,false,false,false] rfl rfl (by kernel_rfl) (fun _ _ _ h => h) (Or.inl ⟨by rfl, ?_⟩) ?_ ?_
 rotate_left
 · intro w'
   go_simp
   try with_reducible rfl
 rotate_left
 · simp only [Act.put, sA, sB, sC]
   rfl
 refine pure_ (i := 24) (N := some 59) (v := ?_) (a' := ?_) #[true,true,true,true,true,true,true,true,true,true,true,true,true,true,true,true,true,true,true,true,true,true,true,true,true,false,false,false,false,false,false,false,false,false,false,false,false,false,false,false,false,false] rfl rfl (by kernel_rfl) (fun _ _ _ h => h) (Or.inl ⟨by rfl, ?_⟩) ?_ ?_
 rotate_left
 · intro w'
   go_simp
   try with_reducible rfl
 rotate_left
 · simp only [Act.put, sA, sB, sC]
   rfl
 refine pure_ (i := 25) (N := some 60) (v := ?_) (a' := ?_) #[true,true,true,true,true,true,true,true,true,true,true,true,true,true,true,true,true,true,true,true,true,true,true,true,true,true,false,false,false,false,false,false,false,false,false,false,false,false,false,false,false,false] rfl rfl (by kernel_rfl) (fun _ _ _ h => h) (Or.inl ⟨by rfl, ?_⟩) ?_ ?_
 rotate_left
 · intro w'
   go_simp
   try with_reducible rfl
 rotate_left
 · simp only [Act.put, sA, sB, sC]
   rfl
 refine pure_ (i := 26) (N := some 61) (v := ?_) (a' := ?_) #[true,true,true,true,true,true,true,true,true,true,true,true,true,true,true,true,true,true,true,true,true,true,true,true,true,true,true,false,false,false,false,false,false,false,false,false,false,false,false,false,false,false] rfl rfl (by kernel_rfl) (fun _ _ _ h => h) (Or.inl ⟨by rfl, ?_⟩) ?_ ?_
 rotate_left
 · intro w'
   go_simp
   try with_reducible rfl
 rotate_left
 · simp only [Act.put, sA, sB, sC]
   rfl
 refine pure_ (i := 27) (N := some 62) (v := ?_) (a' := ?_) #[true,true,true,true,true,true,true,true,true,true,true,true,true,true,true,true,true,true,true,true,true,true,true,true,true,true,true,true,false,false,false,false,false,false,false,false,false,false,false,false,false,false] rfl rfl (by kernel_rfl) (fun _ _ _ h => h) (Or.inl ⟨by rfl, ?_⟩) ?_ ?_
 rotate_left
 · intro w'
   go_simp
   try with_reducible rfl
 rotate_left
 · simp only [Act.put, sA, sB, sC]
   rfl
 refine pure_ (i := 28) (N := some 63) (v := undef) (a' := ?_) #[true,true,true,true,true,true,true,true,true,true,true,true,true,true,true,true,true,true,true,true,true,true,true,true,true,true,true,true,true,false,false,false,false,false,false,false,false,false,false,false,false,false] rfl rfl (by kernel_rfl) (fun _ _ _ h => h) (Or.inr ⟨by rfl, rfl⟩) ?_ ?_
 rotate_left
 · simp only [Act.put, sA, sB, sC]
   rfl
 refine pure_ (i := 29) (N := some 64) (v := undef) (a' := ?_) #[true,true,true,true,true,true,true,true,true,true,true,true,true,true,true,true,true,true,true,true,true,true,true,true,true,true,true,true,true,true,false,false,false,false,false,false,false,false,false,false,false,false] rfl rfl (by kernel_rfl) (fun _ _ _ h => h) (Or.inr ⟨by rfl, rfl⟩) ?_ ?_
 rotate_left
 · simp only [Act.put, sA, sB, sC]
   rfl
 refine pure_ (i := 30) (N := some 65) (v := ?_) (a' := ?_) #[true,true,true,true,true,true,true,true,true,true,true,true,true,true,true,true,true,true,true,true,true,true,true,true,true,true,true,true,true,true,true,false,false,false,false,false,false,false,false,false,false,false] rfl rfl (by kernel_rfl) (fun _ _ _ h => h) (Or.inl ⟨by rfl, ?_⟩) ?_ ?_
 rotate_left
 · intro w'
   go_simp
   try with_reducible rfl
 rotate_left
 · simp only [Act.put, sA, sB, sC]
   rfl
 refine pure_ (i := 31) (N := some 66) (v := ?_) (a' := ?_) #[true,true,true,true,true,true,true,true,true,true,true,true,true,true,true,true,true,true,true,true,true,true,true,true,true,true,true,true,true,true,true,true,false,false,false,false,false,false,false,false,false,false] rfl rfl (by kernel_rfl) (fun _ _ _ h => h) (Or.inl ⟨by rfl, ?_⟩) ?_ ?_
 rotate_left
 · intro w'
   go_simp
   try with_reducible rfl
 rotate_left
 · simp only [Act.put, sA, sB, sC]
   rfl
 refine pure_ (i := 32) (N := some 67) (v := ?_) (a' := ?_) #[true,true,true,true,true,true,true,true,true,true,true,true,true,true,true,true,true,true,true,true,true,true,true,true,true,true,true,true,true,true,true,true,true,false,false,false,false,false,false,false,false,false] rfl rfl (by kernel_rfl) (fun _ _ _ h => h) (Or.inl ⟨by rfl, ?_⟩) ?_ ?_
 rotate_left
 · intro w'
   go_simp
   try with_reducible rfl
 rotate_left
 · simp only [Act.put, sA, sB, sC]
   rfl
 refine take_ (i := 33) (N := some 68) (v := ?_) (a' := ?_) #[true,true,true,true,true,true,true,true,true,true,true,true,true,true,true,true,true,true,true,true,true,true,true,true,true,true,true,true,true,true,true,true,true,true,false,false,false,false,false,false,false,false] rfl rfl (by kernel_rfl) (fun _ _ _ h => h) (Or.inl ⟨by rfl, ?_⟩) hHeld ?_ ?_
 rotate_left
 · rintro w' ⟨⟨hp0, hp1, hp2, hp3, hp4, hp5, hp6, hp7, hp8, hp9⟩, ⟨hq0, hq1, hq2, hq3, hq4, hq5, hq6, hq7, hq8, hq9⟩, ⟨he0, he1, he2⟩⟩
   go_simp
   try with_reducible rfl
 rotate_left
 · simp only [Act.put, sA, sB, sC]
   rfl
 refine take_ (i := 34) (N := some 69) (v := ?_) (a' := ?_) #[true,true,true,true,true,true,true,true,true,true,true,true,true,true,true,true,true,true,true,true,true,true,true,true,true,true,true,true,true,true,true,true,true,true,true,false,false,false,false,false,false,false] rfl rfl (by kernel_rfl) (fun _ _ _ h => h) (Or.inl ⟨by rfl, ?_⟩) hHeld ?_ ?_
 rotate_left
 · rintro w' ⟨⟨hp0, hp1, hp2, hp3, hp4, hp5, hp6, hp7, hp8, hp9⟩, ⟨hq0, hq1, hq2, hq3, hq4, hq5, hq6, hq7, hq8, hq9⟩, ⟨he0, he1, he2⟩⟩
   go_simp
   try with_reducible rfl
 rotate_left
 · simp only [Act.put, sA, sB, sC]
   rfl
 refine take_ (i := 36) (N := some 71) (v := ?_) (a' := ?_) #[true,true,true,true,true,true,true,true,true,true,true,true,true,true,true,true,true,true,true,true,true,true,true,true,true,true,true,true,true,true,true,true,true,true,true,false,true,false,false,false,false,false] rfl rfl (by kernel_rfl) (fun _ _ _ h => h) (Or.inl ⟨by rfl, ?_⟩) hHeld ?_ ?_
 rotate_left
 · rintro w' ⟨⟨hp0, hp1, hp2, hp3, hp4, hp5, hp6, hp7, hp8, hp9⟩, ⟨hq0, hq1, hq2, hq3, hq4, hq5, hq6, hq7, hq8, hq9⟩, ⟨he0, he1, he2⟩⟩
   go_simp
   try with_reducible rfl
 rotate_left
 · simp only [Act.put, sA, sB, sC]
   rfl
 refine take_ (i := 37) (N := some 72) (v := ?_) (a' := ?_) #[true,true,true,true,true,true,true,true,true,true,true,true,true,true,true,true,true,true,true,true,true,true,true,true,true,true,true,true,true,true,true,true,true,true,true,false,true,true,false,false,false,false] rfl rfl (by kernel_rfl) (fun _ _ _ h => h) (Or.inl ⟨by rfl, ?_⟩) hHeld ?_ ?_
 rotate_left
 · rintro w' ⟨⟨hp0, hp1, hp2, hp3, hp4, hp5, hp6, hp7, hp8, hp9⟩, ⟨hq0, hq1, hq2, hq3, hq4, hq5, hq6, hq7, hq8, hq9⟩, ⟨he0, he1, he2⟩⟩
   go_simp
   try with_reducible rfl
 rotate_left
 · simp only [Act.put, sA, sB, sC]
   rfl
 refine one_ (i := 35) (N := some 70) #[true,true,true,true,true,true,true,true,true,true,true,true,true,true,true,true,true,true,true,true,true,true,true,true,true,true,true,true,true,true,true,true,true,true,true,true,true,true,false,false,false,false] rfl rfl (by kernel_rfl) (by decide) (fun K hK => ?_)
 go_simp
 refine (samep p q A c A2 c2 _ HR1.out HR2.out HB2.out).mono ?_; rintro e w12 ⟨rfl, hw12⟩; replace HB := lbB HB hw12; replace HR1 := lbR HR1 hw12; replace HR2 := lbR HR2 hw12; replace HP := lbP HP hw12; replace HQ := lbP HQ hw12; replace HE := lbE HE hw12; clear hw12
 refine hK.out _ _ ?_ (fun hHeld => ?_)
 · exact ⟨HP.out.box, HQ.out.box, HE.out.box⟩
 clear hK K
 try simp only [Act.put, sA, sB, sC]
 refine one_ (i := 38) (N := some 73) #[true,true,true,true,true,true,true,true,true,true,true,true,true,true,true,true,true,true,true,true,true,true,true,true,true,true,true,true,true,true,true,true,true,true,true,true,true,true,true,false,false,false] rfl rfl (by kernel_rfl) (by decide) (fun K hK => ?_)
 go_simp
 refine (rsamep p q A c A2 c2 _ HR1.out HR2.out HB2.out).mono ?_; rintro e w13 ⟨rfl, hw13⟩; replace HB := lbB HB hw13; replace HR1 := lbR HR1 hw13; replace HR2 := lbR HR2 hw13; replace HP := lbP HP hw13; replace HQ := lbP HQ hw13; replace HE := lbE HE hw13; clear hw13
 refine hK.out _ _ ?_ (fun hHeld => ?_)
 · exact ⟨HP.out.box, HQ.out.box, HE.out.box⟩
 clear hK K
 try simp only [Act.put, sA, sB, sC]
 refine pure_ (i := 39) (N := some 74) (v := ?_) (a' := ?_) #[true,true,true,true,true,true,true,true,true,true,true,true,true,true,true,true,true,true,true,true,true,true,true,true,true,true,true,true,true,true,true,true,true,true,true,true,true,true,true,true,false,false] rfl rfl (by kernel_rfl) (fun _ _ _ h => h) (Or.inl ⟨by rfl, ?_⟩) ?_ ?_
 rotate_left
 · intro w'
   go_simp
   try with_reducible rfl
 rotate_left
 · simp only [Act.put, sA, sB, sC]
   rfl
 refine pure_ (i := 40) (N := some 75) (v := ?_) (a' := ?_) #[true,true,true,true,true,true,true,true,true,true,true,true,true,true,true,true,true,true,true,true,true,true,true,true,true,true,true,true,true,true,true,true,true,true,true,true,true,true,true,true,true,false] rfl rfl (by kernel_rfl) (fun _ _ _ h => h) (Or.inl ⟨by rfl, ?_⟩) ?_ ?_
 rotate_left
 · intro w'
   go_simp
   try with_reducible rfl
 rotate_left
 · simp only [Act.put, sA, sB, sC]
   rfl
 refine pure_ (i := 41) (N := some 6) (v := ?_) (a' := ?_) #[true,true,true,true,true,true,true,true,true,true,true,true,true,true,true,true,true,true,true,true,true,true,true,true,true,true,true,true,true,true,true,true,true,true,true,true,true,true,true,true,true,true] rfl rfl (by kernel_rfl) (fun _ _ _ h => h) (Or.inl ⟨by rfl, ?_⟩) ?_ ?_
 rotate_left
 · intro w'
   go_simp
   try with_reducible rfl
 rotate_left
 · simp only [Act.put, sA, sB, sC]
   rfl
 refine done_ (by kernel_rfl) ?_
 clear hHeld
 obtain ⟨hp0, hp1, hp2, hp3, hp4, hp5, hp6, hp7, hp8, hp9⟩ := HP.out.box
 obtain ⟨hq0, hq1, hq2, hq3, hq4, hq5, hq6, hq7, hq8, hq9⟩ := HQ.out.box
 obtain ⟨he0, he1, he2⟩ := HE.out.box
 go_wp2_with fail
 go_ret
 exact ⟨rfl, HB.out.b⟩
theorem tells4_walk (p : Prt) (A : Option Addr) (c : Nat) (q : Prt) (A2 : Option Addr) (c2 : Nat) (x : Ent) (w : World) (hp : Rd w A c p.l) (hq : Rd w A2 c2 q.l) : Calls Try.prog 3 #[vP p A c, vP q A2 c2, .agg #[.int .i64 x.f0, .int .i64 x.f1, .string x.f2]] w fun e w' => e = .returned (.bool true) ∧ Below w.heap.size w w' := by
  obtain ⟨r1, _, f1⟩ := few_part p hp.bd
  obtain ⟨r2, _, f2⟩ := few_part q hq.bd
  cases r1
  · exact tells4_few1 p A c q A2 c2 x w hp hq f1
  · cases r2
    · exact tells4_few2 p A c q A2 c2 x w hp hq f1 f2
    · by_cases hz : 60 < x.f2.size
      · exact tells4_far p A c q A2 c2 x w hp hq f1 f2 hz
      · cases hpb : isP p
        · exact tells4_no p A c q A2 c2 x w hp hq f1 f2 hz hpb
        · exact tells4_yes p A c q A2 c2 x w hp hq f1 f2 hz hpb
end Go.Proofs.Ytokjhocjemjfiaa.PartW
namespace Go.Proofs.Ytokjhocjemjfiaa.Pure
open Go Go.RowKit Go.Proofs.Ytokjhocjemjfiaa.Sp Go.Proofs.Ytokjhocjemjfiaa.PartW
theorem PartTells.walk (p : Prt) (A : Option Addr) (c : Nat) (q : Prt) (A2 : Option Addr) (c2 : Nat) (x : Ent) (w : World) (hp : Rd w A c p.l) (hq : Rd w A2 c2 q.l) :
    Calls Try.prog 3 #[vP p A c, vP q A2 c2, .agg #[.int .i64 x.f0, .int .i64 x.f1, .string x.f2]] w fun e w' => e = .returned (.bool true) ∧ Below w.heap.size w w' := tells4_walk p A c q A2 c2 x w hp hq
end Go.Proofs.Ytokjhocjemjfiaa.Pure
