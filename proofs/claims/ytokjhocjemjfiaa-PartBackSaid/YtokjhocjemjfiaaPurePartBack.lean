/- The statement PartBack: the walk; no condition beyond the row's. -/
import Derived.Test.YtokjhocjemjfiaaLw4
set_option linter.unusedVariables false
set_option linter.unusedSimpArgs false
namespace Go.Proofs.Ytokjhocjemjfiaa.PartW
open Go Go.RowKit Go.Shelf Go.Proofs.Ytokjhocjemjfiaa.A Go.Proofs.Ytokjhocjemjfiaa.Sp Go.Proofs.Ytokjhocjemjfiaa.Reg Go.Proofs.Ytokjhocjemjfiaa.Seq Go.Proofs.Ytokjhocjemjfiaa.CodeW Go.Proofs.Ytokjhocjemjfiaa.CodeQ Go.Proofs.Ytokjhocjemjfiaa.Given Go.Proofs.YtokjhocjemjfiaaW.PrintWords Go.Proofs.YtokjhocjemjfiaaW.PrintLast Go.Proofs.YtokjhocjemjfiaaW.PrintMore
theorem bytesP_sz {p : Prt} (h : isP p = true) : 2 ≤ (bytesP p).size ∧ (bytesP p).size ≤ 1000 := by
  have hi := isP_all h
  have hL := congrArg List.length (bytes_L hi)
  rw [CodeM.ba_len, List.length_append, List.length_append] at hL
  have a1 := CodeM.putB_pos p.g.toNat
  have a2 := CodeM.putB_pos p.k.toNat
  refine ⟨by omega, ?_⟩
  obtain ⟨hg, hk, hr, hl, he, hp⟩ := isP_rng h
  have zg := putS_le (n := p.g) (by omega)
  have zk := putS_le (n := p.k) (by omega)
  have r3 := putS_le (hr 3)
  have r4 := putS_le (hr 4)
  have r5 := putS_le (hr 5)
  have r6 := putS_le (hr 6)
  have r7 := putS_le (hr 7)
  simp only [getA] at r3 r4 r5 r6 r7
  have zl := putS_leN (n := p.l.length) (by omega)
  have zf := putS_leN (n := flagN p) (by unfold flagN; cases p.mrk <;> cases p.hed <;> decide)
  have hent : ∀ (six : Bool) (l : List Ent) (s : ByteArray), (∀ e ∈ l, isE e = true) → (entsB six l s).size ≤ s.size + 67 * l.length := by
    intro six l
    induction l with
    | nil => intro s _; exact Nat.le_refl _
    | cons e l ih =>
      intro s h
      have he := isE_rng' (h e (by simp))
      have a0 := putS_le he.1
      have a1 := putS_le he.2.1
      have a2 := putS_leN (n := e.f2.size) (by omega)
      have := ih (entB six e s) (fun x hx => h x (by simp [hx]))
      show (entsB six l (entB six e s)).size ≤ _
      have hb : (entB six e s).size ≤ s.size + 67 := by unfold entB; cases six <;> simp only [Bool.false_eq_true, if_false, if_true, CodeM.app_size] <;> omega
      simp only [List.length_cons]
      omega
  have h1 := hent (p.k == 6) p.l (lenB p (midB p (flagB p (headB p)))) (ent_mem hi)
  have zh : (headB p).size ≤ 18 := by unfold headB; rw [CodeM.app_size]; omega
  have zfl : (flagB p (headB p)).size ≤ 27 := by unfold flagB; split <;> (try simp only [CodeM.app_size]) <;> omega
  have zm : (midB p (flagB p (headB p))).size ≤ 72 := by
    unfold midB
    cases atK p.k p.mrk <;> cases hdK p.k p.hed <;> simp [numA, numsB, getA, CodeM.app_size] <;> omega
  have zle : (lenB p (midB p (flagB p (headB p)))).size ≤ 90 := by
    unfold lenB
    split
    · next h1 =>
      have := putS_le (isE_rng' (he 0 (hp h1))).1
      simp only [CodeM.app_size]; omega
    · split <;> (try simp only [CodeM.app_size]) <;> omega
  unfold bytesP
  omega
theorem bytes_inj {p q : Prt} (hp : isP p = true) (hq : isP q = true) (h : bytesP p = bytesP q) : p = q := by
  have h1 := read_back hp ⟨#[]⟩
  have h2 := read_back hq ⟨#[]⟩
  rw [h, h2] at h1
  injection h1 with h3 _
  exact h3.symm
theorem tmodN {a : Int} {n : Nat} (h : 0 ≤ a) : a.tmod (n : Int) = ((a.toNat % n : Nat) : Int) := by
  obtain ⟨k, rfl⟩ := Int.eq_ofNat_of_zero_le h
  rw [Int.toNat_natCast]; rfl
set_option maxHeartbeats 8000000 in
set_option maxRecDepth 100000 in
theorem back4_few1 (p : Prt) (A : Option Addr) (c : Nat) (q : Prt) (A2 : Option Addr) (c2 : Nat) (s : ByteArray) (ct : Int) (w : World) (hp : Rd w A c p.l) (hq : Rd w A2 c2 q.l) (hs : s.size ≤ 140737488351232) (hc8 : 0 ≤ ct ∧ ct ≤ 255) (hf1 : (∀ (A : Option Addr) (c : Nat) (w : World), Rd w A c p.l → Calls Try.prog 11 #[vP p A c] w fun e w' => e = .returned (.bool false) ∧ Below w.heap.size w w')) :
  Calls Try.prog 5 #[vP p A c, vP q A2 c2, .string s, .int .u8 ct] w fun e w' => e = .returned (.bool true) ∧ Below w.heap.size w w' := by
 have HF1 := Aside0.mk hf1
 have HS := Aside0.mk hs
 have HC8 := Aside0.mk hc8
 have HB := Aside0.mk (Bel.refl w)
 have HR1 := Aside0.mk (hp)
 have HR2 := Aside0.mk (hq)
 clear hp hq hf1 hs hc8 
 unfold vP
 go_enter Try.func5, Try.ntmps5
 obtain ⟨C1, hC1⟩ : ∃ C, (match Try.f5.body with | some (.seq _ c) => c | _ => .skip) = C := ⟨_, rfl⟩
 have HC1 := Aside0.mk hC1
 simp only [Try.f5] at hC1
 rw [hC1]
 clear hC1
 go_wp2_with fail
 obtain ⟨s0, hs0⟩ : ∃ n, w.heap.size = n := ⟨_, rfl⟩
 replace HB := laB HB (.cells #[.int .i64 p.g, .int .i64 p.k, .slice A p.l.length c, .int .i64 p.ht, .int .i64 p.hv, .int .i64 p.hc, .int .i64 p.ix, .int .i64 p.tm, .bool p.mrk, .bool p.hed] 26)
 replace HR1 := laR HR1 (.cells #[.int .i64 p.g, .int .i64 p.k, .slice A p.l.length c, .int .i64 p.ht, .int .i64 p.hv, .int .i64 p.hc, .int .i64 p.ix, .int .i64 p.tm, .bool p.mrk, .bool p.hed] 26)
 replace HR2 := laR HR2 (.cells #[.int .i64 p.g, .int .i64 p.k, .slice A p.l.length c, .int .i64 p.ht, .int .i64 p.hv, .int .i64 p.hc, .int .i64 p.ix, .int .i64 p.tm, .bool p.mrk, .bool p.hed] 26)
 have HP : Aside0 (BlkP p A c s0 (w.alloc (.cells #[.int .i64 p.g, .int .i64 p.k, .slice A p.l.length c, .int .i64 p.ht, .int .i64 p.hv, .int .i64 p.hc, .int .i64 p.ix, .int .i64 p.tm, .bool p.mrk, .bool p.hed] 26))) := ⟨(by have hq := BlkP.new p A c w; simp only [World.size_alloc, hs0] at hq; exact hq)⟩
 replace HB := laB HB (.cells #[.int .i64 q.g, .int .i64 q.k, .slice A2 q.l.length c2, .int .i64 q.ht, .int .i64 q.hv, .int .i64 q.hc, .int .i64 q.ix, .int .i64 q.tm, .bool q.mrk, .bool q.hed] 26)
 replace HR1 := laR HR1 (.cells #[.int .i64 q.g, .int .i64 q.k, .slice A2 q.l.length c2, .int .i64 q.ht, .int .i64 q.hv, .int .i64 q.hc, .int .i64 q.ix, .int .i64 q.tm, .bool q.mrk, .bool q.hed] 26)
 replace HR2 := laR HR2 (.cells #[.int .i64 q.g, .int .i64 q.k, .slice A2 q.l.length c2, .int .i64 q.ht, .int .i64 q.hv, .int .i64 q.hc, .int .i64 q.ix, .int .i64 q.tm, .bool q.mrk, .bool q.hed] 26)
 replace HP := laP HP (.cells #[.int .i64 q.g, .int .i64 q.k, .slice A2 q.l.length c2, .int .i64 q.ht, .int .i64 q.hv, .int .i64 q.hc, .int .i64 q.ix, .int .i64 q.tm, .bool q.mrk, .bool q.hed] 26)
 have HQ : Aside0 (BlkP q A2 c2 (s0 + 1) ((w.alloc (.cells #[.int .i64 p.g, .int .i64 p.k, .slice A p.l.length c, .int .i64 p.ht, .int .i64 p.hv, .int .i64 p.hc, .int .i64 p.ix, .int .i64 p.tm, .bool p.mrk, .bool p.hed] 26)).alloc (.cells #[.int .i64 q.g, .int .i64 q.k, .slice A2 q.l.length c2, .int .i64 q.ht, .int .i64 q.hv, .int .i64 q.hc, .int .i64 q.ix, .int .i64 q.tm, .bool q.mrk, .bool q.hed] 26))) := ⟨(by have hq := BlkP.new q A2 c2 (w.alloc (.cells #[.int .i64 p.g, .int .i64 p.k, .slice A p.l.length c, .int .i64 p.ht, .int .i64 p.hv, .int .i64 p.hc, .int .i64 p.ix, .int .i64 p.tm, .bool p.mrk, .bool p.hed] 26)); simp only [World.size_alloc, hs0] at hq; exact hq)⟩
 try simp only [World.size_alloc, hs0]
 obtain ⟨W0, hW⟩ : ∃ X, ((w.alloc (.cells #[.int .i64 p.g, .int .i64 p.k, .slice A p.l.length c, .int .i64 p.ht, .int .i64 p.hv, .int .i64 p.hc, .int .i64 p.ix, .int .i64 p.tm, .bool p.mrk, .bool p.hed] 26)).alloc (.cells #[.int .i64 q.g, .int .i64 q.k, .slice A2 q.l.length c2, .int .i64 q.ht, .int .i64 q.hv, .int .i64 q.hc, .int .i64 q.ix, .int .i64 q.tm, .bool q.mrk, .bool q.hed] 26)) = X := ⟨_, rfl⟩
 rw [hW] at HB HR1 HR2 HP HQ ⊢
 clear hW hs0
 obtain ⟨hp0, hp1, hp2, hp3, hp4, hp5, hp6, hp7, hp8, hp9⟩ := HP.out.box
 obtain ⟨hq0, hq1, hq2, hq3, hq4, hq5, hq6, hq7, hq8, hq9⟩ := HQ.out.box
 have hC1 := HC1.out
 simp only [Try.f5] at hC1
 subst hC1
 clear HC1
 go_wp2_with fail
 go_at_call 10
 refine (known4 _).mono ?_
 rintro e w1 ⟨rfl, hw1⟩
 replace HB := lbB HB hw1
 replace HR1 := lbR HR1 hw1
 replace HR2 := lbR HR2 hw1
 replace HP := lbP HP hw1
 replace HQ := lbP HQ hw1
 clear hw1
 clear hp0 hp1 hp2 hp3 hp4 hp5 hp6 hp7 hp8 hp9 hq0 hq1 hq2 hq3 hq4 hq5 hq6 hq7 hq8 hq9
 obtain ⟨hp0, hp1, hp2, hp3, hp4, hp5, hp6, hp7, hp8, hp9⟩ := HP.out.box
 obtain ⟨hq0, hq1, hq2, hq3, hq4, hq5, hq6, hq7, hq8, hq9⟩ := HQ.out.box
 go_wp2_with fail
 go_at_call 11
 refine (HF1.out A c _ HR1.out).mono ?_
 rintro e w2 ⟨rfl, hw2⟩
 replace HB := lbB HB hw2
 replace HR1 := lbR HR1 hw2
 replace HR2 := lbR HR2 hw2
 replace HP := lbP HP hw2
 replace HQ := lbP HQ hw2
 clear hw2
 clear hp0 hp1 hp2 hp3 hp4 hp5 hp6 hp7 hp8 hp9 hq0 hq1 hq2 hq3 hq4 hq5 hq6 hq7 hq8 hq9
 obtain ⟨hp0, hp1, hp2, hp3, hp4, hp5, hp6, hp7, hp8, hp9⟩ := HP.out.box
 obtain ⟨hq0, hq1, hq2, hq3, hq4, hq5, hq6, hq7, hq8, hq9⟩ := HQ.out.box
 go_wp2_with fail
 go_ret
 exact ⟨rfl, HB.out.b⟩
set_option maxHeartbeats 8000000 in
set_option maxRecDepth 100000 in
theorem back4_few2 (p : Prt) (A : Option Addr) (c : Nat) (q : Prt) (A2 : Option Addr) (c2 : Nat) (s : ByteArray) (ct : Int) (w : World) (hp : Rd w A c p.l) (hq : Rd w A2 c2 q.l) (hs : s.size ≤ 140737488351232) (hc8 : 0 ≤ ct ∧ ct ≤ 255) (hf1 : (∀ (A : Option Addr) (c : Nat) (w : World), Rd w A c p.l → Calls Try.prog 11 #[vP p A c] w fun e w' => e = .returned (.bool true) ∧ Below w.heap.size w w')) (hf2 : (∀ (A : Option Addr) (c : Nat) (w : World), Rd w A c q.l → Calls Try.prog 11 #[vP q A c] w fun e w' => e = .returned (.bool false) ∧ Below w.heap.size w w')) :
  Calls Try.prog 5 #[vP p A c, vP q A2 c2, .string s, .int .u8 ct] w fun e w' => e = .returned (.bool true) ∧ Below w.heap.size w w' := by
 have HF1 := Aside0.mk hf1
 have HF2 := Aside0.mk hf2
 have HS := Aside0.mk hs
 have HC8 := Aside0.mk hc8
 have HB := Aside0.mk (Bel.refl w)
 have HR1 := Aside0.mk (hp)
 have HR2 := Aside0.mk (hq)
 clear hp hq hf1 hs hc8 hf2
 unfold vP
 go_enter Try.func5, Try.ntmps5
 obtain ⟨C1, hC1⟩ : ∃ C, (match Try.f5.body with | some (.seq _ c) => c | _ => .skip) = C := ⟨_, rfl⟩
 have HC1 := Aside0.mk hC1
 simp only [Try.f5] at hC1
 rw [hC1]
 clear hC1
 go_wp2_with fail
 obtain ⟨s0, hs0⟩ : ∃ n, w.heap.size = n := ⟨_, rfl⟩
 replace HB := laB HB (.cells #[.int .i64 p.g, .int .i64 p.k, .slice A p.l.length c, .int .i64 p.ht, .int .i64 p.hv, .int .i64 p.hc, .int .i64 p.ix, .int .i64 p.tm, .bool p.mrk, .bool p.hed] 26)
 replace HR1 := laR HR1 (.cells #[.int .i64 p.g, .int .i64 p.k, .slice A p.l.length c, .int .i64 p.ht, .int .i64 p.hv, .int .i64 p.hc, .int .i64 p.ix, .int .i64 p.tm, .bool p.mrk, .bool p.hed] 26)
 replace HR2 := laR HR2 (.cells #[.int .i64 p.g, .int .i64 p.k, .slice A p.l.length c, .int .i64 p.ht, .int .i64 p.hv, .int .i64 p.hc, .int .i64 p.ix, .int .i64 p.tm, .bool p.mrk, .bool p.hed] 26)
 have HP : Aside0 (BlkP p A c s0 (w.alloc (.cells #[.int .i64 p.g, .int .i64 p.k, .slice A p.l.length c, .int .i64 p.ht, .int .i64 p.hv, .int .i64 p.hc, .int .i64 p.ix, .int .i64 p.tm, .bool p.mrk, .bool p.hed] 26))) := ⟨(by have hq := BlkP.new p A c w; simp only [World.size_alloc, hs0] at hq; exact hq)⟩
 replace HB := laB HB (.cells #[.int .i64 q.g, .int .i64 q.k, .slice A2 q.l.length c2, .int .i64 q.ht, .int .i64 q.hv, .int .i64 q.hc, .int .i64 q.ix, .int .i64 q.tm, .bool q.mrk, .bool q.hed] 26)
 replace HR1 := laR HR1 (.cells #[.int .i64 q.g, .int .i64 q.k, .slice A2 q.l.length c2, .int .i64 q.ht, .int .i64 q.hv, .int .i64 q.hc, .int .i64 q.ix, .int .i64 q.tm, .bool q.mrk, .bool q.hed] 26)
 replace HR2 := laR HR2 (.cells #[.int .i64 q.g, .int .i64 q.k, .slice A2 q.l.length c2, .int .i64 q.ht, .int .i64 q.hv, .int .i64 q.hc, .int .i64 q.ix, .int .i64 q.tm, .bool q.mrk, .bool q.hed] 26)
 replace HP := laP HP (.cells #[.int .i64 q.g, .int .i64 q.k, .slice A2 q.l.length c2, .int .i64 q.ht, .int .i64 q.hv, .int .i64 q.hc, .int .i64 q.ix, .int .i64 q.tm, .bool q.mrk, .bool q.hed] 26)
 have HQ : Aside0 (BlkP q A2 c2 (s0 + 1) ((w.alloc (.cells #[.int .i64 p.g, .int .i64 p.k, .slice A p.l.length c, .int .i64 p.ht, .int .i64 p.hv, .int .i64 p.hc, .int .i64 p.ix, .int .i64 p.tm, .bool p.mrk, .bool p.hed] 26)).alloc (.cells #[.int .i64 q.g, .int .i64 q.k, .slice A2 q.l.length c2, .int .i64 q.ht, .int .i64 q.hv, .int .i64 q.hc, .int .i64 q.ix, .int .i64 q.tm, .bool q.mrk, .bool q.hed] 26))) := ⟨(by have hq := BlkP.new q A2 c2 (w.alloc (.cells #[.int .i64 p.g, .int .i64 p.k, .slice A p.l.length c, .int .i64 p.ht, .int .i64 p.hv, .int .i64 p.hc, .int .i64 p.ix, .int .i64 p.tm, .bool p.mrk, .bool p.hed] 26)); simp only [World.size_alloc, hs0] at hq; exact hq)⟩
 try simp only [World.size_alloc, hs0]
 obtain ⟨W0, hW⟩ : ∃ X, ((w.alloc (.cells #[.int .i64 p.g, .int .i64 p.k, .slice A p.l.length c, .int .i64 p.ht, .int .i64 p.hv, .int .i64 p.hc, .int .i64 p.ix, .int .i64 p.tm, .bool p.mrk, .bool p.hed] 26)).alloc (.cells #[.int .i64 q.g, .int .i64 q.k, .slice A2 q.l.length c2, .int .i64 q.ht, .int .i64 q.hv, .int .i64 q.hc, .int .i64 q.ix, .int .i64 q.tm, .bool q.mrk, .bool q.hed] 26)) = X := ⟨_, rfl⟩
 rw [hW] at HB HR1 HR2 HP HQ ⊢
 clear hW hs0
 obtain ⟨hp0, hp1, hp2, hp3, hp4, hp5, hp6, hp7, hp8, hp9⟩ := HP.out.box
 obtain ⟨hq0, hq1, hq2, hq3, hq4, hq5, hq6, hq7, hq8, hq9⟩ := HQ.out.box
 have hC1 := HC1.out
 simp only [Try.f5] at hC1
 subst hC1
 clear HC1
 go_wp2_with fail
 go_at_call 10
 refine (known4 _).mono ?_
 rintro e w1 ⟨rfl, hw1⟩
 replace HB := lbB HB hw1
 replace HR1 := lbR HR1 hw1
 replace HR2 := lbR HR2 hw1
 replace HP := lbP HP hw1
 replace HQ := lbP HQ hw1
 clear hw1
 clear hp0 hp1 hp2 hp3 hp4 hp5 hp6 hp7 hp8 hp9 hq0 hq1 hq2 hq3 hq4 hq5 hq6 hq7 hq8 hq9
 obtain ⟨hp0, hp1, hp2, hp3, hp4, hp5, hp6, hp7, hp8, hp9⟩ := HP.out.box
 obtain ⟨hq0, hq1, hq2, hq3, hq4, hq5, hq6, hq7, hq8, hq9⟩ := HQ.out.box
 go_wp2_with fail
 go_at_call 11
 refine (HF1.out A c _ HR1.out).mono ?_
 rintro e w2 ⟨rfl, hw2⟩
 replace HB := lbB HB hw2
 replace HR1 := lbR HR1 hw2
 replace HR2 := lbR HR2 hw2
 replace HP := lbP HP hw2
 replace HQ := lbP HQ hw2
 clear hw2
 clear hp0 hp1 hp2 hp3 hp4 hp5 hp6 hp7 hp8 hp9 hq0 hq1 hq2 hq3 hq4 hq5 hq6 hq7 hq8 hq9
 obtain ⟨hp0, hp1, hp2, hp3, hp4, hp5, hp6, hp7, hp8, hp9⟩ := HP.out.box
 obtain ⟨hq0, hq1, hq2, hq3, hq4, hq5, hq6, hq7, hq8, hq9⟩ := HQ.out.box
 go_wp2_with fail
 go_at_call 11
 refine (HF2.out A2 c2 _ HR2.out).mono ?_
 rintro e w3 ⟨rfl, hw3⟩
 replace HB := lbB HB hw3
 replace HR1 := lbR HR1 hw3
 replace HR2 := lbR HR2 hw3
 replace HP := lbP HP hw3
 replace HQ := lbP HQ hw3
 clear hw3
 clear hp0 hp1 hp2 hp3 hp4 hp5 hp6 hp7 hp8 hp9 hq0 hq1 hq2 hq3 hq4 hq5 hq6 hq7 hq8 hq9
 obtain ⟨hp0, hp1, hp2, hp3, hp4, hp5, hp6, hp7, hp8, hp9⟩ := HP.out.box
 obtain ⟨hq0, hq1, hq2, hq3, hq4, hq5, hq6, hq7, hq8, hq9⟩ := HQ.out.box
 go_wp2_with fail
 go_ret
 exact ⟨rfl, HB.out.b⟩
set_option maxHeartbeats 8000000 in
set_option maxRecDepth 100000 in
theorem back4_far (p : Prt) (A : Option Addr) (c : Nat) (q : Prt) (A2 : Option Addr) (c2 : Nat) (s : ByteArray) (ct : Int) (w : World) (hp : Rd w A c p.l) (hq : Rd w A2 c2 q.l) (hs : s.size ≤ 140737488351232) (hc8 : 0 ≤ ct ∧ ct ≤ 255) (hf1 : (∀ (A : Option Addr) (c : Nat) (w : World), Rd w A c p.l → Calls Try.prog 11 #[vP p A c] w fun e w' => e = .returned (.bool true) ∧ Below w.heap.size w w')) (hf2 : (∀ (A : Option Addr) (c : Nat) (w : World), Rd w A c q.l → Calls Try.prog 11 #[vP q A c] w fun e w' => e = .returned (.bool true) ∧ Below w.heap.size w w')) (hz : 60 < s.size) :
  Calls Try.prog 5 #[vP p A c, vP q A2 c2, .string s, .int .u8 ct] w fun e w' => e = .returned (.bool true) ∧ Below w.heap.size w w' := by
 have HF1 := Aside0.mk hf1
 have HF2 := Aside0.mk hf2
 have HS := Aside0.mk hs
 have HC8 := Aside0.mk hc8
 have dz1 : decide ((s.size : Int) > 60) = true := decide_eq_true (by omega)
 have dz2 : decide (60 < (s.size : Int)) = true := dz1
 have dz3 : decide (60 < s.size) = true := decide_eq_true (by omega)
 have HB := Aside0.mk (Bel.refl w)
 have HR1 := Aside0.mk (hp)
 have HR2 := Aside0.mk (hq)
 clear hp hq hf1 hs hc8 hf2 hz
 unfold vP
 go_enter Try.func5, Try.ntmps5
 obtain ⟨C1, hC1⟩ : ∃ C, (match Try.f5.body with | some (.seq _ c) => c | _ => .skip) = C := ⟨_, rfl⟩
 have HC1 := Aside0.mk hC1
 simp only [Try.f5] at hC1
 rw [hC1]
 clear hC1
 go_wp2_with fail
 obtain ⟨s0, hs0⟩ : ∃ n, w.heap.size = n := ⟨_, rfl⟩
 replace HB := laB HB (.cells #[.int .i64 p.g, .int .i64 p.k, .slice A p.l.length c, .int .i64 p.ht, .int .i64 p.hv, .int .i64 p.hc, .int .i64 p.ix, .int .i64 p.tm, .bool p.mrk, .bool p.hed] 26)
 replace HR1 := laR HR1 (.cells #[.int .i64 p.g, .int .i64 p.k, .slice A p.l.length c, .int .i64 p.ht, .int .i64 p.hv, .int .i64 p.hc, .int .i64 p.ix, .int .i64 p.tm, .bool p.mrk, .bool p.hed] 26)
 replace HR2 := laR HR2 (.cells #[.int .i64 p.g, .int .i64 p.k, .slice A p.l.length c, .int .i64 p.ht, .int .i64 p.hv, .int .i64 p.hc, .int .i64 p.ix, .int .i64 p.tm, .bool p.mrk, .bool p.hed] 26)
 have HP : Aside0 (BlkP p A c s0 (w.alloc (.cells #[.int .i64 p.g, .int .i64 p.k, .slice A p.l.length c, .int .i64 p.ht, .int .i64 p.hv, .int .i64 p.hc, .int .i64 p.ix, .int .i64 p.tm, .bool p.mrk, .bool p.hed] 26))) := ⟨(by have hq := BlkP.new p A c w; simp only [World.size_alloc, hs0] at hq; exact hq)⟩
 replace HB := laB HB (.cells #[.int .i64 q.g, .int .i64 q.k, .slice A2 q.l.length c2, .int .i64 q.ht, .int .i64 q.hv, .int .i64 q.hc, .int .i64 q.ix, .int .i64 q.tm, .bool q.mrk, .bool q.hed] 26)
 replace HR1 := laR HR1 (.cells #[.int .i64 q.g, .int .i64 q.k, .slice A2 q.l.length c2, .int .i64 q.ht, .int .i64 q.hv, .int .i64 q.hc, .int .i64 q.ix, .int .i64 q.tm, .bool q.mrk, .bool q.hed] 26)
 replace HR2 := laR HR2 (.cells #[.int .i64 q.g, .int .i64 q.k, .slice A2 q.l.length c2, .int .i64 q.ht, .int .i64 q.hv, .int .i64 q.hc, .int .i64 q.ix, .int .i64 q.tm, .bool q.mrk, .bool q.hed] 26)
 replace HP := laP HP (.cells #[.int .i64 q.g, .int .i64 q.k, .slice A2 q.l.length c2, .int .i64 q.ht, .int .i64 q.hv, .int .i64 q.hc, .int .i64 q.ix, .int .i64 q.tm, .bool q.mrk, .bool q.hed] 26)
 have HQ : Aside0 (BlkP q A2 c2 (s0 + 1) ((w.alloc (.cells #[.int .i64 p.g, .int .i64 p.k, .slice A p.l.length c, .int .i64 p.ht, .int .i64 p.hv, .int .i64 p.hc, .int .i64 p.ix, .int .i64 p.tm, .bool p.mrk, .bool p.hed] 26)).alloc (.cells #[.int .i64 q.g, .int .i64 q.k, .slice A2 q.l.length c2, .int .i64 q.ht, .int .i64 q.hv, .int .i64 q.hc, .int .i64 q.ix, .int .i64 q.tm, .bool q.mrk, .bool q.hed] 26))) := ⟨(by have hq := BlkP.new q A2 c2 (w.alloc (.cells #[.int .i64 p.g, .int .i64 p.k, .slice A p.l.length c, .int .i64 p.ht, .int .i64 p.hv, .int .i64 p.hc, .int .i64 p.ix, .int .i64 p.tm, .bool p.mrk, .bool p.hed] 26)); simp only [World.size_alloc, hs0] at hq; exact hq)⟩
 try simp only [World.size_alloc, hs0]
 obtain ⟨W0, hW⟩ : ∃ X, ((w.alloc (.cells #[.int .i64 p.g, .int .i64 p.k, .slice A p.l.length c, .int .i64 p.ht, .int .i64 p.hv, .int .i64 p.hc, .int .i64 p.ix, .int .i64 p.tm, .bool p.mrk, .bool p.hed] 26)).alloc (.cells #[.int .i64 q.g, .int .i64 q.k, .slice A2 q.l.length c2, .int .i64 q.ht, .int .i64 q.hv, .int .i64 q.hc, .int .i64 q.ix, .int .i64 q.tm, .bool q.mrk, .bool q.hed] 26)) = X := ⟨_, rfl⟩
 rw [hW] at HB HR1 HR2 HP HQ ⊢
 clear hW hs0
 obtain ⟨hp0, hp1, hp2, hp3, hp4, hp5, hp6, hp7, hp8, hp9⟩ := HP.out.box
 obtain ⟨hq0, hq1, hq2, hq3, hq4, hq5, hq6, hq7, hq8, hq9⟩ := HQ.out.box
 have hC1 := HC1.out
 simp only [Try.f5] at hC1
 subst hC1
 clear HC1
 go_wp2_with fail
 go_at_call 10
 refine (known4 _).mono ?_
 rintro e w1 ⟨rfl, hw1⟩
 replace HB := lbB HB hw1
 replace HR1 := lbR HR1 hw1
 replace HR2 := lbR HR2 hw1
 replace HP := lbP HP hw1
 replace HQ := lbP HQ hw1
 clear hw1
 clear hp0 hp1 hp2 hp3 hp4 hp5 hp6 hp7 hp8 hp9 hq0 hq1 hq2 hq3 hq4 hq5 hq6 hq7 hq8 hq9
 obtain ⟨hp0, hp1, hp2, hp3, hp4, hp5, hp6, hp7, hp8, hp9⟩ := HP.out.box
 obtain ⟨hq0, hq1, hq2, hq3, hq4, hq5, hq6, hq7, hq8, hq9⟩ := HQ.out.box
 go_wp2_with fail
 go_at_call 11
 refine (HF1.out A c _ HR1.out).mono ?_
 rintro e w2 ⟨rfl, hw2⟩
 replace HB := lbB HB hw2
 replace HR1 := lbR HR1 hw2
 replace HR2 := lbR HR2 hw2
 replace HP := lbP HP hw2
 replace HQ := lbP HQ hw2
 clear hw2
 clear hp0 hp1 hp2 hp3 hp4 hp5 hp6 hp7 hp8 hp9 hq0 hq1 hq2 hq3 hq4 hq5 hq6 hq7 hq8 hq9
 obtain ⟨hp0, hp1, hp2, hp3, hp4, hp5, hp6, hp7, hp8, hp9⟩ := HP.out.box
 obtain ⟨hq0, hq1, hq2, hq3, hq4, hq5, hq6, hq7, hq8, hq9⟩ := HQ.out.box
 go_wp2_with fail
 go_at_call 11
 refine (HF2.out A2 c2 _ HR2.out).mono ?_
 rintro e w3 ⟨rfl, hw3⟩
 replace HB := lbB HB hw3
 replace HR1 := lbR HR1 hw3
 replace HR2 := lbR HR2 hw3
 replace HP := lbP HP hw3
 replace HQ := lbP HQ hw3
 clear hw3
 clear hp0 hp1 hp2 hp3 hp4 hp5 hp6 hp7 hp8 hp9 hq0 hq1 hq2 hq3 hq4 hq5 hq6 hq7 hq8 hq9
 obtain ⟨hp0, hp1, hp2, hp3, hp4, hp5, hp6, hp7, hp8, hp9⟩ := HP.out.box
 obtain ⟨hq0, hq1, hq2, hq3, hq4, hq5, hq6, hq7, hq8, hq9⟩ := HQ.out.box
 go_wp2_with fail
 go_ret
 exact ⟨rfl, HB.out.b⟩
set_option maxHeartbeats 8000000 in
set_option maxRecDepth 100000 in
theorem back4_no (p : Prt) (A : Option Addr) (c : Nat) (q : Prt) (A2 : Option Addr) (c2 : Nat) (s : ByteArray) (ct : Int) (w : World) (hp : Rd w A c p.l) (hq : Rd w A2 c2 q.l) (hs : s.size ≤ 140737488351232) (hc8 : 0 ≤ ct ∧ ct ≤ 255) (hf1 : (∀ (A : Option Addr) (c : Nat) (w : World), Rd w A c p.l → Calls Try.prog 11 #[vP p A c] w fun e w' => e = .returned (.bool true) ∧ Below w.heap.size w w')) (hf2 : (∀ (A : Option Addr) (c : Nat) (w : World), Rd w A c q.l → Calls Try.prog 11 #[vP q A c] w fun e w' => e = .returned (.bool true) ∧ Below w.heap.size w w')) (hz : ¬ 60 < s.size) (hpb : isP p = false) :
  Calls Try.prog 5 #[vP p A c, vP q A2 c2, .string s, .int .u8 ct] w fun e w' => e = .returned (.bool true) ∧ Below w.heap.size w w' := by
 have HF1 := Aside0.mk hf1
 have HF2 := Aside0.mk hf2
 have HS := Aside0.mk hs
 have HC8 := Aside0.mk hc8
 have dz1 : decide ((s.size : Int) > 60) = false := decide_eq_false (by omega)
 have dz2 : decide (60 < (s.size : Int)) = false := dz1
 have dz3 : decide (60 < s.size) = false := decide_eq_false (by omega)
 have HPB := Aside0.mk hpb
 have HB := Aside0.mk (Bel.refl w)
 have HR1 := Aside0.mk (hp)
 have HR2 := Aside0.mk (hq)
 clear hp hq hf1 hs hc8 hf2 hz hpb
 unfold vP
 go_enter Try.func5, Try.ntmps5
 obtain ⟨C1, hC1⟩ : ∃ C, (match Try.f5.body with | some (.seq _ c) => c | _ => .skip) = C := ⟨_, rfl⟩
 have HC1 := Aside0.mk hC1
 simp only [Try.f5] at hC1
 rw [hC1]
 clear hC1
 go_wp2_with fail
 obtain ⟨s0, hs0⟩ : ∃ n, w.heap.size = n := ⟨_, rfl⟩
 replace HB := laB HB (.cells #[.int .i64 p.g, .int .i64 p.k, .slice A p.l.length c, .int .i64 p.ht, .int .i64 p.hv, .int .i64 p.hc, .int .i64 p.ix, .int .i64 p.tm, .bool p.mrk, .bool p.hed] 26)
 replace HR1 := laR HR1 (.cells #[.int .i64 p.g, .int .i64 p.k, .slice A p.l.length c, .int .i64 p.ht, .int .i64 p.hv, .int .i64 p.hc, .int .i64 p.ix, .int .i64 p.tm, .bool p.mrk, .bool p.hed] 26)
 replace HR2 := laR HR2 (.cells #[.int .i64 p.g, .int .i64 p.k, .slice A p.l.length c, .int .i64 p.ht, .int .i64 p.hv, .int .i64 p.hc, .int .i64 p.ix, .int .i64 p.tm, .bool p.mrk, .bool p.hed] 26)
 have HP : Aside0 (BlkP p A c s0 (w.alloc (.cells #[.int .i64 p.g, .int .i64 p.k, .slice A p.l.length c, .int .i64 p.ht, .int .i64 p.hv, .int .i64 p.hc, .int .i64 p.ix, .int .i64 p.tm, .bool p.mrk, .bool p.hed] 26))) := ⟨(by have hq := BlkP.new p A c w; simp only [World.size_alloc, hs0] at hq; exact hq)⟩
 replace HB := laB HB (.cells #[.int .i64 q.g, .int .i64 q.k, .slice A2 q.l.length c2, .int .i64 q.ht, .int .i64 q.hv, .int .i64 q.hc, .int .i64 q.ix, .int .i64 q.tm, .bool q.mrk, .bool q.hed] 26)
 replace HR1 := laR HR1 (.cells #[.int .i64 q.g, .int .i64 q.k, .slice A2 q.l.length c2, .int .i64 q.ht, .int .i64 q.hv, .int .i64 q.hc, .int .i64 q.ix, .int .i64 q.tm, .bool q.mrk, .bool q.hed] 26)
 replace HR2 := laR HR2 (.cells #[.int .i64 q.g, .int .i64 q.k, .slice A2 q.l.length c2, .int .i64 q.ht, .int .i64 q.hv, .int .i64 q.hc, .int .i64 q.ix, .int .i64 q.tm, .bool q.mrk, .bool q.hed] 26)
 replace HP := laP HP (.cells #[.int .i64 q.g, .int .i64 q.k, .slice A2 q.l.length c2, .int .i64 q.ht, .int .i64 q.hv, .int .i64 q.hc, .int .i64 q.ix, .int .i64 q.tm, .bool q.mrk, .bool q.hed] 26)
 have HQ : Aside0 (BlkP q A2 c2 (s0 + 1) ((w.alloc (.cells #[.int .i64 p.g, .int .i64 p.k, .slice A p.l.length c, .int .i64 p.ht, .int .i64 p.hv, .int .i64 p.hc, .int .i64 p.ix, .int .i64 p.tm, .bool p.mrk, .bool p.hed] 26)).alloc (.cells #[.int .i64 q.g, .int .i64 q.k, .slice A2 q.l.length c2, .int .i64 q.ht, .int .i64 q.hv, .int .i64 q.hc, .int .i64 q.ix, .int .i64 q.tm, .bool q.mrk, .bool q.hed] 26))) := ⟨(by have hq := BlkP.new q A2 c2 (w.alloc (.cells #[.int .i64 p.g, .int .i64 p.k, .slice A p.l.length c, .int .i64 p.ht, .int .i64 p.hv, .int .i64 p.hc, .int .i64 p.ix, .int .i64 p.tm, .bool p.mrk, .bool p.hed] 26)); simp only [World.size_alloc, hs0] at hq; exact hq)⟩
 try simp only [World.size_alloc, hs0]
 obtain ⟨W0, hW⟩ : ∃ X, ((w.alloc (.cells #[.int .i64 p.g, .int .i64 p.k, .slice A p.l.length c, .int .i64 p.ht, .int .i64 p.hv, .int .i64 p.hc, .int .i64 p.ix, .int .i64 p.tm, .bool p.mrk, .bool p.hed] 26)).alloc (.cells #[.int .i64 q.g, .int .i64 q.k, .slice A2 q.l.length c2, .int .i64 q.ht, .int .i64 q.hv, .int .i64 q.hc, .int .i64 q.ix, .int .i64 q.tm, .bool q.mrk, .bool q.hed] 26)) = X := ⟨_, rfl⟩
 rw [hW] at HB HR1 HR2 HP HQ ⊢
 clear hW hs0
 obtain ⟨hp0, hp1, hp2, hp3, hp4, hp5, hp6, hp7, hp8, hp9⟩ := HP.out.box
 obtain ⟨hq0, hq1, hq2, hq3, hq4, hq5, hq6, hq7, hq8, hq9⟩ := HQ.out.box
 have hC1 := HC1.out
 simp only [Try.f5] at hC1
 subst hC1
 clear HC1
 go_wp2_with fail
 go_at_call 10
 refine (known4 _).mono ?_
 rintro e w1 ⟨rfl, hw1⟩
 replace HB := lbB HB hw1
 replace HR1 := lbR HR1 hw1
 replace HR2 := lbR HR2 hw1
 replace HP := lbP HP hw1
 replace HQ := lbP HQ hw1
 clear hw1
 clear hp0 hp1 hp2 hp3 hp4 hp5 hp6 hp7 hp8 hp9 hq0 hq1 hq2 hq3 hq4 hq5 hq6 hq7 hq8 hq9
 obtain ⟨hp0, hp1, hp2, hp3, hp4, hp5, hp6, hp7, hp8, hp9⟩ := HP.out.box
 obtain ⟨hq0, hq1, hq2, hq3, hq4, hq5, hq6, hq7, hq8, hq9⟩ := HQ.out.box
 go_wp2_with fail
 go_at_call 11
 refine (HF1.out A c _ HR1.out).mono ?_
 rintro e w2 ⟨rfl, hw2⟩
 replace HB := lbB HB hw2
 replace HR1 := lbR HR1 hw2
 replace HR2 := lbR HR2 hw2
 replace HP := lbP HP hw2
 replace HQ := lbP HQ hw2
 clear hw2
 clear hp0 hp1 hp2 hp3 hp4 hp5 hp6 hp7 hp8 hp9 hq0 hq1 hq2 hq3 hq4 hq5 hq6 hq7 hq8 hq9
 obtain ⟨hp0, hp1, hp2, hp3, hp4, hp5, hp6, hp7, hp8, hp9⟩ := HP.out.box
 obtain ⟨hq0, hq1, hq2, hq3, hq4, hq5, hq6, hq7, hq8, hq9⟩ := HQ.out.box
 go_wp2_with fail
 go_at_call 11
 refine (HF2.out A2 c2 _ HR2.out).mono ?_
 rintro e w3 ⟨rfl, hw3⟩
 replace HB := lbB HB hw3
 replace HR1 := lbR HR1 hw3
 replace HR2 := lbR HR2 hw3
 replace HP := lbP HP hw3
 replace HQ := lbP HQ hw3
 clear hw3
 clear hp0 hp1 hp2 hp3 hp4 hp5 hp6 hp7 hp8 hp9 hq0 hq1 hq2 hq3 hq4 hq5 hq6 hq7 hq8 hq9
 obtain ⟨hp0, hp1, hp2, hp3, hp4, hp5, hp6, hp7, hp8, hp9⟩ := HP.out.box
 obtain ⟨hq0, hq1, hq2, hq3, hq4, hq5, hq6, hq7, hq8, hq9⟩ := HQ.out.box
 go_wp2_with fail
 go_at_call 15
 refine (isp4 p A c _ HR1.out HPB.out).mono ?_
 rintro e w4 ⟨rfl, hw4⟩
 replace HB := lbB HB hw4
 replace HR1 := lbR HR1 hw4
 replace HR2 := lbR HR2 hw4
 replace HP := lbP HP hw4
 replace HQ := lbP HQ hw4
 clear hw4
 clear hp0 hp1 hp2 hp3 hp4 hp5 hp6 hp7 hp8 hp9 hq0 hq1 hq2 hq3 hq4 hq5 hq6 hq7 hq8 hq9
 obtain ⟨hp0, hp1, hp2, hp3, hp4, hp5, hp6, hp7, hp8, hp9⟩ := HP.out.box
 obtain ⟨hq0, hq1, hq2, hq3, hq4, hq5, hq6, hq7, hq8, hq9⟩ := HQ.out.box
 go_wp2_with fail
 go_ret
 exact ⟨rfl, HB.out.b⟩
set_option maxHeartbeats 8000000 in
set_option maxRecDepth 100000 in
theorem back4_z (p : Prt) (A : Option Addr) (c : Nat) (q : Prt) (A2 : Option Addr) (c2 : Nat) (s : ByteArray) (ct : Int) (w : World) (hp : Rd w A c p.l) (hq : Rd w A2 c2 q.l) (hs : s.size ≤ 140737488351232) (hc8 : 0 ≤ ct ∧ ct ≤ 255) (hf1 : (∀ (A : Option Addr) (c : Nat) (w : World), Rd w A c p.l → Calls Try.prog 11 #[vP p A c] w fun e w' => e = .returned (.bool true) ∧ Below w.heap.size w w')) (hf2 : (∀ (A : Option Addr) (c : Nat) (w : World), Rd w A c q.l → Calls Try.prog 11 #[vP q A c] w fun e w' => e = .returned (.bool true) ∧ Below w.heap.size w w')) (hz : ¬ 60 < s.size) (hpb : isP p = true) (hqb : isP q = false) :
  Calls Try.prog 5 #[vP p A c, vP q A2 c2, .string s, .int .u8 ct] w fun e w' => e = .returned (.bool true) ∧ Below w.heap.size w w' := by
 have HF1 := Aside0.mk hf1
 have HF2 := Aside0.mk hf2
 have HS := Aside0.mk hs
 have HC8 := Aside0.mk hc8
 have dz1 : decide ((s.size : Int) > 60) = false := decide_eq_false (by omega)
 have dz2 : decide (60 < (s.size : Int)) = false := dz1
 have dz3 : decide (60 < s.size) = false := decide_eq_false (by omega)
 have HPB := Aside0.mk hpb
 obtain ⟨S, hS⟩ : ∃ S, bytesP p = S := ⟨_, rfl⟩
 have ES := Aside0.mk hS
 have HBR : Aside0 (bytesR p = (S, 0)) := ⟨by unfold bytesR; rw [if_pos hpb, hS]⟩
 have HZS : Aside0 (2 ≤ S.size ∧ S.size ≤ 1000) := ⟨by rw [← hS]; exact bytesP_sz hpb⟩
 have HRB : Aside0 (progR (S ++ s) = (p, (S.size, 0))) := ⟨by rw [← hS]; exact read_back hpb s⟩
 obtain ⟨T, y, hT⟩ : ∃ T y, bytesR q = (T, y) := ⟨_, _, rfl⟩
 have HBT := Aside0.mk hT
 have hy : y = 11 := by unfold bytesR at hT; rw [if_neg (by rw [hqb]; decide)] at hT; injection hT with h1 h2; exact h2.symm
 subst hy
 have hm0 : ((ct : Int) : Int).tmod (S.size : Int) = ((ct.toNat % S.size : Nat) : Int) := tmodN hc8.1
 obtain ⟨m, hm⟩ : ∃ m, ct.toNat % S.size = m := ⟨_, rfl⟩
 have HM : Aside0 (m < S.size) := ⟨by rw [← hm]; exact Nat.mod_lt _ (by have := HZS.out; omega)⟩
 rw [hm] at hm0
 have HRC : Aside0 (progR (S.extract 0 m) = (ZP, (0, 10))) := ⟨by rw [← hS]; exact read_cut hpb (by rw [hS]; exact HM.out)⟩
 have hct : IntKind.i64.wrap ct = ct := by rw [i64_w]; unfold wrap64; have := HC8.out; omega
 have hct2 : IntKind.i64.wrap (m : Int) = (m : Int) := by rw [i64_w]; unfold wrap64; have := HM.out; have := HZS.out; omega
 have hne0 : ((S.size : Int) == 0) = false := beq_eq_false_iff_ne.2 (by have := HZS.out; omega)
 have hne1 : (S.size == 0) = false := beq_eq_false_iff_ne.2 (by have := HZS.out; omega)
 have hne2 : (S.size = 0) = False := eq_false (by have := HZS.out; omega)
 have hne3 : ((S.size : Int) = 0) = False := eq_false (by have := HZS.out; omega)
 have hs60 : s.size ≤ 60 := by omega
 have hsum : (9223372036854775807 < S.size + s.size) = False := eq_false (by have := HZS.out; omega)
 have hSS : Aside0 ((S ++ s).size ≤ 140737488351232) := ⟨by rw [CodeM.app_size]; have := HZS.out; omega⟩
 have hl2 : decide (S.size < 2) = false := decide_eq_false (by have := HZS.out; omega)
 have hl3 : decide ((S.size : Int) < 2) = false := decide_eq_false (by have := HZS.out; omega)
 have hmz : (0 : Int) ≤ (m : Int) := by omega
 have hmz2 : (m : Int) ≤ (S.size : Int) := by have := HM.out; omega
 have hmz3 : m ≤ S.size := by have := HM.out; omega
 clear hS hT hm hs60
 have HB := Aside0.mk (Bel.refl w)
 have HR1 := Aside0.mk (hp)
 have HR2 := Aside0.mk (hq)
 clear hp hq hf1 hs hc8 hf2 hz hpb hqb
 unfold vP
 go_enter Try.func5, Try.ntmps5
 obtain ⟨C1, hC1⟩ : ∃ C, (match Try.f5.body with | some (.seq _ c) => c | _ => .skip) = C := ⟨_, rfl⟩
 have HC1 := Aside0.mk hC1
 simp only [Try.f5] at hC1
 rw [hC1]
 clear hC1
 go_wp2_with fail
 obtain ⟨s0, hs0⟩ : ∃ n, w.heap.size = n := ⟨_, rfl⟩
 replace HB := laB HB (.cells #[.int .i64 p.g, .int .i64 p.k, .slice A p.l.length c, .int .i64 p.ht, .int .i64 p.hv, .int .i64 p.hc, .int .i64 p.ix, .int .i64 p.tm, .bool p.mrk, .bool p.hed] 26)
 replace HR1 := laR HR1 (.cells #[.int .i64 p.g, .int .i64 p.k, .slice A p.l.length c, .int .i64 p.ht, .int .i64 p.hv, .int .i64 p.hc, .int .i64 p.ix, .int .i64 p.tm, .bool p.mrk, .bool p.hed] 26)
 replace HR2 := laR HR2 (.cells #[.int .i64 p.g, .int .i64 p.k, .slice A p.l.length c, .int .i64 p.ht, .int .i64 p.hv, .int .i64 p.hc, .int .i64 p.ix, .int .i64 p.tm, .bool p.mrk, .bool p.hed] 26)
 have HP : Aside0 (BlkP p A c s0 (w.alloc (.cells #[.int .i64 p.g, .int .i64 p.k, .slice A p.l.length c, .int .i64 p.ht, .int .i64 p.hv, .int .i64 p.hc, .int .i64 p.ix, .int .i64 p.tm, .bool p.mrk, .bool p.hed] 26))) := ⟨(by have hq := BlkP.new p A c w; simp only [World.size_alloc, hs0] at hq; exact hq)⟩
 replace HB := laB HB (.cells #[.int .i64 q.g, .int .i64 q.k, .slice A2 q.l.length c2, .int .i64 q.ht, .int .i64 q.hv, .int .i64 q.hc, .int .i64 q.ix, .int .i64 q.tm, .bool q.mrk, .bool q.hed] 26)
 replace HR1 := laR HR1 (.cells #[.int .i64 q.g, .int .i64 q.k, .slice A2 q.l.length c2, .int .i64 q.ht, .int .i64 q.hv, .int .i64 q.hc, .int .i64 q.ix, .int .i64 q.tm, .bool q.mrk, .bool q.hed] 26)
 replace HR2 := laR HR2 (.cells #[.int .i64 q.g, .int .i64 q.k, .slice A2 q.l.length c2, .int .i64 q.ht, .int .i64 q.hv, .int .i64 q.hc, .int .i64 q.ix, .int .i64 q.tm, .bool q.mrk, .bool q.hed] 26)
 replace HP := laP HP (.cells #[.int .i64 q.g, .int .i64 q.k, .slice A2 q.l.length c2, .int .i64 q.ht, .int .i64 q.hv, .int .i64 q.hc, .int .i64 q.ix, .int .i64 q.tm, .bool q.mrk, .bool q.hed] 26)
 have HQ : Aside0 (BlkP q A2 c2 (s0 + 1) ((w.alloc (.cells #[.int .i64 p.g, .int .i64 p.k, .slice A p.l.length c, .int .i64 p.ht, .int .i64 p.hv, .int .i64 p.hc, .int .i64 p.ix, .int .i64 p.tm, .bool p.mrk, .bool p.hed] 26)).alloc (.cells #[.int .i64 q.g, .int .i64 q.k, .slice A2 q.l.length c2, .int .i64 q.ht, .int .i64 q.hv, .int .i64 q.hc, .int .i64 q.ix, .int .i64 q.tm, .bool q.mrk, .bool q.hed] 26))) := ⟨(by have hq := BlkP.new q A2 c2 (w.alloc (.cells #[.int .i64 p.g, .int .i64 p.k, .slice A p.l.length c, .int .i64 p.ht, .int .i64 p.hv, .int .i64 p.hc, .int .i64 p.ix, .int .i64 p.tm, .bool p.mrk, .bool p.hed] 26)); simp only [World.size_alloc, hs0] at hq; exact hq)⟩
 try simp only [World.size_alloc, hs0]
 obtain ⟨W0, hW⟩ : ∃ X, ((w.alloc (.cells #[.int .i64 p.g, .int .i64 p.k, .slice A p.l.length c, .int .i64 p.ht, .int .i64 p.hv, .int .i64 p.hc, .int .i64 p.ix, .int .i64 p.tm, .bool p.mrk, .bool p.hed] 26)).alloc (.cells #[.int .i64 q.g, .int .i64 q.k, .slice A2 q.l.length c2, .int .i64 q.ht, .int .i64 q.hv, .int .i64 q.hc, .int .i64 q.ix, .int .i64 q.tm, .bool q.mrk, .bool q.hed] 26)) = X := ⟨_, rfl⟩
 rw [hW] at HB HR1 HR2 HP HQ ⊢
 clear hW hs0
 obtain ⟨hp0, hp1, hp2, hp3, hp4, hp5, hp6, hp7, hp8, hp9⟩ := HP.out.box
 obtain ⟨hq0, hq1, hq2, hq3, hq4, hq5, hq6, hq7, hq8, hq9⟩ := HQ.out.box
 have hC1 := HC1.out
 simp only [Try.f5] at hC1
 subst hC1
 clear HC1
 obtain ⟨C6, hC6⟩ : ∃ C, (match Try.f5.body with | some (.seq _ (.seq _ (.seq _ (.seq _ (.seq _ (.seq _ c)))))) => c | _ => .skip) = C := ⟨_, rfl⟩
 have HC6 := Aside0.mk hC6
 simp only [Try.f5] at hC6
 rw [hC6]
 clear hC6
 go_wp2_with fail
 go_at_call 10
 refine (known4 _).mono ?_
 rintro e w1 ⟨rfl, hw1⟩
 replace HB := lbB HB hw1
 replace HR1 := lbR HR1 hw1
 replace HR2 := lbR HR2 hw1
 replace HP := lbP HP hw1
 replace HQ := lbP HQ hw1
 clear hw1
 clear hp0 hp1 hp2 hp3 hp4 hp5 hp6 hp7 hp8 hp9 hq0 hq1 hq2 hq3 hq4 hq5 hq6 hq7 hq8 hq9
 obtain ⟨hp0, hp1, hp2, hp3, hp4, hp5, hp6, hp7, hp8, hp9⟩ := HP.out.box
 obtain ⟨hq0, hq1, hq2, hq3, hq4, hq5, hq6, hq7, hq8, hq9⟩ := HQ.out.box
 go_wp2_with fail
 go_at_call 11
 refine (HF1.out A c _ HR1.out).mono ?_
 rintro e w2 ⟨rfl, hw2⟩
 replace HB := lbB HB hw2
 replace HR1 := lbR HR1 hw2
 replace HR2 := lbR HR2 hw2
 replace HP := lbP HP hw2
 replace HQ := lbP HQ hw2
 clear hw2
 clear hp0 hp1 hp2 hp3 hp4 hp5 hp6 hp7 hp8 hp9 hq0 hq1 hq2 hq3 hq4 hq5 hq6 hq7 hq8 hq9
 obtain ⟨hp0, hp1, hp2, hp3, hp4, hp5, hp6, hp7, hp8, hp9⟩ := HP.out.box
 obtain ⟨hq0, hq1, hq2, hq3, hq4, hq5, hq6, hq7, hq8, hq9⟩ := HQ.out.box
 go_wp2_with fail
 go_at_call 11
 refine (HF2.out A2 c2 _ HR2.out).mono ?_
 rintro e w3 ⟨rfl, hw3⟩
 replace HB := lbB HB hw3
 replace HR1 := lbR HR1 hw3
 replace HR2 := lbR HR2 hw3
 replace HP := lbP HP hw3
 replace HQ := lbP HQ hw3
 clear hw3
 clear hp0 hp1 hp2 hp3 hp4 hp5 hp6 hp7 hp8 hp9 hq0 hq1 hq2 hq3 hq4 hq5 hq6 hq7 hq8 hq9
 obtain ⟨hp0, hp1, hp2, hp3, hp4, hp5, hp6, hp7, hp8, hp9⟩ := HP.out.box
 obtain ⟨hq0, hq1, hq2, hq3, hq4, hq5, hq6, hq7, hq8, hq9⟩ := HQ.out.box
 go_wp2_with fail
 go_at_call 15
 refine (isp4 p A c _ HR1.out HPB.out).mono ?_
 rintro e w4 ⟨rfl, hw4⟩
 replace HB := lbB HB hw4
 replace HR1 := lbR HR1 hw4
 replace HR2 := lbR HR2 hw4
 replace HP := lbP HP hw4
 replace HQ := lbP HQ hw4
 clear hw4
 clear hp0 hp1 hp2 hp3 hp4 hp5 hp6 hp7 hp8 hp9 hq0 hq1 hq2 hq3 hq4 hq5 hq6 hq7 hq8 hq9
 obtain ⟨hp0, hp1, hp2, hp3, hp4, hp5, hp6, hp7, hp8, hp9⟩ := HP.out.box
 obtain ⟨hq0, hq1, hq2, hq3, hq4, hq5, hq6, hq7, hq8, hq9⟩ := HQ.out.box
 go_wp2_with fail
 go_at_call 12
 refine (part_Bytes p A c _ HR1.out HBR.out).mono ?_
 rintro e w5 ⟨rfl, hw5⟩
 replace HB := lbB HB hw5
 replace HR1 := lbR HR1 hw5
 replace HR2 := lbR HR2 hw5
 replace HP := lbP HP hw5
 replace HQ := lbP HQ hw5
 clear hw5
 clear hp0 hp1 hp2 hp3 hp4 hp5 hp6 hp7 hp8 hp9 hq0 hq1 hq2 hq3 hq4 hq5 hq6 hq7 hq8 hq9
 obtain ⟨hp0, hp1, hp2, hp3, hp4, hp5, hp6, hp7, hp8, hp9⟩ := HP.out.box
 obtain ⟨hq0, hq1, hq2, hq3, hq4, hq5, hq6, hq7, hq8, hq9⟩ := HQ.out.box
 go_wp2_with fail
 go_at_call 12
 refine (part_Bytes q A2 c2 _ HR2.out HBT.out).mono ?_
 rintro e w6 ⟨rfl, hw6⟩
 replace HB := lbB HB hw6
 replace HR1 := lbR HR1 hw6
 replace HR2 := lbR HR2 hw6
 replace HP := lbP HP hw6
 replace HQ := lbP HQ hw6
 clear hw6
 clear hp0 hp1 hp2 hp3 hp4 hp5 hp6 hp7 hp8 hp9 hq0 hq1 hq2 hq3 hq4 hq5 hq6 hq7 hq8 hq9
 obtain ⟨hp0, hp1, hp2, hp3, hp4, hp5, hp6, hp7, hp8, hp9⟩ := HP.out.box
 obtain ⟨hq0, hq1, hq2, hq3, hq4, hq5, hq6, hq7, hq8, hq9⟩ := HQ.out.box
 go_wp2_with fail
 go_at_call 20
 refine (readc (S ++ s) _ hSS.out HRB.out).mono ?_
 rintro e w7 ⟨A3, c3, rfl, hrd, hw7⟩
 replace HB := lbB HB hw7
 replace HR1 := lbR HR1 hw7
 replace HR2 := lbR HR2 hw7
 replace HP := lbP HP hw7
 replace HQ := lbP HQ hw7
 have HR3 := Aside0.mk hrd
 clear hrd
 clear hw7
 clear hp0 hp1 hp2 hp3 hp4 hp5 hp6 hp7 hp8 hp9 hq0 hq1 hq2 hq3 hq4 hq5 hq6 hq7 hq8 hq9
 obtain ⟨hp0, hp1, hp2, hp3, hp4, hp5, hp6, hp7, hp8, hp9⟩ := HP.out.box
 obtain ⟨hq0, hq1, hq2, hq3, hq4, hq5, hq6, hq7, hq8, hq9⟩ := HQ.out.box
 unfold vP
 go_wp2_with fail
 obtain ⟨n3, hn3⟩ : ∃ n, w7.heap.size = n := ⟨_, rfl⟩
 try rw [hn3]
 clear hp0 hp1 hp2 hp3 hp4 hp5 hp6 hp7 hp8 hp9 hq0 hq1 hq2 hq3 hq4 hq5 hq6 hq7 hq8 hq9
 replace HB := laB HB (.cells #[.int .i64 p.g, .int .i64 p.k, .slice A3 p.l.length c3, .int .i64 p.ht, .int .i64 p.hv, .int .i64 p.hc, .int .i64 p.ix, .int .i64 p.tm, .bool p.mrk, .bool p.hed] 26)
 replace HR1 := laR HR1 (.cells #[.int .i64 p.g, .int .i64 p.k, .slice A3 p.l.length c3, .int .i64 p.ht, .int .i64 p.hv, .int .i64 p.hc, .int .i64 p.ix, .int .i64 p.tm, .bool p.mrk, .bool p.hed] 26)
 replace HR2 := laR HR2 (.cells #[.int .i64 p.g, .int .i64 p.k, .slice A3 p.l.length c3, .int .i64 p.ht, .int .i64 p.hv, .int .i64 p.hc, .int .i64 p.ix, .int .i64 p.tm, .bool p.mrk, .bool p.hed] 26)
 replace HP := laP HP (.cells #[.int .i64 p.g, .int .i64 p.k, .slice A3 p.l.length c3, .int .i64 p.ht, .int .i64 p.hv, .int .i64 p.hc, .int .i64 p.ix, .int .i64 p.tm, .bool p.mrk, .bool p.hed] 26)
 replace HQ := laP HQ (.cells #[.int .i64 p.g, .int .i64 p.k, .slice A3 p.l.length c3, .int .i64 p.ht, .int .i64 p.hv, .int .i64 p.hc, .int .i64 p.ix, .int .i64 p.tm, .bool p.mrk, .bool p.hed] 26)
 replace HR3 := laR HR3 (.cells #[.int .i64 p.g, .int .i64 p.k, .slice A3 p.l.length c3, .int .i64 p.ht, .int .i64 p.hv, .int .i64 p.hc, .int .i64 p.ix, .int .i64 p.tm, .bool p.mrk, .bool p.hed] 26)
 have HX : Aside0 (BlkP p A3 c3 n3 (w7.alloc (.cells #[.int .i64 p.g, .int .i64 p.k, .slice A3 p.l.length c3, .int .i64 p.ht, .int .i64 p.hv, .int .i64 p.hc, .int .i64 p.ix, .int .i64 p.tm, .bool p.mrk, .bool p.hed] 26))) := ⟨(by have hq := BlkP.new p A3 c3 w7; rw [hn3] at hq; exact hq)⟩
 obtain ⟨W3, hW3⟩ : ∃ W, w7.alloc (.cells #[.int .i64 p.g, .int .i64 p.k, .slice A3 p.l.length c3, .int .i64 p.ht, .int .i64 p.hv, .int .i64 p.hc, .int .i64 p.ix, .int .i64 p.tm, .bool p.mrk, .bool p.hed] 26) = W := ⟨_, rfl⟩
 rw [hW3] at HB HR1 HR2 HP HQ HR3 HX ⊢
 clear hW3
 clear hn3
 have hC6 := HC6.out
 simp only [Try.f5] at hC6
 subst hC6
 clear HC6
 obtain ⟨C7, hC7⟩ : ∃ C, (match Try.f5.body with | some (.seq _ (.seq _ (.seq _ (.seq _ (.seq _ (.seq _ (.seq _ c))))))) => c | _ => .skip) = C := ⟨_, rfl⟩
 have HC7 := Aside0.mk hC7
 simp only [Try.f5] at hC7
 rw [hC7]
 clear hC7
 obtain ⟨hp0, hp1, hp2, hp3, hp4, hp5, hp6, hp7, hp8, hp9⟩ := HP.out.box
 obtain ⟨hq0, hq1, hq2, hq3, hq4, hq5, hq6, hq7, hq8, hq9⟩ := HQ.out.box
 obtain ⟨hx0, hx1, hx2, hx3, hx4, hx5, hx6, hx7, hx8, hx9⟩ := HX.out.box
 go_wp2_with fail
 go_at_call 19
 refine (rsamep p p A3 c3 A c _ HR3.out HR1.out (sameP_iff.2 rfl)).mono ?_
 rintro e w8 ⟨rfl, hw8⟩
 replace HB := lbB HB hw8
 replace HR1 := lbR HR1 hw8
 replace HR2 := lbR HR2 hw8
 replace HP := lbP HP hw8
 replace HQ := lbP HQ hw8
 replace HR3 := lbR HR3 hw8
 replace HX := lbP HX hw8
 clear hw8
 clear hp0 hp1 hp2 hp3 hp4 hp5 hp6 hp7 hp8 hp9 hq0 hq1 hq2 hq3 hq4 hq5 hq6 hq7 hq8 hq9 hx0 hx1 hx2 hx3 hx4 hx5 hx6 hx7 hx8 hx9
 obtain ⟨hp0, hp1, hp2, hp3, hp4, hp5, hp6, hp7, hp8, hp9⟩ := HP.out.box
 obtain ⟨hq0, hq1, hq2, hq3, hq4, hq5, hq6, hq7, hq8, hq9⟩ := HQ.out.box
 obtain ⟨hx0, hx1, hx2, hx3, hx4, hx5, hx6, hx7, hx8, hx9⟩ := HX.out.box
 go_wp2_with fail
 have hC7 := HC7.out
 simp only [Try.f5] at hC7
 subst hC7
 clear HC7
 obtain ⟨C8, hC8⟩ : ∃ C, (match Try.f5.body with | some (.seq _ (.seq _ (.seq _ (.seq _ (.seq _ (.seq _ (.seq _ (.seq _ c)))))))) => c | _ => .skip) = C := ⟨_, rfl⟩
 have HC8 := Aside0.mk hC8
 simp only [Try.f5] at hC8
 rw [hC8]
 clear hC8
 go_wp2_with fail
 go_at_call 20
 refine (readc (S.extract 0 m) _ (by have h1 := HM.out; have h2 := HZS.out; have h3 : (S.extract 0 m).size ≤ m := by { rw [← CodeM.ba_len, CodeM.ext_data, List.drop_zero, List.length_take]; omega }; omega) HRC.out).mono ?_
 rintro e w9 ⟨A4, c4, rfl, hrd, hw9⟩
 replace HB := lbB HB hw9
 replace HR1 := lbR HR1 hw9
 replace HR2 := lbR HR2 hw9
 replace HP := lbP HP hw9
 replace HQ := lbP HQ hw9
 replace HR3 := lbR HR3 hw9
 replace HX := lbP HX hw9
 have HR4 := Aside0.mk hrd
 clear hrd
 clear hw9
 clear hp0 hp1 hp2 hp3 hp4 hp5 hp6 hp7 hp8 hp9 hq0 hq1 hq2 hq3 hq4 hq5 hq6 hq7 hq8 hq9 hx0 hx1 hx2 hx3 hx4 hx5 hx6 hx7 hx8 hx9
 obtain ⟨hp0, hp1, hp2, hp3, hp4, hp5, hp6, hp7, hp8, hp9⟩ := HP.out.box
 obtain ⟨hq0, hq1, hq2, hq3, hq4, hq5, hq6, hq7, hq8, hq9⟩ := HQ.out.box
 obtain ⟨hx0, hx1, hx2, hx3, hx4, hx5, hx6, hx7, hx8, hx9⟩ := HX.out.box
 unfold vP
 go_wp2_with fail
 obtain ⟨n4, hn4⟩ : ∃ n, w9.heap.size = n := ⟨_, rfl⟩
 try rw [hn4]
 clear hp0 hp1 hp2 hp3 hp4 hp5 hp6 hp7 hp8 hp9 hq0 hq1 hq2 hq3 hq4 hq5 hq6 hq7 hq8 hq9 hx0 hx1 hx2 hx3 hx4 hx5 hx6 hx7 hx8 hx9
 replace HB := laB HB (.cells #[.int .i64 ZP.g, .int .i64 ZP.k, .slice A4 ZP.l.length c4, .int .i64 ZP.ht, .int .i64 ZP.hv, .int .i64 ZP.hc, .int .i64 ZP.ix, .int .i64 ZP.tm, .bool ZP.mrk, .bool ZP.hed] 26)
 replace HR1 := laR HR1 (.cells #[.int .i64 ZP.g, .int .i64 ZP.k, .slice A4 ZP.l.length c4, .int .i64 ZP.ht, .int .i64 ZP.hv, .int .i64 ZP.hc, .int .i64 ZP.ix, .int .i64 ZP.tm, .bool ZP.mrk, .bool ZP.hed] 26)
 replace HR2 := laR HR2 (.cells #[.int .i64 ZP.g, .int .i64 ZP.k, .slice A4 ZP.l.length c4, .int .i64 ZP.ht, .int .i64 ZP.hv, .int .i64 ZP.hc, .int .i64 ZP.ix, .int .i64 ZP.tm, .bool ZP.mrk, .bool ZP.hed] 26)
 replace HP := laP HP (.cells #[.int .i64 ZP.g, .int .i64 ZP.k, .slice A4 ZP.l.length c4, .int .i64 ZP.ht, .int .i64 ZP.hv, .int .i64 ZP.hc, .int .i64 ZP.ix, .int .i64 ZP.tm, .bool ZP.mrk, .bool ZP.hed] 26)
 replace HQ := laP HQ (.cells #[.int .i64 ZP.g, .int .i64 ZP.k, .slice A4 ZP.l.length c4, .int .i64 ZP.ht, .int .i64 ZP.hv, .int .i64 ZP.hc, .int .i64 ZP.ix, .int .i64 ZP.tm, .bool ZP.mrk, .bool ZP.hed] 26)
 replace HR3 := laR HR3 (.cells #[.int .i64 ZP.g, .int .i64 ZP.k, .slice A4 ZP.l.length c4, .int .i64 ZP.ht, .int .i64 ZP.hv, .int .i64 ZP.hc, .int .i64 ZP.ix, .int .i64 ZP.tm, .bool ZP.mrk, .bool ZP.hed] 26)
 replace HX := laP HX (.cells #[.int .i64 ZP.g, .int .i64 ZP.k, .slice A4 ZP.l.length c4, .int .i64 ZP.ht, .int .i64 ZP.hv, .int .i64 ZP.hc, .int .i64 ZP.ix, .int .i64 ZP.tm, .bool ZP.mrk, .bool ZP.hed] 26)
 replace HR4 := laR HR4 (.cells #[.int .i64 ZP.g, .int .i64 ZP.k, .slice A4 ZP.l.length c4, .int .i64 ZP.ht, .int .i64 ZP.hv, .int .i64 ZP.hc, .int .i64 ZP.ix, .int .i64 ZP.tm, .bool ZP.mrk, .bool ZP.hed] 26)
 have HY : Aside0 (BlkP ZP A4 c4 n4 (w9.alloc (.cells #[.int .i64 ZP.g, .int .i64 ZP.k, .slice A4 ZP.l.length c4, .int .i64 ZP.ht, .int .i64 ZP.hv, .int .i64 ZP.hc, .int .i64 ZP.ix, .int .i64 ZP.tm, .bool ZP.mrk, .bool ZP.hed] 26))) := ⟨(by have hq := BlkP.new ZP A4 c4 w9; rw [hn4] at hq; exact hq)⟩
 obtain ⟨W4, hW4⟩ : ∃ W, w9.alloc (.cells #[.int .i64 ZP.g, .int .i64 ZP.k, .slice A4 ZP.l.length c4, .int .i64 ZP.ht, .int .i64 ZP.hv, .int .i64 ZP.hc, .int .i64 ZP.ix, .int .i64 ZP.tm, .bool ZP.mrk, .bool ZP.hed] 26) = W := ⟨_, rfl⟩
 rw [hW4] at HB HR1 HR2 HP HQ HR3 HX HR4 HY ⊢
 clear hW4
 clear hn4
 have hC8 := HC8.out
 simp only [Try.f5] at hC8
 subst hC8
 clear HC8
 go_wp2_with fail
 go_ret
 exact ⟨rfl, HB.out.b⟩
set_option maxHeartbeats 8000000 in
set_option maxRecDepth 100000 in
theorem back4_e (p : Prt) (A : Option Addr) (c : Nat) (q : Prt) (A2 : Option Addr) (c2 : Nat) (s : ByteArray) (ct : Int) (w : World) (hp : Rd w A c p.l) (hq : Rd w A2 c2 q.l) (hs : s.size ≤ 140737488351232) (hc8 : 0 ≤ ct ∧ ct ≤ 255) (hf1 : (∀ (A : Option Addr) (c : Nat) (w : World), Rd w A c p.l → Calls Try.prog 11 #[vP p A c] w fun e w' => e = .returned (.bool true) ∧ Below w.heap.size w w')) (hf2 : (∀ (A : Option Addr) (c : Nat) (w : World), Rd w A c q.l → Calls Try.prog 11 #[vP q A c] w fun e w' => e = .returned (.bool true) ∧ Below w.heap.size w w')) (hz : ¬ 60 < s.size) (hpb : isP p = true) (hqb : isP q = true) (hsm : sameP p q = true) :
  Calls Try.prog 5 #[vP p A c, vP q A2 c2, .string s, .int .u8 ct] w fun e w' => e = .returned (.bool true) ∧ Below w.heap.size w w' := by
 have HF1 := Aside0.mk hf1
 have HF2 := Aside0.mk hf2
 have HS := Aside0.mk hs
 have HC8 := Aside0.mk hc8
 have dz1 : decide ((s.size : Int) > 60) = false := decide_eq_false (by omega)
 have dz2 : decide (60 < (s.size : Int)) = false := dz1
 have dz3 : decide (60 < s.size) = false := decide_eq_false (by omega)
 have HPB := Aside0.mk hpb
 obtain ⟨S, hS⟩ : ∃ S, bytesP p = S := ⟨_, rfl⟩
 have ES := Aside0.mk hS
 have HBR : Aside0 (bytesR p = (S, 0)) := ⟨by unfold bytesR; rw [if_pos hpb, hS]⟩
 have HZS : Aside0 (2 ≤ S.size ∧ S.size ≤ 1000) := ⟨by rw [← hS]; exact bytesP_sz hpb⟩
 have HRB : Aside0 (progR (S ++ s) = (p, (S.size, 0))) := ⟨by rw [← hS]; exact read_back hpb s⟩
 obtain ⟨T, y, hT⟩ : ∃ T y, bytesR q = (T, y) := ⟨_, _, rfl⟩
 have HBT := Aside0.mk hT
 have hy : y = 0 := by unfold bytesR at hT; rw [if_pos hqb] at hT; injection hT with h1 h2; exact h2.symm
 subst hy
 have hTT : bytesP q = T := by unfold bytesR at hT; rw [if_pos hqb] at hT; injection hT with h1 h2
 have hST : S = T := by rw [← hS, ← hTT, sameP_iff.1 hsm]
 subst hST
 clear hTT
 have HSM := Aside0.mk hsm
 have hm0 : ((ct : Int) : Int).tmod (S.size : Int) = ((ct.toNat % S.size : Nat) : Int) := tmodN hc8.1
 obtain ⟨m, hm⟩ : ∃ m, ct.toNat % S.size = m := ⟨_, rfl⟩
 have HM : Aside0 (m < S.size) := ⟨by rw [← hm]; exact Nat.mod_lt _ (by have := HZS.out; omega)⟩
 rw [hm] at hm0
 have HRC : Aside0 (progR (S.extract 0 m) = (ZP, (0, 10))) := ⟨by rw [← hS]; exact read_cut hpb (by rw [hS]; exact HM.out)⟩
 have hct : IntKind.i64.wrap ct = ct := by rw [i64_w]; unfold wrap64; have := HC8.out; omega
 have hct2 : IntKind.i64.wrap (m : Int) = (m : Int) := by rw [i64_w]; unfold wrap64; have := HM.out; have := HZS.out; omega
 have hne0 : ((S.size : Int) == 0) = false := beq_eq_false_iff_ne.2 (by have := HZS.out; omega)
 have hne1 : (S.size == 0) = false := beq_eq_false_iff_ne.2 (by have := HZS.out; omega)
 have hne2 : (S.size = 0) = False := eq_false (by have := HZS.out; omega)
 have hne3 : ((S.size : Int) = 0) = False := eq_false (by have := HZS.out; omega)
 have hs60 : s.size ≤ 60 := by omega
 have hsum : (9223372036854775807 < S.size + s.size) = False := eq_false (by have := HZS.out; omega)
 have hSS : Aside0 ((S ++ s).size ≤ 140737488351232) := ⟨by rw [CodeM.app_size]; have := HZS.out; omega⟩
 have hl2 : decide (S.size < 2) = false := decide_eq_false (by have := HZS.out; omega)
 have hl3 : decide ((S.size : Int) < 2) = false := decide_eq_false (by have := HZS.out; omega)
 have hmz : (0 : Int) ≤ (m : Int) := by omega
 have hmz2 : (m : Int) ≤ (S.size : Int) := by have := HM.out; omega
 have hmz3 : m ≤ S.size := by have := HM.out; omega
 clear hS hT hm hs60 hsm
 have HB := Aside0.mk (Bel.refl w)
 have HR1 := Aside0.mk (hp)
 have HR2 := Aside0.mk (hq)
 clear hp hq hf1 hs hc8 hf2 hz hpb hqb
 unfold vP
 go_enter Try.func5, Try.ntmps5
 obtain ⟨C1, hC1⟩ : ∃ C, (match Try.f5.body with | some (.seq _ c) => c | _ => .skip) = C := ⟨_, rfl⟩
 have HC1 := Aside0.mk hC1
 simp only [Try.f5] at hC1
 rw [hC1]
 clear hC1
 go_wp2_with fail
 obtain ⟨s0, hs0⟩ : ∃ n, w.heap.size = n := ⟨_, rfl⟩
 replace HB := laB HB (.cells #[.int .i64 p.g, .int .i64 p.k, .slice A p.l.length c, .int .i64 p.ht, .int .i64 p.hv, .int .i64 p.hc, .int .i64 p.ix, .int .i64 p.tm, .bool p.mrk, .bool p.hed] 26)
 replace HR1 := laR HR1 (.cells #[.int .i64 p.g, .int .i64 p.k, .slice A p.l.length c, .int .i64 p.ht, .int .i64 p.hv, .int .i64 p.hc, .int .i64 p.ix, .int .i64 p.tm, .bool p.mrk, .bool p.hed] 26)
 replace HR2 := laR HR2 (.cells #[.int .i64 p.g, .int .i64 p.k, .slice A p.l.length c, .int .i64 p.ht, .int .i64 p.hv, .int .i64 p.hc, .int .i64 p.ix, .int .i64 p.tm, .bool p.mrk, .bool p.hed] 26)
 have HP : Aside0 (BlkP p A c s0 (w.alloc (.cells #[.int .i64 p.g, .int .i64 p.k, .slice A p.l.length c, .int .i64 p.ht, .int .i64 p.hv, .int .i64 p.hc, .int .i64 p.ix, .int .i64 p.tm, .bool p.mrk, .bool p.hed] 26))) := ⟨(by have hq := BlkP.new p A c w; simp only [World.size_alloc, hs0] at hq; exact hq)⟩
 replace HB := laB HB (.cells #[.int .i64 q.g, .int .i64 q.k, .slice A2 q.l.length c2, .int .i64 q.ht, .int .i64 q.hv, .int .i64 q.hc, .int .i64 q.ix, .int .i64 q.tm, .bool q.mrk, .bool q.hed] 26)
 replace HR1 := laR HR1 (.cells #[.int .i64 q.g, .int .i64 q.k, .slice A2 q.l.length c2, .int .i64 q.ht, .int .i64 q.hv, .int .i64 q.hc, .int .i64 q.ix, .int .i64 q.tm, .bool q.mrk, .bool q.hed] 26)
 replace HR2 := laR HR2 (.cells #[.int .i64 q.g, .int .i64 q.k, .slice A2 q.l.length c2, .int .i64 q.ht, .int .i64 q.hv, .int .i64 q.hc, .int .i64 q.ix, .int .i64 q.tm, .bool q.mrk, .bool q.hed] 26)
 replace HP := laP HP (.cells #[.int .i64 q.g, .int .i64 q.k, .slice A2 q.l.length c2, .int .i64 q.ht, .int .i64 q.hv, .int .i64 q.hc, .int .i64 q.ix, .int .i64 q.tm, .bool q.mrk, .bool q.hed] 26)
 have HQ : Aside0 (BlkP q A2 c2 (s0 + 1) ((w.alloc (.cells #[.int .i64 p.g, .int .i64 p.k, .slice A p.l.length c, .int .i64 p.ht, .int .i64 p.hv, .int .i64 p.hc, .int .i64 p.ix, .int .i64 p.tm, .bool p.mrk, .bool p.hed] 26)).alloc (.cells #[.int .i64 q.g, .int .i64 q.k, .slice A2 q.l.length c2, .int .i64 q.ht, .int .i64 q.hv, .int .i64 q.hc, .int .i64 q.ix, .int .i64 q.tm, .bool q.mrk, .bool q.hed] 26))) := ⟨(by have hq := BlkP.new q A2 c2 (w.alloc (.cells #[.int .i64 p.g, .int .i64 p.k, .slice A p.l.length c, .int .i64 p.ht, .int .i64 p.hv, .int .i64 p.hc, .int .i64 p.ix, .int .i64 p.tm, .bool p.mrk, .bool p.hed] 26)); simp only [World.size_alloc, hs0] at hq; exact hq)⟩
 try simp only [World.size_alloc, hs0]
 obtain ⟨W0, hW⟩ : ∃ X, ((w.alloc (.cells #[.int .i64 p.g, .int .i64 p.k, .slice A p.l.length c, .int .i64 p.ht, .int .i64 p.hv, .int .i64 p.hc, .int .i64 p.ix, .int .i64 p.tm, .bool p.mrk, .bool p.hed] 26)).alloc (.cells #[.int .i64 q.g, .int .i64 q.k, .slice A2 q.l.length c2, .int .i64 q.ht, .int .i64 q.hv, .int .i64 q.hc, .int .i64 q.ix, .int .i64 q.tm, .bool q.mrk, .bool q.hed] 26)) = X := ⟨_, rfl⟩
 rw [hW] at HB HR1 HR2 HP HQ ⊢
 clear hW hs0
 obtain ⟨hp0, hp1, hp2, hp3, hp4, hp5, hp6, hp7, hp8, hp9⟩ := HP.out.box
 obtain ⟨hq0, hq1, hq2, hq3, hq4, hq5, hq6, hq7, hq8, hq9⟩ := HQ.out.box
 have hC1 := HC1.out
 simp only [Try.f5] at hC1
 subst hC1
 clear HC1
 obtain ⟨C6, hC6⟩ : ∃ C, (match Try.f5.body with | some (.seq _ (.seq _ (.seq _ (.seq _ (.seq _ (.seq _ c)))))) => c | _ => .skip) = C := ⟨_, rfl⟩
 have HC6 := Aside0.mk hC6
 simp only [Try.f5] at hC6
 rw [hC6]
 clear hC6
 go_wp2_with fail
 go_at_call 10
 refine (known4 _).mono ?_
 rintro e w1 ⟨rfl, hw1⟩
 replace HB := lbB HB hw1
 replace HR1 := lbR HR1 hw1
 replace HR2 := lbR HR2 hw1
 replace HP := lbP HP hw1
 replace HQ := lbP HQ hw1
 clear hw1
 clear hp0 hp1 hp2 hp3 hp4 hp5 hp6 hp7 hp8 hp9 hq0 hq1 hq2 hq3 hq4 hq5 hq6 hq7 hq8 hq9
 obtain ⟨hp0, hp1, hp2, hp3, hp4, hp5, hp6, hp7, hp8, hp9⟩ := HP.out.box
 obtain ⟨hq0, hq1, hq2, hq3, hq4, hq5, hq6, hq7, hq8, hq9⟩ := HQ.out.box
 go_wp2_with fail
 go_at_call 11
 refine (HF1.out A c _ HR1.out).mono ?_
 rintro e w2 ⟨rfl, hw2⟩
 replace HB := lbB HB hw2
 replace HR1 := lbR HR1 hw2
 replace HR2 := lbR HR2 hw2
 replace HP := lbP HP hw2
 replace HQ := lbP HQ hw2
 clear hw2
 clear hp0 hp1 hp2 hp3 hp4 hp5 hp6 hp7 hp8 hp9 hq0 hq1 hq2 hq3 hq4 hq5 hq6 hq7 hq8 hq9
 obtain ⟨hp0, hp1, hp2, hp3, hp4, hp5, hp6, hp7, hp8, hp9⟩ := HP.out.box
 obtain ⟨hq0, hq1, hq2, hq3, hq4, hq5, hq6, hq7, hq8, hq9⟩ := HQ.out.box
 go_wp2_with fail
 go_at_call 11
 refine (HF2.out A2 c2 _ HR2.out).mono ?_
 rintro e w3 ⟨rfl, hw3⟩
 replace HB := lbB HB hw3
 replace HR1 := lbR HR1 hw3
 replace HR2 := lbR HR2 hw3
 replace HP := lbP HP hw3
 replace HQ := lbP HQ hw3
 clear hw3
 clear hp0 hp1 hp2 hp3 hp4 hp5 hp6 hp7 hp8 hp9 hq0 hq1 hq2 hq3 hq4 hq5 hq6 hq7 hq8 hq9
 obtain ⟨hp0, hp1, hp2, hp3, hp4, hp5, hp6, hp7, hp8, hp9⟩ := HP.out.box
 obtain ⟨hq0, hq1, hq2, hq3, hq4, hq5, hq6, hq7, hq8, hq9⟩ := HQ.out.box
 go_wp2_with fail
 go_at_call 15
 refine (isp4 p A c _ HR1.out HPB.out).mono ?_
 rintro e w4 ⟨rfl, hw4⟩
 replace HB := lbB HB hw4
 replace HR1 := lbR HR1 hw4
 replace HR2 := lbR HR2 hw4
 replace HP := lbP HP hw4
 replace HQ := lbP HQ hw4
 clear hw4
 clear hp0 hp1 hp2 hp3 hp4 hp5 hp6 hp7 hp8 hp9 hq0 hq1 hq2 hq3 hq4 hq5 hq6 hq7 hq8 hq9
 obtain ⟨hp0, hp1, hp2, hp3, hp4, hp5, hp6, hp7, hp8, hp9⟩ := HP.out.box
 obtain ⟨hq0, hq1, hq2, hq3, hq4, hq5, hq6, hq7, hq8, hq9⟩ := HQ.out.box
 go_wp2_with fail
 go_at_call 12
 refine (part_Bytes p A c _ HR1.out HBR.out).mono ?_
 rintro e w5 ⟨rfl, hw5⟩
 replace HB := lbB HB hw5
 replace HR1 := lbR HR1 hw5
 replace HR2 := lbR HR2 hw5
 replace HP := lbP HP hw5
 replace HQ := lbP HQ hw5
 clear hw5
 clear hp0 hp1 hp2 hp3 hp4 hp5 hp6 hp7 hp8 hp9 hq0 hq1 hq2 hq3 hq4 hq5 hq6 hq7 hq8 hq9
 obtain ⟨hp0, hp1, hp2, hp3, hp4, hp5, hp6, hp7, hp8, hp9⟩ := HP.out.box
 obtain ⟨hq0, hq1, hq2, hq3, hq4, hq5, hq6, hq7, hq8, hq9⟩ := HQ.out.box
 go_wp2_with fail
 go_at_call 12
 refine (part_Bytes q A2 c2 _ HR2.out HBT.out).mono ?_
 rintro e w6 ⟨rfl, hw6⟩
 replace HB := lbB HB hw6
 replace HR1 := lbR HR1 hw6
 replace HR2 := lbR HR2 hw6
 replace HP := lbP HP hw6
 replace HQ := lbP HQ hw6
 clear hw6
 clear hp0 hp1 hp2 hp3 hp4 hp5 hp6 hp7 hp8 hp9 hq0 hq1 hq2 hq3 hq4 hq5 hq6 hq7 hq8 hq9
 obtain ⟨hp0, hp1, hp2, hp3, hp4, hp5, hp6, hp7, hp8, hp9⟩ := HP.out.box
 obtain ⟨hq0, hq1, hq2, hq3, hq4, hq5, hq6, hq7, hq8, hq9⟩ := HQ.out.box
 go_wp2_with fail
 go_at_call 20
 refine (readc (S ++ s) _ hSS.out HRB.out).mono ?_
 rintro e w7 ⟨A3, c3, rfl, hrd, hw7⟩
 replace HB := lbB HB hw7
 replace HR1 := lbR HR1 hw7
 replace HR2 := lbR HR2 hw7
 replace HP := lbP HP hw7
 replace HQ := lbP HQ hw7
 have HR3 := Aside0.mk hrd
 clear hrd
 clear hw7
 clear hp0 hp1 hp2 hp3 hp4 hp5 hp6 hp7 hp8 hp9 hq0 hq1 hq2 hq3 hq4 hq5 hq6 hq7 hq8 hq9
 obtain ⟨hp0, hp1, hp2, hp3, hp4, hp5, hp6, hp7, hp8, hp9⟩ := HP.out.box
 obtain ⟨hq0, hq1, hq2, hq3, hq4, hq5, hq6, hq7, hq8, hq9⟩ := HQ.out.box
 unfold vP
 go_wp2_with fail
 obtain ⟨n3, hn3⟩ : ∃ n, w7.heap.size = n := ⟨_, rfl⟩
 try rw [hn3]
 clear hp0 hp1 hp2 hp3 hp4 hp5 hp6 hp7 hp8 hp9 hq0 hq1 hq2 hq3 hq4 hq5 hq6 hq7 hq8 hq9
 replace HB := laB HB (.cells #[.int .i64 p.g, .int .i64 p.k, .slice A3 p.l.length c3, .int .i64 p.ht, .int .i64 p.hv, .int .i64 p.hc, .int .i64 p.ix, .int .i64 p.tm, .bool p.mrk, .bool p.hed] 26)
 replace HR1 := laR HR1 (.cells #[.int .i64 p.g, .int .i64 p.k, .slice A3 p.l.length c3, .int .i64 p.ht, .int .i64 p.hv, .int .i64 p.hc, .int .i64 p.ix, .int .i64 p.tm, .bool p.mrk, .bool p.hed] 26)
 replace HR2 := laR HR2 (.cells #[.int .i64 p.g, .int .i64 p.k, .slice A3 p.l.length c3, .int .i64 p.ht, .int .i64 p.hv, .int .i64 p.hc, .int .i64 p.ix, .int .i64 p.tm, .bool p.mrk, .bool p.hed] 26)
 replace HP := laP HP (.cells #[.int .i64 p.g, .int .i64 p.k, .slice A3 p.l.length c3, .int .i64 p.ht, .int .i64 p.hv, .int .i64 p.hc, .int .i64 p.ix, .int .i64 p.tm, .bool p.mrk, .bool p.hed] 26)
 replace HQ := laP HQ (.cells #[.int .i64 p.g, .int .i64 p.k, .slice A3 p.l.length c3, .int .i64 p.ht, .int .i64 p.hv, .int .i64 p.hc, .int .i64 p.ix, .int .i64 p.tm, .bool p.mrk, .bool p.hed] 26)
 replace HR3 := laR HR3 (.cells #[.int .i64 p.g, .int .i64 p.k, .slice A3 p.l.length c3, .int .i64 p.ht, .int .i64 p.hv, .int .i64 p.hc, .int .i64 p.ix, .int .i64 p.tm, .bool p.mrk, .bool p.hed] 26)
 have HX : Aside0 (BlkP p A3 c3 n3 (w7.alloc (.cells #[.int .i64 p.g, .int .i64 p.k, .slice A3 p.l.length c3, .int .i64 p.ht, .int .i64 p.hv, .int .i64 p.hc, .int .i64 p.ix, .int .i64 p.tm, .bool p.mrk, .bool p.hed] 26))) := ⟨(by have hq := BlkP.new p A3 c3 w7; rw [hn3] at hq; exact hq)⟩
 obtain ⟨W3, hW3⟩ : ∃ W, w7.alloc (.cells #[.int .i64 p.g, .int .i64 p.k, .slice A3 p.l.length c3, .int .i64 p.ht, .int .i64 p.hv, .int .i64 p.hc, .int .i64 p.ix, .int .i64 p.tm, .bool p.mrk, .bool p.hed] 26) = W := ⟨_, rfl⟩
 rw [hW3] at HB HR1 HR2 HP HQ HR3 HX ⊢
 clear hW3
 clear hn3
 have hC6 := HC6.out
 simp only [Try.f5] at hC6
 subst hC6
 clear HC6
 obtain ⟨C7, hC7⟩ : ∃ C, (match Try.f5.body with | some (.seq _ (.seq _ (.seq _ (.seq _ (.seq _ (.seq _ (.seq _ c))))))) => c | _ => .skip) = C := ⟨_, rfl⟩
 have HC7 := Aside0.mk hC7
 simp only [Try.f5] at hC7
 rw [hC7]
 clear hC7
 obtain ⟨hp0, hp1, hp2, hp3, hp4, hp5, hp6, hp7, hp8, hp9⟩ := HP.out.box
 obtain ⟨hq0, hq1, hq2, hq3, hq4, hq5, hq6, hq7, hq8, hq9⟩ := HQ.out.box
 obtain ⟨hx0, hx1, hx2, hx3, hx4, hx5, hx6, hx7, hx8, hx9⟩ := HX.out.box
 go_wp2_with fail
 go_at_call 19
 refine (rsamep p p A3 c3 A c _ HR3.out HR1.out (sameP_iff.2 rfl)).mono ?_
 rintro e w8 ⟨rfl, hw8⟩
 replace HB := lbB HB hw8
 replace HR1 := lbR HR1 hw8
 replace HR2 := lbR HR2 hw8
 replace HP := lbP HP hw8
 replace HQ := lbP HQ hw8
 replace HR3 := lbR HR3 hw8
 replace HX := lbP HX hw8
 clear hw8
 clear hp0 hp1 hp2 hp3 hp4 hp5 hp6 hp7 hp8 hp9 hq0 hq1 hq2 hq3 hq4 hq5 hq6 hq7 hq8 hq9 hx0 hx1 hx2 hx3 hx4 hx5 hx6 hx7 hx8 hx9
 obtain ⟨hp0, hp1, hp2, hp3, hp4, hp5, hp6, hp7, hp8, hp9⟩ := HP.out.box
 obtain ⟨hq0, hq1, hq2, hq3, hq4, hq5, hq6, hq7, hq8, hq9⟩ := HQ.out.box
 obtain ⟨hx0, hx1, hx2, hx3, hx4, hx5, hx6, hx7, hx8, hx9⟩ := HX.out.box
 go_wp2_with fail
 go_at_call 19
 refine (rsamep p q A c A2 c2 _ HR1.out HR2.out HSM.out).mono ?_
 rintro e w9 ⟨rfl, hw9⟩
 replace HB := lbB HB hw9
 replace HR1 := lbR HR1 hw9
 replace HR2 := lbR HR2 hw9
 replace HP := lbP HP hw9
 replace HQ := lbP HQ hw9
 replace HR3 := lbR HR3 hw9
 replace HX := lbP HX hw9
 clear hw9
 clear hp0 hp1 hp2 hp3 hp4 hp5 hp6 hp7 hp8 hp9 hq0 hq1 hq2 hq3 hq4 hq5 hq6 hq7 hq8 hq9 hx0 hx1 hx2 hx3 hx4 hx5 hx6 hx7 hx8 hx9
 obtain ⟨hp0, hp1, hp2, hp3, hp4, hp5, hp6, hp7, hp8, hp9⟩ := HP.out.box
 obtain ⟨hq0, hq1, hq2, hq3, hq4, hq5, hq6, hq7, hq8, hq9⟩ := HQ.out.box
 obtain ⟨hx0, hx1, hx2, hx3, hx4, hx5, hx6, hx7, hx8, hx9⟩ := HX.out.box
 go_wp2_with fail
 have hC7 := HC7.out
 simp only [Try.f5] at hC7
 subst hC7
 clear HC7
 obtain ⟨C8, hC8⟩ : ∃ C, (match Try.f5.body with | some (.seq _ (.seq _ (.seq _ (.seq _ (.seq _ (.seq _ (.seq _ (.seq _ c)))))))) => c | _ => .skip) = C := ⟨_, rfl⟩
 have HC8 := Aside0.mk hC8
 simp only [Try.f5] at hC8
 rw [hC8]
 clear hC8
 go_wp2_with fail
 go_at_call 20
 refine (readc (S.extract 0 m) _ (by have h1 := HM.out; have h2 := HZS.out; have h3 : (S.extract 0 m).size ≤ m := by { rw [← CodeM.ba_len, CodeM.ext_data, List.drop_zero, List.length_take]; omega }; omega) HRC.out).mono ?_
 rintro e w10 ⟨A4, c4, rfl, hrd, hw10⟩
 replace HB := lbB HB hw10
 replace HR1 := lbR HR1 hw10
 replace HR2 := lbR HR2 hw10
 replace HP := lbP HP hw10
 replace HQ := lbP HQ hw10
 replace HR3 := lbR HR3 hw10
 replace HX := lbP HX hw10
 have HR4 := Aside0.mk hrd
 clear hrd
 clear hw10
 clear hp0 hp1 hp2 hp3 hp4 hp5 hp6 hp7 hp8 hp9 hq0 hq1 hq2 hq3 hq4 hq5 hq6 hq7 hq8 hq9 hx0 hx1 hx2 hx3 hx4 hx5 hx6 hx7 hx8 hx9
 obtain ⟨hp0, hp1, hp2, hp3, hp4, hp5, hp6, hp7, hp8, hp9⟩ := HP.out.box
 obtain ⟨hq0, hq1, hq2, hq3, hq4, hq5, hq6, hq7, hq8, hq9⟩ := HQ.out.box
 obtain ⟨hx0, hx1, hx2, hx3, hx4, hx5, hx6, hx7, hx8, hx9⟩ := HX.out.box
 unfold vP
 go_wp2_with fail
 obtain ⟨n4, hn4⟩ : ∃ n, w10.heap.size = n := ⟨_, rfl⟩
 try rw [hn4]
 clear hp0 hp1 hp2 hp3 hp4 hp5 hp6 hp7 hp8 hp9 hq0 hq1 hq2 hq3 hq4 hq5 hq6 hq7 hq8 hq9 hx0 hx1 hx2 hx3 hx4 hx5 hx6 hx7 hx8 hx9
 replace HB := laB HB (.cells #[.int .i64 ZP.g, .int .i64 ZP.k, .slice A4 ZP.l.length c4, .int .i64 ZP.ht, .int .i64 ZP.hv, .int .i64 ZP.hc, .int .i64 ZP.ix, .int .i64 ZP.tm, .bool ZP.mrk, .bool ZP.hed] 26)
 replace HR1 := laR HR1 (.cells #[.int .i64 ZP.g, .int .i64 ZP.k, .slice A4 ZP.l.length c4, .int .i64 ZP.ht, .int .i64 ZP.hv, .int .i64 ZP.hc, .int .i64 ZP.ix, .int .i64 ZP.tm, .bool ZP.mrk, .bool ZP.hed] 26)
 replace HR2 := laR HR2 (.cells #[.int .i64 ZP.g, .int .i64 ZP.k, .slice A4 ZP.l.length c4, .int .i64 ZP.ht, .int .i64 ZP.hv, .int .i64 ZP.hc, .int .i64 ZP.ix, .int .i64 ZP.tm, .bool ZP.mrk, .bool ZP.hed] 26)
 replace HP := laP HP (.cells #[.int .i64 ZP.g, .int .i64 ZP.k, .slice A4 ZP.l.length c4, .int .i64 ZP.ht, .int .i64 ZP.hv, .int .i64 ZP.hc, .int .i64 ZP.ix, .int .i64 ZP.tm, .bool ZP.mrk, .bool ZP.hed] 26)
 replace HQ := laP HQ (.cells #[.int .i64 ZP.g, .int .i64 ZP.k, .slice A4 ZP.l.length c4, .int .i64 ZP.ht, .int .i64 ZP.hv, .int .i64 ZP.hc, .int .i64 ZP.ix, .int .i64 ZP.tm, .bool ZP.mrk, .bool ZP.hed] 26)
 replace HR3 := laR HR3 (.cells #[.int .i64 ZP.g, .int .i64 ZP.k, .slice A4 ZP.l.length c4, .int .i64 ZP.ht, .int .i64 ZP.hv, .int .i64 ZP.hc, .int .i64 ZP.ix, .int .i64 ZP.tm, .bool ZP.mrk, .bool ZP.hed] 26)
 replace HX := laP HX (.cells #[.int .i64 ZP.g, .int .i64 ZP.k, .slice A4 ZP.l.length c4, .int .i64 ZP.ht, .int .i64 ZP.hv, .int .i64 ZP.hc, .int .i64 ZP.ix, .int .i64 ZP.tm, .bool ZP.mrk, .bool ZP.hed] 26)
 replace HR4 := laR HR4 (.cells #[.int .i64 ZP.g, .int .i64 ZP.k, .slice A4 ZP.l.length c4, .int .i64 ZP.ht, .int .i64 ZP.hv, .int .i64 ZP.hc, .int .i64 ZP.ix, .int .i64 ZP.tm, .bool ZP.mrk, .bool ZP.hed] 26)
 have HY : Aside0 (BlkP ZP A4 c4 n4 (w10.alloc (.cells #[.int .i64 ZP.g, .int .i64 ZP.k, .slice A4 ZP.l.length c4, .int .i64 ZP.ht, .int .i64 ZP.hv, .int .i64 ZP.hc, .int .i64 ZP.ix, .int .i64 ZP.tm, .bool ZP.mrk, .bool ZP.hed] 26))) := ⟨(by have hq := BlkP.new ZP A4 c4 w10; rw [hn4] at hq; exact hq)⟩
 obtain ⟨W4, hW4⟩ : ∃ W, w10.alloc (.cells #[.int .i64 ZP.g, .int .i64 ZP.k, .slice A4 ZP.l.length c4, .int .i64 ZP.ht, .int .i64 ZP.hv, .int .i64 ZP.hc, .int .i64 ZP.ix, .int .i64 ZP.tm, .bool ZP.mrk, .bool ZP.hed] 26) = W := ⟨_, rfl⟩
 rw [hW4] at HB HR1 HR2 HP HQ HR3 HX HR4 HY ⊢
 clear hW4
 clear hn4
 have hC8 := HC8.out
 simp only [Try.f5] at hC8
 subst hC8
 clear HC8
 go_wp2_with fail
 go_ret
 exact ⟨rfl, HB.out.b⟩
set_option maxHeartbeats 8000000 in
set_option maxRecDepth 100000 in
theorem back4_n (p : Prt) (A : Option Addr) (c : Nat) (q : Prt) (A2 : Option Addr) (c2 : Nat) (s : ByteArray) (ct : Int) (w : World) (hp : Rd w A c p.l) (hq : Rd w A2 c2 q.l) (hs : s.size ≤ 140737488351232) (hc8 : 0 ≤ ct ∧ ct ≤ 255) (hf1 : (∀ (A : Option Addr) (c : Nat) (w : World), Rd w A c p.l → Calls Try.prog 11 #[vP p A c] w fun e w' => e = .returned (.bool true) ∧ Below w.heap.size w w')) (hf2 : (∀ (A : Option Addr) (c : Nat) (w : World), Rd w A c q.l → Calls Try.prog 11 #[vP q A c] w fun e w' => e = .returned (.bool true) ∧ Below w.heap.size w w')) (hz : ¬ 60 < s.size) (hpb : isP p = true) (hqb : isP q = true) (hsm : sameP p q = false) :
  Calls Try.prog 5 #[vP p A c, vP q A2 c2, .string s, .int .u8 ct] w fun e w' => e = .returned (.bool true) ∧ Below w.heap.size w w' := by
 have HF1 := Aside0.mk hf1
 have HF2 := Aside0.mk hf2
 have HS := Aside0.mk hs
 have HC8 := Aside0.mk hc8
 have dz1 : decide ((s.size : Int) > 60) = false := decide_eq_false (by omega)
 have dz2 : decide (60 < (s.size : Int)) = false := dz1
 have dz3 : decide (60 < s.size) = false := decide_eq_false (by omega)
 have HPB := Aside0.mk hpb
 obtain ⟨S, hS⟩ : ∃ S, bytesP p = S := ⟨_, rfl⟩
 have ES := Aside0.mk hS
 have HBR : Aside0 (bytesR p = (S, 0)) := ⟨by unfold bytesR; rw [if_pos hpb, hS]⟩
 have HZS : Aside0 (2 ≤ S.size ∧ S.size ≤ 1000) := ⟨by rw [← hS]; exact bytesP_sz hpb⟩
 have HRB : Aside0 (progR (S ++ s) = (p, (S.size, 0))) := ⟨by rw [← hS]; exact read_back hpb s⟩
 obtain ⟨T, y, hT⟩ : ∃ T y, bytesR q = (T, y) := ⟨_, _, rfl⟩
 have HBT := Aside0.mk hT
 have hy : y = 0 := by unfold bytesR at hT; rw [if_pos hqb] at hT; injection hT with h1 h2; exact h2.symm
 subst hy
 have hTT : bytesP q = T := by unfold bytesR at hT; rw [if_pos hqb] at hT; injection hT with h1 h2
 have hne : S ≠ T := fun h => by have h1 := bytes_inj hpb hqb (by rw [hS, hTT, h]); rw [h1, sameP_iff.2 rfl] at hsm; cases hsm
 have heq2 : (S.toList == T.toList) = false := beq_eq_false_iff_ne.2 (fun h => hne (CodeM.ba_toList h))
 have heq3 : decide (S = T) = false := decide_eq_false hne
 clear hTT hne
 have HSM := Aside0.mk hsm
 have hm0 : ((ct : Int) : Int).tmod (S.size : Int) = ((ct.toNat % S.size : Nat) : Int) := tmodN hc8.1
 obtain ⟨m, hm⟩ : ∃ m, ct.toNat % S.size = m := ⟨_, rfl⟩
 have HM : Aside0 (m < S.size) := ⟨by rw [← hm]; exact Nat.mod_lt _ (by have := HZS.out; omega)⟩
 rw [hm] at hm0
 have HRC : Aside0 (progR (S.extract 0 m) = (ZP, (0, 10))) := ⟨by rw [← hS]; exact read_cut hpb (by rw [hS]; exact HM.out)⟩
 have hct : IntKind.i64.wrap ct = ct := by rw [i64_w]; unfold wrap64; have := HC8.out; omega
 have hct2 : IntKind.i64.wrap (m : Int) = (m : Int) := by rw [i64_w]; unfold wrap64; have := HM.out; have := HZS.out; omega
 have hne0 : ((S.size : Int) == 0) = false := beq_eq_false_iff_ne.2 (by have := HZS.out; omega)
 have hne1 : (S.size == 0) = false := beq_eq_false_iff_ne.2 (by have := HZS.out; omega)
 have hne2 : (S.size = 0) = False := eq_false (by have := HZS.out; omega)
 have hne3 : ((S.size : Int) = 0) = False := eq_false (by have := HZS.out; omega)
 have hs60 : s.size ≤ 60 := by omega
 have hsum : (9223372036854775807 < S.size + s.size) = False := eq_false (by have := HZS.out; omega)
 have hSS : Aside0 ((S ++ s).size ≤ 140737488351232) := ⟨by rw [CodeM.app_size]; have := HZS.out; omega⟩
 have hl2 : decide (S.size < 2) = false := decide_eq_false (by have := HZS.out; omega)
 have hl3 : decide ((S.size : Int) < 2) = false := decide_eq_false (by have := HZS.out; omega)
 have hmz : (0 : Int) ≤ (m : Int) := by omega
 have hmz2 : (m : Int) ≤ (S.size : Int) := by have := HM.out; omega
 have hmz3 : m ≤ S.size := by have := HM.out; omega
 clear hS hT hm hs60 hsm
 have HB := Aside0.mk (Bel.refl w)
 have HR1 := Aside0.mk (hp)
 have HR2 := Aside0.mk (hq)
 clear hp hq hf1 hs hc8 hf2 hz hpb hqb
 unfold vP
 go_enter Try.func5, Try.ntmps5
 obtain ⟨C1, hC1⟩ : ∃ C, (match Try.f5.body with | some (.seq _ c) => c | _ => .skip) = C := ⟨_, rfl⟩
 have HC1 := Aside0.mk hC1
 simp only [Try.f5] at hC1
 rw [hC1]
 clear hC1
 go_wp2_with fail
 obtain ⟨s0, hs0⟩ : ∃ n, w.heap.size = n := ⟨_, rfl⟩
 replace HB := laB HB (.cells #[.int .i64 p.g, .int .i64 p.k, .slice A p.l.length c, .int .i64 p.ht, .int .i64 p.hv, .int .i64 p.hc, .int .i64 p.ix, .int .i64 p.tm, .bool p.mrk, .bool p.hed] 26)
 replace HR1 := laR HR1 (.cells #[.int .i64 p.g, .int .i64 p.k, .slice A p.l.length c, .int .i64 p.ht, .int .i64 p.hv, .int .i64 p.hc, .int .i64 p.ix, .int .i64 p.tm, .bool p.mrk, .bool p.hed] 26)
 replace HR2 := laR HR2 (.cells #[.int .i64 p.g, .int .i64 p.k, .slice A p.l.length c, .int .i64 p.ht, .int .i64 p.hv, .int .i64 p.hc, .int .i64 p.ix, .int .i64 p.tm, .bool p.mrk, .bool p.hed] 26)
 have HP : Aside0 (BlkP p A c s0 (w.alloc (.cells #[.int .i64 p.g, .int .i64 p.k, .slice A p.l.length c, .int .i64 p.ht, .int .i64 p.hv, .int .i64 p.hc, .int .i64 p.ix, .int .i64 p.tm, .bool p.mrk, .bool p.hed] 26))) := ⟨(by have hq := BlkP.new p A c w; simp only [World.size_alloc, hs0] at hq; exact hq)⟩
 replace HB := laB HB (.cells #[.int .i64 q.g, .int .i64 q.k, .slice A2 q.l.length c2, .int .i64 q.ht, .int .i64 q.hv, .int .i64 q.hc, .int .i64 q.ix, .int .i64 q.tm, .bool q.mrk, .bool q.hed] 26)
 replace HR1 := laR HR1 (.cells #[.int .i64 q.g, .int .i64 q.k, .slice A2 q.l.length c2, .int .i64 q.ht, .int .i64 q.hv, .int .i64 q.hc, .int .i64 q.ix, .int .i64 q.tm, .bool q.mrk, .bool q.hed] 26)
 replace HR2 := laR HR2 (.cells #[.int .i64 q.g, .int .i64 q.k, .slice A2 q.l.length c2, .int .i64 q.ht, .int .i64 q.hv, .int .i64 q.hc, .int .i64 q.ix, .int .i64 q.tm, .bool q.mrk, .bool q.hed] 26)
 replace HP := laP HP (.cells #[.int .i64 q.g, .int .i64 q.k, .slice A2 q.l.length c2, .int .i64 q.ht, .int .i64 q.hv, .int .i64 q.hc, .int .i64 q.ix, .int .i64 q.tm, .bool q.mrk, .bool q.hed] 26)
 have HQ : Aside0 (BlkP q A2 c2 (s0 + 1) ((w.alloc (.cells #[.int .i64 p.g, .int .i64 p.k, .slice A p.l.length c, .int .i64 p.ht, .int .i64 p.hv, .int .i64 p.hc, .int .i64 p.ix, .int .i64 p.tm, .bool p.mrk, .bool p.hed] 26)).alloc (.cells #[.int .i64 q.g, .int .i64 q.k, .slice A2 q.l.length c2, .int .i64 q.ht, .int .i64 q.hv, .int .i64 q.hc, .int .i64 q.ix, .int .i64 q.tm, .bool q.mrk, .bool q.hed] 26))) := ⟨(by have hq := BlkP.new q A2 c2 (w.alloc (.cells #[.int .i64 p.g, .int .i64 p.k, .slice A p.l.length c, .int .i64 p.ht, .int .i64 p.hv, .int .i64 p.hc, .int .i64 p.ix, .int .i64 p.tm, .bool p.mrk, .bool p.hed] 26)); simp only [World.size_alloc, hs0] at hq; exact hq)⟩
 try simp only [World.size_alloc, hs0]
 obtain ⟨W0, hW⟩ : ∃ X, ((w.alloc (.cells #[.int .i64 p.g, .int .i64 p.k, .slice A p.l.length c, .int .i64 p.ht, .int .i64 p.hv, .int .i64 p.hc, .int .i64 p.ix, .int .i64 p.tm, .bool p.mrk, .bool p.hed] 26)).alloc (.cells #[.int .i64 q.g, .int .i64 q.k, .slice A2 q.l.length c2, .int .i64 q.ht, .int .i64 q.hv, .int .i64 q.hc, .int .i64 q.ix, .int .i64 q.tm, .bool q.mrk, .bool q.hed] 26)) = X := ⟨_, rfl⟩
 rw [hW] at HB HR1 HR2 HP HQ ⊢
 clear hW hs0
 obtain ⟨hp0, hp1, hp2, hp3, hp4, hp5, hp6, hp7, hp8, hp9⟩ := HP.out.box
 obtain ⟨hq0, hq1, hq2, hq3, hq4, hq5, hq6, hq7, hq8, hq9⟩ := HQ.out.box
 have hC1 := HC1.out
 simp only [Try.f5] at hC1
 subst hC1
 clear HC1
 obtain ⟨C6, hC6⟩ : ∃ C, (match Try.f5.body with | some (.seq _ (.seq _ (.seq _ (.seq _ (.seq _ (.seq _ c)))))) => c | _ => .skip) = C := ⟨_, rfl⟩
 have HC6 := Aside0.mk hC6
 simp only [Try.f5] at hC6
 rw [hC6]
 clear hC6
 go_wp2_with fail
 go_at_call 10
 refine (known4 _).mono ?_
 rintro e w1 ⟨rfl, hw1⟩
 replace HB := lbB HB hw1
 replace HR1 := lbR HR1 hw1
 replace HR2 := lbR HR2 hw1
 replace HP := lbP HP hw1
 replace HQ := lbP HQ hw1
 clear hw1
 clear hp0 hp1 hp2 hp3 hp4 hp5 hp6 hp7 hp8 hp9 hq0 hq1 hq2 hq3 hq4 hq5 hq6 hq7 hq8 hq9
 obtain ⟨hp0, hp1, hp2, hp3, hp4, hp5, hp6, hp7, hp8, hp9⟩ := HP.out.box
 obtain ⟨hq0, hq1, hq2, hq3, hq4, hq5, hq6, hq7, hq8, hq9⟩ := HQ.out.box
 go_wp2_with fail
 go_at_call 11
 refine (HF1.out A c _ HR1.out).mono ?_
 rintro e w2 ⟨rfl, hw2⟩
 replace HB := lbB HB hw2
 replace HR1 := lbR HR1 hw2
 replace HR2 := lbR HR2 hw2
 replace HP := lbP HP hw2
 replace HQ := lbP HQ hw2
 clear hw2
 clear hp0 hp1 hp2 hp3 hp4 hp5 hp6 hp7 hp8 hp9 hq0 hq1 hq2 hq3 hq4 hq5 hq6 hq7 hq8 hq9
 obtain ⟨hp0, hp1, hp2, hp3, hp4, hp5, hp6, hp7, hp8, hp9⟩ := HP.out.box
 obtain ⟨hq0, hq1, hq2, hq3, hq4, hq5, hq6, hq7, hq8, hq9⟩ := HQ.out.box
 go_wp2_with fail
 go_at_call 11
 refine (HF2.out A2 c2 _ HR2.out).mono ?_
 rintro e w3 ⟨rfl, hw3⟩
 replace HB := lbB HB hw3
 replace HR1 := lbR HR1 hw3
 replace HR2 := lbR HR2 hw3
 replace HP := lbP HP hw3
 replace HQ := lbP HQ hw3
 clear hw3
 clear hp0 hp1 hp2 hp3 hp4 hp5 hp6 hp7 hp8 hp9 hq0 hq1 hq2 hq3 hq4 hq5 hq6 hq7 hq8 hq9
 obtain ⟨hp0, hp1, hp2, hp3, hp4, hp5, hp6, hp7, hp8, hp9⟩ := HP.out.box
 obtain ⟨hq0, hq1, hq2, hq3, hq4, hq5, hq6, hq7, hq8, hq9⟩ := HQ.out.box
 go_wp2_with fail
 go_at_call 15
 refine (isp4 p A c _ HR1.out HPB.out).mono ?_
 rintro e w4 ⟨rfl, hw4⟩
 replace HB := lbB HB hw4
 replace HR1 := lbR HR1 hw4
 replace HR2 := lbR HR2 hw4
 replace HP := lbP HP hw4
 replace HQ := lbP HQ hw4
 clear hw4
 clear hp0 hp1 hp2 hp3 hp4 hp5 hp6 hp7 hp8 hp9 hq0 hq1 hq2 hq3 hq4 hq5 hq6 hq7 hq8 hq9
 obtain ⟨hp0, hp1, hp2, hp3, hp4, hp5, hp6, hp7, hp8, hp9⟩ := HP.out.box
 obtain ⟨hq0, hq1, hq2, hq3, hq4, hq5, hq6, hq7, hq8, hq9⟩ := HQ.out.box
 go_wp2_with fail
 go_at_call 12
 refine (part_Bytes p A c _ HR1.out HBR.out).mono ?_
 rintro e w5 ⟨rfl, hw5⟩
 replace HB := lbB HB hw5
 replace HR1 := lbR HR1 hw5
 replace HR2 := lbR HR2 hw5
 replace HP := lbP HP hw5
 replace HQ := lbP HQ hw5
 clear hw5
 clear hp0 hp1 hp2 hp3 hp4 hp5 hp6 hp7 hp8 hp9 hq0 hq1 hq2 hq3 hq4 hq5 hq6 hq7 hq8 hq9
 obtain ⟨hp0, hp1, hp2, hp3, hp4, hp5, hp6, hp7, hp8, hp9⟩ := HP.out.box
 obtain ⟨hq0, hq1, hq2, hq3, hq4, hq5, hq6, hq7, hq8, hq9⟩ := HQ.out.box
 go_wp2_with fail
 go_at_call 12
 refine (part_Bytes q A2 c2 _ HR2.out HBT.out).mono ?_
 rintro e w6 ⟨rfl, hw6⟩
 replace HB := lbB HB hw6
 replace HR1 := lbR HR1 hw6
 replace HR2 := lbR HR2 hw6
 replace HP := lbP HP hw6
 replace HQ := lbP HQ hw6
 clear hw6
 clear hp0 hp1 hp2 hp3 hp4 hp5 hp6 hp7 hp8 hp9 hq0 hq1 hq2 hq3 hq4 hq5 hq6 hq7 hq8 hq9
 obtain ⟨hp0, hp1, hp2, hp3, hp4, hp5, hp6, hp7, hp8, hp9⟩ := HP.out.box
 obtain ⟨hq0, hq1, hq2, hq3, hq4, hq5, hq6, hq7, hq8, hq9⟩ := HQ.out.box
 go_wp2_with fail
 go_at_call 20
 refine (readc (S ++ s) _ hSS.out HRB.out).mono ?_
 rintro e w7 ⟨A3, c3, rfl, hrd, hw7⟩
 replace HB := lbB HB hw7
 replace HR1 := lbR HR1 hw7
 replace HR2 := lbR HR2 hw7
 replace HP := lbP HP hw7
 replace HQ := lbP HQ hw7
 have HR3 := Aside0.mk hrd
 clear hrd
 clear hw7
 clear hp0 hp1 hp2 hp3 hp4 hp5 hp6 hp7 hp8 hp9 hq0 hq1 hq2 hq3 hq4 hq5 hq6 hq7 hq8 hq9
 obtain ⟨hp0, hp1, hp2, hp3, hp4, hp5, hp6, hp7, hp8, hp9⟩ := HP.out.box
 obtain ⟨hq0, hq1, hq2, hq3, hq4, hq5, hq6, hq7, hq8, hq9⟩ := HQ.out.box
 unfold vP
 go_wp2_with fail
 obtain ⟨n3, hn3⟩ : ∃ n, w7.heap.size = n := ⟨_, rfl⟩
 try rw [hn3]
 clear hp0 hp1 hp2 hp3 hp4 hp5 hp6 hp7 hp8 hp9 hq0 hq1 hq2 hq3 hq4 hq5 hq6 hq7 hq8 hq9
 replace HB := laB HB (.cells #[.int .i64 p.g, .int .i64 p.k, .slice A3 p.l.length c3, .int .i64 p.ht, .int .i64 p.hv, .int .i64 p.hc, .int .i64 p.ix, .int .i64 p.tm, .bool p.mrk, .bool p.hed] 26)
 replace HR1 := laR HR1 (.cells #[.int .i64 p.g, .int .i64 p.k, .slice A3 p.l.length c3, .int .i64 p.ht, .int .i64 p.hv, .int .i64 p.hc, .int .i64 p.ix, .int .i64 p.tm, .bool p.mrk, .bool p.hed] 26)
 replace HR2 := laR HR2 (.cells #[.int .i64 p.g, .int .i64 p.k, .slice A3 p.l.length c3, .int .i64 p.ht, .int .i64 p.hv, .int .i64 p.hc, .int .i64 p.ix, .int .i64 p.tm, .bool p.mrk, .bool p.hed] 26)
 replace HP := laP HP (.cells #[.int .i64 p.g, .int .i64 p.k, .slice A3 p.l.length c3, .int .i64 p.ht, .int .i64 p.hv, .int .i64 p.hc, .int .i64 p.ix, .int .i64 p.tm, .bool p.mrk, .bool p.hed] 26)
 replace HQ := laP HQ (.cells #[.int .i64 p.g, .int .i64 p.k, .slice A3 p.l.length c3, .int .i64 p.ht, .int .i64 p.hv, .int .i64 p.hc, .int .i64 p.ix, .int .i64 p.tm, .bool p.mrk, .bool p.hed] 26)
 replace HR3 := laR HR3 (.cells #[.int .i64 p.g, .int .i64 p.k, .slice A3 p.l.length c3, .int .i64 p.ht, .int .i64 p.hv, .int .i64 p.hc, .int .i64 p.ix, .int .i64 p.tm, .bool p.mrk, .bool p.hed] 26)
 have HX : Aside0 (BlkP p A3 c3 n3 (w7.alloc (.cells #[.int .i64 p.g, .int .i64 p.k, .slice A3 p.l.length c3, .int .i64 p.ht, .int .i64 p.hv, .int .i64 p.hc, .int .i64 p.ix, .int .i64 p.tm, .bool p.mrk, .bool p.hed] 26))) := ⟨(by have hq := BlkP.new p A3 c3 w7; rw [hn3] at hq; exact hq)⟩
 obtain ⟨W3, hW3⟩ : ∃ W, w7.alloc (.cells #[.int .i64 p.g, .int .i64 p.k, .slice A3 p.l.length c3, .int .i64 p.ht, .int .i64 p.hv, .int .i64 p.hc, .int .i64 p.ix, .int .i64 p.tm, .bool p.mrk, .bool p.hed] 26) = W := ⟨_, rfl⟩
 rw [hW3] at HB HR1 HR2 HP HQ HR3 HX ⊢
 clear hW3
 clear hn3
 have hC6 := HC6.out
 simp only [Try.f5] at hC6
 subst hC6
 clear HC6
 obtain ⟨C7, hC7⟩ : ∃ C, (match Try.f5.body with | some (.seq _ (.seq _ (.seq _ (.seq _ (.seq _ (.seq _ (.seq _ c))))))) => c | _ => .skip) = C := ⟨_, rfl⟩
 have HC7 := Aside0.mk hC7
 simp only [Try.f5] at hC7
 rw [hC7]
 clear hC7
 obtain ⟨hp0, hp1, hp2, hp3, hp4, hp5, hp6, hp7, hp8, hp9⟩ := HP.out.box
 obtain ⟨hq0, hq1, hq2, hq3, hq4, hq5, hq6, hq7, hq8, hq9⟩ := HQ.out.box
 obtain ⟨hx0, hx1, hx2, hx3, hx4, hx5, hx6, hx7, hx8, hx9⟩ := HX.out.box
 go_wp2_with fail
 go_at_call 19
 refine (rsamep p p A3 c3 A c _ HR3.out HR1.out (sameP_iff.2 rfl)).mono ?_
 rintro e w8 ⟨rfl, hw8⟩
 replace HB := lbB HB hw8
 replace HR1 := lbR HR1 hw8
 replace HR2 := lbR HR2 hw8
 replace HP := lbP HP hw8
 replace HQ := lbP HQ hw8
 replace HR3 := lbR HR3 hw8
 replace HX := lbP HX hw8
 clear hw8
 clear hp0 hp1 hp2 hp3 hp4 hp5 hp6 hp7 hp8 hp9 hq0 hq1 hq2 hq3 hq4 hq5 hq6 hq7 hq8 hq9 hx0 hx1 hx2 hx3 hx4 hx5 hx6 hx7 hx8 hx9
 obtain ⟨hp0, hp1, hp2, hp3, hp4, hp5, hp6, hp7, hp8, hp9⟩ := HP.out.box
 obtain ⟨hq0, hq1, hq2, hq3, hq4, hq5, hq6, hq7, hq8, hq9⟩ := HQ.out.box
 obtain ⟨hx0, hx1, hx2, hx3, hx4, hx5, hx6, hx7, hx8, hx9⟩ := HX.out.box
 go_wp2_with fail
 go_at_call 19
 refine (rsamep p q A c A2 c2 _ HR1.out HR2.out HSM.out).mono ?_
 rintro e w9 ⟨rfl, hw9⟩
 replace HB := lbB HB hw9
 replace HR1 := lbR HR1 hw9
 replace HR2 := lbR HR2 hw9
 replace HP := lbP HP hw9
 replace HQ := lbP HQ hw9
 replace HR3 := lbR HR3 hw9
 replace HX := lbP HX hw9
 clear hw9
 clear hp0 hp1 hp2 hp3 hp4 hp5 hp6 hp7 hp8 hp9 hq0 hq1 hq2 hq3 hq4 hq5 hq6 hq7 hq8 hq9 hx0 hx1 hx2 hx3 hx4 hx5 hx6 hx7 hx8 hx9
 obtain ⟨hp0, hp1, hp2, hp3, hp4, hp5, hp6, hp7, hp8, hp9⟩ := HP.out.box
 obtain ⟨hq0, hq1, hq2, hq3, hq4, hq5, hq6, hq7, hq8, hq9⟩ := HQ.out.box
 obtain ⟨hx0, hx1, hx2, hx3, hx4, hx5, hx6, hx7, hx8, hx9⟩ := HX.out.box
 go_wp2_with fail
 have hC7 := HC7.out
 simp only [Try.f5] at hC7
 subst hC7
 clear HC7
 obtain ⟨C8, hC8⟩ : ∃ C, (match Try.f5.body with | some (.seq _ (.seq _ (.seq _ (.seq _ (.seq _ (.seq _ (.seq _ (.seq _ c)))))))) => c | _ => .skip) = C := ⟨_, rfl⟩
 have HC8 := Aside0.mk hC8
 simp only [Try.f5] at hC8
 rw [hC8]
 clear hC8
 go_wp2_with fail
 go_at_call 20
 refine (readc (S.extract 0 m) _ (by have h1 := HM.out; have h2 := HZS.out; have h3 : (S.extract 0 m).size ≤ m := by { rw [← CodeM.ba_len, CodeM.ext_data, List.drop_zero, List.length_take]; omega }; omega) HRC.out).mono ?_
 rintro e w10 ⟨A4, c4, rfl, hrd, hw10⟩
 replace HB := lbB HB hw10
 replace HR1 := lbR HR1 hw10
 replace HR2 := lbR HR2 hw10
 replace HP := lbP HP hw10
 replace HQ := lbP HQ hw10
 replace HR3 := lbR HR3 hw10
 replace HX := lbP HX hw10
 have HR4 := Aside0.mk hrd
 clear hrd
 clear hw10
 clear hp0 hp1 hp2 hp3 hp4 hp5 hp6 hp7 hp8 hp9 hq0 hq1 hq2 hq3 hq4 hq5 hq6 hq7 hq8 hq9 hx0 hx1 hx2 hx3 hx4 hx5 hx6 hx7 hx8 hx9
 obtain ⟨hp0, hp1, hp2, hp3, hp4, hp5, hp6, hp7, hp8, hp9⟩ := HP.out.box
 obtain ⟨hq0, hq1, hq2, hq3, hq4, hq5, hq6, hq7, hq8, hq9⟩ := HQ.out.box
 obtain ⟨hx0, hx1, hx2, hx3, hx4, hx5, hx6, hx7, hx8, hx9⟩ := HX.out.box
 unfold vP
 go_wp2_with fail
 obtain ⟨n4, hn4⟩ : ∃ n, w10.heap.size = n := ⟨_, rfl⟩
 try rw [hn4]
 clear hp0 hp1 hp2 hp3 hp4 hp5 hp6 hp7 hp8 hp9 hq0 hq1 hq2 hq3 hq4 hq5 hq6 hq7 hq8 hq9 hx0 hx1 hx2 hx3 hx4 hx5 hx6 hx7 hx8 hx9
 replace HB := laB HB (.cells #[.int .i64 ZP.g, .int .i64 ZP.k, .slice A4 ZP.l.length c4, .int .i64 ZP.ht, .int .i64 ZP.hv, .int .i64 ZP.hc, .int .i64 ZP.ix, .int .i64 ZP.tm, .bool ZP.mrk, .bool ZP.hed] 26)
 replace HR1 := laR HR1 (.cells #[.int .i64 ZP.g, .int .i64 ZP.k, .slice A4 ZP.l.length c4, .int .i64 ZP.ht, .int .i64 ZP.hv, .int .i64 ZP.hc, .int .i64 ZP.ix, .int .i64 ZP.tm, .bool ZP.mrk, .bool ZP.hed] 26)
 replace HR2 := laR HR2 (.cells #[.int .i64 ZP.g, .int .i64 ZP.k, .slice A4 ZP.l.length c4, .int .i64 ZP.ht, .int .i64 ZP.hv, .int .i64 ZP.hc, .int .i64 ZP.ix, .int .i64 ZP.tm, .bool ZP.mrk, .bool ZP.hed] 26)
 replace HP := laP HP (.cells #[.int .i64 ZP.g, .int .i64 ZP.k, .slice A4 ZP.l.length c4, .int .i64 ZP.ht, .int .i64 ZP.hv, .int .i64 ZP.hc, .int .i64 ZP.ix, .int .i64 ZP.tm, .bool ZP.mrk, .bool ZP.hed] 26)
 replace HQ := laP HQ (.cells #[.int .i64 ZP.g, .int .i64 ZP.k, .slice A4 ZP.l.length c4, .int .i64 ZP.ht, .int .i64 ZP.hv, .int .i64 ZP.hc, .int .i64 ZP.ix, .int .i64 ZP.tm, .bool ZP.mrk, .bool ZP.hed] 26)
 replace HR3 := laR HR3 (.cells #[.int .i64 ZP.g, .int .i64 ZP.k, .slice A4 ZP.l.length c4, .int .i64 ZP.ht, .int .i64 ZP.hv, .int .i64 ZP.hc, .int .i64 ZP.ix, .int .i64 ZP.tm, .bool ZP.mrk, .bool ZP.hed] 26)
 replace HX := laP HX (.cells #[.int .i64 ZP.g, .int .i64 ZP.k, .slice A4 ZP.l.length c4, .int .i64 ZP.ht, .int .i64 ZP.hv, .int .i64 ZP.hc, .int .i64 ZP.ix, .int .i64 ZP.tm, .bool ZP.mrk, .bool ZP.hed] 26)
 replace HR4 := laR HR4 (.cells #[.int .i64 ZP.g, .int .i64 ZP.k, .slice A4 ZP.l.length c4, .int .i64 ZP.ht, .int .i64 ZP.hv, .int .i64 ZP.hc, .int .i64 ZP.ix, .int .i64 ZP.tm, .bool ZP.mrk, .bool ZP.hed] 26)
 have HY : Aside0 (BlkP ZP A4 c4 n4 (w10.alloc (.cells #[.int .i64 ZP.g, .int .i64 ZP.k, .slice A4 ZP.l.length c4, .int .i64 ZP.ht, .int .i64 ZP.hv, .int .i64 ZP.hc, .int .i64 ZP.ix, .int .i64 ZP.tm, .bool ZP.mrk, .bool ZP.hed] 26))) := ⟨(by have hq := BlkP.new ZP A4 c4 w10; rw [hn4] at hq; exact hq)⟩
 obtain ⟨W4, hW4⟩ : ∃ W, w10.alloc (.cells #[.int .i64 ZP.g, .int .i64 ZP.k, .slice A4 ZP.l.length c4, .int .i64 ZP.ht, .int .i64 ZP.hv, .int .i64 ZP.hc, .int .i64 ZP.ix, .int .i64 ZP.tm, .bool ZP.mrk, .bool ZP.hed] 26) = W := ⟨_, rfl⟩
 rw [hW4] at HB HR1 HR2 HP HQ HR3 HX HR4 HY ⊢
 clear hW4
 clear hn4
 have hC8 := HC8.out
 simp only [Try.f5] at hC8
 subst hC8
 clear HC8
 go_wp2_with fail
 go_ret
 exact ⟨rfl, HB.out.b⟩
theorem back4_walk (p : Prt) (A : Option Addr) (c : Nat) (q : Prt) (A2 : Option Addr) (c2 : Nat) (s : ByteArray) (ct : Int) (w : World) (hp : Rd w A c p.l) (hq : Rd w A2 c2 q.l) (hs : s.size ≤ 140737488351232) (hc8 : 0 ≤ ct ∧ ct ≤ 255) : Calls Try.prog 5 #[vP p A c, vP q A2 c2, .string s, .int .u8 ct] w fun e w' => e = .returned (.bool true) ∧ Below w.heap.size w w' := by
  obtain ⟨r1, _, f1⟩ := few_part p hp.bd
  obtain ⟨r2, _, f2⟩ := few_part q hq.bd
  cases r1
  · exact back4_few1 p A c q A2 c2 s ct w hp hq hs hc8 f1
  · cases r2
    · exact back4_few2 p A c q A2 c2 s ct w hp hq hs hc8 f1 f2
    · by_cases hz : 60 < s.size
      · exact back4_far p A c q A2 c2 s ct w hp hq hs hc8 f1 f2 hz
      · cases hpb : isP p
        · exact back4_no p A c q A2 c2 s ct w hp hq hs hc8 f1 f2 hz hpb
        · cases hqb : isP q
          · exact back4_z p A c q A2 c2 s ct w hp hq hs hc8 f1 f2 hz hpb hqb
          · cases hsm : sameP p q
            · exact back4_n p A c q A2 c2 s ct w hp hq hs hc8 f1 f2 hz hpb hqb hsm
            · exact back4_e p A c q A2 c2 s ct w hp hq hs hc8 f1 f2 hz hpb hqb hsm
end Go.Proofs.Ytokjhocjemjfiaa.PartW
namespace Go.Proofs.Ytokjhocjemjfiaa.Pure
open Go Go.RowKit Go.Proofs.Ytokjhocjemjfiaa.Sp Go.Proofs.Ytokjhocjemjfiaa.PartW
theorem PartBack.walk (p : Prt) (A : Option Addr) (c : Nat) (q : Prt) (A2 : Option Addr) (c2 : Nat) (s : ByteArray) (ct : Int) (w : World) (hp : Rd w A c p.l) (hq : Rd w A2 c2 q.l) (hs : s.size ≤ 140737488351232) (hc8 : (Lit.int .u8 ct).wf = true) :
    Calls Try.prog 5 #[vP p A c, vP q A2 c2, .string s, .int .u8 ct] w fun e w' => e = .returned (.bool true) ∧ Below w.heap.size w w' := back4_walk p A c q A2 c2 s ct w hp hq hs (CodeM.wf_u8 hc8)
end Go.Proofs.Ytokjhocjemjfiaa.Pure
