/- The statement PartSpoils: the walk; no condition beyond the row's. -/
import Derived.Test.YtokjhocjemjfiaaLw4
set_option linter.unusedVariables false
set_option linter.unusedSimpArgs false
namespace Go.Proofs.Ytokjhocjemjfiaa.PartW
open Go Go.RowKit Go.Shelf Go.Proofs.Ytokjhocjemjfiaa.A Go.Proofs.Ytokjhocjemjfiaa.Sp Go.Proofs.Ytokjhocjemjfiaa.Reg Go.Proofs.Ytokjhocjemjfiaa.Seq Go.Proofs.Ytokjhocjemjfiaa.CodeW Go.Proofs.Ytokjhocjemjfiaa.CodeQ Go.Proofs.Ytokjhocjemjfiaa.Given Go.Proofs.YtokjhocjemjfiaaW.PrintWords Go.Proofs.YtokjhocjemjfiaaW.PrintLast Go.Proofs.YtokjhocjemjfiaaW.PrintMore
theorem BlkP.cel0 {p : Prt} {A : Option Addr} {c B : Nat} {W : World} (h : BlkP p A c B W) (x : Int) : BlkP ⟨x, p.k, p.l, p.ht, p.hv, p.hc, p.ix, p.tm, p.mrk, p.hed⟩ A c B (W.setCell ⟨B, 0, none⟩ (.int .i64 x)) := by
  unfold BlkP at h ⊢
  simp [World.setCell, Array.getElem?_modify, h]
theorem BlkP.cel1 {p : Prt} {A : Option Addr} {c B : Nat} {W : World} (h : BlkP p A c B W) (x : Int) : BlkP ⟨p.g, x, p.l, p.ht, p.hv, p.hc, p.ix, p.tm, p.mrk, p.hed⟩ A c B (W.setCell ⟨B, 1, none⟩ (.int .i64 x)) := by
  unfold BlkP at h ⊢
  simp [World.setCell, Array.getElem?_modify, h]
theorem BlkP.cel4 {p : Prt} {A : Option Addr} {c B : Nat} {W : World} (h : BlkP p A c B W) (x : Int) : BlkP ⟨p.g, p.k, p.l, p.ht, x, p.hc, p.ix, p.tm, p.mrk, p.hed⟩ A c B (W.setCell ⟨B, 4, none⟩ (.int .i64 x)) := by
  unfold BlkP at h ⊢
  simp [World.setCell, Array.getElem?_modify, h]
theorem BlkP.cel6 {p : Prt} {A : Option Addr} {c B : Nat} {W : World} (h : BlkP p A c B W) (x : Int) : BlkP ⟨p.g, p.k, p.l, p.ht, p.hv, p.hc, x, p.tm, p.mrk, p.hed⟩ A c B (W.setCell ⟨B, 6, none⟩ (.int .i64 x)) := by
  unfold BlkP at h ⊢
  simp [World.setCell, Array.getElem?_modify, h]
theorem BlkP.cel7 {p : Prt} {A : Option Addr} {c B : Nat} {W : World} (h : BlkP p A c B W) (x : Int) : BlkP ⟨p.g, p.k, p.l, p.ht, p.hv, p.hc, p.ix, x, p.mrk, p.hed⟩ A c B (W.setCell ⟨B, 7, none⟩ (.int .i64 x)) := by
  unfold BlkP at h ⊢
  simp [World.setCell, Array.getElem?_modify, h]
theorem spoilt {p q : Prt} (hp : isP p = true) (hq : isP q = false) : sameP p q = false := by
  cases h : sameP p q
  · rfl
  · rw [sameP_iff.1 h, hq] at hp; cases hp
theorem not_P {q : Prt} (h : ¬ ((0 ≤ q.g ∧ q.g ≤ 999) ∧ (1 ≤ q.k ∧ q.k ≤ 6) ∧ (∀ o, 0 ≤ getA q o ∧ getA q o ≤ 1099511627776) ∧ ∀ i, i < q.l.length → isE (el q.l i) = true)) : isP q = false := by
  cases hq : isP q
  · rfl
  · obtain ⟨h1, h2, h3, _, h5, _⟩ := isP_rng hq
    exact absurd ⟨h1, h2, h3, h5⟩ h
theorem tmod6 {n : Int} (h : 0 ≤ n ∧ n ≤ 255) : n.tmod 6 = n % 6 := by
  obtain ⟨k, rfl⟩ := Int.eq_ofNat_of_zero_le h.1
  rfl
set_option maxHeartbeats 8000000 in
set_option maxRecDepth 100000 in
theorem spo4_few (p : Prt) (A : Option Addr) (c : Nat) (wh : Int) (w : World) (hp : Rd w A c p.l) (hw8 : 0 ≤ wh ∧ wh ≤ 255) (hf1 : (∀ (A : Option Addr) (c : Nat) (w : World), Rd w A c p.l → Calls Try.prog 11 #[vP p A c] w fun e w' => e = .returned (.bool false) ∧ Below w.heap.size w w')) :
  Calls Try.prog 6 #[vP p A c, .int .u8 wh] w fun e w' => e = .returned (.bool true) ∧ Below w.heap.size w w' := by
 have HF1 := Aside0.mk hf1
 have HB := Aside0.mk (Bel.refl w)
 have HR1 := Aside0.mk (hp)
 clear hp hf1 hw8
 unfold vP
 go_enter Try.func6, Try.ntmps6
 obtain ⟨C1, hC1⟩ : ∃ C, (match Try.f6.body with | some (.seq _ c) => c | _ => .skip) = C := ⟨_, rfl⟩
 have HC1 := Aside0.mk hC1
 simp only [Try.f6] at hC1
 rw [hC1]
 clear hC1
 go_wp2_with fail
 obtain ⟨s0, hs0⟩ : ∃ n, w.heap.size = n := ⟨_, rfl⟩
 replace HB := laB HB (.cells #[.int .i64 p.g, .int .i64 p.k, .slice A p.l.length c, .int .i64 p.ht, .int .i64 p.hv, .int .i64 p.hc, .int .i64 p.ix, .int .i64 p.tm, .bool p.mrk, .bool p.hed] 26)
 replace HR1 := laR HR1 (.cells #[.int .i64 p.g, .int .i64 p.k, .slice A p.l.length c, .int .i64 p.ht, .int .i64 p.hv, .int .i64 p.hc, .int .i64 p.ix, .int .i64 p.tm, .bool p.mrk, .bool p.hed] 26)
 have HP : Aside0 (BlkP p A c s0 (w.alloc (.cells #[.int .i64 p.g, .int .i64 p.k, .slice A p.l.length c, .int .i64 p.ht, .int .i64 p.hv, .int .i64 p.hc, .int .i64 p.ix, .int .i64 p.tm, .bool p.mrk, .bool p.hed] 26))) := ⟨(by have hq := BlkP.new p A c w; simp only [World.size_alloc, hs0] at hq; exact hq)⟩
 try simp only [World.size_alloc, hs0]
 obtain ⟨W0, hW⟩ : ∃ X, (w.alloc (.cells #[.int .i64 p.g, .int .i64 p.k, .slice A p.l.length c, .int .i64 p.ht, .int .i64 p.hv, .int .i64 p.hc, .int .i64 p.ix, .int .i64 p.tm, .bool p.mrk, .bool p.hed] 26)) = X := ⟨_, rfl⟩
 rw [hW] at HB HR1 HP ⊢
 clear hW hs0
 obtain ⟨hp0, hp1, hp2, hp3, hp4, hp5, hp6, hp7, hp8, hp9⟩ := HP.out.box
 have hC1 := HC1.out
 simp only [Try.f6] at hC1
 subst hC1
 clear HC1
 go_wp2_with fail
 go_at_call 10
 refine (known4 _).mono ?_
 rintro e w1 ⟨rfl, hw1⟩
 replace HB := lbB HB hw1
 replace HR1 := lbR HR1 hw1
 replace HP := lbP HP hw1
 clear hw1
 clear hp0 hp1 hp2 hp3 hp4 hp5 hp6 hp7 hp8 hp9
 obtain ⟨hp0, hp1, hp2, hp3, hp4, hp5, hp6, hp7, hp8, hp9⟩ := HP.out.box
 go_wp2_with fail
 go_at_call 11
 refine (HF1.out A c _ HR1.out).mono ?_
 rintro e w2 ⟨rfl, hw2⟩
 replace HB := lbB HB hw2
 replace HR1 := lbR HR1 hw2
 replace HP := lbP HP hw2
 clear hw2
 clear hp0 hp1 hp2 hp3 hp4 hp5 hp6 hp7 hp8 hp9
 obtain ⟨hp0, hp1, hp2, hp3, hp4, hp5, hp6, hp7, hp8, hp9⟩ := HP.out.box
 go_wp2_with fail
 go_ret
 exact ⟨rfl, HB.out.b⟩
set_option maxHeartbeats 8000000 in
set_option maxRecDepth 100000 in
theorem spo4_no (p : Prt) (A : Option Addr) (c : Nat) (wh : Int) (w : World) (hp : Rd w A c p.l) (hw8 : 0 ≤ wh ∧ wh ≤ 255) (hf1 : (∀ (A : Option Addr) (c : Nat) (w : World), Rd w A c p.l → Calls Try.prog 11 #[vP p A c] w fun e w' => e = .returned (.bool true) ∧ Below w.heap.size w w')) (hpb : isP p = false) :
  Calls Try.prog 6 #[vP p A c, .int .u8 wh] w fun e w' => e = .returned (.bool true) ∧ Below w.heap.size w w' := by
 have HF1 := Aside0.mk hf1
 have HPB := Aside0.mk hpb
 have HB := Aside0.mk (Bel.refl w)
 have HR1 := Aside0.mk (hp)
 clear hp hf1 hw8 hpb
 unfold vP
 go_enter Try.func6, Try.ntmps6
 obtain ⟨C1, hC1⟩ : ∃ C, (match Try.f6.body with | some (.seq _ c) => c | _ => .skip) = C := ⟨_, rfl⟩
 have HC1 := Aside0.mk hC1
 simp only [Try.f6] at hC1
 rw [hC1]
 clear hC1
 go_wp2_with fail
 obtain ⟨s0, hs0⟩ : ∃ n, w.heap.size = n := ⟨_, rfl⟩
 replace HB := laB HB (.cells #[.int .i64 p.g, .int .i64 p.k, .slice A p.l.length c, .int .i64 p.ht, .int .i64 p.hv, .int .i64 p.hc, .int .i64 p.ix, .int .i64 p.tm, .bool p.mrk, .bool p.hed] 26)
 replace HR1 := laR HR1 (.cells #[.int .i64 p.g, .int .i64 p.k, .slice A p.l.length c, .int .i64 p.ht, .int .i64 p.hv, .int .i64 p.hc, .int .i64 p.ix, .int .i64 p.tm, .bool p.mrk, .bool p.hed] 26)
 have HP : Aside0 (BlkP p A c s0 (w.alloc (.cells #[.int .i64 p.g, .int .i64 p.k, .slice A p.l.length c, .int .i64 p.ht, .int .i64 p.hv, .int .i64 p.hc, .int .i64 p.ix, .int .i64 p.tm, .bool p.mrk, .bool p.hed] 26))) := ⟨(by have hq := BlkP.new p A c w; simp only [World.size_alloc, hs0] at hq; exact hq)⟩
 try simp only [World.size_alloc, hs0]
 obtain ⟨W0, hW⟩ : ∃ X, (w.alloc (.cells #[.int .i64 p.g, .int .i64 p.k, .slice A p.l.length c, .int .i64 p.ht, .int .i64 p.hv, .int .i64 p.hc, .int .i64 p.ix, .int .i64 p.tm, .bool p.mrk, .bool p.hed] 26)) = X := ⟨_, rfl⟩
 rw [hW] at HB HR1 HP ⊢
 clear hW hs0
 obtain ⟨hp0, hp1, hp2, hp3, hp4, hp5, hp6, hp7, hp8, hp9⟩ := HP.out.box
 have hC1 := HC1.out
 simp only [Try.f6] at hC1
 subst hC1
 clear HC1
 go_wp2_with fail
 go_at_call 10
 refine (known4 _).mono ?_
 rintro e w1 ⟨rfl, hw1⟩
 replace HB := lbB HB hw1
 replace HR1 := lbR HR1 hw1
 replace HP := lbP HP hw1
 clear hw1
 clear hp0 hp1 hp2 hp3 hp4 hp5 hp6 hp7 hp8 hp9
 obtain ⟨hp0, hp1, hp2, hp3, hp4, hp5, hp6, hp7, hp8, hp9⟩ := HP.out.box
 go_wp2_with fail
 go_at_call 11
 refine (HF1.out A c _ HR1.out).mono ?_
 rintro e w2 ⟨rfl, hw2⟩
 replace HB := lbB HB hw2
 replace HR1 := lbR HR1 hw2
 replace HP := lbP HP hw2
 clear hw2
 clear hp0 hp1 hp2 hp3 hp4 hp5 hp6 hp7 hp8 hp9
 obtain ⟨hp0, hp1, hp2, hp3, hp4, hp5, hp6, hp7, hp8, hp9⟩ := HP.out.box
 go_wp2_with fail
 go_at_call 15
 refine (isp4 p A c _ HR1.out HPB.out).mono ?_
 rintro e w3 ⟨rfl, hw3⟩
 replace HB := lbB HB hw3
 replace HR1 := lbR HR1 hw3
 replace HP := lbP HP hw3
 clear hw3
 clear hp0 hp1 hp2 hp3 hp4 hp5 hp6 hp7 hp8 hp9
 obtain ⟨hp0, hp1, hp2, hp3, hp4, hp5, hp6, hp7, hp8, hp9⟩ := HP.out.box
 go_wp2_with fail
 go_ret
 exact ⟨rfl, HB.out.b⟩
set_option maxHeartbeats 8000000 in
set_option maxRecDepth 100000 in
theorem spo4_0 (p : Prt) (A : Option Addr) (c : Nat) (wh : Int) (w : World) (hp : Rd w A c p.l) (hw8 : 0 ≤ wh ∧ wh ≤ 255) (hf1 : (∀ (A : Option Addr) (c : Nat) (w : World), Rd w A c p.l → Calls Try.prog 11 #[vP p A c] w fun e w' => e = .returned (.bool true) ∧ Below w.heap.size w w')) (hpb : isP p = true) (hcase : wh % 6 = 0) :
  Calls Try.prog 6 #[vP p A c, .int .u8 wh] w fun e w' => e = .returned (.bool true) ∧ Below w.heap.size w w' := by
 have HF1 := Aside0.mk hf1
 have HPB := Aside0.mk hpb
 have hw6 : wh.tmod 6 = 0 := by rw [tmod6 hw8]; exact hcase
 have hqb : isP ⟨1000, p.k, p.l, p.ht, p.hv, p.hc, p.ix, p.tm, p.mrk, p.hed⟩ = false := not_P (fun h => by have h9 := h.1.2; dsimp only at h9; omega)
 have HQB := Aside0.mk hqb
 have HBR : Aside0 (bytesR ⟨1000, p.k, p.l, p.ht, p.hv, p.hc, p.ix, p.tm, p.mrk, p.hed⟩ = (⟨#[]⟩, 11)) := ⟨by unfold bytesR; rw [if_neg (by rw [hqb]; decide)]⟩
 have HSM : Aside0 (sameP p ⟨1000, p.k, p.l, p.ht, p.hv, p.hc, p.ix, p.tm, p.mrk, p.hed⟩ = false) := ⟨spoilt hpb hqb⟩
 clear hqb hcase
 have HB := Aside0.mk (Bel.refl w)
 have HR1 := Aside0.mk (hp)
 clear hp hf1 hw8 hpb
 unfold vP
 go_enter Try.func6, Try.ntmps6
 obtain ⟨C1, hC1⟩ : ∃ C, (match Try.f6.body with | some (.seq _ c) => c | _ => .skip) = C := ⟨_, rfl⟩
 have HC1 := Aside0.mk hC1
 simp only [Try.f6] at hC1
 rw [hC1]
 clear hC1
 go_wp2_with fail
 obtain ⟨s0, hs0⟩ : ∃ n, w.heap.size = n := ⟨_, rfl⟩
 replace HB := laB HB (.cells #[.int .i64 p.g, .int .i64 p.k, .slice A p.l.length c, .int .i64 p.ht, .int .i64 p.hv, .int .i64 p.hc, .int .i64 p.ix, .int .i64 p.tm, .bool p.mrk, .bool p.hed] 26)
 replace HR1 := laR HR1 (.cells #[.int .i64 p.g, .int .i64 p.k, .slice A p.l.length c, .int .i64 p.ht, .int .i64 p.hv, .int .i64 p.hc, .int .i64 p.ix, .int .i64 p.tm, .bool p.mrk, .bool p.hed] 26)
 have HP : Aside0 (BlkP p A c s0 (w.alloc (.cells #[.int .i64 p.g, .int .i64 p.k, .slice A p.l.length c, .int .i64 p.ht, .int .i64 p.hv, .int .i64 p.hc, .int .i64 p.ix, .int .i64 p.tm, .bool p.mrk, .bool p.hed] 26))) := ⟨(by have hq := BlkP.new p A c w; simp only [World.size_alloc, hs0] at hq; exact hq)⟩
 try simp only [World.size_alloc, hs0]
 obtain ⟨W0, hW⟩ : ∃ X, (w.alloc (.cells #[.int .i64 p.g, .int .i64 p.k, .slice A p.l.length c, .int .i64 p.ht, .int .i64 p.hv, .int .i64 p.hc, .int .i64 p.ix, .int .i64 p.tm, .bool p.mrk, .bool p.hed] 26)) = X := ⟨_, rfl⟩
 rw [hW] at HB HR1 HP ⊢
 clear hW hs0
 obtain ⟨hp0, hp1, hp2, hp3, hp4, hp5, hp6, hp7, hp8, hp9⟩ := HP.out.box
 have hC1 := HC1.out
 simp only [Try.f6] at hC1
 subst hC1
 clear HC1
 obtain ⟨C4, hC4⟩ : ∃ C, (match Try.f6.body with | some (.seq _ (.seq _ (.seq _ (.seq _ c)))) => c | _ => .skip) = C := ⟨_, rfl⟩
 have HC4 := Aside0.mk hC4
 simp only [Try.f6] at hC4
 rw [hC4]
 clear hC4
 go_wp2_with fail
 go_at_call 10
 refine (known4 _).mono ?_
 rintro e w1 ⟨rfl, hw1⟩
 replace HB := lbB HB hw1
 replace HR1 := lbR HR1 hw1
 replace HP := lbP HP hw1
 clear hw1
 clear hp0 hp1 hp2 hp3 hp4 hp5 hp6 hp7 hp8 hp9
 obtain ⟨hp0, hp1, hp2, hp3, hp4, hp5, hp6, hp7, hp8, hp9⟩ := HP.out.box
 go_wp2_with fail
 go_at_call 11
 refine (HF1.out A c _ HR1.out).mono ?_
 rintro e w2 ⟨rfl, hw2⟩
 replace HB := lbB HB hw2
 replace HR1 := lbR HR1 hw2
 replace HP := lbP HP hw2
 clear hw2
 clear hp0 hp1 hp2 hp3 hp4 hp5 hp6 hp7 hp8 hp9
 obtain ⟨hp0, hp1, hp2, hp3, hp4, hp5, hp6, hp7, hp8, hp9⟩ := HP.out.box
 go_wp2_with fail
 go_at_call 15
 refine (isp4 p A c _ HR1.out HPB.out).mono ?_
 rintro e w3 ⟨rfl, hw3⟩
 replace HB := lbB HB hw3
 replace HR1 := lbR HR1 hw3
 replace HP := lbP HP hw3
 clear hw3
 clear hp0 hp1 hp2 hp3 hp4 hp5 hp6 hp7 hp8 hp9
 obtain ⟨hp0, hp1, hp2, hp3, hp4, hp5, hp6, hp7, hp8, hp9⟩ := HP.out.box
 go_wp2_with fail
 have HNE : Aside0 (s0 < w3.heap.size ∧ w.heap.size ≤ w3.heap.size) := ⟨BlkP.lt' HP.out, HB.out.b.size⟩
 obtain ⟨n2, hn2⟩ : ∃ n, w3.heap.size = n := ⟨_, rfl⟩
 rw [hn2] at HNE
 try rw [hn2]
 clear hp0 hp1 hp2 hp3 hp4 hp5 hp6 hp7 hp8 hp9
 replace HB := laB HB (.cells #[.int .i64 p.g, .int .i64 p.k, .slice A p.l.length c, .int .i64 p.ht, .int .i64 p.hv, .int .i64 p.hc, .int .i64 p.ix, .int .i64 p.tm, .bool p.mrk, .bool p.hed] 26)
 replace HR1 := laR HR1 (.cells #[.int .i64 p.g, .int .i64 p.k, .slice A p.l.length c, .int .i64 p.ht, .int .i64 p.hv, .int .i64 p.hc, .int .i64 p.ix, .int .i64 p.tm, .bool p.mrk, .bool p.hed] 26)
 replace HP := laP HP (.cells #[.int .i64 p.g, .int .i64 p.k, .slice A p.l.length c, .int .i64 p.ht, .int .i64 p.hv, .int .i64 p.hc, .int .i64 p.ix, .int .i64 p.tm, .bool p.mrk, .bool p.hed] 26)
 have HQ : Aside0 (BlkP p A c n2 (w3.alloc (.cells #[.int .i64 p.g, .int .i64 p.k, .slice A p.l.length c, .int .i64 p.ht, .int .i64 p.hv, .int .i64 p.hc, .int .i64 p.ix, .int .i64 p.tm, .bool p.mrk, .bool p.hed] 26))) := ⟨(by have hq := BlkP.new p A c w3; rw [hn2] at hq; exact hq)⟩
 obtain ⟨W2, hW2⟩ : ∃ W, w3.alloc (.cells #[.int .i64 p.g, .int .i64 p.k, .slice A p.l.length c, .int .i64 p.ht, .int .i64 p.hv, .int .i64 p.hc, .int .i64 p.ix, .int .i64 p.tm, .bool p.mrk, .bool p.hed] 26) = W := ⟨_, rfl⟩
 rw [hW2] at HB HR1 HP HQ ⊢
 clear hW2
 clear hn2
 have hC4 := HC4.out
 simp only [Try.f6] at hC4
 subst hC4
 clear HC4
 obtain ⟨C5, hC5⟩ : ∃ C, (match Try.f6.body with | some (.seq _ (.seq _ (.seq _ (.seq _ (.seq _ c))))) => c | _ => .skip) = C := ⟨_, rfl⟩
 have HC5 := Aside0.mk hC5
 simp only [Try.f6] at hC5
 rw [hC5]
 clear hC5
 obtain ⟨hp0, hp1, hp2, hp3, hp4, hp5, hp6, hp7, hp8, hp9⟩ := HP.out.box
 obtain ⟨hq0, hq1, hq2, hq3, hq4, hq5, hq6, hq7, hq8, hq9⟩ := HQ.out.box
 have yf := BlkP.free' HQ.out
 go_wp2_with fail
 clear yf
 clear hp0 hp1 hp2 hp3 hp4 hp5 hp6 hp7 hp8 hp9 hq0 hq1 hq2 hq3 hq4 hq5 hq6 hq7 hq8 hq9
 have hx := (Only.refl (fun q => q = n2) W2).setCell (p := ⟨n2, 0, none⟩) rfl (.int .i64 1000)
 have hne := HNE.out
 replace HB := Aside0.mk (Bel.only HB.out hx (fun q hq h => by have h2 : q = n2 := h; omega))
 replace HP := Aside0.mk (BlkP.only HP.out hx (fun h => by have h2 : s0 = n2 := h; omega))
 replace HR1 := Aside0.mk (Rd.only HR1.out hx (fun q hq h => by have h3 : q = n2 := h; subst h3; exact Rd.apartP HR1.out HQ.out hq))
 replace HQ := Aside0.mk (BlkP.cel0 HQ.out 1000)
 clear hx hne
 obtain ⟨W6, hW⟩ : ∃ X, W2.setCell ⟨n2, 0, none⟩ (.int .i64 1000) = X := ⟨_, rfl⟩
 rw [hW] at HB HP HR1 HQ ⊢
 clear hW
 have hC5 := HC5.out
 simp only [Try.f6] at hC5
 subst hC5
 clear HC5
 obtain ⟨hp0, hp1, hp2, hp3, hp4, hp5, hp6, hp7, hp8, hp9⟩ := HP.out.box
 obtain ⟨hq0, hq1, hq2, hq3, hq4, hq5, hq6, hq7, hq8, hq9⟩ := HQ.out.box
 try dsimp only at hp0 hp1 hp2 hp3 hp4 hp5 hp6 hp7 hp8 hp9 hq0 hq1 hq2 hq3 hq4 hq5 hq6 hq7 hq8 hq9
 go_wp2_with fail
 go_at_call 12
 refine (part_Bytes ⟨1000, p.k, p.l, p.ht, p.hv, p.hc, p.ix, p.tm, p.mrk, p.hed⟩ A c _ HR1.out HBR.out).mono ?_
 rintro e w4 ⟨rfl, hw4⟩
 replace HB := lbB HB hw4
 replace HR1 := lbR HR1 hw4
 replace HP := lbP HP hw4
 replace HQ := lbP HQ hw4
 clear hw4
 clear hp0 hp1 hp2 hp3 hp4 hp5 hp6 hp7 hp8 hp9 hq0 hq1 hq2 hq3 hq4 hq5 hq6 hq7 hq8 hq9
 obtain ⟨hp0, hp1, hp2, hp3, hp4, hp5, hp6, hp7, hp8, hp9⟩ := HP.out.box
 obtain ⟨hq0, hq1, hq2, hq3, hq4, hq5, hq6, hq7, hq8, hq9⟩ := HQ.out.box
 try dsimp only at hp0 hp1 hp2 hp3 hp4 hp5 hp6 hp7 hp8 hp9 hq0 hq1 hq2 hq3 hq4 hq5 hq6 hq7 hq8 hq9
 go_wp2_with fail
 go_at_call 15
 refine (isp4 ⟨1000, p.k, p.l, p.ht, p.hv, p.hc, p.ix, p.tm, p.mrk, p.hed⟩ A c _ HR1.out HQB.out).mono ?_
 rintro e w5 ⟨rfl, hw5⟩
 replace HB := lbB HB hw5
 replace HR1 := lbR HR1 hw5
 replace HP := lbP HP hw5
 replace HQ := lbP HQ hw5
 clear hw5
 clear hp0 hp1 hp2 hp3 hp4 hp5 hp6 hp7 hp8 hp9 hq0 hq1 hq2 hq3 hq4 hq5 hq6 hq7 hq8 hq9
 obtain ⟨hp0, hp1, hp2, hp3, hp4, hp5, hp6, hp7, hp8, hp9⟩ := HP.out.box
 obtain ⟨hq0, hq1, hq2, hq3, hq4, hq5, hq6, hq7, hq8, hq9⟩ := HQ.out.box
 try dsimp only at hp0 hp1 hp2 hp3 hp4 hp5 hp6 hp7 hp8 hp9 hq0 hq1 hq2 hq3 hq4 hq5 hq6 hq7 hq8 hq9
 go_wp2_with fail
 go_at_call 18
 refine (samep p ⟨1000, p.k, p.l, p.ht, p.hv, p.hc, p.ix, p.tm, p.mrk, p.hed⟩ A c A c _ HR1.out HR1.out HSM.out).mono ?_
 rintro e w6 ⟨rfl, hw6⟩
 replace HB := lbB HB hw6
 replace HR1 := lbR HR1 hw6
 replace HP := lbP HP hw6
 replace HQ := lbP HQ hw6
 clear hw6
 go_wp2_with fail
 go_ret
 exact ⟨rfl, HB.out.b⟩
set_option maxHeartbeats 8000000 in
set_option maxRecDepth 100000 in
theorem spo4_1 (p : Prt) (A : Option Addr) (c : Nat) (wh : Int) (w : World) (hp : Rd w A c p.l) (hw8 : 0 ≤ wh ∧ wh ≤ 255) (hf1 : (∀ (A : Option Addr) (c : Nat) (w : World), Rd w A c p.l → Calls Try.prog 11 #[vP p A c] w fun e w' => e = .returned (.bool true) ∧ Below w.heap.size w w')) (hpb : isP p = true) (hcase : wh % 6 = 1) :
  Calls Try.prog 6 #[vP p A c, .int .u8 wh] w fun e w' => e = .returned (.bool true) ∧ Below w.heap.size w w' := by
 have HF1 := Aside0.mk hf1
 have HPB := Aside0.mk hpb
 have hw6 : wh.tmod 6 = 1 := by rw [tmod6 hw8]; exact hcase
 have hqb : isP ⟨p.g, 7, p.l, p.ht, p.hv, p.hc, p.ix, p.tm, p.mrk, p.hed⟩ = false := not_P (fun h => by have h9 := h.2.1.2; dsimp only at h9; omega)
 have HQB := Aside0.mk hqb
 have HBR : Aside0 (bytesR ⟨p.g, 7, p.l, p.ht, p.hv, p.hc, p.ix, p.tm, p.mrk, p.hed⟩ = (⟨#[]⟩, 11)) := ⟨by unfold bytesR; rw [if_neg (by rw [hqb]; decide)]⟩
 have HSM : Aside0 (sameP p ⟨p.g, 7, p.l, p.ht, p.hv, p.hc, p.ix, p.tm, p.mrk, p.hed⟩ = false) := ⟨spoilt hpb hqb⟩
 clear hqb hcase
 have HB := Aside0.mk (Bel.refl w)
 have HR1 := Aside0.mk (hp)
 clear hp hf1 hw8 hpb
 unfold vP
 go_enter Try.func6, Try.ntmps6
 obtain ⟨C1, hC1⟩ : ∃ C, (match Try.f6.body with | some (.seq _ c) => c | _ => .skip) = C := ⟨_, rfl⟩
 have HC1 := Aside0.mk hC1
 simp only [Try.f6] at hC1
 rw [hC1]
 clear hC1
 go_wp2_with fail
 obtain ⟨s0, hs0⟩ : ∃ n, w.heap.size = n := ⟨_, rfl⟩
 replace HB := laB HB (.cells #[.int .i64 p.g, .int .i64 p.k, .slice A p.l.length c, .int .i64 p.ht, .int .i64 p.hv, .int .i64 p.hc, .int .i64 p.ix, .int .i64 p.tm, .bool p.mrk, .bool p.hed] 26)
 replace HR1 := laR HR1 (.cells #[.int .i64 p.g, .int .i64 p.k, .slice A p.l.length c, .int .i64 p.ht, .int .i64 p.hv, .int .i64 p.hc, .int .i64 p.ix, .int .i64 p.tm, .bool p.mrk, .bool p.hed] 26)
 have HP : Aside0 (BlkP p A c s0 (w.alloc (.cells #[.int .i64 p.g, .int .i64 p.k, .slice A p.l.length c, .int .i64 p.ht, .int .i64 p.hv, .int .i64 p.hc, .int .i64 p.ix, .int .i64 p.tm, .bool p.mrk, .bool p.hed] 26))) := ⟨(by have hq := BlkP.new p A c w; simp only [World.size_alloc, hs0] at hq; exact hq)⟩
 try simp only [World.size_alloc, hs0]
 obtain ⟨W0, hW⟩ : ∃ X, (w.alloc (.cells #[.int .i64 p.g, .int .i64 p.k, .slice A p.l.length c, .int .i64 p.ht, .int .i64 p.hv, .int .i64 p.hc, .int .i64 p.ix, .int .i64 p.tm, .bool p.mrk, .bool p.hed] 26)) = X := ⟨_, rfl⟩
 rw [hW] at HB HR1 HP ⊢
 clear hW hs0
 obtain ⟨hp0, hp1, hp2, hp3, hp4, hp5, hp6, hp7, hp8, hp9⟩ := HP.out.box
 have hC1 := HC1.out
 simp only [Try.f6] at hC1
 subst hC1
 clear HC1
 obtain ⟨C4, hC4⟩ : ∃ C, (match Try.f6.body with | some (.seq _ (.seq _ (.seq _ (.seq _ c)))) => c | _ => .skip) = C := ⟨_, rfl⟩
 have HC4 := Aside0.mk hC4
 simp only [Try.f6] at hC4
 rw [hC4]
 clear hC4
 go_wp2_with fail
 go_at_call 10
 refine (known4 _).mono ?_
 rintro e w1 ⟨rfl, hw1⟩
 replace HB := lbB HB hw1
 replace HR1 := lbR HR1 hw1
 replace HP := lbP HP hw1
 clear hw1
 clear hp0 hp1 hp2 hp3 hp4 hp5 hp6 hp7 hp8 hp9
 obtain ⟨hp0, hp1, hp2, hp3, hp4, hp5, hp6, hp7, hp8, hp9⟩ := HP.out.box
 go_wp2_with fail
 go_at_call 11
 refine (HF1.out A c _ HR1.out).mono ?_
 rintro e w2 ⟨rfl, hw2⟩
 replace HB := lbB HB hw2
 replace HR1 := lbR HR1 hw2
 replace HP := lbP HP hw2
 clear hw2
 clear hp0 hp1 hp2 hp3 hp4 hp5 hp6 hp7 hp8 hp9
 obtain ⟨hp0, hp1, hp2, hp3, hp4, hp5, hp6, hp7, hp8, hp9⟩ := HP.out.box
 go_wp2_with fail
 go_at_call 15
 refine (isp4 p A c _ HR1.out HPB.out).mono ?_
 rintro e w3 ⟨rfl, hw3⟩
 replace HB := lbB HB hw3
 replace HR1 := lbR HR1 hw3
 replace HP := lbP HP hw3
 clear hw3
 clear hp0 hp1 hp2 hp3 hp4 hp5 hp6 hp7 hp8 hp9
 obtain ⟨hp0, hp1, hp2, hp3, hp4, hp5, hp6, hp7, hp8, hp9⟩ := HP.out.box
 go_wp2_with fail
 have HNE : Aside0 (s0 < w3.heap.size ∧ w.heap.size ≤ w3.heap.size) := ⟨BlkP.lt' HP.out, HB.out.b.size⟩
 obtain ⟨n2, hn2⟩ : ∃ n, w3.heap.size = n := ⟨_, rfl⟩
 rw [hn2] at HNE
 try rw [hn2]
 clear hp0 hp1 hp2 hp3 hp4 hp5 hp6 hp7 hp8 hp9
 replace HB := laB HB (.cells #[.int .i64 p.g, .int .i64 p.k, .slice A p.l.length c, .int .i64 p.ht, .int .i64 p.hv, .int .i64 p.hc, .int .i64 p.ix, .int .i64 p.tm, .bool p.mrk, .bool p.hed] 26)
 replace HR1 := laR HR1 (.cells #[.int .i64 p.g, .int .i64 p.k, .slice A p.l.length c, .int .i64 p.ht, .int .i64 p.hv, .int .i64 p.hc, .int .i64 p.ix, .int .i64 p.tm, .bool p.mrk, .bool p.hed] 26)
 replace HP := laP HP (.cells #[.int .i64 p.g, .int .i64 p.k, .slice A p.l.length c, .int .i64 p.ht, .int .i64 p.hv, .int .i64 p.hc, .int .i64 p.ix, .int .i64 p.tm, .bool p.mrk, .bool p.hed] 26)
 have HQ : Aside0 (BlkP p A c n2 (w3.alloc (.cells #[.int .i64 p.g, .int .i64 p.k, .slice A p.l.length c, .int .i64 p.ht, .int .i64 p.hv, .int .i64 p.hc, .int .i64 p.ix, .int .i64 p.tm, .bool p.mrk, .bool p.hed] 26))) := ⟨(by have hq := BlkP.new p A c w3; rw [hn2] at hq; exact hq)⟩
 obtain ⟨W2, hW2⟩ : ∃ W, w3.alloc (.cells #[.int .i64 p.g, .int .i64 p.k, .slice A p.l.length c, .int .i64 p.ht, .int .i64 p.hv, .int .i64 p.hc, .int .i64 p.ix, .int .i64 p.tm, .bool p.mrk, .bool p.hed] 26) = W := ⟨_, rfl⟩
 rw [hW2] at HB HR1 HP HQ ⊢
 clear hW2
 clear hn2
 have hC4 := HC4.out
 simp only [Try.f6] at hC4
 subst hC4
 clear HC4
 obtain ⟨C5, hC5⟩ : ∃ C, (match Try.f6.body with | some (.seq _ (.seq _ (.seq _ (.seq _ (.seq _ c))))) => c | _ => .skip) = C := ⟨_, rfl⟩
 have HC5 := Aside0.mk hC5
 simp only [Try.f6] at hC5
 rw [hC5]
 clear hC5
 obtain ⟨hp0, hp1, hp2, hp3, hp4, hp5, hp6, hp7, hp8, hp9⟩ := HP.out.box
 obtain ⟨hq0, hq1, hq2, hq3, hq4, hq5, hq6, hq7, hq8, hq9⟩ := HQ.out.box
 have yf := BlkP.free' HQ.out
 go_wp2_with fail
 clear yf
 clear hp0 hp1 hp2 hp3 hp4 hp5 hp6 hp7 hp8 hp9 hq0 hq1 hq2 hq3 hq4 hq5 hq6 hq7 hq8 hq9
 have hx := (Only.refl (fun q => q = n2) W2).setCell (p := ⟨n2, 1, none⟩) rfl (.int .i64 7)
 have hne := HNE.out
 replace HB := Aside0.mk (Bel.only HB.out hx (fun q hq h => by have h2 : q = n2 := h; omega))
 replace HP := Aside0.mk (BlkP.only HP.out hx (fun h => by have h2 : s0 = n2 := h; omega))
 replace HR1 := Aside0.mk (Rd.only HR1.out hx (fun q hq h => by have h3 : q = n2 := h; subst h3; exact Rd.apartP HR1.out HQ.out hq))
 replace HQ := Aside0.mk (BlkP.cel1 HQ.out 7)
 clear hx hne
 obtain ⟨W6, hW⟩ : ∃ X, W2.setCell ⟨n2, 1, none⟩ (.int .i64 7) = X := ⟨_, rfl⟩
 rw [hW] at HB HP HR1 HQ ⊢
 clear hW
 have hC5 := HC5.out
 simp only [Try.f6] at hC5
 subst hC5
 clear HC5
 obtain ⟨hp0, hp1, hp2, hp3, hp4, hp5, hp6, hp7, hp8, hp9⟩ := HP.out.box
 obtain ⟨hq0, hq1, hq2, hq3, hq4, hq5, hq6, hq7, hq8, hq9⟩ := HQ.out.box
 try dsimp only at hp0 hp1 hp2 hp3 hp4 hp5 hp6 hp7 hp8 hp9 hq0 hq1 hq2 hq3 hq4 hq5 hq6 hq7 hq8 hq9
 go_wp2_with fail
 go_at_call 12
 refine (part_Bytes ⟨p.g, 7, p.l, p.ht, p.hv, p.hc, p.ix, p.tm, p.mrk, p.hed⟩ A c _ HR1.out HBR.out).mono ?_
 rintro e w4 ⟨rfl, hw4⟩
 replace HB := lbB HB hw4
 replace HR1 := lbR HR1 hw4
 replace HP := lbP HP hw4
 replace HQ := lbP HQ hw4
 clear hw4
 clear hp0 hp1 hp2 hp3 hp4 hp5 hp6 hp7 hp8 hp9 hq0 hq1 hq2 hq3 hq4 hq5 hq6 hq7 hq8 hq9
 obtain ⟨hp0, hp1, hp2, hp3, hp4, hp5, hp6, hp7, hp8, hp9⟩ := HP.out.box
 obtain ⟨hq0, hq1, hq2, hq3, hq4, hq5, hq6, hq7, hq8, hq9⟩ := HQ.out.box
 try dsimp only at hp0 hp1 hp2 hp3 hp4 hp5 hp6 hp7 hp8 hp9 hq0 hq1 hq2 hq3 hq4 hq5 hq6 hq7 hq8 hq9
 go_wp2_with fail
 go_at_call 15
 refine (isp4 ⟨p.g, 7, p.l, p.ht, p.hv, p.hc, p.ix, p.tm, p.mrk, p.hed⟩ A c _ HR1.out HQB.out).mono ?_
 rintro e w5 ⟨rfl, hw5⟩
 replace HB := lbB HB hw5
 replace HR1 := lbR HR1 hw5
 replace HP := lbP HP hw5
 replace HQ := lbP HQ hw5
 clear hw5
 clear hp0 hp1 hp2 hp3 hp4 hp5 hp6 hp7 hp8 hp9 hq0 hq1 hq2 hq3 hq4 hq5 hq6 hq7 hq8 hq9
 obtain ⟨hp0, hp1, hp2, hp3, hp4, hp5, hp6, hp7, hp8, hp9⟩ := HP.out.box
 obtain ⟨hq0, hq1, hq2, hq3, hq4, hq5, hq6, hq7, hq8, hq9⟩ := HQ.out.box
 try dsimp only at hp0 hp1 hp2 hp3 hp4 hp5 hp6 hp7 hp8 hp9 hq0 hq1 hq2 hq3 hq4 hq5 hq6 hq7 hq8 hq9
 go_wp2_with fail
 go_at_call 18
 refine (samep p ⟨p.g, 7, p.l, p.ht, p.hv, p.hc, p.ix, p.tm, p.mrk, p.hed⟩ A c A c _ HR1.out HR1.out HSM.out).mono ?_
 rintro e w6 ⟨rfl, hw6⟩
 replace HB := lbB HB hw6
 replace HR1 := lbR HR1 hw6
 replace HP := lbP HP hw6
 replace HQ := lbP HQ hw6
 clear hw6
 go_wp2_with fail
 go_ret
 exact ⟨rfl, HB.out.b⟩
set_option maxHeartbeats 8000000 in
set_option maxRecDepth 100000 in
theorem spo4_2 (p : Prt) (A : Option Addr) (c : Nat) (wh : Int) (w : World) (hp : Rd w A c p.l) (hw8 : 0 ≤ wh ∧ wh ≤ 255) (hf1 : (∀ (A : Option Addr) (c : Nat) (w : World), Rd w A c p.l → Calls Try.prog 11 #[vP p A c] w fun e w' => e = .returned (.bool true) ∧ Below w.heap.size w w')) (hpb : isP p = true) (hcase : wh % 6 = 2) :
  Calls Try.prog 6 #[vP p A c, .int .u8 wh] w fun e w' => e = .returned (.bool true) ∧ Below w.heap.size w w' := by
 have HF1 := Aside0.mk hf1
 have HPB := Aside0.mk hpb
 have hw6 : wh.tmod 6 = 2 := by rw [tmod6 hw8]; exact hcase
 have hqb : isP ⟨p.g, p.k, (p.l ++ [⟨0, 0, ⟨#[]⟩⟩]), p.ht, p.hv, p.hc, p.ix, p.tm, p.mrk, p.hed⟩ = false := not_P (fun h => by have h9 := h.2.2.2 p.l.length (by simp); rw [show el (p.l ++ [⟨0, 0, ⟨#[]⟩⟩]) p.l.length = ⟨0, 0, ⟨#[]⟩⟩ by unfold el; simp] at h9; revert h9; decide)
 have HQB := Aside0.mk hqb
 have HBR : Aside0 (bytesR ⟨p.g, p.k, (p.l ++ [⟨0, 0, ⟨#[]⟩⟩]), p.ht, p.hv, p.hc, p.ix, p.tm, p.mrk, p.hed⟩ = (⟨#[]⟩, 11)) := ⟨by unfold bytesR; rw [if_neg (by rw [hqb]; decide)]⟩
 have HSM : Aside0 (sameP p ⟨p.g, p.k, (p.l ++ [⟨0, 0, ⟨#[]⟩⟩]), p.ht, p.hv, p.hc, p.ix, p.tm, p.mrk, p.hed⟩ = false) := ⟨spoilt hpb hqb⟩
 have HLN : Aside0 (p.l.length ≤ 6) := ⟨(isP_rng hpb).2.2.2.1⟩
 have hlen6 : p.l.length ≤ 4398046511104 := by have := HLN.out; omega
 clear hqb hcase
 have HB := Aside0.mk (Bel.refl w)
 have HR1 := Aside0.mk (hp)
 clear hp hf1 hw8 hpb
 unfold vP
 go_enter Try.func6, Try.ntmps6
 obtain ⟨C1, hC1⟩ : ∃ C, (match Try.f6.body with | some (.seq _ c) => c | _ => .skip) = C := ⟨_, rfl⟩
 have HC1 := Aside0.mk hC1
 simp only [Try.f6] at hC1
 rw [hC1]
 clear hC1
 go_wp2_with fail
 obtain ⟨s0, hs0⟩ : ∃ n, w.heap.size = n := ⟨_, rfl⟩
 replace HB := laB HB (.cells #[.int .i64 p.g, .int .i64 p.k, .slice A p.l.length c, .int .i64 p.ht, .int .i64 p.hv, .int .i64 p.hc, .int .i64 p.ix, .int .i64 p.tm, .bool p.mrk, .bool p.hed] 26)
 replace HR1 := laR HR1 (.cells #[.int .i64 p.g, .int .i64 p.k, .slice A p.l.length c, .int .i64 p.ht, .int .i64 p.hv, .int .i64 p.hc, .int .i64 p.ix, .int .i64 p.tm, .bool p.mrk, .bool p.hed] 26)
 have HP : Aside0 (BlkP p A c s0 (w.alloc (.cells #[.int .i64 p.g, .int .i64 p.k, .slice A p.l.length c, .int .i64 p.ht, .int .i64 p.hv, .int .i64 p.hc, .int .i64 p.ix, .int .i64 p.tm, .bool p.mrk, .bool p.hed] 26))) := ⟨(by have hq := BlkP.new p A c w; simp only [World.size_alloc, hs0] at hq; exact hq)⟩
 try simp only [World.size_alloc, hs0]
 obtain ⟨W0, hW⟩ : ∃ X, (w.alloc (.cells #[.int .i64 p.g, .int .i64 p.k, .slice A p.l.length c, .int .i64 p.ht, .int .i64 p.hv, .int .i64 p.hc, .int .i64 p.ix, .int .i64 p.tm, .bool p.mrk, .bool p.hed] 26)) = X := ⟨_, rfl⟩
 rw [hW] at HB HR1 HP ⊢
 clear hW hs0
 obtain ⟨hp0, hp1, hp2, hp3, hp4, hp5, hp6, hp7, hp8, hp9⟩ := HP.out.box
 have hC1 := HC1.out
 simp only [Try.f6] at hC1
 subst hC1
 clear HC1
 obtain ⟨C4, hC4⟩ : ∃ C, (match Try.f6.body with | some (.seq _ (.seq _ (.seq _ (.seq _ c)))) => c | _ => .skip) = C := ⟨_, rfl⟩
 have HC4 := Aside0.mk hC4
 simp only [Try.f6] at hC4
 rw [hC4]
 clear hC4
 go_wp2_with fail
 go_at_call 10
 refine (known4 _).mono ?_
 rintro e w1 ⟨rfl, hw1⟩
 replace HB := lbB HB hw1
 replace HR1 := lbR HR1 hw1
 replace HP := lbP HP hw1
 clear hw1
 clear hp0 hp1 hp2 hp3 hp4 hp5 hp6 hp7 hp8 hp9
 obtain ⟨hp0, hp1, hp2, hp3, hp4, hp5, hp6, hp7, hp8, hp9⟩ := HP.out.box
 go_wp2_with fail
 go_at_call 11
 refine (HF1.out A c _ HR1.out).mono ?_
 rintro e w2 ⟨rfl, hw2⟩
 replace HB := lbB HB hw2
 replace HR1 := lbR HR1 hw2
 replace HP := lbP HP hw2
 clear hw2
 clear hp0 hp1 hp2 hp3 hp4 hp5 hp6 hp7 hp8 hp9
 obtain ⟨hp0, hp1, hp2, hp3, hp4, hp5, hp6, hp7, hp8, hp9⟩ := HP.out.box
 go_wp2_with fail
 go_at_call 15
 refine (isp4 p A c _ HR1.out HPB.out).mono ?_
 rintro e w3 ⟨rfl, hw3⟩
 replace HB := lbB HB hw3
 replace HR1 := lbR HR1 hw3
 replace HP := lbP HP hw3
 clear hw3
 clear hp0 hp1 hp2 hp3 hp4 hp5 hp6 hp7 hp8 hp9
 obtain ⟨hp0, hp1, hp2, hp3, hp4, hp5, hp6, hp7, hp8, hp9⟩ := HP.out.box
 go_wp2_with fail
 have HNE : Aside0 (s0 < w3.heap.size ∧ w.heap.size ≤ w3.heap.size) := ⟨BlkP.lt' HP.out, HB.out.b.size⟩
 obtain ⟨n2, hn2⟩ : ∃ n, w3.heap.size = n := ⟨_, rfl⟩
 rw [hn2] at HNE
 try rw [hn2]
 clear hp0 hp1 hp2 hp3 hp4 hp5 hp6 hp7 hp8 hp9
 replace HB := laB HB (.cells #[.int .i64 p.g, .int .i64 p.k, .slice A p.l.length c, .int .i64 p.ht, .int .i64 p.hv, .int .i64 p.hc, .int .i64 p.ix, .int .i64 p.tm, .bool p.mrk, .bool p.hed] 26)
 replace HR1 := laR HR1 (.cells #[.int .i64 p.g, .int .i64 p.k, .slice A p.l.length c, .int .i64 p.ht, .int .i64 p.hv, .int .i64 p.hc, .int .i64 p.ix, .int .i64 p.tm, .bool p.mrk, .bool p.hed] 26)
 replace HP := laP HP (.cells #[.int .i64 p.g, .int .i64 p.k, .slice A p.l.length c, .int .i64 p.ht, .int .i64 p.hv, .int .i64 p.hc, .int .i64 p.ix, .int .i64 p.tm, .bool p.mrk, .bool p.hed] 26)
 have HQ : Aside0 (BlkP p A c n2 (w3.alloc (.cells #[.int .i64 p.g, .int .i64 p.k, .slice A p.l.length c, .int .i64 p.ht, .int .i64 p.hv, .int .i64 p.hc, .int .i64 p.ix, .int .i64 p.tm, .bool p.mrk, .bool p.hed] 26))) := ⟨(by have hq := BlkP.new p A c w3; rw [hn2] at hq; exact hq)⟩
 obtain ⟨W2, hW2⟩ : ∃ W, w3.alloc (.cells #[.int .i64 p.g, .int .i64 p.k, .slice A p.l.length c, .int .i64 p.ht, .int .i64 p.hv, .int .i64 p.hc, .int .i64 p.ix, .int .i64 p.tm, .bool p.mrk, .bool p.hed] 26) = W := ⟨_, rfl⟩
 rw [hW2] at HB HR1 HP HQ ⊢
 clear hW2
 clear hn2
 have hC4 := HC4.out
 simp only [Try.f6] at hC4
 subst hC4
 clear HC4
 obtain ⟨C5, hC5⟩ : ∃ C, (match Try.f6.body with | some (.seq _ (.seq _ (.seq _ (.seq _ (.seq _ c))))) => c | _ => .skip) = C := ⟨_, rfl⟩
 have HC5 := Aside0.mk hC5
 simp only [Try.f6] at hC5
 rw [hC5]
 clear hC5
 obtain ⟨hp0, hp1, hp2, hp3, hp4, hp5, hp6, hp7, hp8, hp9⟩ := HP.out.box
 obtain ⟨hq0, hq1, hq2, hq3, hq4, hq5, hq6, hq7, hq8, hq9⟩ := HQ.out.box
 obtain ⟨b0, hb0⟩ : ∃ n, W2.heap.size = n := ⟨_, rfl⟩
 have HB0 := Aside0.mk hb0
 have hbw : w.heap.size ≤ b0 := by rw [← hb0]; exact HB.out.b.size
 have hbn : n2 < b0 := by rw [← hb0]; exact BlkP.lt' HQ.out
 have hbs : s0 < b0 := by rw [← hb0]; exact BlkP.lt' HP.out
 have HBL := Aside0.mk (And.intro hbw (And.intro hbn hbs))
 have HAP : Aside0 (∀ q, inA A p.l q → q < b0) := ⟨fun q hq => by rw [← hb0]; exact HR1.out.lt hq⟩
 clear hb0 hbw hbn hbs
 clear hp0 hp1 hp2 hp3 hp4 hp5 hp6 hp7 hp8 hp9 hq0 hq1 hq2 hq3 hq4 hq5 hq6 hq7 hq8 hq9
 obtain ⟨L2, hL2⟩ : ∃ L, (p.l ++ [⟨0, 0, ⟨#[]⟩⟩]) = L := ⟨_, rfl⟩
 have HL2 := Aside0.mk hL2
 rw [hL2] at HQB HBR HSM
 have HL2n : Aside0 (L2.length ≤ 7) := ⟨by rw [← hL2, List.length_append]; have := HLN.out; show p.l.length + 1 ≤ 7; omega⟩
 clear hL2
 obtain ⟨hp0, hp1, hp2, hp3, hp4, hp5, hp6, hp7, hp8, hp9⟩ := HP.out.box
 obtain ⟨hq0, hq1, hq2, hq3, hq4, hq5, hq6, hq7, hq8, hq9⟩ := HQ.out.box
 try dsimp only at hp0 hp1 hp2 hp3 hp4 hp5 hp6 hp7 hp8 hp9 hq0 hq1 hq2 hq3 hq4 hq5 hq6 hq7 hq8 hq9
 obtain ⟨VS, hVS⟩ : ∃ v, Value.slice A p.l.length c = v := ⟨_, rfl⟩
 have HVS := Aside0.mk hVS
 rw [hVS] at hp2
 clear hVS
 have yf := BlkP.free' HQ.out
 go_wp2_with (first | (at_builtin; refine wpList_append_ent (v := .slice none 0 0) (l := []) (m := p.l) (b := b0) rfl (.const (.slice none 0 0)) (.tmp 31) rfl rfl (OwnE.nil _ _) (by show VS = _; exact HVS.out.symm) HR1.out (by show 0 + p.l.length ≤ _; omega) (Nat.le_of_eq HB0.out.symm) ?_; intro v6 w6 ho6 hgr ha6; rw [List.nil_append] at ho6; have hon : Only (fun _ => False) W2 w6 := (Only.refl _ _).of_grown hgr (fun q hq _ => by cases hq); have HO6 := Aside0.mk ho6; replace HB := Aside0.mk (Bel.only HB.out hon (fun q hq h => h)); replace HP := Aside0.mk (BlkP.only HP.out hon (fun h => h)); replace HQ := Aside0.mk (BlkP.only HQ.out hon (fun h => h)); replace HR1 := Aside0.mk (Rd.only HR1.out hon (fun q hq h => h)); have HS6 : Aside0 (b0 ≤ w6.heap.size) := ⟨by rw [← HB0.out]; exact hon.size⟩; clear ho6 hgr ha6 hon; obtain ⟨m6, hm6⟩ : ∃ n, w6.heap.size = n := ⟨_, rfl⟩; have HM6 := Aside0.mk hm6) | (at_builtin; refine wpList_append_ent (v := v6) (l := p.l) (m := [⟨0, 0, ⟨#[]⟩⟩]) (b := b0) rfl (.tmp 32) (.tmp 34) rfl rfl (HO6.out.alloc _) rfl (by have hq := Rd.one w6 ⟨0, 0, ⟨#[]⟩⟩; rw [HM6.out] at hq; exact hq) (by show p.l.length + 1 ≤ _; have := HLN.out; omega) (by rw [World.size_alloc]; have := HS6.out; omega) ?_; intro v7 w7 ho7 hgr ha7; rw [HL2.out] at ho7; have hon : Only (fun q => v6.ownBlock = some q) (w6.alloc (.cells #[.int .i64 0, .int .i64 0, .string ⟨#[]⟩] 28)) w7 := (Only.refl _ _).of_grown hgr (fun q hq _ => hq); have hbl := HBL.out; have HOB : Aside0 (∀ q, v6.ownBlock = some q → b0 ≤ q) := ⟨fun q hq => (own_block HO6.out hq).1⟩; replace HB := Aside0.mk (Bel.only (HB.out.alloc (.cells #[.int .i64 0, .int .i64 0, .string ⟨#[]⟩] 28)) hon (fun q hq h => by have := HOB.out _ h; omega)); replace HP := Aside0.mk (BlkP.only (HP.out.alloc (.cells #[.int .i64 0, .int .i64 0, .string ⟨#[]⟩] 28)) hon (fun h => by have := HOB.out _ h; omega)); replace HQ := Aside0.mk (BlkP.only (HQ.out.alloc (.cells #[.int .i64 0, .int .i64 0, .string ⟨#[]⟩] 28)) hon (fun h => by have := HOB.out _ h; omega)); replace HR1 := Aside0.mk (Rd.only (HR1.out.alloc (.cells #[.int .i64 0, .int .i64 0, .string ⟨#[]⟩] 28)) hon (fun q hq h => by have := HOB.out _ h; have := HAP.out q hq; omega)); obtain ⟨A7, c7, hv7, hrd7, hfr7⟩ := ho7.rd' (by have := HL2n.out; omega); subst hv7; have HR7 := Aside0.mk hrd7; clear ho7 hgr ha7 hon hrd7 hfr7 hbl hm6; obtain ⟨z0, z1, z2, z3, z4, z5, z6, z7, z8, z9⟩ := HQ.out.box; have zf := BlkP.free' HQ.out))
 clear hp0 hp1 hp2 hp3 hp4 hp5 hp6 hp7 hp8 hp9 hq0 hq1 hq2 hq3 hq4 hq5 hq6 hq7 hq8 hq9
 clear z0 z1 z2 z3 z4 z5 z6 z7 z8 z9 zf yf
 have hx := (Only.refl (fun q => q = n2) w7).setCell (p := ⟨n2, 2, none⟩) rfl (.slice A7 L2.length c7)
 have hne := HNE.out
 replace HB := Aside0.mk (Bel.only HB.out hx (fun q hq h => by have h2 : q = n2 := h; omega))
 replace HP := Aside0.mk (BlkP.only HP.out hx (fun h => by have h2 : s0 = n2 := h; omega))
 replace HR1 := Aside0.mk (Rd.only HR1.out hx (fun q hq h => by have h3 : q = n2 := h; subst h3; exact Rd.apartP HR1.out HQ.out hq))
 replace HR7 := Aside0.mk (Rd.only HR7.out hx (fun q hq h => by have h3 : q = n2 := h; subst h3; exact Rd.apartP HR7.out HQ.out hq))
 replace HQ := Aside0.mk (BlkP.setL' HQ.out L2 A7 c7)
 clear hx hne
 obtain ⟨W6, hW⟩ : ∃ X, w7.setCell ⟨n2, 2, none⟩ (.slice A7 L2.length c7) = X := ⟨_, rfl⟩
 rw [hW] at HB HP HR1 HR7 HQ ⊢
 clear hW
 have hC5 := HC5.out
 simp only [Try.f6] at hC5
 subst hC5
 clear HC5
 obtain ⟨hp0, hp1, hp2, hp3, hp4, hp5, hp6, hp7, hp8, hp9⟩ := HP.out.box
 obtain ⟨hq0, hq1, hq2, hq3, hq4, hq5, hq6, hq7, hq8, hq9⟩ := HQ.out.box
 try dsimp only at hp0 hp1 hp2 hp3 hp4 hp5 hp6 hp7 hp8 hp9 hq0 hq1 hq2 hq3 hq4 hq5 hq6 hq7 hq8 hq9
 go_wp2_with fail
 go_at_call 12
 refine (part_Bytes ⟨p.g, p.k, L2, p.ht, p.hv, p.hc, p.ix, p.tm, p.mrk, p.hed⟩ A7 c7 _ HR7.out HBR.out).mono ?_
 rintro e w4 ⟨rfl, hw4⟩
 replace HB := lbB HB hw4
 replace HR1 := lbR HR1 hw4
 replace HP := lbP HP hw4
 replace HQ := lbP HQ hw4
 replace HR7 := lbR HR7 hw4
 clear hw4
 clear hp0 hp1 hp2 hp3 hp4 hp5 hp6 hp7 hp8 hp9 hq0 hq1 hq2 hq3 hq4 hq5 hq6 hq7 hq8 hq9
 obtain ⟨hp0, hp1, hp2, hp3, hp4, hp5, hp6, hp7, hp8, hp9⟩ := HP.out.box
 obtain ⟨hq0, hq1, hq2, hq3, hq4, hq5, hq6, hq7, hq8, hq9⟩ := HQ.out.box
 try dsimp only at hp0 hp1 hp2 hp3 hp4 hp5 hp6 hp7 hp8 hp9 hq0 hq1 hq2 hq3 hq4 hq5 hq6 hq7 hq8 hq9
 go_wp2_with fail
 go_at_call 15
 refine (isp4 ⟨p.g, p.k, L2, p.ht, p.hv, p.hc, p.ix, p.tm, p.mrk, p.hed⟩ A7 c7 _ HR7.out HQB.out).mono ?_
 rintro e w5 ⟨rfl, hw5⟩
 replace HB := lbB HB hw5
 replace HR1 := lbR HR1 hw5
 replace HP := lbP HP hw5
 replace HQ := lbP HQ hw5
 replace HR7 := lbR HR7 hw5
 clear hw5
 clear hp0 hp1 hp2 hp3 hp4 hp5 hp6 hp7 hp8 hp9 hq0 hq1 hq2 hq3 hq4 hq5 hq6 hq7 hq8 hq9
 obtain ⟨hp0, hp1, hp2, hp3, hp4, hp5, hp6, hp7, hp8, hp9⟩ := HP.out.box
 obtain ⟨hq0, hq1, hq2, hq3, hq4, hq5, hq6, hq7, hq8, hq9⟩ := HQ.out.box
 try dsimp only at hp0 hp1 hp2 hp3 hp4 hp5 hp6 hp7 hp8 hp9 hq0 hq1 hq2 hq3 hq4 hq5 hq6 hq7 hq8 hq9
 go_wp2_with fail
 go_at_call 18
 refine (samep p ⟨p.g, p.k, L2, p.ht, p.hv, p.hc, p.ix, p.tm, p.mrk, p.hed⟩ A c A7 c7 _ HR1.out HR7.out HSM.out).mono ?_
 rintro e w6 ⟨rfl, hw6⟩
 replace HB := lbB HB hw6
 replace HR1 := lbR HR1 hw6
 replace HP := lbP HP hw6
 replace HQ := lbP HQ hw6
 replace HR7 := lbR HR7 hw6
 clear hw6
 go_wp2_with fail
 go_ret
 exact ⟨rfl, HB.out.b⟩
set_option maxHeartbeats 8000000 in
set_option maxRecDepth 100000 in
theorem spo4_3 (p : Prt) (A : Option Addr) (c : Nat) (wh : Int) (w : World) (hp : Rd w A c p.l) (hw8 : 0 ≤ wh ∧ wh ≤ 255) (hf1 : (∀ (A : Option Addr) (c : Nat) (w : World), Rd w A c p.l → Calls Try.prog 11 #[vP p A c] w fun e w' => e = .returned (.bool true) ∧ Below w.heap.size w w')) (hpb : isP p = true) (hcase : wh % 6 = 3) :
  Calls Try.prog 6 #[vP p A c, .int .u8 wh] w fun e w' => e = .returned (.bool true) ∧ Below w.heap.size w w' := by
 have HF1 := Aside0.mk hf1
 have HPB := Aside0.mk hpb
 have hw6 : wh.tmod 6 = 3 := by rw [tmod6 hw8]; exact hcase
 have hqb : isP ⟨p.g, p.k, p.l, p.ht, p.hv, p.hc, (-1), p.tm, p.mrk, p.hed⟩ = false := not_P (fun h => by have h9 := (h.2.2.1 6).1; simp only [getA] at h9; omega)
 have HQB := Aside0.mk hqb
 have HBR : Aside0 (bytesR ⟨p.g, p.k, p.l, p.ht, p.hv, p.hc, (-1), p.tm, p.mrk, p.hed⟩ = (⟨#[]⟩, 11)) := ⟨by unfold bytesR; rw [if_neg (by rw [hqb]; decide)]⟩
 have HSM : Aside0 (sameP p ⟨p.g, p.k, p.l, p.ht, p.hv, p.hc, (-1), p.tm, p.mrk, p.hed⟩ = false) := ⟨spoilt hpb hqb⟩
 clear hqb hcase
 have HB := Aside0.mk (Bel.refl w)
 have HR1 := Aside0.mk (hp)
 clear hp hf1 hw8 hpb
 unfold vP
 go_enter Try.func6, Try.ntmps6
 obtain ⟨C1, hC1⟩ : ∃ C, (match Try.f6.body with | some (.seq _ c) => c | _ => .skip) = C := ⟨_, rfl⟩
 have HC1 := Aside0.mk hC1
 simp only [Try.f6] at hC1
 rw [hC1]
 clear hC1
 go_wp2_with fail
 obtain ⟨s0, hs0⟩ : ∃ n, w.heap.size = n := ⟨_, rfl⟩
 replace HB := laB HB (.cells #[.int .i64 p.g, .int .i64 p.k, .slice A p.l.length c, .int .i64 p.ht, .int .i64 p.hv, .int .i64 p.hc, .int .i64 p.ix, .int .i64 p.tm, .bool p.mrk, .bool p.hed] 26)
 replace HR1 := laR HR1 (.cells #[.int .i64 p.g, .int .i64 p.k, .slice A p.l.length c, .int .i64 p.ht, .int .i64 p.hv, .int .i64 p.hc, .int .i64 p.ix, .int .i64 p.tm, .bool p.mrk, .bool p.hed] 26)
 have HP : Aside0 (BlkP p A c s0 (w.alloc (.cells #[.int .i64 p.g, .int .i64 p.k, .slice A p.l.length c, .int .i64 p.ht, .int .i64 p.hv, .int .i64 p.hc, .int .i64 p.ix, .int .i64 p.tm, .bool p.mrk, .bool p.hed] 26))) := ⟨(by have hq := BlkP.new p A c w; simp only [World.size_alloc, hs0] at hq; exact hq)⟩
 try simp only [World.size_alloc, hs0]
 obtain ⟨W0, hW⟩ : ∃ X, (w.alloc (.cells #[.int .i64 p.g, .int .i64 p.k, .slice A p.l.length c, .int .i64 p.ht, .int .i64 p.hv, .int .i64 p.hc, .int .i64 p.ix, .int .i64 p.tm, .bool p.mrk, .bool p.hed] 26)) = X := ⟨_, rfl⟩
 rw [hW] at HB HR1 HP ⊢
 clear hW hs0
 obtain ⟨hp0, hp1, hp2, hp3, hp4, hp5, hp6, hp7, hp8, hp9⟩ := HP.out.box
 have hC1 := HC1.out
 simp only [Try.f6] at hC1
 subst hC1
 clear HC1
 obtain ⟨C4, hC4⟩ : ∃ C, (match Try.f6.body with | some (.seq _ (.seq _ (.seq _ (.seq _ c)))) => c | _ => .skip) = C := ⟨_, rfl⟩
 have HC4 := Aside0.mk hC4
 simp only [Try.f6] at hC4
 rw [hC4]
 clear hC4
 go_wp2_with fail
 go_at_call 10
 refine (known4 _).mono ?_
 rintro e w1 ⟨rfl, hw1⟩
 replace HB := lbB HB hw1
 replace HR1 := lbR HR1 hw1
 replace HP := lbP HP hw1
 clear hw1
 clear hp0 hp1 hp2 hp3 hp4 hp5 hp6 hp7 hp8 hp9
 obtain ⟨hp0, hp1, hp2, hp3, hp4, hp5, hp6, hp7, hp8, hp9⟩ := HP.out.box
 go_wp2_with fail
 go_at_call 11
 refine (HF1.out A c _ HR1.out).mono ?_
 rintro e w2 ⟨rfl, hw2⟩
 replace HB := lbB HB hw2
 replace HR1 := lbR HR1 hw2
 replace HP := lbP HP hw2
 clear hw2
 clear hp0 hp1 hp2 hp3 hp4 hp5 hp6 hp7 hp8 hp9
 obtain ⟨hp0, hp1, hp2, hp3, hp4, hp5, hp6, hp7, hp8, hp9⟩ := HP.out.box
 go_wp2_with fail
 go_at_call 15
 refine (isp4 p A c _ HR1.out HPB.out).mono ?_
 rintro e w3 ⟨rfl, hw3⟩
 replace HB := lbB HB hw3
 replace HR1 := lbR HR1 hw3
 replace HP := lbP HP hw3
 clear hw3
 clear hp0 hp1 hp2 hp3 hp4 hp5 hp6 hp7 hp8 hp9
 obtain ⟨hp0, hp1, hp2, hp3, hp4, hp5, hp6, hp7, hp8, hp9⟩ := HP.out.box
 go_wp2_with fail
 have HNE : Aside0 (s0 < w3.heap.size ∧ w.heap.size ≤ w3.heap.size) := ⟨BlkP.lt' HP.out, HB.out.b.size⟩
 obtain ⟨n2, hn2⟩ : ∃ n, w3.heap.size = n := ⟨_, rfl⟩
 rw [hn2] at HNE
 try rw [hn2]
 clear hp0 hp1 hp2 hp3 hp4 hp5 hp6 hp7 hp8 hp9
 replace HB := laB HB (.cells #[.int .i64 p.g, .int .i64 p.k, .slice A p.l.length c, .int .i64 p.ht, .int .i64 p.hv, .int .i64 p.hc, .int .i64 p.ix, .int .i64 p.tm, .bool p.mrk, .bool p.hed] 26)
 replace HR1 := laR HR1 (.cells #[.int .i64 p.g, .int .i64 p.k, .slice A p.l.length c, .int .i64 p.ht, .int .i64 p.hv, .int .i64 p.hc, .int .i64 p.ix, .int .i64 p.tm, .bool p.mrk, .bool p.hed] 26)
 replace HP := laP HP (.cells #[.int .i64 p.g, .int .i64 p.k, .slice A p.l.length c, .int .i64 p.ht, .int .i64 p.hv, .int .i64 p.hc, .int .i64 p.ix, .int .i64 p.tm, .bool p.mrk, .bool p.hed] 26)
 have HQ : Aside0 (BlkP p A c n2 (w3.alloc (.cells #[.int .i64 p.g, .int .i64 p.k, .slice A p.l.length c, .int .i64 p.ht, .int .i64 p.hv, .int .i64 p.hc, .int .i64 p.ix, .int .i64 p.tm, .bool p.mrk, .bool p.hed] 26))) := ⟨(by have hq := BlkP.new p A c w3; rw [hn2] at hq; exact hq)⟩
 obtain ⟨W2, hW2⟩ : ∃ W, w3.alloc (.cells #[.int .i64 p.g, .int .i64 p.k, .slice A p.l.length c, .int .i64 p.ht, .int .i64 p.hv, .int .i64 p.hc, .int .i64 p.ix, .int .i64 p.tm, .bool p.mrk, .bool p.hed] 26) = W := ⟨_, rfl⟩
 rw [hW2] at HB HR1 HP HQ ⊢
 clear hW2
 clear hn2
 have hC4 := HC4.out
 simp only [Try.f6] at hC4
 subst hC4
 clear HC4
 obtain ⟨C5, hC5⟩ : ∃ C, (match Try.f6.body with | some (.seq _ (.seq _ (.seq _ (.seq _ (.seq _ c))))) => c | _ => .skip) = C := ⟨_, rfl⟩
 have HC5 := Aside0.mk hC5
 simp only [Try.f6] at hC5
 rw [hC5]
 clear hC5
 obtain ⟨hp0, hp1, hp2, hp3, hp4, hp5, hp6, hp7, hp8, hp9⟩ := HP.out.box
 obtain ⟨hq0, hq1, hq2, hq3, hq4, hq5, hq6, hq7, hq8, hq9⟩ := HQ.out.box
 have yf := BlkP.free' HQ.out
 go_wp2_with fail
 clear yf
 clear hp0 hp1 hp2 hp3 hp4 hp5 hp6 hp7 hp8 hp9 hq0 hq1 hq2 hq3 hq4 hq5 hq6 hq7 hq8 hq9
 have hx := (Only.refl (fun q => q = n2) W2).setCell (p := ⟨n2, 6, none⟩) rfl (.int .i64 (-1))
 have hne := HNE.out
 replace HB := Aside0.mk (Bel.only HB.out hx (fun q hq h => by have h2 : q = n2 := h; omega))
 replace HP := Aside0.mk (BlkP.only HP.out hx (fun h => by have h2 : s0 = n2 := h; omega))
 replace HR1 := Aside0.mk (Rd.only HR1.out hx (fun q hq h => by have h3 : q = n2 := h; subst h3; exact Rd.apartP HR1.out HQ.out hq))
 replace HQ := Aside0.mk (BlkP.cel6 HQ.out (-1))
 clear hx hne
 obtain ⟨W6, hW⟩ : ∃ X, W2.setCell ⟨n2, 6, none⟩ (.int .i64 (-1)) = X := ⟨_, rfl⟩
 rw [hW] at HB HP HR1 HQ ⊢
 clear hW
 have hC5 := HC5.out
 simp only [Try.f6] at hC5
 subst hC5
 clear HC5
 obtain ⟨hp0, hp1, hp2, hp3, hp4, hp5, hp6, hp7, hp8, hp9⟩ := HP.out.box
 obtain ⟨hq0, hq1, hq2, hq3, hq4, hq5, hq6, hq7, hq8, hq9⟩ := HQ.out.box
 try dsimp only at hp0 hp1 hp2 hp3 hp4 hp5 hp6 hp7 hp8 hp9 hq0 hq1 hq2 hq3 hq4 hq5 hq6 hq7 hq8 hq9
 go_wp2_with fail
 go_at_call 12
 refine (part_Bytes ⟨p.g, p.k, p.l, p.ht, p.hv, p.hc, (-1), p.tm, p.mrk, p.hed⟩ A c _ HR1.out HBR.out).mono ?_
 rintro e w4 ⟨rfl, hw4⟩
 replace HB := lbB HB hw4
 replace HR1 := lbR HR1 hw4
 replace HP := lbP HP hw4
 replace HQ := lbP HQ hw4
 clear hw4
 clear hp0 hp1 hp2 hp3 hp4 hp5 hp6 hp7 hp8 hp9 hq0 hq1 hq2 hq3 hq4 hq5 hq6 hq7 hq8 hq9
 obtain ⟨hp0, hp1, hp2, hp3, hp4, hp5, hp6, hp7, hp8, hp9⟩ := HP.out.box
 obtain ⟨hq0, hq1, hq2, hq3, hq4, hq5, hq6, hq7, hq8, hq9⟩ := HQ.out.box
 try dsimp only at hp0 hp1 hp2 hp3 hp4 hp5 hp6 hp7 hp8 hp9 hq0 hq1 hq2 hq3 hq4 hq5 hq6 hq7 hq8 hq9
 go_wp2_with fail
 go_at_call 15
 refine (isp4 ⟨p.g, p.k, p.l, p.ht, p.hv, p.hc, (-1), p.tm, p.mrk, p.hed⟩ A c _ HR1.out HQB.out).mono ?_
 rintro e w5 ⟨rfl, hw5⟩
 replace HB := lbB HB hw5
 replace HR1 := lbR HR1 hw5
 replace HP := lbP HP hw5
 replace HQ := lbP HQ hw5
 clear hw5
 clear hp0 hp1 hp2 hp3 hp4 hp5 hp6 hp7 hp8 hp9 hq0 hq1 hq2 hq3 hq4 hq5 hq6 hq7 hq8 hq9
 obtain ⟨hp0, hp1, hp2, hp3, hp4, hp5, hp6, hp7, hp8, hp9⟩ := HP.out.box
 obtain ⟨hq0, hq1, hq2, hq3, hq4, hq5, hq6, hq7, hq8, hq9⟩ := HQ.out.box
 try dsimp only at hp0 hp1 hp2 hp3 hp4 hp5 hp6 hp7 hp8 hp9 hq0 hq1 hq2 hq3 hq4 hq5 hq6 hq7 hq8 hq9
 go_wp2_with fail
 go_at_call 18
 refine (samep p ⟨p.g, p.k, p.l, p.ht, p.hv, p.hc, (-1), p.tm, p.mrk, p.hed⟩ A c A c _ HR1.out HR1.out HSM.out).mono ?_
 rintro e w6 ⟨rfl, hw6⟩
 replace HB := lbB HB hw6
 replace HR1 := lbR HR1 hw6
 replace HP := lbP HP hw6
 replace HQ := lbP HQ hw6
 clear hw6
 go_wp2_with fail
 go_ret
 exact ⟨rfl, HB.out.b⟩
set_option maxHeartbeats 8000000 in
set_option maxRecDepth 100000 in
theorem spo4_4 (p : Prt) (A : Option Addr) (c : Nat) (wh : Int) (w : World) (hp : Rd w A c p.l) (hw8 : 0 ≤ wh ∧ wh ≤ 255) (hf1 : (∀ (A : Option Addr) (c : Nat) (w : World), Rd w A c p.l → Calls Try.prog 11 #[vP p A c] w fun e w' => e = .returned (.bool true) ∧ Below w.heap.size w w')) (hpb : isP p = true) (hcase : wh % 6 = 4) :
  Calls Try.prog 6 #[vP p A c, .int .u8 wh] w fun e w' => e = .returned (.bool true) ∧ Below w.heap.size w w' := by
 have HF1 := Aside0.mk hf1
 have HPB := Aside0.mk hpb
 have hw6 : wh.tmod 6 = 4 := by rw [tmod6 hw8]; exact hcase
 have hqb : isP ⟨p.g, p.k, p.l, p.ht, (-1), p.hc, p.ix, p.tm, p.mrk, p.hed⟩ = false := not_P (fun h => by have h9 := (h.2.2.1 4).1; simp only [getA] at h9; omega)
 have HQB := Aside0.mk hqb
 have HBR : Aside0 (bytesR ⟨p.g, p.k, p.l, p.ht, (-1), p.hc, p.ix, p.tm, p.mrk, p.hed⟩ = (⟨#[]⟩, 11)) := ⟨by unfold bytesR; rw [if_neg (by rw [hqb]; decide)]⟩
 have HSM : Aside0 (sameP p ⟨p.g, p.k, p.l, p.ht, (-1), p.hc, p.ix, p.tm, p.mrk, p.hed⟩ = false) := ⟨spoilt hpb hqb⟩
 clear hqb hcase
 have HB := Aside0.mk (Bel.refl w)
 have HR1 := Aside0.mk (hp)
 clear hp hf1 hw8 hpb
 unfold vP
 go_enter Try.func6, Try.ntmps6
 obtain ⟨C1, hC1⟩ : ∃ C, (match Try.f6.body with | some (.seq _ c) => c | _ => .skip) = C := ⟨_, rfl⟩
 have HC1 := Aside0.mk hC1
 simp only [Try.f6] at hC1
 rw [hC1]
 clear hC1
 go_wp2_with fail
 obtain ⟨s0, hs0⟩ : ∃ n, w.heap.size = n := ⟨_, rfl⟩
 replace HB := laB HB (.cells #[.int .i64 p.g, .int .i64 p.k, .slice A p.l.length c, .int .i64 p.ht, .int .i64 p.hv, .int .i64 p.hc, .int .i64 p.ix, .int .i64 p.tm, .bool p.mrk, .bool p.hed] 26)
 replace HR1 := laR HR1 (.cells #[.int .i64 p.g, .int .i64 p.k, .slice A p.l.length c, .int .i64 p.ht, .int .i64 p.hv, .int .i64 p.hc, .int .i64 p.ix, .int .i64 p.tm, .bool p.mrk, .bool p.hed] 26)
 have HP : Aside0 (BlkP p A c s0 (w.alloc (.cells #[.int .i64 p.g, .int .i64 p.k, .slice A p.l.length c, .int .i64 p.ht, .int .i64 p.hv, .int .i64 p.hc, .int .i64 p.ix, .int .i64 p.tm, .bool p.mrk, .bool p.hed] 26))) := ⟨(by have hq := BlkP.new p A c w; simp only [World.size_alloc, hs0] at hq; exact hq)⟩
 try simp only [World.size_alloc, hs0]
 obtain ⟨W0, hW⟩ : ∃ X, (w.alloc (.cells #[.int .i64 p.g, .int .i64 p.k, .slice A p.l.length c, .int .i64 p.ht, .int .i64 p.hv, .int .i64 p.hc, .int .i64 p.ix, .int .i64 p.tm, .bool p.mrk, .bool p.hed] 26)) = X := ⟨_, rfl⟩
 rw [hW] at HB HR1 HP ⊢
 clear hW hs0
 obtain ⟨hp0, hp1, hp2, hp3, hp4, hp5, hp6, hp7, hp8, hp9⟩ := HP.out.box
 have hC1 := HC1.out
 simp only [Try.f6] at hC1
 subst hC1
 clear HC1
 obtain ⟨C4, hC4⟩ : ∃ C, (match Try.f6.body with | some (.seq _ (.seq _ (.seq _ (.seq _ c)))) => c | _ => .skip) = C := ⟨_, rfl⟩
 have HC4 := Aside0.mk hC4
 simp only [Try.f6] at hC4
 rw [hC4]
 clear hC4
 go_wp2_with fail
 go_at_call 10
 refine (known4 _).mono ?_
 rintro e w1 ⟨rfl, hw1⟩
 replace HB := lbB HB hw1
 replace HR1 := lbR HR1 hw1
 replace HP := lbP HP hw1
 clear hw1
 clear hp0 hp1 hp2 hp3 hp4 hp5 hp6 hp7 hp8 hp9
 obtain ⟨hp0, hp1, hp2, hp3, hp4, hp5, hp6, hp7, hp8, hp9⟩ := HP.out.box
 go_wp2_with fail
 go_at_call 11
 refine (HF1.out A c _ HR1.out).mono ?_
 rintro e w2 ⟨rfl, hw2⟩
 replace HB := lbB HB hw2
 replace HR1 := lbR HR1 hw2
 replace HP := lbP HP hw2
 clear hw2
 clear hp0 hp1 hp2 hp3 hp4 hp5 hp6 hp7 hp8 hp9
 obtain ⟨hp0, hp1, hp2, hp3, hp4, hp5, hp6, hp7, hp8, hp9⟩ := HP.out.box
 go_wp2_with fail
 go_at_call 15
 refine (isp4 p A c _ HR1.out HPB.out).mono ?_
 rintro e w3 ⟨rfl, hw3⟩
 replace HB := lbB HB hw3
 replace HR1 := lbR HR1 hw3
 replace HP := lbP HP hw3
 clear hw3
 clear hp0 hp1 hp2 hp3 hp4 hp5 hp6 hp7 hp8 hp9
 obtain ⟨hp0, hp1, hp2, hp3, hp4, hp5, hp6, hp7, hp8, hp9⟩ := HP.out.box
 go_wp2_with fail
 have HNE : Aside0 (s0 < w3.heap.size ∧ w.heap.size ≤ w3.heap.size) := ⟨BlkP.lt' HP.out, HB.out.b.size⟩
 obtain ⟨n2, hn2⟩ : ∃ n, w3.heap.size = n := ⟨_, rfl⟩
 rw [hn2] at HNE
 try rw [hn2]
 clear hp0 hp1 hp2 hp3 hp4 hp5 hp6 hp7 hp8 hp9
 replace HB := laB HB (.cells #[.int .i64 p.g, .int .i64 p.k, .slice A p.l.length c, .int .i64 p.ht, .int .i64 p.hv, .int .i64 p.hc, .int .i64 p.ix, .int .i64 p.tm, .bool p.mrk, .bool p.hed] 26)
 replace HR1 := laR HR1 (.cells #[.int .i64 p.g, .int .i64 p.k, .slice A p.l.length c, .int .i64 p.ht, .int .i64 p.hv, .int .i64 p.hc, .int .i64 p.ix, .int .i64 p.tm, .bool p.mrk, .bool p.hed] 26)
 replace HP := laP HP (.cells #[.int .i64 p.g, .int .i64 p.k, .slice A p.l.length c, .int .i64 p.ht, .int .i64 p.hv, .int .i64 p.hc, .int .i64 p.ix, .int .i64 p.tm, .bool p.mrk, .bool p.hed] 26)
 have HQ : Aside0 (BlkP p A c n2 (w3.alloc (.cells #[.int .i64 p.g, .int .i64 p.k, .slice A p.l.length c, .int .i64 p.ht, .int .i64 p.hv, .int .i64 p.hc, .int .i64 p.ix, .int .i64 p.tm, .bool p.mrk, .bool p.hed] 26))) := ⟨(by have hq := BlkP.new p A c w3; rw [hn2] at hq; exact hq)⟩
 obtain ⟨W2, hW2⟩ : ∃ W, w3.alloc (.cells #[.int .i64 p.g, .int .i64 p.k, .slice A p.l.length c, .int .i64 p.ht, .int .i64 p.hv, .int .i64 p.hc, .int .i64 p.ix, .int .i64 p.tm, .bool p.mrk, .bool p.hed] 26) = W := ⟨_, rfl⟩
 rw [hW2] at HB HR1 HP HQ ⊢
 clear hW2
 clear hn2
 have hC4 := HC4.out
 simp only [Try.f6] at hC4
 subst hC4
 clear HC4
 obtain ⟨C5, hC5⟩ : ∃ C, (match Try.f6.body with | some (.seq _ (.seq _ (.seq _ (.seq _ (.seq _ c))))) => c | _ => .skip) = C := ⟨_, rfl⟩
 have HC5 := Aside0.mk hC5
 simp only [Try.f6] at hC5
 rw [hC5]
 clear hC5
 obtain ⟨hp0, hp1, hp2, hp3, hp4, hp5, hp6, hp7, hp8, hp9⟩ := HP.out.box
 obtain ⟨hq0, hq1, hq2, hq3, hq4, hq5, hq6, hq7, hq8, hq9⟩ := HQ.out.box
 have yf := BlkP.free' HQ.out
 go_wp2_with fail
 clear yf
 clear hp0 hp1 hp2 hp3 hp4 hp5 hp6 hp7 hp8 hp9 hq0 hq1 hq2 hq3 hq4 hq5 hq6 hq7 hq8 hq9
 have hx := (Only.refl (fun q => q = n2) W2).setCell (p := ⟨n2, 4, none⟩) rfl (.int .i64 (-1))
 have hne := HNE.out
 replace HB := Aside0.mk (Bel.only HB.out hx (fun q hq h => by have h2 : q = n2 := h; omega))
 replace HP := Aside0.mk (BlkP.only HP.out hx (fun h => by have h2 : s0 = n2 := h; omega))
 replace HR1 := Aside0.mk (Rd.only HR1.out hx (fun q hq h => by have h3 : q = n2 := h; subst h3; exact Rd.apartP HR1.out HQ.out hq))
 replace HQ := Aside0.mk (BlkP.cel4 HQ.out (-1))
 clear hx hne
 obtain ⟨W6, hW⟩ : ∃ X, W2.setCell ⟨n2, 4, none⟩ (.int .i64 (-1)) = X := ⟨_, rfl⟩
 rw [hW] at HB HP HR1 HQ ⊢
 clear hW
 have hC5 := HC5.out
 simp only [Try.f6] at hC5
 subst hC5
 clear HC5
 obtain ⟨hp0, hp1, hp2, hp3, hp4, hp5, hp6, hp7, hp8, hp9⟩ := HP.out.box
 obtain ⟨hq0, hq1, hq2, hq3, hq4, hq5, hq6, hq7, hq8, hq9⟩ := HQ.out.box
 try dsimp only at hp0 hp1 hp2 hp3 hp4 hp5 hp6 hp7 hp8 hp9 hq0 hq1 hq2 hq3 hq4 hq5 hq6 hq7 hq8 hq9
 go_wp2_with fail
 go_at_call 12
 refine (part_Bytes ⟨p.g, p.k, p.l, p.ht, (-1), p.hc, p.ix, p.tm, p.mrk, p.hed⟩ A c _ HR1.out HBR.out).mono ?_
 rintro e w4 ⟨rfl, hw4⟩
 replace HB := lbB HB hw4
 replace HR1 := lbR HR1 hw4
 replace HP := lbP HP hw4
 replace HQ := lbP HQ hw4
 clear hw4
 clear hp0 hp1 hp2 hp3 hp4 hp5 hp6 hp7 hp8 hp9 hq0 hq1 hq2 hq3 hq4 hq5 hq6 hq7 hq8 hq9
 obtain ⟨hp0, hp1, hp2, hp3, hp4, hp5, hp6, hp7, hp8, hp9⟩ := HP.out.box
 obtain ⟨hq0, hq1, hq2, hq3, hq4, hq5, hq6, hq7, hq8, hq9⟩ := HQ.out.box
 try dsimp only at hp0 hp1 hp2 hp3 hp4 hp5 hp6 hp7 hp8 hp9 hq0 hq1 hq2 hq3 hq4 hq5 hq6 hq7 hq8 hq9
 go_wp2_with fail
 go_at_call 15
 refine (isp4 ⟨p.g, p.k, p.l, p.ht, (-1), p.hc, p.ix, p.tm, p.mrk, p.hed⟩ A c _ HR1.out HQB.out).mono ?_
 rintro e w5 ⟨rfl, hw5⟩
 replace HB := lbB HB hw5
 replace HR1 := lbR HR1 hw5
 replace HP := lbP HP hw5
 replace HQ := lbP HQ hw5
 clear hw5
 clear hp0 hp1 hp2 hp3 hp4 hp5 hp6 hp7 hp8 hp9 hq0 hq1 hq2 hq3 hq4 hq5 hq6 hq7 hq8 hq9
 obtain ⟨hp0, hp1, hp2, hp3, hp4, hp5, hp6, hp7, hp8, hp9⟩ := HP.out.box
 obtain ⟨hq0, hq1, hq2, hq3, hq4, hq5, hq6, hq7, hq8, hq9⟩ := HQ.out.box
 try dsimp only at hp0 hp1 hp2 hp3 hp4 hp5 hp6 hp7 hp8 hp9 hq0 hq1 hq2 hq3 hq4 hq5 hq6 hq7 hq8 hq9
 go_wp2_with fail
 go_at_call 18
 refine (samep p ⟨p.g, p.k, p.l, p.ht, (-1), p.hc, p.ix, p.tm, p.mrk, p.hed⟩ A c A c _ HR1.out HR1.out HSM.out).mono ?_
 rintro e w6 ⟨rfl, hw6⟩
 replace HB := lbB HB hw6
 replace HR1 := lbR HR1 hw6
 replace HP := lbP HP hw6
 replace HQ := lbP HQ hw6
 clear hw6
 go_wp2_with fail
 go_ret
 exact ⟨rfl, HB.out.b⟩
set_option maxHeartbeats 8000000 in
set_option maxRecDepth 100000 in
theorem spo4_5 (p : Prt) (A : Option Addr) (c : Nat) (wh : Int) (w : World) (hp : Rd w A c p.l) (hw8 : 0 ≤ wh ∧ wh ≤ 255) (hf1 : (∀ (A : Option Addr) (c : Nat) (w : World), Rd w A c p.l → Calls Try.prog 11 #[vP p A c] w fun e w' => e = .returned (.bool true) ∧ Below w.heap.size w w')) (hpb : isP p = true) (hcase : wh % 6 = 5) :
  Calls Try.prog 6 #[vP p A c, .int .u8 wh] w fun e w' => e = .returned (.bool true) ∧ Below w.heap.size w w' := by
 have HF1 := Aside0.mk hf1
 have HPB := Aside0.mk hpb
 have hw6 : wh.tmod 6 = 5 := by rw [tmod6 hw8]; exact hcase
 have hqb : isP ⟨p.g, p.k, p.l, p.ht, p.hv, p.hc, p.ix, 1099511627777, p.mrk, p.hed⟩ = false := not_P (fun h => by have h9 := (h.2.2.1 7).2; simp only [getA] at h9; omega)
 have HQB := Aside0.mk hqb
 have HBR : Aside0 (bytesR ⟨p.g, p.k, p.l, p.ht, p.hv, p.hc, p.ix, 1099511627777, p.mrk, p.hed⟩ = (⟨#[]⟩, 11)) := ⟨by unfold bytesR; rw [if_neg (by rw [hqb]; decide)]⟩
 have HSM : Aside0 (sameP p ⟨p.g, p.k, p.l, p.ht, p.hv, p.hc, p.ix, 1099511627777, p.mrk, p.hed⟩ = false) := ⟨spoilt hpb hqb⟩
 clear hqb hcase
 have HB := Aside0.mk (Bel.refl w)
 have HR1 := Aside0.mk (hp)
 clear hp hf1 hw8 hpb
 unfold vP
 go_enter Try.func6, Try.ntmps6
 obtain ⟨C1, hC1⟩ : ∃ C, (match Try.f6.body with | some (.seq _ c) => c | _ => .skip) = C := ⟨_, rfl⟩
 have HC1 := Aside0.mk hC1
 simp only [Try.f6] at hC1
 rw [hC1]
 clear hC1
 go_wp2_with fail
 obtain ⟨s0, hs0⟩ : ∃ n, w.heap.size = n := ⟨_, rfl⟩
 replace HB := laB HB (.cells #[.int .i64 p.g, .int .i64 p.k, .slice A p.l.length c, .int .i64 p.ht, .int .i64 p.hv, .int .i64 p.hc, .int .i64 p.ix, .int .i64 p.tm, .bool p.mrk, .bool p.hed] 26)
 replace HR1 := laR HR1 (.cells #[.int .i64 p.g, .int .i64 p.k, .slice A p.l.length c, .int .i64 p.ht, .int .i64 p.hv, .int .i64 p.hc, .int .i64 p.ix, .int .i64 p.tm, .bool p.mrk, .bool p.hed] 26)
 have HP : Aside0 (BlkP p A c s0 (w.alloc (.cells #[.int .i64 p.g, .int .i64 p.k, .slice A p.l.length c, .int .i64 p.ht, .int .i64 p.hv, .int .i64 p.hc, .int .i64 p.ix, .int .i64 p.tm, .bool p.mrk, .bool p.hed] 26))) := ⟨(by have hq := BlkP.new p A c w; simp only [World.size_alloc, hs0] at hq; exact hq)⟩
 try simp only [World.size_alloc, hs0]
 obtain ⟨W0, hW⟩ : ∃ X, (w.alloc (.cells #[.int .i64 p.g, .int .i64 p.k, .slice A p.l.length c, .int .i64 p.ht, .int .i64 p.hv, .int .i64 p.hc, .int .i64 p.ix, .int .i64 p.tm, .bool p.mrk, .bool p.hed] 26)) = X := ⟨_, rfl⟩
 rw [hW] at HB HR1 HP ⊢
 clear hW hs0
 obtain ⟨hp0, hp1, hp2, hp3, hp4, hp5, hp6, hp7, hp8, hp9⟩ := HP.out.box
 have hC1 := HC1.out
 simp only [Try.f6] at hC1
 subst hC1
 clear HC1
 obtain ⟨C4, hC4⟩ : ∃ C, (match Try.f6.body with | some (.seq _ (.seq _ (.seq _ (.seq _ c)))) => c | _ => .skip) = C := ⟨_, rfl⟩
 have HC4 := Aside0.mk hC4
 simp only [Try.f6] at hC4
 rw [hC4]
 clear hC4
 go_wp2_with fail
 go_at_call 10
 refine (known4 _).mono ?_
 rintro e w1 ⟨rfl, hw1⟩
 replace HB := lbB HB hw1
 replace HR1 := lbR HR1 hw1
 replace HP := lbP HP hw1
 clear hw1
 clear hp0 hp1 hp2 hp3 hp4 hp5 hp6 hp7 hp8 hp9
 obtain ⟨hp0, hp1, hp2, hp3, hp4, hp5, hp6, hp7, hp8, hp9⟩ := HP.out.box
 go_wp2_with fail
 go_at_call 11
 refine (HF1.out A c _ HR1.out).mono ?_
 rintro e w2 ⟨rfl, hw2⟩
 replace HB := lbB HB hw2
 replace HR1 := lbR HR1 hw2
 replace HP := lbP HP hw2
 clear hw2
 clear hp0 hp1 hp2 hp3 hp4 hp5 hp6 hp7 hp8 hp9
 obtain ⟨hp0, hp1, hp2, hp3, hp4, hp5, hp6, hp7, hp8, hp9⟩ := HP.out.box
 go_wp2_with fail
 go_at_call 15
 refine (isp4 p A c _ HR1.out HPB.out).mono ?_
 rintro e w3 ⟨rfl, hw3⟩
 replace HB := lbB HB hw3
 replace HR1 := lbR HR1 hw3
 replace HP := lbP HP hw3
 clear hw3
 clear hp0 hp1 hp2 hp3 hp4 hp5 hp6 hp7 hp8 hp9
 obtain ⟨hp0, hp1, hp2, hp3, hp4, hp5, hp6, hp7, hp8, hp9⟩ := HP.out.box
 go_wp2_with fail
 have HNE : Aside0 (s0 < w3.heap.size ∧ w.heap.size ≤ w3.heap.size) := ⟨BlkP.lt' HP.out, HB.out.b.size⟩
 obtain ⟨n2, hn2⟩ : ∃ n, w3.heap.size = n := ⟨_, rfl⟩
 rw [hn2] at HNE
 try rw [hn2]
 clear hp0 hp1 hp2 hp3 hp4 hp5 hp6 hp7 hp8 hp9
 replace HB := laB HB (.cells #[.int .i64 p.g, .int .i64 p.k, .slice A p.l.length c, .int .i64 p.ht, .int .i64 p.hv, .int .i64 p.hc, .int .i64 p.ix, .int .i64 p.tm, .bool p.mrk, .bool p.hed] 26)
 replace HR1 := laR HR1 (.cells #[.int .i64 p.g, .int .i64 p.k, .slice A p.l.length c, .int .i64 p.ht, .int .i64 p.hv, .int .i64 p.hc, .int .i64 p.ix, .int .i64 p.tm, .bool p.mrk, .bool p.hed] 26)
 replace HP := laP HP (.cells #[.int .i64 p.g, .int .i64 p.k, .slice A p.l.length c, .int .i64 p.ht, .int .i64 p.hv, .int .i64 p.hc, .int .i64 p.ix, .int .i64 p.tm, .bool p.mrk, .bool p.hed] 26)
 have HQ : Aside0 (BlkP p A c n2 (w3.alloc (.cells #[.int .i64 p.g, .int .i64 p.k, .slice A p.l.length c, .int .i64 p.ht, .int .i64 p.hv, .int .i64 p.hc, .int .i64 p.ix, .int .i64 p.tm, .bool p.mrk, .bool p.hed] 26))) := ⟨(by have hq := BlkP.new p A c w3; rw [hn2] at hq; exact hq)⟩
 obtain ⟨W2, hW2⟩ : ∃ W, w3.alloc (.cells #[.int .i64 p.g, .int .i64 p.k, .slice A p.l.length c, .int .i64 p.ht, .int .i64 p.hv, .int .i64 p.hc, .int .i64 p.ix, .int .i64 p.tm, .bool p.mrk, .bool p.hed] 26) = W := ⟨_, rfl⟩
 rw [hW2] at HB HR1 HP HQ ⊢
 clear hW2
 clear hn2
 have hC4 := HC4.out
 simp only [Try.f6] at hC4
 subst hC4
 clear HC4
 obtain ⟨C5, hC5⟩ : ∃ C, (match Try.f6.body with | some (.seq _ (.seq _ (.seq _ (.seq _ (.seq _ c))))) => c | _ => .skip) = C := ⟨_, rfl⟩
 have HC5 := Aside0.mk hC5
 simp only [Try.f6] at hC5
 rw [hC5]
 clear hC5
 obtain ⟨hp0, hp1, hp2, hp3, hp4, hp5, hp6, hp7, hp8, hp9⟩ := HP.out.box
 obtain ⟨hq0, hq1, hq2, hq3, hq4, hq5, hq6, hq7, hq8, hq9⟩ := HQ.out.box
 have yf := BlkP.free' HQ.out
 go_wp2_with fail
 clear yf
 clear hp0 hp1 hp2 hp3 hp4 hp5 hp6 hp7 hp8 hp9 hq0 hq1 hq2 hq3 hq4 hq5 hq6 hq7 hq8 hq9
 have hx := (Only.refl (fun q => q = n2) W2).setCell (p := ⟨n2, 7, none⟩) rfl (.int .i64 1099511627777)
 have hne := HNE.out
 replace HB := Aside0.mk (Bel.only HB.out hx (fun q hq h => by have h2 : q = n2 := h; omega))
 replace HP := Aside0.mk (BlkP.only HP.out hx (fun h => by have h2 : s0 = n2 := h; omega))
 replace HR1 := Aside0.mk (Rd.only HR1.out hx (fun q hq h => by have h3 : q = n2 := h; subst h3; exact Rd.apartP HR1.out HQ.out hq))
 replace HQ := Aside0.mk (BlkP.cel7 HQ.out 1099511627777)
 clear hx hne
 obtain ⟨W6, hW⟩ : ∃ X, W2.setCell ⟨n2, 7, none⟩ (.int .i64 1099511627777) = X := ⟨_, rfl⟩
 rw [hW] at HB HP HR1 HQ ⊢
 clear hW
 have hC5 := HC5.out
 simp only [Try.f6] at hC5
 subst hC5
 clear HC5
 obtain ⟨hp0, hp1, hp2, hp3, hp4, hp5, hp6, hp7, hp8, hp9⟩ := HP.out.box
 obtain ⟨hq0, hq1, hq2, hq3, hq4, hq5, hq6, hq7, hq8, hq9⟩ := HQ.out.box
 try dsimp only at hp0 hp1 hp2 hp3 hp4 hp5 hp6 hp7 hp8 hp9 hq0 hq1 hq2 hq3 hq4 hq5 hq6 hq7 hq8 hq9
 go_wp2_with fail
 go_at_call 12
 refine (part_Bytes ⟨p.g, p.k, p.l, p.ht, p.hv, p.hc, p.ix, 1099511627777, p.mrk, p.hed⟩ A c _ HR1.out HBR.out).mono ?_
 rintro e w4 ⟨rfl, hw4⟩
 replace HB := lbB HB hw4
 replace HR1 := lbR HR1 hw4
 replace HP := lbP HP hw4
 replace HQ := lbP HQ hw4
 clear hw4
 clear hp0 hp1 hp2 hp3 hp4 hp5 hp6 hp7 hp8 hp9 hq0 hq1 hq2 hq3 hq4 hq5 hq6 hq7 hq8 hq9
 obtain ⟨hp0, hp1, hp2, hp3, hp4, hp5, hp6, hp7, hp8, hp9⟩ := HP.out.box
 obtain ⟨hq0, hq1, hq2, hq3, hq4, hq5, hq6, hq7, hq8, hq9⟩ := HQ.out.box
 try dsimp only at hp0 hp1 hp2 hp3 hp4 hp5 hp6 hp7 hp8 hp9 hq0 hq1 hq2 hq3 hq4 hq5 hq6 hq7 hq8 hq9
 go_wp2_with fail
 go_at_call 15
 refine (isp4 ⟨p.g, p.k, p.l, p.ht, p.hv, p.hc, p.ix, 1099511627777, p.mrk, p.hed⟩ A c _ HR1.out HQB.out).mono ?_
 rintro e w5 ⟨rfl, hw5⟩
 replace HB := lbB HB hw5
 replace HR1 := lbR HR1 hw5
 replace HP := lbP HP hw5
 replace HQ := lbP HQ hw5
 clear hw5
 clear hp0 hp1 hp2 hp3 hp4 hp5 hp6 hp7 hp8 hp9 hq0 hq1 hq2 hq3 hq4 hq5 hq6 hq7 hq8 hq9
 obtain ⟨hp0, hp1, hp2, hp3, hp4, hp5, hp6, hp7, hp8, hp9⟩ := HP.out.box
 obtain ⟨hq0, hq1, hq2, hq3, hq4, hq5, hq6, hq7, hq8, hq9⟩ := HQ.out.box
 try dsimp only at hp0 hp1 hp2 hp3 hp4 hp5 hp6 hp7 hp8 hp9 hq0 hq1 hq2 hq3 hq4 hq5 hq6 hq7 hq8 hq9
 go_wp2_with fail
 go_at_call 18
 refine (samep p ⟨p.g, p.k, p.l, p.ht, p.hv, p.hc, p.ix, 1099511627777, p.mrk, p.hed⟩ A c A c _ HR1.out HR1.out HSM.out).mono ?_
 rintro e w6 ⟨rfl, hw6⟩
 replace HB := lbB HB hw6
 replace HR1 := lbR HR1 hw6
 replace HP := lbP HP hw6
 replace HQ := lbP HQ hw6
 clear hw6
 go_wp2_with fail
 go_ret
 exact ⟨rfl, HB.out.b⟩
theorem spo4_walk (p : Prt) (A : Option Addr) (c : Nat) (wh : Int) (w : World) (hp : Rd w A c p.l) (hw8 : 0 ≤ wh ∧ wh ≤ 255) : Calls Try.prog 6 #[vP p A c, .int .u8 wh] w fun e w' => e = .returned (.bool true) ∧ Below w.heap.size w w' := by
  obtain ⟨r1, _, f1⟩ := few_part p hp.bd
  cases r1
  · exact spo4_few p A c wh w hp hw8 f1
  · cases hpb : isP p
    · exact spo4_no p A c wh w hp hw8 f1 hpb
    · obtain h | h | h | h | h | h : wh % 6 = 0 ∨ wh % 6 = 1 ∨ wh % 6 = 2 ∨ wh % 6 = 3 ∨ wh % 6 = 4 ∨ wh % 6 = 5 := by omega
      · exact spo4_0 p A c wh w hp hw8 f1 hpb h
      · exact spo4_1 p A c wh w hp hw8 f1 hpb h
      · exact spo4_2 p A c wh w hp hw8 f1 hpb h
      · exact spo4_3 p A c wh w hp hw8 f1 hpb h
      · exact spo4_4 p A c wh w hp hw8 f1 hpb h
      · exact spo4_5 p A c wh w hp hw8 f1 hpb h
end Go.Proofs.Ytokjhocjemjfiaa.PartW
namespace Go.Proofs.Ytokjhocjemjfiaa.Pure
open Go Go.RowKit Go.Proofs.Ytokjhocjemjfiaa.Sp Go.Proofs.Ytokjhocjemjfiaa.PartW
theorem PartSpoils.walk (p : Prt) (A : Option Addr) (c : Nat) (wh : Int) (w : World) (hp : Rd w A c p.l) (hw8 : (Lit.int .u8 wh).wf = true) :
    Calls Try.prog 6 #[vP p A c, .int .u8 wh] w fun e w' => e = .returned (.bool true) ∧ Below w.heap.size w w' := spo4_walk p A c wh w hp (CodeM.wf_u8 hw8)
end Go.Proofs.Ytokjhocjemjfiaa.Pure
