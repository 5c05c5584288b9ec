/- The statement SparseForward: what a group holds, written anew in parts, makes it again; no condition beyond the row's. -/
import Derived.Test.YtfnflbclhaeedaaFwdQ
import Derived.Test.YtfnflbclhaeedaaFew
import Derived.Test.YtfnflbclhaeedaaLast
set_option linter.unusedVariables false
set_option linter.unusedSimpArgs false
namespace Go.Proofs.Ytfnflbclhaeedaa.PartW
open Go Go.RowKit Go.Shelf Go.Proofs.Ytfnflbclhaeedaa.A Go.Proofs.Ytfnflbclhaeedaa.Sp Go.Proofs.Ytfnflbclhaeedaa.Reg Go.Proofs.Ytfnflbclhaeedaa.Seq Go.Proofs.YtfnflbclhaeedaaW.PrintWords Go.Proofs.YtfnflbclhaeedaaW.PrintLast Go.Proofs.YtfnflbclhaeedaaW.PrintMore
/-- what holds while entries are kept -/
def FwI (g : Grp) (A : Option Addr) (c s n7 k : Nat) (w W : World) : Prop :=
  BlkG g A c s W ∧ Bel w W ∧ ∃ S B d, FwS g.l S ∧ (∀ x ∈ S, ∃ j, j < k ∧ x = el g.l j) ∧ BlkG ⟨g.id, 1, 0, 0, 0, 0, S⟩ B d n7 W ∧ OwnE W (n7 + 1) (.slice B S.length d) S
/-- what holds while parts are done -/
def FwJ (g : Grp) (A : Option Addr) (c s n7 k : Nat) (w W : World) : Prop :=
  BlkG g A c s W ∧ Bel w W ∧ ∃ S B d, FwS g.l S ∧ (∀ j, j < k → j < g.l.length → el g.l j ∈ S) ∧ BlkG ⟨g.id, g.fi, g.tm, g.ht, g.hv, g.hc, S⟩ B d n7 W ∧ Rd W B d S
theorem BlkP.lt' {p : Prt} {A : Option Addr} {c B : Nat} {W : World} (h : BlkP p A c B W) : B < W.heap.size := (Array.getElem?_eq_some_iff.1 h).1
theorem BlkP.free' {p : Prt} {A : Option Addr} {c B : Nat} {W : World} (h : BlkP p A c B W) (o : Nat) : W.frozen? ⟨B, o, none⟩ = false := by
  unfold BlkP at h
  simp [World.frozen?, h]
theorem refis_c (a : Prt) (A : Option Addr) (c : Nat) (w : World) (h : Rd w A c a.l) {b : Bool} (hb : isP a = b) : Calls Try.prog 22 #[vP a A c] w fun e w' => e = .returned (.bool b) ∧ Below w.heap.size w w' := by
  rw [← hb]; exact ref_Is a A c w h
theorem rgis_c (g : Grp) (A : Option Addr) (c : Nat) (w : World) (h : Rd w A c g.l) {b : Bool} (hb : isG true g = b) : Calls Try.prog 16 #[vG g A c] w fun e w' => e = .returned (.bool b) ∧ Below w.heap.size w w' := by
  rw [← hb]; exact ref_Is6 g A c w h
set_option maxHeartbeats 8000000 in
set_option maxRecDepth 100000 in
theorem forward12_n1 (g : Grp) (A : Option Addr) (c : Nat) (kp ct : Int) (w : World) (hg : Rd w A c g.l) (h1 : 0 ≤ kp ∧ kp < 4294967296) (h2 : 0 ≤ ct ∧ ct < 256) {r1 : Bool} (hf1 : (∀ (A : Option Addr) (c : Nat) (w : World), Rd w A c g.l → Calls Try.prog 10 #[vG g A c] w fun e w' => e = .returned (.bool r1) ∧ Below w.heap.size w w')) (hn1 : r1 = true → g.l.length ≤ 30) (x1 : r1 = false) :
  Calls Try.prog 5 #[vG g A c, .int .u32 kp, .int .u8 ct] w fun e w' => e = .returned (.bool true) ∧ Below w.heap.size w w' := by
 subst x1
 clear hn1
 have HF1 := Aside0.mk hf1
 obtain ⟨i0, i1⟩ := h1
 obtain ⟨i2, i3⟩ := h2
 obtain ⟨s, hs⟩ : ∃ s, w.heap.size = s := ⟨_, rfl⟩
 have HSs := Aside0.mk hs
 unfold vG
 go_enter Try.func5, Try.ntmps5
 have HB := Aside0.mk (Bel.refl w)
 have HR1 := Aside0.mk (hg)
 have HR0 := Aside0.mk hg
 clear hf1 hg
 obtain ⟨C1, hC1⟩ : ∃ C, (match Try.f5.body with | some (.seq _ c) => c | _ => .skip) = C := ⟨_, rfl⟩
 have HC1 := Aside0.mk hC1
 simp only [Try.f5] at hC1
 rw [hC1]
 clear hC1
 go_wp2
 replace HB := laB HB (.cells #[.int .i64 g.id, .int .i64 g.fi, .int .i64 g.tm, .int .i64 g.ht, .int .i64 g.hv, .int .i64 g.hc, .slice A g.l.length c] 26)
 replace HR1 := laR HR1 (.cells #[.int .i64 g.id, .int .i64 g.fi, .int .i64 g.tm, .int .i64 g.ht, .int .i64 g.hv, .int .i64 g.hc, .slice A g.l.length c] 26)
 have HG : Aside0 (BlkG g A c s (w.alloc (.cells #[.int .i64 g.id, .int .i64 g.fi, .int .i64 g.tm, .int .i64 g.ht, .int .i64 g.hv, .int .i64 g.hc, .slice A g.l.length c] 26))) := ⟨(by have hq := BlkG.new g A c w; rw [hs] at hq; exact hq)⟩
 obtain ⟨W0, hW0⟩ : ∃ W, w.alloc (.cells #[.int .i64 g.id, .int .i64 g.fi, .int .i64 g.tm, .int .i64 g.ht, .int .i64 g.hv, .int .i64 g.hc, .slice A g.l.length c] 26) = W := ⟨_, rfl⟩
 rw [hW0] at HB HR1 HG ⊢
 clear hW0
 clear hs
 obtain ⟨hg0, hg1, hg2, hg3, hg4, hg5, hg6⟩ := HG.out.box
 have hC1 := HC1.out
 simp only [Try.f5] at hC1
 subst hC1
 clear HC1
 obtain ⟨C4, hC4⟩ : ∃ C, (match Try.f5.body with | some (.seq _ (.seq _ (.seq _ (.seq _ c)))) => c | _ => .skip) = C := ⟨_, rfl⟩
 have HC4 := Aside0.mk hC4
 simp only [Try.f5] at hC4
 rw [hC4]
 clear hC4
 go_wp2_with fail
 go_at_call 9
 refine (known12 _).mono ?_
 rintro e w1 ⟨rfl, hw1⟩
 replace HB := lbB HB hw1
 replace HR1 := lbR HR1 hw1
 replace HG := lbG HG hw1
 clear hw1
 clear hg0 hg1 hg2 hg3 hg4 hg5 hg6
 obtain ⟨hg0, hg1, hg2, hg3, hg4, hg5, hg6⟩ := HG.out.box
 go_wp2_with fail
 go_at_call 10
 refine (HF1.out A c _ HR1.out).mono ?_
 rintro e w2 ⟨rfl, hw2⟩
 replace HB := lbB HB hw2
 replace HR1 := lbR HR1 hw2
 replace HG := lbG HG hw2
 clear hw2
 clear hg0 hg1 hg2 hg3 hg4 hg5 hg6
 obtain ⟨hg0, hg1, hg2, hg3, hg4, hg5, hg6⟩ := HG.out.box
 go_wp2_with fail
 go_ret
 exact ⟨rfl, HB.out.b⟩
set_option maxHeartbeats 8000000 in
set_option maxRecDepth 100000 in
theorem forward12_n2 (g : Grp) (A : Option Addr) (c : Nat) (kp ct : Int) (w : World) (hg : Rd w A c g.l) (h1 : 0 ≤ kp ∧ kp < 4294967296) (h2 : 0 ≤ ct ∧ ct < 256) {r1 : Bool} (hf1 : (∀ (A : Option Addr) (c : Nat) (w : World), Rd w A c g.l → Calls Try.prog 10 #[vG g A c] w fun e w' => e = .returned (.bool r1) ∧ Below w.heap.size w w')) (hn1 : r1 = true → g.l.length ≤ 30) (x1 : r1 = true) (x3 : isG true g = false) :
  Calls Try.prog 5 #[vG g A c, .int .u32 kp, .int .u8 ct] w fun e w' => e = .returned (.bool true) ∧ Below w.heap.size w w' := by
 subst x1
 have J3 := Aside0.mk x3
 clear x3 hn1
 have HF1 := Aside0.mk hf1
 obtain ⟨i0, i1⟩ := h1
 obtain ⟨i2, i3⟩ := h2
 obtain ⟨s, hs⟩ : ∃ s, w.heap.size = s := ⟨_, rfl⟩
 have HSs := Aside0.mk hs
 unfold vG
 go_enter Try.func5, Try.ntmps5
 have HB := Aside0.mk (Bel.refl w)
 have HR1 := Aside0.mk (hg)
 have HR0 := Aside0.mk hg
 clear hf1 hg
 obtain ⟨C1, hC1⟩ : ∃ C, (match Try.f5.body with | some (.seq _ c) => c | _ => .skip) = C := ⟨_, rfl⟩
 have HC1 := Aside0.mk hC1
 simp only [Try.f5] at hC1
 rw [hC1]
 clear hC1
 go_wp2
 replace HB := laB HB (.cells #[.int .i64 g.id, .int .i64 g.fi, .int .i64 g.tm, .int .i64 g.ht, .int .i64 g.hv, .int .i64 g.hc, .slice A g.l.length c] 26)
 replace HR1 := laR HR1 (.cells #[.int .i64 g.id, .int .i64 g.fi, .int .i64 g.tm, .int .i64 g.ht, .int .i64 g.hv, .int .i64 g.hc, .slice A g.l.length c] 26)
 have HG : Aside0 (BlkG g A c s (w.alloc (.cells #[.int .i64 g.id, .int .i64 g.fi, .int .i64 g.tm, .int .i64 g.ht, .int .i64 g.hv, .int .i64 g.hc, .slice A g.l.length c] 26))) := ⟨(by have hq := BlkG.new g A c w; rw [hs] at hq; exact hq)⟩
 obtain ⟨W0, hW0⟩ : ∃ W, w.alloc (.cells #[.int .i64 g.id, .int .i64 g.fi, .int .i64 g.tm, .int .i64 g.ht, .int .i64 g.hv, .int .i64 g.hc, .slice A g.l.length c] 26) = W := ⟨_, rfl⟩
 rw [hW0] at HB HR1 HG ⊢
 clear hW0
 clear hs
 obtain ⟨hg0, hg1, hg2, hg3, hg4, hg5, hg6⟩ := HG.out.box
 have hC1 := HC1.out
 simp only [Try.f5] at hC1
 subst hC1
 clear HC1
 obtain ⟨C4, hC4⟩ : ∃ C, (match Try.f5.body with | some (.seq _ (.seq _ (.seq _ (.seq _ c)))) => c | _ => .skip) = C := ⟨_, rfl⟩
 have HC4 := Aside0.mk hC4
 simp only [Try.f5] at hC4
 rw [hC4]
 clear hC4
 go_wp2_with fail
 go_at_call 9
 refine (known12 _).mono ?_
 rintro e w1 ⟨rfl, hw1⟩
 replace HB := lbB HB hw1
 replace HR1 := lbR HR1 hw1
 replace HG := lbG HG hw1
 clear hw1
 clear hg0 hg1 hg2 hg3 hg4 hg5 hg6
 obtain ⟨hg0, hg1, hg2, hg3, hg4, hg5, hg6⟩ := HG.out.box
 go_wp2_with fail
 go_at_call 10
 refine (HF1.out A c _ HR1.out).mono ?_
 rintro e w2 ⟨rfl, hw2⟩
 replace HB := lbB HB hw2
 replace HR1 := lbR HR1 hw2
 replace HG := lbG HG hw2
 clear hw2
 clear hg0 hg1 hg2 hg3 hg4 hg5 hg6
 obtain ⟨hg0, hg1, hg2, hg3, hg4, hg5, hg6⟩ := HG.out.box
 go_wp2_with fail
 go_at_call 16
 refine (rgis_c g A c _ HR1.out J3.out).mono ?_
 rintro e w3 ⟨rfl, hw3⟩
 replace HB := lbB HB hw3
 replace HR1 := lbR HR1 hw3
 replace HG := lbG HG hw3
 clear hw3
 clear hg0 hg1 hg2 hg3 hg4 hg5 hg6
 obtain ⟨hg0, hg1, hg2, hg3, hg4, hg5, hg6⟩ := HG.out.box
 go_wp2_with fail
 go_ret
 exact ⟨rfl, HB.out.b⟩
set_option maxHeartbeats 8000000 in
set_option maxRecDepth 100000 in
theorem forward12_n3 (g : Grp) (A : Option Addr) (c : Nat) (kp ct : Int) (w : World) (hg : Rd w A c g.l) (h1 : 0 ≤ kp ∧ kp < 4294967296) (h2 : 0 ≤ ct ∧ ct < 256) {r1 : Bool} (hf1 : (∀ (A : Option Addr) (c : Nat) (w : World), Rd w A c g.l → Calls Try.prog 10 #[vG g A c] w fun e w' => e = .returned (.bool r1) ∧ Below w.heap.size w w')) (hn1 : r1 = true → g.l.length ≤ 30) (x1 : r1 = true) (x3 : isG true g = true) (x4 : 1 < g.fi) (x5 : g.tm = 0) :
  Calls Try.prog 5 #[vG g A c, .int .u32 kp, .int .u8 ct] w fun e w' => e = .returned (.bool true) ∧ Below w.heap.size w w' := by
 subst x1
 have HL30 := Aside0.mk (hn1 rfl)
 have HGL := Aside0.mk (isG_good x3)
 have J3 := Aside0.mk x3
 have hfi := isG_fi x3
 have HFI := Aside0.mk hfi
 have d2 : decide (1 < g.fi) = true := decide_eq_true x4
 have d3 : decide (g.fi > 1) = true := decide_eq_true x4
 have e1 : (g.tm == 0) = true := beq_iff_eq.2 (by omega)
 have e1n : (g.tm != 0) = false := by rw [bne, e1]; rfl
 have e2 : (g.fi == 1) = false := beq_eq_false_iff_ne.2 (by omega)
 have e2n : (g.fi != 1) = true := by rw [bne, e2]; rfl
 clear x3 x4 x5 hfi hn1
 have HF1 := Aside0.mk hf1
 obtain ⟨i0, i1⟩ := h1
 obtain ⟨i2, i3⟩ := h2
 obtain ⟨s, hs⟩ : ∃ s, w.heap.size = s := ⟨_, rfl⟩
 have HSs := Aside0.mk hs
 unfold vG
 go_enter Try.func5, Try.ntmps5
 have HB := Aside0.mk (Bel.refl w)
 have HR1 := Aside0.mk (hg)
 have HR0 := Aside0.mk hg
 clear hf1 hg
 obtain ⟨C1, hC1⟩ : ∃ C, (match Try.f5.body with | some (.seq _ c) => c | _ => .skip) = C := ⟨_, rfl⟩
 have HC1 := Aside0.mk hC1
 simp only [Try.f5] at hC1
 rw [hC1]
 clear hC1
 go_wp2
 replace HB := laB HB (.cells #[.int .i64 g.id, .int .i64 g.fi, .int .i64 g.tm, .int .i64 g.ht, .int .i64 g.hv, .int .i64 g.hc, .slice A g.l.length c] 26)
 replace HR1 := laR HR1 (.cells #[.int .i64 g.id, .int .i64 g.fi, .int .i64 g.tm, .int .i64 g.ht, .int .i64 g.hv, .int .i64 g.hc, .slice A g.l.length c] 26)
 have HG : Aside0 (BlkG g A c s (w.alloc (.cells #[.int .i64 g.id, .int .i64 g.fi, .int .i64 g.tm, .int .i64 g.ht, .int .i64 g.hv, .int .i64 g.hc, .slice A g.l.length c] 26))) := ⟨(by have hq := BlkG.new g A c w; rw [hs] at hq; exact hq)⟩
 obtain ⟨W0, hW0⟩ : ∃ W, w.alloc (.cells #[.int .i64 g.id, .int .i64 g.fi, .int .i64 g.tm, .int .i64 g.ht, .int .i64 g.hv, .int .i64 g.hc, .slice A g.l.length c] 26) = W := ⟨_, rfl⟩
 rw [hW0] at HB HR1 HG ⊢
 clear hW0
 clear hs
 obtain ⟨hg0, hg1, hg2, hg3, hg4, hg5, hg6⟩ := HG.out.box
 have hC1 := HC1.out
 simp only [Try.f5] at hC1
 subst hC1
 clear HC1
 obtain ⟨C4, hC4⟩ : ∃ C, (match Try.f5.body with | some (.seq _ (.seq _ (.seq _ (.seq _ c)))) => c | _ => .skip) = C := ⟨_, rfl⟩
 have HC4 := Aside0.mk hC4
 simp only [Try.f5] at hC4
 rw [hC4]
 clear hC4
 go_wp2_with fail
 go_at_call 9
 refine (known12 _).mono ?_
 rintro e w1 ⟨rfl, hw1⟩
 replace HB := lbB HB hw1
 replace HR1 := lbR HR1 hw1
 replace HG := lbG HG hw1
 clear hw1
 clear hg0 hg1 hg2 hg3 hg4 hg5 hg6
 obtain ⟨hg0, hg1, hg2, hg3, hg4, hg5, hg6⟩ := HG.out.box
 go_wp2_with fail
 go_at_call 10
 refine (HF1.out A c _ HR1.out).mono ?_
 rintro e w2 ⟨rfl, hw2⟩
 replace HB := lbB HB hw2
 replace HR1 := lbR HR1 hw2
 replace HG := lbG HG hw2
 clear hw2
 clear hg0 hg1 hg2 hg3 hg4 hg5 hg6
 obtain ⟨hg0, hg1, hg2, hg3, hg4, hg5, hg6⟩ := HG.out.box
 go_wp2_with fail
 go_at_call 16
 refine (rgis_c g A c _ HR1.out J3.out).mono ?_
 rintro e w3 ⟨rfl, hw3⟩
 replace HB := lbB HB hw3
 replace HR1 := lbR HR1 hw3
 replace HG := lbG HG hw3
 clear hw3
 clear hg0 hg1 hg2 hg3 hg4 hg5 hg6
 obtain ⟨hg0, hg1, hg2, hg3, hg4, hg5, hg6⟩ := HG.out.box
 go_wp2_with fail
 go_ret
 exact ⟨rfl, HB.out.b⟩
set_option maxHeartbeats 8000000 in
set_option maxRecDepth 100000 in
theorem forward12_n4 (g : Grp) (A : Option Addr) (c : Nat) (kp ct : Int) (w : World) (hg : Rd w A c g.l) (h1 : 0 ≤ kp ∧ kp < 4294967296) (h2 : 0 ≤ ct ∧ ct < 256) {r1 : Bool} (hf1 : (∀ (A : Option Addr) (c : Nat) (w : World), Rd w A c g.l → Calls Try.prog 10 #[vG g A c] w fun e w' => e = .returned (.bool r1) ∧ Below w.heap.size w w')) (hn1 : r1 = true → g.l.length ≤ 30) (x1 : r1 = true) (x3 : isG true g = true) (x4 : g.fi = 1) (x5 : g.tm ≠ 0) :
  Calls Try.prog 5 #[vG g A c, .int .u32 kp, .int .u8 ct] w fun e w' => e = .returned (.bool true) ∧ Below w.heap.size w w' := by
 subst x1
 have HL30 := Aside0.mk (hn1 rfl)
 have HGL := Aside0.mk (isG_good x3)
 have J3 := Aside0.mk x3
 have hfi := isG_fi x3
 have HFI := Aside0.mk hfi
 have d2 : decide (1 < g.fi) = false := decide_eq_false (by omega)
 have d3 : decide (g.fi > 1) = false := decide_eq_false (by omega)
 have e1 : (g.tm == 0) = false := beq_eq_false_iff_ne.2 (by omega)
 have e1n : (g.tm != 0) = true := by rw [bne, e1]; rfl
 have e2 : (g.fi == 1) = true := beq_iff_eq.2 (by omega)
 have e2n : (g.fi != 1) = false := by rw [bne, e2]; rfl
 clear x3 x4 x5 hfi hn1
 have HF1 := Aside0.mk hf1
 obtain ⟨i0, i1⟩ := h1
 obtain ⟨i2, i3⟩ := h2
 obtain ⟨s, hs⟩ : ∃ s, w.heap.size = s := ⟨_, rfl⟩
 have HSs := Aside0.mk hs
 unfold vG
 go_enter Try.func5, Try.ntmps5
 have HB := Aside0.mk (Bel.refl w)
 have HR1 := Aside0.mk (hg)
 have HR0 := Aside0.mk hg
 clear hf1 hg
 obtain ⟨C1, hC1⟩ : ∃ C, (match Try.f5.body with | some (.seq _ c) => c | _ => .skip) = C := ⟨_, rfl⟩
 have HC1 := Aside0.mk hC1
 simp only [Try.f5] at hC1
 rw [hC1]
 clear hC1
 go_wp2
 replace HB := laB HB (.cells #[.int .i64 g.id, .int .i64 g.fi, .int .i64 g.tm, .int .i64 g.ht, .int .i64 g.hv, .int .i64 g.hc, .slice A g.l.length c] 26)
 replace HR1 := laR HR1 (.cells #[.int .i64 g.id, .int .i64 g.fi, .int .i64 g.tm, .int .i64 g.ht, .int .i64 g.hv, .int .i64 g.hc, .slice A g.l.length c] 26)
 have HG : Aside0 (BlkG g A c s (w.alloc (.cells #[.int .i64 g.id, .int .i64 g.fi, .int .i64 g.tm, .int .i64 g.ht, .int .i64 g.hv, .int .i64 g.hc, .slice A g.l.length c] 26))) := ⟨(by have hq := BlkG.new g A c w; rw [hs] at hq; exact hq)⟩
 obtain ⟨W0, hW0⟩ : ∃ W, w.alloc (.cells #[.int .i64 g.id, .int .i64 g.fi, .int .i64 g.tm, .int .i64 g.ht, .int .i64 g.hv, .int .i64 g.hc, .slice A g.l.length c] 26) = W := ⟨_, rfl⟩
 rw [hW0] at HB HR1 HG ⊢
 clear hW0
 clear hs
 obtain ⟨hg0, hg1, hg2, hg3, hg4, hg5, hg6⟩ := HG.out.box
 have hC1 := HC1.out
 simp only [Try.f5] at hC1
 subst hC1
 clear HC1
 obtain ⟨C4, hC4⟩ : ∃ C, (match Try.f5.body with | some (.seq _ (.seq _ (.seq _ (.seq _ c)))) => c | _ => .skip) = C := ⟨_, rfl⟩
 have HC4 := Aside0.mk hC4
 simp only [Try.f5] at hC4
 rw [hC4]
 clear hC4
 go_wp2_with fail
 go_at_call 9
 refine (known12 _).mono ?_
 rintro e w1 ⟨rfl, hw1⟩
 replace HB := lbB HB hw1
 replace HR1 := lbR HR1 hw1
 replace HG := lbG HG hw1
 clear hw1
 clear hg0 hg1 hg2 hg3 hg4 hg5 hg6
 obtain ⟨hg0, hg1, hg2, hg3, hg4, hg5, hg6⟩ := HG.out.box
 go_wp2_with fail
 go_at_call 10
 refine (HF1.out A c _ HR1.out).mono ?_
 rintro e w2 ⟨rfl, hw2⟩
 replace HB := lbB HB hw2
 replace HR1 := lbR HR1 hw2
 replace HG := lbG HG hw2
 clear hw2
 clear hg0 hg1 hg2 hg3 hg4 hg5 hg6
 obtain ⟨hg0, hg1, hg2, hg3, hg4, hg5, hg6⟩ := HG.out.box
 go_wp2_with fail
 go_at_call 16
 refine (rgis_c g A c _ HR1.out J3.out).mono ?_
 rintro e w3 ⟨rfl, hw3⟩
 replace HB := lbB HB hw3
 replace HR1 := lbR HR1 hw3
 replace HG := lbG HG hw3
 clear hw3
 clear hg0 hg1 hg2 hg3 hg4 hg5 hg6
 obtain ⟨hg0, hg1, hg2, hg3, hg4, hg5, hg6⟩ := HG.out.box
 go_wp2_with fail
 go_ret
 exact ⟨rfl, HB.out.b⟩
set_option maxHeartbeats 8000000 in
set_option maxRecDepth 100000 in
theorem forward12_big (g : Grp) (A : Option Addr) (c : Nat) (kp ct : Int) (w : World) (hg : Rd w A c g.l) (h1 : 0 ≤ kp ∧ kp < 4294967296) (h2 : 0 ≤ ct ∧ ct < 256) {r1 : Bool} (hf1 : (∀ (A : Option Addr) (c : Nat) (w : World), Rd w A c g.l → Calls Try.prog 10 #[vG g A c] w fun e w' => e = .returned (.bool r1) ∧ Below w.heap.size w w')) (hn1 : r1 = true → g.l.length ≤ 30) (x1 : r1 = true) (x3 : isG true g = true) (x4 : 1 < g.fi) (x5 : g.tm ≠ 0) :
  Calls Try.prog 5 #[vG g A c, .int .u32 kp, .int .u8 ct] w fun e w' => e = .returned (.bool true) ∧ Below w.heap.size w w' := by
 subst x1
 have HL30 := Aside0.mk (hn1 rfl)
 have HGL := Aside0.mk (isG_good x3)
 have J3 := Aside0.mk x3
 have hfi := isG_fi x3
 have HFI := Aside0.mk hfi
 have d2 : decide (1 < g.fi) = true := decide_eq_true x4
 have d3 : decide (g.fi > 1) = true := decide_eq_true x4
 have e1 : (g.tm == 0) = false := beq_eq_false_iff_ne.2 (by omega)
 have e1n : (g.tm != 0) = true := by rw [bne, e1]; rfl
 have e2 : (g.fi == 1) = false := beq_eq_false_iff_ne.2 (by omega)
 have e2n : (g.fi != 1) = true := by rw [bne, e2]; rfl
 have HX4 := Aside0.mk (And.intro x4 x5)
 clear x3 x4 x5 hfi hn1
 have HF1 := Aside0.mk hf1
 obtain ⟨i0, i1⟩ := h1
 obtain ⟨i2, i3⟩ := h2
 obtain ⟨s, hs⟩ : ∃ s, w.heap.size = s := ⟨_, rfl⟩
 have HSs := Aside0.mk hs
 unfold vG
 go_enter Try.func5, Try.ntmps5
 have HB := Aside0.mk (Bel.refl w)
 have HR1 := Aside0.mk (hg)
 have HR0 := Aside0.mk hg
 clear hf1 hg
 obtain ⟨C1, hC1⟩ : ∃ C, (match Try.f5.body with | some (.seq _ c) => c | _ => .skip) = C := ⟨_, rfl⟩
 have HC1 := Aside0.mk hC1
 simp only [Try.f5] at hC1
 rw [hC1]
 clear hC1
 go_wp2
 replace HB := laB HB (.cells #[.int .i64 g.id, .int .i64 g.fi, .int .i64 g.tm, .int .i64 g.ht, .int .i64 g.hv, .int .i64 g.hc, .slice A g.l.length c] 26)
 replace HR1 := laR HR1 (.cells #[.int .i64 g.id, .int .i64 g.fi, .int .i64 g.tm, .int .i64 g.ht, .int .i64 g.hv, .int .i64 g.hc, .slice A g.l.length c] 26)
 have HG : Aside0 (BlkG g A c s (w.alloc (.cells #[.int .i64 g.id, .int .i64 g.fi, .int .i64 g.tm, .int .i64 g.ht, .int .i64 g.hv, .int .i64 g.hc, .slice A g.l.length c] 26))) := ⟨(by have hq := BlkG.new g A c w; rw [hs] at hq; exact hq)⟩
 obtain ⟨W0, hW0⟩ : ∃ W, w.alloc (.cells #[.int .i64 g.id, .int .i64 g.fi, .int .i64 g.tm, .int .i64 g.ht, .int .i64 g.hv, .int .i64 g.hc, .slice A g.l.length c] 26) = W := ⟨_, rfl⟩
 rw [hW0] at HB HR1 HG ⊢
 clear hW0
 clear hs
 obtain ⟨hg0, hg1, hg2, hg3, hg4, hg5, hg6⟩ := HG.out.box
 have hC1 := HC1.out
 simp only [Try.f5] at hC1
 subst hC1
 clear HC1
 obtain ⟨C4, hC4⟩ : ∃ C, (match Try.f5.body with | some (.seq _ (.seq _ (.seq _ (.seq _ c)))) => c | _ => .skip) = C := ⟨_, rfl⟩
 have HC4 := Aside0.mk hC4
 simp only [Try.f5] at hC4
 rw [hC4]
 clear hC4
 go_wp2_with fail
 go_at_call 9
 refine (known12 _).mono ?_
 rintro e w1 ⟨rfl, hw1⟩
 replace HB := lbB HB hw1
 replace HR1 := lbR HR1 hw1
 replace HG := lbG HG hw1
 clear hw1
 clear hg0 hg1 hg2 hg3 hg4 hg5 hg6
 obtain ⟨hg0, hg1, hg2, hg3, hg4, hg5, hg6⟩ := HG.out.box
 go_wp2_with fail
 go_at_call 10
 refine (HF1.out A c _ HR1.out).mono ?_
 rintro e w2 ⟨rfl, hw2⟩
 replace HB := lbB HB hw2
 replace HR1 := lbR HR1 hw2
 replace HG := lbG HG hw2
 clear hw2
 clear hg0 hg1 hg2 hg3 hg4 hg5 hg6
 obtain ⟨hg0, hg1, hg2, hg3, hg4, hg5, hg6⟩ := HG.out.box
 go_wp2_with fail
 go_at_call 16
 refine (rgis_c g A c _ HR1.out J3.out).mono ?_
 rintro e w3 ⟨rfl, hw3⟩
 replace HB := lbB HB hw3
 replace HR1 := lbR HR1 hw3
 replace HG := lbG HG hw3
 clear hw3
 clear hg0 hg1 hg2 hg3 hg4 hg5 hg6
 obtain ⟨hg0, hg1, hg2, hg3, hg4, hg5, hg6⟩ := HG.out.box
 obtain ⟨n7, hn7⟩ : ∃ n, w3.heap.size = n := ⟨_, rfl⟩
 have HSn7 := Aside0.mk hn7
 have HW7 : Aside0 (w.heap.size ≤ n7) := ⟨by rw [← hn7]; exact HB.out.b.size⟩
 have ls7 : s < n7 := by rw [← hn7]; exact HG.out.lt
 go_wp2_with fail
 clear hg0 hg1 hg2 hg3 hg4 hg5 hg6
 replace HB := laB HB (.cells #[.int .i64 g.id, .int .i64 1, .int .i64 0, .int .i64 0, .int .i64 0, .int .i64 0, .slice none 0 0] 26)
 replace HR1 := laR HR1 (.cells #[.int .i64 g.id, .int .i64 1, .int .i64 0, .int .i64 0, .int .i64 0, .int .i64 0, .slice none 0 0] 26)
 replace HG := laG HG (.cells #[.int .i64 g.id, .int .i64 1, .int .i64 0, .int .i64 0, .int .i64 0, .int .i64 0, .slice none 0 0] 26)
 have HV : Aside0 (BlkG ⟨g.id, 1, 0, 0, 0, 0, []⟩ none 0 n7 (w3.alloc (.cells #[.int .i64 g.id, .int .i64 1, .int .i64 0, .int .i64 0, .int .i64 0, .int .i64 0, .slice none 0 0] 26))) := ⟨(by have hq := BlkG.new ⟨g.id, 1, 0, 0, 0, 0, []⟩ none 0 w3; rw [HSn7.out] at hq; exact hq)⟩
 obtain ⟨W1, hW1⟩ : ∃ W, w3.alloc (.cells #[.int .i64 g.id, .int .i64 1, .int .i64 0, .int .i64 0, .int .i64 0, .int .i64 0, .slice none 0 0] 26) = W := ⟨_, rfl⟩
 rw [hW1] at HB HR1 HG HV ⊢
 clear hW1
 clear hn7
 have HI1 : Aside0 (FwI g A c s n7 0 w W1) := ⟨⟨HG.out, HB.out, [], none, 0, FwS.nil _, fun x hx => absurd hx (by simp), HV.out, OwnE.nil _ _⟩⟩
 clear HG HV HB HR1 HF1
 have hC4 := HC4.out
 simp only [Try.f5] at hC4
 subst hC4
 clear HC4
 obtain ⟨C11, hC11⟩ : ∃ C, (match Try.f5.body with | some (.seq _ (.seq _ (.seq _ (.seq _ (.seq _ c))))) => c | _ => .skip) = C := ⟨_, rfl⟩
 have HC11 := Aside0.mk hC11
 simp only [Try.f5] at hC11
 rw [hC11]
 clear hC11
 go_wp2_with fail
 go_loopw [8] (fun v wr => ∃ k : Nat, k ≤ g.l.length ∧ v = .int .i64 (k : Int) ∧ Aside0 (FwI g A c s n7 k w wr)) (fun v _ => g.l.length - (intOf v).toNat)
 case atStart => exact ⟨0, Nat.zero_le _, rfl, HI1⟩
 case round =>
   clear HI1
   obtain ⟨k, hk, rfl, HI⟩ := hrel
   obtain ⟨hg, hb, S, B, d, hS, hSk, hv, ho⟩ := HI.out
   have HG := Aside0.mk hg
   have HB := Aside0.mk hb
   have HS := Aside0.mk (And.intro hS hSk)
   have HV := Aside0.mk hv
   have HO := Aside0.mk ho
   have hl30 := HL30.out
   clear HI hg hb hS hSk hv ho
   by_cases hlt : k < g.l.length
   · obtain ⟨ad, rfl, hc⟩ := HR0.out.cel hlt
     obtain ⟨x, hx⟩ : ∃ x, el g.l k = x := ⟨_, rfl⟩
     have HXE := Aside0.mk hx
     rw [hx] at hc
     have HC0 := Aside0.mk hc
     clear hx hc
     have d1 : decide ((k : Int) < (g.l.length : Int)) = true := decide_eq_true (by omega)
     have hlt2 : (k : Int) < (g.l.length : Int) := by omega
     have hk4 : IntKind.i64.wrap ((k : Int) + 1) = (k : Int) + 1 := by rw [i64_w]; unfold wrap64; omega
     rcases hbit : (bits BinOp.and IntKind.u32 (kp / 2 ^ k) 1 == 1) with _ | _
     · obtain ⟨hg0, hg1, hg2, hg3, hg4, hg5, hg6⟩ := HG.out.box
       obtain ⟨hv0, hv1, hv2, hv3, hv4, hv5, hv6⟩ := HV.out.box
       dsimp only at hg0 hg1 hg2 hg3 hg4 hg5 hg6 hv0 hv1 hv2 hv3 hv4 hv5 hv6
       go_wp2_with fail
       go_roundw
       case rel => exact ⟨k + 1, by omega, by go_num, ⟨HG.out, HB.out, S, B, d, HS.out.1, fun y hy => by obtain ⟨j, h1, h2⟩ := HS.out.2 y hy; exact ⟨j, by omega, h2⟩, HV.out, HO.out⟩⟩
       case measure => simp [intOf]; omega
     · obtain ⟨T, hT⟩ : ∃ T, S ++ [x] = T := ⟨_, rfl⟩
       have HTE := Aside0.mk hT
       have HP : Aside0 (FwS g.l T ∧ ∀ y ∈ T, ∃ j, j < k + 1 ∧ y = el g.l j) := ⟨by rw [← hT, ← HXE.out]; exact ⟨HS.out.1.put HGL.out.2 hlt (fun y hy => by obtain ⟨j, h1, h2⟩ := HS.out.2 y hy; rw [h2]; exact sorted_el HGL.out.2 h1 hlt), fun y hy => by rcases List.mem_append.1 hy with h3 | h3; obtain ⟨j, h1, h2⟩ := HS.out.2 y h3; exact ⟨j, by omega, h2⟩; exact ⟨k, by omega, List.mem_singleton.1 h3⟩⟩⟩
       have HSL : Aside0 (S.length + 1 ≤ 31) := ⟨by have := HS.out.1.len HGL.out.2; omega⟩
       have HTL : Aside0 (T.length ≤ 31) := ⟨by rw [← hT, List.length_append]; exact HSL.out⟩
       clear hT
       obtain ⟨hg0, hg1, hg2, hg3, hg4, hg5, hg6⟩ := HG.out.box
       obtain ⟨hv0, hv1, hv2, hv3, hv4, hv5, hv6⟩ := HV.out.box
       dsimp only at hg0 hg1 hg2 hg3 hg4 hg5 hg6 hv0 hv1 hv2 hv3 hv4 hv5 hv6
       go_wp2_with fail
       clear hg0 hg1 hg2 hg3 hg4 hg5 hg6 hv0 hv1 hv2 hv3 hv4 hv5 hv6
       obtain ⟨m, hm⟩ : ∃ n, wr.drew.heap.size = n := ⟨_, rfl⟩
       have HM := Aside0.mk hm
       have l7m : n7 < m := by rw [← hm]; exact HV.out.lt
       replace HG := ldG HG
       replace HB := ldB HB
       replace HV := ldG HV
       replace HO : Aside0 (OwnE wr.drew (n7 + 1) (.slice B S.length d) S) := ⟨HO.out.below (below_drew (Below.refl _ _))⟩
       refine start_ (n := 11) (S := (fun w' => BoxG g (some ad) c s w' ∧ BoxG ⟨g.id, 1, 0, 0, 0, 0, S⟩ B d n7 w' ∧ CelE x (ad.add (k * 3)) w')) (ds := [10]) #[false,false,false,false,false,false,false,false,false,false,false] (by kernel_rfl) rfl rfl ⟨HG.out.box, HV.out.box, HC0.out.below HB.out.b⟩ (fun hHeld => ?_)
       refine pure_ (i := 0) (N := some 58) (v := ?_) (a' := ?_) #[true,false,false,false,false,false,false,false,false,false,false] rfl rfl (by kernel_rfl) (fun _ _ _ h => h) (Or.inl ⟨by rfl, ?_⟩) ?_ ?_
       rotate_left
       · intro w'
         go_simp
         try with_reducible rfl
       rotate_left
       · simp only [Act.put, sA, sB, sC]
         rfl
       refine take_ (i := 1) (N := some 59) (v := ?_) (a' := ?_) #[true,true,false,false,false,false,false,false,false,false,false] rfl rfl (by kernel_rfl) (fun _ _ _ h => h) (Or.inl ⟨by rfl, ?_⟩) hHeld ?_ ?_
       rotate_left
       · rintro w' ⟨⟨hg0, hg1, hg2, hg3, hg4, hg5, hg6⟩, ⟨hv0, hv1, hv2, hv3, hv4, hv5, hv6⟩, ⟨m0, m1, m2⟩⟩
         go_simp
         try with_reducible rfl
       rotate_left
       · simp only [Act.put, sA, sB, sC]
         rfl
       refine pure_ (i := 2) (N := some 60) (v := ?_) (a' := ?_) #[true,true,true,false,false,false,false,false,false,false,false] rfl rfl (by kernel_rfl) (fun _ _ _ h => h) (Or.inl ⟨by rfl, ?_⟩) ?_ ?_
       rotate_left
       · intro w'
         go_simp
         try with_reducible rfl
       rotate_left
       · simp only [Act.put, sA, sB, sC]
         rfl
       refine take_ (i := 3) (N := some 61) (v := ?_) (a' := ?_) #[true,true,true,true,false,false,false,false,false,false,false] rfl rfl (by kernel_rfl) (fun _ _ _ h => h) (Or.inl ⟨by rfl, ?_⟩) hHeld ?_ ?_
       rotate_left
       · rintro w' ⟨⟨hg0, hg1, hg2, hg3, hg4, hg5, hg6⟩, ⟨hv0, hv1, hv2, hv3, hv4, hv5, hv6⟩, ⟨m0, m1, m2⟩⟩
         go_simp
         try with_reducible rfl
       rotate_left
       · simp only [Act.put, sA, sB, sC]
         rfl
       refine pure_ (i := 4) (N := some 62) (v := ?_) (a' := ?_) #[true,true,true,true,true,false,false,false,false,false,false] rfl rfl (by kernel_rfl) (fun _ _ _ h => h) (Or.inl ⟨by rfl, ?_⟩) ?_ ?_
       rotate_left
       · intro w'
         go_simp
         try with_reducible rfl
       rotate_left
       · simp only [Act.put, sA, sB, sC]
         rfl
       refine pure_ (i := 5) (N := some 63) (v := ?_) (a' := ?_) #[true,true,true,true,true,true,false,false,false,false,false] rfl rfl (by kernel_rfl) (fun _ _ _ h => h) (Or.inl ⟨by rfl, ?_⟩) ?_ ?_
       rotate_left
       · intro w'
         go_simp
         try with_reducible rfl
       rotate_left
       · simp only [Act.put, sA, sB, sC]
         rfl
       refine take_ (i := 6) (N := some 64) (v := ?_) (a' := ?_) #[true,true,true,true,true,true,true,false,false,false,false] rfl rfl (by kernel_rfl) (fun _ _ _ h => h) (Or.inl ⟨by rfl, ?_⟩) hHeld ?_ ?_
       rotate_left
       · rintro w' ⟨⟨hg0, hg1, hg2, hg3, hg4, hg5, hg6⟩, ⟨hv0, hv1, hv2, hv3, hv4, hv5, hv6⟩, ⟨m0, m1, m2⟩⟩
         go_simp
         try with_reducible rfl
       rotate_left
       · simp only [Act.put, sA, sB, sC]
         rfl
       refine one_ (i := 7) (N := some 65) #[true,true,true,true,true,true,true,true,false,false,false] rfl rfl (by kernel_rfl) (by decide) (fun K hK => ?_)
       go_simp
       refine hK.out _ _ ?_ (fun hHeld => ?_)
       · exact ⟨(laG HG (.cells #[.int .i64 x.f0, .int .i64 x.f1, .string x.f2] 38)).out.box, (laG HV (.cells #[.int .i64 x.f0, .int .i64 x.f1, .string x.f2] 38)).out.box, HC0.out.below (laB HB (.cells #[.int .i64 x.f0, .int .i64 x.f1, .string x.f2] 38)).out.b⟩
       clear hK K
       try simp only [Act.put, sA, sB, sC]
       replace HG := laG HG (.cells #[.int .i64 x.f0, .int .i64 x.f1, .string x.f2] 38); replace HB := laB HB (.cells #[.int .i64 x.f0, .int .i64 x.f1, .string x.f2] 38); replace HV := laG HV (.cells #[.int .i64 x.f0, .int .i64 x.f1, .string x.f2] 38)
       replace HO : Aside0 (OwnE (wr.drew.alloc (.cells #[.int .i64 x.f0, .int .i64 x.f1, .string x.f2] 38)) (n7 + 1) (.slice B S.length d) S) := ⟨HO.out.alloc _⟩
       have HE1 : Aside0 (Rd (wr.drew.alloc (.cells #[.int .i64 x.f0, .int .i64 x.f1, .string x.f2] 38)) (some ⟨m, 0, none⟩) 1 [x]) := ⟨by have hq := Rd.one wr.drew x; rw [HM.out] at hq; exact hq⟩
       have HSZ : Aside0 (n7 + 1 ≤ (wr.drew.alloc (.cells #[.int .i64 x.f0, .int .i64 x.f1, .string x.f2] 38)).heap.size) := ⟨by rw [World.size_alloc, HM.out]; omega⟩
       try rw [HM.out]
       obtain ⟨w5, hw5⟩ : ∃ W, (wr.alloc (.cells #[.int .i64 x.f0, .int .i64 x.f1, .string x.f2] 38)).drew = W := ⟨_, rfl⟩
       have hda : wr.drew.alloc (.cells #[.int .i64 x.f0, .int .i64 x.f1, .string x.f2] 38) = w5 := by rw [← hw5]; rfl
       rw [hda] at HG HB HV HO HE1 HSZ
       rw [hw5]
       clear hw5 hda
       refine one_ (i := 8) (N := some 66) #[true,true,true,true,true,true,true,true,true,false,false] rfl rfl (by kernel_rfl) (by decide) (fun K hK => ?_)
       rw [if_pos (by rfl)]
       refine wp_append_ent (l := S) (m := [x]) (b := n7 + 1) (.tmp 59) (.tmp 65) rfl rfl HO.out rfl HE1.out (by have := HSL.out; show S.length + 1 ≤ _; omega) HSZ.out ?_
       intro v6 w6 ho6 hg6 ha6; have hon : Only (fun q => n7 + 1 ≤ q) w5 w6 := (Only.refl _ _).of_grown hg6 (fun q hq _ => by change (Value.slice B S.length d).ownBlock = some q at hq; exact (own_block HO.out hq).1); rw [HTE.out] at ho6; have hlen : T.length ≤ 4398046511104 := (by have := HTL.out; omega); obtain ⟨A6, c6, hv6, hrd6, _⟩ := ho6.rd' hlen; subst hv6; have HO6 := Aside0.mk ho6; replace HG := Aside0.mk (HG.out.only hon (fun h => by have h2 : n7 + 1 ≤ s := h; omega)); replace HV := Aside0.mk (HV.out.only hon (fun h => by have h2 : n7 + 1 ≤ n7 := h; omega)); replace HB := Aside0.mk (HB.out.only hon (fun q hq h => by have h2 : n7 + 1 ≤ q := h; have := HW7.out; omega)); clear ho6 hg6 ha6 hon hrd6 hlen HE1 HO
       refine hK.out _ _ ?_ (fun hHeld => ?_)
       · exact ⟨HG.out.box, HV.out.box, HC0.out.below HB.out.b⟩
       clear hK K
       try simp only [Act.put, sA, sB, sC]
       obtain ⟨y0, y1, y2, y3, y4, y5, y6⟩ := HV.out.box
       have yf := HV.out.free
       refine pure_ (i := 9) (N := some 67) (v := ?_) (a' := ?_) #[true,true,true,true,true,true,true,true,true,true,false] rfl rfl (by kernel_rfl) (fun _ _ _ h => h) (Or.inl ⟨by rfl, ?_⟩) ?_ ?_
       rotate_left
       · intro w'
         go_simp
         try with_reducible rfl
       rotate_left
       · simp only [Act.put, sA, sB, sC]
         rfl
       refine last_ (i := 10) (N := none) #[true,true,true,true,true,true,true,true,true,true,true] rfl rfl (by kernel_rfl) (by decide) (fun K hK => ?_)
       go_simp
       refine hK.out _ _ ?_
       clear hK K
       try simp only [Act.put, sA, sB, sC]
       refine done_ (by kernel_rfl) ?_
       clear y0 y1 y2 y3 y4 y5 y6 yf
       have hgl := HV.out.setL T A6 c6
       have hx := (Only.refl (fun q => q = n7) w6).setCell (p := ⟨n7, 6, none⟩) rfl (.slice A6 T.length c6)
       replace HG := Aside0.mk (HG.out.only hx (fun h => by have h2 : s = n7 := h; omega))
       replace HB := Aside0.mk (HB.out.only hx (fun q hq h => by have h2 : q = n7 := h; have := HW7.out; omega))
       replace HV := Aside0.mk hgl
       replace HO6 := Aside0.mk (HO6.out.only hx (fun q hq h => by have h2 : q = n7 := h; omega))
       clear hx hgl
       go_wp2_with fail
       go_roundw
       case rel => exact ⟨k + 1, by omega, by go_num, ⟨HG.out, HB.out, T, A6, c6, HP.out.1, HP.out.2, HV.out, HO6.out⟩⟩
       case measure => simp [intOf]; omega
   · obtain rfl : k = g.l.length := by omega
     have d1 : decide ((g.l.length : Int) < (g.l.length : Int)) = false := decide_eq_false (by omega)
     have HR := Aside0.mk (HR0.out.below HB.out.b)
     have HRS : Aside0 (Rd wr B d S) := ⟨by obtain ⟨A', c', e1, hrd, _⟩ := HO.out.rd' (by have := HS.out.1.len HGL.out.2; omega); injection e1 with e2 e3 e4; subst e2; subst e4; exact hrd⟩
     clear HO
     obtain ⟨J, hJ1, hJ6, hJ⟩ : ∃ J : Nat, 1 ≤ J ∧ J ≤ 6 ∧ ct % 6 + 1 = (J : Int) := ⟨(ct % 6 + 1).toNat, by omega, by omega, by omega⟩
     have HJ := Aside0.mk hJ
     have HJ6 := Aside0.mk (And.intro hJ1 hJ6)
     clear hJ hJ1 hJ6
     have HSL : Aside0 (S.length + 0 ≤ 4398046511104) := ⟨by have := HS.out.1.len HGL.out.2; omega⟩
     have q1 : IntKind.i64.wrap (g.fi - 1) = g.fi - 1 := by have := HFI.out; rw [i64_w]; unfold wrap64; omega
     obtain ⟨U, hU⟩ : ∃ U : Grp, (⟨g.id, g.fi, g.tm, 0, 0, 0, S⟩ : Grp) = U := ⟨_, rfl⟩
     obtain ⟨T, hT⟩ : ∃ T : Grp, (⟨g.id, g.fi, g.tm, g.ht, g.hv, g.hc, S⟩ : Grp) = T := ⟨_, rfl⟩
     have HUE := Aside0.mk hU
     have HTE := Aside0.mk hT
     have hUl : U.l = S := by rw [← hU]
     have hTl : T.l = S := by rw [← hT]
     have KH : Aside0 (doG U ⟨g.id, 6, [], g.ht, g.hv, g.hc, 0, 0, false, true⟩ = T) := ⟨by rw [← hU, ← hT]; exact fw_head J3.out HS.out.1⟩
     have KM : Aside0 (doG ⟨g.id, 1, 0, 0, 0, 0, S⟩ ⟨g.id, 6, [], 0, 0, 0, g.fi - 1, g.tm, true, false⟩ = U) := ⟨by rw [← hU]; exact fw_mark J3.out HX4.out.1 HX4.out.2 HS.out.1⟩
     have KUL : Aside0 (U.l = S) := ⟨hUl⟩
     have KTL : Aside0 (T.l = S) := ⟨hTl⟩
     clear hU hT hUl hTl
     obtain ⟨hg0, hg1, hg2, hg3, hg4, hg5, hg6⟩ := HG.out.box
     obtain ⟨hv0, hv1, hv2, hv3, hv4, hv5, hv6⟩ := HV.out.box
     try dsimp only at hg0 hg1 hg2 hg3 hg4 hg5 hg6 hv0 hv1 hv2 hv3 hv4 hv5 hv6
     go_wp2_with fail
     try rw [HJ.out]
     have hC11 := HC11.out
     simp only [Try.f5] at hC11
     subst hC11
     clear HC11
     obtain ⟨C14, hC14⟩ : ∃ C, (match Try.f5.body with | some (.seq _ (.seq _ (.seq _ (.seq _ (.seq _ (.seq _ (.seq _ c))))))) => c | _ => .skip) = C := ⟨_, rfl⟩
     have HC14 := Aside0.mk hC14
     simp only [Try.f5] at hC14
     rw [hC14]
     clear hC14
     go_wp2_with fail
     try rw [HJ.out]
     go_at_call 12
     refine (sdo_c ⟨g.id, 1, 0, 0, 0, 0, S⟩ B d ⟨g.id, 6, [], 0, 0, 0, g.fi - 1, g.tm, true, false⟩ none 0 _ HRS.out (Rd.nil _) HSL.out KM.out).mono ?_
     rintro e w41 ⟨A3, c3, rfl, hrd, hw41⟩
     replace HG := lbG HG hw41
     replace HB := lbB HB hw41
     replace HV := lbG HV hw41
     replace HRS := lbR HRS hw41
     have HRU := Aside0.mk (hrd)
     clear hrd
     clear hw41
     clear hg0 hg1 hg2 hg3 hg4 hg5 hg6 hv0 hv1 hv2 hv3 hv4 hv5 hv6
     obtain ⟨hg0, hg1, hg2, hg3, hg4, hg5, hg6⟩ := HG.out.box
     obtain ⟨hv0, hv1, hv2, hv3, hv4, hv5, hv6⟩ := HV.out.box
     try dsimp only at hg0 hg1 hg2 hg3 hg4 hg5 hg6 hv0 hv1 hv2 hv3 hv4 hv5 hv6
     have yf := HV.out.free
     go_wp2_with fail
     clear yf
     clear HRS
     clear hg0 hg1 hg2 hg3 hg4 hg5 hg6 hv0 hv1 hv2 hv3 hv4 hv5 hv6
     have hx := only_store U A3 c3 n7 w41
     replace HG := Aside0.mk (BlkG.only HG.out hx (fun h => by have h2 : s = n7 := h; omega))
     replace HB := Aside0.mk (Bel.only HB.out hx (fun q hq h => by have h2 : q = n7 := h; have := HW7.out; omega))
     replace HRU := Aside0.mk (Rd.only HRU.out hx (fun q hq h => by have h3 : q = n7 := h; subst h3; exact Rd.apartG HRU.out HV.out hq))
     replace HV := Aside0.mk (BlkG.store (g := U) (A := A3) (c := c3) HV.out)
     clear hx
     obtain ⟨W5, hW5⟩ : ∃ W, (((((((w41.setCell ⟨n7, 0, none⟩ (.int .i64 U.id)).setCell ⟨n7, 1, none⟩ (.int .i64 U.fi)).setCell ⟨n7, 2, none⟩ (.int .i64 U.tm)).setCell ⟨n7, 3, none⟩ (.int .i64 U.ht)).setCell ⟨n7, 4, none⟩ (.int .i64 U.hv)).setCell ⟨n7, 5, none⟩ (.int .i64 U.hc)).setCell ⟨n7, 6, none⟩ (.slice A3 U.l.length c3)) = W := ⟨_, rfl⟩
     rw [hW5] at HG HB HV HRU ⊢
     clear hW5
     obtain ⟨hg0, hg1, hg2, hg3, hg4, hg5, hg6⟩ := HG.out.box
     obtain ⟨hv0, hv1, hv2, hv3, hv4, hv5, hv6⟩ := HV.out.box
     try dsimp only at hg0 hg1 hg2 hg3 hg4 hg5 hg6 hv0 hv1 hv2 hv3 hv4 hv5 hv6
     have hC14 := HC14.out
     simp only [Try.f5] at hC14
     subst hC14
     clear HC14
     obtain ⟨C22, hC22⟩ : ∃ C, (match Try.f5.body with | some (.seq _ (.seq _ (.seq _ (.seq _ (.seq _ (.seq _ (.seq _ (.seq _ (.seq _ c))))))))) => c | _ => .skip) = C := ⟨_, rfl⟩
     have HC22 := Aside0.mk hC22
     simp only [Try.f5] at hC22
     rw [hC22]
     clear hC22
     go_wp2_with fail
     go_at_call 12
     refine (sdo_c U A3 c3 ⟨g.id, 6, [], g.ht, g.hv, g.hc, 0, 0, false, true⟩ none 0 _ HRU.out (Rd.nil _) (by rw [KUL.out]; exact HSL.out) KH.out).mono ?_
     rintro e w42 ⟨A4, c4, rfl, hrd, hw42⟩
     replace HG := lbG HG hw42
     replace HB := lbB HB hw42
     replace HV := lbG HV hw42
     replace HRU := lbR HRU hw42
     have HRT := Aside0.mk (hrd)
     clear hrd
     clear hw42
     clear hg0 hg1 hg2 hg3 hg4 hg5 hg6 hv0 hv1 hv2 hv3 hv4 hv5 hv6
     obtain ⟨hg0, hg1, hg2, hg3, hg4, hg5, hg6⟩ := HG.out.box
     obtain ⟨hv0, hv1, hv2, hv3, hv4, hv5, hv6⟩ := HV.out.box
     try dsimp only at hg0 hg1 hg2 hg3 hg4 hg5 hg6 hv0 hv1 hv2 hv3 hv4 hv5 hv6
     have yf := HV.out.free
     go_wp2_with fail
     clear yf
     clear HRU
     clear hg0 hg1 hg2 hg3 hg4 hg5 hg6 hv0 hv1 hv2 hv3 hv4 hv5 hv6
     have hx := only_store T A4 c4 n7 w42
     replace HG := Aside0.mk (BlkG.only HG.out hx (fun h => by have h2 : s = n7 := h; omega))
     replace HB := Aside0.mk (Bel.only HB.out hx (fun q hq h => by have h2 : q = n7 := h; have := HW7.out; omega))
     replace HRT := Aside0.mk (Rd.only HRT.out hx (fun q hq h => by have h3 : q = n7 := h; subst h3; exact Rd.apartG HRT.out HV.out hq))
     replace HV := Aside0.mk (BlkG.store (g := T) (A := A4) (c := c4) HV.out)
     clear hx
     obtain ⟨W6, hW6⟩ : ∃ W, (((((((w42.setCell ⟨n7, 0, none⟩ (.int .i64 T.id)).setCell ⟨n7, 1, none⟩ (.int .i64 T.fi)).setCell ⟨n7, 2, none⟩ (.int .i64 T.tm)).setCell ⟨n7, 3, none⟩ (.int .i64 T.ht)).setCell ⟨n7, 4, none⟩ (.int .i64 T.hv)).setCell ⟨n7, 5, none⟩ (.int .i64 T.hc)).setCell ⟨n7, 6, none⟩ (.slice A4 T.l.length c4)) = W := ⟨_, rfl⟩
     rw [hW6] at HG HB HV HRT ⊢
     clear hW6
     have HJ1 : Aside0 (FwJ g A c s n7 0 w W6) := ⟨⟨HG.out, HB.out, S, A4, c4, HS.out.1, fun j h => absurd h (Nat.not_lt_zero _), by have h1 := HV.out; rw [← HTE.out] at h1; exact h1, by have h1 := HRT.out; rw [KTL.out] at h1; exact h1⟩⟩
     clear HG HB HV HRT HS KM KH
     go_wp2_with fail
     go_loopw [10] (fun v wr => ∃ i : Nat, i ≤ g.l.length + 5 ∧ v = .int .i64 (i : Int) ∧ Aside0 (FwJ g A c s n7 i w wr)) (fun v _ => g.l.length + 6 - (intOf v).toNat)
     case atStart => exact ⟨0, Nat.zero_le _, rfl, HJ1⟩
     case round =>
       clear HJ1
       obtain ⟨i, hi, rfl, HI⟩ := hrel
       obtain ⟨hg, hb, S, B, d, hS, hSk, hv, hrs⟩ := HI.out
       have HG := Aside0.mk hg
       have HB := Aside0.mk hb
       have HS := Aside0.mk (And.intro hS hSk)
       have hj6 := HJ6.out
       clear HI hg hb hS hSk
       obtain ⟨U, hU⟩ : ∃ U : Grp, (⟨g.id, g.fi, g.tm, g.ht, g.hv, g.hc, S⟩ : Grp) = U := ⟨_, rfl⟩
       rw [hU] at hv
       have hUl : U.l = S := by rw [← hU]
       have HUE := Aside0.mk hU
       have HV := Aside0.mk hv
       rw [← hUl] at hrs
       have HRS := Aside0.mk hrs
       clear hrs
       have KUL : Aside0 (U.l = S) := ⟨hUl⟩
       clear hv hU hUl
       by_cases hlt : i < g.l.length
       · have d1 : decide ((i : Int) < (g.l.length : Int)) = true := decide_eq_true (by omega)
         have hlt2 : (i : Int) < (g.l.length : Int) := by omega
         have hl30 := HL30.out
         have hcc := HR0.out.le
         have q2 : IntKind.i64.wrap ((i : Int) + (J : Int)) = (i : Int) + (J : Int) := by rw [i64_w]; unfold wrap64; omega
         obtain ⟨M, hM⟩ : ∃ M, min (i + J) g.l.length = M := ⟨_, rfl⟩
         have q3 : (if (g.l.length : Int) < (i : Int) + (J : Int) then (g.l.length : Int) else (i : Int) + (J : Int)) = (M : Int) := by split <;> omega
         have k4 : i ≤ M := by omega
         have k5 : (0 : Int) ≤ (M : Int) := by omega
         have hM1 : i ≤ M ∧ M ≤ g.l.length ∧ M ≤ i + J ∧ (M < i + J → M = g.l.length) := by omega
         have HM := Aside0.mk hM1
         have k1 : (0 : Int) ≤ (i : Int) := by omega
         have k2 : (i : Int) ≤ (M : Int) := by omega
         have k3 : (M : Int) ≤ (c : Int) := by omega
         obtain ⟨C, hC⟩ : ∃ C, (g.l.drop i).take (M - i) = C := ⟨_, rfl⟩
         have hCl : C.length = M - i := by rw [← hC, List.length_take, List.length_drop]; omega
         have HCL := Aside0.mk hCl
         have hRC := HR0.out.sub i M hM1.1 hM1.2.1
         rw [hC] at hRC
         have HRC := Aside0.mk hRC
         have HCE := Aside0.mk hC
         clear hM hM1 hC hRC
         obtain ⟨hg0, hg1, hg2, hg3, hg4, hg5, hg6⟩ := HG.out.box
         obtain ⟨hv0, hv1, hv2, hv3, hv4, hv5, hv6⟩ := HV.out.box
         try dsimp only at hg0 hg1 hg2 hg3 hg4 hg5 hg6 hv0 hv1 hv2 hv3 hv4 hv5 hv6
         go_wp2_with fail
         clear hg0 hg1 hg2 hg3 hg4 hg5 hg6 hv0 hv1 hv2 hv3 hv4 hv5 hv6
         obtain ⟨n11, hn11⟩ : ∃ n, wr.drew.heap.size = n := ⟨_, rfl⟩
         have HN11 := Aside0.mk hn11
         have l7x : n7 < n11 := by rw [← hn11]; exact HV.out.lt
         have lsx : s < n11 := by rw [← hn11]; exact HG.out.lt
         replace HG := ldG HG
         replace HB := ldB HB
         replace HV := ldG HV
         replace HRS := ldR HRS
         refine start_ (n := 16) (S := (fun w' => BoxG g A c s w')) (ds := [15]) #[false,false,false,false,false,false,false,false,false,false,false,false,false,false,false,false] (by kernel_rfl) rfl rfl HG.out.box (fun hHeld => ?_)
         refine pure_ (i := 0) (N := some 100) (v := ?_) (a' := ?_) #[true,false,false,false,false,false,false,false,false,false,false,false,false,false,false,false] rfl rfl (by kernel_rfl) (fun _ _ _ h => h) (Or.inl ⟨by rfl, ?_⟩) ?_ ?_
         rotate_left
         · intro w'
           go_simp
           try with_reducible rfl
         rotate_left
         · simp only [Act.put, sA, sB, sC]
           rfl
         refine take_ (i := 1) (N := some 101) (v := ?_) (a' := ?_) #[true,true,false,false,false,false,false,false,false,false,false,false,false,false,false,false] rfl rfl (by kernel_rfl) (fun _ _ _ h => h) (Or.inl ⟨by rfl, ?_⟩) hHeld ?_ ?_
         rotate_left
         · rintro w' ⟨hg0, hg1, hg2, hg3, hg4, hg5, hg6⟩
           go_simp
           try with_reducible rfl
         rotate_left
         · simp only [Act.put, sA, sB, sC]
           rfl
         refine pure_ (i := 2) (N := some 102) (v := ?_) (a' := ?_) #[true,true,true,false,false,false,false,false,false,false,false,false,false,false,false,false] rfl rfl (by kernel_rfl) (fun _ _ _ h => h) (Or.inl ⟨by rfl, ?_⟩) ?_ ?_
         rotate_left
         · intro w'
           go_simp
           try with_reducible rfl
         rotate_left
         · simp only [Act.put, sA, sB, sC]
           rfl
         refine take_ (i := 3) (N := some 103) (v := ?_) (a' := ?_) #[true,true,true,true,false,false,false,false,false,false,false,false,false,false,false,false] rfl rfl (by kernel_rfl) (fun _ _ _ h => h) (Or.inl ⟨by rfl, ?_⟩) hHeld ?_ ?_
         rotate_left
         · rintro w' ⟨hg0, hg1, hg2, hg3, hg4, hg5, hg6⟩
           go_simp
           try with_reducible rfl
         rotate_left
         · simp only [Act.put, sA, sB, sC]
           rfl
         refine pure_ (i := 4) (N := some 104) (v := ?_) (a' := ?_) #[true,true,true,true,true,false,false,false,false,false,false,false,false,false,false,false] rfl rfl (by kernel_rfl) (fun _ _ _ h => h) (Or.inl ⟨by rfl, ?_⟩) ?_ ?_
         rotate_left
         · intro w'
           go_simp
           try with_reducible rfl
         rotate_left
         · simp only [Act.put, sA, sB, sC]
           rfl
         refine pure_ (i := 5) (N := some 105) (v := ?_) (a' := ?_) #[true,true,true,true,true,true,false,false,false,false,false,false,false,false,false,false] rfl rfl (by kernel_rfl) (fun _ _ _ h => h) (Or.inl ⟨by rfl, ?_⟩) ?_ ?_
         rotate_left
         · intro w'
           go_simp
           try with_reducible rfl
         rotate_left
         · simp only [Act.put, sA, sB, sC]
           rfl
         refine pure_ (i := 6) (N := some 106) (v := ?_) (a' := ?_) #[true,true,true,true,true,true,true,false,false,false,false,false,false,false,false,false] rfl rfl (by kernel_rfl) (fun _ _ _ h => h) (Or.inl ⟨by rfl, ?_⟩) ?_ ?_
         rotate_left
         · intro w'
           go_simp
           try with_reducible rfl
         rotate_left
         · simp only [Act.put, sA, sB, sC]
           rfl
         refine pure_ (i := 7) (N := some 107) (v := ?_) (a' := ?_) #[true,true,true,true,true,true,true,true,false,false,false,false,false,false,false,false] rfl rfl (by kernel_rfl) (fun _ _ _ h => h) (Or.inl ⟨by rfl, ?_⟩) ?_ ?_
         rotate_left
         · intro w'
           go_simp
           try with_reducible rfl
         rotate_left
         · simp only [Act.put, sA, sB, sC]
           rfl
         refine pure_ (i := 8) (N := some 108) (v := ?_) (a' := ?_) #[true,true,true,true,true,true,true,true,true,false,false,false,false,false,false,false] rfl rfl (by kernel_rfl) (fun _ _ _ h => h) (Or.inl ⟨by rfl, ?_⟩) ?_ ?_
         rotate_left
         · intro w'
           go_simp
           try with_reducible rfl
         rotate_left
         · simp only [Act.put, sA, sB, sC]
           rfl
         refine take_ (i := 9) (N := some 109) (v := ?_) (a' := ?_) #[true,true,true,true,true,true,true,true,true,true,false,false,false,false,false,false] rfl rfl (by kernel_rfl) (fun _ _ _ h => h) (Or.inl ⟨by rfl, ?_⟩) hHeld ?_ ?_
         rotate_left
         · rintro w' ⟨hg0, hg1, hg2, hg3, hg4, hg5, hg6⟩
           go_simp
           try with_reducible rfl
         rotate_left
         · simp only [Act.put, sA, sB, sC]
           rfl
         refine pure_ (i := 10) (N := some 110) (v := ?_) (a' := ?_) #[true,true,true,true,true,true,true,true,true,true,true,false,false,false,false,false] rfl rfl (by kernel_rfl) (fun _ _ _ h => h) (Or.inl ⟨by rfl, ?_⟩) ?_ ?_
         rotate_left
         · intro w'
           go_simp
           try with_reducible rfl
         rotate_left
         · simp only [Act.put, sA, sB, sC]
           rfl
         refine pure_ (i := 11) (N := some 111) (v := ?_) (a' := ?_) #[true,true,true,true,true,true,true,true,true,true,true,true,false,false,false,false] rfl rfl (by kernel_rfl) (fun _ _ _ h => h) (Or.inl ⟨by rfl, ?_⟩) ?_ ?_
         rotate_left
         · intro w'
           go_simp
           try with_reducible rfl
         rotate_left
         · simp only [Act.put, sA, sB, sC]
           rfl
         refine pure_ (i := 12) (N := some 112) (v := ?_) (a' := ?_) #[true,true,true,true,true,true,true,true,true,true,true,true,true,false,false,false] rfl rfl (by kernel_rfl) (fun _ _ _ h => h) (Or.inl ⟨by rfl, ?_⟩) ?_ ?_
         rotate_left
         · intro w'
           go_simp
           try with_reducible rfl
         rotate_left
         · simp only [Act.put, sA, sB, sC]
           rfl
         refine pure_ (i := 13) (N := some 113) (v := ?_) (a' := ?_) #[true,true,true,true,true,true,true,true,true,true,true,true,true,true,false,false] rfl rfl (by kernel_rfl) (fun _ _ _ h => h) (Or.inl ⟨by rfl, ?_⟩) ?_ ?_
         rotate_left
         · intro w'
           go_simp
           try with_reducible rfl
         rotate_left
         · simp only [Act.put, sA, sB, sC]
           rfl
         refine one_ (i := 14) (N := some 11) #[true,true,true,true,true,true,true,true,true,true,true,true,true,true,true,false] rfl rfl (by kernel_rfl) (by decide) (fun K hK => ?_)
         go_simp
         refine hK.out _ _ ?_ (fun hHeld => ?_)
         · exact (laG HG (.cells #[.int .i64 0, .int .i64 0, .slice none 0 0, .int .i64 0, .int .i64 0, .int .i64 0, .int .i64 0, .int .i64 0, .bool false, .bool false] 28)).out.box
         clear hK K
         try simp only [Act.put, sA, sB, sC]
         replace HG := laG HG (.cells #[.int .i64 0, .int .i64 0, .slice none 0 0, .int .i64 0, .int .i64 0, .int .i64 0, .int .i64 0, .int .i64 0, .bool false, .bool false] 28); replace HB := laB HB (.cells #[.int .i64 0, .int .i64 0, .slice none 0 0, .int .i64 0, .int .i64 0, .int .i64 0, .int .i64 0, .int .i64 0, .bool false, .bool false] 28); replace HV := laG HV (.cells #[.int .i64 0, .int .i64 0, .slice none 0 0, .int .i64 0, .int .i64 0, .int .i64 0, .int .i64 0, .int .i64 0, .bool false, .bool false] 28); replace HRS := laR HRS (.cells #[.int .i64 0, .int .i64 0, .slice none 0 0, .int .i64 0, .int .i64 0, .int .i64 0, .int .i64 0, .int .i64 0, .bool false, .bool false] 28)
         have HX : Aside0 (BlkP ⟨0, 0, [], 0, 0, 0, 0, 0, false, false⟩ none 0 n11 (wr.drew.alloc (.cells #[.int .i64 0, .int .i64 0, .slice none 0 0, .int .i64 0, .int .i64 0, .int .i64 0, .int .i64 0, .int .i64 0, .bool false, .bool false] 28))) := ⟨by have hq := BlkP.new ⟨0, 0, [], 0, 0, 0, 0, 0, false, false⟩ none 0 wr.drew; rw [HN11.out] at hq; exact hq⟩
         obtain ⟨w5, hw5⟩ : ∃ W, (wr.alloc (.cells #[.int .i64 0, .int .i64 0, .slice none 0 0, .int .i64 0, .int .i64 0, .int .i64 0, .int .i64 0, .int .i64 0, .bool false, .bool false] 28)).drew = W := ⟨_, rfl⟩
         have hda : wr.drew.alloc (.cells #[.int .i64 0, .int .i64 0, .slice none 0 0, .int .i64 0, .int .i64 0, .int .i64 0, .int .i64 0, .int .i64 0, .bool false, .bool false] 28) = w5 := by rw [← hw5]; rfl
         rw [hda] at HG HB HV HRS HX
         rw [hw5]
         clear hw5 hda
         obtain ⟨z0, z1, z2, z3, z4, z5, z6, z7, z8, z9⟩ := HX.out.box
         have zf := BlkP.free' HX.out
         refine last_ (i := 15) (N := none) #[true,true,true,true,true,true,true,true,true,true,true,true,true,true,true,true] rfl rfl (by kernel_rfl) (by decide) (fun K hK => ?_)
         go_simp
         refine hK.out _ _ ?_
         clear hK K
         try simp only [Act.put, sA, sB, sC]
         refine done_ (by kernel_rfl) ?_
         obtain ⟨Ap, hAp⟩ : ∃ Ap, (if c = i then A else Option.map (fun x => x.add (i * 3)) A) = Ap := ⟨_, rfl⟩
         obtain ⟨cp, hcp⟩ : ∃ cp, c - i = cp := ⟨_, rfl⟩
         rw [hAp, hcp]
         have HRC2 : Aside0 (Rd w Ap cp C) := ⟨by rw [← hAp, ← hcp]; exact HRC.out⟩
         clear hAp hcp HRC z0 z1 z2 z3 z4 z5 z6 z7 z8 z9 zf
         have hx : Only (fun q => q = n11) w5 ((((((((((w5.setCell ⟨n11, 0, none⟩ (.int .i64 g.id)).setCell ⟨n11, 1, none⟩ (.int .i64 6)).setCell ⟨n11, 2, none⟩ (.slice Ap (M - i) cp)).setCell ⟨n11, 3, none⟩ (.int .i64 0)).setCell ⟨n11, 4, none⟩ (.int .i64 0)).setCell ⟨n11, 5, none⟩ (.int .i64 0)).setCell ⟨n11, 6, none⟩ (.int .i64 0)).setCell ⟨n11, 7, none⟩ (.int .i64 0)).setCell ⟨n11, 8, none⟩ (.bool false)).setCell ⟨n11, 9, none⟩ (.bool false)) := by (iterate 10 (refine Only.setCell (U := fun q => q = n11) ?_ rfl _)); exact Only.refl _ _
         have hb : BlkP ⟨g.id, 6, C, 0, 0, 0, 0, 0, false, false⟩ Ap cp n11 ((((((((((w5.setCell ⟨n11, 0, none⟩ (.int .i64 g.id)).setCell ⟨n11, 1, none⟩ (.int .i64 6)).setCell ⟨n11, 2, none⟩ (.slice Ap (M - i) cp)).setCell ⟨n11, 3, none⟩ (.int .i64 0)).setCell ⟨n11, 4, none⟩ (.int .i64 0)).setCell ⟨n11, 5, none⟩ (.int .i64 0)).setCell ⟨n11, 6, none⟩ (.int .i64 0)).setCell ⟨n11, 7, none⟩ (.int .i64 0)).setCell ⟨n11, 8, none⟩ (.bool false)).setCell ⟨n11, 9, none⟩ (.bool false)) := by have hq := HX.out; unfold BlkP at hq ⊢; simp [World.setCell, Array.getElem?_modify, hq, HCL.out]
         replace HG := Aside0.mk (HG.out.only hx (fun h => by have h2 : s = n11 := h; omega))
         replace HV := Aside0.mk (HV.out.only hx (fun h => by have h2 : n7 = n11 := h; omega))
         replace HB := Aside0.mk (HB.out.only hx (fun q hq h => by have h2 : q = n11 := h; have := HW7.out; omega))
         replace HRS := Aside0.mk (Rd.only HRS.out hx (fun q hq h => by have h3 : q = n11 := h; subst h3; exact Rd.apartP HRS.out HX.out hq))
         clear HX hx
         obtain ⟨P, hP⟩ : ∃ P : Prt, (⟨g.id, 6, C, 0, 0, 0, 0, 0, false, false⟩ : Prt) = P := ⟨_, rfl⟩
         rw [hP] at hb
         have HP := Aside0.mk hb
         have HPE := Aside0.mk hP
         have KPL : Aside0 (P.l = C) := ⟨by rw [← hP]⟩
         clear hb hP
         obtain ⟨W6, hW6⟩ : ∃ W, ((((((((((w5.setCell ⟨n11, 0, none⟩ (.int .i64 g.id)).setCell ⟨n11, 1, none⟩ (.int .i64 6)).setCell ⟨n11, 2, none⟩ (.slice Ap (M - i) cp)).setCell ⟨n11, 3, none⟩ (.int .i64 0)).setCell ⟨n11, 4, none⟩ (.int .i64 0)).setCell ⟨n11, 5, none⟩ (.int .i64 0)).setCell ⟨n11, 6, none⟩ (.int .i64 0)).setCell ⟨n11, 7, none⟩ (.int .i64 0)).setCell ⟨n11, 8, none⟩ (.bool false)).setCell ⟨n11, 9, none⟩ (.bool false)) = W := ⟨_, rfl⟩
         rw [hW6] at HG HV HB HRS HP ⊢
         clear hW6
         obtain ⟨b, hb⟩ : ∃ b, isP P = b := ⟨_, rfl⟩
         have KB := Aside0.mk hb
         have HRP : Aside0 (Rd w Ap cp P.l) := ⟨by rw [KPL.out]; exact HRC2.out⟩
         obtain ⟨hg0, hg1, hg2, hg3, hg4, hg5, hg6⟩ := HG.out.box
         obtain ⟨hv0, hv1, hv2, hv3, hv4, hv5, hv6⟩ := HV.out.box
         obtain ⟨hp0, hp1, hp2, hp3, hp4, hp5, hp6, hp7, hp8, hp9⟩ := HP.out.box
         try dsimp only at hg0 hg1 hg2 hg3 hg4 hg5 hg6 hv0 hv1 hv2 hv3 hv4 hv5 hv6 hp0 hp1 hp2 hp3 hp4 hp5 hp6 hp7 hp8 hp9
         go_wp2_with fail
         go_at_call 22
         refine (refis_c P Ap cp _ (HRP.out.below HB.out.b) KB.out).mono ?_
         rintro e w71 ⟨rfl, hw71⟩
         replace HG := lbG HG hw71
         replace HB := lbB HB hw71
         replace HV := lbG HV hw71
         replace HRS := lbR HRS hw71
         replace HP := lbP HP hw71
         clear hw71
         clear hg0 hg1 hg2 hg3 hg4 hg5 hg6 hv0 hv1 hv2 hv3 hv4 hv5 hv6 hp0 hp1 hp2 hp3 hp4 hp5 hp6 hp7 hp8 hp9
         obtain ⟨hg0, hg1, hg2, hg3, hg4, hg5, hg6⟩ := HG.out.box
         obtain ⟨hv0, hv1, hv2, hv3, hv4, hv5, hv6⟩ := HV.out.box
         obtain ⟨hp0, hp1, hp2, hp3, hp4, hp5, hp6, hp7, hp8, hp9⟩ := HP.out.box
         try dsimp only at hg0 hg1 hg2 hg3 hg4 hg5 hg6 hv0 hv1 hv2 hv3 hv4 hv5 hv6 hp0 hp1 hp2 hp3 hp4 hp5 hp6 hp7 hp8 hp9
         rcases b with _ | _
         · go_wp2_with fail
           go_ret
           exact ⟨rfl, HB.out.b⟩
         obtain ⟨Y, hY⟩ : ∃ Y : Grp, (⟨g.id, g.fi, g.tm, g.ht, g.hv, g.hc, fillL g.fi S C⟩ : Grp) = Y := ⟨_, rfl⟩
         have KD : Aside0 (doG U P = Y) := ⟨by rw [← HUE.out, ← HPE.out, ← hY]; exact fw_chunk J3.out HS.out.1 (by rw [HPE.out]; exact KB.out)⟩
         have HYE := Aside0.mk hY
         have KYL : Aside0 (Y.l = fillL g.fi S C) := ⟨by rw [← hY]⟩
         have KFM : Aside0 (FwS g.l (fillL g.fi S C) ∧ ∀ x, x ∈ fillL g.fi S C ↔ x ∈ S ∨ x ∈ C) := ⟨fill_mem HGL.out C S HS.out.1 (fun x hx => by rw [← HCE.out] at hx; exact List.mem_of_mem_drop (List.mem_of_mem_take hx))⟩
         clear hY
         have KLE : Aside0 (U.l.length + P.l.length ≤ 4398046511104) := ⟨by rw [KUL.out, KPL.out, HCL.out]; have := HS.out.1.len HGL.out.2; have := HM.out; have := HL30.out; omega⟩
         go_wp2_with fail
         go_at_call 12
         refine (sdo_c U B d P Ap cp _ HRS.out (HRP.out.below HB.out.b) KLE.out KD.out).mono ?_
         rintro e w72 ⟨A5, c5, rfl, hrd, hw72⟩
         replace HG := lbG HG hw72
         replace HB := lbB HB hw72
         replace HV := lbG HV hw72
         replace HRS := lbR HRS hw72
         replace HP := lbP HP hw72
         have HRY := Aside0.mk (hrd)
         clear hrd
         clear hw72
         clear hg0 hg1 hg2 hg3 hg4 hg5 hg6 hv0 hv1 hv2 hv3 hv4 hv5 hv6 hp0 hp1 hp2 hp3 hp4 hp5 hp6 hp7 hp8 hp9
         obtain ⟨hg0, hg1, hg2, hg3, hg4, hg5, hg6⟩ := HG.out.box
         obtain ⟨hv0, hv1, hv2, hv3, hv4, hv5, hv6⟩ := HV.out.box
         obtain ⟨hp0, hp1, hp2, hp3, hp4, hp5, hp6, hp7, hp8, hp9⟩ := HP.out.box
         try dsimp only at hg0 hg1 hg2 hg3 hg4 hg5 hg6 hv0 hv1 hv2 hv3 hv4 hv5 hv6 hp0 hp1 hp2 hp3 hp4 hp5 hp6 hp7 hp8 hp9
         have yf := HV.out.free
         go_wp2_with fail
         have hx := only_store Y A5 c5 n7 w72
         go_roundw
         case rel => exact ⟨i + J, by omega, by go_num, ⟨HG.out.only hx (fun h => by have h2 : s = n7 := h; omega), HB.out.only hx (fun q hq h => by have h2 : q = n7 := h; have := HW7.out; omega), fillL g.fi S C, A5, c5, KFM.out.1, fun j h1 h2 => (KFM.out.2 _).2 (by rcases Nat.lt_or_ge j i with h3 | h3; exact .inl (HS.out.2 j h3 h2); exact .inr (by rw [← HCE.out]; have h4 := HM.out; refine List.mem_iff_getElem.2 ⟨j - i, by rw [List.length_take, List.length_drop]; omega, ?_⟩; rw [List.getElem_take, List.getElem_drop, el_get h2]; congr 1; omega)), by rw [HYE.out]; exact BlkG.store (g := Y) (A := A5) (c := c5) HV.out, by rw [← KYL.out]; exact Rd.only HRY.out hx (fun q hq h => by have h3 : q = n7 := h; subst h3; exact Rd.apartG HRY.out HV.out hq)⟩⟩
         case measure => simp [intOf]; omega
       · have d1 : decide ((i : Int) < (g.l.length : Int)) = false := decide_eq_false (by omega)
         have KS : Aside0 (sameG U g = true) := ⟨sameG_iff.2 (by rw [← HUE.out, HS.out.1.all HGL.out.2 (fun x hx => by obtain ⟨j, hj, h1⟩ := List.mem_iff_getElem.1 hx; have := HS.out.2 j (by omega) hj; rw [el_get hj, h1] at this; exact this)])⟩
         obtain ⟨hg0, hg1, hg2, hg3, hg4, hg5, hg6⟩ := HG.out.box
         obtain ⟨hv0, hv1, hv2, hv3, hv4, hv5, hv6⟩ := HV.out.box
         try dsimp only at hg0 hg1 hg2 hg3 hg4 hg5 hg6 hv0 hv1 hv2 hv3 hv4 hv5 hv6
         go_wp2_with fail
         have hC22 := HC22.out
         simp only [Try.f5] at hC22
         subst hC22
         clear HC22
         go_wp2_with fail
         go_at_call 17
         refine (ssame_c U g B d A c _ HRS.out (HR0.out.below HB.out.b) KS.out).mono ?_
         rintro e w61 ⟨rfl, hw61⟩
         replace HG := lbG HG hw61
         replace HB := lbB HB hw61
         replace HV := lbG HV hw61
         replace HRS := lbR HRS hw61
         clear hw61
         clear hg0 hg1 hg2 hg3 hg4 hg5 hg6 hv0 hv1 hv2 hv3 hv4 hv5 hv6
         obtain ⟨hg0, hg1, hg2, hg3, hg4, hg5, hg6⟩ := HG.out.box
         obtain ⟨hv0, hv1, hv2, hv3, hv4, hv5, hv6⟩ := HV.out.box
         try dsimp only at hg0 hg1 hg2 hg3 hg4 hg5 hg6 hv0 hv1 hv2 hv3 hv4 hv5 hv6
         go_wp2_with fail
         go_ret
         exact ⟨rfl, HB.out.b⟩
set_option maxHeartbeats 8000000 in
set_option maxRecDepth 100000 in
theorem forward12_one (g : Grp) (A : Option Addr) (c : Nat) (kp ct : Int) (w : World) (hg : Rd w A c g.l) (h1 : 0 ≤ kp ∧ kp < 4294967296) (h2 : 0 ≤ ct ∧ ct < 256) {r1 : Bool} (hf1 : (∀ (A : Option Addr) (c : Nat) (w : World), Rd w A c g.l → Calls Try.prog 10 #[vG g A c] w fun e w' => e = .returned (.bool r1) ∧ Below w.heap.size w w')) (hn1 : r1 = true → g.l.length ≤ 30) (x1 : r1 = true) (x3 : isG true g = true) (x4 : g.fi = 1) (x5 : g.tm = 0) :
  Calls Try.prog 5 #[vG g A c, .int .u32 kp, .int .u8 ct] w fun e w' => e = .returned (.bool true) ∧ Below w.heap.size w w' := by
 subst x1
 have HL30 := Aside0.mk (hn1 rfl)
 have HGL := Aside0.mk (isG_good x3)
 have J3 := Aside0.mk x3
 have hfi := isG_fi x3
 have HFI := Aside0.mk hfi
 have d2 : decide (1 < g.fi) = false := decide_eq_false (by omega)
 have d3 : decide (g.fi > 1) = false := decide_eq_false (by omega)
 have e1 : (g.tm == 0) = true := beq_iff_eq.2 (by omega)
 have e1n : (g.tm != 0) = false := by rw [bne, e1]; rfl
 have e2 : (g.fi == 1) = true := beq_iff_eq.2 (by omega)
 have e2n : (g.fi != 1) = false := by rw [bne, e2]; rfl
 have HX4 := Aside0.mk (And.intro x4 x5)
 clear x3 x4 x5 hfi hn1
 have HF1 := Aside0.mk hf1
 obtain ⟨i0, i1⟩ := h1
 obtain ⟨i2, i3⟩ := h2
 obtain ⟨s, hs⟩ : ∃ s, w.heap.size = s := ⟨_, rfl⟩
 have HSs := Aside0.mk hs
 unfold vG
 go_enter Try.func5, Try.ntmps5
 have HB := Aside0.mk (Bel.refl w)
 have HR1 := Aside0.mk (hg)
 have HR0 := Aside0.mk hg
 clear hf1 hg
 obtain ⟨C1, hC1⟩ : ∃ C, (match Try.f5.body with | some (.seq _ c) => c | _ => .skip) = C := ⟨_, rfl⟩
 have HC1 := Aside0.mk hC1
 simp only [Try.f5] at hC1
 rw [hC1]
 clear hC1
 go_wp2
 replace HB := laB HB (.cells #[.int .i64 g.id, .int .i64 g.fi, .int .i64 g.tm, .int .i64 g.ht, .int .i64 g.hv, .int .i64 g.hc, .slice A g.l.length c] 26)
 replace HR1 := laR HR1 (.cells #[.int .i64 g.id, .int .i64 g.fi, .int .i64 g.tm, .int .i64 g.ht, .int .i64 g.hv, .int .i64 g.hc, .slice A g.l.length c] 26)
 have HG : Aside0 (BlkG g A c s (w.alloc (.cells #[.int .i64 g.id, .int .i64 g.fi, .int .i64 g.tm, .int .i64 g.ht, .int .i64 g.hv, .int .i64 g.hc, .slice A g.l.length c] 26))) := ⟨(by have hq := BlkG.new g A c w; rw [hs] at hq; exact hq)⟩
 obtain ⟨W0, hW0⟩ : ∃ W, w.alloc (.cells #[.int .i64 g.id, .int .i64 g.fi, .int .i64 g.tm, .int .i64 g.ht, .int .i64 g.hv, .int .i64 g.hc, .slice A g.l.length c] 26) = W := ⟨_, rfl⟩
 rw [hW0] at HB HR1 HG ⊢
 clear hW0
 clear hs
 obtain ⟨hg0, hg1, hg2, hg3, hg4, hg5, hg6⟩ := HG.out.box
 have hC1 := HC1.out
 simp only [Try.f5] at hC1
 subst hC1
 clear HC1
 obtain ⟨C4, hC4⟩ : ∃ C, (match Try.f5.body with | some (.seq _ (.seq _ (.seq _ (.seq _ c)))) => c | _ => .skip) = C := ⟨_, rfl⟩
 have HC4 := Aside0.mk hC4
 simp only [Try.f5] at hC4
 rw [hC4]
 clear hC4
 go_wp2_with fail
 go_at_call 9
 refine (known12 _).mono ?_
 rintro e w1 ⟨rfl, hw1⟩
 replace HB := lbB HB hw1
 replace HR1 := lbR HR1 hw1
 replace HG := lbG HG hw1
 clear hw1
 clear hg0 hg1 hg2 hg3 hg4 hg5 hg6
 obtain ⟨hg0, hg1, hg2, hg3, hg4, hg5, hg6⟩ := HG.out.box
 go_wp2_with fail
 go_at_call 10
 refine (HF1.out A c _ HR1.out).mono ?_
 rintro e w2 ⟨rfl, hw2⟩
 replace HB := lbB HB hw2
 replace HR1 := lbR HR1 hw2
 replace HG := lbG HG hw2
 clear hw2
 clear hg0 hg1 hg2 hg3 hg4 hg5 hg6
 obtain ⟨hg0, hg1, hg2, hg3, hg4, hg5, hg6⟩ := HG.out.box
 go_wp2_with fail
 go_at_call 16
 refine (rgis_c g A c _ HR1.out J3.out).mono ?_
 rintro e w3 ⟨rfl, hw3⟩
 replace HB := lbB HB hw3
 replace HR1 := lbR HR1 hw3
 replace HG := lbG HG hw3
 clear hw3
 clear hg0 hg1 hg2 hg3 hg4 hg5 hg6
 obtain ⟨hg0, hg1, hg2, hg3, hg4, hg5, hg6⟩ := HG.out.box
 obtain ⟨n7, hn7⟩ : ∃ n, w3.heap.size = n := ⟨_, rfl⟩
 have HSn7 := Aside0.mk hn7
 have HW7 : Aside0 (w.heap.size ≤ n7) := ⟨by rw [← hn7]; exact HB.out.b.size⟩
 have ls7 : s < n7 := by rw [← hn7]; exact HG.out.lt
 go_wp2_with fail
 clear hg0 hg1 hg2 hg3 hg4 hg5 hg6
 replace HB := laB HB (.cells #[.int .i64 g.id, .int .i64 1, .int .i64 0, .int .i64 0, .int .i64 0, .int .i64 0, .slice none 0 0] 26)
 replace HR1 := laR HR1 (.cells #[.int .i64 g.id, .int .i64 1, .int .i64 0, .int .i64 0, .int .i64 0, .int .i64 0, .slice none 0 0] 26)
 replace HG := laG HG (.cells #[.int .i64 g.id, .int .i64 1, .int .i64 0, .int .i64 0, .int .i64 0, .int .i64 0, .slice none 0 0] 26)
 have HV : Aside0 (BlkG ⟨g.id, 1, 0, 0, 0, 0, []⟩ none 0 n7 (w3.alloc (.cells #[.int .i64 g.id, .int .i64 1, .int .i64 0, .int .i64 0, .int .i64 0, .int .i64 0, .slice none 0 0] 26))) := ⟨(by have hq := BlkG.new ⟨g.id, 1, 0, 0, 0, 0, []⟩ none 0 w3; rw [HSn7.out] at hq; exact hq)⟩
 obtain ⟨W1, hW1⟩ : ∃ W, w3.alloc (.cells #[.int .i64 g.id, .int .i64 1, .int .i64 0, .int .i64 0, .int .i64 0, .int .i64 0, .slice none 0 0] 26) = W := ⟨_, rfl⟩
 rw [hW1] at HB HR1 HG HV ⊢
 clear hW1
 clear hn7
 have HI1 : Aside0 (FwI g A c s n7 0 w W1) := ⟨⟨HG.out, HB.out, [], none, 0, FwS.nil _, fun x hx => absurd hx (by simp), HV.out, OwnE.nil _ _⟩⟩
 clear HG HV HB HR1 HF1
 have hC4 := HC4.out
 simp only [Try.f5] at hC4
 subst hC4
 clear HC4
 obtain ⟨C11, hC11⟩ : ∃ C, (match Try.f5.body with | some (.seq _ (.seq _ (.seq _ (.seq _ (.seq _ c))))) => c | _ => .skip) = C := ⟨_, rfl⟩
 have HC11 := Aside0.mk hC11
 simp only [Try.f5] at hC11
 rw [hC11]
 clear hC11
 go_wp2_with fail
 go_loopw [8] (fun v wr => ∃ k : Nat, k ≤ g.l.length ∧ v = .int .i64 (k : Int) ∧ Aside0 (FwI g A c s n7 k w wr)) (fun v _ => g.l.length - (intOf v).toNat)
 case atStart => exact ⟨0, Nat.zero_le _, rfl, HI1⟩
 case round =>
   clear HI1
   obtain ⟨k, hk, rfl, HI⟩ := hrel
   obtain ⟨hg, hb, S, B, d, hS, hSk, hv, ho⟩ := HI.out
   have HG := Aside0.mk hg
   have HB := Aside0.mk hb
   have HS := Aside0.mk (And.intro hS hSk)
   have HV := Aside0.mk hv
   have HO := Aside0.mk ho
   have hl30 := HL30.out
   clear HI hg hb hS hSk hv ho
   by_cases hlt : k < g.l.length
   · obtain ⟨ad, rfl, hc⟩ := HR0.out.cel hlt
     obtain ⟨x, hx⟩ : ∃ x, el g.l k = x := ⟨_, rfl⟩
     have HXE := Aside0.mk hx
     rw [hx] at hc
     have HC0 := Aside0.mk hc
     clear hx hc
     have d1 : decide ((k : Int) < (g.l.length : Int)) = true := decide_eq_true (by omega)
     have hlt2 : (k : Int) < (g.l.length : Int) := by omega
     have hk4 : IntKind.i64.wrap ((k : Int) + 1) = (k : Int) + 1 := by rw [i64_w]; unfold wrap64; omega
     rcases hbit : (bits BinOp.and IntKind.u32 (kp / 2 ^ k) 1 == 1) with _ | _
     · obtain ⟨hg0, hg1, hg2, hg3, hg4, hg5, hg6⟩ := HG.out.box
       obtain ⟨hv0, hv1, hv2, hv3, hv4, hv5, hv6⟩ := HV.out.box
       dsimp only at hg0 hg1 hg2 hg3 hg4 hg5 hg6 hv0 hv1 hv2 hv3 hv4 hv5 hv6
       go_wp2_with fail
       go_roundw
       case rel => exact ⟨k + 1, by omega, by go_num, ⟨HG.out, HB.out, S, B, d, HS.out.1, fun y hy => by obtain ⟨j, h1, h2⟩ := HS.out.2 y hy; exact ⟨j, by omega, h2⟩, HV.out, HO.out⟩⟩
       case measure => simp [intOf]; omega
     · obtain ⟨T, hT⟩ : ∃ T, S ++ [x] = T := ⟨_, rfl⟩
       have HTE := Aside0.mk hT
       have HP : Aside0 (FwS g.l T ∧ ∀ y ∈ T, ∃ j, j < k + 1 ∧ y = el g.l j) := ⟨by rw [← hT, ← HXE.out]; exact ⟨HS.out.1.put HGL.out.2 hlt (fun y hy => by obtain ⟨j, h1, h2⟩ := HS.out.2 y hy; rw [h2]; exact sorted_el HGL.out.2 h1 hlt), fun y hy => by rcases List.mem_append.1 hy with h3 | h3; obtain ⟨j, h1, h2⟩ := HS.out.2 y h3; exact ⟨j, by omega, h2⟩; exact ⟨k, by omega, List.mem_singleton.1 h3⟩⟩⟩
       have HSL : Aside0 (S.length + 1 ≤ 31) := ⟨by have := HS.out.1.len HGL.out.2; omega⟩
       have HTL : Aside0 (T.length ≤ 31) := ⟨by rw [← hT, List.length_append]; exact HSL.out⟩
       clear hT
       obtain ⟨hg0, hg1, hg2, hg3, hg4, hg5, hg6⟩ := HG.out.box
       obtain ⟨hv0, hv1, hv2, hv3, hv4, hv5, hv6⟩ := HV.out.box
       dsimp only at hg0 hg1 hg2 hg3 hg4 hg5 hg6 hv0 hv1 hv2 hv3 hv4 hv5 hv6
       go_wp2_with fail
       clear hg0 hg1 hg2 hg3 hg4 hg5 hg6 hv0 hv1 hv2 hv3 hv4 hv5 hv6
       obtain ⟨m, hm⟩ : ∃ n, wr.drew.heap.size = n := ⟨_, rfl⟩
       have HM := Aside0.mk hm
       have l7m : n7 < m := by rw [← hm]; exact HV.out.lt
       replace HG := ldG HG
       replace HB := ldB HB
       replace HV := ldG HV
       replace HO : Aside0 (OwnE wr.drew (n7 + 1) (.slice B S.length d) S) := ⟨HO.out.below (below_drew (Below.refl _ _))⟩
       refine start_ (n := 11) (S := (fun w' => BoxG g (some ad) c s w' ∧ BoxG ⟨g.id, 1, 0, 0, 0, 0, S⟩ B d n7 w' ∧ CelE x (ad.add (k * 3)) w')) (ds := [10]) #[false,false,false,false,false,false,false,false,false,false,false] (by kernel_rfl) rfl rfl ⟨HG.out.box, HV.out.box, HC0.out.below HB.out.b⟩ (fun hHeld => ?_)
       refine pure_ (i := 0) (N := some 58) (v := ?_) (a' := ?_) #[true,false,false,false,false,false,false,false,false,false,false] rfl rfl (by kernel_rfl) (fun _ _ _ h => h) (Or.inl ⟨by rfl, ?_⟩) ?_ ?_
       rotate_left
       · intro w'
         go_simp
         try with_reducible rfl
       rotate_left
       · simp only [Act.put, sA, sB, sC]
         rfl
       refine take_ (i := 1) (N := some 59) (v := ?_) (a' := ?_) #[true,true,false,false,false,false,false,false,false,false,false] rfl rfl (by kernel_rfl) (fun _ _ _ h => h) (Or.inl ⟨by rfl, ?_⟩) hHeld ?_ ?_
       rotate_left
       · rintro w' ⟨⟨hg0, hg1, hg2, hg3, hg4, hg5, hg6⟩, ⟨hv0, hv1, hv2, hv3, hv4, hv5, hv6⟩, ⟨m0, m1, m2⟩⟩
         go_simp
         try with_reducible rfl
       rotate_left
       · simp only [Act.put, sA, sB, sC]
         rfl
       refine pure_ (i := 2) (N := some 60) (v := ?_) (a' := ?_) #[true,true,true,false,false,false,false,false,false,false,false] rfl rfl (by kernel_rfl) (fun _ _ _ h => h) (Or.inl ⟨by rfl, ?_⟩) ?_ ?_
       rotate_left
       · intro w'
         go_simp
         try with_reducible rfl
       rotate_left
       · simp only [Act.put, sA, sB, sC]
         rfl
       refine take_ (i := 3) (N := some 61) (v := ?_) (a' := ?_) #[true,true,true,true,false,false,false,false,false,false,false] rfl rfl (by kernel_rfl) (fun _ _ _ h => h) (Or.inl ⟨by rfl, ?_⟩) hHeld ?_ ?_
       rotate_left
       · rintro w' ⟨⟨hg0, hg1, hg2, hg3, hg4, hg5, hg6⟩, ⟨hv0, hv1, hv2, hv3, hv4, hv5, hv6⟩, ⟨m0, m1, m2⟩⟩
         go_simp
         try with_reducible rfl
       rotate_left
       · simp only [Act.put, sA, sB, sC]
         rfl
       refine pure_ (i := 4) (N := some 62) (v := ?_) (a' := ?_) #[true,true,true,true,true,false,false,false,false,false,false] rfl rfl (by kernel_rfl) (fun _ _ _ h => h) (Or.inl ⟨by rfl, ?_⟩) ?_ ?_
       rotate_left
       · intro w'
         go_simp
         try with_reducible rfl
       rotate_left
       · simp only [Act.put, sA, sB, sC]
         rfl
       refine pure_ (i := 5) (N := some 63) (v := ?_) (a' := ?_) #[true,true,true,true,true,true,false,false,false,false,false] rfl rfl (by kernel_rfl) (fun _ _ _ h => h) (Or.inl ⟨by rfl, ?_⟩) ?_ ?_
       rotate_left
       · intro w'
         go_simp
         try with_reducible rfl
       rotate_left
       · simp only [Act.put, sA, sB, sC]
         rfl
       refine take_ (i := 6) (N := some 64) (v := ?_) (a' := ?_) #[true,true,true,true,true,true,true,false,false,false,false] rfl rfl (by kernel_rfl) (fun _ _ _ h => h) (Or.inl ⟨by rfl, ?_⟩) hHeld ?_ ?_
       rotate_left
       · rintro w' ⟨⟨hg0, hg1, hg2, hg3, hg4, hg5, hg6⟩, ⟨hv0, hv1, hv2, hv3, hv4, hv5, hv6⟩, ⟨m0, m1, m2⟩⟩
         go_simp
         try with_reducible rfl
       rotate_left
       · simp only [Act.put, sA, sB, sC]
         rfl
       refine one_ (i := 7) (N := some 65) #[true,true,true,true,true,true,true,true,false,false,false] rfl rfl (by kernel_rfl) (by decide) (fun K hK => ?_)
       go_simp
       refine hK.out _ _ ?_ (fun hHeld => ?_)
       · exact ⟨(laG HG (.cells #[.int .i64 x.f0, .int .i64 x.f1, .string x.f2] 38)).out.box, (laG HV (.cells #[.int .i64 x.f0, .int .i64 x.f1, .string x.f2] 38)).out.box, HC0.out.below (laB HB (.cells #[.int .i64 x.f0, .int .i64 x.f1, .string x.f2] 38)).out.b⟩
       clear hK K
       try simp only [Act.put, sA, sB, sC]
       replace HG := laG HG (.cells #[.int .i64 x.f0, .int .i64 x.f1, .string x.f2] 38); replace HB := laB HB (.cells #[.int .i64 x.f0, .int .i64 x.f1, .string x.f2] 38); replace HV := laG HV (.cells #[.int .i64 x.f0, .int .i64 x.f1, .string x.f2] 38)
       replace HO : Aside0 (OwnE (wr.drew.alloc (.cells #[.int .i64 x.f0, .int .i64 x.f1, .string x.f2] 38)) (n7 + 1) (.slice B S.length d) S) := ⟨HO.out.alloc _⟩
       have HE1 : Aside0 (Rd (wr.drew.alloc (.cells #[.int .i64 x.f0, .int .i64 x.f1, .string x.f2] 38)) (some ⟨m, 0, none⟩) 1 [x]) := ⟨by have hq := Rd.one wr.drew x; rw [HM.out] at hq; exact hq⟩
       have HSZ : Aside0 (n7 + 1 ≤ (wr.drew.alloc (.cells #[.int .i64 x.f0, .int .i64 x.f1, .string x.f2] 38)).heap.size) := ⟨by rw [World.size_alloc, HM.out]; omega⟩
       try rw [HM.out]
       obtain ⟨w5, hw5⟩ : ∃ W, (wr.alloc (.cells #[.int .i64 x.f0, .int .i64 x.f1, .string x.f2] 38)).drew = W := ⟨_, rfl⟩
       have hda : wr.drew.alloc (.cells #[.int .i64 x.f0, .int .i64 x.f1, .string x.f2] 38) = w5 := by rw [← hw5]; rfl
       rw [hda] at HG HB HV HO HE1 HSZ
       rw [hw5]
       clear hw5 hda
       refine one_ (i := 8) (N := some 66) #[true,true,true,true,true,true,true,true,true,false,false] rfl rfl (by kernel_rfl) (by decide) (fun K hK => ?_)
       rw [if_pos (by rfl)]
       refine wp_append_ent (l := S) (m := [x]) (b := n7 + 1) (.tmp 59) (.tmp 65) rfl rfl HO.out rfl HE1.out (by have := HSL.out; show S.length + 1 ≤ _; omega) HSZ.out ?_
       intro v6 w6 ho6 hg6 ha6; have hon : Only (fun q => n7 + 1 ≤ q) w5 w6 := (Only.refl _ _).of_grown hg6 (fun q hq _ => by change (Value.slice B S.length d).ownBlock = some q at hq; exact (own_block HO.out hq).1); rw [HTE.out] at ho6; have hlen : T.length ≤ 4398046511104 := (by have := HTL.out; omega); obtain ⟨A6, c6, hv6, hrd6, _⟩ := ho6.rd' hlen; subst hv6; have HO6 := Aside0.mk ho6; replace HG := Aside0.mk (HG.out.only hon (fun h => by have h2 : n7 + 1 ≤ s := h; omega)); replace HV := Aside0.mk (HV.out.only hon (fun h => by have h2 : n7 + 1 ≤ n7 := h; omega)); replace HB := Aside0.mk (HB.out.only hon (fun q hq h => by have h2 : n7 + 1 ≤ q := h; have := HW7.out; omega)); clear ho6 hg6 ha6 hon hrd6 hlen HE1 HO
       refine hK.out _ _ ?_ (fun hHeld => ?_)
       · exact ⟨HG.out.box, HV.out.box, HC0.out.below HB.out.b⟩
       clear hK K
       try simp only [Act.put, sA, sB, sC]
       obtain ⟨y0, y1, y2, y3, y4, y5, y6⟩ := HV.out.box
       have yf := HV.out.free
       refine pure_ (i := 9) (N := some 67) (v := ?_) (a' := ?_) #[true,true,true,true,true,true,true,true,true,true,false] rfl rfl (by kernel_rfl) (fun _ _ _ h => h) (Or.inl ⟨by rfl, ?_⟩) ?_ ?_
       rotate_left
       · intro w'
         go_simp
         try with_reducible rfl
       rotate_left
       · simp only [Act.put, sA, sB, sC]
         rfl
       refine last_ (i := 10) (N := none) #[true,true,true,true,true,true,true,true,true,true,true] rfl rfl (by kernel_rfl) (by decide) (fun K hK => ?_)
       go_simp
       refine hK.out _ _ ?_
       clear hK K
       try simp only [Act.put, sA, sB, sC]
       refine done_ (by kernel_rfl) ?_
       clear y0 y1 y2 y3 y4 y5 y6 yf
       have hgl := HV.out.setL T A6 c6
       have hx := (Only.refl (fun q => q = n7) w6).setCell (p := ⟨n7, 6, none⟩) rfl (.slice A6 T.length c6)
       replace HG := Aside0.mk (HG.out.only hx (fun h => by have h2 : s = n7 := h; omega))
       replace HB := Aside0.mk (HB.out.only hx (fun q hq h => by have h2 : q = n7 := h; have := HW7.out; omega))
       replace HV := Aside0.mk hgl
       replace HO6 := Aside0.mk (HO6.out.only hx (fun q hq h => by have h2 : q = n7 := h; omega))
       clear hx hgl
       go_wp2_with fail
       go_roundw
       case rel => exact ⟨k + 1, by omega, by go_num, ⟨HG.out, HB.out, T, A6, c6, HP.out.1, HP.out.2, HV.out, HO6.out⟩⟩
       case measure => simp [intOf]; omega
   · obtain rfl : k = g.l.length := by omega
     have d1 : decide ((g.l.length : Int) < (g.l.length : Int)) = false := decide_eq_false (by omega)
     have HR := Aside0.mk (HR0.out.below HB.out.b)
     have HRS : Aside0 (Rd wr B d S) := ⟨by obtain ⟨A', c', e1, hrd, _⟩ := HO.out.rd' (by have := HS.out.1.len HGL.out.2; omega); injection e1 with e2 e3 e4; subst e2; subst e4; exact hrd⟩
     clear HO
     obtain ⟨J, hJ1, hJ6, hJ⟩ : ∃ J : Nat, 1 ≤ J ∧ J ≤ 6 ∧ ct % 6 + 1 = (J : Int) := ⟨(ct % 6 + 1).toNat, by omega, by omega, by omega⟩
     have HJ := Aside0.mk hJ
     have HJ6 := Aside0.mk (And.intro hJ1 hJ6)
     clear hJ hJ1 hJ6
     have HSL : Aside0 (S.length + 0 ≤ 4398046511104) := ⟨by have := HS.out.1.len HGL.out.2; omega⟩
     have q1 : IntKind.i64.wrap (g.fi - 1) = g.fi - 1 := by have := HFI.out; rw [i64_w]; unfold wrap64; omega
     obtain ⟨U, hU⟩ : ∃ U : Grp, (⟨g.id, g.fi, g.tm, 0, 0, 0, S⟩ : Grp) = U := ⟨_, rfl⟩
     obtain ⟨T, hT⟩ : ∃ T : Grp, (⟨g.id, g.fi, g.tm, g.ht, g.hv, g.hc, S⟩ : Grp) = T := ⟨_, rfl⟩
     have HUE := Aside0.mk hU
     have HTE := Aside0.mk hT
     have hUl : U.l = S := by rw [← hU]
     have hTl : T.l = S := by rw [← hT]
     have KH : Aside0 (doG U ⟨g.id, 6, [], g.ht, g.hv, g.hc, 0, 0, false, true⟩ = T) := ⟨by rw [← hU, ← hT]; exact fw_head J3.out HS.out.1⟩
     have KUL : Aside0 (U.l = S) := ⟨hUl⟩
     have KTL : Aside0 (T.l = S) := ⟨hTl⟩
     have hU2 : ⟨g.id, 1, 0, 0, 0, 0, S⟩ = U := by rw [← hU, HX4.out.1, HX4.out.2]
     rw [← hUl] at HRS
     replace HV : Aside0 (BlkG U B d n7 wr) := ⟨by rw [← hU2]; exact HV.out⟩
     clear hU hT hUl hTl hU2
     obtain ⟨hg0, hg1, hg2, hg3, hg4, hg5, hg6⟩ := HG.out.box
     obtain ⟨hv0, hv1, hv2, hv3, hv4, hv5, hv6⟩ := HV.out.box
     try dsimp only at hg0 hg1 hg2 hg3 hg4 hg5 hg6 hv0 hv1 hv2 hv3 hv4 hv5 hv6
     go_wp2_with fail
     try rw [HJ.out]
     have hC11 := HC11.out
     simp only [Try.f5] at hC11
     subst hC11
     clear HC11
     obtain ⟨C14, hC14⟩ : ∃ C, (match Try.f5.body with | some (.seq _ (.seq _ (.seq _ (.seq _ (.seq _ (.seq _ (.seq _ c))))))) => c | _ => .skip) = C := ⟨_, rfl⟩
     have HC14 := Aside0.mk hC14
     simp only [Try.f5] at hC14
     rw [hC14]
     clear hC14
     go_wp2_with fail
     try rw [HJ.out]
     clear hg0 hg1 hg2 hg3 hg4 hg5 hg6 hv0 hv1 hv2 hv3 hv4 hv5 hv6
     obtain ⟨hg0, hg1, hg2, hg3, hg4, hg5, hg6⟩ := HG.out.box
     obtain ⟨hv0, hv1, hv2, hv3, hv4, hv5, hv6⟩ := HV.out.box
     try dsimp only at hg0 hg1 hg2 hg3 hg4 hg5 hg6 hv0 hv1 hv2 hv3 hv4 hv5 hv6
     have hC14 := HC14.out
     simp only [Try.f5] at hC14
     subst hC14
     clear HC14
     obtain ⟨C22, hC22⟩ : ∃ C, (match Try.f5.body with | some (.seq _ (.seq _ (.seq _ (.seq _ (.seq _ (.seq _ (.seq _ (.seq _ (.seq _ c))))))))) => c | _ => .skip) = C := ⟨_, rfl⟩
     have HC22 := Aside0.mk hC22
     simp only [Try.f5] at hC22
     rw [hC22]
     clear hC22
     go_wp2_with fail
     go_at_call 12
     refine (sdo_c U B d ⟨g.id, 6, [], g.ht, g.hv, g.hc, 0, 0, false, true⟩ none 0 _ HRS.out (Rd.nil _) (by rw [KUL.out]; exact HSL.out) KH.out).mono ?_
     rintro e w41 ⟨A4, c4, rfl, hrd, hw41⟩
     replace HG := lbG HG hw41
     replace HB := lbB HB hw41
     replace HV := lbG HV hw41
     replace HRS := lbR HRS hw41
     have HRT := Aside0.mk (hrd)
     clear hrd
     clear hw41
     clear hg0 hg1 hg2 hg3 hg4 hg5 hg6 hv0 hv1 hv2 hv3 hv4 hv5 hv6
     obtain ⟨hg0, hg1, hg2, hg3, hg4, hg5, hg6⟩ := HG.out.box
     obtain ⟨hv0, hv1, hv2, hv3, hv4, hv5, hv6⟩ := HV.out.box
     try dsimp only at hg0 hg1 hg2 hg3 hg4 hg5 hg6 hv0 hv1 hv2 hv3 hv4 hv5 hv6
     have yf := HV.out.free
     go_wp2_with fail
     clear yf
     clear HRS
     clear hg0 hg1 hg2 hg3 hg4 hg5 hg6 hv0 hv1 hv2 hv3 hv4 hv5 hv6
     have hx := only_store T A4 c4 n7 w41
     replace HG := Aside0.mk (BlkG.only HG.out hx (fun h => by have h2 : s = n7 := h; omega))
     replace HB := Aside0.mk (Bel.only HB.out hx (fun q hq h => by have h2 : q = n7 := h; have := HW7.out; omega))
     replace HRT := Aside0.mk (Rd.only HRT.out hx (fun q hq h => by have h3 : q = n7 := h; subst h3; exact Rd.apartG HRT.out HV.out hq))
     replace HV := Aside0.mk (BlkG.store (g := T) (A := A4) (c := c4) HV.out)
     clear hx
     obtain ⟨W6, hW6⟩ : ∃ W, (((((((w41.setCell ⟨n7, 0, none⟩ (.int .i64 T.id)).setCell ⟨n7, 1, none⟩ (.int .i64 T.fi)).setCell ⟨n7, 2, none⟩ (.int .i64 T.tm)).setCell ⟨n7, 3, none⟩ (.int .i64 T.ht)).setCell ⟨n7, 4, none⟩ (.int .i64 T.hv)).setCell ⟨n7, 5, none⟩ (.int .i64 T.hc)).setCell ⟨n7, 6, none⟩ (.slice A4 T.l.length c4)) = W := ⟨_, rfl⟩
     rw [hW6] at HG HB HV HRT ⊢
     clear hW6
     have HJ1 : Aside0 (FwJ g A c s n7 0 w W6) := ⟨⟨HG.out, HB.out, S, A4, c4, HS.out.1, fun j h => absurd h (Nat.not_lt_zero _), by have h1 := HV.out; rw [← HTE.out] at h1; exact h1, by have h1 := HRT.out; rw [KTL.out] at h1; exact h1⟩⟩
     clear HG HB HV HRT HS KH
     go_wp2_with fail
     go_loopw [10] (fun v wr => ∃ i : Nat, i ≤ g.l.length + 5 ∧ v = .int .i64 (i : Int) ∧ Aside0 (FwJ g A c s n7 i w wr)) (fun v _ => g.l.length + 6 - (intOf v).toNat)
     case atStart => exact ⟨0, Nat.zero_le _, rfl, HJ1⟩
     case round =>
       clear HJ1
       obtain ⟨i, hi, rfl, HI⟩ := hrel
       obtain ⟨hg, hb, S, B, d, hS, hSk, hv, hrs⟩ := HI.out
       have HG := Aside0.mk hg
       have HB := Aside0.mk hb
       have HS := Aside0.mk (And.intro hS hSk)
       have hj6 := HJ6.out
       clear HI hg hb hS hSk
       obtain ⟨U, hU⟩ : ∃ U : Grp, (⟨g.id, g.fi, g.tm, g.ht, g.hv, g.hc, S⟩ : Grp) = U := ⟨_, rfl⟩
       rw [hU] at hv
       have hUl : U.l = S := by rw [← hU]
       have HUE := Aside0.mk hU
       have HV := Aside0.mk hv
       rw [← hUl] at hrs
       have HRS := Aside0.mk hrs
       clear hrs
       have KUL : Aside0 (U.l = S) := ⟨hUl⟩
       clear hv hU hUl
       by_cases hlt : i < g.l.length
       · have d1 : decide ((i : Int) < (g.l.length : Int)) = true := decide_eq_true (by omega)
         have hlt2 : (i : Int) < (g.l.length : Int) := by omega
         have hl30 := HL30.out
         have hcc := HR0.out.le
         have q2 : IntKind.i64.wrap ((i : Int) + (J : Int)) = (i : Int) + (J : Int) := by rw [i64_w]; unfold wrap64; omega
         obtain ⟨M, hM⟩ : ∃ M, min (i + J) g.l.length = M := ⟨_, rfl⟩
         have q3 : (if (g.l.length : Int) < (i : Int) + (J : Int) then (g.l.length : Int) else (i : Int) + (J : Int)) = (M : Int) := by split <;> omega
         have k4 : i ≤ M := by omega
         have k5 : (0 : Int) ≤ (M : Int) := by omega
         have hM1 : i ≤ M ∧ M ≤ g.l.length ∧ M ≤ i + J ∧ (M < i + J → M = g.l.length) := by omega
         have HM := Aside0.mk hM1
         have k1 : (0 : Int) ≤ (i : Int) := by omega
         have k2 : (i : Int) ≤ (M : Int) := by omega
         have k3 : (M : Int) ≤ (c : Int) := by omega
         obtain ⟨C, hC⟩ : ∃ C, (g.l.drop i).take (M - i) = C := ⟨_, rfl⟩
         have hCl : C.length = M - i := by rw [← hC, List.length_take, List.length_drop]; omega
         have HCL := Aside0.mk hCl
         have hRC := HR0.out.sub i M hM1.1 hM1.2.1
         rw [hC] at hRC
         have HRC := Aside0.mk hRC
         have HCE := Aside0.mk hC
         clear hM hM1 hC hRC
         obtain ⟨hg0, hg1, hg2, hg3, hg4, hg5, hg6⟩ := HG.out.box
         obtain ⟨hv0, hv1, hv2, hv3, hv4, hv5, hv6⟩ := HV.out.box
         try dsimp only at hg0 hg1 hg2 hg3 hg4 hg5 hg6 hv0 hv1 hv2 hv3 hv4 hv5 hv6
         go_wp2_with fail
         clear hg0 hg1 hg2 hg3 hg4 hg5 hg6 hv0 hv1 hv2 hv3 hv4 hv5 hv6
         obtain ⟨n11, hn11⟩ : ∃ n, wr.drew.heap.size = n := ⟨_, rfl⟩
         have HN11 := Aside0.mk hn11
         have l7x : n7 < n11 := by rw [← hn11]; exact HV.out.lt
         have lsx : s < n11 := by rw [← hn11]; exact HG.out.lt
         replace HG := ldG HG
         replace HB := ldB HB
         replace HV := ldG HV
         replace HRS := ldR HRS
         refine start_ (n := 16) (S := (fun w' => BoxG g A c s w')) (ds := [15]) #[false,false,false,false,false,false,false,false,false,false,false,false,false,false,false,false] (by kernel_rfl) rfl rfl HG.out.box (fun hHeld => ?_)
         refine pure_ (i := 0) (N := some 100) (v := ?_) (a' := ?_) #[true,false,false,false,false,false,false,false,false,false,false,false,false,false,false,false] rfl rfl (by kernel_rfl) (fun _ _ _ h => h) (Or.inl ⟨by rfl, ?_⟩) ?_ ?_
         rotate_left
         · intro w'
           go_simp
           try with_reducible rfl
         rotate_left
         · simp only [Act.put, sA, sB, sC]
           rfl
         refine take_ (i := 1) (N := some 101) (v := ?_) (a' := ?_) #[true,true,false,false,false,false,false,false,false,false,false,false,false,false,false,false] rfl rfl (by kernel_rfl) (fun _ _ _ h => h) (Or.inl ⟨by rfl, ?_⟩) hHeld ?_ ?_
         rotate_left
         · rintro w' ⟨hg0, hg1, hg2, hg3, hg4, hg5, hg6⟩
           go_simp
           try with_reducible rfl
         rotate_left
         · simp only [Act.put, sA, sB, sC]
           rfl
         refine pure_ (i := 2) (N := some 102) (v := ?_) (a' := ?_) #[true,true,true,false,false,false,false,false,false,false,false,false,false,false,false,false] rfl rfl (by kernel_rfl) (fun _ _ _ h => h) (Or.inl ⟨by rfl, ?_⟩) ?_ ?_
         rotate_left
         · intro w'
           go_simp
           try with_reducible rfl
         rotate_left
         · simp only [Act.put, sA, sB, sC]
           rfl
         refine take_ (i := 3) (N := some 103) (v := ?_) (a' := ?_) #[true,true,true,true,false,false,false,false,false,false,false,false,false,false,false,false] rfl rfl (by kernel_rfl) (fun _ _ _ h => h) (Or.inl ⟨by rfl, ?_⟩) hHeld ?_ ?_
         rotate_left
         · rintro w' ⟨hg0, hg1, hg2, hg3, hg4, hg5, hg6⟩
           go_simp
           try with_reducible rfl
         rotate_left
         · simp only [Act.put, sA, sB, sC]
           rfl
         refine pure_ (i := 4) (N := some 104) (v := ?_) (a' := ?_) #[true,true,true,true,true,false,false,false,false,false,false,false,false,false,false,false] rfl rfl (by kernel_rfl) (fun _ _ _ h => h) (Or.inl ⟨by rfl, ?_⟩) ?_ ?_
         rotate_left
         · intro w'
           go_simp
           try with_reducible rfl
         rotate_left
         · simp only [Act.put, sA, sB, sC]
           rfl
         refine pure_ (i := 5) (N := some 105) (v := ?_) (a' := ?_) #[true,true,true,true,true,true,false,false,false,false,false,false,false,false,false,false] rfl rfl (by kernel_rfl) (fun _ _ _ h => h) (Or.inl ⟨by rfl, ?_⟩) ?_ ?_
         rotate_left
         · intro w'
           go_simp
           try with_reducible rfl
         rotate_left
         · simp only [Act.put, sA, sB, sC]
           rfl
         refine pure_ (i := 6) (N := some 106) (v := ?_) (a' := ?_) #[true,true,true,true,true,true,true,false,false,false,false,false,false,false,false,false] rfl rfl (by kernel_rfl) (fun _ _ _ h => h) (Or.inl ⟨by rfl, ?_⟩) ?_ ?_
         rotate_left
         · intro w'
           go_simp
           try with_reducible rfl
         rotate_left
         · simp only [Act.put, sA, sB, sC]
           rfl
         refine pure_ (i := 7) (N := some 107) (v := ?_) (a' := ?_) #[true,true,true,true,true,true,true,true,false,false,false,false,false,false,false,false] rfl rfl (by kernel_rfl) (fun _ _ _ h => h) (Or.inl ⟨by rfl, ?_⟩) ?_ ?_
         rotate_left
         · intro w'
           go_simp
           try with_reducible rfl
         rotate_left
         · simp only [Act.put, sA, sB, sC]
           rfl
         refine pure_ (i := 8) (N := some 108) (v := ?_) (a' := ?_) #[true,true,true,true,true,true,true,true,true,false,false,false,false,false,false,false] rfl rfl (by kernel_rfl) (fun _ _ _ h => h) (Or.inl ⟨by rfl, ?_⟩) ?_ ?_
         rotate_left
         · intro w'
           go_simp
           try with_reducible rfl
         rotate_left
         · simp only [Act.put, sA, sB, sC]
           rfl
         refine take_ (i := 9) (N := some 109) (v := ?_) (a' := ?_) #[true,true,true,true,true,true,true,true,true,true,false,false,false,false,false,false] rfl rfl (by kernel_rfl) (fun _ _ _ h => h) (Or.inl ⟨by rfl, ?_⟩) hHeld ?_ ?_
         rotate_left
         · rintro w' ⟨hg0, hg1, hg2, hg3, hg4, hg5, hg6⟩
           go_simp
           try with_reducible rfl
         rotate_left
         · simp only [Act.put, sA, sB, sC]
           rfl
         refine pure_ (i := 10) (N := some 110) (v := ?_) (a' := ?_) #[true,true,true,true,true,true,true,true,true,true,true,false,false,false,false,false] rfl rfl (by kernel_rfl) (fun _ _ _ h => h) (Or.inl ⟨by rfl, ?_⟩) ?_ ?_
         rotate_left
         · intro w'
           go_simp
           try with_reducible rfl
         rotate_left
         · simp only [Act.put, sA, sB, sC]
           rfl
         refine pure_ (i := 11) (N := some 111) (v := ?_) (a' := ?_) #[true,true,true,true,true,true,true,true,true,true,true,true,false,false,false,false] rfl rfl (by kernel_rfl) (fun _ _ _ h => h) (Or.inl ⟨by rfl, ?_⟩) ?_ ?_
         rotate_left
         · intro w'
           go_simp
           try with_reducible rfl
         rotate_left
         · simp only [Act.put, sA, sB, sC]
           rfl
         refine pure_ (i := 12) (N := some 112) (v := ?_) (a' := ?_) #[true,true,true,true,true,true,true,true,true,true,true,true,true,false,false,false] rfl rfl (by kernel_rfl) (fun _ _ _ h => h) (Or.inl ⟨by rfl, ?_⟩) ?_ ?_
         rotate_left
         · intro w'
           go_simp
           try with_reducible rfl
         rotate_left
         · simp only [Act.put, sA, sB, sC]
           rfl
         refine pure_ (i := 13) (N := some 113) (v := ?_) (a' := ?_) #[true,true,true,true,true,true,true,true,true,true,true,true,true,true,false,false] rfl rfl (by kernel_rfl) (fun _ _ _ h => h) (Or.inl ⟨by rfl, ?_⟩) ?_ ?_
         rotate_left
         · intro w'
           go_simp
           try with_reducible rfl
         rotate_left
         · simp only [Act.put, sA, sB, sC]
           rfl
         refine one_ (i := 14) (N := some 11) #[true,true,true,true,true,true,true,true,true,true,true,true,true,true,true,false] rfl rfl (by kernel_rfl) (by decide) (fun K hK => ?_)
         go_simp
         refine hK.out _ _ ?_ (fun hHeld => ?_)
         · exact (laG HG (.cells #[.int .i64 0, .int .i64 0, .slice none 0 0, .int .i64 0, .int .i64 0, .int .i64 0, .int .i64 0, .int .i64 0, .bool false, .bool false] 28)).out.box
         clear hK K
         try simp only [Act.put, sA, sB, sC]
         replace HG := laG HG (.cells #[.int .i64 0, .int .i64 0, .slice none 0 0, .int .i64 0, .int .i64 0, .int .i64 0, .int .i64 0, .int .i64 0, .bool false, .bool false] 28); replace HB := laB HB (.cells #[.int .i64 0, .int .i64 0, .slice none 0 0, .int .i64 0, .int .i64 0, .int .i64 0, .int .i64 0, .int .i64 0, .bool false, .bool false] 28); replace HV := laG HV (.cells #[.int .i64 0, .int .i64 0, .slice none 0 0, .int .i64 0, .int .i64 0, .int .i64 0, .int .i64 0, .int .i64 0, .bool false, .bool false] 28); replace HRS := laR HRS (.cells #[.int .i64 0, .int .i64 0, .slice none 0 0, .int .i64 0, .int .i64 0, .int .i64 0, .int .i64 0, .int .i64 0, .bool false, .bool false] 28)
         have HX : Aside0 (BlkP ⟨0, 0, [], 0, 0, 0, 0, 0, false, false⟩ none 0 n11 (wr.drew.alloc (.cells #[.int .i64 0, .int .i64 0, .slice none 0 0, .int .i64 0, .int .i64 0, .int .i64 0, .int .i64 0, .int .i64 0, .bool false, .bool false] 28))) := ⟨by have hq := BlkP.new ⟨0, 0, [], 0, 0, 0, 0, 0, false, false⟩ none 0 wr.drew; rw [HN11.out] at hq; exact hq⟩
         obtain ⟨w5, hw5⟩ : ∃ W, (wr.alloc (.cells #[.int .i64 0, .int .i64 0, .slice none 0 0, .int .i64 0, .int .i64 0, .int .i64 0, .int .i64 0, .int .i64 0, .bool false, .bool false] 28)).drew = W := ⟨_, rfl⟩
         have hda : wr.drew.alloc (.cells #[.int .i64 0, .int .i64 0, .slice none 0 0, .int .i64 0, .int .i64 0, .int .i64 0, .int .i64 0, .int .i64 0, .bool false, .bool false] 28) = w5 := by rw [← hw5]; rfl
         rw [hda] at HG HB HV HRS HX
         rw [hw5]
         clear hw5 hda
         obtain ⟨z0, z1, z2, z3, z4, z5, z6, z7, z8, z9⟩ := HX.out.box
         have zf := BlkP.free' HX.out
         refine last_ (i := 15) (N := none) #[true,true,true,true,true,true,true,true,true,true,true,true,true,true,true,true] rfl rfl (by kernel_rfl) (by decide) (fun K hK => ?_)
         go_simp
         refine hK.out _ _ ?_
         clear hK K
         try simp only [Act.put, sA, sB, sC]
         refine done_ (by kernel_rfl) ?_
         obtain ⟨Ap, hAp⟩ : ∃ Ap, (if c = i then A else Option.map (fun x => x.add (i * 3)) A) = Ap := ⟨_, rfl⟩
         obtain ⟨cp, hcp⟩ : ∃ cp, c - i = cp := ⟨_, rfl⟩
         rw [hAp, hcp]
         have HRC2 : Aside0 (Rd w Ap cp C) := ⟨by rw [← hAp, ← hcp]; exact HRC.out⟩
         clear hAp hcp HRC z0 z1 z2 z3 z4 z5 z6 z7 z8 z9 zf
         have hx : Only (fun q => q = n11) w5 ((((((((((w5.setCell ⟨n11, 0, none⟩ (.int .i64 g.id)).setCell ⟨n11, 1, none⟩ (.int .i64 6)).setCell ⟨n11, 2, none⟩ (.slice Ap (M - i) cp)).setCell ⟨n11, 3, none⟩ (.int .i64 0)).setCell ⟨n11, 4, none⟩ (.int .i64 0)).setCell ⟨n11, 5, none⟩ (.int .i64 0)).setCell ⟨n11, 6, none⟩ (.int .i64 0)).setCell ⟨n11, 7, none⟩ (.int .i64 0)).setCell ⟨n11, 8, none⟩ (.bool false)).setCell ⟨n11, 9, none⟩ (.bool false)) := by (iterate 10 (refine Only.setCell (U := fun q => q = n11) ?_ rfl _)); exact Only.refl _ _
         have hb : BlkP ⟨g.id, 6, C, 0, 0, 0, 0, 0, false, false⟩ Ap cp n11 ((((((((((w5.setCell ⟨n11, 0, none⟩ (.int .i64 g.id)).setCell ⟨n11, 1, none⟩ (.int .i64 6)).setCell ⟨n11, 2, none⟩ (.slice Ap (M - i) cp)).setCell ⟨n11, 3, none⟩ (.int .i64 0)).setCell ⟨n11, 4, none⟩ (.int .i64 0)).setCell ⟨n11, 5, none⟩ (.int .i64 0)).setCell ⟨n11, 6, none⟩ (.int .i64 0)).setCell ⟨n11, 7, none⟩ (.int .i64 0)).setCell ⟨n11, 8, none⟩ (.bool false)).setCell ⟨n11, 9, none⟩ (.bool false)) := by have hq := HX.out; unfold BlkP at hq ⊢; simp [World.setCell, Array.getElem?_modify, hq, HCL.out]
         replace HG := Aside0.mk (HG.out.only hx (fun h => by have h2 : s = n11 := h; omega))
         replace HV := Aside0.mk (HV.out.only hx (fun h => by have h2 : n7 = n11 := h; omega))
         replace HB := Aside0.mk (HB.out.only hx (fun q hq h => by have h2 : q = n11 := h; have := HW7.out; omega))
         replace HRS := Aside0.mk (Rd.only HRS.out hx (fun q hq h => by have h3 : q = n11 := h; subst h3; exact Rd.apartP HRS.out HX.out hq))
         clear HX hx
         obtain ⟨P, hP⟩ : ∃ P : Prt, (⟨g.id, 6, C, 0, 0, 0, 0, 0, false, false⟩ : Prt) = P := ⟨_, rfl⟩
         rw [hP] at hb
         have HP := Aside0.mk hb
         have HPE := Aside0.mk hP
         have KPL : Aside0 (P.l = C) := ⟨by rw [← hP]⟩
         clear hb hP
         obtain ⟨W6, hW6⟩ : ∃ W, ((((((((((w5.setCell ⟨n11, 0, none⟩ (.int .i64 g.id)).setCell ⟨n11, 1, none⟩ (.int .i64 6)).setCell ⟨n11, 2, none⟩ (.slice Ap (M - i) cp)).setCell ⟨n11, 3, none⟩ (.int .i64 0)).setCell ⟨n11, 4, none⟩ (.int .i64 0)).setCell ⟨n11, 5, none⟩ (.int .i64 0)).setCell ⟨n11, 6, none⟩ (.int .i64 0)).setCell ⟨n11, 7, none⟩ (.int .i64 0)).setCell ⟨n11, 8, none⟩ (.bool false)).setCell ⟨n11, 9, none⟩ (.bool false)) = W := ⟨_, rfl⟩
         rw [hW6] at HG HV HB HRS HP ⊢
         clear hW6
         obtain ⟨b, hb⟩ : ∃ b, isP P = b := ⟨_, rfl⟩
         have KB := Aside0.mk hb
         have HRP : Aside0 (Rd w Ap cp P.l) := ⟨by rw [KPL.out]; exact HRC2.out⟩
         obtain ⟨hg0, hg1, hg2, hg3, hg4, hg5, hg6⟩ := HG.out.box
         obtain ⟨hv0, hv1, hv2, hv3, hv4, hv5, hv6⟩ := HV.out.box
         obtain ⟨hp0, hp1, hp2, hp3, hp4, hp5, hp6, hp7, hp8, hp9⟩ := HP.out.box
         try dsimp only at hg0 hg1 hg2 hg3 hg4 hg5 hg6 hv0 hv1 hv2 hv3 hv4 hv5 hv6 hp0 hp1 hp2 hp3 hp4 hp5 hp6 hp7 hp8 hp9
         go_wp2_with fail
         go_at_call 22
         refine (refis_c P Ap cp _ (HRP.out.below HB.out.b) KB.out).mono ?_
         rintro e w71 ⟨rfl, hw71⟩
         replace HG := lbG HG hw71
         replace HB := lbB HB hw71
         replace HV := lbG HV hw71
         replace HRS := lbR HRS hw71
         replace HP := lbP HP hw71
         clear hw71
         clear hg0 hg1 hg2 hg3 hg4 hg5 hg6 hv0 hv1 hv2 hv3 hv4 hv5 hv6 hp0 hp1 hp2 hp3 hp4 hp5 hp6 hp7 hp8 hp9
         obtain ⟨hg0, hg1, hg2, hg3, hg4, hg5, hg6⟩ := HG.out.box
         obtain ⟨hv0, hv1, hv2, hv3, hv4, hv5, hv6⟩ := HV.out.box
         obtain ⟨hp0, hp1, hp2, hp3, hp4, hp5, hp6, hp7, hp8, hp9⟩ := HP.out.box
         try dsimp only at hg0 hg1 hg2 hg3 hg4 hg5 hg6 hv0 hv1 hv2 hv3 hv4 hv5 hv6 hp0 hp1 hp2 hp3 hp4 hp5 hp6 hp7 hp8 hp9
         rcases b with _ | _
         · go_wp2_with fail
           go_ret
           exact ⟨rfl, HB.out.b⟩
         obtain ⟨Y, hY⟩ : ∃ Y : Grp, (⟨g.id, g.fi, g.tm, g.ht, g.hv, g.hc, fillL g.fi S C⟩ : Grp) = Y := ⟨_, rfl⟩
         have KD : Aside0 (doG U P = Y) := ⟨by rw [← HUE.out, ← HPE.out, ← hY]; exact fw_chunk J3.out HS.out.1 (by rw [HPE.out]; exact KB.out)⟩
         have HYE := Aside0.mk hY
         have KYL : Aside0 (Y.l = fillL g.fi S C) := ⟨by rw [← hY]⟩
         have KFM : Aside0 (FwS g.l (fillL g.fi S C) ∧ ∀ x, x ∈ fillL g.fi S C ↔ x ∈ S ∨ x ∈ C) := ⟨fill_mem HGL.out C S HS.out.1 (fun x hx => by rw [← HCE.out] at hx; exact List.mem_of_mem_drop (List.mem_of_mem_take hx))⟩
         clear hY
         have KLE : Aside0 (U.l.length + P.l.length ≤ 4398046511104) := ⟨by rw [KUL.out, KPL.out, HCL.out]; have := HS.out.1.len HGL.out.2; have := HM.out; have := HL30.out; omega⟩
         go_wp2_with fail
         go_at_call 12
         refine (sdo_c U B d P Ap cp _ HRS.out (HRP.out.below HB.out.b) KLE.out KD.out).mono ?_
         rintro e w72 ⟨A5, c5, rfl, hrd, hw72⟩
         replace HG := lbG HG hw72
         replace HB := lbB HB hw72
         replace HV := lbG HV hw72
         replace HRS := lbR HRS hw72
         replace HP := lbP HP hw72
         have HRY := Aside0.mk (hrd)
         clear hrd
         clear hw72
         clear hg0 hg1 hg2 hg3 hg4 hg5 hg6 hv0 hv1 hv2 hv3 hv4 hv5 hv6 hp0 hp1 hp2 hp3 hp4 hp5 hp6 hp7 hp8 hp9
         obtain ⟨hg0, hg1, hg2, hg3, hg4, hg5, hg6⟩ := HG.out.box
         obtain ⟨hv0, hv1, hv2, hv3, hv4, hv5, hv6⟩ := HV.out.box
         obtain ⟨hp0, hp1, hp2, hp3, hp4, hp5, hp6, hp7, hp8, hp9⟩ := HP.out.box
         try dsimp only at hg0 hg1 hg2 hg3 hg4 hg5 hg6 hv0 hv1 hv2 hv3 hv4 hv5 hv6 hp0 hp1 hp2 hp3 hp4 hp5 hp6 hp7 hp8 hp9
         have yf := HV.out.free
         go_wp2_with fail
         have hx := only_store Y A5 c5 n7 w72
         go_roundw
         case rel => exact ⟨i + J, by omega, by go_num, ⟨HG.out.only hx (fun h => by have h2 : s = n7 := h; omega), HB.out.only hx (fun q hq h => by have h2 : q = n7 := h; have := HW7.out; omega), fillL g.fi S C, A5, c5, KFM.out.1, fun j h1 h2 => (KFM.out.2 _).2 (by rcases Nat.lt_or_ge j i with h3 | h3; exact .inl (HS.out.2 j h3 h2); exact .inr (by rw [← HCE.out]; have h4 := HM.out; refine List.mem_iff_getElem.2 ⟨j - i, by rw [List.length_take, List.length_drop]; omega, ?_⟩; rw [List.getElem_take, List.getElem_drop, el_get h2]; congr 1; omega)), by rw [HYE.out]; exact BlkG.store (g := Y) (A := A5) (c := c5) HV.out, by rw [← KYL.out]; exact Rd.only HRY.out hx (fun q hq h => by have h3 : q = n7 := h; subst h3; exact Rd.apartG HRY.out HV.out hq)⟩⟩
         case measure => simp [intOf]; omega
       · have d1 : decide ((i : Int) < (g.l.length : Int)) = false := decide_eq_false (by omega)
         have KS : Aside0 (sameG U g = true) := ⟨sameG_iff.2 (by rw [← HUE.out, HS.out.1.all HGL.out.2 (fun x hx => by obtain ⟨j, hj, h1⟩ := List.mem_iff_getElem.1 hx; have := HS.out.2 j (by omega) hj; rw [el_get hj, h1] at this; exact this)])⟩
         obtain ⟨hg0, hg1, hg2, hg3, hg4, hg5, hg6⟩ := HG.out.box
         obtain ⟨hv0, hv1, hv2, hv3, hv4, hv5, hv6⟩ := HV.out.box
         try dsimp only at hg0 hg1 hg2 hg3 hg4 hg5 hg6 hv0 hv1 hv2 hv3 hv4 hv5 hv6
         go_wp2_with fail
         have hC22 := HC22.out
         simp only [Try.f5] at hC22
         subst hC22
         clear HC22
         go_wp2_with fail
         go_at_call 17
         refine (ssame_c U g B d A c _ HRS.out (HR0.out.below HB.out.b) KS.out).mono ?_
         rintro e w61 ⟨rfl, hw61⟩
         replace HG := lbG HG hw61
         replace HB := lbB HB hw61
         replace HV := lbG HV hw61
         replace HRS := lbR HRS hw61
         clear hw61
         clear hg0 hg1 hg2 hg3 hg4 hg5 hg6 hv0 hv1 hv2 hv3 hv4 hv5 hv6
         obtain ⟨hg0, hg1, hg2, hg3, hg4, hg5, hg6⟩ := HG.out.box
         obtain ⟨hv0, hv1, hv2, hv3, hv4, hv5, hv6⟩ := HV.out.box
         try dsimp only at hg0 hg1 hg2 hg3 hg4 hg5 hg6 hv0 hv1 hv2 hv3 hv4 hv5 hv6
         go_wp2_with fail
         go_ret
         exact ⟨rfl, HB.out.b⟩
end Go.Proofs.Ytfnflbclhaeedaa.PartW
namespace Go.Proofs.Ytfnflbclhaeedaa.Pure
open Go Go.RowKit Go.Proofs.Ytfnflbclhaeedaa.Sp Go.Proofs.Ytfnflbclhaeedaa.PartW
theorem SparseForward.walk (g : Grp) (A : Option Addr) (c : Nat) (kp ct : Int) (w : World) (hg : Rd w A c g.l) (w1 : (Lit.int .u32 kp).wf = true) (w2 : (Lit.int .u8 ct).wf = true) :
    Calls Try.prog 5 #[vG g A c, .int .u32 kp, .int .u8 ct] w fun e w' => e = .returned (.bool true) ∧ Below w.heap.size w w' := by
  have h1 : 0 ≤ kp ∧ kp < 4294967296 := by simp [Lit.wf, IntKind.min, IntKind.max, IntKind.bits, IntKind.signed] at w1; omega
  have h2 : 0 ≤ ct ∧ ct < 256 := by simp [Lit.wf, IntKind.min, IntKind.max, IntKind.bits, IntKind.signed] at w2; omega
  obtain ⟨r1, hq1, hf1⟩ := few_group g hg.bd
  cases x1 : r1 with
  | false => exact forward12_n1 g A c kp ct w hg h1 h2 hf1 hq1 x1
  | true =>
    cases x3 : isG true g with
    | false => exact forward12_n2 g A c kp ct w hg h1 h2 hf1 hq1 x1 x3
    | true =>
      have hfi := isG_fi x3
      by_cases x4 : 1 < g.fi
      · by_cases x5 : g.tm = 0
        · exact forward12_n3 g A c kp ct w hg h1 h2 hf1 hq1 x1 x3 x4 x5
        · exact forward12_big g A c kp ct w hg h1 h2 hf1 hq1 x1 x3 x4 x5
      · by_cases x5 : g.tm = 0
        · exact forward12_one g A c kp ct w hg h1 h2 hf1 hq1 x1 x3 (by omega) x5
        · exact forward12_n4 g A c kp ct w hg h1 h2 hf1 hq1 x1 x3 (by omega) x5
end Go.Proofs.Ytfnflbclhaeedaa.Pure
