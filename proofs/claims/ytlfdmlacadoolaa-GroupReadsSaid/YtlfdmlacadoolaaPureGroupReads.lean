/- The statement GroupReads; no condition beyond the row's. -/
import Derived.Test.YtlfdmlacadoolaaSameQ
import Derived.Test.YtlfdmlacadoolaaFew6
import Derived.Test.YtlfdmlacadoolaaCalls6
set_option linter.unusedVariables false
set_option linter.unusedSimpArgs false
namespace Go.Proofs.Ytlfdmlacadoolaa.PartW
open Go Go.RowKit Go.Shelf Go.Proofs.Ytlfdmlacadoolaa.A Go.Proofs.Ytlfdmlacadoolaa.Sp Go.Proofs.Ytlfdmlacadoolaa.Reg Go.Proofs.Ytlfdmlacadoolaa.Seq Go.Proofs.YtlfdmlacadoolaaW.PrintWords Go.Proofs.YtlfdmlacadoolaaW.PrintLast Go.Proofs.YtlfdmlacadoolaaW.PrintMore
set_option maxHeartbeats 8000000 in
set_option maxRecDepth 100000 in
theorem reads6_n1 (g : Grp) (A : Option Addr) (c : Nat) (lo hi i : Int) (w : World) (hg : Rd w A c g.l) (hh : hi ≤ 9223372036854775807) {r1 : Bool} (hf1 : (∀ (A : Option Addr) (c : Nat) (w : World), Rd w A c g.l → Calls Try.prog 13 #[vG g A c] w fun e w' => e = .returned (.bool r1) ∧ Below w.heap.size w w')) (x1 : r1 = false) :
  Calls Try.prog 4 #[vG g A c, .int .i64 lo, .int .i64 hi, .int .i64 i] w fun e w' => e = .returned (.bool true) ∧ Below w.heap.size w w' := by
 subst x1
 have HF1 := Aside0.mk hf1
 have HHI := Aside0.mk hh
 obtain ⟨s, hs⟩ : ∃ s, w.heap.size = s := ⟨_, rfl⟩
 have HSs := Aside0.mk hs
 unfold vG
 go_enter Try.func4, Try.ntmps4
 have HB := Aside0.mk (Bel.refl w)
 have HR1 := Aside0.mk (hg)
 clear hf1 hg hh
 obtain ⟨C1, hC1⟩ : ∃ C, (match Try.f4.body with | some (.seq _ c) => c | _ => .skip) = C := ⟨_, rfl⟩
 have HC1 := Aside0.mk hC1
 simp only [Try.f4] at hC1
 rw [hC1]
 clear hC1
 go_wp2
 replace HB := laB HB (.cells #[.int .i64 g.id, .int .i64 g.fi, .int .i64 g.tm, .int .i64 g.ht, .int .i64 g.hv, .int .i64 g.hc, .slice A g.l.length c] 26)
 replace HR1 := laR HR1 (.cells #[.int .i64 g.id, .int .i64 g.fi, .int .i64 g.tm, .int .i64 g.ht, .int .i64 g.hv, .int .i64 g.hc, .slice A g.l.length c] 26)
 have HG := Aside0.mk ((by have hq := BlkG.new g A c w; rw [hs] at hq; exact hq))
 obtain ⟨W0, hW0⟩ : ∃ W, w.alloc (.cells #[.int .i64 g.id, .int .i64 g.fi, .int .i64 g.tm, .int .i64 g.ht, .int .i64 g.hv, .int .i64 g.hc, .slice A g.l.length c] 26) = W := ⟨_, rfl⟩
 rw [hW0] at HB HR1 HG ⊢
 clear hW0
 clear hs
 obtain ⟨hg0, hg1, hg2, hg3, hg4, hg5, hg6⟩ := HG.out.box
 have hC1 := HC1.out
 simp only [Try.f4] at hC1
 subst hC1
 clear HC1
 go_wp2_with fail
 go_at_call 12
 refine (known6 _).mono ?_
 rintro e w1 ⟨rfl, hw1⟩
 replace HB := lbB HB hw1
 replace HR1 := lbR HR1 hw1
 replace HG := lbG HG hw1
 clear hw1
 clear hg0 hg1 hg2 hg3 hg4 hg5 hg6
 obtain ⟨hg0, hg1, hg2, hg3, hg4, hg5, hg6⟩ := HG.out.box
 go_wp2_with fail
 go_at_call 13
 refine (HF1.out A c _ HR1.out).mono ?_
 rintro e w2 ⟨rfl, hw2⟩
 replace HB := lbB HB hw2
 replace HR1 := lbR HR1 hw2
 replace HG := lbG HG hw2
 clear hw2
 clear hg0 hg1 hg2 hg3 hg4 hg5 hg6
 obtain ⟨hg0, hg1, hg2, hg3, hg4, hg5, hg6⟩ := HG.out.box
 go_wp2_with fail
 go_ret
 exact ⟨rfl, HB.out.b⟩
set_option maxHeartbeats 8000000 in
set_option maxRecDepth 100000 in
theorem reads6_n2 (g : Grp) (A : Option Addr) (c : Nat) (lo hi i : Int) (w : World) (hg : Rd w A c g.l) (hh : hi ≤ 9223372036854775807) {r1 : Bool} (hf1 : (∀ (A : Option Addr) (c : Nat) (w : World), Rd w A c g.l → Calls Try.prog 13 #[vG g A c] w fun e w' => e = .returned (.bool r1) ∧ Below w.heap.size w w')) (x1 : r1 = true) (x4 : isG true g = false) :
  Calls Try.prog 4 #[vG g A c, .int .i64 lo, .int .i64 hi, .int .i64 i] w fun e w' => e = .returned (.bool true) ∧ Below w.heap.size w w' := by
 subst x1
 have J1 := Aside0.mk x4
 clear x4
 have HF1 := Aside0.mk hf1
 have HHI := Aside0.mk hh
 obtain ⟨s, hs⟩ : ∃ s, w.heap.size = s := ⟨_, rfl⟩
 have HSs := Aside0.mk hs
 unfold vG
 go_enter Try.func4, Try.ntmps4
 have HB := Aside0.mk (Bel.refl w)
 have HR1 := Aside0.mk (hg)
 clear hf1 hg hh
 obtain ⟨C1, hC1⟩ : ∃ C, (match Try.f4.body with | some (.seq _ c) => c | _ => .skip) = C := ⟨_, rfl⟩
 have HC1 := Aside0.mk hC1
 simp only [Try.f4] at hC1
 rw [hC1]
 clear hC1
 go_wp2
 replace HB := laB HB (.cells #[.int .i64 g.id, .int .i64 g.fi, .int .i64 g.tm, .int .i64 g.ht, .int .i64 g.hv, .int .i64 g.hc, .slice A g.l.length c] 26)
 replace HR1 := laR HR1 (.cells #[.int .i64 g.id, .int .i64 g.fi, .int .i64 g.tm, .int .i64 g.ht, .int .i64 g.hv, .int .i64 g.hc, .slice A g.l.length c] 26)
 have HG := Aside0.mk ((by have hq := BlkG.new g A c w; rw [hs] at hq; exact hq))
 obtain ⟨W0, hW0⟩ : ∃ W, w.alloc (.cells #[.int .i64 g.id, .int .i64 g.fi, .int .i64 g.tm, .int .i64 g.ht, .int .i64 g.hv, .int .i64 g.hc, .slice A g.l.length c] 26) = W := ⟨_, rfl⟩
 rw [hW0] at HB HR1 HG ⊢
 clear hW0
 clear hs
 obtain ⟨hg0, hg1, hg2, hg3, hg4, hg5, hg6⟩ := HG.out.box
 have hC1 := HC1.out
 simp only [Try.f4] at hC1
 subst hC1
 clear HC1
 go_wp2_with fail
 go_at_call 12
 refine (known6 _).mono ?_
 rintro e w1 ⟨rfl, hw1⟩
 replace HB := lbB HB hw1
 replace HR1 := lbR HR1 hw1
 replace HG := lbG HG hw1
 clear hw1
 clear hg0 hg1 hg2 hg3 hg4 hg5 hg6
 obtain ⟨hg0, hg1, hg2, hg3, hg4, hg5, hg6⟩ := HG.out.box
 go_wp2_with fail
 go_at_call 13
 refine (HF1.out A c _ HR1.out).mono ?_
 rintro e w2 ⟨rfl, hw2⟩
 replace HB := lbB HB hw2
 replace HR1 := lbR HR1 hw2
 replace HG := lbG HG hw2
 clear hw2
 clear hg0 hg1 hg2 hg3 hg4 hg5 hg6
 obtain ⟨hg0, hg1, hg2, hg3, hg4, hg5, hg6⟩ := HG.out.box
 go_wp2_with fail
 go_at_call 16
 refine (ris_c g A c _ HR1.out J1.out).mono ?_
 rintro e w3 ⟨rfl, hw3⟩
 replace HB := lbB HB hw3
 replace HR1 := lbR HR1 hw3
 replace HG := lbG HG hw3
 clear hw3
 clear hg0 hg1 hg2 hg3 hg4 hg5 hg6
 obtain ⟨hg0, hg1, hg2, hg3, hg4, hg5, hg6⟩ := HG.out.box
 go_wp2_with fail
 go_ret
 exact ⟨rfl, HB.out.b⟩
set_option maxHeartbeats 8000000 in
set_option maxRecDepth 100000 in
theorem reads6_z (g : Grp) (A : Option Addr) (c : Nat) (lo hi i : Int) (w : World) (hg : Rd w A c g.l) (hh : hi ≤ 9223372036854775807) {r1 : Bool} (hf1 : (∀ (A : Option Addr) (c : Nat) (w : World), Rd w A c g.l → Calls Try.prog 13 #[vG g A c] w fun e w' => e = .returned (.bool r1) ∧ Below w.heap.size w w')) (x1 : r1 = true) (x4 : isG true g = true) :
  Calls Try.prog 4 #[vG g A c, .int .i64 lo, .int .i64 hi, .int .i64 i] w fun e w' => e = .returned (.bool true) ∧ Below w.heap.size w w' := by
 subst x1
 have J1 := Aside0.mk x4
 obtain ⟨t, y, h2⟩ : ∃ t y, trm g i = (t, y) := ⟨_, _, rfl⟩
 obtain ⟨L, x, h3⟩ : ∃ l x, ents g lo hi = (l, x) := ⟨_, _, rfl⟩
 have J2 := Aside0.mk h2
 have J3 := Aside0.mk h3
 have J4 : Aside0 (sameG ⟨0, 0, 0, 0, 0, 0, L⟩ ⟨0, 0, 0, 0, 0, 0, L⟩ = true) := ⟨sameG_iff.2 rfl⟩
 clear x4 h2 h3
 have HF1 := Aside0.mk hf1
 have HHI := Aside0.mk hh
 obtain ⟨s, hs⟩ : ∃ s, w.heap.size = s := ⟨_, rfl⟩
 have HSs := Aside0.mk hs
 unfold vG
 go_enter Try.func4, Try.ntmps4
 have HB := Aside0.mk (Bel.refl w)
 have HR1 := Aside0.mk (hg)
 clear hf1 hg hh
 obtain ⟨C1, hC1⟩ : ∃ C, (match Try.f4.body with | some (.seq _ c) => c | _ => .skip) = C := ⟨_, rfl⟩
 have HC1 := Aside0.mk hC1
 simp only [Try.f4] at hC1
 rw [hC1]
 clear hC1
 go_wp2
 replace HB := laB HB (.cells #[.int .i64 g.id, .int .i64 g.fi, .int .i64 g.tm, .int .i64 g.ht, .int .i64 g.hv, .int .i64 g.hc, .slice A g.l.length c] 26)
 replace HR1 := laR HR1 (.cells #[.int .i64 g.id, .int .i64 g.fi, .int .i64 g.tm, .int .i64 g.ht, .int .i64 g.hv, .int .i64 g.hc, .slice A g.l.length c] 26)
 have HG := Aside0.mk ((by have hq := BlkG.new g A c w; rw [hs] at hq; exact hq))
 obtain ⟨W0, hW0⟩ : ∃ W, w.alloc (.cells #[.int .i64 g.id, .int .i64 g.fi, .int .i64 g.tm, .int .i64 g.ht, .int .i64 g.hv, .int .i64 g.hc, .slice A g.l.length c] 26) = W := ⟨_, rfl⟩
 rw [hW0] at HB HR1 HG ⊢
 clear hW0
 clear hs
 obtain ⟨hg0, hg1, hg2, hg3, hg4, hg5, hg6⟩ := HG.out.box
 have hC1 := HC1.out
 simp only [Try.f4] at hC1
 subst hC1
 clear HC1
 go_wp2_with fail
 go_at_call 12
 refine (known6 _).mono ?_
 rintro e w1 ⟨rfl, hw1⟩
 replace HB := lbB HB hw1
 replace HR1 := lbR HR1 hw1
 replace HG := lbG HG hw1
 clear hw1
 clear hg0 hg1 hg2 hg3 hg4 hg5 hg6
 obtain ⟨hg0, hg1, hg2, hg3, hg4, hg5, hg6⟩ := HG.out.box
 go_wp2_with fail
 go_at_call 13
 refine (HF1.out A c _ HR1.out).mono ?_
 rintro e w2 ⟨rfl, hw2⟩
 replace HB := lbB HB hw2
 replace HR1 := lbR HR1 hw2
 replace HG := lbG HG hw2
 clear hw2
 clear hg0 hg1 hg2 hg3 hg4 hg5 hg6
 obtain ⟨hg0, hg1, hg2, hg3, hg4, hg5, hg6⟩ := HG.out.box
 go_wp2_with fail
 go_at_call 16
 refine (ris_c g A c _ HR1.out J1.out).mono ?_
 rintro e w3 ⟨rfl, hw3⟩
 replace HB := lbB HB hw3
 replace HR1 := lbR HR1 hw3
 replace HG := lbG HG hw3
 clear hw3
 clear hg0 hg1 hg2 hg3 hg4 hg5 hg6
 obtain ⟨hg0, hg1, hg2, hg3, hg4, hg5, hg6⟩ := HG.out.box
 go_wp2_with fail
 go_at_call 27
 refine (gterm_calls g A c i _ HR1.out J1.out J2.out).mono ?_
 rintro e w4 ⟨rfl, hw4⟩
 replace HB := lbB HB hw4
 replace HR1 := lbR HR1 hw4
 replace HG := lbG HG hw4
 clear hw4
 clear hg0 hg1 hg2 hg3 hg4 hg5 hg6
 obtain ⟨hg0, hg1, hg2, hg3, hg4, hg5, hg6⟩ := HG.out.box
 go_wp2_with fail
 go_at_call 28
 refine (rterm_c g A c i _ HR1.out J1.out J2.out).mono ?_
 rintro e w5 ⟨rfl, hw5⟩
 replace HB := lbB HB hw5
 replace HR1 := lbR HR1 hw5
 replace HG := lbG HG hw5
 clear hw5
 clear hg0 hg1 hg2 hg3 hg4 hg5 hg6
 obtain ⟨hg0, hg1, hg2, hg3, hg4, hg5, hg6⟩ := HG.out.box
 go_wp2_with fail
 go_at_call 29
 refine (gents_calls g A c lo hi _ HR1.out J1.out HHI.out J3.out).mono ?_
 rintro e w6 ⟨A3, c3, rfl, hrd, hw6⟩
 replace HB := lbB HB hw6
 replace HR1 := lbR HR1 hw6
 replace HG := lbG HG hw6
 have HL1 := Aside0.mk (hrd)
 clear hrd
 clear hw6
 clear hg0 hg1 hg2 hg3 hg4 hg5 hg6
 obtain ⟨hg0, hg1, hg2, hg3, hg4, hg5, hg6⟩ := HG.out.box
 go_wp2_with fail
 go_at_call 30
 refine (rents_c g A c lo hi _ HR1.out J1.out HHI.out J3.out).mono ?_
 rintro e w7 ⟨A4, c4, rfl, hrd, hw7⟩
 replace HB := lbB HB hw7
 replace HR1 := lbR HR1 hw7
 replace HG := lbG HG hw7
 replace HL1 := lbR HL1 hw7
 have HL2 := Aside0.mk (hrd)
 clear hrd
 clear hw7
 clear hg0 hg1 hg2 hg3 hg4 hg5 hg6
 obtain ⟨hg0, hg1, hg2, hg3, hg4, hg5, hg6⟩ := HG.out.box
 go_wp2_with fail
 go_at_call 18
 refine (rsame_c ⟨0, 0, 0, 0, 0, 0, L⟩ ⟨0, 0, 0, 0, 0, 0, L⟩ A3 c3 A4 c4 _ HL1.out HL2.out J4.out).mono ?_
 rintro e w8 ⟨rfl, hw8⟩
 replace HB := lbB HB hw8
 replace HR1 := lbR HR1 hw8
 replace HG := lbG HG hw8
 replace HL1 := lbR HL1 hw8
 replace HL2 := lbR HL2 hw8
 clear hw8
 clear hg0 hg1 hg2 hg3 hg4 hg5 hg6
 obtain ⟨hg0, hg1, hg2, hg3, hg4, hg5, hg6⟩ := HG.out.box
 go_wp2_with fail
 go_ret
 exact ⟨rfl, HB.out.b⟩
end Go.Proofs.Ytlfdmlacadoolaa.PartW
namespace Go.Proofs.Ytlfdmlacadoolaa.Pure
open Go Go.RowKit Go.Proofs.Ytlfdmlacadoolaa.Sp Go.Proofs.Ytlfdmlacadoolaa.PartW
theorem GroupReads.walk (g : Grp) (A : Option Addr) (c : Nat) (lo hi i : Int) (w : World) (hg : Rd w A c g.l) (w1 : (Lit.int .i64 lo).wf = true) (w2 : (Lit.int .i64 hi).wf = true) (w3 : (Lit.int .i64 i).wf = true) :
    Calls Try.prog 4 #[vG g A c, .int .i64 lo, .int .i64 hi, .int .i64 i] w fun e w' => e = .returned (.bool true) ∧ Below w.heap.size w w' := by
  have hh : hi ≤ 9223372036854775807 := by simp [Lit.wf, IntKind.min, IntKind.max, IntKind.bits, IntKind.signed] at w2; omega
  obtain ⟨r1, hq1, hf1⟩ := few_group g hg.bd
  cases x1 : r1 with
  | false => exact reads6_n1 g A c lo hi i w hg hh hf1 x1
  | true =>
    cases x4 : isG true g with
    | false => exact reads6_n2 g A c lo hi i w hg hh hf1 x1 x4
    | true => exact reads6_z g A c lo hi i w hg hh hf1 x1 x4
end Go.Proofs.Ytlfdmlacadoolaa.Pure
