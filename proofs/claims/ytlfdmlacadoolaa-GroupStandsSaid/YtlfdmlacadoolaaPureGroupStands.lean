/- The statement GroupStands; no condition beyond the row's. -/
import Derived.Test.YtlfdmlacadoolaaSameQ
import Derived.Test.YtlfdmlacadoolaaFew6
import Derived.Test.YtlfdmlacadoolaaGrow
import Derived.Test.YtlfdmlacadoolaaParts
set_option linter.unusedVariables false
set_option linter.unusedSimpArgs false
namespace Go.Proofs.Ytlfdmlacadoolaa.PartW
open Go Go.RowKit Go.Shelf Go.Proofs.Ytlfdmlacadoolaa.A Go.Proofs.Ytlfdmlacadoolaa.Sp Go.Proofs.Ytlfdmlacadoolaa.Reg Go.Proofs.Ytlfdmlacadoolaa.Seq Go.Proofs.YtlfdmlacadoolaaW.PrintWords Go.Proofs.YtlfdmlacadoolaaW.PrintLast Go.Proofs.YtlfdmlacadoolaaW.PrintMore
/-- three ways meet: what comes behind them is shown once -/
theorem cut_w {P F : Option Addr → Nat → Option Addr → Nat → Nat → World → Prop} {G : Prop} (m : (∀ A c Ap cp n W, F A c Ap cp n W → P A c Ap cp n W) → G) (t : ∀ A c Ap cp n W, F A c Ap cp n W → P A c Ap cp n W) : G := m t
theorem cut_v {P F : Option Addr → Nat → Nat → World → Prop} {G : Prop} (m : (∀ A c n W, F A c n W → P A c n W) → G) (t : ∀ A c n W, F A c n W → P A c n W) : G := m t
theorem belowL_len (l : List Ent) (x : Int) : (belowL l x).length ≤ l.length := by unfold belowL; exact List.length_filter_le _ _
theorem fromL_len (l : List Ent) (x : Int) : (fromL l x).length ≤ l.length := by unfold fromL; exact List.length_filter_le _ _
theorem dw_more {g : Grp} (hD : isG true g = true) (p : Prt) : g.fi ≤ (dwG g p).fi ∧ (dwG g p).id = g.id ∧ (dwG g p).l.length ≤ g.l.length + p.l.length := by
  by_cases hc : chkG g p = 0
  · obtain ⟨h1, n6, n5, h2, hk⟩ := chk6_ok hc
    have hb := belowL_len g.l (el p.l 0).f0
    have hf := fromL_len g.l (p.ix + 1)
    rw [dw_do hD, if_pos hc]
    rcases prt_kind h1 with k | k | k | k | k | k
    · unfold doRG
      rw [if_pos k]
      exact ⟨Int.le_refl _, rfl, by dsimp only; rw [List.length_append]; omega⟩
    · unfold doRG
      rw [if_neg (by omega), if_pos k]
      exact ⟨Int.le_refl _, rfl, by dsimp only; omega⟩
    · unfold doRG
      rw [if_neg (by omega), if_neg (by omega), if_pos k]
      unfold chkK at hk
      rw [if_neg (by omega), if_pos k] at hk
      split at hk
      · cases hk
      · next h3 => exact ⟨by dsimp only; omega, rfl, by dsimp only; omega⟩
    · unfold doRG
      rw [if_neg (by omega), if_neg (by omega), if_neg (by omega), if_pos k]
      unfold chkK at hk
      rw [if_neg (by omega), if_neg (by omega), if_pos k] at hk
      split at hk
      · cases hk
      · next h3 =>
        refine ⟨by dsimp only; omega, rfl, ?_⟩
        dsimp only
        split
        · omega
        · exact Nat.zero_le _
    · exact absurd k n5
    · exact absurd k n6
  · rw [dw_do hD, if_neg hc]; exact ⟨Int.le_refl _, rfl, by omega⟩
/-- what holds while parts are done -/
def StaI (w : World) (n5 k : Nat) (W : World) : Prop := ∃ g A c, BlkG g A c n5 W ∧ Rd W A c g.l ∧ Bel w W ∧ isG true g = true ∧ g.l.length ≤ 30 + 8 * k
set_option maxHeartbeats 8000000 in
set_option maxRecDepth 100000 in
theorem stands6_n1 (g : Grp) (A : Option Addr) (c : Nat) (l : List Prt) (Al : Option Addr) (cl : Nat) (w : World) (hg : Rd w A c g.l) (hl : RdP w Al cl l) {r1 : Bool} (hf1 : (∀ (A : Option Addr) (c : Nat) (w : World), Rd w A c g.l → Calls Try.prog 13 #[vG g A c] w fun e w' => e = .returned (.bool r1) ∧ Below w.heap.size w w')) (hn1 : r1 = true → g.l.length ≤ 30) (x1 : r1 = false) :
  Calls Try.prog 5 #[vG g A c, .slice Al l.length cl] w fun e w' => e = .returned (.bool true) ∧ Below w.heap.size w w' := by
 subst x1
 have HF1 := Aside0.mk hf1
 have HRP := Aside0.mk hl
 have HBL := Aside0.mk hl.len
 obtain ⟨s, hs⟩ : ∃ s, w.heap.size = s := ⟨_, rfl⟩
 have HSs := Aside0.mk hs
 unfold vG
 go_enter Try.func5, Try.ntmps5
 have HB := Aside0.mk (Bel.refl w)
 have HR1 := Aside0.mk (hg)
 clear hf1 hg hl
 obtain ⟨C1, hC1⟩ : ∃ C, (match Try.f5.body with | some (.seq _ c) => c | _ => .skip) = C := ⟨_, rfl⟩
 have HC1 := Aside0.mk hC1
 simp only [Try.f5] at hC1
 rw [hC1]
 clear hC1
 go_wp2
 replace HB := laB HB (.cells #[.int .i64 g.id, .int .i64 g.fi, .int .i64 g.tm, .int .i64 g.ht, .int .i64 g.hv, .int .i64 g.hc, .slice A g.l.length c] 26)
 replace HR1 := laR HR1 (.cells #[.int .i64 g.id, .int .i64 g.fi, .int .i64 g.tm, .int .i64 g.ht, .int .i64 g.hv, .int .i64 g.hc, .slice A g.l.length c] 26)
 have HG : Aside0 (BlkG g A c s (w.alloc (.cells #[.int .i64 g.id, .int .i64 g.fi, .int .i64 g.tm, .int .i64 g.ht, .int .i64 g.hv, .int .i64 g.hc, .slice A g.l.length c] 26))) := ⟨(by have hq := BlkG.new g A c w; rw [hs] at hq; exact hq)⟩
 obtain ⟨W0, hW0⟩ : ∃ W, w.alloc (.cells #[.int .i64 g.id, .int .i64 g.fi, .int .i64 g.tm, .int .i64 g.ht, .int .i64 g.hv, .int .i64 g.hc, .slice A g.l.length c] 26) = W := ⟨_, rfl⟩
 rw [hW0] at HB HR1 HG ⊢
 clear hW0
 clear hs
 obtain ⟨hg0, hg1, hg2, hg3, hg4, hg5, hg6⟩ := HG.out.box
 have hC1 := HC1.out
 simp only [Try.f5] at hC1
 subst hC1
 clear HC1
 obtain ⟨C5, hC5⟩ : ∃ C, (match Try.f5.body with | some (.seq _ (.seq _ (.seq _ (.seq _ c)))) => c | _ => .skip) = C := ⟨_, rfl⟩
 have HC5 := Aside0.mk hC5
 simp only [Try.f5] at hC5
 rw [hC5]
 clear hC5
 go_wp2_with fail
 go_at_call 12
 refine (known6 _).mono ?_
 rintro e w1 ⟨rfl, hw1⟩
 replace HB := lbB HB hw1
 replace HR1 := lbR HR1 hw1
 replace HG := lbG HG hw1
 clear hw1
 clear hg0 hg1 hg2 hg3 hg4 hg5 hg6
 obtain ⟨hg0, hg1, hg2, hg3, hg4, hg5, hg6⟩ := HG.out.box
 go_wp2_with fail
 go_at_call 13
 refine (HF1.out A c _ HR1.out).mono ?_
 rintro e w2 ⟨rfl, hw2⟩
 replace HB := lbB HB hw2
 replace HR1 := lbR HR1 hw2
 replace HG := lbG HG hw2
 clear hw2
 clear hg0 hg1 hg2 hg3 hg4 hg5 hg6
 obtain ⟨hg0, hg1, hg2, hg3, hg4, hg5, hg6⟩ := HG.out.box
 go_wp2_with fail
 go_ret
 exact ⟨rfl, HB.out.b⟩
set_option maxHeartbeats 8000000 in
set_option maxRecDepth 100000 in
theorem stands6_n2 (g : Grp) (A : Option Addr) (c : Nat) (l : List Prt) (Al : Option Addr) (cl : Nat) (w : World) (hg : Rd w A c g.l) (hl : RdP w Al cl l) {r1 : Bool} (hf1 : (∀ (A : Option Addr) (c : Nat) (w : World), Rd w A c g.l → Calls Try.prog 13 #[vG g A c] w fun e w' => e = .returned (.bool r1) ∧ Below w.heap.size w w')) (hn1 : r1 = true → g.l.length ≤ 30) (x1 : r1 = true) (x2 : fewL l = false) :
  Calls Try.prog 5 #[vG g A c, .slice Al l.length cl] w fun e w' => e = .returned (.bool true) ∧ Below w.heap.size w w' := by
 subst x1
 have J2 := Aside0.mk x2
 clear x2
 have HF1 := Aside0.mk hf1
 have HRP := Aside0.mk hl
 have HBL := Aside0.mk hl.len
 obtain ⟨s, hs⟩ : ∃ s, w.heap.size = s := ⟨_, rfl⟩
 have HSs := Aside0.mk hs
 unfold vG
 go_enter Try.func5, Try.ntmps5
 have HB := Aside0.mk (Bel.refl w)
 have HR1 := Aside0.mk (hg)
 clear hf1 hg hl
 obtain ⟨C1, hC1⟩ : ∃ C, (match Try.f5.body with | some (.seq _ c) => c | _ => .skip) = C := ⟨_, rfl⟩
 have HC1 := Aside0.mk hC1
 simp only [Try.f5] at hC1
 rw [hC1]
 clear hC1
 go_wp2
 replace HB := laB HB (.cells #[.int .i64 g.id, .int .i64 g.fi, .int .i64 g.tm, .int .i64 g.ht, .int .i64 g.hv, .int .i64 g.hc, .slice A g.l.length c] 26)
 replace HR1 := laR HR1 (.cells #[.int .i64 g.id, .int .i64 g.fi, .int .i64 g.tm, .int .i64 g.ht, .int .i64 g.hv, .int .i64 g.hc, .slice A g.l.length c] 26)
 have HG : Aside0 (BlkG g A c s (w.alloc (.cells #[.int .i64 g.id, .int .i64 g.fi, .int .i64 g.tm, .int .i64 g.ht, .int .i64 g.hv, .int .i64 g.hc, .slice A g.l.length c] 26))) := ⟨(by have hq := BlkG.new g A c w; rw [hs] at hq; exact hq)⟩
 obtain ⟨W0, hW0⟩ : ∃ W, w.alloc (.cells #[.int .i64 g.id, .int .i64 g.fi, .int .i64 g.tm, .int .i64 g.ht, .int .i64 g.hv, .int .i64 g.hc, .slice A g.l.length c] 26) = W := ⟨_, rfl⟩
 rw [hW0] at HB HR1 HG ⊢
 clear hW0
 clear hs
 obtain ⟨hg0, hg1, hg2, hg3, hg4, hg5, hg6⟩ := HG.out.box
 have hC1 := HC1.out
 simp only [Try.f5] at hC1
 subst hC1
 clear HC1
 obtain ⟨C5, hC5⟩ : ∃ C, (match Try.f5.body with | some (.seq _ (.seq _ (.seq _ (.seq _ c)))) => c | _ => .skip) = C := ⟨_, rfl⟩
 have HC5 := Aside0.mk hC5
 simp only [Try.f5] at hC5
 rw [hC5]
 clear hC5
 go_wp2_with fail
 go_at_call 12
 refine (known6 _).mono ?_
 rintro e w1 ⟨rfl, hw1⟩
 replace HB := lbB HB hw1
 replace HR1 := lbR HR1 hw1
 replace HG := lbG HG hw1
 clear hw1
 clear hg0 hg1 hg2 hg3 hg4 hg5 hg6
 obtain ⟨hg0, hg1, hg2, hg3, hg4, hg5, hg6⟩ := HG.out.box
 go_wp2_with fail
 go_at_call 13
 refine (HF1.out A c _ HR1.out).mono ?_
 rintro e w2 ⟨rfl, hw2⟩
 replace HB := lbB HB hw2
 replace HR1 := lbR HR1 hw2
 replace HG := lbG HG hw2
 clear hw2
 clear hg0 hg1 hg2 hg3 hg4 hg5 hg6
 obtain ⟨hg0, hg1, hg2, hg3, hg4, hg5, hg6⟩ := HG.out.box
 go_wp2_with fail
 go_at_call 31
 refine (fewParts_calls l Al cl _ (HRP.out.below HB.out.b) J2.out).mono ?_
 rintro e w3 ⟨rfl, hw3⟩
 replace HB := lbB HB hw3
 replace HR1 := lbR HR1 hw3
 replace HG := lbG HG hw3
 clear hw3
 clear hg0 hg1 hg2 hg3 hg4 hg5 hg6
 obtain ⟨hg0, hg1, hg2, hg3, hg4, hg5, hg6⟩ := HG.out.box
 go_wp2_with fail
 go_ret
 exact ⟨rfl, HB.out.b⟩
set_option maxHeartbeats 8000000 in
set_option maxRecDepth 100000 in
theorem stands6_n3 (g : Grp) (A : Option Addr) (c : Nat) (l : List Prt) (Al : Option Addr) (cl : Nat) (w : World) (hg : Rd w A c g.l) (hl : RdP w Al cl l) {r1 : Bool} (hf1 : (∀ (A : Option Addr) (c : Nat) (w : World), Rd w A c g.l → Calls Try.prog 13 #[vG g A c] w fun e w' => e = .returned (.bool r1) ∧ Below w.heap.size w w')) (hn1 : r1 = true → g.l.length ≤ 30) (x1 : r1 = true) (x2 : fewL l = true) (x3 : isG true g = false) :
  Calls Try.prog 5 #[vG g A c, .slice Al l.length cl] w fun e w' => e = .returned (.bool true) ∧ Below w.heap.size w w' := by
 subst x1
 have J2 := Aside0.mk x2
 have J3 := Aside0.mk x3
 clear x2 x3
 have HF1 := Aside0.mk hf1
 have HRP := Aside0.mk hl
 have HBL := Aside0.mk hl.len
 obtain ⟨s, hs⟩ : ∃ s, w.heap.size = s := ⟨_, rfl⟩
 have HSs := Aside0.mk hs
 unfold vG
 go_enter Try.func5, Try.ntmps5
 have HB := Aside0.mk (Bel.refl w)
 have HR1 := Aside0.mk (hg)
 clear hf1 hg hl
 obtain ⟨C1, hC1⟩ : ∃ C, (match Try.f5.body with | some (.seq _ c) => c | _ => .skip) = C := ⟨_, rfl⟩
 have HC1 := Aside0.mk hC1
 simp only [Try.f5] at hC1
 rw [hC1]
 clear hC1
 go_wp2
 replace HB := laB HB (.cells #[.int .i64 g.id, .int .i64 g.fi, .int .i64 g.tm, .int .i64 g.ht, .int .i64 g.hv, .int .i64 g.hc, .slice A g.l.length c] 26)
 replace HR1 := laR HR1 (.cells #[.int .i64 g.id, .int .i64 g.fi, .int .i64 g.tm, .int .i64 g.ht, .int .i64 g.hv, .int .i64 g.hc, .slice A g.l.length c] 26)
 have HG : Aside0 (BlkG g A c s (w.alloc (.cells #[.int .i64 g.id, .int .i64 g.fi, .int .i64 g.tm, .int .i64 g.ht, .int .i64 g.hv, .int .i64 g.hc, .slice A g.l.length c] 26))) := ⟨(by have hq := BlkG.new g A c w; rw [hs] at hq; exact hq)⟩
 obtain ⟨W0, hW0⟩ : ∃ W, w.alloc (.cells #[.int .i64 g.id, .int .i64 g.fi, .int .i64 g.tm, .int .i64 g.ht, .int .i64 g.hv, .int .i64 g.hc, .slice A g.l.length c] 26) = W := ⟨_, rfl⟩
 rw [hW0] at HB HR1 HG ⊢
 clear hW0
 clear hs
 obtain ⟨hg0, hg1, hg2, hg3, hg4, hg5, hg6⟩ := HG.out.box
 have hC1 := HC1.out
 simp only [Try.f5] at hC1
 subst hC1
 clear HC1
 obtain ⟨C5, hC5⟩ : ∃ C, (match Try.f5.body with | some (.seq _ (.seq _ (.seq _ (.seq _ c)))) => c | _ => .skip) = C := ⟨_, rfl⟩
 have HC5 := Aside0.mk hC5
 simp only [Try.f5] at hC5
 rw [hC5]
 clear hC5
 go_wp2_with fail
 go_at_call 12
 refine (known6 _).mono ?_
 rintro e w1 ⟨rfl, hw1⟩
 replace HB := lbB HB hw1
 replace HR1 := lbR HR1 hw1
 replace HG := lbG HG hw1
 clear hw1
 clear hg0 hg1 hg2 hg3 hg4 hg5 hg6
 obtain ⟨hg0, hg1, hg2, hg3, hg4, hg5, hg6⟩ := HG.out.box
 go_wp2_with fail
 go_at_call 13
 refine (HF1.out A c _ HR1.out).mono ?_
 rintro e w2 ⟨rfl, hw2⟩
 replace HB := lbB HB hw2
 replace HR1 := lbR HR1 hw2
 replace HG := lbG HG hw2
 clear hw2
 clear hg0 hg1 hg2 hg3 hg4 hg5 hg6
 obtain ⟨hg0, hg1, hg2, hg3, hg4, hg5, hg6⟩ := HG.out.box
 go_wp2_with fail
 go_at_call 31
 refine (fewParts_calls l Al cl _ (HRP.out.below HB.out.b) J2.out).mono ?_
 rintro e w3 ⟨rfl, hw3⟩
 replace HB := lbB HB hw3
 replace HR1 := lbR HR1 hw3
 replace HG := lbG HG hw3
 clear hw3
 clear hg0 hg1 hg2 hg3 hg4 hg5 hg6
 obtain ⟨hg0, hg1, hg2, hg3, hg4, hg5, hg6⟩ := HG.out.box
 go_wp2_with fail
 go_at_call 15
 refine (gis_calls g A c _ HR1.out J3.out).mono ?_
 rintro e w4 ⟨rfl, hw4⟩
 replace HB := lbB HB hw4
 replace HR1 := lbR HR1 hw4
 replace HG := lbG HG hw4
 clear hw4
 clear hg0 hg1 hg2 hg3 hg4 hg5 hg6
 obtain ⟨hg0, hg1, hg2, hg3, hg4, hg5, hg6⟩ := HG.out.box
 go_wp2_with fail
 go_ret
 exact ⟨rfl, HB.out.b⟩
set_option maxHeartbeats 8000000 in
set_option maxRecDepth 100000 in
theorem stands6_z (g : Grp) (A : Option Addr) (c : Nat) (l : List Prt) (Al : Option Addr) (cl : Nat) (w : World) (hg : Rd w A c g.l) (hl : RdP w Al cl l) {r1 : Bool} (hf1 : (∀ (A : Option Addr) (c : Nat) (w : World), Rd w A c g.l → Calls Try.prog 13 #[vG g A c] w fun e w' => e = .returned (.bool r1) ∧ Below w.heap.size w w')) (hn1 : r1 = true → g.l.length ≤ 30) (x1 : r1 = true) (x2 : fewL l = true) (x3 : isG true g = true) :
  Calls Try.prog 5 #[vG g A c, .slice Al l.length cl] w fun e w' => e = .returned (.bool true) ∧ Below w.heap.size w w' := by
 subst x1
 have J2 := Aside0.mk x2
 have JL := Aside0.mk (fewL_len x2)
 have J3 := Aside0.mk x3
 have J4 : Aside0 (g.l.length ≤ 30 + 8 * 0) := ⟨hn1 rfl⟩
 clear x2 x3 hn1
 have HF1 := Aside0.mk hf1
 have HRP := Aside0.mk hl
 have HBL := Aside0.mk hl.len
 obtain ⟨s, hs⟩ : ∃ s, w.heap.size = s := ⟨_, rfl⟩
 have HSs := Aside0.mk hs
 unfold vG
 go_enter Try.func5, Try.ntmps5
 have HB := Aside0.mk (Bel.refl w)
 have HR1 := Aside0.mk (hg)
 clear hf1 hg hl
 obtain ⟨C1, hC1⟩ : ∃ C, (match Try.f5.body with | some (.seq _ c) => c | _ => .skip) = C := ⟨_, rfl⟩
 have HC1 := Aside0.mk hC1
 simp only [Try.f5] at hC1
 rw [hC1]
 clear hC1
 go_wp2
 replace HB := laB HB (.cells #[.int .i64 g.id, .int .i64 g.fi, .int .i64 g.tm, .int .i64 g.ht, .int .i64 g.hv, .int .i64 g.hc, .slice A g.l.length c] 26)
 replace HR1 := laR HR1 (.cells #[.int .i64 g.id, .int .i64 g.fi, .int .i64 g.tm, .int .i64 g.ht, .int .i64 g.hv, .int .i64 g.hc, .slice A g.l.length c] 26)
 have HG : Aside0 (BlkG g A c s (w.alloc (.cells #[.int .i64 g.id, .int .i64 g.fi, .int .i64 g.tm, .int .i64 g.ht, .int .i64 g.hv, .int .i64 g.hc, .slice A g.l.length c] 26))) := ⟨(by have hq := BlkG.new g A c w; rw [hs] at hq; exact hq)⟩
 obtain ⟨W0, hW0⟩ : ∃ W, w.alloc (.cells #[.int .i64 g.id, .int .i64 g.fi, .int .i64 g.tm, .int .i64 g.ht, .int .i64 g.hv, .int .i64 g.hc, .slice A g.l.length c] 26) = W := ⟨_, rfl⟩
 rw [hW0] at HB HR1 HG ⊢
 clear hW0
 clear hs
 obtain ⟨hg0, hg1, hg2, hg3, hg4, hg5, hg6⟩ := HG.out.box
 have hC1 := HC1.out
 simp only [Try.f5] at hC1
 subst hC1
 clear HC1
 obtain ⟨C5, hC5⟩ : ∃ C, (match Try.f5.body with | some (.seq _ (.seq _ (.seq _ (.seq _ c)))) => c | _ => .skip) = C := ⟨_, rfl⟩
 have HC5 := Aside0.mk hC5
 simp only [Try.f5] at hC5
 rw [hC5]
 clear hC5
 go_wp2_with fail
 go_at_call 12
 refine (known6 _).mono ?_
 rintro e w1 ⟨rfl, hw1⟩
 replace HB := lbB HB hw1
 replace HR1 := lbR HR1 hw1
 replace HG := lbG HG hw1
 clear hw1
 clear hg0 hg1 hg2 hg3 hg4 hg5 hg6
 obtain ⟨hg0, hg1, hg2, hg3, hg4, hg5, hg6⟩ := HG.out.box
 go_wp2_with fail
 go_at_call 13
 refine (HF1.out A c _ HR1.out).mono ?_
 rintro e w2 ⟨rfl, hw2⟩
 replace HB := lbB HB hw2
 replace HR1 := lbR HR1 hw2
 replace HG := lbG HG hw2
 clear hw2
 clear hg0 hg1 hg2 hg3 hg4 hg5 hg6
 obtain ⟨hg0, hg1, hg2, hg3, hg4, hg5, hg6⟩ := HG.out.box
 go_wp2_with fail
 go_at_call 31
 refine (fewParts_calls l Al cl _ (HRP.out.below HB.out.b) J2.out).mono ?_
 rintro e w3 ⟨rfl, hw3⟩
 replace HB := lbB HB hw3
 replace HR1 := lbR HR1 hw3
 replace HG := lbG HG hw3
 clear hw3
 clear hg0 hg1 hg2 hg3 hg4 hg5 hg6
 obtain ⟨hg0, hg1, hg2, hg3, hg4, hg5, hg6⟩ := HG.out.box
 go_wp2_with fail
 go_at_call 15
 refine (gis_calls g A c _ HR1.out J3.out).mono ?_
 rintro e w4 ⟨rfl, hw4⟩
 replace HB := lbB HB hw4
 replace HR1 := lbR HR1 hw4
 replace HG := lbG HG hw4
 clear hw4
 clear hg0 hg1 hg2 hg3 hg4 hg5 hg6
 obtain ⟨hg0, hg1, hg2, hg3, hg4, hg5, hg6⟩ := HG.out.box
 obtain ⟨n5, hn5⟩ : ∃ n, w4.heap.size = n := ⟨_, rfl⟩
 have HSn5 := Aside0.mk hn5
 have HS5 : Aside0 (w.heap.size ≤ n5) := ⟨by rw [← hn5]; exact HB.out.b.size⟩
 go_wp2_with fail
 clear hg0 hg1 hg2 hg3 hg4 hg5 hg6
 replace HB := laB HB (.cells #[.int .i64 g.id, .int .i64 g.fi, .int .i64 g.tm, .int .i64 g.ht, .int .i64 g.hv, .int .i64 g.hc, .slice A g.l.length c] 26)
 replace HR1 := laR HR1 (.cells #[.int .i64 g.id, .int .i64 g.fi, .int .i64 g.tm, .int .i64 g.ht, .int .i64 g.hv, .int .i64 g.hc, .slice A g.l.length c] 26)
 replace HG := laG HG (.cells #[.int .i64 g.id, .int .i64 g.fi, .int .i64 g.tm, .int .i64 g.ht, .int .i64 g.hv, .int .i64 g.hc, .slice A g.l.length c] 26)
 have HA : Aside0 (BlkG g A c n5 (w4.alloc (.cells #[.int .i64 g.id, .int .i64 g.fi, .int .i64 g.tm, .int .i64 g.ht, .int .i64 g.hv, .int .i64 g.hc, .slice A g.l.length c] 26))) := ⟨(by have hq := BlkG.new g A c w4; rw [HSn5.out] at hq; exact hq : BlkG g A c n5 (w4.alloc (.cells #[.int .i64 g.id, .int .i64 g.fi, .int .i64 g.tm, .int .i64 g.ht, .int .i64 g.hv, .int .i64 g.hc, .slice A g.l.length c] 26)))⟩
 obtain ⟨W1, hW1⟩ : ∃ W, w4.alloc (.cells #[.int .i64 g.id, .int .i64 g.fi, .int .i64 g.tm, .int .i64 g.ht, .int .i64 g.hv, .int .i64 g.hc, .slice A g.l.length c] 26) = W := ⟨_, rfl⟩
 rw [hW1] at HB HR1 HG HA ⊢
 clear hW1
 clear hn5
 have HI1 : Aside0 (StaI w n5 0 W1) := ⟨⟨g, A, c, HA.out, HR1.out, HB.out, J3.out, J4.out⟩⟩
 clear HG HA HR1 HB HF1 J4 J3
 have hC5 := HC5.out
 simp only [Try.f5] at hC5
 subst hC5
 clear HC5
 obtain ⟨C15, hC15⟩ : ∃ C, (match Try.f5.body with | some (.seq _ (.seq _ (.seq _ (.seq _ (.seq _ c))))) => c | _ => .skip) = C := ⟨_, rfl⟩
 have HC15 := Aside0.mk hC15
 simp only [Try.f5] at hC15
 rw [hC15]
 clear hC15
 go_wp2_with fail
 go_loopw [6] (fun v wr => ∃ k : Nat, k ≤ l.length ∧ v = .int .i64 (k : Int) ∧ Aside0 (StaI w n5 k wr)) (fun v _ => l.length - (intOf v).toNat)
 case atStart => exact ⟨0, Nat.zero_le _, rfl, HI1⟩
 case round =>
   clear HI1
   obtain ⟨k, hk, rfl, HI⟩ := hrel
   obtain ⟨g, A, c, ha, hr, hb, hD, hle⟩ := HI.out
   have HG := Aside0.mk ha
   have HR := Aside0.mk hr
   have HB := Aside0.mk hb
   have HD := Aside0.mk hD
   have HLE := Aside0.mk hle
   have hl6 := JL.out.1
   clear HI ha hr hb hD hle
   by_cases hlt : k < l.length
   · obtain ⟨a, A1, c1, rfl, hc, hrp⟩ := HRP.out.one hlt
     have HPL := Aside0.mk (JL.out.2 k hlt)
     obtain ⟨p, hp⟩ : ∃ p, elP l k = p := ⟨_, rfl⟩
     rw [hp] at hc hrp HPL
     have HC0 := Aside0.mk hc
     have HRp := Aside0.mk hrp
     clear hp hc hrp
     have d1 : decide ((k : Int) < (l.length : Int)) = true := decide_eq_true (by omega)
     have hlt2 : (k : Int) < (l.length : Int) := by omega
     have hk4 : IntKind.i64.wrap ((k : Int) + 1) = (k : Int) + 1 := by rw [i64_w]; unfold wrap64; omega
     obtain ⟨Y, hY⟩ : ∃ Y, dwG g p = Y := ⟨_, rfl⟩
     obtain ⟨x, hx⟩ : ∃ x, chwG g p = x := ⟨_, rfl⟩
     have hm := dw_more HD.out p
     have hi := do_dense HD.out p
     rw [hY] at hm hi
     have KI := Aside0.mk hi
     have KM := Aside0.mk hm
     have JY := Aside0.mk hY
     have JX := Aside0.mk hx
     have KL : Aside0 (g.l.length + p.l.length ≤ 4398046511104) := ⟨by have := HLE.out; have := HPL.out; omega⟩
     have f1 : decide (Y.fi < g.fi) = false := decide_eq_false (by omega)
     have f2 : (Y.id == g.id) = true := beq_iff_eq.2 hm.2.1
     have f3 : (Y.id != g.id) = false := by rw [bne, f2]; rfl
     have KSW : Aside0 (sameG g g = true) := ⟨sameG_iff.2 rfl⟩
     have KZ : Aside0 (x ≠ 0 → sameG Y g = true) := ⟨fun h => sameG_iff.2 (by rw [← hY]; unfold dwG; rw [if_neg (by rw [hx]; exact h)])⟩
     clear hY hx hm hi
     obtain ⟨n7, hn7⟩ : ∃ n, wr.heap.size = n := ⟨_, rfl⟩
     have HSn7 := Aside0.mk hn7
     have l57 : n5 < n7 := by rw [← hn7]; exact HG.out.lt
     have l57a : n5 ≠ n7 := by omega
     have l57b : n7 ≠ n5 := by omega
     obtain ⟨hg0, hg1, hg2, hg3, hg4, hg5, hg6⟩ := HG.out.box
     go_wp2_with (at_builtin; refine wpList_append_ent (v := .slice none 0 0) (l := []) (m := g.l) (b := n7 + 1) rfl (.const (.slice none 0 0)) (.tmp 34) rfl rfl (OwnE.nil _ _) rfl (HR.out.alloc _) (by rw [List.length_nil, Nat.zero_add]; exact HR.out.bd) (Nat.le_of_eq (by rw [World.size_alloc, HSn7.out])) ?_; intro v4 w4 ho4 hgr ha4; have hon : Only (fun _ => False) (wr.alloc (.cells #[.int .i64 g.id, .int .i64 g.fi, .int .i64 g.tm, .int .i64 g.ht, .int .i64 g.hv, .int .i64 g.hc, .slice A g.l.length c] 26)) w4 := (Only.refl _ _).of_grown hgr (fun k hk _ => by simp [Value.ownBlock] at hk); have hbw := BlkG.new g A c wr; rw [HSn7.out] at hbw; have HW := Aside0.mk (hbw.only hon (fun h => h)); replace HG := Aside0.mk ((HG.out.alloc (.cells #[.int .i64 g.id, .int .i64 g.fi, .int .i64 g.tm, .int .i64 g.ht, .int .i64 g.hv, .int .i64 g.hc, .slice A g.l.length c] 26)).only hon (fun h => h)); replace HR := Aside0.mk ((HR.out.alloc (.cells #[.int .i64 g.id, .int .i64 g.fi, .int .i64 g.tm, .int .i64 g.ht, .int .i64 g.hv, .int .i64 g.hc, .slice A g.l.length c] 26)).only hon (fun _ _ h => h)); replace HB := Aside0.mk ((HB.out.alloc (.cells #[.int .i64 g.id, .int .i64 g.fi, .int .i64 g.tm, .int .i64 g.ht, .int .i64 g.hv, .int .i64 g.hc, .slice A g.l.length c] 26)).only hon (fun _ _ h => h)); obtain ⟨A2, c2, rfl, hrd2, hfr2⟩ := ho4.rd' (by have := HR.out.bd; simpa using this); simp only [List.nil_append] at hrd2; have HRW := Aside0.mk hrd2; clear hon hbw hrd2 hfr2 ho4 hgr ha4 hg0 hg1 hg2 hg3 hg4 hg5 hg6; obtain ⟨hg0, hg1, hg2, hg3, hg4, hg5, hg6⟩ := HG.out.box; obtain ⟨b0, b1, b2, b3, b4, b5, b6⟩ := HW.out.box; have bf := HW.out.free; simp only [List.nil_append])
     clear hn7 hg0 hg1 hg2 hg3 hg4 hg5 hg6 b0 b1 b2 b3 b4 b5 b6 bf
     have hx := (Only.refl (fun q => q = n7) w4).setCell (p := ⟨n7, 6, none⟩) rfl (.slice A2 g.l.length c2)
     replace HG := Aside0.mk (HG.out.only hx (fun h => by have h2 : n5 = n7 := h; omega))
     replace HR := Aside0.mk (Rd.only HR.out hx (fun q hq h => by have h2 : q = n7 := h; subst h2; exact Rd.apartG HR.out HW.out hq))
     replace HRW := Aside0.mk (Rd.only HRW.out hx (fun q hq h => by have h2 : q = n7 := h; subst h2; exact Rd.apartG HRW.out HW.out hq))
     replace HB := Aside0.mk (HB.out.only hx (fun q hq h => by have h2 : q = n7 := h; have := HS5.out; omega))
     replace HW : Aside0 (BlkG g A2 c2 n7 (w4.setCell ⟨n7, 6, none⟩ (.slice A2 g.l.length c2))) := ⟨HW.out.setL g.l A2 c2⟩
     clear hx
     obtain ⟨W5, hW5⟩ : ∃ W, w4.setCell ⟨n7, 6, none⟩ (.slice A2 g.l.length c2) = W := ⟨_, rfl⟩
     rw [hW5] at HG HW HR HRW HB ⊢
     clear hW5
     apply cut_v (F := fun A9 c9 nX W55 => BlkG g A c n5 W55 ∧ BlkG g A2 c2 n7 W55 ∧ Rd W55 A c g.l ∧ Rd W55 A2 c2 g.l ∧ Bel w W55 ∧ Rd W55 A9 c9 Y.l ∧ BlkG Y A9 c9 nX W55 ∧ n5 < nX ∧ n7 < nX ∧ w.heap.size ≤ nX)
     · intro tl
       obtain ⟨nX, hXB⟩ : ∃ n, W5.heap.size = n := ⟨_, rfl⟩
       have hXB2 : W5.drew.heap.size = nX := hXB
       replace HG := ldG HG
       replace HW := ldG HW
       replace HR := ldR HR
       replace HRW := ldR HRW
       replace HB := ldB HB
       refine start_ (n := 12) (S := (fun w' => BoxG g A c n5 w' ∧ CelP p A1 c1 (a.add (k * 10)) w')) (ds := [10]) #[false,false,false,false,false,false,false,false,false,false,false,false] (by kernel_rfl) rfl rfl ⟨HG.out.box, HC0.out.below HB.out.b⟩ (fun hHeld => ?_)
       refine take_ (i := 0) (N := some 38) (v := ?_) (a' := ?_) #[true,false,false,false,false,false,false,false,false,false,false,false] rfl rfl (by kernel_rfl) (fun _ _ _ h => h) (Or.inl ⟨by rfl, ?_⟩) hHeld ?_ ?_
       rotate_left
       · rintro w' ⟨⟨hg0, hg1, hg2, hg3, hg4, hg5, hg6⟩, ⟨m0, m1, m2, m3, m4, m5, m6, m7, m8, m9⟩⟩
         go_simp
         try with_reducible rfl
       rotate_left
       · simp only [Act.put, sA, sB, sC]
         rfl
       refine pure_ (i := 1) (N := some 39) (v := ?_) (a' := ?_) #[true,true,false,false,false,false,false,false,false,false,false,false] rfl rfl (by kernel_rfl) (fun _ _ _ h => h) (Or.inl ⟨by rfl, ?_⟩) ?_ ?_
       rotate_left
       · intro w'
         go_simp
         try with_reducible rfl
       rotate_left
       · simp only [Act.put, sA, sB, sC]
         rfl
       refine pure_ (i := 2) (N := some 40) (v := ?_) (a' := ?_) #[true,true,true,false,false,false,false,false,false,false,false,false] rfl rfl (by kernel_rfl) (fun _ _ _ h => h) (Or.inl ⟨by rfl, ?_⟩) ?_ ?_
       rotate_left
       · intro w'
         go_simp
         try with_reducible rfl
       rotate_left
       · simp only [Act.put, sA, sB, sC]
         rfl
       refine pure_ (i := 3) (N := some 41) (v := ?_) (a' := ?_) #[true,true,true,true,false,false,false,false,false,false,false,false] rfl rfl (by kernel_rfl) (fun _ _ _ h => h) (Or.inl ⟨by rfl, ?_⟩) ?_ ?_
       rotate_left
       · intro w'
         go_simp
         try with_reducible rfl
       rotate_left
       · simp only [Act.put, sA, sB, sC]
         rfl
       refine take_ (i := 4) (N := some 42) (v := ?_) (a' := ?_) #[true,true,true,true,true,false,false,false,false,false,false,false] rfl rfl (by kernel_rfl) (fun _ _ _ h => h) (Or.inl ⟨by rfl, ?_⟩) hHeld ?_ ?_
       rotate_left
       · rintro w' ⟨⟨hg0, hg1, hg2, hg3, hg4, hg5, hg6⟩, ⟨m0, m1, m2, m3, m4, m5, m6, m7, m8, m9⟩⟩
         go_simp
         try with_reducible rfl
       rotate_left
       · simp only [Act.put, sA, sB, sC]
         rfl
       refine two_ (i := 5) (j := 9) (Ni := some 43) (Nj := some 8) #[true,true,true,true,true,true,false,false,false,false,false,false] #[true,true,true,true,true,false,false,false,false,true,false,false] rfl rfl rfl rfl (by kernel_rfl) (by decide) (by decide) (fun K hK => ?_) (fun K hK => ?_)
       · go_simp
         refine (gdo_calls g A c p A1 c1 _ HR.out (HRp.out.below HB.out.b) KL.out JY.out JX.out).mono ?_; rintro e w42 ⟨A9, c9, rfl, hrd, hw⟩; have HR9 := Aside0.mk hrd; replace HG := lbG HG hw; replace HW := lbG HW hw; replace HR := lbR HR hw; replace HRW := lbR HRW hw; replace HB := lbB HB hw; clear hrd hw
         refine hK.out _ _ ?_ (fun hHeld => ?_)
         · exact ⟨HG.out.box, HC0.out.below HB.out.b⟩
         clear hK K
         try simp only [Act.put, sA, sB, sC]
         obtain ⟨nX, hXw42⟩ : ∃ n, w42.heap.size = n := ⟨_, rfl⟩
         refine pure_ (i := 6) (N := some 37) (v := ?_) (a' := ?_) #[true,true,true,true,true,true,true,false,false,false,false,false] rfl rfl (by kernel_rfl) (fun _ _ _ h => h) (Or.inl ⟨by rfl, ?_⟩) ?_ ?_
         rotate_left
         · intro w'
           go_simp
           try with_reducible rfl
         rotate_left
         · simp only [Act.put, sA, sB, sC]
           rfl
         refine pure_ (i := 7) (N := some 44) (v := ?_) (a' := ?_) #[true,true,true,true,true,true,true,true,false,false,false,false] rfl rfl (by kernel_rfl) (fun _ _ _ h => h) (Or.inl ⟨by rfl, ?_⟩) ?_ ?_
         rotate_left
         · intro w'
           go_simp
           try with_reducible rfl
         rotate_left
         · simp only [Act.put, sA, sB, sC]
           rfl
         refine pure_ (i := 8) (N := some 45) (v := ?_) (a' := ?_) #[true,true,true,true,true,true,true,true,true,false,false,false] rfl rfl (by kernel_rfl) (fun _ _ _ h => h) (Or.inl ⟨by rfl, ?_⟩) ?_ ?_
         rotate_left
         · intro w'
           go_simp
           try with_reducible rfl
         rotate_left
         · simp only [Act.put, sA, sB, sC]
           rfl
         refine one_ (i := 9) (N := some 8) #[true,true,true,true,true,true,true,true,true,true,false,false] rfl rfl (by kernel_rfl) (by decide) (fun K hK => ?_)
         go_simp
         refine hK.out _ _ ?_ (fun hHeld => ?_)
         · exact ⟨(laG HG (.cells #[.int .i64 0, .int .i64 0, .int .i64 0, .int .i64 0, .int .i64 0, .int .i64 0, .slice none 0 0] 26)).out.box, HC0.out.below (laB HB (.cells #[.int .i64 0, .int .i64 0, .int .i64 0, .int .i64 0, .int .i64 0, .int .i64 0, .slice none 0 0] 26)).out.b⟩
         clear hK K
         try simp only [Act.put, sA, sB, sC]
         have HX : Aside0 (BlkG ⟨0, 0, 0, 0, 0, 0, []⟩ none 0 nX (w42.alloc (.cells #[.int .i64 0, .int .i64 0, .int .i64 0, .int .i64 0, .int .i64 0, .int .i64 0, .slice none 0 0] 26))) := ⟨by have hq := BlkG.new ⟨0, 0, 0, 0, 0, 0, []⟩ none 0 w42; rw [hXw42] at hq; exact hq⟩
         have ltHG : n5 < nX := by rw [← hXw42]; exact (Array.getElem?_eq_some_iff.1 HG.out).1
         have ltHW : n7 < nX := by rw [← hXw42]; exact (Array.getElem?_eq_some_iff.1 HW.out).1
         have ltB : w.heap.size ≤ nX := by rw [← hXw42]; exact HB.out.b.size
         replace HG := laG HG (.cells #[.int .i64 0, .int .i64 0, .int .i64 0, .int .i64 0, .int .i64 0, .int .i64 0, .slice none 0 0] 26)
         replace HW := laG HW (.cells #[.int .i64 0, .int .i64 0, .int .i64 0, .int .i64 0, .int .i64 0, .int .i64 0, .slice none 0 0] 26)
         replace HR := laR HR (.cells #[.int .i64 0, .int .i64 0, .int .i64 0, .int .i64 0, .int .i64 0, .int .i64 0, .slice none 0 0] 26)
         replace HRW := laR HRW (.cells #[.int .i64 0, .int .i64 0, .int .i64 0, .int .i64 0, .int .i64 0, .int .i64 0, .slice none 0 0] 26)
         replace HB := laB HB (.cells #[.int .i64 0, .int .i64 0, .int .i64 0, .int .i64 0, .int .i64 0, .int .i64 0, .slice none 0 0] 26)
         replace HR9 := laR HR9 (.cells #[.int .i64 0, .int .i64 0, .int .i64 0, .int .i64 0, .int .i64 0, .int .i64 0, .slice none 0 0] 26)
         clear hXw42
         obtain ⟨w42, hW3⟩ : ∃ W, w42.alloc (.cells #[.int .i64 0, .int .i64 0, .int .i64 0, .int .i64 0, .int .i64 0, .int .i64 0, .slice none 0 0] 26) = W := ⟨_, rfl⟩
         rw [hW3] at HG HW HR HRW HB HR9 HX ⊢
         clear hW3
         obtain ⟨x0, x1, x2, x3, x4, x5, x6⟩ := HX.out.box
         have xf := HX.out.free
         refine last_ (i := 10) (N := none) #[true,true,true,true,true,true,true,true,true,true,true,false] rfl rfl (by kernel_rfl) (by decide) (fun K hK => ?_)
         go_simp
         refine hK.out _ _ ?_
         clear hK K
         try simp only [Act.put, sA, sB, sC]
         refine pure_ (i := 11) (N := some 9) (v := ?_) (a' := ?_) #[true,true,true,true,true,true,true,true,true,true,true,true] rfl rfl (by kernel_rfl) (fun _ _ _ h => h) (Or.inl ⟨by rfl, ?_⟩) ?_ ?_
         rotate_left
         · intro w'
           go_simp
           try with_reducible rfl
         rotate_left
         · simp only [Act.put, sA, sB, sC]
           rfl
         refine done_ (by kernel_rfl) ?_
         clear x0 x1 x2 x3 x4 x5 x6 xf
         have hx := only_store Y A9 c9 nX w42
         replace HG := Aside0.mk (BlkG.only HG.out hx (fun h => by have h2 : n5 = nX := h; omega))
         replace HW := Aside0.mk (BlkG.only HW.out hx (fun h => by have h2 : n7 = nX := h; omega))
         replace HR := Aside0.mk (Rd.only HR.out hx (fun q hq h => by have h3 : q = nX := h; subst h3; exact Rd.apartG HR.out HX.out hq))
         replace HRW := Aside0.mk (Rd.only HRW.out hx (fun q hq h => by have h3 : q = nX := h; subst h3; exact Rd.apartG HRW.out HX.out hq))
         replace HB := Aside0.mk (Bel.only HB.out hx (fun q hq h => by have h2 : q = nX := h; omega))
         replace HR9 := Aside0.mk (Rd.only HR9.out hx (fun q hq h => by have h3 : q = nX := h; subst h3; exact Rd.apartG HR9.out HX.out hq))
         replace HX := Aside0.mk (BlkG.store (g := Y) (A := A9) (c := c9) HX.out)
         clear hx
         obtain ⟨W55, hW55⟩ : ∃ W, (((((((w42.setCell ⟨nX, 0, none⟩ (.int .i64 Y.id)).setCell ⟨nX, 1, none⟩ (.int .i64 Y.fi)).setCell ⟨nX, 2, none⟩ (.int .i64 Y.tm)).setCell ⟨nX, 3, none⟩ (.int .i64 Y.ht)).setCell ⟨nX, 4, none⟩ (.int .i64 Y.hv)).setCell ⟨nX, 5, none⟩ (.int .i64 Y.hc)).setCell ⟨nX, 6, none⟩ (.slice A9 Y.l.length c9)) = W := ⟨_, rfl⟩
         rw [hW55] at HG HW HR HRW HB HR9 HX ⊢
         clear hW55
         exact tl A9 c9 nX W55 ⟨HG.out, HW.out, HR.out, HRW.out, HB.out, HR9.out, HX.out, ltHG, ltHW, ltB⟩
       · go_simp
         refine hK.out _ _ ?_ (fun hHeld => ?_)
         · exact ⟨(laG HG (.cells #[.int .i64 0, .int .i64 0, .int .i64 0, .int .i64 0, .int .i64 0, .int .i64 0, .slice none 0 0] 26)).out.box, HC0.out.below (laB HB (.cells #[.int .i64 0, .int .i64 0, .int .i64 0, .int .i64 0, .int .i64 0, .int .i64 0, .slice none 0 0] 26)).out.b⟩
         clear hK K
         try simp only [Act.put, sA, sB, sC]
         have HX : Aside0 (BlkG ⟨0, 0, 0, 0, 0, 0, []⟩ none 0 nX (W5.drew.alloc (.cells #[.int .i64 0, .int .i64 0, .int .i64 0, .int .i64 0, .int .i64 0, .int .i64 0, .slice none 0 0] 26))) := ⟨by have hq := BlkG.new ⟨0, 0, 0, 0, 0, 0, []⟩ none 0 W5.drew; rw [hXB2] at hq; exact hq⟩
         have ltHG : n5 < nX := by rw [← hXB2]; exact (Array.getElem?_eq_some_iff.1 HG.out).1
         have ltHW : n7 < nX := by rw [← hXB2]; exact (Array.getElem?_eq_some_iff.1 HW.out).1
         have ltB : w.heap.size ≤ nX := by rw [← hXB2]; exact HB.out.b.size
         replace HG := laG HG (.cells #[.int .i64 0, .int .i64 0, .int .i64 0, .int .i64 0, .int .i64 0, .int .i64 0, .slice none 0 0] 26)
         replace HW := laG HW (.cells #[.int .i64 0, .int .i64 0, .int .i64 0, .int .i64 0, .int .i64 0, .int .i64 0, .slice none 0 0] 26)
         replace HR := laR HR (.cells #[.int .i64 0, .int .i64 0, .int .i64 0, .int .i64 0, .int .i64 0, .int .i64 0, .slice none 0 0] 26)
         replace HRW := laR HRW (.cells #[.int .i64 0, .int .i64 0, .int .i64 0, .int .i64 0, .int .i64 0, .int .i64 0, .slice none 0 0] 26)
         replace HB := laB HB (.cells #[.int .i64 0, .int .i64 0, .int .i64 0, .int .i64 0, .int .i64 0, .int .i64 0, .slice none 0 0] 26)
         clear hXB2
         clear hXB
         refine one_ (i := 5) (N := some 43) #[true,true,true,true,true,true,false,false,false,true,false,false] rfl rfl (by kernel_rfl) (by decide) (fun K hK => ?_)
         go_simp
         refine (gdo_calls g A c p A1 c1 _ HR.out (HRp.out.below HB.out.b) KL.out JY.out JX.out).mono ?_; rintro e w42 ⟨A9, c9, rfl, hrd, hw⟩; have HR9 := Aside0.mk hrd; replace HG := lbG HG hw; replace HW := lbG HW hw; replace HR := lbR HR hw; replace HRW := lbR HRW hw; replace HB := lbB HB hw; replace HX := lbG HX hw; clear hrd hw
         refine hK.out _ _ ?_ (fun hHeld => ?_)
         · exact ⟨HG.out.box, HC0.out.below HB.out.b⟩
         clear hK K
         try simp only [Act.put, sA, sB, sC]
         obtain ⟨x0, x1, x2, x3, x4, x5, x6⟩ := HX.out.box
         have xf := HX.out.free
         refine pure_ (i := 6) (N := some 37) (v := ?_) (a' := ?_) #[true,true,true,true,true,true,true,false,false,true,false,false] rfl rfl (by kernel_rfl) (fun _ _ _ h => h) (Or.inl ⟨by rfl, ?_⟩) ?_ ?_
         rotate_left
         · intro w'
           go_simp
           try with_reducible rfl
         rotate_left
         · simp only [Act.put, sA, sB, sC]
           rfl
         refine pure_ (i := 7) (N := some 44) (v := ?_) (a' := ?_) #[true,true,true,true,true,true,true,true,false,true,false,false] rfl rfl (by kernel_rfl) (fun _ _ _ h => h) (Or.inl ⟨by rfl, ?_⟩) ?_ ?_
         rotate_left
         · intro w'
           go_simp
           try with_reducible rfl
         rotate_left
         · simp only [Act.put, sA, sB, sC]
           rfl
         refine pure_ (i := 8) (N := some 45) (v := ?_) (a' := ?_) #[true,true,true,true,true,true,true,true,true,true,false,false] rfl rfl (by kernel_rfl) (fun _ _ _ h => h) (Or.inl ⟨by rfl, ?_⟩) ?_ ?_
         rotate_left
         · intro w'
           go_simp
           try with_reducible rfl
         rotate_left
         · simp only [Act.put, sA, sB, sC]
           rfl
         refine last_ (i := 10) (N := none) #[true,true,true,true,true,true,true,true,true,true,true,false] rfl rfl (by kernel_rfl) (by decide) (fun K hK => ?_)
         go_simp
         refine hK.out _ _ ?_
         clear hK K
         try simp only [Act.put, sA, sB, sC]
         refine pure_ (i := 11) (N := some 9) (v := ?_) (a' := ?_) #[true,true,true,true,true,true,true,true,true,true,true,true] rfl rfl (by kernel_rfl) (fun _ _ _ h => h) (Or.inl ⟨by rfl, ?_⟩) ?_ ?_
         rotate_left
         · intro w'
           go_simp
           try with_reducible rfl
         rotate_left
         · simp only [Act.put, sA, sB, sC]
           rfl
         refine done_ (by kernel_rfl) ?_
         clear x0 x1 x2 x3 x4 x5 x6 xf
         have hx := only_store Y A9 c9 nX w42
         replace HG := Aside0.mk (BlkG.only HG.out hx (fun h => by have h2 : n5 = nX := h; omega))
         replace HW := Aside0.mk (BlkG.only HW.out hx (fun h => by have h2 : n7 = nX := h; omega))
         replace HR := Aside0.mk (Rd.only HR.out hx (fun q hq h => by have h3 : q = nX := h; subst h3; exact Rd.apartG HR.out HX.out hq))
         replace HRW := Aside0.mk (Rd.only HRW.out hx (fun q hq h => by have h3 : q = nX := h; subst h3; exact Rd.apartG HRW.out HX.out hq))
         replace HB := Aside0.mk (Bel.only HB.out hx (fun q hq h => by have h2 : q = nX := h; omega))
         replace HR9 := Aside0.mk (Rd.only HR9.out hx (fun q hq h => by have h3 : q = nX := h; subst h3; exact Rd.apartG HR9.out HX.out hq))
         replace HX := Aside0.mk (BlkG.store (g := Y) (A := A9) (c := c9) HX.out)
         clear hx
         obtain ⟨W55, hW55⟩ : ∃ W, (((((((w42.setCell ⟨nX, 0, none⟩ (.int .i64 Y.id)).setCell ⟨nX, 1, none⟩ (.int .i64 Y.fi)).setCell ⟨nX, 2, none⟩ (.int .i64 Y.tm)).setCell ⟨nX, 3, none⟩ (.int .i64 Y.ht)).setCell ⟨nX, 4, none⟩ (.int .i64 Y.hv)).setCell ⟨nX, 5, none⟩ (.int .i64 Y.hc)).setCell ⟨nX, 6, none⟩ (.slice A9 Y.l.length c9)) = W := ⟨_, rfl⟩
         rw [hW55] at HG HW HR HRW HB HR9 HX ⊢
         clear hW55
         exact tl A9 c9 nX W55 ⟨HG.out, HW.out, HR.out, HRW.out, HB.out, HR9.out, HX.out, ltHG, ltHW, ltB⟩
     intro A9 c9 nX W55 hF
     obtain ⟨kHG, kHW, kHR, kHRW, kHB, kHR9, kHX, ltHG, ltHW, ltB⟩ := hF
     replace HG := Aside0.mk kHG
     replace HW := Aside0.mk kHW
     replace HR := Aside0.mk kHR
     replace HRW := Aside0.mk kHRW
     replace HB := Aside0.mk kHB
     have HR9 := Aside0.mk kHR9
     have HX := Aside0.mk kHX
     clear kHG kHW kHR kHRW kHB kHR9 kHX
     obtain ⟨hg0, hg1, hg2, hg3, hg4, hg5, hg6⟩ := HG.out.box
     obtain ⟨hw0, hw1, hw2, hw3, hw4, hw5, hw6⟩ := HW.out.box
     obtain ⟨hx0, hx1, hx2, hx3, hx4, hx5, hx6⟩ := HX.out.box
     have yf := HG.out.free
     go_wp2_with fail
     go_at_call 18
     refine (rsame_c g g A c A2 c2 _ HR.out HRW.out KSW.out).mono ?_
     rintro e w21 ⟨rfl, hw21⟩
     replace HG := lbG HG hw21
     replace HW := lbG HW hw21
     replace HR := lbR HR hw21
     replace HRW := lbR HRW hw21
     replace HB := lbB HB hw21
     replace HR9 := lbR HR9 hw21
     replace HX := lbG HX hw21
     clear yf
     clear hw21
     clear hg0 hg1 hg2 hg3 hg4 hg5 hg6 hw0 hw1 hw2 hw3 hw4 hw5 hw6 hx0 hx1 hx2 hx3 hx4 hx5 hx6
     obtain ⟨hg0, hg1, hg2, hg3, hg4, hg5, hg6⟩ := HG.out.box
     obtain ⟨hw0, hw1, hw2, hw3, hw4, hw5, hw6⟩ := HW.out.box
     obtain ⟨hx0, hx1, hx2, hx3, hx4, hx5, hx6⟩ := HX.out.box
     by_cases hx0 : x = 0
     · have j1 : (x == 0) = true := beq_iff_eq.2 hx0
       have j2 : (x != 0) = false := by rw [bne, j1]; rfl
       go_wp2_with fail
       go_at_call 15
       refine (gis_calls Y A9 c9 _ HR9.out KI.out).mono ?_
       rintro e w81 ⟨rfl, hw81⟩
       replace HG := lbG HG hw81
       replace HW := lbG HW hw81
       replace HR := lbR HR hw81
       replace HRW := lbR HRW hw81
       replace HB := lbB HB hw81
       replace HR9 := lbR HR9 hw81
       replace HX := lbG HX hw81
       clear hw81
       clear hg0 hg1 hg2 hg3 hg4 hg5 hg6 hw0 hw1 hw2 hw3 hw4 hw5 hw6 hx0 hx1 hx2 hx3 hx4 hx5 hx6
       obtain ⟨hg0, hg1, hg2, hg3, hg4, hg5, hg6⟩ := HG.out.box
       obtain ⟨hw0, hw1, hw2, hw3, hw4, hw5, hw6⟩ := HW.out.box
       obtain ⟨hx0, hx1, hx2, hx3, hx4, hx5, hx6⟩ := HX.out.box
       have yf := HG.out.free
       go_wp2_with fail
       have hx := only_store Y A9 c9 n5 w81
       go_roundw
       case rel => exact ⟨k + 1, by omega, by go_num, ⟨Y, A9, c9, BlkG.store (g := Y) (A := A9) (c := c9) HG.out, Rd.only HR9.out hx (fun q hq h => by have h3 : q = n5 := h; subst h3; exact Rd.apartG HR9.out HG.out hq), HB.out.only hx (fun q hq h => by have h2 : q = n5 := h; have := HS5.out; omega), KI.out, by have := HLE.out; have := HPL.out; have := KM.out.2.2; omega⟩⟩
       case measure => simp [intOf]; omega
     · have j1 : (x == 0) = false := beq_eq_false_iff_ne.2 hx0
       have j2 : (x != 0) = true := by rw [bne, j1]; rfl
       have KS2 : Aside0 (sameG Y g = true) := ⟨KZ.out hx0⟩
       go_wp2_with fail
       go_at_call 18
       refine (rsame_c Y g A9 c9 A c _ HR9.out HR.out KS2.out).mono ?_
       rintro e w91 ⟨rfl, hw91⟩
       replace HG := lbG HG hw91
       replace HW := lbG HW hw91
       replace HR := lbR HR hw91
       replace HRW := lbR HRW hw91
       replace HB := lbB HB hw91
       replace HR9 := lbR HR9 hw91
       replace HX := lbG HX hw91
       clear hw91
       clear hg0 hg1 hg2 hg3 hg4 hg5 hg6 hw0 hw1 hw2 hw3 hw4 hw5 hw6 hx0 hx1 hx2 hx3 hx4 hx5 hx6
       obtain ⟨hg0, hg1, hg2, hg3, hg4, hg5, hg6⟩ := HG.out.box
       obtain ⟨hw0, hw1, hw2, hw3, hw4, hw5, hw6⟩ := HW.out.box
       obtain ⟨hx0, hx1, hx2, hx3, hx4, hx5, hx6⟩ := HX.out.box
       go_wp2_with fail
       go_at_call 15
       refine (gis_calls Y A9 c9 _ HR9.out KI.out).mono ?_
       rintro e w92 ⟨rfl, hw92⟩
       replace HG := lbG HG hw92
       replace HW := lbG HW hw92
       replace HR := lbR HR hw92
       replace HRW := lbR HRW hw92
       replace HB := lbB HB hw92
       replace HR9 := lbR HR9 hw92
       replace HX := lbG HX hw92
       clear hw92
       clear hg0 hg1 hg2 hg3 hg4 hg5 hg6 hw0 hw1 hw2 hw3 hw4 hw5 hw6 hx0 hx1 hx2 hx3 hx4 hx5 hx6
       obtain ⟨hg0, hg1, hg2, hg3, hg4, hg5, hg6⟩ := HG.out.box
       obtain ⟨hw0, hw1, hw2, hw3, hw4, hw5, hw6⟩ := HW.out.box
       obtain ⟨hx0, hx1, hx2, hx3, hx4, hx5, hx6⟩ := HX.out.box
       have yf := HG.out.free
       go_wp2_with fail
       have hx := only_store Y A9 c9 n5 w92
       go_roundw
       case rel => exact ⟨k + 1, by omega, by go_num, ⟨Y, A9, c9, BlkG.store (g := Y) (A := A9) (c := c9) HG.out, Rd.only HR9.out hx (fun q hq h => by have h3 : q = n5 := h; subst h3; exact Rd.apartG HR9.out HG.out hq), HB.out.only hx (fun q hq h => by have h2 : q = n5 := h; have := HS5.out; omega), KI.out, by have := HLE.out; have := HPL.out; have := KM.out.2.2; omega⟩⟩
       case measure => simp [intOf]; omega
   · obtain rfl : k = l.length := by omega
     have d1 : decide ((l.length : Int) < (l.length : Int)) = false := decide_eq_false (by omega)
     have hla := dense_last HD.out
     have hfi := isG_fi HD.out
     have hle := HLE.out
     have q1 : decide (g.fi - 1 ≤ lastG g) = true := decide_eq_true (by omega)
     have q2 : ((g.l.length : Int) == lastG g - g.fi + 1) = true := beq_iff_eq.2 (by omega)
     obtain ⟨LA, hLA⟩ : ∃ x, lastG g = x := ⟨_, rfl⟩
     rw [hLA] at q1 q2 hla
     have KLA := Aside0.mk hLA
     have q3 : decide (LA ≥ g.fi - 1) = true := q1
     have q4 : IntKind.i64.wrap (g.fi - 1) = g.fi - 1 := by rw [i64_w]; unfold wrap64; omega
     have q5 : IntKind.i64.wrap (LA - g.fi) = LA - g.fi := by rw [i64_w]; unfold wrap64; omega
     have q6 : IntKind.i64.wrap (LA - g.fi + 1) = LA - g.fi + 1 := by rw [i64_w]; unfold wrap64; omega
     clear hla hfi hle hLA
     obtain ⟨hg0, hg1, hg2, hg3, hg4, hg5, hg6⟩ := HG.out.box
     go_wp2_with fail
     have hC15 := HC15.out
     simp only [Try.f5] at hC15
     subst hC15
     clear HC15
     go_wp2_with fail
     clear hg0 hg1 hg2 hg3 hg4 hg5 hg6
     replace HG := ldG HG
     replace HR := ldR HR
     replace HB := ldB HB
     refine start_ (n := 19) (S := (fun w' => BoxG g A c n5 w')) (ds := []) #[false,false,false,false,false,false,false,false,false,false,false,false,false,false,false,false,false,false,false] (by kernel_rfl) rfl rfl HG.out.box (fun hHeld => ?_)
     refine take_ (i := 0) (N := some 80) (v := ?_) (a' := ?_) #[true,false,false,false,false,false,false,false,false,false,false,false,false,false,false,false,false,false,false] rfl rfl (by kernel_rfl) (fun _ _ _ h => h) (Or.inl ⟨by rfl, ?_⟩) hHeld ?_ ?_
     rotate_left
     · rintro w' ⟨hg0, hg1, hg2, hg3, hg4, hg5, hg6⟩
       go_simp
       try with_reducible rfl
     rotate_left
     · simp only [Act.put, sA, sB, sC]
       rfl
     refine pure_ (i := 2) (N := some 82) (v := ?_) (a' := ?_) #[true,false,true,false,false,false,false,false,false,false,false,false,false,false,false,false,false,false,false] rfl rfl (by kernel_rfl) (fun _ _ _ h => h) (Or.inl ⟨by rfl, ?_⟩) ?_ ?_
     rotate_left
     · intro w'
       go_simp
       try with_reducible rfl
     rotate_left
     · simp only [Act.put, sA, sB, sC]
       rfl
     refine take_ (i := 3) (N := some 83) (v := ?_) (a' := ?_) #[true,false,true,true,false,false,false,false,false,false,false,false,false,false,false,false,false,false,false] rfl rfl (by kernel_rfl) (fun _ _ _ h => h) (Or.inl ⟨by rfl, ?_⟩) hHeld ?_ ?_
     rotate_left
     · rintro w' ⟨hg0, hg1, hg2, hg3, hg4, hg5, hg6⟩
       go_simp
       try with_reducible rfl
     rotate_left
     · simp only [Act.put, sA, sB, sC]
       rfl
     refine pure_ (i := 4) (N := some 84) (v := ?_) (a' := ?_) #[true,false,true,true,true,false,false,false,false,false,false,false,false,false,false,false,false,false,false] rfl rfl (by kernel_rfl) (fun _ _ _ h => h) (Or.inl ⟨by rfl, ?_⟩) ?_ ?_
     rotate_left
     · intro w'
       go_simp
       try with_reducible rfl
     rotate_left
     · simp only [Act.put, sA, sB, sC]
       rfl
     refine one_ (i := 1) (N := some 81) #[true,true,true,true,true,false,false,false,false,false,false,false,false,false,false,false,false,false,false] rfl rfl (by kernel_rfl) (by decide) (fun K hK => ?_)
     go_simp
     refine (glast_calls g A c _ HR.out KLA.out).mono ?_; rintro e w41 ⟨rfl, hw41⟩; replace HG := lbG HG hw41; replace HR := lbR HR hw41; replace HB := lbB HB hw41; clear hw41
     refine hK.out _ _ ?_ (fun hHeld => ?_)
     · exact HG.out.box
     clear hK K
     try simp only [Act.put, sA, sB, sC]
     refine pure_ (i := 5) (N := some 85) (v := ?_) (a' := ?_) #[true,true,true,true,true,true,false,false,false,false,false,false,false,false,false,false,false,false,false] rfl rfl (by kernel_rfl) (fun _ _ _ h => h) (Or.inl ⟨by rfl, ?_⟩) ?_ ?_
     rotate_left
     · intro w'
       go_simp
       try with_reducible rfl
     rotate_left
     · simp only [Act.put, sA, sB, sC]
       rfl
     refine pure_ (i := 6) (N := some 86) (v := ?_) (a' := ?_) #[true,true,true,true,true,true,true,false,false,false,false,false,false,false,false,false,false,false,false] rfl rfl (by kernel_rfl) (fun _ _ _ h => h) (Or.inl ⟨by rfl, ?_⟩) ?_ ?_
     rotate_left
     · intro w'
       go_simp
       try with_reducible rfl
     rotate_left
     · simp only [Act.put, sA, sB, sC]
       rfl
     refine pure_ (i := 7) (N := some 87) (v := ?_) (a' := ?_) #[true,true,true,true,true,true,true,true,false,false,false,false,false,false,false,false,false,false,false] rfl rfl (by kernel_rfl) (fun _ _ _ h => h) (Or.inl ⟨by rfl, ?_⟩) ?_ ?_
     rotate_left
     · intro w'
       go_simp
       try with_reducible rfl
     rotate_left
     · simp only [Act.put, sA, sB, sC]
       rfl
     refine take_ (i := 8) (N := some 88) (v := ?_) (a' := ?_) #[true,true,true,true,true,true,true,true,true,false,false,false,false,false,false,false,false,false,false] rfl rfl (by kernel_rfl) (fun _ _ _ h => h) (Or.inl ⟨by rfl, ?_⟩) hHeld ?_ ?_
     rotate_left
     · rintro w' ⟨hg0, hg1, hg2, hg3, hg4, hg5, hg6⟩
       go_simp
       try with_reducible rfl
     rotate_left
     · simp only [Act.put, sA, sB, sC]
       rfl
     refine pure_ (i := 9) (N := some 89) (v := ?_) (a' := ?_) #[true,true,true,true,true,true,true,true,true,true,false,false,false,false,false,false,false,false,false] rfl rfl (by kernel_rfl) (fun _ _ _ h => h) (Or.inl ⟨by rfl, ?_⟩) ?_ ?_
     rotate_left
     · intro w'
       go_simp
       try with_reducible rfl
     rotate_left
     · simp only [Act.put, sA, sB, sC]
       rfl
     refine take_ (i := 10) (N := some 90) (v := ?_) (a' := ?_) #[true,true,true,true,true,true,true,true,true,true,true,false,false,false,false,false,false,false,false] rfl rfl (by kernel_rfl) (fun _ _ _ h => h) (Or.inl ⟨by rfl, ?_⟩) hHeld ?_ ?_
     rotate_left
     · rintro w' ⟨hg0, hg1, hg2, hg3, hg4, hg5, hg6⟩
       go_simp
       try with_reducible rfl
     rotate_left
     · simp only [Act.put, sA, sB, sC]
       rfl
     refine pure_ (i := 12) (N := some 92) (v := ?_) (a' := ?_) #[true,true,true,true,true,true,true,true,true,true,true,false,true,false,false,false,false,false,false] rfl rfl (by kernel_rfl) (fun _ _ _ h => h) (Or.inl ⟨by rfl, ?_⟩) ?_ ?_
     rotate_left
     · intro w'
       go_simp
       try with_reducible rfl
     rotate_left
     · simp only [Act.put, sA, sB, sC]
       rfl
     refine take_ (i := 13) (N := some 93) (v := ?_) (a' := ?_) #[true,true,true,true,true,true,true,true,true,true,true,false,true,true,false,false,false,false,false] rfl rfl (by kernel_rfl) (fun _ _ _ h => h) (Or.inl ⟨by rfl, ?_⟩) hHeld ?_ ?_
     rotate_left
     · rintro w' ⟨hg0, hg1, hg2, hg3, hg4, hg5, hg6⟩
       go_simp
       try with_reducible rfl
     rotate_left
     · simp only [Act.put, sA, sB, sC]
       rfl
     refine one_ (i := 11) (N := some 91) #[true,true,true,true,true,true,true,true,true,true,true,true,true,true,false,false,false,false,false] rfl rfl (by kernel_rfl) (by decide) (fun K hK => ?_)
     go_simp
     refine (glast_calls g A c _ HR.out KLA.out).mono ?_; rintro e w42 ⟨rfl, hw42⟩; replace HG := lbG HG hw42; replace HR := lbR HR hw42; replace HB := lbB HB hw42; clear hw42
     refine hK.out _ _ ?_ (fun hHeld => ?_)
     · exact HG.out.box
     clear hK K
     try simp only [Act.put, sA, sB, sC]
     refine pure_ (i := 14) (N := some 94) (v := ?_) (a' := ?_) #[true,true,true,true,true,true,true,true,true,true,true,true,true,true,true,false,false,false,false] rfl rfl (by kernel_rfl) (fun _ _ _ h => h) (Or.inl ⟨by rfl, ?_⟩) ?_ ?_
     rotate_left
     · intro w'
       go_simp
       try with_reducible rfl
     rotate_left
     · simp only [Act.put, sA, sB, sC]
       rfl
     refine pure_ (i := 15) (N := some 95) (v := ?_) (a' := ?_) #[true,true,true,true,true,true,true,true,true,true,true,true,true,true,true,true,false,false,false] rfl rfl (by kernel_rfl) (fun _ _ _ h => h) (Or.inl ⟨by rfl, ?_⟩) ?_ ?_
     rotate_left
     · intro w'
       go_simp
       try with_reducible rfl
     rotate_left
     · simp only [Act.put, sA, sB, sC]
       rfl
     refine pure_ (i := 16) (N := some 96) (v := ?_) (a' := ?_) #[true,true,true,true,true,true,true,true,true,true,true,true,true,true,true,true,true,false,false] rfl rfl (by kernel_rfl) (fun _ _ _ h => h) (Or.inl ⟨by rfl, ?_⟩) ?_ ?_
     rotate_left
     · intro w'
       go_simp
       try with_reducible rfl
     rotate_left
     · simp only [Act.put, sA, sB, sC]
       rfl
     refine pure_ (i := 17) (N := some 97) (v := ?_) (a' := ?_) #[true,true,true,true,true,true,true,true,true,true,true,true,true,true,true,true,true,true,false] rfl rfl (by kernel_rfl) (fun _ _ _ h => h) (Or.inl ⟨by rfl, ?_⟩) ?_ ?_
     rotate_left
     · intro w'
       go_simp
       try with_reducible rfl
     rotate_left
     · simp only [Act.put, sA, sB, sC]
       rfl
     refine pure_ (i := 18) (N := some 4) (v := ?_) (a' := ?_) #[true,true,true,true,true,true,true,true,true,true,true,true,true,true,true,true,true,true,true] rfl rfl (by kernel_rfl) (fun _ _ _ h => h) (Or.inl ⟨by rfl, ?_⟩) ?_ ?_
     rotate_left
     · intro w'
       go_simp
       try with_reducible rfl
     rotate_left
     · simp only [Act.put, sA, sB, sC]
       rfl
     refine done_ (by kernel_rfl) ?_
     clear hHeld
     obtain ⟨hg0, hg1, hg2, hg3, hg4, hg5, hg6⟩ := HG.out.box
     go_wp2
     go_ret
     exact ⟨rfl, HB.out.b⟩
end Go.Proofs.Ytlfdmlacadoolaa.PartW
namespace Go.Proofs.Ytlfdmlacadoolaa.Pure
open Go Go.RowKit Go.Proofs.Ytlfdmlacadoolaa.Sp Go.Proofs.Ytlfdmlacadoolaa.PartW
theorem GroupStands.walk (g : Grp) (A : Option Addr) (c : Nat) (l : List Prt) (Al : Option Addr) (cl : Nat) (w : World) (hg : Rd w A c g.l) (hl : RdP w Al cl l) :
    Calls Try.prog 5 #[vG g A c, .slice Al l.length cl] w fun e w' => e = .returned (.bool true) ∧ Below w.heap.size w w' := by
  obtain ⟨r1, hq1, hf1⟩ := few_group g hg.bd
  cases x1 : r1 with
  | false => exact stands6_n1 g A c l Al cl w hg hl hf1 hq1 x1
  | true =>
    cases x2 : fewL l with
    | false => exact stands6_n2 g A c l Al cl w hg hl hf1 hq1 x1 x2
    | true =>
      cases x3 : isG true g with
      | false => exact stands6_n3 g A c l Al cl w hg hl hf1 hq1 x1 x2 x3
      | true => exact stands6_z g A c l Al cl w hg hl hf1 hq1 x1 x2 x3
end Go.Proofs.Ytlfdmlacadoolaa.Pure
