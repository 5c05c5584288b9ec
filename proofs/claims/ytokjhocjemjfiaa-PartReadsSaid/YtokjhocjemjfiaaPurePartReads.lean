/- The statement PartReads: the walk; no condition beyond the row's. -/
import Derived.Test.YtokjhocjemjfiaaLwR
set_option linter.unusedVariables false
set_option linter.unusedSimpArgs false
namespace Go.Proofs.Ytokjhocjemjfiaa.PartW
open Go Go.RowKit Go.Shelf Go.Proofs.Ytokjhocjemjfiaa.A Go.Proofs.Ytokjhocjemjfiaa.Sp Go.Proofs.Ytokjhocjemjfiaa.Reg Go.Proofs.Ytokjhocjemjfiaa.Seq Go.Proofs.Ytokjhocjemjfiaa.CodeW Go.Proofs.Ytokjhocjemjfiaa.CodeQ Go.Proofs.Ytokjhocjemjfiaa.Given Go.Proofs.YtokjhocjemjfiaaW.PrintWords Go.Proofs.YtokjhocjemjfiaaW.PrintLast Go.Proofs.YtokjhocjemjfiaaW.PrintMore
set_option maxHeartbeats 8000000 in
set_option maxRecDepth 100000 in
theorem reads4_far (s : ByteArray) (w : World) (hs : s.size ≤ 140737488351232) (hz : 600 < s.size) :
  Calls Try.prog 4 #[.string s] w fun e w' => e = .returned (.bool true) ∧ Below w.heap.size w w' := by
 have HB := Aside0.mk (Bel.refl w)
 have HS := Aside0.mk hs
 have d1 : decide ((s.size : Int) > 600) = true := decide_eq_true (by omega)
 have d2 : decide (600 < (s.size : Int)) = true := d1
 have d3 : decide (600 < s.size) = true := decide_eq_true (by omega)
 clear hs hz
 go_enter Try.func4, Try.ntmps4
 go_wp2_with fail
 go_at_call 10
 refine (known4 _).mono ?_
 rintro e w1 ⟨rfl, hw1⟩
 replace HB := lbB HB hw1
 clear hw1
 go_wp2_with fail
 go_ret
 exact ⟨rfl, HB.out.b⟩
set_option maxHeartbeats 8000000 in
set_option maxRecDepth 100000 in
theorem reads4_go (s : ByteArray) (w : World) (hs : s.size ≤ 140737488351232) (hz : ¬ 600 < s.size) :
  Calls Try.prog 4 #[.string s] w fun e w' => e = .returned (.bool true) ∧ Below w.heap.size w w' := by
 have HB := Aside0.mk (Bel.refl w)
 have HS := Aside0.mk hs
 have d1 : decide ((s.size : Int) > 600) = false := decide_eq_false (by omega)
 have d2 : decide (600 < (s.size : Int)) = false := d1
 have d3 : decide (600 < s.size) = false := decide_eq_false (by omega)
 clear hs hz
 obtain ⟨P, n, e, hP⟩ : ∃ P n e, progR s = (P, (n, e)) := ⟨_, _, _, rfl⟩
 have EP := Aside0.mk hP
 have EQ : Aside0 (docR s = (P, (n, e))) := ⟨by rw [← prog_doc]; exact hP⟩
 clear hP
 go_enter Try.func4, Try.ntmps4
 obtain ⟨C3, hC3⟩ : ∃ C, (match Try.f4.body with | some (.seq _ (.seq _ (.seq _ c))) => c | _ => .skip) = C := ⟨_, rfl⟩
 have HC3 := Aside0.mk hC3
 simp only [Try.f4] at hC3
 rw [hC3]
 clear hC3
 go_wp2_with fail
 go_at_call 10
 refine (known4 _).mono ?_
 rintro e w1 ⟨rfl, hw1⟩
 replace HB := lbB HB hw1
 clear hw1
 go_wp2_with fail
 have hC3 := HC3.out
 simp only [Try.f4] at hC3
 subst hC3
 clear HC3
 obtain ⟨C4, hC4⟩ : ∃ C, (match Try.f4.body with | some (.seq _ (.seq _ (.seq _ (.seq _ c)))) => c | _ => .skip) = C := ⟨_, rfl⟩
 have HC4 := Aside0.mk hC4
 simp only [Try.f4] at hC4
 rw [hC4]
 clear hC4
 go_wp2_with fail
 go_at_call 20
 refine (readc s _ HS.out EP.out).mono ?_
 rintro e w2 ⟨A1, c1, rfl, hrd, hw2⟩
 replace HB := lbB HB hw2
 have HR1 := Aside0.mk hrd
 clear hrd
 clear hw2
 unfold vP
 go_wp2_with fail
 obtain ⟨n1, hn1⟩ : ∃ n, w2.heap.size = n := ⟨_, rfl⟩
 try rw [hn1]
 replace HB := laB HB (.cells #[.int .i64 P.g, .int .i64 P.k, .slice A1 P.l.length c1, .int .i64 P.ht, .int .i64 P.hv, .int .i64 P.hc, .int .i64 P.ix, .int .i64 P.tm, .bool P.mrk, .bool P.hed] 26)
 replace HR1 := laR HR1 (.cells #[.int .i64 P.g, .int .i64 P.k, .slice A1 P.l.length c1, .int .i64 P.ht, .int .i64 P.hv, .int .i64 P.hc, .int .i64 P.ix, .int .i64 P.tm, .bool P.mrk, .bool P.hed] 26)
 have HP : Aside0 (BlkP P A1 c1 n1 (w2.alloc (.cells #[.int .i64 P.g, .int .i64 P.k, .slice A1 P.l.length c1, .int .i64 P.ht, .int .i64 P.hv, .int .i64 P.hc, .int .i64 P.ix, .int .i64 P.tm, .bool P.mrk, .bool P.hed] 26))) := ⟨(by have hq := BlkP.new P A1 c1 w2; rw [hn1] at hq; exact hq)⟩
 obtain ⟨W1, hW1⟩ : ∃ W, w2.alloc (.cells #[.int .i64 P.g, .int .i64 P.k, .slice A1 P.l.length c1, .int .i64 P.ht, .int .i64 P.hv, .int .i64 P.hc, .int .i64 P.ix, .int .i64 P.tm, .bool P.mrk, .bool P.hed] 26) = W := ⟨_, rfl⟩
 rw [hW1] at HB HR1 HP ⊢
 clear hW1
 clear hn1
 have hC4 := HC4.out
 simp only [Try.f4] at hC4
 subst hC4
 clear HC4
 obtain ⟨C5, hC5⟩ : ∃ C, (match Try.f4.body with | some (.seq _ (.seq _ (.seq _ (.seq _ (.seq _ c))))) => c | _ => .skip) = C := ⟨_, rfl⟩
 have HC5 := Aside0.mk hC5
 simp only [Try.f4] at hC5
 rw [hC5]
 clear hC5
 go_wp2_with fail
 go_at_call 21
 refine (rreadc s _ HS.out EQ.out).mono ?_
 rintro e w3 ⟨A2, c2, rfl, hrd, hw3⟩
 replace HB := lbB HB hw3
 replace HR1 := lbR HR1 hw3
 replace HP := lbP HP hw3
 have HR2 := Aside0.mk hrd
 clear hrd
 clear hw3
 obtain ⟨hp0, hp1, hp2, hp3, hp4, hp5, hp6, hp7, hp8, hp9⟩ := HP.out.box
 unfold vP
 go_wp2_with fail
 obtain ⟨n2, hn2⟩ : ∃ n, w3.heap.size = n := ⟨_, rfl⟩
 try rw [hn2]
 clear hp0 hp1 hp2 hp3 hp4 hp5 hp6 hp7 hp8 hp9
 replace HB := laB HB (.cells #[.int .i64 P.g, .int .i64 P.k, .slice A2 P.l.length c2, .int .i64 P.ht, .int .i64 P.hv, .int .i64 P.hc, .int .i64 P.ix, .int .i64 P.tm, .bool P.mrk, .bool P.hed] 26)
 replace HR1 := laR HR1 (.cells #[.int .i64 P.g, .int .i64 P.k, .slice A2 P.l.length c2, .int .i64 P.ht, .int .i64 P.hv, .int .i64 P.hc, .int .i64 P.ix, .int .i64 P.tm, .bool P.mrk, .bool P.hed] 26)
 replace HP := laP HP (.cells #[.int .i64 P.g, .int .i64 P.k, .slice A2 P.l.length c2, .int .i64 P.ht, .int .i64 P.hv, .int .i64 P.hc, .int .i64 P.ix, .int .i64 P.tm, .bool P.mrk, .bool P.hed] 26)
 replace HR2 := laR HR2 (.cells #[.int .i64 P.g, .int .i64 P.k, .slice A2 P.l.length c2, .int .i64 P.ht, .int .i64 P.hv, .int .i64 P.hc, .int .i64 P.ix, .int .i64 P.tm, .bool P.mrk, .bool P.hed] 26)
 have HQ : Aside0 (BlkP P A2 c2 n2 (w3.alloc (.cells #[.int .i64 P.g, .int .i64 P.k, .slice A2 P.l.length c2, .int .i64 P.ht, .int .i64 P.hv, .int .i64 P.hc, .int .i64 P.ix, .int .i64 P.tm, .bool P.mrk, .bool P.hed] 26))) := ⟨(by have hq := BlkP.new P A2 c2 w3; rw [hn2] at hq; exact hq)⟩
 obtain ⟨W2, hW2⟩ : ∃ W, w3.alloc (.cells #[.int .i64 P.g, .int .i64 P.k, .slice A2 P.l.length c2, .int .i64 P.ht, .int .i64 P.hv, .int .i64 P.hc, .int .i64 P.ix, .int .i64 P.tm, .bool P.mrk, .bool P.hed] 26) = W := ⟨_, rfl⟩
 rw [hW2] at HB HR1 HP HR2 HQ ⊢
 clear hW2
 clear hn2
 have hC5 := HC5.out
 simp only [Try.f4] at hC5
 subst hC5
 clear HC5
 obtain ⟨hp0, hp1, hp2, hp3, hp4, hp5, hp6, hp7, hp8, hp9⟩ := HP.out.box
 obtain ⟨hq0, hq1, hq2, hq3, hq4, hq5, hq6, hq7, hq8, hq9⟩ := HQ.out.box
 go_wp2_with fail
 go_at_call 19
 refine (rsamep P P A1 c1 A2 c2 _ HR1.out HR2.out (sameP_iff.2 rfl)).mono ?_
 rintro e w4 ⟨rfl, hw4⟩
 replace HB := lbB HB hw4
 replace HR1 := lbR HR1 hw4
 replace HP := lbP HP hw4
 replace HR2 := lbR HR2 hw4
 replace HQ := lbP HQ hw4
 clear hw4
 clear hp0 hp1 hp2 hp3 hp4 hp5 hp6 hp7 hp8 hp9 hq0 hq1 hq2 hq3 hq4 hq5 hq6 hq7 hq8 hq9
 obtain ⟨hp0, hp1, hp2, hp3, hp4, hp5, hp6, hp7, hp8, hp9⟩ := HP.out.box
 obtain ⟨hq0, hq1, hq2, hq3, hq4, hq5, hq6, hq7, hq8, hq9⟩ := HQ.out.box
 go_wp2_with fail
 go_ret
 exact ⟨rfl, HB.out.b⟩
theorem reads4_walk (s : ByteArray) (w : World) (hs : s.size ≤ 140737488351232) : Calls Try.prog 4 #[.string s] w fun e w' => e = .returned (.bool true) ∧ Below w.heap.size w w' := by
  by_cases hz : 600 < s.size
  · exact reads4_far s w hs hz
  · exact reads4_go s w hs hz
end Go.Proofs.Ytokjhocjemjfiaa.PartW
namespace Go.Proofs.Ytokjhocjemjfiaa.Pure
open Go Go.RowKit Go.Proofs.Ytokjhocjemjfiaa.Sp Go.Proofs.Ytokjhocjemjfiaa.PartW
theorem PartReads.walk (s : ByteArray) (w : World) (hs : s.size ≤ 140737488351232) :
    Calls Try.prog 4 #[.string s] w fun e w' => e = .returned (.bool true) ∧ Below w.heap.size w w' := reads4_walk s w hs
end Go.Proofs.Ytokjhocjemjfiaa.Pure
