/- The walk of ladelaw12.known. -/
import Derived.Test.YtfnflbclhaeedaaDo
import Derived.Test.YtfnflbclhaeedaaMe
set_option linter.unusedVariables false
set_option linter.unusedSimpArgs false
namespace Go.Proofs.Ytfnflbclhaeedaa.Sp
open Go Go.RowKit Go.Proofs.Ytfnflbclhaeedaa.A Go.Proofs.Ytfnflbclhaeedaa.Seq Go.Proofs.YtfnflbclhaeedaaW.PrintWords Go.Proofs.YtfnflbclhaeedaaW.PrintLast Go.Proofs.YtfnflbclhaeedaaW.PrintMore
/-- entries in a block of their own -/
theorem Rd.made (w : World) (l : List Ent) (hl : l.length ≤ 4398046511104) : Rd (w.alloc (.cells (flatE l).toArray 38)) (some ⟨w.heap.size, 0, none⟩) l.length l := by
  refine ⟨⟨rfl, by omega, fun _ => ⟨_, rfl, fun j p hj => ?_⟩⟩, Nat.le_refl _, hl⟩
  refine ⟨cellsE p, rfl, k38_mk _ p, fun i u hu => ?_⟩
  have hi : i < 3 := by
    have := (List.getElem?_eq_some_iff.1 hu).1
    exact this
  have h1 := flatE_at l j p hj
  have h2 : (flatE l)[j * 3 + i]? = some u := by
    rw [← hu, ← h1, List.getElem?_take_of_lt hi, List.getElem?_drop]
  have h3 : (⟨w.heap.size, 0, none⟩ : Addr).add (j * k38.sz + i) = ⟨w.heap.size, j * 3 + i, none⟩ := by
    show (⟨w.heap.size, 0, none⟩ : Addr).add (j * 3 + i) = _
    unfold Addr.add
    dsimp only
    split
    · next h => rw [h]
    · rw [Nat.zero_add]
  rw [h3]
  exact (cell_of_row _ w.heap.size (j * 3 + i) _ _ _ (World.alloc_heap_new w _)).trans (by rw [List.getElem?_toArray]; exact h2)
theorem le42 {n : Nat} (h : n ≤ 1000) : n ≤ 4398046511104 := by omega
def p12a : Prt := ⟨3, 1, [⟨5, 1, ⟨#[]⟩⟩], 0, 0, 0, 0, 0, false, false⟩
def p12b : Prt := ⟨3, 6, [⟨3, 1, ⟨#[]⟩⟩, ⟨4, 1, ⟨#[]⟩⟩], 0, 0, 0, 2, 1, true, false⟩
def g12a : Grp := ⟨3, 1, 0, 0, 0, 0, []⟩
def g12b : Grp := ⟨3, 1, 0, 0, 0, 0, [⟨5, 1, ⟨#[]⟩⟩]⟩
def g12c : Grp := ⟨3, 3, 1, 0, 0, 0, [⟨3, 1, ⟨#[]⟩⟩, ⟨4, 1, ⟨#[]⟩⟩, ⟨5, 1, ⟨#[]⟩⟩]⟩
theorem known1 : doG g12a p12a = g12b := by rfl
theorem known2 : doG g12b p12b = g12c := by rfl
theorem known3 : isG false g12b = true ∧ isG true g12b = false ∧ isG true g12c = true := by decide
end Go.Proofs.Ytfnflbclhaeedaa.Sp
namespace Go.Proofs.Ytfnflbclhaeedaa.PartW
open Go Go.RowKit Go.Shelf Go.Proofs.Ytfnflbclhaeedaa.A Go.Proofs.Ytfnflbclhaeedaa.Sp Go.Proofs.Ytfnflbclhaeedaa.Reg Go.Proofs.Ytfnflbclhaeedaa.Seq Go.Proofs.YtfnflbclhaeedaaW.PrintWords Go.Proofs.YtfnflbclhaeedaaW.PrintLast Go.Proofs.YtfnflbclhaeedaaW.PrintMore
set_option maxHeartbeats 4000000 in
set_option maxRecDepth 100000 in
theorem known12 (w : World) : Calls Try.prog 9 #[] w fun e w' => e = .returned (.bool true) ∧ Below w.heap.size w w' := by
  go_enter Try.func9, Try.ntmps9
  have hr1 := (Rd.made (w.alloc (.cells #[.int .i64 3, .int .i64 1, .int .i64 0, .int .i64 0, .int .i64 0, .int .i64 0, .slice none 0 0] 26)) [⟨5, 1, ⟨#[]⟩⟩] (le42 (by decide))).alloc (.cells #[.int .i64 3, .int .i64 1, .slice (some ⟨w.heap.size + 1, 0, none⟩) 1 1, .int .i64 0, .int .i64 0, .int .i64 0, .int .i64 0, .int .i64 0, .bool false, .bool false] 28)
  rw [World.size_alloc] at hr1
  have hc1 := sparse_Do ⟨3, 1, 0, 0, 0, 0, []⟩ none 0 ⟨3, 1, [⟨5, 1, ⟨#[]⟩⟩], 0, 0, 0, 0, 0, false, false⟩ (some ⟨w.heap.size + 1, 0, none⟩) 1 _ (Rd.nil _) hr1 (le42 (by decide))
  rw [show doG ⟨3, 1, 0, 0, 0, 0, []⟩ ⟨3, 1, [⟨5, 1, ⟨#[]⟩⟩], 0, 0, 0, 0, 0, false, false⟩ = (⟨3, 1, 0, 0, 0, 0, [⟨5, 1, ⟨#[]⟩⟩]⟩ : Grp) from known1] at hc1
  unfold vG vP at hc1
  dsimp only [flatE, cellsE, List.append, List.length, HAppend.hAppend, Append.append] at hc1
  simp only [Nat.zero_add] at hc1
  have HC1 := Aside0.mk hc1
  clear hr1 hc1
  go_wp2_with fail
  go_at_call 12
  refine HC1.out.mono ?_
  rintro e w1 ⟨A1, c1, rfl, hrd1, hw1⟩
  have HRD1 := Aside0.mk hrd1
  have HW1 := Aside0.mk hw1
  clear hrd1 hw1 HC1
  dsimp only [vG, List.length_cons, List.length_nil, Nat.zero_add]
  obtain ⟨n, hn⟩ : ∃ n, w1.heap.size = n := ⟨_, rfl⟩
  have HN := Aside0.mk hn
  go_wp2_with fail
  have hr2 := Rd.made (w1.alloc (.cells #[.int .i64 3, .int .i64 1, .int .i64 0, .int .i64 0, .int .i64 0, .int .i64 0, .slice A1 1 c1] 26)) [⟨3, 1, ⟨#[]⟩⟩, ⟨4, 1, ⟨#[]⟩⟩] (le42 (by decide))
  rw [World.size_alloc, HN.out] at hr2
  have hg2 := (BlkG.new ⟨3, 1, 0, 0, 0, 0, [⟨5, 1, ⟨#[]⟩⟩]⟩ A1 c1 w1).alloc (.cells #[.int .i64 3, .int .i64 1, .string ⟨#[]⟩, .int .i64 4, .int .i64 1, .string ⟨#[]⟩] 38)
  rw [HN.out] at hg2
  have hc2 := sparse_Do ⟨3, 1, 0, 0, 0, 0, [⟨5, 1, ⟨#[]⟩⟩]⟩ A1 c1 ⟨3, 6, [⟨3, 1, ⟨#[]⟩⟩, ⟨4, 1, ⟨#[]⟩⟩], 0, 0, 0, 2, 1, true, false⟩ (some ⟨n + 1, 0, none⟩) 2 _ ((HRD1.out.alloc _).alloc _) hr2 (le42 (by decide))
  rw [show doG ⟨3, 1, 0, 0, 0, 0, [⟨5, 1, ⟨#[]⟩⟩]⟩ ⟨3, 6, [⟨3, 1, ⟨#[]⟩⟩, ⟨4, 1, ⟨#[]⟩⟩], 0, 0, 0, 2, 1, true, false⟩ = (⟨3, 3, 1, 0, 0, 0, [⟨3, 1, ⟨#[]⟩⟩, ⟨4, 1, ⟨#[]⟩⟩, ⟨5, 1, ⟨#[]⟩⟩]⟩ : Grp) from known2] at hc2
  unfold vG vP at hc2
  dsimp only [flatE, cellsE, List.append, List.length, HAppend.hAppend, Append.append] at hc2 hg2
  simp only [Nat.zero_add, Nat.reduceAdd] at hc2
  go_at_call 12
  refine hc2.mono ?_
  clear hc2
  rintro e w2 ⟨A2, c2, rfl, hrd2, hw2⟩
  have HG2 := Aside0.mk (BlkG.below hg2 hw2)
  obtain ⟨h0, h1, h2, h3, h4, h5, h6⟩ := (BlkG.below hg2 hw2).box
  have hb2 : Below w.heap.size w w2 := by
    refine (((((Below.refl _ w).alloc (Nat.le_refl _) _).alloc (by simp) _).alloc (by simp; omega) _).trans (HW1.out.mono (by simp; omega))).trans ?_
    refine (((Below.refl w1.heap.size w1).alloc (Nat.le_refl _) _).alloc (by simp) _).trans (hw2.mono (by simp; omega)) |>.mono ?_
    have := HW1.out.size; simp at this; omega
  have HB2 := Aside0.mk hb2
  have HRD2 := Aside0.mk hrd2
  have HRD1b := Aside0.mk (((HRD1.out.alloc _).alloc _).below hw2)
  clear hr2 hg2 hrd2 hw2 hb2 hn
  dsimp only [vG, List.length_cons, List.length_nil, Nat.zero_add, Nat.reduceAdd] at h0 h1 h2 h3 h4 h5 h6 ⊢
  obtain ⟨m, hm⟩ : ∃ m, w2.heap.size = m := ⟨_, rfl⟩
  have HM := Aside0.mk hm
  have hnm : n < m := by rw [← hm]; exact HG2.out.lt
  have hnm1 : n ≠ m := by omega
  have hnm2 : m ≠ n := by omega
  go_wp2_with fail
  have hm0 := BlkG.new ⟨3, 3, 1, 0, 0, 0, [⟨3, 1, ⟨#[]⟩⟩, ⟨4, 1, ⟨#[]⟩⟩, ⟨5, 1, ⟨#[]⟩⟩]⟩ A2 c2 w2
  rw [HM.out] at hm0
  have HM2 := Aside0.mk hm0
  have HN2 := Aside0.mk (HG2.out.alloc (.cells #[.int .i64 3, .int .i64 3, .int .i64 1, .int .i64 0, .int .i64 0, .int .i64 0, .slice A2 3 c2] 26))
  have HX12 := Aside0.mk (HRD1b.out.alloc (.cells #[.int .i64 3, .int .i64 3, .int .i64 1, .int .i64 0, .int .i64 0, .int .i64 0, .slice A2 3 c2] 26))
  have HX22 := Aside0.mk (HRD2.out.alloc (.cells #[.int .i64 3, .int .i64 3, .int .i64 1, .int .i64 0, .int .i64 0, .int .i64 0, .slice A2 3 c2] 26))
  have HBB2 := Aside0.mk (HB2.out.alloc (by have := HB2.out.size; omega) (.cells #[.int .i64 3, .int .i64 3, .int .i64 1, .int .i64 0, .int .i64 0, .int .i64 0, .slice A2 3 c2] 26))
  clear hm0 hm
  dsimp only [List.length_cons, List.length_nil, Nat.zero_add, Nat.reduceAdd] at HM2
  go_at_call 13
  have hc3 := sparse_Is ⟨3, 1, 0, 0, 0, 0, [⟨5, 1, ⟨#[]⟩⟩]⟩ A1 c1 _ HX12.out
  rw [show isG false ⟨3, 1, 0, 0, 0, 0, [⟨5, 1, ⟨#[]⟩⟩]⟩ = true from known3.1] at hc3
  unfold vG at hc3
  dsimp only [List.length_cons, List.length_nil, Nat.zero_add, Nat.reduceAdd] at hc3
  refine hc3.mono ?_
  clear hc3
  rintro e w3 ⟨rfl, hw3⟩
  have HN3 := Aside0.mk (BlkG.below HN2.out hw3)
  have HM3 := Aside0.mk (BlkG.below HM2.out hw3)
  have HX13 := Aside0.mk (Rd.below HX12.out hw3)
  have HX23 := Aside0.mk (Rd.below HX22.out hw3)
  have HBB3 := Aside0.mk (HBB2.out.trans (hw3.mono HBB2.out.size))
  clear hw3 h0 h1 h2 h3 h4 h5 h6 
  obtain ⟨h0, h1, h2, h3, h4, h5, h6⟩ := HN3.out.box
  obtain ⟨q0, q1, q2, q3, q4, q5, q6⟩ := HM3.out.box
  dsimp only [vG, List.length_cons, List.length_nil, Nat.zero_add, Nat.reduceAdd] at h0 h1 h2 h3 h4 h5 h6 q0 q1 q2 q3 q4 q5 q6
  go_wp2_with fail
  go_at_call 15
  have hc4 := sparse_Dense ⟨3, 1, 0, 0, 0, 0, [⟨5, 1, ⟨#[]⟩⟩]⟩ A1 c1 _ HX13.out
  rw [show isG true ⟨3, 1, 0, 0, 0, 0, [⟨5, 1, ⟨#[]⟩⟩]⟩ = false from known3.2.1] at hc4
  unfold vG at hc4
  dsimp only [List.length_cons, List.length_nil, Nat.zero_add, Nat.reduceAdd] at hc4
  refine hc4.mono ?_
  clear hc4
  rintro e w4 ⟨rfl, hw4⟩
  have HN4 := Aside0.mk (BlkG.below HN3.out hw4)
  have HM4 := Aside0.mk (BlkG.below HM3.out hw4)
  have HX14 := Aside0.mk (Rd.below HX13.out hw4)
  have HX24 := Aside0.mk (Rd.below HX23.out hw4)
  have HBB4 := Aside0.mk (HBB3.out.trans (hw4.mono HBB3.out.size))
  clear hw4 h0 h1 h2 h3 h4 h5 h6 q0 q1 q2 q3 q4 q5 q6
  obtain ⟨h0, h1, h2, h3, h4, h5, h6⟩ := HN4.out.box
  obtain ⟨q0, q1, q2, q3, q4, q5, q6⟩ := HM4.out.box
  dsimp only [vG, List.length_cons, List.length_nil, Nat.zero_add, Nat.reduceAdd] at h0 h1 h2 h3 h4 h5 h6 q0 q1 q2 q3 q4 q5 q6
  go_wp2_with fail
  go_at_call 15
  have hc5 := sparse_Dense ⟨3, 3, 1, 0, 0, 0, [⟨3, 1, ⟨#[]⟩⟩, ⟨4, 1, ⟨#[]⟩⟩, ⟨5, 1, ⟨#[]⟩⟩]⟩ A2 c2 _ HX24.out
  rw [show isG true ⟨3, 3, 1, 0, 0, 0, [⟨3, 1, ⟨#[]⟩⟩, ⟨4, 1, ⟨#[]⟩⟩, ⟨5, 1, ⟨#[]⟩⟩]⟩ = true from known3.2.2] at hc5
  unfold vG at hc5
  dsimp only [List.length_cons, List.length_nil, Nat.zero_add, Nat.reduceAdd] at hc5
  refine hc5.mono ?_
  clear hc5
  rintro e w5 ⟨rfl, hw5⟩
  have HN5 := Aside0.mk (BlkG.below HN4.out hw5)
  have HM5 := Aside0.mk (BlkG.below HM4.out hw5)
  have HX15 := Aside0.mk (Rd.below HX14.out hw5)
  have HX25 := Aside0.mk (Rd.below HX24.out hw5)
  have HBB5 := Aside0.mk (HBB4.out.trans (hw5.mono HBB4.out.size))
  clear hw5 h0 h1 h2 h3 h4 h5 h6 q0 q1 q2 q3 q4 q5 q6
  obtain ⟨h0, h1, h2, h3, h4, h5, h6⟩ := HN5.out.box
  obtain ⟨q0, q1, q2, q3, q4, q5, q6⟩ := HM5.out.box
  dsimp only [vG, List.length_cons, List.length_nil, Nat.zero_add, Nat.reduceAdd] at h0 h1 h2 h3 h4 h5 h6 q0 q1 q2 q3 q4 q5 q6
  go_wp2_with fail
  go_ret
  exact ⟨rfl, HBB5.out⟩
end Go.Proofs.Ytfnflbclhaeedaa.PartW
