/- The statement SparseMarks: what is up to the mark doesn't come back; no condition beyond the row's. -/
import Derived.Test.YtfnflbclhaeedaaKnown
set_option linter.unusedVariables false
set_option linter.unusedSimpArgs false
namespace Go.Proofs.Ytfnflbclhaeedaa.Sp
open Go Go.RowKit Go.Proofs.Ytfnflbclhaeedaa.A Go.Proofs.Ytfnflbclhaeedaa.Seq Go.Proofs.YtfnflbclhaeedaaW.PrintWords Go.Proofs.YtfnflbclhaeedaaW.PrintLast Go.Proofs.YtfnflbclhaeedaaW.PrintMore
theorem marks_isG (k f : Int) (l : List Ent) (hk : 0 ≤ k ∧ k ≤ 255) (hf : 1 ≤ f ∧ f ≤ 1000) (t : Int) (ht : 0 ≤ t ∧ t ≤ 100) (hl : (List.range l.length).all (okG false f l) = true) : isG false ⟨k, f, t, 0, 0, 0, l⟩ = true := by
  unfold isG headG isH
  rw [hl, Bool.and_true, decide_eq_true (by dsimp only; omega), decide_eq_true (by dsimp only; omega)]
  rfl
theorem marks1 (k mark : Int) (hk : 0 ≤ k ∧ k ≤ 255) (hm : 1 ≤ mark ∧ mark ≤ 20) : doG ⟨k, 1, 0, 0, 0, 0, []⟩ ⟨k, 3, [], 0, 0, 0, mark, 7, false, false⟩ = ⟨k, mark + 1, 7, 0, 0, 0, []⟩ := by
  rw [doG, if_pos ⟨marks_isG k (1 : Int) [] hk (by decide) (0 : Int) (by decide) rfl, by unfold isP; simp [noL, noH, isM]; omega, rfl⟩]
  show goneG _ _ _ = _
  unfold goneG
  rw [if_neg (by show ¬ mark < 1; omega), if_neg (by show ¬ (7 : Int) = 0; decide)]
  rfl
theorem marks2 (k mark i : Int) (hk : 0 ≤ k ∧ k ≤ 255) (hm : 1 ≤ mark ∧ mark ≤ 20) (hi : 1 ≤ i ∧ i ≤ 30) (L : List Ent) (hL : L = if mark < i then [⟨i, 2, ⟨#[]⟩⟩] else []) : doG ⟨k, mark + 1, 7, 0, 0, 0, []⟩ ⟨k, 6, [⟨i, 2, ⟨#[]⟩⟩], 0, 0, 0, 0, 0, false, false⟩ = ⟨k, mark + 1, 7, 0, 0, 0, L⟩ := by
  have he : isE ⟨i, 2, ⟨#[]⟩⟩ = true := by unfold isE; apply decide_eq_true; refine ⟨hi.1, by show i ≤ _; omega, by show (1 : Int) ≤ 2; omega, by show (2 : Int) ≤ _; omega, by show 0 ≤ 40; omega⟩
  have hp : isP ⟨k, 6, [⟨i, 2, ⟨#[]⟩⟩], 0, 0, 0, 0, 0, false, false⟩ = true := by
    unfold isP risB
    simp [okR, el, he, noL, noH, noM]
    try omega
  rw [doG, if_pos ⟨marks_isG k (mark + 1) [] hk (by omega) (7 : Int) (by decide) rfl, hp, rfl⟩]
  · show (⟨k, mark + 1, 7, 0, 0, 0, fillW (mark + 1) [] [⟨i, 2, ⟨#[]⟩⟩]⟩ : Grp) = _
    rw [hL]
    congr 1
    show stepW (mark + 1) [] ⟨i, 2, ⟨#[]⟩⟩ = _
    unfold stepW
    by_cases h : mark < i
    · rw [if_pos h, if_neg (by rintro (h2 | h2); · exact absurd (show i < mark + 1 from h2) (by omega)
                               · exact absurd (show (0 : Int) ≤ -1 from h2) (by decide))]
      rfl
    · rw [if_neg h, if_pos (.inl (show i < mark + 1 by omega))]
theorem marks_L (k mark i : Int) (hk : 0 ≤ k ∧ k ≤ 255) (hm : 1 ≤ mark ∧ mark ≤ 20) (hi : 1 ≤ i ∧ i ≤ 30) (L : List Ent) (hL : L = if mark < i then [⟨i, 2, ⟨#[]⟩⟩] else []) : isG false ⟨k, mark + 1, 7, 0, 0, 0, L⟩ = true := by
  have he : isE ⟨i, 2, ⟨#[]⟩⟩ = true := by unfold isE; apply decide_eq_true; refine ⟨hi.1, by show i ≤ _; omega, by show (1 : Int) ≤ 2; omega, by show (2 : Int) ≤ _; omega, by show 0 ≤ 40; omega⟩
  refine marks_isG k (mark + 1) L hk (by omega) (7 : Int) (by decide) ?_
  rw [hL]
  by_cases h : mark < i
  · rw [if_pos h]
    simp [okG, el, he, nxt]
    omega
  · rw [if_neg h]; rfl
theorem marks3 (k mark i hm : Int) (hk : 0 ≤ k ∧ k ≤ 255) (hm' : 1 ≤ mark ∧ mark ≤ 20) (hi : 1 ≤ i ∧ i ≤ 30) (hh : 1 ≤ hm ∧ hm ≤ mark) (L : List Ent) (hL : L = if mark < i then [⟨i, 2, ⟨#[]⟩⟩] else []) : doG ⟨k, mark + 1, 7, 0, 0, 0, L⟩ ⟨k, 6, [], 0, 0, 0, hm, 3, true, false⟩ = ⟨k, mark + 1, 7, 0, 0, 0, L⟩ := by
  rw [doG, if_pos ⟨marks_L k mark i hk hm' hi L hL, by unfold isP risB; simp [noL, noH, noM, isM]; omega, rfl⟩]
  show forwardG _ _ = _
  unfold forwardG headP markG goneG
  rw [if_pos rfl, if_pos (show hm < mark + 1 by omega), if_neg (by show ¬ (false = true); decide)]
  rfl
theorem marks4 (k mark i : Int) (hk : 0 ≤ k ∧ k ≤ 255) (hm : 1 ≤ mark ∧ mark ≤ 20) (hi : 1 ≤ i ∧ i ≤ 30) (L : List Ent) (hL : L = if mark < i then [⟨i, 2, ⟨#[]⟩⟩] else []) : doG ⟨k, mark + 1, 7, 0, 0, 0, L⟩ ⟨k, 4, [], 0, 0, 0, mark + 40, 9, false, false⟩ = ⟨k, mark + 41, 9, 0, 0, 0, []⟩ := by
  rw [doG, if_pos ⟨marks_L k mark i hk hm hi L hL, by unfold isP; simp [noL, noH, isM]; omega, rfl⟩]
  show goneG (if _ then _ else _) _ _ = _
  rw [if_pos (show mark + 1 ≤ mark + 40 by omega)]
  unfold goneG
  rw [if_neg (show ¬ mark + 40 < mark + 1 by omega), if_neg (by show ¬ (9 : Int) = 0; decide)]
  show (⟨k, mark + 40 + 1, 9, 0, 0, 0, []⟩ : Grp) = _
  rw [show mark + 40 + 1 = mark + 41 by omega]
end Go.Proofs.Ytfnflbclhaeedaa.Sp
namespace Go.Proofs.Ytfnflbclhaeedaa.A
open Go Go.RowKit Go.Shelf Go.Proofs.Ytfnflbclhaeedaa.A Go.Proofs.Ytfnflbclhaeedaa.Sp Go.Proofs.Ytfnflbclhaeedaa.PartW Go.Proofs.Ytfnflbclhaeedaa.Reg Go.Proofs.Ytfnflbclhaeedaa.Seq Go.Proofs.YtfnflbclhaeedaaW.PrintWords Go.Proofs.YtfnflbclhaeedaaW.PrintLast Go.Proofs.YtfnflbclhaeedaaW.PrintMore
set_option maxHeartbeats 4000000 in
set_option maxRecDepth 100000 in
theorem ladelaw12_SparseMarks.walk (_ : True) (id m e : Int) (w : World) (w0 : (Lit.int .u8 id).wf = true) (w1 : (Lit.int .u8 m).wf = true) (w2 : (Lit.int .u8 e).wf = true) :
    Calls Try.prog 7 #[.int .u8 id, .int .u8 m, .int .u8 e] w fun e w' => e = .returned (.bool true) ∧ Below w.heap.size w w' := by
  have h0 : 0 ≤ id ∧ id < 256 := by simp [Lit.wf, IntKind.min, IntKind.max, IntKind.bits, IntKind.signed] at w0; omega
  have h1 : 0 ≤ m ∧ m < 256 := by simp [Lit.wf, IntKind.min, IntKind.max, IntKind.bits, IntKind.signed] at w1; omega
  have h2 : 0 ≤ e ∧ e < 256 := by simp [Lit.wf, IntKind.min, IntKind.max, IntKind.bits, IntKind.signed] at w2; omega
  clear w0 w1 w2
  obtain ⟨a1, a2⟩ := h0
  obtain ⟨b1, b2⟩ := h1
  obtain ⟨c1, c2⟩ := h2
  go_enter Try.func7, Try.ntmps7
  go_wp2_with (go_at_call 9; refine (known12 _).mono ?_; rintro e w1 ⟨rfl, hb1⟩)
  obtain ⟨mark, hmk⟩ : ∃ x, m % 20 + 1 = x := ⟨_, rfl⟩
  obtain ⟨i, hi⟩ : ∃ x, e % 30 + 1 = x := ⟨_, rfl⟩
  rw [hmk]
  have bm : 1 ≤ mark ∧ mark ≤ 20 := by omega
  have bi : 1 ≤ i ∧ i ≤ 30 := by omega
  have bk : 0 ≤ id ∧ id ≤ 255 := by omega
  have BM := Aside0.mk bm
  have BI := Aside0.mk bi
  have BK := Aside0.mk bk
  have HI := Aside0.mk hi
  have HB1 := Aside0.mk hb1
  obtain ⟨bm1, bm2⟩ := bm
  obtain ⟨bi1, bi2⟩ := bi
  clear a1 a2 b1 b2 c1 c2 hi hmk bk hb1
  have hc := sparse_Do ⟨id, 1, 0, 0, 0, 0, []⟩ none 0 ⟨id, 3, [], 0, 0, 0, mark, 7, false, false⟩ none 0 w1 (Rd.nil _) (Rd.nil _) (le42 (by show 0 ≤ 1000; decide))
  rw [show doG ⟨id, 1, 0, 0, 0, 0, []⟩ ⟨id, 3, [], 0, 0, 0, mark, 7, false, false⟩ = (⟨id, mark + 1, 7, 0, 0, 0, []⟩ : Grp) from marks1 id mark BK.out BM.out] at hc
  unfold vG vP at hc
  dsimp only [flatE, cellsE, List.append, List.length, HAppend.hAppend, Append.append] at hc
  try simp only [Nat.zero_add, Nat.reduceAdd] at hc
  go_at_call 12
  refine hc.mono ?_
  clear hc
  rintro e w2 ⟨A2, c2, rfl, hrd2, hw2⟩
  have HRD2 := Aside0.mk hrd2
  have HW2 := Aside0.mk hw2
  clear hrd2 hw2
  dsimp only [vG, List.length_cons, List.length_nil, Nat.zero_add, Nat.reduceAdd]
  obtain ⟨n2, hn2⟩ : ∃ n, w2.heap.size = n := ⟨_, rfl⟩
  have HN2 := Aside0.mk hn2
  go_wp2_with fail
  rw [HI.out]
  obtain ⟨L, hL⟩ : ∃ L : List Ent, L = if mark < i then [⟨i, 2, ⟨#[]⟩⟩] else [] := ⟨_, rfl⟩
  have HL := Aside0.mk hL
  have HLL : Aside0 ((L.length : Int) = if mark < i then 1 else 0) := ⟨by rw [hL]; split <;> rfl⟩
  have HLE : Aside0 (L.length ≤ 1) := ⟨by rw [hL]; split <;> simp⟩
  clear hL
  have hr := Rd.made (w2.alloc (.cells #[.int .i64 id, .int .i64 (mark + 1), .int .i64 7, .int .i64 0, .int .i64 0, .int .i64 0, .slice A2 0 c2] 26)) [⟨i, 2, ⟨#[]⟩⟩] (le42 (by show 1 ≤ 1000; decide))
  rw [World.size_alloc, hn2] at hr
  have f2 := (BlkG.new ⟨id, mark + 1, 7, 0, 0, 0, []⟩ A2 c2 w2).alloc (.cells #[.int .i64 i, .int .i64 2, .string ⟨#[]⟩] 38)
  rw [hn2] at f2
  have hc := sparse_Do ⟨id, mark + 1, 7, 0, 0, 0, []⟩ A2 c2 ⟨id, 6, [⟨i, 2, ⟨#[]⟩⟩], 0, 0, 0, 0, 0, false, false⟩ (some ⟨n2 + 1, 0, none⟩) 1 _ ((HRD2.out.alloc _).alloc _) hr (le42 (by show 1 ≤ 1000; decide))
  rw [show doG ⟨id, mark + 1, 7, 0, 0, 0, []⟩ ⟨id, 6, [⟨i, 2, ⟨#[]⟩⟩], 0, 0, 0, 0, 0, false, false⟩ = (⟨id, mark + 1, 7, 0, 0, 0, L⟩ : Grp) from marks2 id mark i BK.out BM.out BI.out L HL.out] at hc
  unfold vG vP at hc
  dsimp only [flatE, cellsE, List.append, List.length, HAppend.hAppend, Append.append] at hc
  try simp only [Nat.zero_add, Nat.reduceAdd] at hc
  go_at_call 12
  refine hc.mono ?_
  clear hc
  rintro e w3 ⟨A3, c3, rfl, hrd3, hw3⟩
  have HRD3 := Aside0.mk hrd3
  have HW3 := Aside0.mk hw3
  clear hrd3 hw3
  dsimp only [vG, List.length_cons, List.length_nil, Nat.zero_add, Nat.reduceAdd]
  have F2 := Aside0.mk (f2.below HW3.out)
  have HB3 : Aside0 (Below w.heap.size w w3) := ⟨by
    have h1 := HB1.out.trans (HW2.out.mono HB1.out.size)
    refine (((h1.alloc h1.size _).alloc (by have := h1.size; simp; omega) _).trans (HW3.out.mono (by have := h1.size; simp; omega)))⟩
  clear f2 hr hn2
  obtain ⟨n3, hn3⟩ : ∃ n, w3.heap.size = n := ⟨_, rfl⟩
  have HN3 := Aside0.mk hn3
  go_wp2_with fail
  obtain ⟨hm, hh⟩ : ∃ x, (mark + 1) / 2 = x := ⟨_, rfl⟩
  have bh : 1 ≤ hm ∧ hm ≤ mark := by omega
  rw [hh]
  have BH := Aside0.mk bh
  clear hh bh
  have f3 := BlkG.new ⟨id, mark + 1, 7, 0, 0, 0, L⟩ A3 c3 w3
  rw [hn3] at f3
  have hc := sparse_Do ⟨id, mark + 1, 7, 0, 0, 0, L⟩ A3 c3 ⟨id, 6, [], 0, 0, 0, hm, 3, true, false⟩ none 0 _ (HRD3.out.alloc (.cells #[.int .i64 id, .int .i64 (mark + 1), .int .i64 7, .int .i64 0, .int .i64 0, .int .i64 0, .slice A3 L.length c3] 26)) (Rd.nil _) (le42 (by have := HLE.out; simp; omega))
  rw [show doG ⟨id, mark + 1, 7, 0, 0, 0, L⟩ ⟨id, 6, [], 0, 0, 0, hm, 3, true, false⟩ = (⟨id, mark + 1, 7, 0, 0, 0, L⟩ : Grp) from marks3 id mark i hm BK.out BM.out BI.out BH.out L HL.out] at hc
  unfold vG vP at hc
  dsimp only [flatE, cellsE, List.append, List.length, HAppend.hAppend, Append.append] at hc
  try simp only [Nat.zero_add, Nat.reduceAdd] at hc
  go_at_call 12
  refine hc.mono ?_
  clear hc
  rintro e w4 ⟨A4, c4, rfl, hrd4, hw4⟩
  have HRD4 := Aside0.mk hrd4
  have HW4 := Aside0.mk hw4
  clear hrd4 hw4
  dsimp only [vG, List.length_cons, List.length_nil, Nat.zero_add, Nat.reduceAdd]
  have F3 := Aside0.mk (f3.below HW4.out)
  have F2b := Aside0.mk ((F2.out.alloc (.cells #[.int .i64 id, .int .i64 (mark + 1), .int .i64 7, .int .i64 0, .int .i64 0, .int .i64 0, .slice A3 L.length c3] 26)).below HW4.out)
  have HB4 : Aside0 (Below w.heap.size w w4) := ⟨(HB3.out.alloc HB3.out.size _).trans (HW4.out.mono (by have := HB3.out.size; simp; omega))⟩
  have HRL := Aside0.mk (((HRD3.out.alloc (.cells #[.int .i64 id, .int .i64 (mark + 1), .int .i64 7, .int .i64 0, .int .i64 0, .int .i64 0, .slice A3 L.length c3] 26)).below HW4.out).alloc (.cells #[.int .i64 id, .int .i64 (mark + 1), .int .i64 7, .int .i64 0, .int .i64 0, .int .i64 0, .slice A4 L.length c4] 26))
  clear f3 hn3
  obtain ⟨n4, hn4⟩ : ∃ n, w4.heap.size = n := ⟨_, rfl⟩
  have HN4 := Aside0.mk hn4
  have l34 : n3 < n4 := by rw [← hn4]; exact F3.out.lt
  have h34 : n3 ≠ n4 := Nat.ne_of_lt l34
  have h43 : n4 ≠ n3 := Ne.symm h34
  obtain ⟨e0, e1, e2, e3, e4, e5, e6⟩ := F3.out.box
  dsimp only at e0 e1 e2 e3 e4 e5 e6
  go_wp2_with fail
  have f4 := BlkG.new ⟨id, mark + 1, 7, 0, 0, 0, L⟩ A4 c4 w4
  rw [hn4] at f4
  have hc := sparse_Do ⟨id, mark + 1, 7, 0, 0, 0, L⟩ A3 c3 ⟨id, 4, [], 0, 0, 0, mark + 40, 9, false, false⟩ none 0 _ HRL.out (Rd.nil _) (le42 (by have := HLE.out; simp; omega))
  rw [show doG ⟨id, mark + 1, 7, 0, 0, 0, L⟩ ⟨id, 4, [], 0, 0, 0, mark + 40, 9, false, false⟩ = (⟨id, mark + 41, 9, 0, 0, 0, []⟩ : Grp) from marks4 id mark i BK.out BM.out BI.out L HL.out] at hc
  unfold vG vP at hc
  dsimp only [flatE, cellsE, List.append, List.length, HAppend.hAppend, Append.append] at hc
  try simp only [Nat.zero_add, Nat.reduceAdd] at hc
  go_at_call 12
  refine hc.mono ?_
  clear hc
  rintro e w5 ⟨A5, c5, rfl, hrd5, hw5⟩
  have HRD5 := Aside0.mk hrd5
  have HW5 := Aside0.mk hw5
  clear hrd5 hw5
  dsimp only [vG, List.length_cons, List.length_nil, Nat.zero_add, Nat.reduceAdd]
  have F4 := Aside0.mk (f4.below HW5.out)
  have F3b := Aside0.mk ((F3.out.alloc (.cells #[.int .i64 id, .int .i64 (mark + 1), .int .i64 7, .int .i64 0, .int .i64 0, .int .i64 0, .slice A4 L.length c4] 26)).below HW5.out)
  have F2c := Aside0.mk ((F2b.out.alloc (.cells #[.int .i64 id, .int .i64 (mark + 1), .int .i64 7, .int .i64 0, .int .i64 0, .int .i64 0, .slice A4 L.length c4] 26)).below HW5.out)
  have HB5 : Aside0 (Below w.heap.size w w5) := ⟨(HB4.out.alloc HB4.out.size _).trans (HW5.out.mono (by have := HB4.out.size; simp; omega))⟩
  clear f4 hn4 h34 h43 l34 e0 e1 e2 e3 e4 e5 e6
  obtain ⟨n5, hn5⟩ : ∃ n, w5.heap.size = n := ⟨_, rfl⟩
  have HN5 := Aside0.mk hn5
  have l25 : n2 < n5 := by rw [← hn5]; exact F2c.out.lt
  have h25 : n2 ≠ n5 := Nat.ne_of_lt l25
  have l35 : n3 < n5 := by rw [← hn5]; exact F3b.out.lt
  have h35 : n3 ≠ n5 := Nat.ne_of_lt l35
  have l45 : n4 < n5 := by rw [← hn5]; exact F4.out.lt
  have h45 : n4 ≠ n5 := Nat.ne_of_lt l45
  have h52 := Ne.symm h25
  have h53 := Ne.symm h35
  have h54 := Ne.symm h45
  obtain ⟨x0, x1, x2, x3, x4, x5, x6⟩ := F2c.out.box
  obtain ⟨y0, y1, y2, y3, y4, y5, y6⟩ := F3b.out.box
  obtain ⟨z0, z1, z2, z3, z4, z5, z6⟩ := F4.out.box
  have HBE := Aside0.mk (HB5.out.alloc HB5.out.size (.cells #[.int .i64 id, .int .i64 (mark + 41), .int .i64 9, .int .i64 0, .int .i64 0, .int .i64 0, .slice A5 0 c5] 26))
  have hll := HLL.out
  have hle := HLE.out
  dsimp only [List.length_nil] at x0 x1 x2 x3 x4 x5 x6 y0 y1 y2 y3 y4 y5 y6 z0 z1 z2 z3 z4 z5 z6
  by_cases hc : mark < i
  · rw [if_pos hc] at hll
    go_wp2_with fail
    all_goals go_ret
    all_goals exact ⟨ret_bool (by simp), HBE.out⟩
  · rw [if_neg hc] at hll
    go_wp2_with fail
    all_goals go_ret
    all_goals exact ⟨ret_bool (by simp), HBE.out⟩
end Go.Proofs.Ytfnflbclhaeedaa.A
namespace Go.Proofs.Ytfnflbclhaeedaa.Pure
theorem SparseMarks : True := trivial
end Go.Proofs.Ytfnflbclhaeedaa.Pure
