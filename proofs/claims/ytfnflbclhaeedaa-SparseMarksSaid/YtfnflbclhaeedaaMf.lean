/- The walks of the reference's groups: is, Is, IsSparse, Same. -/
/- The walk of the reference's Same of groups. -/
/- The contracts of the reference's At and from, and the law of an index's term. -/
/- The walk of the reference's compact. -/
/- Plain: of a group that is one, gone and the reference's compact are the same; what lies below and from an index. -/
/- Plain: what is written anew: one entry, many; what stays true of it. -/
import Derived.Test.YtfnflbclhaeedaaMc
import Derived.Test.YtfnflbclhaeedaaMd
import Derived.BigQuiet
import Derived.Test.YtfnflbclhaeedaaMe
import Derived.BigRegion
set_option linter.unusedVariables false
set_option linter.unusedSimpArgs false
namespace Go.Proofs.Ytfnflbclhaeedaa.PartW
open Go Go.RowKit Go.Proofs.Ytfnflbclhaeedaa.A Go.Proofs.Ytfnflbclhaeedaa.Sp Go.Proofs.Ytfnflbclhaeedaa.Reg Go.Proofs.Ytfnflbclhaeedaa.Seq Go.Proofs.YtfnflbclhaeedaaW.PrintWords Go.Proofs.YtfnflbclhaeedaaW.PrintLast Go.Proofs.YtfnflbclhaeedaaW.PrintMore
attribute [local go_sem high] eqA23 eqA38
theorem BoxG.drewN {g : Grp} {A : Option Addr} {c B : Nat} {W : World} (h : BoxG g A c B W) (n : Nat) : BoxG g A c B (W.drewN n) := h
theorem headG_false {g : Grp} (h : headG g = false) (h1 : 0 ≤ g.id) (h2 : g.id ≤ 999) (h3 : 1 ≤ g.fi) (h4 : g.fi ≤ 1099511627777) (h5 : 0 ≤ g.tm) (h6 : g.tm ≤ 1099511627776) (h7 : isH g.ht g.hv g.hc = true) : False := by
  unfold headG at h
  rw [h7, Bool.and_true, decide_eq_false_iff_not] at h
  exact h ⟨h1, h2, h3, h4, h5, h6⟩
theorem isG_no {dense : Bool} {g : Grp} {k : Nat} (hk : k < g.l.length) (h : okG dense g.fi g.l k = false) : isG dense g = false := by
  unfold isG
  rw [List.all_eq_false.2 ⟨k, List.mem_range.2 hk, by rw [h]; decide⟩, Bool.and_false]
theorem isG_go {dense : Bool} {fi : Int} {l : List Ent} {k : Nat} (h : ∀ j, j < k → okG dense fi l j = true) (hk : okG dense fi l k = true) : Aside0 (∀ j, j < k + 1 → okG dense fi l j = true) := ⟨fun j hj => by
  rcases Nat.lt_or_ge j k with h' | h'
  · exact h j h'
  · obtain rfl : j = k := by omega
    exact hk⟩
set_option maxHeartbeats 4000000 in
set_option maxRecDepth 100000 in
theorem ref_is (g : Grp) (A : Option Addr) (c : Nat) (dense : Bool) (w : World) (h : Rd w A c g.l) :
    Calls Try.prog 31 #[vG g A c, .bool dense] w fun e w' => e = .returned (.bool (isG dense g)) ∧ Below w.heap.size w w' := by
  have HR := Aside0.mk h
  have hbd := h.bd
  clear h
  unfold vG
  cases hh : headG g with
  | false =>
    have HH := Aside0.mk hh
    have HG : Aside0 (isG dense g = false) := ⟨by unfold isG; rw [hh, Bool.false_and]⟩
    clear hh
    obtain ⟨b, hb⟩ : ∃ b, isH g.ht g.hv g.hc = b := ⟨_, rfl⟩
    have HI := Aside0.mk hb
    clear hb
    go_enter Try.func31, Try.ntmps31
    cases b
    all_goals go_wp2_with (go_at_call 40; refine (isH4_calls _ _ _ _).mono ?_; rw [HI.out]; rintro e w1 ⟨rfl, hw1⟩)
    all_goals first
      | (go_ret; exact ⟨ret_bool HG.out.symm, by first | exact (((Below.refl _ _).alloc (Nat.le_refl _) _).trans (hw1.mono (by simp))) | (repeat (first | exact Below.refl _ _ | apply below_alloc))⟩)
      | (exfalso; exact headG_false HH.out (by assumption) (by assumption) (by assumption) (by assumption) (by assumption) (by assumption) HI.out)
  | true =>
    have HH := Aside0.mk hh
    have hq := hh
    unfold headG at hq
    rw [Bool.and_eq_true, decide_eq_true_eq] at hq
    obtain ⟨⟨q1, q2, q3, q4, q5, q6⟩, q7⟩ := hq
    have HI := Aside0.mk q7
    have x1 : decide (g.id < 0) = false := decide_eq_false (by omega)
    have x2 : decide (999 < g.id) = false := decide_eq_false (by omega)
    have x3 : decide (g.fi < 1) = false := decide_eq_false (by omega)
    have x4 : decide (1099511627777 < g.fi) = false := decide_eq_false (by omega)
    have x5 : decide (g.tm < 0) = false := decide_eq_false (by omega)
    have x6 : decide (1099511627776 < g.tm) = false := decide_eq_false (by omega)
    have hgn := BoxG.new g A c w
    have HGN := Aside0.mk hgn
    clear hh q7 hgn
    go_enter Try.func31, Try.ntmps31
    go_wp2_with (go_at_call 40; refine (isH4_calls _ _ _ _).mono ?_; rw [HI.out]; rintro e w1 ⟨rfl, hw1⟩; have HG1 := Aside0.mk (HGN.out.below hw1); have HW1 := Aside0.mk hw1; obtain ⟨d0, d1, d2, d3, d4, d5, d6⟩ := HG1.out; clear hw1)
    clear d0 d1 d2 d3 d4 d5 d6 x1 x2 x3 x4 x5 x6
    obtain ⟨s, hs⟩ : ∃ s, w.heap.size = s := ⟨_, rfl⟩
    have HB1w : Aside0 (Below w.heap.size w w1) := ⟨((Below.refl _ w).alloc (Nat.le_refl _) _).trans (HW1.out.mono (by simp))⟩
    have HS := Aside0.mk hs
    rw [hs] at HG1 ⊢
    clear hs HW1 HGN
    go_loopw [5, 6] (fun a i wr => ∃ k : Nat, k ≤ g.l.length ∧ i = .int .i64 k ∧ a = .int .i64 (nxt g.fi g.l k) ∧ Aside0 (∀ j, j < k → okG dense g.fi g.l j = true) ∧ Aside0 (BoxG g A c s wr) ∧ Aside0 (Below w.heap.size w wr)) (fun _ i _ => g.l.length - (intOf i).toNat)
    case atStart => exact ⟨0, Nat.zero_le _, rfl, rfl, ⟨fun j hj => by omega⟩, HG1, HB1w⟩
    case round =>
      obtain ⟨k, hk, rfl, rfl, HK, HGW, HBW⟩ := hrel
      clear HG1 HB1w
      obtain ⟨d0, d1, d2, d3, d4, d5, d6⟩ := HGW.out
      by_cases hlt : k < g.l.length
      · obtain ⟨ad, rfl, g0, g1, g2⟩ := HR.out.at_ hlt
        replace g0 := (HBW.out.cell (World.block_lt_of_cell? w _ g0)).trans g0
        replace g1 := (HBW.out.cell (World.block_lt_of_cell? w _ g1)).trans g1
        replace g2 := (HBW.out.cell (World.block_lt_of_cell? w _ g2)).trans g2
        obtain ⟨x, hx⟩ : ∃ x, el g.l k = x := ⟨_, rfl⟩
        obtain ⟨la, hla⟩ : ∃ la, nxt g.fi g.l k = la := ⟨_, rfl⟩
        obtain ⟨b1, hb1⟩ : ∃ b, isE x = b := ⟨_, rfl⟩
        have HOK : Aside0 (okG dense g.fi g.l k = (b1 && (decide (la ≤ x.f0) && (!dense || decide (x.f0 = la))))) := ⟨by unfold okG; rw [hx, hla, hb1]⟩
        have HNX : Aside0 (nxt g.fi g.l (k + 1) = x.f0 + 1) := ⟨by unfold nxt; rw [if_neg (by omega), Nat.add_sub_cancel, hx]⟩
        have HB1 := Aside0.mk hb1
        rw [hx] at g0 g1 g2
        rw [hla]
        clear hx hla hb1
        cases b1 with
        | false =>
          go_wp2_with (go_at_call 54; refine (isE4_calls x _ HB1.out).mono ?_; rintro r w2 ⟨rfl, hw2⟩; have HW2 := Aside0.mk hw2; have HX2 := Aside0.mk ((BoxE.new x wr).below hw2); have HG2 := Aside0.mk (((HGW.out.only (U := fun _ => False) ((Only.refl _ wr).alloc (.cells #[.int .i64 x.f0, .int .i64 x.f1, .string x.f2] 38)) (fun h => h))).below hw2); obtain ⟨f0, f1, f2⟩ := HX2.out; obtain ⟨c0, c1, c2, c3, c4, c5, c6⟩ := HG2.out; clear hw2 d0 d1 d2 d3 d4 d5 d6 g0 g1 g2)
          go_ret
          exact ⟨ret_bool (by rw [isG_no hlt (by rw [HOK.out]; rfl)]), HBW.out.trans ((((Below.refl _ wr).alloc (Nat.le_refl _) _).trans (HW2.out.mono (by simp))).mono HBW.out.size)⟩
        | true =>
          obtain ⟨r1, r2⟩ := isE_rng HB1.out
          by_cases hl : x.f0 < la
          · have y1 : decide (x.f0 < la) = true := decide_eq_true hl
            have HL : Aside0 (decide (la ≤ x.f0) = false) := ⟨decide_eq_false (by omega)⟩
            clear hl
            go_wp2_with (go_at_call 54; refine (isE4_calls x _ HB1.out).mono ?_; rintro r w2 ⟨rfl, hw2⟩; have HW2 := Aside0.mk hw2; have HX2 := Aside0.mk ((BoxE.new x wr).below hw2); have HG2 := Aside0.mk (((HGW.out.only (U := fun _ => False) ((Only.refl _ wr).alloc (.cells #[.int .i64 x.f0, .int .i64 x.f1, .string x.f2] 38)) (fun h => h))).below hw2); obtain ⟨f0, f1, f2⟩ := HX2.out; obtain ⟨c0, c1, c2, c3, c4, c5, c6⟩ := HG2.out; clear hw2 d0 d1 d2 d3 d4 d5 d6 g0 g1 g2)
            go_ret
            exact ⟨ret_bool (by rw [isG_no hlt (by rw [HOK.out]; rw [HL.out]; rfl)]), HBW.out.trans ((((Below.refl _ wr).alloc (Nat.le_refl _) _).trans (HW2.out.mono (by simp))).mono HBW.out.size)⟩
          · have y1 : decide (x.f0 < la) = false := decide_eq_false hl
            have HL : Aside0 (decide (la ≤ x.f0) = true) := ⟨decide_eq_true (by omega)⟩
            clear hl
            cases dense with
            | false =>
              go_wp2_with (go_at_call 54; refine (isE4_calls x _ HB1.out).mono ?_; rintro r w2 ⟨rfl, hw2⟩; have HW2 := Aside0.mk hw2; have HX2 := Aside0.mk ((BoxE.new x wr).below hw2); have HG2 := Aside0.mk (((HGW.out.only (U := fun _ => False) ((Only.refl _ wr).alloc (.cells #[.int .i64 x.f0, .int .i64 x.f1, .string x.f2] 38)) (fun h => h))).below hw2); obtain ⟨f0, f1, f2⟩ := HX2.out; obtain ⟨c0, c1, c2, c3, c4, c5, c6⟩ := HG2.out; clear hw2 d0 d1 d2 d3 d4 d5 d6 g0 g1 g2)
              go_roundw
              case rel => exact ⟨k + 1, by omega, by go_num, by rw [HNX.out], isG_go HK.out (by rw [HOK.out]; rw [HL.out]; rfl), HG2, ⟨HBW.out.trans ((((Below.refl _ wr).alloc (Nat.le_refl _) _).trans (HW2.out.mono (by simp))).mono HBW.out.size)⟩⟩
              case measure => simp [intOf]; omega
            | true =>
              by_cases he : x.f0 = la
              · have y2 : (x.f0 != la) = false := bne_eq_false_iff_eq.2 he
                have y3 : (x.f0 == la) = true := beq_iff_eq.2 he
                have HE : Aside0 (decide (x.f0 = la) = true) := ⟨decide_eq_true he⟩
                clear he
                go_wp2_with (go_at_call 54; refine (isE4_calls x _ HB1.out).mono ?_; rintro r w2 ⟨rfl, hw2⟩; have HW2 := Aside0.mk hw2; have HX2 := Aside0.mk ((BoxE.new x wr).below hw2); have HG2 := Aside0.mk (((HGW.out.only (U := fun _ => False) ((Only.refl _ wr).alloc (.cells #[.int .i64 x.f0, .int .i64 x.f1, .string x.f2] 38)) (fun h => h))).below hw2); obtain ⟨f0, f1, f2⟩ := HX2.out; obtain ⟨c0, c1, c2, c3, c4, c5, c6⟩ := HG2.out; clear hw2 d0 d1 d2 d3 d4 d5 d6 g0 g1 g2)
                go_roundw
                case rel => exact ⟨k + 1, by omega, by go_num, by rw [HNX.out], isG_go HK.out (by rw [HOK.out]; rw [HL.out, HE.out]; rfl), HG2, ⟨HBW.out.trans ((((Below.refl _ wr).alloc (Nat.le_refl _) _).trans (HW2.out.mono (by simp))).mono HBW.out.size)⟩⟩
                case measure => simp [intOf]; omega
              · have y2 : (x.f0 != la) = true := bne_iff_ne.2 he
                have y3 : (x.f0 == la) = false := beq_eq_false_iff_ne.2 he
                have HE : Aside0 (decide (x.f0 = la) = false) := ⟨decide_eq_false he⟩
                clear he
                go_wp2_with (go_at_call 54; refine (isE4_calls x _ HB1.out).mono ?_; rintro r w2 ⟨rfl, hw2⟩; have HW2 := Aside0.mk hw2; have HX2 := Aside0.mk ((BoxE.new x wr).below hw2); have HG2 := Aside0.mk (((HGW.out.only (U := fun _ => False) ((Only.refl _ wr).alloc (.cells #[.int .i64 x.f0, .int .i64 x.f1, .string x.f2] 38)) (fun h => h))).below hw2); obtain ⟨f0, f1, f2⟩ := HX2.out; obtain ⟨c0, c1, c2, c3, c4, c5, c6⟩ := HG2.out; clear hw2 d0 d1 d2 d3 d4 d5 d6 g0 g1 g2)
                go_ret
                exact ⟨ret_bool (by rw [isG_no hlt (by rw [HOK.out]; rw [HL.out, HE.out]; rfl)]), HBW.out.trans ((((Below.refl _ wr).alloc (Nat.le_refl _) _).trans (HW2.out.mono (by simp))).mono HBW.out.size)⟩
      · obtain rfl : k = g.l.length := by omega
        go_wp2
        go_ret
        exact ⟨ret_bool (by unfold isG; rw [HH.out, List.all_eq_true.2 (fun q hq => HK.out q (List.mem_range.1 hq))]; rfl), HBW.out⟩
theorem ref_Is6 (g : Grp) (A : Option Addr) (c : Nat) (w : World) (h : Rd w A c g.l) :
    Calls Try.prog 16 #[vG g A c] w fun e w' => e = .returned (.bool (isG true g)) ∧ Below w.heap.size w w' := by
  have HR := Aside0.mk h
  clear h
  unfold vG
  go_enter Try.func16, Try.ntmps16
  go_wp2_with (go_at_call 31; refine (ref_is g A c true _ (HR.out.alloc _)).mono ?_; rintro e w1 ⟨rfl, hw1⟩)
  go_ret
  exact ⟨rfl, ((Below.refl _ _).alloc (Nat.le_refl _) _).trans (hw1.mono (by simp))⟩
theorem ref_IsSparse (g : Grp) (A : Option Addr) (c : Nat) (w : World) (h : Rd w A c g.l) :
    Calls Try.prog 14 #[vG g A c] w fun e w' => e = .returned (.bool (isG false g)) ∧ Below w.heap.size w w' := by
  have HR := Aside0.mk h
  clear h
  unfold vG
  go_enter Try.func14, Try.ntmps14
  go_wp2_with (go_at_call 31; refine (ref_is g A c false _ (HR.out.alloc _)).mono ?_; rintro e w1 ⟨rfl, hw1⟩)
  go_ret
  exact ⟨rfl, ((Below.refl _ _).alloc (Nat.le_refl _) _).trans (hw1.mono (by simp))⟩
theorem sparse_Dense (g : Grp) (A : Option Addr) (c : Nat) (w : World) (h : Rd w A c g.l) :
    Calls Try.prog 15 #[vG g A c] w fun e w' => e = .returned (.bool (isG true g)) ∧ Below w.heap.size w w' := by
  have HR := Aside0.mk h
  clear h
  unfold vG
  go_enter Try.func15, Try.ntmps15
  go_wp2_with (go_at_call 32; refine (group_Is g A c _ (HR.out.alloc _)).mono ?_; rintro e w1 ⟨rfl, hw1⟩)
  go_ret
  exact ⟨rfl, ((Below.refl _ _).alloc (Nat.le_refl _) _).trans (hw1.mono (by simp))⟩
end Go.Proofs.Ytfnflbclhaeedaa.PartW
namespace Go.Proofs.Ytfnflbclhaeedaa.PartW
open Go Go.RowKit Go.Proofs.Ytfnflbclhaeedaa.A Go.Proofs.Ytfnflbclhaeedaa.Sp Go.Proofs.Ytfnflbclhaeedaa.Reg Go.Proofs.Ytfnflbclhaeedaa.Seq Go.Proofs.YtfnflbclhaeedaaW.PrintWords Go.Proofs.YtfnflbclhaeedaaW.PrintLast Go.Proofs.YtfnflbclhaeedaaW.PrintMore
attribute [local go_sem high] eqA23 eqA38
theorem sameL_len {a b : List Ent} (h : a.length ≠ b.length) : sameL a b = false := by unfold sameL; rw [decide_eq_false h, Bool.false_and]
set_option maxHeartbeats 4000000 in
set_option maxRecDepth 100000 in
theorem ref_SameG (a b : Grp) (A : Option Addr) (c : Nat) (A' : Option Addr) (c' : Nat) (w : World) (ha : Rd w A c a.l) (hb : Rd w A' c' b.l) :
    Calls Try.prog 17 #[vG a A c, vG b A' c'] w fun e w' => e = .returned (.bool (sameG a b)) ∧ Below w.heap.size w w' := by
  have HA := Aside0.mk ha
  have HB := Aside0.mk hb
  have hbd := ha.bd
  clear ha hb
  unfold vG
  by_cases hE : a.id = b.id ∧ a.fi = b.fi ∧ a.tm = b.tm ∧ (a.ht = b.ht ∧ a.hv = b.hv ∧ a.hc = b.hc) ∧ a.l.length = b.l.length
  · obtain ⟨id, fi, tm, ht, hv, hc, l⟩ := a
    obtain ⟨id', fi', tm', ht', hv', hc', l'⟩ := b
    obtain ⟨rfl, rfl, rfl, ⟨rfl, rfl, rfl⟩, hl⟩ := hE
    dsimp only at HA HB hbd hl ⊢
    have HG : Aside0 (sameG ⟨id, fi, tm, ht, hv, hc, l⟩ ⟨id, fi, tm, ht, hv, hc, l'⟩ = (List.range l.length).all fun i => eqE (el l i) (el l' i)) := ⟨by
      unfold sameG sameL
      dsimp only
      rw [decide_eq_true ⟨rfl, rfl, rfl, rfl, rfl, rfl⟩, decide_eq_true hl, Bool.true_and, Bool.true_and]⟩
    have h1 := BoxG.new ⟨id, fi, tm, ht, hv, hc, l⟩ A c w
    have h2 := BoxG.new ⟨id, fi, tm, ht, hv, hc, l'⟩ A' c' (w.alloc (.cells #[.int .i64 id, .int .i64 fi, .int .i64 tm, .int .i64 ht, .int .i64 hv, .int .i64 hc, .slice A l.length c] 26))
    rw [World.size_alloc] at h2
    have H1 := Aside0.mk (h1.only ((Only.refl (fun _ => False) _).alloc (.cells #[.int .i64 id, .int .i64 fi, .int .i64 tm, .int .i64 ht, .int .i64 hv, .int .i64 hc, .slice A' l'.length c'] 26)) (fun h => h))
    have H2 := Aside0.mk h2
    have HL := Aside0.mk hl
    have z0 : ((l.length : Int) != (l'.length : Int)) = false := bne_eq_false_iff_eq.2 (by omega)
    clear h1 h2 hl
    go_enter Try.func17, Try.ntmps17
    go_wp2
    clear z0
    obtain ⟨s, hs⟩ : ∃ s, w.heap.size = s := ⟨_, rfl⟩
    have HS := Aside0.mk hs
    have HBW0 : Aside0 (Below w.heap.size w ((w.alloc (.cells #[.int .i64 id, .int .i64 fi, .int .i64 tm, .int .i64 ht, .int .i64 hv, .int .i64 hc, .slice A l.length c] 26)).alloc (.cells #[.int .i64 id, .int .i64 fi, .int .i64 tm, .int .i64 ht, .int .i64 hv, .int .i64 hc, .slice A' l'.length c'] 26))) := ⟨((Below.refl _ w).alloc (Nat.le_refl _) _).alloc (by simp) _⟩
    rw [hs] at H1 H2 ⊢
    clear hs
    go_loopw [5] (fun i wr => ∃ k : Nat, k ≤ l.length ∧ i = .int .i64 k ∧ Aside0 (∀ j, j < k → eqE (el l j) (el l' j) = true) ∧ Aside0 (BoxG ⟨id, fi, tm, ht, hv, hc, l⟩ A c s wr) ∧ Aside0 (BoxG ⟨id, fi, tm, ht, hv, hc, l'⟩ A' c' (s + 1) wr) ∧ Aside0 (Below w.heap.size w wr)) (fun i _ => l.length - (intOf i).toNat)
    case atStart => exact ⟨0, Nat.zero_le _, rfl, ⟨fun j hj => by omega⟩, H1, H2, HBW0⟩
    case round =>
      clear H1 H2 HBW0
      obtain ⟨k, hk, rfl, HK, H1, H2, HBW⟩ := hrel
      obtain ⟨d0, d1, d2, d3, d4, d5, d6⟩ := H1.out
      obtain ⟨e0, e1, e2, e3, e4, e5, e6⟩ := H2.out
      dsimp only at d6 e6
      clear d0 d1 d2 d3 d4 d5 e0 e1 e2 e3 e4 e5
      by_cases hlt : k < l.length
      · have hlt2 : k < l'.length := by have := HL.out; omega
        obtain ⟨ad, rfl, g0, g1, g2⟩ := HA.out.at_ hlt
        obtain ⟨ad', rfl, k0, k1, k2⟩ := HB.out.at_ hlt2
        replace g0 := (HBW.out.cell (World.block_lt_of_cell? w _ g0)).trans g0
        replace g1 := (HBW.out.cell (World.block_lt_of_cell? w _ g1)).trans g1
        replace g2 := (HBW.out.cell (World.block_lt_of_cell? w _ g2)).trans g2
        replace k0 := (HBW.out.cell (World.block_lt_of_cell? w _ k0)).trans k0
        replace k1 := (HBW.out.cell (World.block_lt_of_cell? w _ k1)).trans k1
        replace k2 := (HBW.out.cell (World.block_lt_of_cell? w _ k2)).trans k2
        obtain ⟨x, hx⟩ : ∃ x, el l k = x := ⟨_, rfl⟩
        obtain ⟨y, hy⟩ : ∃ y, el l' k = y := ⟨_, rfl⟩
        obtain ⟨b, hb⟩ : ∃ b, eqE x y = b := ⟨_, rfl⟩
        have HQ : Aside0 (eqE (el l k) (el l' k) = b) := ⟨by rw [hx, hy, hb]⟩
        have z1 : (x.f0 == y.f0 && (x.f1 == y.f1 && (x.f2.toList == y.f2.toList))) = b := hb
        have z2 : (!(x.f0 == y.f0) || (!(x.f1 == y.f1) || (!(x.f2.toList == y.f2.toList)))) = !b := by rw [ne_q, hb]
        have z3 : (k : Int) < (l'.length : Int) := by omega
        rw [hx] at g0 g1 g2
        rw [hy] at k0 k1 k2
        clear hx hy hb
        go_wp2
        go_quiet (fail)
        cases b with
        | false =>
          go_wp2
          go_ret
          exact ⟨ret_bool (by rw [HG.out, List.all_eq_false.2 ⟨k, List.mem_range.2 hlt, by rw [HQ.out]; decide⟩]), by repeat (first | exact HBW.out | apply pw_below_drewN)⟩
        | true =>
          go_wp2
          go_roundw
          case rel => exact ⟨k + 1, by omega, by go_num, ⟨fun j hj => by
            rcases Nat.lt_or_ge j k with h' | h'
            · exact HK.out j h'
            · obtain rfl : j = k := by omega
              exact HQ.out⟩, H1, H2, ⟨by repeat (first | exact HBW.out | apply pw_below_drewN)⟩⟩
          case measure => simp [intOf]; omega
      · obtain rfl : k = l.length := by omega
        go_wp2
        go_ret
        exact ⟨ret_bool (by rw [HG.out, List.all_eq_true.2 (fun q hq => HK.out q (List.mem_range.1 hq))]), HBW.out⟩
  · have HG : Aside0 (sameG a b = false) := ⟨by
      unfold sameG
      by_cases h1 : a.id = b.id ∧ a.fi = b.fi ∧ a.tm = b.tm ∧ a.ht = b.ht ∧ a.hv = b.hv ∧ a.hc = b.hc
      · rw [sameL_len (fun h => hE ⟨h1.1, h1.2.1, h1.2.2.1, h1.2.2.2, h⟩), Bool.and_false]
      · rw [decide_eq_false h1, Bool.false_and]⟩
    have HE := Aside0.mk hE
    clear hE
    go_enter Try.func17, Try.ntmps17
    go_wp2
    all_goals first
      | (go_ret; exact ⟨ret_bool HG.out.symm, by repeat (first | exact Below.refl _ _ | apply below_alloc)⟩)
      | (exfalso; exact HE.out ⟨by assumption, by assumption, by assumption, by assumption, (by have h : ((a.l.length : Int) != (b.l.length : Int)) = false := (by assumption); have h2 := bne_eq_false_iff_eq.1 h; omega)⟩)
end Go.Proofs.Ytfnflbclhaeedaa.PartW
namespace Go.Proofs.Ytfnflbclhaeedaa.PartW
open Go Go.RowKit Go.Proofs.Ytfnflbclhaeedaa.A Go.Proofs.Ytfnflbclhaeedaa.Sp Go.Proofs.Ytfnflbclhaeedaa.Reg Go.Proofs.Ytfnflbclhaeedaa.Seq Go.Proofs.YtfnflbclhaeedaaW.PrintWords Go.Proofs.YtfnflbclhaeedaaW.PrintLast Go.Proofs.YtfnflbclhaeedaaW.PrintMore
theorem at_some {l : List Ent} {i : Int} (h : 0 ≤ atL l i) : (atL l i).toNat < l.length ∧ (el l (atL l i).toNat).f1 = termL l i := by
  unfold atL at h ⊢
  split at h
  · next k hk =>
    obtain ⟨hk1, hk2, hk3⟩ := List.findIdx?_eq_some_iff_getElem.1 hk
    have hf : findL l i = some l[k] := by
      unfold findL
      exact List.find?_eq_some_iff_getElem.2 ⟨hk2, k, hk1, rfl, fun j hj => by have := hk3 j hj; simpa using this⟩
    refine ⟨by simpa using hk1, ?_⟩
    unfold termL
    rw [hf]
    unfold el
    simp [hk1]
  · omega
theorem at_none {l : List Ent} {i : Int} (h : ¬ 0 ≤ atL l i) : termL l i = 0 := by
  unfold atL at h
  split at h
  · omega
  · next hk =>
    unfold termL findL
    rw [List.find?_eq_none.2 (fun x hx => by have := List.findIdx?_eq_none_iff.1 hk x hx; simpa using this)]
theorem ref_At (g : Grp) (A : Option Addr) (c : Nat) (i : Int) (w : World) (h : Rd w A c g.l) :
    Calls Try.prog 20 #[vG g A c, .int .i64 i] w fun e w' => e = .returned (.int .i64 (atL g.l i)) ∧ Below w.heap.size w w' :=
  laderef6_At.calls _ _ _ _ _ _ _ _ _ _ _ _ w h.rd h.le (at_q g i h.bd)
theorem ref_from (l : List Ent) (A : Option Addr) (c : Nat) (i : Int) (w : World) (h : Rd w A c l) :
    Calls Try.prog 34 #[.slice A l.length c, .int .i64 i] w fun e w' => ∃ A' c', e = .returned (.slice A' (fromL l i).length c') ∧ Rd w' A' c' (fromL l i) ∧ (∀ k, inA A' (fromL l i) k → w.heap.size ≤ k) ∧ Below w.heap.size w w' := by
  refine (laderef6_from.calls _ A c l i _ w h.rd h.le (from_q l i h.bd)).mono ?_
  rintro e w' ⟨v, rfl, hr, hb⟩
  obtain ⟨A', c', rfl, h1, h2⟩ := Kd.R_reads hr
  refine ⟨A', c', rfl, ⟨h2, h1, Nat.le_trans (List.length_filter_le _ _) h.bd⟩, ?_, hb⟩
  rintro k ⟨hn, ad, rfl, rfl⟩
  obtain ⟨_, inner, hrow, _⟩ := hr
  obtain ⟨_, h3⟩ := hrow
  rcases h3 with ⟨h3, h4⟩ | ⟨g, cap, cur, hv, hb, _⟩
  · omega
  · cases hv; exact hb
end Go.Proofs.Ytfnflbclhaeedaa.PartW
namespace Go.Proofs.Ytfnflbclhaeedaa.Sp
open Go Go.RowKit Go.Proofs.Ytfnflbclhaeedaa.A Go.Proofs.YtfnflbclhaeedaaW.PrintWords Go.Proofs.YtfnflbclhaeedaaW.PrintLast Go.Proofs.YtfnflbclhaeedaaW.PrintMore
/-- the reference's group of which all is gone up to an index, if it isn't yet -/
def compG (g : Grp) (i t : Int) : Grp := if i < g.fi then g else ⟨g.id, i + 1, if t = 0 then termL g.l i else t, g.ht, g.hv, g.hc, fromL g.l (i + 1)⟩
end Go.Proofs.Ytfnflbclhaeedaa.Sp
namespace Go.Proofs.Ytfnflbclhaeedaa.PartW
open Go Go.RowKit Go.Shelf Go.Proofs.Ytfnflbclhaeedaa.A Go.Proofs.Ytfnflbclhaeedaa.Sp Go.Proofs.Ytfnflbclhaeedaa.Reg Go.Proofs.Ytfnflbclhaeedaa.Seq Go.Proofs.YtfnflbclhaeedaaW.PrintWords Go.Proofs.YtfnflbclhaeedaaW.PrintLast Go.Proofs.YtfnflbclhaeedaaW.PrintMore
theorem BlkG.setne {g : Grp} {A : Option Addr} {c B B' o : Nat} {W : World} (h : BlkG g A c B W) (hne : B' ≠ B) (v : Value) : BlkG g A c B (W.setCell ⟨B', o, none⟩ v) :=
  (((Only.refl (fun k => k = B') W).setCell (p := ⟨B', o, none⟩) rfl v).block B (Array.getElem?_eq_some_iff.1 h).1 (fun h => hne h.symm)).trans h
theorem BlkG.set2 {g : Grp} {A : Option Addr} {c B : Nat} {W : World} (h : BlkG g A c B W) (x : Int) : BlkG ⟨g.id, g.fi, x, g.ht, g.hv, g.hc, g.l⟩ A c B (W.setCell ⟨B, 2, none⟩ (.int .i64 x)) := by
  unfold BlkG at h ⊢
  unfold World.setCell
  dsimp only
  rw [Array.getElem?_modify, if_pos rfl, h]
  simp
set_option maxHeartbeats 4000000 in
set_option maxRecDepth 100000 in
theorem ref_compact (g : Grp) (A : Option Addr) (c : Nat) (i t : Int) (w : World) (h : Rd w A c g.l) (hi0 : 0 ≤ i) (hi1 : i ≤ 1099511627776) :
    Calls Try.prog 35 #[vG g A c, .int .i64 i, .int .i64 t] w (GotG w (compG g i t)) := by
  have HR := Aside0.mk h
  clear h
  unfold vG
  by_cases h1 : i < g.fi
  · have HG : Aside0 (compG g i t = g) := ⟨by unfold compG; rw [if_pos h1]⟩
    go_enter Try.func35, Try.ntmps35
    go_wp2
    refine bodyPost_ret (v := vG g A c) (by simp [results, Try.results35, go_sem, vG]) rfl ⟨A, c, by rw [HG.out], by rw [HG.out]; repeat (first | exact HR.out | apply Rd.alloc), by repeat (first | exact Below.refl _ _ | apply below_alloc | apply pw_below_drewN | apply below_drew1)⟩
  · have HG : Aside0 (compG g i t = ⟨g.id, i + 1, if t = 0 then termL g.l i else t, g.ht, g.hv, g.hc, fromL g.l (i + 1)⟩) := ⟨by unfold compG; rw [if_neg h1]⟩
    have t1 : decide (i < g.fi) = false := decide_eq_false h1
    have hbg := BlkG.new g A c w
    have hbz := BlkG.new ⟨0, 0, 0, 0, 0, 0, []⟩ none 0 (w.alloc (.cells #[.int .i64 g.id, .int .i64 g.fi, .int .i64 g.tm, .int .i64 g.ht, .int .i64 g.hv, .int .i64 g.hc, .slice A g.l.length c] 26))
    rw [World.size_alloc] at hbz
    have HBG := Aside0.mk (hbg.alloc (.cells #[.int .i64 0, .int .i64 0, .int .i64 0, .int .i64 0, .int .i64 0, .int .i64 0, .slice none 0 0] 26))
    have HBZ := Aside0.mk hbz
    clear h1 hbg hbz
    have hbo := BlkG.new ⟨g.id, g.fi, t, g.ht, g.hv, g.hc, g.l⟩ A c ((w.alloc (.cells #[.int .i64 g.id, .int .i64 g.fi, .int .i64 g.tm, .int .i64 g.ht, .int .i64 g.hv, .int .i64 g.hc, .slice A g.l.length c] 26)).alloc (.cells #[.int .i64 0, .int .i64 0, .int .i64 0, .int .i64 0, .int .i64 0, .int .i64 0, .slice none 0 0] 26))
    rw [World.size_alloc, World.size_alloc] at hbo
    have HBO := Aside0.mk hbo
    have HBG2 := Aside0.mk (HBG.out.alloc (.cells #[.int .i64 g.id, .int .i64 g.fi, .int .i64 t, .int .i64 g.ht, .int .i64 g.hv, .int .i64 g.hc, .slice A g.l.length c] 26))
    have HBZ2 := Aside0.mk (HBZ.out.alloc (.cells #[.int .i64 g.id, .int .i64 g.fi, .int .i64 t, .int .i64 g.ht, .int .i64 g.hv, .int .i64 g.hc, .slice A g.l.length c] 26))
    clear HBG HBZ hbo
    obtain ⟨k, hk⟩ : ∃ k, atL g.l i = k := ⟨_, rfl⟩
    have HK := Aside0.mk hk
    by_cases h2 : 0 ≤ k ∧ t = 0
    · obtain ⟨h2, rfl⟩ := h2
      obtain ⟨n, rfl⟩ : ∃ n : Nat, k = n := ⟨k.toNat, by omega⟩
      have h3 := at_some (l := g.l) (i := i) (by omega)
      rw [hk, Int.toNat_natCast] at h3
      obtain ⟨hnl, h3⟩ := h3
      have HT : Aside0 ((if (0 : Int) = 0 then termL g.l i else 0) = termL g.l i) := ⟨if_pos rfl⟩
      obtain ⟨ad, rfl, g0, g1, g2⟩ := HR.out.at_ hnl
      rw [h3] at g1
      have z9 : ((0 : Int) ≤ (n : Int)) = True := eq_true (by omega)
      clear h3
      go_enter Try.func35, Try.ntmps35
      go_wp2_with (first | (go_at_call 20; refine (ref_At g _ c i _ (by repeat (first | exact HR.out | apply Rd.alloc))).mono ?_; rintro e w0 ⟨rfl, hw0⟩; rw [hk]; have HW0 := Aside0.mk hw0; have HG0 := Aside0.mk (HBG2.out.below hw0); have HZ0 := Aside0.mk (HBZ2.out.below hw0); have HO0 := Aside0.mk (HBO.out.below hw0); have HR0 := Aside0.mk ((((HR.out.alloc _).alloc _).alloc _).below hw0); obtain ⟨e0, e1, e2, e3, e4, e5, e6⟩ := HG0.out.box; have hb0 : Below w.heap.size w w0 := ((((Below.refl _ w).alloc (Nat.le_refl _) _).alloc (by simp) _).alloc (by simp; omega) _).trans (hw0.mono (by simp; omega)); have k0 := (hb0.cell (World.block_lt_of_cell? w _ g0)).trans g0; have k1 := (hb0.cell (World.block_lt_of_cell? w _ g1)).trans g1; have ofr := HO0.out.free; obtain ⟨o0, o1, o2, o3, o4, o5, o6⟩ := HO0.out.box; dsimp only at o0 o1 o2 o3 o4 o5 o6; clear hw0))
      go_at_call 34
      have HRS := Aside0.mk (HR0.out.only (U := fun k => k = w.heap.size + 1 + 1) (w' := w0.setCell ⟨w.heap.size + 1 + 1, 2, none⟩ (.int .i64 (termL g.l i))) ((Only.refl (fun k => k = w.heap.size + 1 + 1) w0).setCell (p := ⟨w.heap.size + 1 + 1, 2, none⟩) rfl _) (fun b hb h => by obtain ⟨_, ad', h5, rfl⟩ := hb; have h6 : (ad.add (n * 3)).block < w.heap.size := World.block_lt_of_cell? w (ad.add (n * 3)) g0; replace h6 : ad.block < w.heap.size := (by first | exact h6 | simpa using h6 | simpa [Addr.add] using h6 | (unfold Addr.add at h6; split at h6 <;> exact h6)); have h7 : ad.block = w.heap.size + 1 + 1 := (congrArg Addr.block (Option.some.inj h5)).trans h; omega))
      have HGS := Aside0.mk (HG0.out.setne (o := 2) (B' := w.heap.size + 1 + 1) (by omega) (.int .i64 (termL g.l i)))
      have HZS := Aside0.mk (HZ0.out.setne (o := 2) (B' := w.heap.size + 1 + 1) (by omega) (.int .i64 (termL g.l i)))
      have HOS := Aside0.mk (HO0.out.set2 (termL g.l i))
      refine (ref_from g.l _ c (i + 1) _ HRS.out).mono ?_
      rintro e w1 ⟨A', c', rfl, hrd, hfr, hw1⟩
      have HFR := Aside0.mk hfr
      have HRD := Aside0.mk hrd
      have HW1 := Aside0.mk hw1
      have G1 := HOS.out.below hw1
      have Z1 := HZS.out.below hw1
      clear e0 e1 e2 e3 e4 e5 e6 o0 o1 o2 o3 o4 o5 o6 ofr
      obtain ⟨e0, e1, e2, e3, e4, e5, e6⟩ := G1.box
      obtain ⟨z0, z1, z2, z3, z4, z5, z6⟩ := Z1.box
      have ef := G1.free
      have zf := Z1.free
      clear hrd hfr hw1 G1 Z1
      go_wp2
      all_goals refine bodyPost_ret (v := vG ⟨g.id, i + 1, termL g.l i, g.ht, g.hv, g.hc, fromL g.l (i + 1)⟩ A' c') (by simp [results, Try.results35, go_sem, vG, z0, z1, z2, z3, z4, z5, z6]) rfl ⟨A', c', by rw [HG.out, HT.out], ?_, ?_⟩
      · rw [HG.out]
        refine HRD.out.only (U := fun k => k = w.heap.size + 1 ∨ k = w.heap.size + 1 + 1) ?_ (fun b hb h => by have h1 := HFR.out b hb; have h2 := HW0.out.size; simp at h1 h2; omega)
        iterate 7 refine Only.setCell ?_ (.inl rfl) _
        iterate 2 refine Only.setCell ?_ (.inr rfl) _
        exact Only.refl _ _
      · have hb1 : Below w.heap.size w w0 := ((((Below.refl _ w).alloc (Nat.le_refl _) _).alloc (by simp) _).alloc (by simp; omega) _).trans (HW0.out.mono (by simp; omega))
        have hb2 : Below w.heap.size w w1 := (hb1.setCell (by exact Nat.le_trans (Nat.le_succ _) (Nat.le_succ _)) _).trans (HW1.out.mono (by have h2 := HW0.out.size; simp at h2 ⊢; omega))
        iterate 7 refine Below.setCell ?_ (by exact Nat.le_succ _) _
        iterate 2 refine Below.setCell ?_ (by exact Nat.le_trans (Nat.le_succ _) (Nat.le_succ _)) _
        exact hb2
    · have HT : Aside0 ((if t = 0 then termL g.l i else t) = t) := ⟨by
        by_cases h3 : t = 0
        · rw [if_pos h3, at_none (fun h4 => h2 ⟨by omega, h3⟩), h3]
        · rw [if_neg h3]⟩
      have H2 := Aside0.mk h2
      rw [hk.symm] at *
      clear h2
      go_enter Try.func35, Try.ntmps35
      go_wp2_with (first | (go_at_call 20; refine (ref_At g A c i _ (by repeat (first | exact HR.out | apply Rd.alloc))).mono ?_; rintro e w0 ⟨rfl, hw0⟩; have HW0 := Aside0.mk hw0; have HG0 := Aside0.mk (HBG2.out.below hw0); have HZ0 := Aside0.mk (HBZ2.out.below hw0); have HO0 := Aside0.mk (HBO.out.below hw0); have HR0 := Aside0.mk ((((HR.out.alloc _).alloc _).alloc _).below hw0); obtain ⟨e0, e1, e2, e3, e4, e5, e6⟩ := HG0.out.box; clear hw0) | (go_at_call 34; refine (ref_from g.l A c (i + 1) _ HR0.out).mono ?_; rintro e w1 ⟨A', c', rfl, hrd, hfr, hw1⟩; have HFR := Aside0.mk hfr; have HRD := Aside0.mk hrd; have HW1 := Aside0.mk hw1; have G1 := HO0.out.below hw1; have Z1 := HZ0.out.below hw1; clear e0 e1 e2 e3 e4 e5 e6; obtain ⟨e0, e1, e2, e3, e4, e5, e6⟩ := G1.box; obtain ⟨z0, z1, z2, z3, z4, z5, z6⟩ := Z1.box; have ef := G1.free; have zf := Z1.free; clear hrd hfr hw1 G1 Z1))
      all_goals first
        | (exfalso; exact H2.out ⟨by assumption, beq_iff_eq.1 (by assumption)⟩)
        | skip
      all_goals refine bodyPost_ret (v := vG ⟨g.id, i + 1, t, g.ht, g.hv, g.hc, fromL g.l (i + 1)⟩ A' c') (by simp [results, Try.results35, go_sem, vG, z0, z1, z2, z3, z4, z5, z6]) rfl ⟨A', c', by rw [HG.out, HT.out], ?_, ?_⟩
      all_goals first
        | (rw [HG.out]
           refine HRD.out.only (U := fun k => k = w.heap.size + 1 ∨ k = w.heap.size + 1 + 1) ?_ (fun b hb h => by have h1 := HFR.out b hb; have h2 := HW0.out.size; simp at h2; omega)
           iterate 7 refine Only.setCell ?_ (.inl rfl) _
           iterate 2 refine Only.setCell ?_ (.inr rfl) _
           exact Only.refl _ _)
        | (have hb2 : Below w.heap.size w w1 := (((((Below.refl _ w).alloc (Nat.le_refl _) _).alloc (by simp) _).alloc (by simp; omega) _).trans (HW0.out.mono (by simp; omega))).trans (HW1.out.mono (by have h2 := HW0.out.size; simp at h2; omega))
           iterate 7 refine Below.setCell ?_ (by exact Nat.le_succ _) _
           iterate 2 refine Below.setCell ?_ (Nat.le_trans (Nat.le_succ _) (Nat.le_succ _)) _
           exact hb2)
end Go.Proofs.Ytfnflbclhaeedaa.PartW
namespace Go.Proofs.Ytfnflbclhaeedaa.Sp
open Go Go.RowKit Go.Proofs.Ytfnflbclhaeedaa.A Go.Proofs.YtfnflbclhaeedaaW.PrintWords Go.Proofs.YtfnflbclhaeedaaW.PrintLast Go.Proofs.YtfnflbclhaeedaaW.PrintMore
theorem isG_okG {d : Bool} {g : Grp} (h : isG d g = true) {i : Nat} (hi : i < g.l.length) : okG d g.fi g.l i = true := by
  unfold isG at h
  rw [Bool.and_eq_true] at h
  exact List.all_eq_true.1 h.2 i (List.mem_range.2 hi)
theorem okG_isE {d : Bool} {fi : Int} {l : List Ent} {i : Nat} (h : okG d fi l i = true) : isE (el l i) = true := by
  unfold okG at h
  rw [Bool.and_eq_true] at h
  exact h.1
theorem isG_isE {d : Bool} {g : Grp} (h : isG d g = true) {e : Ent} (he : e ∈ g.l) : isE e = true := by
  obtain ⟨i, hi, rfl⟩ := List.mem_iff_getElem.1 he
  have := okG_isE (isG_okG h hi)
  rwa [el_get hi] at this
theorem isE_le {e : Ent} (h : isE e = true) : 1 ≤ e.f0 ∧ e.f0 ≤ 1099511627776 := by
  unfold isE at h
  have h2 := of_decide_eq_true h
  exact ⟨h2.1, h2.2.1⟩
theorem with_from {l : List Ent} (h : ∀ e ∈ l, isE e = true) (x : Int) : withL l x 1099511627777 = fromL l x := by
  unfold withL fromL
  refine List.filter_congr fun e he => ?_
  have h2 := (isE_le (h e he)).2
  unfold inR
  have h3 : e.f0 < 1099511627777 := by omega
  simp [h3]
theorem gone_comp {d : Bool} {g : Grp} (h : isG d g = true) (i t : Int) : goneG g i t = compG g i t := by
  unfold goneG compG
  rw [with_from (fun e he => isG_isE h he)]
theorem okG_nxt {d : Bool} {fi : Int} {l : List Ent} {i : Nat} (h : okG d fi l i = true) : nxt fi l i ≤ (el l i).f0 := by
  unfold okG at h
  rw [Bool.and_eq_true, Bool.and_eq_true] at h
  exact of_decide_eq_true h.2.1
theorem isG_ge {d : Bool} {g : Grp} (h : isG d g = true) : ∀ i : Nat, i < g.l.length → g.fi ≤ (el g.l i).f0
  | 0, hi => by
    have h2 := okG_nxt (isG_okG h hi)
    unfold nxt at h2
    rw [if_pos rfl] at h2
    exact h2
  | i + 1, hi => by
    have h1 := isG_ge h i (by omega)
    have h2 := okG_nxt (isG_okG h hi)
    unfold nxt at h2
    rw [if_neg (by omega), Nat.add_sub_cancel] at h2
    omega
/-- a group's indexes rise -/
theorem isG_lt {d : Bool} {g : Grp} (h : isG d g = true) (i : Nat) : ∀ j : Nat, i < j → j < g.l.length → (el g.l i).f0 < (el g.l j).f0
  | 0, hij, _ => by omega
  | j + 1, hij, hj => by
    have h2 := okG_nxt (isG_okG h hj)
    unfold nxt at h2
    rw [if_neg (by omega), Nat.add_sub_cancel] at h2
    rcases Nat.lt_or_ge i j with h3 | h3
    · have := isG_lt h i j h3 (by omega)
      omega
    · obtain rfl : i = j := by omega
      omega
theorem isG_mem_ge {d : Bool} {g : Grp} (h : isG d g = true) {e : Ent} (he : e ∈ g.l) : g.fi ≤ e.f0 := by
  obtain ⟨i, hi, rfl⟩ := List.mem_iff_getElem.1 he
  have := isG_ge h i hi
  rwa [el_get hi] at this
theorem with_below {l : List Ent} {fi : Int} (h : ∀ e ∈ l, fi ≤ e.f0) (x : Int) : withL l fi x = belowL l x := by
  unfold withL belowL
  refine List.filter_congr fun e he => ?_
  unfold inR
  have h2 := h e he
  simp [h2]
/-- the first index of a group that is one -/
theorem isG_fi {d : Bool} {g : Grp} (h : isG d g = true) : 1 ≤ g.fi ∧ g.fi ≤ 1099511627777 := by
  unfold isG headG at h
  rw [Bool.and_eq_true, Bool.and_eq_true] at h
  have h2 := of_decide_eq_true h.1.1
  exact ⟨h2.2.2.1, h2.2.2.2.1⟩
end Go.Proofs.Ytfnflbclhaeedaa.Sp
namespace Go.Proofs.Ytfnflbclhaeedaa.Sp
open Go Go.RowKit Go.Proofs.Ytfnflbclhaeedaa.A Go.Proofs.YtfnflbclhaeedaaW.PrintWords Go.Proofs.YtfnflbclhaeedaaW.PrintLast Go.Proofs.YtfnflbclhaeedaaW.PrintMore
/-- one entry is written anew -/
def stepE (fi : Int) (l : List Ent) (e : Ent) : List Ent := if e.f0 < fi ∨ 0 ≤ atL l e.f0 then l else belowL l e.f0 ++ [e] ++ fromL l e.f0
/-- what must be true of a log with holes: entries, from the first index on, rising -/
def GoodL (fi : Int) (l : List Ent) : Prop := (∀ e ∈ l, isE e = true ∧ fi ≤ e.f0) ∧ l.Pairwise (fun a b => a.f0 < b.f0)
theorem GoodL.nil (fi : Int) : GoodL fi [] := ⟨fun e he => (by cases he), List.Pairwise.nil⟩
theorem GoodL.from' {fi : Int} {l : List Ent} (h : GoodL fi l) (x : Int) : GoodL x (fromL l x) := by
  refine ⟨fun e he => ?_, h.2.filter _⟩
  obtain ⟨h1, h2⟩ := List.mem_filter.1 he
  exact ⟨(h.1 e h1).1, of_decide_eq_true h2⟩
theorem GoodL.below {fi : Int} {l : List Ent} (h : GoodL fi l) (x : Int) : GoodL fi (belowL l x) := by
  refine ⟨fun e he => ?_, h.2.filter _⟩
  exact h.1 e (List.mem_filter.1 he).1
theorem at_not {l : List Ent} {i : Int} (h : ¬ 0 ≤ atL l i) : ∀ e ∈ l, e.f0 ≠ i := by
  unfold atL at h
  split at h
  · omega
  · next hk =>
    intro e he
    have := List.findIdx?_eq_none_iff.1 hk e he
    exact of_decide_eq_false this
theorem GoodL.step {fi : Int} {l : List Ent} {e : Ent} (h : GoodL fi l) (he : isE e = true) : GoodL fi (stepE fi l e) := by
  unfold stepE
  by_cases h1 : e.f0 < fi ∨ 0 ≤ atL l e.f0
  · rw [if_pos h1]; exact h
  · rw [if_neg h1]
    have h2 : fi ≤ e.f0 := by omega
    have h3 := at_not (l := l) (i := e.f0) (fun h4 => h1 (.inr h4))
    refine ⟨fun x hx => ?_, ?_⟩
    · rcases List.mem_append.1 hx with h4 | h4
      · rcases List.mem_append.1 h4 with h5 | h5
        · exact h.1 x (List.mem_filter.1 h5).1
        · obtain rfl := List.mem_singleton.1 h5
          exact ⟨he, h2⟩
      · exact h.1 x (List.mem_filter.1 h4).1
    · refine List.pairwise_append.2 ⟨List.pairwise_append.2 ⟨(h.below e.f0).2, List.pairwise_singleton _ _, fun a ha b hb => ?_⟩, (h.from' e.f0).2, fun a ha b hb => ?_⟩
      · obtain rfl := List.mem_singleton.1 hb
        exact of_decide_eq_true (List.mem_filter.1 ha).2
      · obtain ⟨hb1, hb2⟩ := List.mem_filter.1 hb
        have hb3 := of_decide_eq_true hb2
        have hb4 := h3 b hb1
        rcases List.mem_append.1 ha with h5 | h5
        · have := of_decide_eq_true (List.mem_filter.1 h5).2
          omega
        · obtain rfl := List.mem_singleton.1 h5
          omega
theorem step_len (fi : Int) (l : List Ent) (e : Ent) : (stepE fi l e).length ≤ l.length + 1 := by
  unfold stepE
  split
  · omega
  · have h2 : (belowL l e.f0).length + (fromL l e.f0).length = l.length := by
      unfold belowL fromL
      rw [← List.countP_eq_length_filter, ← List.countP_eq_length_filter, List.length_eq_countP_add_countP (fun x : Ent => decide (x.f0 < e.f0)) (l := l)]
      congr 1
      refine List.countP_congr fun x _ => ?_
      simp
    simp only [List.length_append, List.length_cons, List.length_nil]
    omega
/-- many entries are written anew -/
def fillL (fi : Int) (l es : List Ent) : List Ent := es.foldl (stepE fi) l
theorem GoodL.fill {fi : Int} : ∀ {es l : List Ent}, GoodL fi l → (∀ e ∈ es, isE e = true) → GoodL fi (fillL fi l es)
  | [], l, h, _ => h
  | e :: es, l, h, he => by
    have h2 : GoodL fi (stepE fi l e) := h.step (he e (List.mem_cons_self ..))
    exact h2.fill (fun x hx => he x (List.mem_cons_of_mem _ hx))
theorem isG_good {d : Bool} {g : Grp} (h : isG d g = true) : GoodL g.fi g.l := by
  refine ⟨fun e he => ⟨isG_isE h he, isG_mem_ge h he⟩, List.pairwise_iff_getElem.2 fun i j hi hj hij => ?_⟩
  have := isG_lt h i j hij hj
  rwa [el_get hi, el_get hj] at this
/-- the program's writing of one entry is the reference's -/
theorem step_with {fi : Int} {l : List Ent} (h : GoodL fi l) (x : Int) : withL l fi x = belowL l x ∧ withL l x 1099511627777 = fromL l x :=
  ⟨with_below (fun e he => (h.1 e he).2) x, with_from (fun e he => (h.1 e he).1) x⟩
theorem good_comp {g : Grp} (h : GoodL g.fi g.l) (i t : Int) : GoodL (compG g i t).fi (compG g i t).l := by
  unfold compG
  split
  · exact h
  · exact h.from' _
end Go.Proofs.Ytfnflbclhaeedaa.Sp
