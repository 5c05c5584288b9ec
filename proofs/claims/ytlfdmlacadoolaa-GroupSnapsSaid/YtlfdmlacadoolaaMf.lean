/- The walks of the reference's groups: is, Is, IsSparse, Same. -/
/- The walk of the reference's Same of groups. -/
/- The contracts of the reference's At and from, and the law of an index's term. -/
/- Contracts and laws of blocks that both layers use. -/
import Derived.Test.YtlfdmlacadoolaaMc
import Derived.Test.YtlfdmlacadoolaaMd
import Derived.BigQuiet
set_option linter.unusedVariables false
set_option linter.unusedSimpArgs false
namespace Go.Proofs.Ytlfdmlacadoolaa.PartW
open Go Go.RowKit Go.Proofs.Ytlfdmlacadoolaa.A Go.Proofs.Ytlfdmlacadoolaa.Sp Go.Proofs.Ytlfdmlacadoolaa.Reg Go.Proofs.Ytlfdmlacadoolaa.Seq Go.Proofs.YtlfdmlacadoolaaW.PrintWords Go.Proofs.YtlfdmlacadoolaaW.PrintLast Go.Proofs.YtlfdmlacadoolaaW.PrintMore
attribute [local go_sem high] eqA23 eqA55
theorem BoxG.drewN {g : Grp} {A : Option Addr} {c B : Nat} {W : World} (h : BoxG g A c B W) (n : Nat) : BoxG g A c B (W.drewN n) := h
theorem headG_false {g : Grp} (h : headG g = false) (h1 : 0 ≤ g.id) (h2 : g.id ≤ 999) (h3 : 1 ≤ g.fi) (h4 : g.fi ≤ 1099511627777) (h5 : 0 ≤ g.tm) (h6 : g.tm ≤ 1099511627776) (h7 : isH g.ht g.hv g.hc = true) : False := by
  unfold headG at h
  rw [h7, Bool.and_true, decide_eq_false_iff_not] at h
  exact h ⟨h1, h2, h3, h4, h5, h6⟩
theorem isG_no {dense : Bool} {g : Grp} {k : Nat} (hk : k < g.l.length) (h : okG dense g.fi g.l k = false) : isG dense g = false := by
  unfold isG
  rw [List.all_eq_false.2 ⟨k, List.mem_range.2 hk, by rw [h]; decide⟩, Bool.and_false]
theorem isG_go {dense : Bool} {fi : Int} {l : List Ent} {k : Nat} (h : ∀ j, j < k → okG dense fi l j = true) (hk : okG dense fi l k = true) : Aside0 (∀ j, j < k + 1 → okG dense fi l j = true) := ⟨fun j hj => by
  rcases Nat.lt_or_ge j k with h' | h'
  · exact h j h'
  · obtain rfl : j = k := by omega
    exact hk⟩
set_option maxHeartbeats 4000000 in
set_option maxRecDepth 100000 in
theorem ref_is (g : Grp) (A : Option Addr) (c : Nat) (dense : Bool) (w : World) (h : Rd w A c g.l) :
    Calls Try.prog 38 #[vG g A c, .bool dense] w fun e w' => e = .returned (.bool (isG dense g)) ∧ Below w.heap.size w w' := by
  have HR := Aside0.mk h
  have hbd := h.bd
  clear h
  unfold vG
  cases hh : headG g with
  | false =>
    have HH := Aside0.mk hh
    have HG : Aside0 (isG dense g = false) := ⟨by unfold isG; rw [hh, Bool.false_and]⟩
    clear hh
    obtain ⟨b, hb⟩ : ∃ b, isH g.ht g.hv g.hc = b := ⟨_, rfl⟩
    have HI := Aside0.mk hb
    clear hb
    go_enter Try.func38, Try.ntmps38
    cases b
    all_goals go_wp2_with (go_at_call 54; refine (isH4_calls _ _ _ _).mono ?_; rw [HI.out]; rintro e w1 ⟨rfl, hw1⟩)
    all_goals first
      | (go_ret; exact ⟨ret_bool HG.out.symm, by first | exact (((Below.refl _ _).alloc (Nat.le_refl _) _).trans (hw1.mono (by simp))) | (repeat (first | exact Below.refl _ _ | apply below_alloc))⟩)
      | (exfalso; exact headG_false HH.out (by assumption) (by assumption) (by assumption) (by assumption) (by assumption) (by assumption) HI.out)
  | true =>
    have HH := Aside0.mk hh
    have hq := hh
    unfold headG at hq
    rw [Bool.and_eq_true, decide_eq_true_eq] at hq
    obtain ⟨⟨q1, q2, q3, q4, q5, q6⟩, q7⟩ := hq
    have HI := Aside0.mk q7
    have x1 : decide (g.id < 0) = false := decide_eq_false (by omega)
    have x2 : decide (999 < g.id) = false := decide_eq_false (by omega)
    have x3 : decide (g.fi < 1) = false := decide_eq_false (by omega)
    have x4 : decide (1099511627777 < g.fi) = false := decide_eq_false (by omega)
    have x5 : decide (g.tm < 0) = false := decide_eq_false (by omega)
    have x6 : decide (1099511627776 < g.tm) = false := decide_eq_false (by omega)
    have hgn := BoxG.new g A c w
    have HGN := Aside0.mk hgn
    clear hh q7 hgn
    go_enter Try.func38, Try.ntmps38
    go_wp2_with (go_at_call 54; refine (isH4_calls _ _ _ _).mono ?_; rw [HI.out]; rintro e w1 ⟨rfl, hw1⟩; have HG1 := Aside0.mk (HGN.out.below hw1); have HW1 := Aside0.mk hw1; obtain ⟨d0, d1, d2, d3, d4, d5, d6⟩ := HG1.out; clear hw1)
    clear d0 d1 d2 d3 d4 d5 d6 x1 x2 x3 x4 x5 x6
    obtain ⟨s, hs⟩ : ∃ s, w.heap.size = s := ⟨_, rfl⟩
    have HB1w : Aside0 (Below w.heap.size w w1) := ⟨((Below.refl _ w).alloc (Nat.le_refl _) _).trans (HW1.out.mono (by simp))⟩
    have HS := Aside0.mk hs
    rw [hs] at HG1 ⊢
    clear hs HW1 HGN
    go_loopw [5, 6] (fun a i wr => ∃ k : Nat, k ≤ g.l.length ∧ i = .int .i64 k ∧ a = .int .i64 (nxt g.fi g.l k) ∧ Aside0 (∀ j, j < k → okG dense g.fi g.l j = true) ∧ Aside0 (BoxG g A c s wr) ∧ Aside0 (Below w.heap.size w wr)) (fun _ i _ => g.l.length - (intOf i).toNat)
    case atStart => exact ⟨0, Nat.zero_le _, rfl, rfl, ⟨fun j hj => by omega⟩, HG1, HB1w⟩
    case round =>
      obtain ⟨k, hk, rfl, rfl, HK, HGW, HBW⟩ := hrel
      clear HG1 HB1w
      obtain ⟨d0, d1, d2, d3, d4, d5, d6⟩ := HGW.out
      by_cases hlt : k < g.l.length
      · obtain ⟨ad, rfl, g0, g1, g2⟩ := HR.out.at_ hlt
        replace g0 := (HBW.out.cell (World.block_lt_of_cell? w _ g0)).trans g0
        replace g1 := (HBW.out.cell (World.block_lt_of_cell? w _ g1)).trans g1
        replace g2 := (HBW.out.cell (World.block_lt_of_cell? w _ g2)).trans g2
        obtain ⟨x, hx⟩ : ∃ x, el g.l k = x := ⟨_, rfl⟩
        obtain ⟨la, hla⟩ : ∃ la, nxt g.fi g.l k = la := ⟨_, rfl⟩
        obtain ⟨b1, hb1⟩ : ∃ b, isE x = b := ⟨_, rfl⟩
        have HOK : Aside0 (okG dense g.fi g.l k = (b1 && (decide (la ≤ x.f0) && (!dense || decide (x.f0 = la))))) := ⟨by unfold okG; rw [hx, hla, hb1]⟩
        have HNX : Aside0 (nxt g.fi g.l (k + 1) = x.f0 + 1) := ⟨by unfold nxt; rw [if_neg (by omega), Nat.add_sub_cancel, hx]⟩
        have HB1 := Aside0.mk hb1
        rw [hx] at g0 g1 g2
        rw [hla]
        clear hx hla hb1
        cases b1 with
        | false =>
          go_wp2_with (go_at_call 55; refine (isE4_calls x _ HB1.out).mono ?_; rintro r w2 ⟨rfl, hw2⟩; have HW2 := Aside0.mk hw2; have HX2 := Aside0.mk ((BoxE.new x wr).below hw2); have HG2 := Aside0.mk (((HGW.out.only (U := fun _ => False) ((Only.refl _ wr).alloc (.cells #[.int .i64 x.f0, .int .i64 x.f1, .string x.f2] 55)) (fun h => h))).below hw2); obtain ⟨f0, f1, f2⟩ := HX2.out; obtain ⟨c0, c1, c2, c3, c4, c5, c6⟩ := HG2.out; clear hw2 d0 d1 d2 d3 d4 d5 d6 g0 g1 g2)
          go_ret
          exact ⟨ret_bool (by rw [isG_no hlt (by rw [HOK.out]; rfl)]), HBW.out.trans ((((Below.refl _ wr).alloc (Nat.le_refl _) _).trans (HW2.out.mono (by simp))).mono HBW.out.size)⟩
        | true =>
          obtain ⟨r1, r2⟩ := isE_rng HB1.out
          by_cases hl : x.f0 < la
          · have y1 : decide (x.f0 < la) = true := decide_eq_true hl
            have HL : Aside0 (decide (la ≤ x.f0) = false) := ⟨decide_eq_false (by omega)⟩
            clear hl
            go_wp2_with (go_at_call 55; refine (isE4_calls x _ HB1.out).mono ?_; rintro r w2 ⟨rfl, hw2⟩; have HW2 := Aside0.mk hw2; have HX2 := Aside0.mk ((BoxE.new x wr).below hw2); have HG2 := Aside0.mk (((HGW.out.only (U := fun _ => False) ((Only.refl _ wr).alloc (.cells #[.int .i64 x.f0, .int .i64 x.f1, .string x.f2] 55)) (fun h => h))).below hw2); obtain ⟨f0, f1, f2⟩ := HX2.out; obtain ⟨c0, c1, c2, c3, c4, c5, c6⟩ := HG2.out; clear hw2 d0 d1 d2 d3 d4 d5 d6 g0 g1 g2)
            go_ret
            exact ⟨ret_bool (by rw [isG_no hlt (by rw [HOK.out]; rw [HL.out]; rfl)]), HBW.out.trans ((((Below.refl _ wr).alloc (Nat.le_refl _) _).trans (HW2.out.mono (by simp))).mono HBW.out.size)⟩
          · have y1 : decide (x.f0 < la) = false := decide_eq_false hl
            have HL : Aside0 (decide (la ≤ x.f0) = true) := ⟨decide_eq_true (by omega)⟩
            clear hl
            cases dense with
            | false =>
              go_wp2_with (go_at_call 55; refine (isE4_calls x _ HB1.out).mono ?_; rintro r w2 ⟨rfl, hw2⟩; have HW2 := Aside0.mk hw2; have HX2 := Aside0.mk ((BoxE.new x wr).below hw2); have HG2 := Aside0.mk (((HGW.out.only (U := fun _ => False) ((Only.refl _ wr).alloc (.cells #[.int .i64 x.f0, .int .i64 x.f1, .string x.f2] 55)) (fun h => h))).below hw2); obtain ⟨f0, f1, f2⟩ := HX2.out; obtain ⟨c0, c1, c2, c3, c4, c5, c6⟩ := HG2.out; clear hw2 d0 d1 d2 d3 d4 d5 d6 g0 g1 g2)
              go_roundw
              case rel => exact ⟨k + 1, by omega, by go_num, by rw [HNX.out], isG_go HK.out (by rw [HOK.out]; rw [HL.out]; rfl), HG2, ⟨HBW.out.trans ((((Below.refl _ wr).alloc (Nat.le_refl _) _).trans (HW2.out.mono (by simp))).mono HBW.out.size)⟩⟩
              case measure => simp [intOf]; omega
            | true =>
              by_cases he : x.f0 = la
              · have y2 : (x.f0 != la) = false := bne_eq_false_iff_eq.2 he
                have y3 : (x.f0 == la) = true := beq_iff_eq.2 he
                have HE : Aside0 (decide (x.f0 = la) = true) := ⟨decide_eq_true he⟩
                clear he
                go_wp2_with (go_at_call 55; refine (isE4_calls x _ HB1.out).mono ?_; rintro r w2 ⟨rfl, hw2⟩; have HW2 := Aside0.mk hw2; have HX2 := Aside0.mk ((BoxE.new x wr).below hw2); have HG2 := Aside0.mk (((HGW.out.only (U := fun _ => False) ((Only.refl _ wr).alloc (.cells #[.int .i64 x.f0, .int .i64 x.f1, .string x.f2] 55)) (fun h => h))).below hw2); obtain ⟨f0, f1, f2⟩ := HX2.out; obtain ⟨c0, c1, c2, c3, c4, c5, c6⟩ := HG2.out; clear hw2 d0 d1 d2 d3 d4 d5 d6 g0 g1 g2)
                go_roundw
                case rel => exact ⟨k + 1, by omega, by go_num, by rw [HNX.out], isG_go HK.out (by rw [HOK.out]; rw [HL.out, HE.out]; rfl), HG2, ⟨HBW.out.trans ((((Below.refl _ wr).alloc (Nat.le_refl _) _).trans (HW2.out.mono (by simp))).mono HBW.out.size)⟩⟩
                case measure => simp [intOf]; omega
              · have y2 : (x.f0 != la) = true := bne_iff_ne.2 he
                have y3 : (x.f0 == la) = false := beq_eq_false_iff_ne.2 he
                have HE : Aside0 (decide (x.f0 = la) = false) := ⟨decide_eq_false he⟩
                clear he
                go_wp2_with (go_at_call 55; refine (isE4_calls x _ HB1.out).mono ?_; rintro r w2 ⟨rfl, hw2⟩; have HW2 := Aside0.mk hw2; have HX2 := Aside0.mk ((BoxE.new x wr).below hw2); have HG2 := Aside0.mk (((HGW.out.only (U := fun _ => False) ((Only.refl _ wr).alloc (.cells #[.int .i64 x.f0, .int .i64 x.f1, .string x.f2] 55)) (fun h => h))).below hw2); obtain ⟨f0, f1, f2⟩ := HX2.out; obtain ⟨c0, c1, c2, c3, c4, c5, c6⟩ := HG2.out; clear hw2 d0 d1 d2 d3 d4 d5 d6 g0 g1 g2)
                go_ret
                exact ⟨ret_bool (by rw [isG_no hlt (by rw [HOK.out]; rw [HL.out, HE.out]; rfl)]), HBW.out.trans ((((Below.refl _ wr).alloc (Nat.le_refl _) _).trans (HW2.out.mono (by simp))).mono HBW.out.size)⟩
      · obtain rfl : k = g.l.length := by omega
        go_wp2
        go_ret
        exact ⟨ret_bool (by unfold isG; rw [HH.out, List.all_eq_true.2 (fun q hq => HK.out q (List.mem_range.1 hq))]; rfl), HBW.out⟩
theorem ref_Is6 (g : Grp) (A : Option Addr) (c : Nat) (w : World) (h : Rd w A c g.l) :
    Calls Try.prog 16 #[vG g A c] w fun e w' => e = .returned (.bool (isG true g)) ∧ Below w.heap.size w w' := by
  have HR := Aside0.mk h
  clear h
  unfold vG
  go_enter Try.func16, Try.ntmps16
  go_wp2_with (go_at_call 38; refine (ref_is g A c true _ (HR.out.alloc _)).mono ?_; rintro e w1 ⟨rfl, hw1⟩)
  go_ret
  exact ⟨rfl, ((Below.refl _ _).alloc (Nat.le_refl _) _).trans (hw1.mono (by simp))⟩
end Go.Proofs.Ytlfdmlacadoolaa.PartW
namespace Go.Proofs.Ytlfdmlacadoolaa.PartW
open Go Go.RowKit Go.Proofs.Ytlfdmlacadoolaa.A Go.Proofs.Ytlfdmlacadoolaa.Sp Go.Proofs.Ytlfdmlacadoolaa.Reg Go.Proofs.Ytlfdmlacadoolaa.Seq Go.Proofs.YtlfdmlacadoolaaW.PrintWords Go.Proofs.YtlfdmlacadoolaaW.PrintLast Go.Proofs.YtlfdmlacadoolaaW.PrintMore
attribute [local go_sem high] eqA23 eqA55
theorem sameL_len {a b : List Ent} (h : a.length ≠ b.length) : sameL a b = false := by unfold sameL; rw [decide_eq_false h, Bool.false_and]
set_option maxHeartbeats 4000000 in
set_option maxRecDepth 100000 in
theorem ref_SameG (a b : Grp) (A : Option Addr) (c : Nat) (A' : Option Addr) (c' : Nat) (w : World) (ha : Rd w A c a.l) (hb : Rd w A' c' b.l) :
    Calls Try.prog 18 #[vG a A c, vG b A' c'] w fun e w' => e = .returned (.bool (sameG a b)) ∧ Below w.heap.size w w' := by
  have HA := Aside0.mk ha
  have HB := Aside0.mk hb
  have hbd := ha.bd
  clear ha hb
  unfold vG
  by_cases hE : a.id = b.id ∧ a.fi = b.fi ∧ a.tm = b.tm ∧ (a.ht = b.ht ∧ a.hv = b.hv ∧ a.hc = b.hc) ∧ a.l.length = b.l.length
  · obtain ⟨id, fi, tm, ht, hv, hc, l⟩ := a
    obtain ⟨id', fi', tm', ht', hv', hc', l'⟩ := b
    obtain ⟨rfl, rfl, rfl, ⟨rfl, rfl, rfl⟩, hl⟩ := hE
    dsimp only at HA HB hbd hl ⊢
    have HG : Aside0 (sameG ⟨id, fi, tm, ht, hv, hc, l⟩ ⟨id, fi, tm, ht, hv, hc, l'⟩ = (List.range l.length).all fun i => eqE (el l i) (el l' i)) := ⟨by
      unfold sameG sameL
      dsimp only
      rw [decide_eq_true ⟨rfl, rfl, rfl, rfl, rfl, rfl⟩, decide_eq_true hl, Bool.true_and, Bool.true_and]⟩
    have h1 := BoxG.new ⟨id, fi, tm, ht, hv, hc, l⟩ A c w
    have h2 := BoxG.new ⟨id, fi, tm, ht, hv, hc, l'⟩ A' c' (w.alloc (.cells #[.int .i64 id, .int .i64 fi, .int .i64 tm, .int .i64 ht, .int .i64 hv, .int .i64 hc, .slice A l.length c] 26))
    rw [World.size_alloc] at h2
    have H1 := Aside0.mk (h1.only ((Only.refl (fun _ => False) _).alloc (.cells #[.int .i64 id, .int .i64 fi, .int .i64 tm, .int .i64 ht, .int .i64 hv, .int .i64 hc, .slice A' l'.length c'] 26)) (fun h => h))
    have H2 := Aside0.mk h2
    have HL := Aside0.mk hl
    have z0 : ((l.length : Int) != (l'.length : Int)) = false := bne_eq_false_iff_eq.2 (by omega)
    clear h1 h2 hl
    go_enter Try.func18, Try.ntmps18
    go_wp2
    clear z0
    obtain ⟨s, hs⟩ : ∃ s, w.heap.size = s := ⟨_, rfl⟩
    have HS := Aside0.mk hs
    have HBW0 : Aside0 (Below w.heap.size w ((w.alloc (.cells #[.int .i64 id, .int .i64 fi, .int .i64 tm, .int .i64 ht, .int .i64 hv, .int .i64 hc, .slice A l.length c] 26)).alloc (.cells #[.int .i64 id, .int .i64 fi, .int .i64 tm, .int .i64 ht, .int .i64 hv, .int .i64 hc, .slice A' l'.length c'] 26))) := ⟨((Below.refl _ w).alloc (Nat.le_refl _) _).alloc (by simp) _⟩
    rw [hs] at H1 H2 ⊢
    clear hs
    go_loopw [5] (fun i wr => ∃ k : Nat, k ≤ l.length ∧ i = .int .i64 k ∧ Aside0 (∀ j, j < k → eqE (el l j) (el l' j) = true) ∧ Aside0 (BoxG ⟨id, fi, tm, ht, hv, hc, l⟩ A c s wr) ∧ Aside0 (BoxG ⟨id, fi, tm, ht, hv, hc, l'⟩ A' c' (s + 1) wr) ∧ Aside0 (Below w.heap.size w wr)) (fun i _ => l.length - (intOf i).toNat)
    case atStart => exact ⟨0, Nat.zero_le _, rfl, ⟨fun j hj => by omega⟩, H1, H2, HBW0⟩
    case round =>
      clear H1 H2 HBW0
      obtain ⟨k, hk, rfl, HK, H1, H2, HBW⟩ := hrel
      obtain ⟨d0, d1, d2, d3, d4, d5, d6⟩ := H1.out
      obtain ⟨e0, e1, e2, e3, e4, e5, e6⟩ := H2.out
      dsimp only at d6 e6
      clear d0 d1 d2 d3 d4 d5 e0 e1 e2 e3 e4 e5
      by_cases hlt : k < l.length
      · have hlt2 : k < l'.length := by have := HL.out; omega
        obtain ⟨ad, rfl, g0, g1, g2⟩ := HA.out.at_ hlt
        obtain ⟨ad', rfl, k0, k1, k2⟩ := HB.out.at_ hlt2
        replace g0 := (HBW.out.cell (World.block_lt_of_cell? w _ g0)).trans g0
        replace g1 := (HBW.out.cell (World.block_lt_of_cell? w _ g1)).trans g1
        replace g2 := (HBW.out.cell (World.block_lt_of_cell? w _ g2)).trans g2
        replace k0 := (HBW.out.cell (World.block_lt_of_cell? w _ k0)).trans k0
        replace k1 := (HBW.out.cell (World.block_lt_of_cell? w _ k1)).trans k1
        replace k2 := (HBW.out.cell (World.block_lt_of_cell? w _ k2)).trans k2
        obtain ⟨x, hx⟩ : ∃ x, el l k = x := ⟨_, rfl⟩
        obtain ⟨y, hy⟩ : ∃ y, el l' k = y := ⟨_, rfl⟩
        obtain ⟨b, hb⟩ : ∃ b, eqE x y = b := ⟨_, rfl⟩
        have HQ : Aside0 (eqE (el l k) (el l' k) = b) := ⟨by rw [hx, hy, hb]⟩
        have z1 : (x.f0 == y.f0 && (x.f1 == y.f1 && (x.f2.toList == y.f2.toList))) = b := hb
        have z2 : (!(x.f0 == y.f0) || (!(x.f1 == y.f1) || (!(x.f2.toList == y.f2.toList)))) = !b := by rw [ne_q, hb]
        have z3 : (k : Int) < (l'.length : Int) := by omega
        rw [hx] at g0 g1 g2
        rw [hy] at k0 k1 k2
        clear hx hy hb
        go_wp2
        go_quiet (fail)
        cases b with
        | false =>
          go_wp2
          go_ret
          exact ⟨ret_bool (by rw [HG.out, List.all_eq_false.2 ⟨k, List.mem_range.2 hlt, by rw [HQ.out]; decide⟩]), by repeat (first | exact HBW.out | apply pw_below_drewN)⟩
        | true =>
          go_wp2
          go_roundw
          case rel => exact ⟨k + 1, by omega, by go_num, ⟨fun j hj => by
            rcases Nat.lt_or_ge j k with h' | h'
            · exact HK.out j h'
            · obtain rfl : j = k := by omega
              exact HQ.out⟩, H1, H2, ⟨by repeat (first | exact HBW.out | apply pw_below_drewN)⟩⟩
          case measure => simp [intOf]; omega
      · obtain rfl : k = l.length := by omega
        go_wp2
        go_ret
        exact ⟨ret_bool (by rw [HG.out, List.all_eq_true.2 (fun q hq => HK.out q (List.mem_range.1 hq))]), HBW.out⟩
  · have HG : Aside0 (sameG a b = false) := ⟨by
      unfold sameG
      by_cases h1 : a.id = b.id ∧ a.fi = b.fi ∧ a.tm = b.tm ∧ a.ht = b.ht ∧ a.hv = b.hv ∧ a.hc = b.hc
      · rw [sameL_len (fun h => hE ⟨h1.1, h1.2.1, h1.2.2.1, h1.2.2.2, h⟩), Bool.and_false]
      · rw [decide_eq_false h1, Bool.false_and]⟩
    have HE := Aside0.mk hE
    clear hE
    go_enter Try.func18, Try.ntmps18
    go_wp2
    all_goals first
      | (go_ret; exact ⟨ret_bool HG.out.symm, by repeat (first | exact Below.refl _ _ | apply below_alloc)⟩)
      | (exfalso; exact HE.out ⟨by assumption, by assumption, by assumption, by assumption, (by have h : ((a.l.length : Int) != (b.l.length : Int)) = false := (by assumption); have h2 := bne_eq_false_iff_eq.1 h; omega)⟩)
end Go.Proofs.Ytlfdmlacadoolaa.PartW
namespace Go.Proofs.Ytlfdmlacadoolaa.PartW
open Go Go.RowKit Go.Proofs.Ytlfdmlacadoolaa.A Go.Proofs.Ytlfdmlacadoolaa.Sp Go.Proofs.Ytlfdmlacadoolaa.Reg Go.Proofs.Ytlfdmlacadoolaa.Seq Go.Proofs.YtlfdmlacadoolaaW.PrintWords Go.Proofs.YtlfdmlacadoolaaW.PrintLast Go.Proofs.YtlfdmlacadoolaaW.PrintMore
theorem ref_At (g : Grp) (A : Option Addr) (c : Nat) (i : Int) (w : World) (h : Rd w A c g.l) :
    Calls Try.prog 47 #[vG g A c, .int .i64 i] w fun e w' => e = .returned (.int .i64 (atL g.l i)) ∧ Below w.heap.size w w' :=
  laderef6_At.calls _ _ _ _ _ _ _ _ _ _ _ _ w h.rd h.le (at_q g i h.bd)
theorem ref_from (l : List Ent) (A : Option Addr) (c : Nat) (i : Int) (w : World) (h : Rd w A c l) :
    Calls Try.prog 48 #[.slice A l.length c, .int .i64 i] w fun e w' => ∃ A' c', e = .returned (.slice A' (fromL l i).length c') ∧ Rd w' A' c' (fromL l i) ∧ (∀ k, inA A' (fromL l i) k → w.heap.size ≤ k) ∧ Below w.heap.size w w' := by
  refine (laderef6_from.calls _ A c l i _ w h.rd h.le (from_q l i h.bd)).mono ?_
  rintro e w' ⟨v, rfl, hr, hb⟩
  obtain ⟨A', c', rfl, h1, h2⟩ := Kd.R_reads hr
  refine ⟨A', c', rfl, ⟨h2, h1, Nat.le_trans (List.length_filter_le _ _) h.bd⟩, ?_, hb⟩
  rintro k ⟨hn, ad, rfl, rfl⟩
  obtain ⟨_, inner, hrow, _⟩ := hr
  obtain ⟨_, h3⟩ := hrow
  rcases h3 with ⟨h3, h4⟩ | ⟨g, cap, cur, hv, hb, _⟩
  · omega
  · cases hv; exact hb
end Go.Proofs.Ytlfdmlacadoolaa.PartW
namespace Go.Proofs.Ytlfdmlacadoolaa.Sp
open Go Go.RowKit Go.Proofs.Ytlfdmlacadoolaa.A Go.Proofs.Ytlfdmlacadoolaa.Seq Go.Proofs.YtlfdmlacadoolaaW.PrintWords Go.Proofs.YtlfdmlacadoolaaW.PrintLast Go.Proofs.YtlfdmlacadoolaaW.PrintMore
theorem flat_of : ∀ (r : List Ent) (inner : List Value), inner.length = r.length * 3 → (∀ j p, r[j]? = some p → (inner.drop (j * 3)).take 3 = cellsE p) → inner = flatE r
  | [], inner, h, _ => List.eq_nil_of_length_eq_zero (by simpa using h)
  | x :: r, inner, h, hc => by
    have h0 := hc 0 x rfl
    rw [Nat.zero_mul, List.drop_zero] at h0
    have h1 := flat_of r (inner.drop 3) (by rw [List.length_drop, h, List.length_cons]; omega) (fun j p hj => by
      rw [List.drop_drop, show 3 + j * 3 = (j + 1) * 3 by omega]
      exact hc (j + 1) p (by simpa using hj))
    show inner = cellsE x ++ flatE r
    rw [← h1, ← h0, List.take_append_drop]
theorem own_of_R {w : World} {b : Nat} {ok : Nat → Prop} {v : Value} {l : List Ent} (h : Kd.R k55 55 w b ok v l) : OwnE w b v l := by
  obtain ⟨_, inner, hrow, hlen, hm⟩ := h
  have : inner = flatE l := flat_of l inner hlen (fun j p hj => by
    obtain h2 := k55_open (Kd.K_of_M _ (hm j p hj))
    exact h2)
  unfold OwnE
  rw [← this]
  exact hrow
theorem two_len (l : List Ent) (x : Int) : (belowL l x).length + (fromL l x).length = l.length := by
  unfold belowL fromL
  rw [← List.countP_eq_length_filter, ← List.countP_eq_length_filter, List.length_eq_countP_add_countP (fun e : Ent => decide (e.f0 < x)) (l := l)]
  congr 1
  refine List.countP_congr fun e _ => ?_
  simp
end Go.Proofs.Ytlfdmlacadoolaa.Sp
namespace Go.Proofs.Ytlfdmlacadoolaa.PartW
open Go Go.RowKit Go.Shelf Go.Proofs.Ytlfdmlacadoolaa.A Go.Proofs.Ytlfdmlacadoolaa.Sp Go.Proofs.Ytlfdmlacadoolaa.Reg Go.Proofs.Ytlfdmlacadoolaa.Seq Go.Proofs.YtlfdmlacadoolaaW.PrintWords Go.Proofs.YtlfdmlacadoolaaW.PrintLast Go.Proofs.YtlfdmlacadoolaaW.PrintMore
theorem ad0 (ad : Addr) : ad.add (0 * 3) = ad := by
  cases ad; simp [Addr.add]
theorem ref_below (l : List Ent) (A : Option Addr) (c : Nat) (i : Int) (w : World) (h : Rd w A c l) : Calls Try.prog 46 #[.slice A l.length c, .int .i64 i] w (Made w (belowL l i)) := by
  refine (laderef6_below.calls _ A c l i _ w h.rd h.le (below_q l i h.bd)).mono ?_
  rintro e w' ⟨v, rfl, hr, hb⟩
  exact ⟨v, rfl, own_of_R hr, hb⟩
theorem ref_fromO (l : List Ent) (A : Option Addr) (c : Nat) (i : Int) (w : World) (h : Rd w A c l) : Calls Try.prog 48 #[.slice A l.length c, .int .i64 i] w (Made w (fromL l i)) := by
  refine (laderef6_from.calls _ A c l i _ w h.rd h.le (from_q l i h.bd)).mono ?_
  rintro e w' ⟨v, rfl, hr, hb⟩
  exact ⟨v, rfl, own_of_R hr, hb⟩
theorem Two.only {U : Nat → Prop} {g : Grp} {A : Option Addr} {c : Nat} {p : Prt} {Ap : Option Addr} {cp s : Nat} {w W W' : World} (h : Two g A c p Ap cp s w W) (ho : Only U W W') (hU : ∀ q, q < s + 3 → ¬ U q) : Two g A c p Ap cp s w W' :=
  ⟨h.hs, h.bg.only ho (hU _ (by omega)), BlkP.only h.bp ho (hU _ (by omega)), h.bz.only ho (hU _ (by omega)), h.rg.only ho (fun q hq => hU _ (by have := h.ag q hq; omega)), h.rp.only ho (fun q hq => hU _ (by have := h.ap q hq; omega)), h.ag, h.ap,
    h.b.trans (ho.below (by have := h.sz; omega) (fun q hq => hU _ (by omega))), Nat.le_trans h.sz ho.size⟩
theorem BlkG.setne {g : Grp} {A : Option Addr} {c B B' o : Nat} {W : World} (h : BlkG g A c B W) (hne : B' ≠ B) (v : Value) : BlkG g A c B (W.setCell ⟨B', o, none⟩ v) :=
  (((Only.refl (fun k => k = B') W).setCell (p := ⟨B', o, none⟩) rfl v).block B (Array.getElem?_eq_some_iff.1 h).1 (fun h => hne h.symm)).trans h
theorem BlkG.set2 {g : Grp} {A : Option Addr} {c B : Nat} {W : World} (h : BlkG g A c B W) (x : Int) : BlkG ⟨g.id, g.fi, x, g.ht, g.hv, g.hc, g.l⟩ A c B (W.setCell ⟨B, 2, none⟩ (.int .i64 x)) := by
  unfold BlkG at h ⊢
  unfold World.setCell
  dsimp only
  rw [Array.getElem?_modify, if_pos rfl, h]
  simp
theorem BlkG.snap {g : Grp} {A : Option Addr} {c B : Nat} {W : World} (h : BlkG g A c B W) (i t : Int) : BlkG ⟨g.id, i + 1, t, g.ht, g.hv, g.hc, []⟩ none 0 B (((W.setCell ⟨B, 6, none⟩ (.slice none 0 0)).setCell ⟨B, 1, none⟩ (.int .i64 (i + 1))).setCell ⟨B, 2, none⟩ (.int .i64 t)) := by
  unfold BlkG at h ⊢
  simp [World.setCell, Array.getElem?_modify, h]
theorem isr_calls' (p : Prt) (A : Option Addr) (c : Nat) (w : World) (h : Rd w A c p.l) {b : Bool} (hb : isP p = b) : Calls Try.prog 40 #[vP p A c] w fun e w' => e = .returned (.bool b) ∧ Below w.heap.size w w' := by
  rw [← hb]; exact ref_Is p A c w h
end Go.Proofs.Ytlfdmlacadoolaa.PartW
