/- The statement GroupHards; no condition beyond the row's. -/
import Derived.Test.YtlfdmlacadoolaaSameQ
import Derived.Test.YtlfdmlacadoolaaFew6
import Derived.Test.YtlfdmlacadoolaaGrow
set_option linter.unusedVariables false
set_option linter.unusedSimpArgs false
namespace Go.Proofs.Ytlfdmlacadoolaa.PartW
open Go Go.RowKit Go.Shelf Go.Proofs.Ytlfdmlacadoolaa.A Go.Proofs.Ytlfdmlacadoolaa.Sp Go.Proofs.Ytlfdmlacadoolaa.Reg Go.Proofs.Ytlfdmlacadoolaa.Seq Go.Proofs.YtlfdmlacadoolaaW.PrintWords Go.Proofs.YtlfdmlacadoolaaW.PrintLast Go.Proofs.YtlfdmlacadoolaaW.PrintMore
/-- three ways meet: what comes behind them is shown once -/
theorem cut_w {P F : Option Addr → Nat → Option Addr → Nat → Nat → World → Prop} {G : Prop} (m : (∀ A c Ap cp n W, F A c Ap cp n W → P A c Ap cp n W) → G) (t : ∀ A c Ap cp n W, F A c Ap cp n W → P A c Ap cp n W) : G := m t
theorem cut_v {P F : Option Addr → Nat → Nat → World → Prop} {G : Prop} (m : (∀ A c n W, F A c n W → P A c n W) → G) (t : ∀ A c n W, F A c n W → P A c n W) : G := m t
theorem grown_d (id : Int) (N : Nat) (w : World) (hid : 0 ≤ id ∧ id ≤ 999) (hN : N ≤ 900) {G : Grp} (hG : groG id N = G) : Calls Try.prog 33 #[.int .i64 id, .int .i64 (N : Int)] w fun e w' => ∃ A c, e = .returned (.tuple #[vG G A c, .bool true]) ∧ Rd w' A c G.l ∧ Below w.heap.size w w' := by
  rw [← hG]; exact grown_calls id N w hid hN
/-- a hard state's box -/
def BlkH (x y z : Int) (B : Nat) (W : World) : Prop := W.heap[B]? = some (.cells #[.int .i64 x, .int .i64 y, .int .i64 z] 23 (0, 0))
def BoxH (x y z : Int) (B : Nat) (W : World) : Prop := W.cell? ⟨B, 0, none⟩ = some (.int .i64 x) ∧ W.cell? ⟨B, 1, none⟩ = some (.int .i64 y) ∧ W.cell? ⟨B, 2, none⟩ = some (.int .i64 z)
theorem BlkH.new (x y z : Int) (w : World) : BlkH x y z w.heap.size (w.alloc (.cells #[.int .i64 x, .int .i64 y, .int .i64 z] 23)) := by
  unfold BlkH; exact World.alloc_heap_new w _
theorem BlkH.only {U : Nat → Prop} {x y z : Int} {B : Nat} {W W' : World} (h : BlkH x y z B W) (ho : Only U W W') (hU : ¬ U B) : BlkH x y z B W' := (ho.block B (Array.getElem?_eq_some_iff.1 h).1 hU).trans h
theorem BlkH.below {x y z : Int} {B : Nat} {W W' : World} (h : BlkH x y z B W) (hb : Below W.heap.size W W') : BlkH x y z B W' := (hb.block _ (Array.getElem?_eq_some_iff.1 h).1).trans h
theorem BlkH.alloc {x y z : Int} {B : Nat} {W : World} (h : BlkH x y z B W) (o : Obj) : BlkH x y z B (W.alloc o) := (Below.heap_alloc _ _ _ (Array.getElem?_eq_some_iff.1 h).1).trans h
theorem BlkH.drew {x y z : Int} {B : Nat} {W : World} (h : BlkH x y z B W) : BlkH x y z B W.drew := h.below (below_drew (Below.refl _ _))
theorem BlkH.box {x y z : Int} {B : Nat} {W : World} (h : BlkH x y z B W) : BoxH x y z B W := by
  unfold BlkH at h
  refine ⟨?_, ?_, ?_⟩ <;> simp [World.cell?, h]
theorem lbH {x y z : Int} {B : Nat} {w w' : World} (h : Aside0 (BlkH x y z B w)) (hb : Below w.heap.size w w') : Aside0 (BlkH x y z B w') := ⟨h.out.below hb⟩
theorem laH {x y z : Int} {B : Nat} {w : World} (h : Aside0 (BlkH x y z B w)) (o : Obj) : Aside0 (BlkH x y z B (w.alloc o)) := ⟨h.out.alloc o⟩
theorem ldH {x y z : Int} {B : Nat} {w : World} (h : Aside0 (BlkH x y z B w)) : Aside0 (BlkH x y z B w.drew) := ⟨h.out.drew⟩
def harP (id a v c : Int) : Prt := ⟨id, 2, [], a, v, c, 0, 0, false, false⟩
theorem wrI {x : Int} (h : -1000000 ≤ x ∧ x ≤ 1000000) : IntKind.i64.wrap x = x := by rw [i64_w]; unfold wrap64; omega
theorem har_facts {N : Nat} {a v c : Int} (hN : N ≤ 8) (ha : 0 ≤ a ∧ a ≤ 1000000) (hv : 0 ≤ v ∧ v ≤ 1000) (hc : 0 ≤ c ∧ c ≤ 1000000) :
    ∃ H Y : Grp, dwG (groG 5 N) (harP 5 a v c) = H ∧ chwG (groG 5 N) (harP 5 a v c) = 0 ∧ H.ht = a ∧ H.hv = v ∧ H.hc = c ∧ H.l.length = N ∧ chwG H (appP 5 ((N : Int) + 1) 9 2) = 0 ∧ dwG H (appP 5 ((N : Int) + 1) 9 2) = Y ∧ Y.ht = a ∧ Y.hv = v ∧ Y.hc = c ∧
      chwG H (harP 5 0 1001 0) = 11 ∧ dwG H (harP 5 0 1001 0) = H ∧ chwG H (harP 6 0 0 0) = 11 ∧ dwG H (harP 6 0 0 0) = H := by
  have hD := gro_dense (id := 5) (k := N) ⟨by decide, by decide⟩ (by omega)
  have hc1 : chkG (groG 5 N) (harP 5 a v c) = 0 := by
    unfold chkG
    rw [if_pos ⟨by
      unfold isP harP isH noL noM
      dsimp only
      rw [if_neg (by decide), if_pos rfl]
      simp only [decide_eq_true_eq, Bool.and_eq_true, Bool.not_false, List.length_nil]
      refine ⟨by omega, by decide, ⟨by decide, by decide⟩, by omega⟩, by show ¬ (2 : Int) = 6; decide, by show ¬ (2 : Int) = 5; decide, rfl⟩]
    unfold chkK
    rw [if_neg (by show ¬ (2 : Int) = 1; decide), if_neg (by show ¬ (2 : Int) = 3; decide), if_neg (by show ¬ (2 : Int) = 4; decide)]
  have hH := do_dense hD (harP 5 a v c)
  have hdo : dwG (groG 5 N) (harP 5 a v c) = ⟨5, 1, 0, a, v, c, (groG 5 N).l⟩ := by
    rw [dw_do hD, if_pos hc1]
    unfold doRG
    rw [if_neg (by show ¬ (2 : Int) = 1; decide), if_pos (show (harP 5 a v c).k = 2 from rfl)]
    rfl
  obtain ⟨H, hHe⟩ : ∃ H, dwG (groG 5 N) (harP 5 a v c) = H := ⟨_, rfl⟩
  rw [hHe] at hH hdo
  have f3 : H.id = 5 := by rw [hdo]
  have f1 : H.fi = 1 := by rw [hdo]
  have f4 : H.l.length = N := by rw [hdo]; exact gro_len 5 N
  have c0 : chkG H (appP 5 ((N : Int) + 1) 9 2) = 0 := by
    have hck := app_chk (g := H) (i := (N : Int) + 1) (t := 9) (N := 2) hH (by omega) (by omega) (by decide) (by decide) (by rw [f3]; decide)
    rw [f3] at hck
    rw [hck, if_neg (by rw [f1]; omega), if_neg (by rw [f1, f4]; omega)]
  have hY := app_list hH c0 rfl
  have r1 : chwG H (harP 5 0 1001 0) = 11 := by
    rw [chw_chk hH]; unfold chkG
    rw [if_neg (fun h => absurd h.1 (by decide))]
  have r2 : chwG H (harP 6 0 0 0) = 11 := by
    rw [chw_chk hH]; unfold chkG
    rw [if_neg (fun h => by have := h.2.2.2; rw [f3] at this; exact absurd this (by decide))]
  refine ⟨H, _, hHe, by rw [chw_chk hD]; exact hc1, by rw [hdo], by rw [hdo], by rw [hdo], f4, by rw [chw_chk hH]; exact c0, rfl, by rw [hY, hdo], by rw [hY, hdo], by rw [hY, hdo], r1, by unfold dwG; rw [if_neg (by rw [r1]; decide)], r2, by unfold dwG; rw [if_neg (by rw [r2]; decide)]⟩
set_option maxHeartbeats 8000000 in
set_option maxRecDepth 100000 in
theorem hards6 (n a b c : Int) (w : World) (h0 : 0 ≤ n ∧ n < 256) (h1 : 0 ≤ a ∧ a < 65536) (h2 : 0 ≤ b ∧ b < 65536) (h3 : 0 ≤ c ∧ c < 65536) (N : Nat) (V : Int) (hN2 : N ≤ 8) (hN : n % 8 = (N : Int)) (hV : b % 1001 = V) (hV1 : 0 ≤ V ∧ V ≤ 1000) :
  Calls Try.prog 10 #[.int .u8 n, .int .u16 a, .int .u16 b, .int .u16 c] w fun e w' => e = .returned (.bool true) ∧ Below w.heap.size w w' := by
 have hid : (0 : Int) ≤ 5 ∧ (5 : Int) ≤ 999 := by decide
 obtain ⟨H, Y, c1, c2, c3, c4, c5, c6, c7, c8, c9, c10, c11, c12, c13, c14, c15⟩ := har_facts (N := N) (a := a) (v := V) (c := c) hN2 ⟨by omega, by omega⟩ hV1 ⟨by omega, by omega⟩
 rw [← hN] at c7 c8
 obtain ⟨G, hG⟩ : ∃ G, groG 5 N = G := ⟨_, rfl⟩
 obtain ⟨P, hP⟩ : ∃ P, appP 5 (n % 8 + 1) 9 2 = P := ⟨_, rfl⟩
 rw [hG] at c1 c2
 rw [hP] at c7 c8
 have HN : Aside0 (N ≤ 8 ∧ 0 ≤ n % 8 ∧ n % 8 ≤ 8) := ⟨⟨hN2, by omega, by omega⟩⟩
 have HE1 := Aside0.mk hN
 have HE2 := Aside0.mk hV
 have HID := Aside0.mk hid
 have JG := Aside0.mk hG
 have JP := Aside0.mk hP
 have K1 : Aside0 (dwG G (harP 5 a V c) = H ∧ chwG G (harP 5 a V c) = 0) := ⟨⟨c1, c2⟩⟩
 have K3 : Aside0 (chwG H P = 0 ∧ dwG H P = Y) := ⟨⟨c7, c8⟩⟩
 have K4 : Aside0 (chwG H (harP 5 0 1001 0) = 11 ∧ dwG H (harP 5 0 1001 0) = H) := ⟨⟨c12, c13⟩⟩
 have K5 : Aside0 (chwG H (harP 6 0 0 0) = 11 ∧ dwG H (harP 6 0 0 0) = H) := ⟨⟨c14, c15⟩⟩
 have LG : Aside0 (G.l.length + ([] : List Ent).length ≤ 4398046511104) := ⟨by rw [← hG, gro_len]; show N + 0 ≤ _; omega⟩
 have LH : Aside0 (H.l.length + ([] : List Ent).length ≤ 4398046511104) := ⟨by rw [c6]; show N + 0 ≤ _; omega⟩
 have LP : Aside0 (H.l.length + P.l.length ≤ 4398046511104) := ⟨by rw [c6, ← hP]; show N + (appL _ _ 2).length ≤ _; rw [appL_len]; omega⟩
 have q1 : ((H.l.length : Int) == (G.l.length : Int)) = true := by rw [c6, ← hG, gro_len]; exact beq_self_eq_true _
 have u1 : IntKind.i64.wrap (n % 8 + 1) = n % 8 + 1 := wrI ⟨by omega, by omega⟩
 have m5 : n.tmod 8 = n % 8 := Int.tmod_eq_emod_of_nonneg h0.1
 have m9 : IntKind.i64.wrap (n % 8) = n % 8 := wrI ⟨by omega, by omega⟩
 have q3 : (H.ht == a) = true := beq_iff_eq.2 c3
 have q4 : (H.hv == V) = true := beq_iff_eq.2 c4
 have q5 : (H.hc == c) = true := beq_iff_eq.2 c5
 have q6 : (Y.ht == a) = true := beq_iff_eq.2 c9
 have q7 : (Y.hv == V) = true := beq_iff_eq.2 c10
 have q8 : (Y.hc == c) = true := beq_iff_eq.2 c11
 obtain ⟨i0, i1⟩ := h0
 obtain ⟨i2, i3⟩ := h1
 obtain ⟨i4, i5⟩ := h2
 obtain ⟨i6, i7⟩ := h3
 clear hN hV hV1 hN2 c1 c2 c3 c4 c5 c6 c7 c8 c9 c10 c11 c12 c13 c14 c15 hG hP hid
 go_enter Try.func10, Try.ntmps10
 have HB := Aside0.mk (Bel.refl w)
 obtain ⟨C4, hC4⟩ : ∃ C, (match Try.f10.body with | some (.seq _ (.seq _ (.seq _ c))) => c | _ => .skip) = C := ⟨_, rfl⟩
 have HC4 := Aside0.mk hC4
 simp only [Try.f10] at hC4
 rw [hC4]
 clear hC4
 go_wp2_with fail
 go_at_call 12
 refine (known6 _).mono ?_
 rintro e w1 ⟨rfl, hw1⟩
 replace HB := lbB HB hw1
 clear hw1
 go_wp2_with fail
 try rw [HE1.out]
 go_at_call 33
 refine (grown_d 5 N _ HID.out (by have := HN.out; omega) JG.out).mono ?_
 rintro e w2 ⟨A1, c1, rfl, hrd, hw2⟩
 replace HB := lbB HB hw2
 have HR1 := Aside0.mk (hrd)
 clear hrd
 clear hw2
 obtain ⟨n8, hn8⟩ : ∃ n, w2.heap.size = n := ⟨_, rfl⟩
 have HSn8 := Aside0.mk hn8
 go_wp2_with fail
 replace HB := laB HB (.cells #[.int .i64 G.id, .int .i64 G.fi, .int .i64 G.tm, .int .i64 G.ht, .int .i64 G.hv, .int .i64 G.hc, .slice A1 G.l.length c1] 26)
 replace HR1 := laR HR1 (.cells #[.int .i64 G.id, .int .i64 G.fi, .int .i64 G.tm, .int .i64 G.ht, .int .i64 G.hv, .int .i64 G.hc, .slice A1 G.l.length c1] 26)
 have HG : Aside0 (BlkG G A1 c1 n8 (w2.alloc (.cells #[.int .i64 G.id, .int .i64 G.fi, .int .i64 G.tm, .int .i64 G.ht, .int .i64 G.hv, .int .i64 G.hc, .slice A1 G.l.length c1] 26))) := ⟨(by have hq := BlkG.new G A1 c1 w2; rw [HSn8.out] at hq; exact hq : BlkG G A1 c1 n8 (w2.alloc (.cells #[.int .i64 G.id, .int .i64 G.fi, .int .i64 G.tm, .int .i64 G.ht, .int .i64 G.hv, .int .i64 G.hc, .slice A1 G.l.length c1] 26)))⟩
 obtain ⟨W1, hW1⟩ : ∃ W, w2.alloc (.cells #[.int .i64 G.id, .int .i64 G.fi, .int .i64 G.tm, .int .i64 G.ht, .int .i64 G.hv, .int .i64 G.hc, .slice A1 G.l.length c1] 26) = W := ⟨_, rfl⟩
 rw [hW1] at HB HR1 HG ⊢
 clear hW1
 clear hn8
 obtain ⟨hg0, hg1, hg2, hg3, hg4, hg5, hg6⟩ := HG.out.box
 have hC4 := HC4.out
 simp only [Try.f10] at hC4
 subst hC4
 clear HC4
 obtain ⟨C5, hC5⟩ : ∃ C, (match Try.f10.body with | some (.seq _ (.seq _ (.seq _ (.seq _ c)))) => c | _ => .skip) = C := ⟨_, rfl⟩
 have HC5 := Aside0.mk hC5
 simp only [Try.f10] at hC5
 rw [hC5]
 clear hC5
 obtain ⟨n9, hn9⟩ : ∃ n, W1.heap.size = n := ⟨_, rfl⟩
 have HSn9 := Aside0.mk hn9
 have l89 : n8 < n9 := by rw [← hn9]; exact HG.out.lt
 go_wp2_with fail
 try rw [HE2.out]
 clear hg0 hg1 hg2 hg3 hg4 hg5 hg6
 replace HB := laB HB (.cells #[.int .i64 a, .int .i64 V, .int .i64 c] 23)
 replace HR1 := laR HR1 (.cells #[.int .i64 a, .int .i64 V, .int .i64 c] 23)
 replace HG := laG HG (.cells #[.int .i64 a, .int .i64 V, .int .i64 c] 23)
 have HV : Aside0 (BlkH a V c n9 (W1.alloc (.cells #[.int .i64 a, .int .i64 V, .int .i64 c] 23))) := ⟨(by have hq := BlkH.new a V c W1; rw [HSn9.out] at hq; exact hq)⟩
 obtain ⟨W2, hW2⟩ : ∃ W, W1.alloc (.cells #[.int .i64 a, .int .i64 V, .int .i64 c] 23) = W := ⟨_, rfl⟩
 rw [hW2] at HB HR1 HG HV ⊢
 clear hW2
 clear hn9
 obtain ⟨hg0, hg1, hg2, hg3, hg4, hg5, hg6⟩ := HG.out.box
 obtain ⟨hv0, hv1, hv2⟩ := HV.out.box
 have hC5 := HC5.out
 simp only [Try.f10] at hC5
 subst hC5
 clear HC5
 obtain ⟨C6, hC6⟩ : ∃ C, (match Try.f10.body with | some (.seq _ (.seq _ (.seq _ (.seq _ (.seq _ c))))) => c | _ => .skip) = C := ⟨_, rfl⟩
 have HC6 := Aside0.mk hC6
 simp only [Try.f10] at hC6
 rw [hC6]
 clear hC6
 go_wp2_with fail
 go_at_call 22
 refine (gdo_calls G A1 c1 (harP 5 a V c) none 0 _ HR1.out (Rd.nil _) LG.out K1.out.1 K1.out.2).mono ?_
 rintro e w3 ⟨A2, c2, rfl, hrd, hw3⟩
 replace HB := lbB HB hw3
 replace HR1 := lbR HR1 hw3
 replace HG := lbG HG hw3
 replace HV := lbH HV hw3
 have HR2 := Aside0.mk (hrd)
 clear hrd
 clear hw3
 clear hg0 hg1 hg2 hg3 hg4 hg5 hg6 hv0 hv1 hv2
 obtain ⟨hg0, hg1, hg2, hg3, hg4, hg5, hg6⟩ := HG.out.box
 obtain ⟨hv0, hv1, hv2⟩ := HV.out.box
 obtain ⟨n10, hn10⟩ : ∃ n, w3.heap.size = n := ⟨_, rfl⟩
 have HSn10 := Aside0.mk hn10
 have l9t : n9 < n10 := by rw [← hn10]; exact (Array.getElem?_eq_some_iff.1 HV.out).1
 go_wp2_with fail
 clear hg0 hg1 hg2 hg3 hg4 hg5 hg6 hv0 hv1 hv2
 replace HB := laB HB (.cells #[.int .i64 H.id, .int .i64 H.fi, .int .i64 H.tm, .int .i64 H.ht, .int .i64 H.hv, .int .i64 H.hc, .slice A2 H.l.length c2] 26)
 replace HR1 := laR HR1 (.cells #[.int .i64 H.id, .int .i64 H.fi, .int .i64 H.tm, .int .i64 H.ht, .int .i64 H.hv, .int .i64 H.hc, .slice A2 H.l.length c2] 26)
 replace HG := laG HG (.cells #[.int .i64 H.id, .int .i64 H.fi, .int .i64 H.tm, .int .i64 H.ht, .int .i64 H.hv, .int .i64 H.hc, .slice A2 H.l.length c2] 26)
 replace HV := laH HV (.cells #[.int .i64 H.id, .int .i64 H.fi, .int .i64 H.tm, .int .i64 H.ht, .int .i64 H.hv, .int .i64 H.hc, .slice A2 H.l.length c2] 26)
 replace HR2 := laR HR2 (.cells #[.int .i64 H.id, .int .i64 H.fi, .int .i64 H.tm, .int .i64 H.ht, .int .i64 H.hv, .int .i64 H.hc, .slice A2 H.l.length c2] 26)
 have HH : Aside0 (BlkG H A2 c2 n10 (w3.alloc (.cells #[.int .i64 H.id, .int .i64 H.fi, .int .i64 H.tm, .int .i64 H.ht, .int .i64 H.hv, .int .i64 H.hc, .slice A2 H.l.length c2] 26))) := ⟨(by have hq := BlkG.new H A2 c2 w3; rw [HSn10.out] at hq; exact hq : BlkG H A2 c2 n10 (w3.alloc (.cells #[.int .i64 H.id, .int .i64 H.fi, .int .i64 H.tm, .int .i64 H.ht, .int .i64 H.hv, .int .i64 H.hc, .slice A2 H.l.length c2] 26)))⟩
 obtain ⟨W3, hW3⟩ : ∃ W, w3.alloc (.cells #[.int .i64 H.id, .int .i64 H.fi, .int .i64 H.tm, .int .i64 H.ht, .int .i64 H.hv, .int .i64 H.hc, .slice A2 H.l.length c2] 26) = W := ⟨_, rfl⟩
 rw [hW3] at HB HR1 HG HV HR2 HH ⊢
 clear hW3
 clear hn10
 obtain ⟨hg0, hg1, hg2, hg3, hg4, hg5, hg6⟩ := HG.out.box
 obtain ⟨hv0, hv1, hv2⟩ := HV.out.box
 obtain ⟨hh0, hh1, hh2, hh3, hh4, hh5, hh6⟩ := HH.out.box
 have hC6 := HC6.out
 simp only [Try.f10] at hC6
 subst hC6
 clear HC6
 obtain ⟨C7, hC7⟩ : ∃ C, (match Try.f10.body with | some (.seq _ (.seq _ (.seq _ (.seq _ (.seq _ (.seq _ c)))))) => c | _ => .skip) = C := ⟨_, rfl⟩
 have HC7 := Aside0.mk hC7
 simp only [Try.f10] at hC7
 rw [hC7]
 clear hC7
 go_wp2_with fail
 clear hg0 hg1 hg2 hg3 hg4 hg5 hg6 hv0 hv1 hv2 hh0 hh1 hh2 hh3 hh4 hh5 hh6
 apply cut_w (F := fun A9 c9 Ap cp nX W55 => Bel w W55 ∧ Rd W55 A1 c1 G.l ∧ BlkG G A1 c1 n8 W55 ∧ BlkH a V c n9 W55 ∧ Rd W55 A2 c2 H.l ∧ BlkG H A2 c2 n10 W55 ∧ Rd W55 A9 c9 Y.l ∧ BlkG Y A9 c9 nX W55 ∧ n8 < nX ∧ n9 < nX ∧ n10 < nX ∧ w.heap.size ≤ nX)
 · intro tl
   obtain ⟨nX, hXB⟩ : ∃ n, W3.heap.size = n := ⟨_, rfl⟩
   have hXB2 : W3.drew.heap.size = nX := hXB
   replace HB := ldB HB
   replace HR1 := ldR HR1
   replace HG := ldG HG
   replace HV := ldH HV
   replace HR2 := ldR HR2
   replace HH := ldG HH
   refine start_ (n := 13) (S := (fun w' => BoxG H A2 c2 n10 w')) (ds := [11]) #[false,false,false,false,false,false,false,false,false,false,false,false,false] (by kernel_rfl) rfl rfl HH.out.box (fun hHeld => ?_)
   refine take_ (i := 0) (N := some 45) (v := ?_) (a' := ?_) #[true,false,false,false,false,false,false,false,false,false,false,false,false] rfl rfl (by kernel_rfl) (fun _ _ _ h => h) (Or.inl ⟨by rfl, ?_⟩) hHeld ?_ ?_
   rotate_left
   · rintro w' ⟨hh0, hh1, hh2, hh3, hh4, hh5, hh6⟩
     go_simp
     try with_reducible rfl
   rotate_left
   · simp only [Act.put, sA, sB, sC]
     rfl
   refine pure_ (i := 1) (N := some 46) (v := ?_) (a' := ?_) #[true,true,false,false,false,false,false,false,false,false,false,false,false] rfl rfl (by kernel_rfl) (fun _ _ _ h => h) (Or.inl ⟨by rfl, ?_⟩) ?_ ?_
   rotate_left
   · intro w'
     go_simp
     try with_reducible rfl
   rotate_left
   · simp only [Act.put, sA, sB, sC]
     rfl
   refine pure_ (i := 2) (N := some 47) (v := ?_) (a' := ?_) #[true,true,true,false,false,false,false,false,false,false,false,false,false] rfl rfl (by kernel_rfl) (fun _ _ _ h => h) (Or.inl ⟨by rfl, ?_⟩) ?_ ?_
   rotate_left
   · intro w'
     go_simp
     try with_reducible rfl
   rotate_left
   · simp only [Act.put, sA, sB, sC]
     rfl
   refine pure_ (i := 3) (N := some 48) (v := ?_) (a' := ?_) #[true,true,true,true,false,false,false,false,false,false,false,false,false] rfl rfl (by kernel_rfl) (fun _ _ _ h => h) (Or.inl ⟨by rfl, ?_⟩) ?_ ?_
   rotate_left
   · intro w'
     go_simp
     try with_reducible rfl
   rotate_left
   · simp only [Act.put, sA, sB, sC]
     rfl
   refine pure_ (i := 4) (N := some 49) (v := ?_) (a' := ?_) #[true,true,true,true,true,false,false,false,false,false,false,false,false] rfl rfl (by kernel_rfl) (fun _ _ _ h => h) (Or.inl ⟨by rfl, ?_⟩) ?_ ?_
   rotate_left
   · intro w'
     go_simp
     try with_reducible rfl
   rotate_left
   · simp only [Act.put, sA, sB, sC]
     rfl
   refine two_ (i := 5) (j := 10) (Ni := some 50) (Nj := some 14) #[true,true,true,true,true,true,false,false,false,false,false,false,false] #[true,true,true,true,true,false,false,false,false,false,true,false,false] rfl rfl rfl rfl (by kernel_rfl) (by decide) (by decide) (fun K hK => ?_) (fun K hK => ?_)
   · go_simp
     refine (appc 5 (n % 8 + 1) 9 2 _ (by omega) (by have := HN.out; omega) JP.out rfl).mono ?_; rintro e w41 ⟨Ap, cp, rfl, hrd, hw⟩; have HRP := Aside0.mk hrd; replace HB := lbB HB hw; replace HR1 := lbR HR1 hw; replace HG := lbG HG hw; replace HV := lbH HV hw; replace HR2 := lbR HR2 hw; replace HH := lbG HH hw; clear hrd hw
     refine hK.out _ _ ?_ (fun hHeld => ?_)
     · exact HH.out.box
     clear hK K
     try simp only [Act.put, sA, sB, sC]
     obtain ⟨nX, hXw41⟩ : ∃ n, w41.heap.size = n := ⟨_, rfl⟩
     refine two_ (i := 6) (j := 10) (Ni := some 51) (Nj := some 14) #[true,true,true,true,true,true,true,false,false,false,false,false,false] #[true,true,true,true,true,true,false,false,false,false,true,false,false] rfl rfl rfl rfl (by kernel_rfl) (by decide) (by decide) (fun K hK => ?_) (fun K hK => ?_)
     · go_simp
       refine (gdo_calls H A2 c2 P Ap cp _ HR2.out HRP.out LP.out K3.out.2 K3.out.1).mono ?_; rintro e w42 ⟨A9, c9, rfl, hrd, hw⟩; have HR9 := Aside0.mk hrd; replace HB := lbB HB hw; replace HR1 := lbR HR1 hw; replace HG := lbG HG hw; replace HV := lbH HV hw; replace HR2 := lbR HR2 hw; replace HH := lbG HH hw; clear hrd hw
       refine hK.out _ _ ?_ (fun hHeld => ?_)
       · exact HH.out.box
       clear hK K
       try simp only [Act.put, sA, sB, sC]
       clear hXw41
       obtain ⟨nX, hXw42⟩ : ∃ n, w42.heap.size = n := ⟨_, rfl⟩
       refine pure_ (i := 7) (N := some 44) (v := ?_) (a' := ?_) #[true,true,true,true,true,true,true,true,false,false,false,false,false] rfl rfl (by kernel_rfl) (fun _ _ _ h => h) (Or.inl ⟨by rfl, ?_⟩) ?_ ?_
       rotate_left
       · intro w'
         go_simp
         try with_reducible rfl
       rotate_left
       · simp only [Act.put, sA, sB, sC]
         rfl
       refine pure_ (i := 8) (N := some 52) (v := ?_) (a' := ?_) #[true,true,true,true,true,true,true,true,true,false,false,false,false] rfl rfl (by kernel_rfl) (fun _ _ _ h => h) (Or.inl ⟨by rfl, ?_⟩) ?_ ?_
       rotate_left
       · intro w'
         go_simp
         try with_reducible rfl
       rotate_left
       · simp only [Act.put, sA, sB, sC]
         rfl
       refine pure_ (i := 9) (N := some 53) (v := ?_) (a' := ?_) #[true,true,true,true,true,true,true,true,true,true,false,false,false] rfl rfl (by kernel_rfl) (fun _ _ _ h => h) (Or.inl ⟨by rfl, ?_⟩) ?_ ?_
       rotate_left
       · intro w'
         go_simp
         try with_reducible rfl
       rotate_left
       · simp only [Act.put, sA, sB, sC]
         rfl
       refine one_ (i := 10) (N := some 14) #[true,true,true,true,true,true,true,true,true,true,true,false,false] rfl rfl (by kernel_rfl) (by decide) (fun K hK => ?_)
       go_simp
       refine hK.out _ _ ?_ (fun hHeld => ?_)
       · exact (laG HH (.cells #[.int .i64 0, .int .i64 0, .int .i64 0, .int .i64 0, .int .i64 0, .int .i64 0, .slice none 0 0] 26)).out.box
       clear hK K
       try simp only [Act.put, sA, sB, sC]
       have HX : Aside0 (BlkG ⟨0, 0, 0, 0, 0, 0, []⟩ none 0 nX (w42.alloc (.cells #[.int .i64 0, .int .i64 0, .int .i64 0, .int .i64 0, .int .i64 0, .int .i64 0, .slice none 0 0] 26))) := ⟨by have hq := BlkG.new ⟨0, 0, 0, 0, 0, 0, []⟩ none 0 w42; rw [hXw42] at hq; exact hq⟩
       have ltHG : n8 < nX := by rw [← hXw42]; exact (Array.getElem?_eq_some_iff.1 HG.out).1
       have ltHV : n9 < nX := by rw [← hXw42]; exact (Array.getElem?_eq_some_iff.1 HV.out).1
       have ltHH : n10 < nX := by rw [← hXw42]; exact (Array.getElem?_eq_some_iff.1 HH.out).1
       have ltB : w.heap.size ≤ nX := by rw [← hXw42]; exact HB.out.b.size
       replace HB := laB HB (.cells #[.int .i64 0, .int .i64 0, .int .i64 0, .int .i64 0, .int .i64 0, .int .i64 0, .slice none 0 0] 26)
       replace HR1 := laR HR1 (.cells #[.int .i64 0, .int .i64 0, .int .i64 0, .int .i64 0, .int .i64 0, .int .i64 0, .slice none 0 0] 26)
       replace HG := laG HG (.cells #[.int .i64 0, .int .i64 0, .int .i64 0, .int .i64 0, .int .i64 0, .int .i64 0, .slice none 0 0] 26)
       replace HV := laH HV (.cells #[.int .i64 0, .int .i64 0, .int .i64 0, .int .i64 0, .int .i64 0, .int .i64 0, .slice none 0 0] 26)
       replace HR2 := laR HR2 (.cells #[.int .i64 0, .int .i64 0, .int .i64 0, .int .i64 0, .int .i64 0, .int .i64 0, .slice none 0 0] 26)
       replace HH := laG HH (.cells #[.int .i64 0, .int .i64 0, .int .i64 0, .int .i64 0, .int .i64 0, .int .i64 0, .slice none 0 0] 26)
       replace HR9 := laR HR9 (.cells #[.int .i64 0, .int .i64 0, .int .i64 0, .int .i64 0, .int .i64 0, .int .i64 0, .slice none 0 0] 26)
       clear hXw42
       obtain ⟨w42, hW3⟩ : ∃ W, w42.alloc (.cells #[.int .i64 0, .int .i64 0, .int .i64 0, .int .i64 0, .int .i64 0, .int .i64 0, .slice none 0 0] 26) = W := ⟨_, rfl⟩
       rw [hW3] at HB HR1 HG HV HR2 HH HR9 HX ⊢
       clear hW3
       obtain ⟨x0, x1, x2, x3, x4, x5, x6⟩ := HX.out.box
       have xf := HX.out.free
       refine last_ (i := 11) (N := none) #[true,true,true,true,true,true,true,true,true,true,true,true,false] rfl rfl (by kernel_rfl) (by decide) (fun K hK => ?_)
       go_simp
       refine hK.out _ _ ?_
       clear hK K
       try simp only [Act.put, sA, sB, sC]
       refine pure_ (i := 12) (N := some 15) (v := ?_) (a' := ?_) #[true,true,true,true,true,true,true,true,true,true,true,true,true] rfl rfl (by kernel_rfl) (fun _ _ _ h => h) (Or.inl ⟨by rfl, ?_⟩) ?_ ?_
       rotate_left
       · intro w'
         go_simp
         try with_reducible rfl
       rotate_left
       · simp only [Act.put, sA, sB, sC]
         rfl
       refine done_ (by kernel_rfl) ?_
       clear x0 x1 x2 x3 x4 x5 x6 xf
       have hx := only_store Y A9 c9 nX w42
       replace HB := Aside0.mk (Bel.only HB.out hx (fun q hq h => by have h2 : q = nX := h; omega))
       replace HR1 := Aside0.mk (Rd.only HR1.out hx (fun q hq h => by have h3 : q = nX := h; subst h3; exact Rd.apartG HR1.out HX.out hq))
       replace HG := Aside0.mk (BlkG.only HG.out hx (fun h => by have h2 : n8 = nX := h; omega))
       replace HV := Aside0.mk (BlkH.only HV.out hx (fun h => by have h2 : n9 = nX := h; omega))
       replace HR2 := Aside0.mk (Rd.only HR2.out hx (fun q hq h => by have h3 : q = nX := h; subst h3; exact Rd.apartG HR2.out HX.out hq))
       replace HH := Aside0.mk (BlkG.only HH.out hx (fun h => by have h2 : n10 = nX := h; omega))
       replace HR9 := Aside0.mk (Rd.only HR9.out hx (fun q hq h => by have h3 : q = nX := h; subst h3; exact Rd.apartG HR9.out HX.out hq))
       replace HX := Aside0.mk (BlkG.store (g := Y) (A := A9) (c := c9) HX.out)
       clear hx
       obtain ⟨W55, hW55⟩ : ∃ W, (((((((w42.setCell ⟨nX, 0, none⟩ (.int .i64 Y.id)).setCell ⟨nX, 1, none⟩ (.int .i64 Y.fi)).setCell ⟨nX, 2, none⟩ (.int .i64 Y.tm)).setCell ⟨nX, 3, none⟩ (.int .i64 Y.ht)).setCell ⟨nX, 4, none⟩ (.int .i64 Y.hv)).setCell ⟨nX, 5, none⟩ (.int .i64 Y.hc)).setCell ⟨nX, 6, none⟩ (.slice A9 Y.l.length c9)) = W := ⟨_, rfl⟩
       rw [hW55] at HB HR1 HG HV HR2 HH HR9 HX ⊢
       clear hW55
       exact tl A9 c9 Ap cp nX W55 ⟨HB.out, HR1.out, HG.out, HV.out, HR2.out, HH.out, HR9.out, HX.out, ltHG, ltHV, ltHH, ltB⟩
     · go_simp
       refine hK.out _ _ ?_ (fun hHeld => ?_)
       · exact (laG HH (.cells #[.int .i64 0, .int .i64 0, .int .i64 0, .int .i64 0, .int .i64 0, .int .i64 0, .slice none 0 0] 26)).out.box
       clear hK K
       try simp only [Act.put, sA, sB, sC]
       have HX : Aside0 (BlkG ⟨0, 0, 0, 0, 0, 0, []⟩ none 0 nX (w41.alloc (.cells #[.int .i64 0, .int .i64 0, .int .i64 0, .int .i64 0, .int .i64 0, .int .i64 0, .slice none 0 0] 26))) := ⟨by have hq := BlkG.new ⟨0, 0, 0, 0, 0, 0, []⟩ none 0 w41; rw [hXw41] at hq; exact hq⟩
       have ltHG : n8 < nX := by rw [← hXw41]; exact (Array.getElem?_eq_some_iff.1 HG.out).1
       have ltHV : n9 < nX := by rw [← hXw41]; exact (Array.getElem?_eq_some_iff.1 HV.out).1
       have ltHH : n10 < nX := by rw [← hXw41]; exact (Array.getElem?_eq_some_iff.1 HH.out).1
       have ltB : w.heap.size ≤ nX := by rw [← hXw41]; exact HB.out.b.size
       replace HB := laB HB (.cells #[.int .i64 0, .int .i64 0, .int .i64 0, .int .i64 0, .int .i64 0, .int .i64 0, .slice none 0 0] 26)
       replace HR1 := laR HR1 (.cells #[.int .i64 0, .int .i64 0, .int .i64 0, .int .i64 0, .int .i64 0, .int .i64 0, .slice none 0 0] 26)
       replace HG := laG HG (.cells #[.int .i64 0, .int .i64 0, .int .i64 0, .int .i64 0, .int .i64 0, .int .i64 0, .slice none 0 0] 26)
       replace HV := laH HV (.cells #[.int .i64 0, .int .i64 0, .int .i64 0, .int .i64 0, .int .i64 0, .int .i64 0, .slice none 0 0] 26)
       replace HR2 := laR HR2 (.cells #[.int .i64 0, .int .i64 0, .int .i64 0, .int .i64 0, .int .i64 0, .int .i64 0, .slice none 0 0] 26)
       replace HH := laG HH (.cells #[.int .i64 0, .int .i64 0, .int .i64 0, .int .i64 0, .int .i64 0, .int .i64 0, .slice none 0 0] 26)
       replace HRP := laR HRP (.cells #[.int .i64 0, .int .i64 0, .int .i64 0, .int .i64 0, .int .i64 0, .int .i64 0, .slice none 0 0] 26)
       clear hXw41
       refine one_ (i := 6) (N := some 51) #[true,true,true,true,true,true,true,false,false,false,true,false,false] rfl rfl (by kernel_rfl) (by decide) (fun K hK => ?_)
       go_simp
       refine (gdo_calls H A2 c2 P Ap cp _ HR2.out HRP.out LP.out K3.out.2 K3.out.1).mono ?_; rintro e w42 ⟨A9, c9, rfl, hrd, hw⟩; have HR9 := Aside0.mk hrd; replace HB := lbB HB hw; replace HR1 := lbR HR1 hw; replace HG := lbG HG hw; replace HV := lbH HV hw; replace HR2 := lbR HR2 hw; replace HH := lbG HH hw; replace HX := lbG HX hw; clear hrd hw
       refine hK.out _ _ ?_ (fun hHeld => ?_)
       · exact HH.out.box
       clear hK K
       try simp only [Act.put, sA, sB, sC]
       obtain ⟨x0, x1, x2, x3, x4, x5, x6⟩ := HX.out.box
       have xf := HX.out.free
       refine pure_ (i := 7) (N := some 44) (v := ?_) (a' := ?_) #[true,true,true,true,true,true,true,true,false,false,true,false,false] rfl rfl (by kernel_rfl) (fun _ _ _ h => h) (Or.inl ⟨by rfl, ?_⟩) ?_ ?_
       rotate_left
       · intro w'
         go_simp
         try with_reducible rfl
       rotate_left
       · simp only [Act.put, sA, sB, sC]
         rfl
       refine pure_ (i := 8) (N := some 52) (v := ?_) (a' := ?_) #[true,true,true,true,true,true,true,true,true,false,true,false,false] rfl rfl (by kernel_rfl) (fun _ _ _ h => h) (Or.inl ⟨by rfl, ?_⟩) ?_ ?_
       rotate_left
       · intro w'
         go_simp
         try with_reducible rfl
       rotate_left
       · simp only [Act.put, sA, sB, sC]
         rfl
       refine pure_ (i := 9) (N := some 53) (v := ?_) (a' := ?_) #[true,true,true,true,true,true,true,true,true,true,true,false,false] rfl rfl (by kernel_rfl) (fun _ _ _ h => h) (Or.inl ⟨by rfl, ?_⟩) ?_ ?_
       rotate_left
       · intro w'
         go_simp
         try with_reducible rfl
       rotate_left
       · simp only [Act.put, sA, sB, sC]
         rfl
       refine last_ (i := 11) (N := none) #[true,true,true,true,true,true,true,true,true,true,true,true,false] rfl rfl (by kernel_rfl) (by decide) (fun K hK => ?_)
       go_simp
       refine hK.out _ _ ?_
       clear hK K
       try simp only [Act.put, sA, sB, sC]
       refine pure_ (i := 12) (N := some 15) (v := ?_) (a' := ?_) #[true,true,true,true,true,true,true,true,true,true,true,true,true] rfl rfl (by kernel_rfl) (fun _ _ _ h => h) (Or.inl ⟨by rfl, ?_⟩) ?_ ?_
       rotate_left
       · intro w'
         go_simp
         try with_reducible rfl
       rotate_left
       · simp only [Act.put, sA, sB, sC]
         rfl
       refine done_ (by kernel_rfl) ?_
       clear x0 x1 x2 x3 x4 x5 x6 xf
       have hx := only_store Y A9 c9 nX w42
       replace HB := Aside0.mk (Bel.only HB.out hx (fun q hq h => by have h2 : q = nX := h; omega))
       replace HR1 := Aside0.mk (Rd.only HR1.out hx (fun q hq h => by have h3 : q = nX := h; subst h3; exact Rd.apartG HR1.out HX.out hq))
       replace HG := Aside0.mk (BlkG.only HG.out hx (fun h => by have h2 : n8 = nX := h; omega))
       replace HV := Aside0.mk (BlkH.only HV.out hx (fun h => by have h2 : n9 = nX := h; omega))
       replace HR2 := Aside0.mk (Rd.only HR2.out hx (fun q hq h => by have h3 : q = nX := h; subst h3; exact Rd.apartG HR2.out HX.out hq))
       replace HH := Aside0.mk (BlkG.only HH.out hx (fun h => by have h2 : n10 = nX := h; omega))
       replace HR9 := Aside0.mk (Rd.only HR9.out hx (fun q hq h => by have h3 : q = nX := h; subst h3; exact Rd.apartG HR9.out HX.out hq))
       replace HX := Aside0.mk (BlkG.store (g := Y) (A := A9) (c := c9) HX.out)
       clear hx
       obtain ⟨W55, hW55⟩ : ∃ W, (((((((w42.setCell ⟨nX, 0, none⟩ (.int .i64 Y.id)).setCell ⟨nX, 1, none⟩ (.int .i64 Y.fi)).setCell ⟨nX, 2, none⟩ (.int .i64 Y.tm)).setCell ⟨nX, 3, none⟩ (.int .i64 Y.ht)).setCell ⟨nX, 4, none⟩ (.int .i64 Y.hv)).setCell ⟨nX, 5, none⟩ (.int .i64 Y.hc)).setCell ⟨nX, 6, none⟩ (.slice A9 Y.l.length c9)) = W := ⟨_, rfl⟩
       rw [hW55] at HB HR1 HG HV HR2 HH HR9 HX ⊢
       clear hW55
       exact tl A9 c9 Ap cp nX W55 ⟨HB.out, HR1.out, HG.out, HV.out, HR2.out, HH.out, HR9.out, HX.out, ltHG, ltHV, ltHH, ltB⟩
   · go_simp
     refine hK.out _ _ ?_ (fun hHeld => ?_)
     · exact (laG HH (.cells #[.int .i64 0, .int .i64 0, .int .i64 0, .int .i64 0, .int .i64 0, .int .i64 0, .slice none 0 0] 26)).out.box
     clear hK K
     try simp only [Act.put, sA, sB, sC]
     have HX : Aside0 (BlkG ⟨0, 0, 0, 0, 0, 0, []⟩ none 0 nX (W3.drew.alloc (.cells #[.int .i64 0, .int .i64 0, .int .i64 0, .int .i64 0, .int .i64 0, .int .i64 0, .slice none 0 0] 26))) := ⟨by have hq := BlkG.new ⟨0, 0, 0, 0, 0, 0, []⟩ none 0 W3.drew; rw [hXB2] at hq; exact hq⟩
     have ltHG : n8 < nX := by rw [← hXB2]; exact (Array.getElem?_eq_some_iff.1 HG.out).1
     have ltHV : n9 < nX := by rw [← hXB2]; exact (Array.getElem?_eq_some_iff.1 HV.out).1
     have ltHH : n10 < nX := by rw [← hXB2]; exact (Array.getElem?_eq_some_iff.1 HH.out).1
     have ltB : w.heap.size ≤ nX := by rw [← hXB2]; exact HB.out.b.size
     replace HB := laB HB (.cells #[.int .i64 0, .int .i64 0, .int .i64 0, .int .i64 0, .int .i64 0, .int .i64 0, .slice none 0 0] 26)
     replace HR1 := laR HR1 (.cells #[.int .i64 0, .int .i64 0, .int .i64 0, .int .i64 0, .int .i64 0, .int .i64 0, .slice none 0 0] 26)
     replace HG := laG HG (.cells #[.int .i64 0, .int .i64 0, .int .i64 0, .int .i64 0, .int .i64 0, .int .i64 0, .slice none 0 0] 26)
     replace HV := laH HV (.cells #[.int .i64 0, .int .i64 0, .int .i64 0, .int .i64 0, .int .i64 0, .int .i64 0, .slice none 0 0] 26)
     replace HR2 := laR HR2 (.cells #[.int .i64 0, .int .i64 0, .int .i64 0, .int .i64 0, .int .i64 0, .int .i64 0, .slice none 0 0] 26)
     replace HH := laG HH (.cells #[.int .i64 0, .int .i64 0, .int .i64 0, .int .i64 0, .int .i64 0, .int .i64 0, .slice none 0 0] 26)
     clear hXB2
     clear hXB
     refine one_ (i := 5) (N := some 50) #[true,true,true,true,true,true,false,false,false,false,true,false,false] rfl rfl (by kernel_rfl) (by decide) (fun K hK => ?_)
     go_simp
     refine (appc 5 (n % 8 + 1) 9 2 _ (by omega) (by have := HN.out; omega) JP.out rfl).mono ?_; rintro e w41 ⟨Ap, cp, rfl, hrd, hw⟩; have HRP := Aside0.mk hrd; replace HB := lbB HB hw; replace HR1 := lbR HR1 hw; replace HG := lbG HG hw; replace HV := lbH HV hw; replace HR2 := lbR HR2 hw; replace HH := lbG HH hw; replace HX := lbG HX hw; clear hrd hw
     refine hK.out _ _ ?_ (fun hHeld => ?_)
     · exact HH.out.box
     clear hK K
     try simp only [Act.put, sA, sB, sC]
     refine one_ (i := 6) (N := some 51) #[true,true,true,true,true,true,true,false,false,false,true,false,false] rfl rfl (by kernel_rfl) (by decide) (fun K hK => ?_)
     go_simp
     refine (gdo_calls H A2 c2 P Ap cp _ HR2.out HRP.out LP.out K3.out.2 K3.out.1).mono ?_; rintro e w42 ⟨A9, c9, rfl, hrd, hw⟩; have HR9 := Aside0.mk hrd; replace HB := lbB HB hw; replace HR1 := lbR HR1 hw; replace HG := lbG HG hw; replace HV := lbH HV hw; replace HR2 := lbR HR2 hw; replace HH := lbG HH hw; replace HX := lbG HX hw; clear hrd hw
     refine hK.out _ _ ?_ (fun hHeld => ?_)
     · exact HH.out.box
     clear hK K
     try simp only [Act.put, sA, sB, sC]
     obtain ⟨x0, x1, x2, x3, x4, x5, x6⟩ := HX.out.box
     have xf := HX.out.free
     refine pure_ (i := 7) (N := some 44) (v := ?_) (a' := ?_) #[true,true,true,true,true,true,true,true,false,false,true,false,false] rfl rfl (by kernel_rfl) (fun _ _ _ h => h) (Or.inl ⟨by rfl, ?_⟩) ?_ ?_
     rotate_left
     · intro w'
       go_simp
       try with_reducible rfl
     rotate_left
     · simp only [Act.put, sA, sB, sC]
       rfl
     refine pure_ (i := 8) (N := some 52) (v := ?_) (a' := ?_) #[true,true,true,true,true,true,true,true,true,false,true,false,false] rfl rfl (by kernel_rfl) (fun _ _ _ h => h) (Or.inl ⟨by rfl, ?_⟩) ?_ ?_
     rotate_left
     · intro w'
       go_simp
       try with_reducible rfl
     rotate_left
     · simp only [Act.put, sA, sB, sC]
       rfl
     refine pure_ (i := 9) (N := some 53) (v := ?_) (a' := ?_) #[true,true,true,true,true,true,true,true,true,true,true,false,false] rfl rfl (by kernel_rfl) (fun _ _ _ h => h) (Or.inl ⟨by rfl, ?_⟩) ?_ ?_
     rotate_left
     · intro w'
       go_simp
       try with_reducible rfl
     rotate_left
     · simp only [Act.put, sA, sB, sC]
       rfl
     refine last_ (i := 11) (N := none) #[true,true,true,true,true,true,true,true,true,true,true,true,false] rfl rfl (by kernel_rfl) (by decide) (fun K hK => ?_)
     go_simp
     refine hK.out _ _ ?_
     clear hK K
     try simp only [Act.put, sA, sB, sC]
     refine pure_ (i := 12) (N := some 15) (v := ?_) (a' := ?_) #[true,true,true,true,true,true,true,true,true,true,true,true,true] rfl rfl (by kernel_rfl) (fun _ _ _ h => h) (Or.inl ⟨by rfl, ?_⟩) ?_ ?_
     rotate_left
     · intro w'
       go_simp
       try with_reducible rfl
     rotate_left
     · simp only [Act.put, sA, sB, sC]
       rfl
     refine done_ (by kernel_rfl) ?_
     clear x0 x1 x2 x3 x4 x5 x6 xf
     have hx := only_store Y A9 c9 nX w42
     replace HB := Aside0.mk (Bel.only HB.out hx (fun q hq h => by have h2 : q = nX := h; omega))
     replace HR1 := Aside0.mk (Rd.only HR1.out hx (fun q hq h => by have h3 : q = nX := h; subst h3; exact Rd.apartG HR1.out HX.out hq))
     replace HG := Aside0.mk (BlkG.only HG.out hx (fun h => by have h2 : n8 = nX := h; omega))
     replace HV := Aside0.mk (BlkH.only HV.out hx (fun h => by have h2 : n9 = nX := h; omega))
     replace HR2 := Aside0.mk (Rd.only HR2.out hx (fun q hq h => by have h3 : q = nX := h; subst h3; exact Rd.apartG HR2.out HX.out hq))
     replace HH := Aside0.mk (BlkG.only HH.out hx (fun h => by have h2 : n10 = nX := h; omega))
     replace HR9 := Aside0.mk (Rd.only HR9.out hx (fun q hq h => by have h3 : q = nX := h; subst h3; exact Rd.apartG HR9.out HX.out hq))
     replace HX := Aside0.mk (BlkG.store (g := Y) (A := A9) (c := c9) HX.out)
     clear hx
     obtain ⟨W55, hW55⟩ : ∃ W, (((((((w42.setCell ⟨nX, 0, none⟩ (.int .i64 Y.id)).setCell ⟨nX, 1, none⟩ (.int .i64 Y.fi)).setCell ⟨nX, 2, none⟩ (.int .i64 Y.tm)).setCell ⟨nX, 3, none⟩ (.int .i64 Y.ht)).setCell ⟨nX, 4, none⟩ (.int .i64 Y.hv)).setCell ⟨nX, 5, none⟩ (.int .i64 Y.hc)).setCell ⟨nX, 6, none⟩ (.slice A9 Y.l.length c9)) = W := ⟨_, rfl⟩
     rw [hW55] at HB HR1 HG HV HR2 HH HR9 HX ⊢
     clear hW55
     exact tl A9 c9 Ap cp nX W55 ⟨HB.out, HR1.out, HG.out, HV.out, HR2.out, HH.out, HR9.out, HX.out, ltHG, ltHV, ltHH, ltB⟩
 intro A9 c9 Ap cp nX W55 hF
 obtain ⟨kHB, kHR1, kHG, kHV, kHR2, kHH, kHR9, kHX, ltHG, ltHV, ltHH, ltB⟩ := hF
 replace HB := Aside0.mk kHB
 replace HR1 := Aside0.mk kHR1
 replace HG := Aside0.mk kHG
 replace HV := Aside0.mk kHV
 replace HR2 := Aside0.mk kHR2
 replace HH := Aside0.mk kHH
 have HR9 := Aside0.mk kHR9
 have HX := Aside0.mk kHX
 clear kHB kHR1 kHG kHV kHR2 kHH kHR9 kHX
 obtain ⟨hg0, hg1, hg2, hg3, hg4, hg5, hg6⟩ := HG.out.box
 obtain ⟨hv0, hv1, hv2⟩ := HV.out.box
 obtain ⟨hh0, hh1, hh2, hh3, hh4, hh5, hh6⟩ := HH.out.box
 obtain ⟨hx0, hx1, hx2, hx3, hx4, hx5, hx6⟩ := HX.out.box
 go_wp2_with fail
 have hC7 := HC7.out
 simp only [Try.f10] at hC7
 subst hC7
 clear HC7
 obtain ⟨C8, hC8⟩ : ∃ C, (match Try.f10.body with | some (.seq _ (.seq _ (.seq _ (.seq _ (.seq _ (.seq _ (.seq _ c))))))) => c | _ => .skip) = C := ⟨_, rfl⟩
 have HC8 := Aside0.mk hC8
 simp only [Try.f10] at hC8
 rw [hC8]
 clear hC8
 go_wp2_with fail
 go_at_call 22
 refine (gdo_calls H A2 c2 (harP 5 0 1001 0) none 0 _ HR2.out (Rd.nil _) LH.out K4.out.2 K4.out.1).mono ?_
 rintro e w4 ⟨A7, c7, rfl, hrd, hw4⟩
 replace HB := lbB HB hw4
 replace HR1 := lbR HR1 hw4
 replace HG := lbG HG hw4
 replace HV := lbH HV hw4
 replace HR2 := lbR HR2 hw4
 replace HH := lbG HH hw4
 replace HR9 := lbR HR9 hw4
 replace HX := lbG HX hw4
 clear hrd
 clear hw4
 clear hg0 hg1 hg2 hg3 hg4 hg5 hg6 hv0 hv1 hv2 hh0 hh1 hh2 hh3 hh4 hh5 hh6 hx0 hx1 hx2 hx3 hx4 hx5 hx6
 obtain ⟨hg0, hg1, hg2, hg3, hg4, hg5, hg6⟩ := HG.out.box
 obtain ⟨hv0, hv1, hv2⟩ := HV.out.box
 obtain ⟨hh0, hh1, hh2, hh3, hh4, hh5, hh6⟩ := HH.out.box
 obtain ⟨hx0, hx1, hx2, hx3, hx4, hx5, hx6⟩ := HX.out.box
 obtain ⟨n11, hn11⟩ : ∃ n, w4.heap.size = n := ⟨_, rfl⟩
 have HSn11 := Aside0.mk hn11
 go_wp2_with fail
 clear hg0 hg1 hg2 hg3 hg4 hg5 hg6 hv0 hv1 hv2 hh0 hh1 hh2 hh3 hh4 hh5 hh6 hx0 hx1 hx2 hx3 hx4 hx5 hx6
 replace HB := laB HB (.cells #[.int .i64 H.id, .int .i64 H.fi, .int .i64 H.tm, .int .i64 H.ht, .int .i64 H.hv, .int .i64 H.hc, .slice A7 H.l.length c7] 26)
 replace HR1 := laR HR1 (.cells #[.int .i64 H.id, .int .i64 H.fi, .int .i64 H.tm, .int .i64 H.ht, .int .i64 H.hv, .int .i64 H.hc, .slice A7 H.l.length c7] 26)
 replace HG := laG HG (.cells #[.int .i64 H.id, .int .i64 H.fi, .int .i64 H.tm, .int .i64 H.ht, .int .i64 H.hv, .int .i64 H.hc, .slice A7 H.l.length c7] 26)
 replace HV := laH HV (.cells #[.int .i64 H.id, .int .i64 H.fi, .int .i64 H.tm, .int .i64 H.ht, .int .i64 H.hv, .int .i64 H.hc, .slice A7 H.l.length c7] 26)
 replace HR2 := laR HR2 (.cells #[.int .i64 H.id, .int .i64 H.fi, .int .i64 H.tm, .int .i64 H.ht, .int .i64 H.hv, .int .i64 H.hc, .slice A7 H.l.length c7] 26)
 replace HH := laG HH (.cells #[.int .i64 H.id, .int .i64 H.fi, .int .i64 H.tm, .int .i64 H.ht, .int .i64 H.hv, .int .i64 H.hc, .slice A7 H.l.length c7] 26)
 replace HR9 := laR HR9 (.cells #[.int .i64 H.id, .int .i64 H.fi, .int .i64 H.tm, .int .i64 H.ht, .int .i64 H.hv, .int .i64 H.hc, .slice A7 H.l.length c7] 26)
 replace HX := laG HX (.cells #[.int .i64 H.id, .int .i64 H.fi, .int .i64 H.tm, .int .i64 H.ht, .int .i64 H.hv, .int .i64 H.hc, .slice A7 H.l.length c7] 26)
 have HZ1 : Aside0 (BlkG H A7 c7 n11 (w4.alloc (.cells #[.int .i64 H.id, .int .i64 H.fi, .int .i64 H.tm, .int .i64 H.ht, .int .i64 H.hv, .int .i64 H.hc, .slice A7 H.l.length c7] 26))) := ⟨(by have hq := BlkG.new H A7 c7 w4; rw [HSn11.out] at hq; exact hq : BlkG H A7 c7 n11 (w4.alloc (.cells #[.int .i64 H.id, .int .i64 H.fi, .int .i64 H.tm, .int .i64 H.ht, .int .i64 H.hv, .int .i64 H.hc, .slice A7 H.l.length c7] 26)))⟩
 obtain ⟨W5, hW5⟩ : ∃ W, w4.alloc (.cells #[.int .i64 H.id, .int .i64 H.fi, .int .i64 H.tm, .int .i64 H.ht, .int .i64 H.hv, .int .i64 H.hc, .slice A7 H.l.length c7] 26) = W := ⟨_, rfl⟩
 rw [hW5] at HB HR1 HG HV HR2 HH HR9 HX HZ1 ⊢
 clear hW5
 clear hn11
 clear HZ1
 obtain ⟨hg0, hg1, hg2, hg3, hg4, hg5, hg6⟩ := HG.out.box
 obtain ⟨hv0, hv1, hv2⟩ := HV.out.box
 obtain ⟨hh0, hh1, hh2, hh3, hh4, hh5, hh6⟩ := HH.out.box
 obtain ⟨hx0, hx1, hx2, hx3, hx4, hx5, hx6⟩ := HX.out.box
 have hC8 := HC8.out
 simp only [Try.f10] at hC8
 subst hC8
 clear HC8
 obtain ⟨C9, hC9⟩ : ∃ C, (match Try.f10.body with | some (.seq _ (.seq _ (.seq _ (.seq _ (.seq _ (.seq _ (.seq _ (.seq _ c)))))))) => c | _ => .skip) = C := ⟨_, rfl⟩
 have HC9 := Aside0.mk hC9
 simp only [Try.f10] at hC9
 rw [hC9]
 clear hC9
 go_wp2_with fail
 go_at_call 22
 refine (gdo_calls H A2 c2 (harP 6 0 0 0) none 0 _ HR2.out (Rd.nil _) LH.out K5.out.2 K5.out.1).mono ?_
 rintro e w5 ⟨A8, c8, rfl, hrd, hw5⟩
 replace HB := lbB HB hw5
 replace HR1 := lbR HR1 hw5
 replace HG := lbG HG hw5
 replace HV := lbH HV hw5
 replace HR2 := lbR HR2 hw5
 replace HH := lbG HH hw5
 replace HR9 := lbR HR9 hw5
 replace HX := lbG HX hw5
 clear hrd
 clear hw5
 clear hg0 hg1 hg2 hg3 hg4 hg5 hg6 hv0 hv1 hv2 hh0 hh1 hh2 hh3 hh4 hh5 hh6 hx0 hx1 hx2 hx3 hx4 hx5 hx6
 obtain ⟨hg0, hg1, hg2, hg3, hg4, hg5, hg6⟩ := HG.out.box
 obtain ⟨hv0, hv1, hv2⟩ := HV.out.box
 obtain ⟨hh0, hh1, hh2, hh3, hh4, hh5, hh6⟩ := HH.out.box
 obtain ⟨hx0, hx1, hx2, hx3, hx4, hx5, hx6⟩ := HX.out.box
 obtain ⟨n12, hn12⟩ : ∃ n, w5.heap.size = n := ⟨_, rfl⟩
 have HSn12 := Aside0.mk hn12
 go_wp2_with fail
 clear hg0 hg1 hg2 hg3 hg4 hg5 hg6 hv0 hv1 hv2 hh0 hh1 hh2 hh3 hh4 hh5 hh6 hx0 hx1 hx2 hx3 hx4 hx5 hx6
 replace HB := laB HB (.cells #[.int .i64 H.id, .int .i64 H.fi, .int .i64 H.tm, .int .i64 H.ht, .int .i64 H.hv, .int .i64 H.hc, .slice A8 H.l.length c8] 26)
 replace HR1 := laR HR1 (.cells #[.int .i64 H.id, .int .i64 H.fi, .int .i64 H.tm, .int .i64 H.ht, .int .i64 H.hv, .int .i64 H.hc, .slice A8 H.l.length c8] 26)
 replace HG := laG HG (.cells #[.int .i64 H.id, .int .i64 H.fi, .int .i64 H.tm, .int .i64 H.ht, .int .i64 H.hv, .int .i64 H.hc, .slice A8 H.l.length c8] 26)
 replace HV := laH HV (.cells #[.int .i64 H.id, .int .i64 H.fi, .int .i64 H.tm, .int .i64 H.ht, .int .i64 H.hv, .int .i64 H.hc, .slice A8 H.l.length c8] 26)
 replace HR2 := laR HR2 (.cells #[.int .i64 H.id, .int .i64 H.fi, .int .i64 H.tm, .int .i64 H.ht, .int .i64 H.hv, .int .i64 H.hc, .slice A8 H.l.length c8] 26)
 replace HH := laG HH (.cells #[.int .i64 H.id, .int .i64 H.fi, .int .i64 H.tm, .int .i64 H.ht, .int .i64 H.hv, .int .i64 H.hc, .slice A8 H.l.length c8] 26)
 replace HR9 := laR HR9 (.cells #[.int .i64 H.id, .int .i64 H.fi, .int .i64 H.tm, .int .i64 H.ht, .int .i64 H.hv, .int .i64 H.hc, .slice A8 H.l.length c8] 26)
 replace HX := laG HX (.cells #[.int .i64 H.id, .int .i64 H.fi, .int .i64 H.tm, .int .i64 H.ht, .int .i64 H.hv, .int .i64 H.hc, .slice A8 H.l.length c8] 26)
 have HZ2 : Aside0 (BlkG H A8 c8 n12 (w5.alloc (.cells #[.int .i64 H.id, .int .i64 H.fi, .int .i64 H.tm, .int .i64 H.ht, .int .i64 H.hv, .int .i64 H.hc, .slice A8 H.l.length c8] 26))) := ⟨(by have hq := BlkG.new H A8 c8 w5; rw [HSn12.out] at hq; exact hq : BlkG H A8 c8 n12 (w5.alloc (.cells #[.int .i64 H.id, .int .i64 H.fi, .int .i64 H.tm, .int .i64 H.ht, .int .i64 H.hv, .int .i64 H.hc, .slice A8 H.l.length c8] 26)))⟩
 obtain ⟨W6, hW6⟩ : ∃ W, w5.alloc (.cells #[.int .i64 H.id, .int .i64 H.fi, .int .i64 H.tm, .int .i64 H.ht, .int .i64 H.hv, .int .i64 H.hc, .slice A8 H.l.length c8] 26) = W := ⟨_, rfl⟩
 rw [hW6] at HB HR1 HG HV HR2 HH HR9 HX HZ2 ⊢
 clear hW6
 clear hn12
 clear HZ2
 obtain ⟨hg0, hg1, hg2, hg3, hg4, hg5, hg6⟩ := HG.out.box
 obtain ⟨hv0, hv1, hv2⟩ := HV.out.box
 obtain ⟨hh0, hh1, hh2, hh3, hh4, hh5, hh6⟩ := HH.out.box
 obtain ⟨hx0, hx1, hx2, hx3, hx4, hx5, hx6⟩ := HX.out.box
 have hC9 := HC9.out
 simp only [Try.f10] at hC9
 subst hC9
 clear HC9
 go_wp2_with fail
 go_ret
 exact ⟨rfl, HB.out.b⟩
end Go.Proofs.Ytlfdmlacadoolaa.PartW
namespace Go.Proofs.Ytlfdmlacadoolaa.Pure
open Go Go.RowKit Go.Proofs.Ytlfdmlacadoolaa.Sp Go.Proofs.Ytlfdmlacadoolaa.PartW
theorem GroupHards.walk (n a b c : Int) (w : World) (w0 : (Lit.int .u8 n).wf = true) (w1 : (Lit.int .u16 a).wf = true) (w2 : (Lit.int .u16 b).wf = true) (w3 : (Lit.int .u16 c).wf = true) :
    Calls Try.prog 10 #[.int .u8 n, .int .u16 a, .int .u16 b, .int .u16 c] w fun e w' => e = .returned (.bool true) ∧ Below w.heap.size w w' := by
  have h0 : 0 ≤ n ∧ n < 256 := by simp [Lit.wf, IntKind.min, IntKind.max, IntKind.bits, IntKind.signed] at w0; omega
  have h1 : 0 ≤ a ∧ a < 65536 := by simp [Lit.wf, IntKind.min, IntKind.max, IntKind.bits, IntKind.signed] at w1; omega
  have h2 : 0 ≤ b ∧ b < 65536 := by simp [Lit.wf, IntKind.min, IntKind.max, IntKind.bits, IntKind.signed] at w2; omega
  have h3 : 0 ≤ c ∧ c < 65536 := by simp [Lit.wf, IntKind.min, IntKind.max, IntKind.bits, IntKind.signed] at w3; omega
  obtain ⟨N, hN1, hN⟩ : ∃ N : Nat, N ≤ 8 ∧ n % 8 = (N : Int) := ⟨(n % 8).toNat, by omega, by omega⟩
  exact hards6 n a b c w h0 h1 h2 h3 N _ hN1 hN rfl (by omega)
end Go.Proofs.Ytlfdmlacadoolaa.Pure
