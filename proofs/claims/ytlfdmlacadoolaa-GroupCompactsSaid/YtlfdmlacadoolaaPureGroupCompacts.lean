/- The statement GroupCompacts; no condition beyond the row's. -/
import Derived.Test.YtlfdmlacadoolaaSameQ
import Derived.Test.YtlfdmlacadoolaaFew6
import Derived.Test.YtlfdmlacadoolaaGrow
set_option linter.unusedVariables false
set_option linter.unusedSimpArgs false
namespace Go.Proofs.Ytlfdmlacadoolaa.PartW
open Go Go.RowKit Go.Shelf Go.Proofs.Ytlfdmlacadoolaa.A Go.Proofs.Ytlfdmlacadoolaa.Sp Go.Proofs.Ytlfdmlacadoolaa.Reg Go.Proofs.Ytlfdmlacadoolaa.Seq Go.Proofs.YtlfdmlacadoolaaW.PrintWords Go.Proofs.YtlfdmlacadoolaaW.PrintLast Go.Proofs.YtlfdmlacadoolaaW.PrintMore
theorem grown_d (id : Int) (N : Nat) (w : World) (hid : 0 ≤ id ∧ id ≤ 999) (hN : N ≤ 900) {G : Grp} (hG : groG id N = G) : Calls Try.prog 33 #[.int .i64 id, .int .i64 (N : Int)] w fun e w' => ∃ A c, e = .returned (.tuple #[vG G A c, .bool true]) ∧ Rd w' A c G.l ∧ Below w.heap.size w w' := by
  rw [← hG]; exact grown_calls id N w hid hN
def cmpP (x : Int) : Prt := ⟨5, 3, [], 0, 0, 0, x, 0, false, false⟩
theorem cmp_chk {g : Grp} (hid : g.id = 5) {x : Int} (hx : 1 ≤ x ∧ x ≤ 1000000) : chkG g (cmpP x) = if x < g.fi then 15 else if lastG g < x then 16 else 0 := by
  unfold chkG
  rw [if_pos ⟨by
    unfold isP cmpP isM noL noH
    dsimp only
    rw [if_neg (by decide), if_neg (by decide), if_pos rfl, decide_eq_true (by omega), decide_eq_true (show (1 ≤ x ∧ x ≤ 1099511627776 ∧ (0 : Int) ≤ 0 ∧ (0 : Int) ≤ 1099511627776) by omega)]
    rfl, by show ¬ (3 : Int) = 6; decide, by show ¬ (3 : Int) = 5; decide, hid.symm⟩]
  unfold chkK
  rw [if_neg (by show ¬ (3 : Int) = 1; decide), if_pos (show (cmpP x).k = 3 from rfl)]
  have hx' : (cmpP x).ix = x := rfl
  rw [hx']
  by_cases a1 : x < g.fi
  · rw [if_pos a1, if_pos a1]
  · rw [if_neg a1, if_neg a1]
    by_cases a2 : lastG g < x
    · rw [if_pos a2, if_pos a2]
    · rw [if_neg a2, if_neg a2, if_neg (fun h => h.1 rfl)]
theorem wrI {x : Int} (h : -1000000 ≤ x ∧ x ≤ 1000000) : IntKind.i64.wrap x = x := by rw [i64_w]; unfold wrap64; omega
theorem wr6 {x : Int} (h : -1000000 ≤ x ∧ x ≤ 1000000) : wrap64 x = x := by unfold wrap64; omega
theorem cmp_facts {N I : Nat} (h1 : 1 ≤ I) (h2 : I ≤ N) (h3 : N ≤ 12) : ∃ (H : Grp) (L : List Ent), dwG (groG 5 N) (cmpP (I : Int)) = H ∧ chwG (groG 5 N) (cmpP (I : Int)) = 0 ∧ trm H (I : Int) = ((I : Int), 0) ∧ trm H ((I : Int) - 1) = (0, 15) ∧ ents H ((I : Int) + 1) ((N : Int) + 1) = (L, 0) ∧ L.length = N - I ∧ ents H (I : Int) ((N : Int) + 1) = ([], 15) ∧ isG true H = true ∧ H.fi = (I : Int) + 1 ∧ lastG H = (N : Int) ∧ H.id = 5 ∧ H.l.length = N - I := by
  have hD := gro_dense (id := 5) (k := N) ⟨by decide, by decide⟩ (by omega)
  have hla := gro_last (id := 5) (k := N) ⟨by decide, by decide⟩ (by omega)
  have hfi : (groG 5 N).fi = 1 := rfl
  have hc : chkG (groG 5 N) (cmpP (I : Int)) = 0 := by
    rw [cmp_chk rfl ⟨by omega, by omega⟩, hla, if_neg (by rw [hfi]; omega), if_neg (by omega)]
  have hw : chwG (groG 5 N) (cmpP (I : Int)) = 0 := by rw [chw_chk hD]; exact hc
  have hH := do_dense hD (cmpP (I : Int))
  have hdo : dwG (groG 5 N) (cmpP (I : Int)) = ⟨5, (I : Int) + 1, (I : Int), 0, 0, 0, (groG 5 N).l.drop I⟩ := by
    rw [dw_do hD, if_pos hc]
    unfold doRG
    rw [if_neg (by show ¬ (3 : Int) = 1; decide), if_neg (by show ¬ (3 : Int) = 2; decide), if_pos (show (cmpP (I : Int)).k = 3 from rfl)]
    have h4 := (dense_at hD (x := (I : Int)) (by rw [hfi]; omega) (by rw [hla]; omega)).2
    have h5 := from_drop hD (x := (I : Int) + 1) (by rw [hfi]; omega) (by omega)
    show (⟨5, (I : Int) + 1, termL (groG 5 N).l (I : Int), 0, 0, 0, fromL (groG 5 N).l ((I : Int) + 1)⟩ : Grp) = _
    rw [h4, h5, hfi, show ((I : Int) - 1).toNat = I - 1 by omega, gro_el (by omega), show ((I : Int) + 1 - 1).toNat = I by omega]
    congr 1
    show ((I - 1 : Nat) : Int) + 1 = (I : Int)
    omega
  obtain ⟨H, hHe⟩ : ∃ H, dwG (groG 5 N) (cmpP (I : Int)) = H := ⟨_, rfl⟩
  rw [hHe] at hH hdo
  have f1 : H.fi = (I : Int) + 1 := by rw [hdo]
  have f2 : H.tm = (I : Int) := by rw [hdo]
  have f3 : H.id = 5 := by rw [hdo]
  have f4 : H.l.length = N - I := by rw [hdo]; dsimp only; rw [List.length_drop, gro_len]
  have f5 : lastG H = (N : Int) := by rw [dense_last hH, f1, f4]; omega
  refine ⟨H, withL H.l ((I : Int) + 1) ((N : Int) + 1), hHe, hw, ?_, ?_, ?_, ?_, ?_, hH, f1, f5, f3, f4⟩
  · unfold trm
    rw [f1, f2, if_neg (by omega), if_pos (by omega)]
  · unfold trm
    rw [f1, if_pos (.inl (by omega))]
  · unfold ents
    rw [f1, f5, if_neg (by omega), if_neg (by omega), if_neg (by omega)]
  · rw [dense_cut hH (by omega) (by omega), f1, List.length_take, List.length_drop, f4]
    omega
  · unfold ents
    rw [f1, if_neg (by omega), if_pos (by omega)]
set_option maxHeartbeats 8000000 in
set_option maxRecDepth 100000 in
theorem compacts6 (n a b : Int) (w : World) (h0 : 0 ≤ n ∧ n < 256) (h1 : 0 ≤ a ∧ a < 256) (h2 : 0 ≤ b ∧ b < 256) (N I J : Nat) (hN1 : 1 ≤ N) (hN2 : N ≤ 12) (hN : n % 12 + 1 = (N : Int)) (hI1 : 1 ≤ I) (hI2 : I ≤ N) (hI : a % (N : Int) + 1 = (I : Int)) (hJ1 : 1 ≤ J) (hJ2 : J ≤ I) (hJ : b % (I : Int) + 1 = (J : Int)) :
  Calls Try.prog 8 #[.int .u8 n, .int .u8 a, .int .u8 b] w fun e w' => e = .returned (.bool true) ∧ Below w.heap.size w w' := by
 have hid : (0 : Int) ≤ 5 ∧ (5 : Int) ≤ 999 := by decide
 obtain ⟨H, L, c1, c2, c3, c4, c5, c6, c7, c8, c9, c10, c11, c12⟩ := cmp_facts hI1 hI2 hN2
 obtain ⟨G, hG⟩ : ∃ G, groG 5 N = G := ⟨_, rfl⟩
 obtain ⟨P, hP⟩ : ∃ P, appP 5 (J : Int) 1 1 = P := ⟨_, rfl⟩
 rw [hG] at c1 c2
 have HN : Aside0 (1 ≤ N ∧ N ≤ 12 ∧ 1 ≤ I ∧ I ≤ N ∧ 1 ≤ J ∧ J ≤ I) := ⟨⟨hN1, hN2, hI1, hI2, hJ1, hJ2⟩⟩
 have HE1 := Aside0.mk hN
 have HE2 := Aside0.mk hI
 have HE3 := Aside0.mk hJ
 have HID := Aside0.mk hid
 have JG := Aside0.mk hG
 have JP := Aside0.mk hP
 have K1 : Aside0 (dwG G (cmpP (I : Int)) = H ∧ chwG G (cmpP (I : Int)) = 0) := ⟨⟨c1, c2⟩⟩
 have K2 : Aside0 (trm H (I : Int) = ((I : Int), 0) ∧ trm H ((I : Int) - 1) = (0, 15)) := ⟨⟨c3, c4⟩⟩
 have K3 : Aside0 (ents H ((I : Int) + 1) ((N : Int) + 1) = (L, 0) ∧ ents H (I : Int) ((N : Int) + 1) = ([], 15)) := ⟨⟨c5, c7⟩⟩
 have KD : Aside0 (isG true H = true) := ⟨c8⟩
 have KL : Aside0 (lastG H = (N : Int)) := ⟨c10⟩
 have K4 : Aside0 (chwG H (cmpP (J : Int)) = 15) := ⟨by rw [chw_chk c8, cmp_chk c11 ⟨by omega, by omega⟩, if_pos (by rw [c9]; omega)]⟩
 have K5 : Aside0 (chwG H (cmpP ((N : Int) + 1)) = 16) := ⟨by rw [chw_chk c8, cmp_chk c11 ⟨by omega, by omega⟩, c10, if_neg (by rw [c9]; omega), if_pos (by omega)]⟩
 have K6 : Aside0 (chwG H P = 15) := ⟨by rw [chw_chk c8, ← hP]; have hq := app_chk (g := H) (i := (J : Int)) (t := 1) (N := 1) c8 (by omega) (by omega) (by decide) (by decide) (by rw [c11]; decide); rw [c11] at hq; rw [hq, if_pos (by rw [c9]; omega)]⟩
 have K4d : Aside0 (dwG H (cmpP (J : Int)) = H) := ⟨by unfold dwG; rw [if_neg (by rw [K4.out]; decide)]⟩
 have K5d : Aside0 (dwG H (cmpP ((N : Int) + 1)) = H) := ⟨by unfold dwG; rw [if_neg (by rw [K5.out]; decide)]⟩
 have K6d : Aside0 (dwG H P = H) := ⟨by unfold dwG; rw [if_neg (by rw [K6.out]; decide)]⟩
 have LG : Aside0 (∀ x, G.l.length + (cmpP x).l.length ≤ 4398046511104) := ⟨fun x => by rw [← hG, gro_len]; show N + 0 ≤ _; omega⟩
 have LH : Aside0 (∀ x, H.l.length + (cmpP x).l.length ≤ 4398046511104) := ⟨fun x => by rw [c12]; show N - I + 0 ≤ _; omega⟩
 have LP : Aside0 (H.l.length + P.l.length ≤ 4398046511104) := ⟨by rw [c12, ← hP]; show N - I + (appL _ _ 1).length ≤ _; rw [appL_len]; omega⟩
 have q1 : (H.fi == (I : Int) + 1) = true := beq_iff_eq.2 c9
 have q2 : ((L.length : Int) == (N : Int) - (I : Int)) = true := beq_iff_eq.2 (by omega)
 clear hI hJ hN c1 c2 c3 c4 c5 c7 c8
 have u1 : IntKind.i64.wrap ((I : Int) + 1) = (I : Int) + 1 := wrI ⟨by omega, by omega⟩
 have u2 : IntKind.i64.wrap ((N : Int) + 1) = (N : Int) + 1 := wrI ⟨by omega, by omega⟩
 have u3 : IntKind.i64.wrap ((I : Int) - 1) = (I : Int) - 1 := wrI ⟨by omega, by omega⟩
 have u4 : IntKind.i64.wrap ((N : Int) - (I : Int)) = (N : Int) - (I : Int) := wrI ⟨by omega, by omega⟩
 have v1 : (-1000000 : Int) ≤ (I : Int) ∧ (I : Int) ≤ 1000000 := by omega
 have v2 : (-1000000 : Int) ≤ (J : Int) ∧ (J : Int) ≤ 1000000 := by omega
 have v5 : (-1000000 : Int) ≤ (J : Int) - 1 ∧ (J : Int) - 1 ≤ 1000000 := by omega
 have m1 : ((N : Int) == 0) = false := beq_eq_false_iff_ne.2 (by omega)
 have m2 : (N : Int) ≠ 0 := by omega
 have m3 : ((I : Int) == 0) = false := beq_eq_false_iff_ne.2 (by omega)
 have m4 : (I : Int) ≠ 0 := by omega
 have m5 : a.tmod (N : Int) = a % (N : Int) := Int.tmod_eq_emod_of_nonneg h1.1
 have m6 : b.tmod (I : Int) = b % (I : Int) := Int.tmod_eq_emod_of_nonneg h2.1
 have m7 : IntKind.i64.wrap a = a := wrI ⟨by omega, by omega⟩
 have m8 : IntKind.i64.wrap b = b := wrI ⟨by omega, by omega⟩
 have e9 : a % (N : Int) = (I : Int) - 1 := by rw [← HE2.out, Int.add_sub_cancel]
 have e10 : b % (I : Int) = (J : Int) - 1 := by rw [← HE3.out, Int.add_sub_cancel]
 have u5 : IntKind.i64.wrap ((J : Int) - 1) = (J : Int) - 1 := wrI v5
 have m9 : IntKind.i64.wrap (a % (N : Int)) = a % (N : Int) := (congrArg IntKind.i64.wrap e9).trans (u3.trans e9.symm)
 have m10 : IntKind.i64.wrap (b % (I : Int)) = b % (I : Int) := (congrArg IntKind.i64.wrap e10).trans (u5.trans e10.symm)
 clear e9 e10 v5
 have m11 := wr6 v1
 have m12 := wr6 v2
 clear v1 v2
 have M11 := Aside0.mk m11
 have M12 := Aside0.mk m12
 have m13 : IntKind.i64.wrap (I : Int) = (I : Int) := (i64_w _).trans m11
 have m14 : IntKind.i64.wrap (J : Int) = (J : Int) := (i64_w _).trans m12
 obtain ⟨i0, i1⟩ := h0
 obtain ⟨i2, i3⟩ := h1
 obtain ⟨i4, i5⟩ := h2
 clear m11 m12
 clear c6 c9 c10 c11 c12 hG hP hid hN1 hN2 hI1 hI2 hJ1 hJ2
 go_enter Try.func8, Try.ntmps8
 have HB := Aside0.mk (Bel.refl w)
 obtain ⟨C6, hC6⟩ : ∃ C, (match Try.f8.body with | some (.seq _ (.seq _ (.seq _ (.seq _ (.seq _ c))))) => c | _ => .skip) = C := ⟨_, rfl⟩
 have HC6 := Aside0.mk hC6
 simp only [Try.f8] at hC6
 rw [hC6]
 clear hC6
 go_wp2_with fail
 go_at_call 12
 refine (known6 _).mono ?_
 rintro e w1 ⟨rfl, hw1⟩
 replace HB := lbB HB hw1
 clear hw1
 go_wp2_with fail
 try rw [HE1.out]
 try rw [HE2.out]
 try rw [M11.out]
 go_at_call 33
 refine (grown_d 5 N _ HID.out (by have := HN.out; omega) JG.out).mono ?_
 rintro e w2 ⟨A1, c1, rfl, hrd, hw2⟩
 replace HB := lbB HB hw2
 have HR1 := Aside0.mk (hrd)
 clear hrd
 clear hw2
 obtain ⟨n8, hn8⟩ : ∃ n, w2.heap.size = n := ⟨_, rfl⟩
 have HSn8 := Aside0.mk hn8
 go_wp2_with fail
 replace HB := laB HB (.cells #[.int .i64 G.id, .int .i64 G.fi, .int .i64 G.tm, .int .i64 G.ht, .int .i64 G.hv, .int .i64 G.hc, .slice A1 G.l.length c1] 26)
 replace HR1 := laR HR1 (.cells #[.int .i64 G.id, .int .i64 G.fi, .int .i64 G.tm, .int .i64 G.ht, .int .i64 G.hv, .int .i64 G.hc, .slice A1 G.l.length c1] 26)
 have HG : Aside0 (BlkG G A1 c1 n8 (w2.alloc (.cells #[.int .i64 G.id, .int .i64 G.fi, .int .i64 G.tm, .int .i64 G.ht, .int .i64 G.hv, .int .i64 G.hc, .slice A1 G.l.length c1] 26))) := ⟨(by have hq := BlkG.new G A1 c1 w2; rw [HSn8.out] at hq; exact hq : BlkG G A1 c1 n8 (w2.alloc (.cells #[.int .i64 G.id, .int .i64 G.fi, .int .i64 G.tm, .int .i64 G.ht, .int .i64 G.hv, .int .i64 G.hc, .slice A1 G.l.length c1] 26)))⟩
 obtain ⟨W1, hW1⟩ : ∃ W, w2.alloc (.cells #[.int .i64 G.id, .int .i64 G.fi, .int .i64 G.tm, .int .i64 G.ht, .int .i64 G.hv, .int .i64 G.hc, .slice A1 G.l.length c1] 26) = W := ⟨_, rfl⟩
 rw [hW1] at HB HR1 HG ⊢
 clear hW1
 clear hn8
 obtain ⟨hg0, hg1, hg2, hg3, hg4, hg5, hg6⟩ := HG.out.box
 have hC6 := HC6.out
 simp only [Try.f8] at hC6
 subst hC6
 clear HC6
 obtain ⟨C7, hC7⟩ : ∃ C, (match Try.f8.body with | some (.seq _ (.seq _ (.seq _ (.seq _ (.seq _ (.seq _ c)))))) => c | _ => .skip) = C := ⟨_, rfl⟩
 have HC7 := Aside0.mk hC7
 simp only [Try.f8] at hC7
 rw [hC7]
 clear hC7
 go_wp2_with fail
 go_at_call 22
 refine (gdo_calls G A1 c1 (cmpP (I : Int)) none 0 _ HR1.out (Rd.nil _) (LG.out _) K1.out.1 K1.out.2).mono ?_
 rintro e w3 ⟨A2, c2, rfl, hrd, hw3⟩
 replace HB := lbB HB hw3
 replace HR1 := lbR HR1 hw3
 replace HG := lbG HG hw3
 have HR2 := Aside0.mk (hrd)
 clear hrd
 clear hw3
 clear hg0 hg1 hg2 hg3 hg4 hg5 hg6
 obtain ⟨hg0, hg1, hg2, hg3, hg4, hg5, hg6⟩ := HG.out.box
 obtain ⟨n9, hn9⟩ : ∃ n, w3.heap.size = n := ⟨_, rfl⟩
 have HSn9 := Aside0.mk hn9
 go_wp2_with fail
 clear hg0 hg1 hg2 hg3 hg4 hg5 hg6
 replace HB := laB HB (.cells #[.int .i64 H.id, .int .i64 H.fi, .int .i64 H.tm, .int .i64 H.ht, .int .i64 H.hv, .int .i64 H.hc, .slice A2 H.l.length c2] 26)
 replace HR1 := laR HR1 (.cells #[.int .i64 H.id, .int .i64 H.fi, .int .i64 H.tm, .int .i64 H.ht, .int .i64 H.hv, .int .i64 H.hc, .slice A2 H.l.length c2] 26)
 replace HG := laG HG (.cells #[.int .i64 H.id, .int .i64 H.fi, .int .i64 H.tm, .int .i64 H.ht, .int .i64 H.hv, .int .i64 H.hc, .slice A2 H.l.length c2] 26)
 replace HR2 := laR HR2 (.cells #[.int .i64 H.id, .int .i64 H.fi, .int .i64 H.tm, .int .i64 H.ht, .int .i64 H.hv, .int .i64 H.hc, .slice A2 H.l.length c2] 26)
 have HH : Aside0 (BlkG H A2 c2 n9 (w3.alloc (.cells #[.int .i64 H.id, .int .i64 H.fi, .int .i64 H.tm, .int .i64 H.ht, .int .i64 H.hv, .int .i64 H.hc, .slice A2 H.l.length c2] 26))) := ⟨(by have hq := BlkG.new H A2 c2 w3; rw [HSn9.out] at hq; exact hq : BlkG H A2 c2 n9 (w3.alloc (.cells #[.int .i64 H.id, .int .i64 H.fi, .int .i64 H.tm, .int .i64 H.ht, .int .i64 H.hv, .int .i64 H.hc, .slice A2 H.l.length c2] 26)))⟩
 obtain ⟨W2, hW2⟩ : ∃ W, w3.alloc (.cells #[.int .i64 H.id, .int .i64 H.fi, .int .i64 H.tm, .int .i64 H.ht, .int .i64 H.hv, .int .i64 H.hc, .slice A2 H.l.length c2] 26) = W := ⟨_, rfl⟩
 rw [hW2] at HB HR1 HG HR2 HH ⊢
 clear hW2
 clear hn9
 clear HG
 clear HR1
 obtain ⟨hh0, hh1, hh2, hh3, hh4, hh5, hh6⟩ := HH.out.box
 have hC7 := HC7.out
 simp only [Try.f8] at hC7
 subst hC7
 clear HC7
 obtain ⟨C13, hC13⟩ : ∃ C, (match Try.f8.body with | some (.seq _ (.seq _ (.seq _ (.seq _ (.seq _ (.seq _ (.seq _ (.seq _ (.seq _ (.seq _ (.seq _ (.seq _ c)))))))))))) => c | _ => .skip) = C := ⟨_, rfl⟩
 have HC13 := Aside0.mk hC13
 simp only [Try.f8] at hC13
 rw [hC13]
 clear hC13
 go_wp2_with fail
 go_at_call 27
 refine (gterm_calls H A2 c2 (I : Int) _ HR2.out KD.out K2.out.1).mono ?_
 rintro e w4 ⟨rfl, hw4⟩
 replace HB := lbB HB hw4
 replace HR2 := lbR HR2 hw4
 replace HH := lbG HH hw4
 clear hw4
 clear hh0 hh1 hh2 hh3 hh4 hh5 hh6
 obtain ⟨hh0, hh1, hh2, hh3, hh4, hh5, hh6⟩ := HH.out.box
 go_wp2_with fail
 go_at_call 27
 refine (gterm_calls H A2 c2 ((I : Int) - 1) _ HR2.out KD.out K2.out.2).mono ?_
 rintro e w5 ⟨rfl, hw5⟩
 replace HB := lbB HB hw5
 replace HR2 := lbR HR2 hw5
 replace HH := lbG HH hw5
 clear hw5
 clear hh0 hh1 hh2 hh3 hh4 hh5 hh6
 obtain ⟨hh0, hh1, hh2, hh3, hh4, hh5, hh6⟩ := HH.out.box
 go_wp2_with fail
 go_at_call 29
 refine (gents_calls H A2 c2 ((I : Int) + 1) ((N : Int) + 1) _ HR2.out KD.out (by have := HN.out; omega) K3.out.1).mono ?_
 rintro e w6 ⟨A5, c5, rfl, hrd, hw6⟩
 replace HB := lbB HB hw6
 replace HR2 := lbR HR2 hw6
 replace HH := lbG HH hw6
 clear hrd
 clear hw6
 clear hh0 hh1 hh2 hh3 hh4 hh5 hh6
 obtain ⟨hh0, hh1, hh2, hh3, hh4, hh5, hh6⟩ := HH.out.box
 go_wp2_with fail
 go_at_call 29
 refine (gents_calls H A2 c2 (I : Int) ((N : Int) + 1) _ HR2.out KD.out (by have := HN.out; omega) K3.out.2).mono ?_
 rintro e w7 ⟨A6, c6, rfl, hrd, hw7⟩
 replace HB := lbB HB hw7
 replace HR2 := lbR HR2 hw7
 replace HH := lbG HH hw7
 clear hrd
 clear hw7
 clear hh0 hh1 hh2 hh3 hh4 hh5 hh6
 obtain ⟨hh0, hh1, hh2, hh3, hh4, hh5, hh6⟩ := HH.out.box
 go_wp2_with fail
 try rw [HE3.out]
 try rw [M12.out]
 go_at_call 22
 refine (gdo_calls H A2 c2 (cmpP (J : Int)) none 0 _ HR2.out (Rd.nil _) (LH.out _) K4d.out K4.out).mono ?_
 rintro e w8 ⟨A7, c7, rfl, hrd, hw8⟩
 replace HB := lbB HB hw8
 replace HR2 := lbR HR2 hw8
 replace HH := lbG HH hw8
 clear hrd
 clear hw8
 clear hh0 hh1 hh2 hh3 hh4 hh5 hh6
 obtain ⟨hh0, hh1, hh2, hh3, hh4, hh5, hh6⟩ := HH.out.box
 obtain ⟨n10, hn10⟩ : ∃ n, w8.heap.size = n := ⟨_, rfl⟩
 have HSn10 := Aside0.mk hn10
 go_wp2_with fail
 clear hh0 hh1 hh2 hh3 hh4 hh5 hh6
 replace HB := laB HB (.cells #[.int .i64 H.id, .int .i64 H.fi, .int .i64 H.tm, .int .i64 H.ht, .int .i64 H.hv, .int .i64 H.hc, .slice A7 H.l.length c7] 26)
 replace HR2 := laR HR2 (.cells #[.int .i64 H.id, .int .i64 H.fi, .int .i64 H.tm, .int .i64 H.ht, .int .i64 H.hv, .int .i64 H.hc, .slice A7 H.l.length c7] 26)
 replace HH := laG HH (.cells #[.int .i64 H.id, .int .i64 H.fi, .int .i64 H.tm, .int .i64 H.ht, .int .i64 H.hv, .int .i64 H.hc, .slice A7 H.l.length c7] 26)
 have HX1 : Aside0 (BlkG H A7 c7 n10 (w8.alloc (.cells #[.int .i64 H.id, .int .i64 H.fi, .int .i64 H.tm, .int .i64 H.ht, .int .i64 H.hv, .int .i64 H.hc, .slice A7 H.l.length c7] 26))) := ⟨(by have hq := BlkG.new H A7 c7 w8; rw [HSn10.out] at hq; exact hq : BlkG H A7 c7 n10 (w8.alloc (.cells #[.int .i64 H.id, .int .i64 H.fi, .int .i64 H.tm, .int .i64 H.ht, .int .i64 H.hv, .int .i64 H.hc, .slice A7 H.l.length c7] 26)))⟩
 obtain ⟨W3, hW3⟩ : ∃ W, w8.alloc (.cells #[.int .i64 H.id, .int .i64 H.fi, .int .i64 H.tm, .int .i64 H.ht, .int .i64 H.hv, .int .i64 H.hc, .slice A7 H.l.length c7] 26) = W := ⟨_, rfl⟩
 rw [hW3] at HB HR2 HH HX1 ⊢
 clear hW3
 clear hn10
 clear HX1
 obtain ⟨hh0, hh1, hh2, hh3, hh4, hh5, hh6⟩ := HH.out.box
 have hC13 := HC13.out
 simp only [Try.f8] at hC13
 subst hC13
 clear HC13
 obtain ⟨C14, hC14⟩ : ∃ C, (match Try.f8.body with | some (.seq _ (.seq _ (.seq _ (.seq _ (.seq _ (.seq _ (.seq _ (.seq _ (.seq _ (.seq _ (.seq _ (.seq _ (.seq _ c))))))))))))) => c | _ => .skip) = C := ⟨_, rfl⟩
 have HC14 := Aside0.mk hC14
 simp only [Try.f8] at hC14
 rw [hC14]
 clear hC14
 go_wp2_with fail
 go_at_call 22
 refine (gdo_calls H A2 c2 (cmpP ((N : Int) + 1)) none 0 _ HR2.out (Rd.nil _) (LH.out _) K5d.out K5.out).mono ?_
 rintro e w9 ⟨A8, c8, rfl, hrd, hw9⟩
 replace HB := lbB HB hw9
 replace HR2 := lbR HR2 hw9
 replace HH := lbG HH hw9
 clear hrd
 clear hw9
 clear hh0 hh1 hh2 hh3 hh4 hh5 hh6
 obtain ⟨hh0, hh1, hh2, hh3, hh4, hh5, hh6⟩ := HH.out.box
 obtain ⟨n11, hn11⟩ : ∃ n, w9.heap.size = n := ⟨_, rfl⟩
 have HSn11 := Aside0.mk hn11
 go_wp2_with fail
 clear hh0 hh1 hh2 hh3 hh4 hh5 hh6
 replace HB := laB HB (.cells #[.int .i64 H.id, .int .i64 H.fi, .int .i64 H.tm, .int .i64 H.ht, .int .i64 H.hv, .int .i64 H.hc, .slice A8 H.l.length c8] 26)
 replace HR2 := laR HR2 (.cells #[.int .i64 H.id, .int .i64 H.fi, .int .i64 H.tm, .int .i64 H.ht, .int .i64 H.hv, .int .i64 H.hc, .slice A8 H.l.length c8] 26)
 replace HH := laG HH (.cells #[.int .i64 H.id, .int .i64 H.fi, .int .i64 H.tm, .int .i64 H.ht, .int .i64 H.hv, .int .i64 H.hc, .slice A8 H.l.length c8] 26)
 have HX2 : Aside0 (BlkG H A8 c8 n11 (w9.alloc (.cells #[.int .i64 H.id, .int .i64 H.fi, .int .i64 H.tm, .int .i64 H.ht, .int .i64 H.hv, .int .i64 H.hc, .slice A8 H.l.length c8] 26))) := ⟨(by have hq := BlkG.new H A8 c8 w9; rw [HSn11.out] at hq; exact hq : BlkG H A8 c8 n11 (w9.alloc (.cells #[.int .i64 H.id, .int .i64 H.fi, .int .i64 H.tm, .int .i64 H.ht, .int .i64 H.hv, .int .i64 H.hc, .slice A8 H.l.length c8] 26)))⟩
 obtain ⟨W4, hW4⟩ : ∃ W, w9.alloc (.cells #[.int .i64 H.id, .int .i64 H.fi, .int .i64 H.tm, .int .i64 H.ht, .int .i64 H.hv, .int .i64 H.hc, .slice A8 H.l.length c8] 26) = W := ⟨_, rfl⟩
 rw [hW4] at HB HR2 HH HX2 ⊢
 clear hW4
 clear hn11
 clear HX2
 obtain ⟨hh0, hh1, hh2, hh3, hh4, hh5, hh6⟩ := HH.out.box
 have hC14 := HC14.out
 simp only [Try.f8] at hC14
 subst hC14
 clear HC14
 obtain ⟨C15, hC15⟩ : ∃ C, (match Try.f8.body with | some (.seq _ (.seq _ (.seq _ (.seq _ (.seq _ (.seq _ (.seq _ (.seq _ (.seq _ (.seq _ (.seq _ (.seq _ (.seq _ (.seq _ c)))))))))))))) => c | _ => .skip) = C := ⟨_, rfl⟩
 have HC15 := Aside0.mk hC15
 simp only [Try.f8] at hC15
 rw [hC15]
 clear hC15
 go_wp2_with fail
 clear hh0 hh1 hh2 hh3 hh4 hh5 hh6
 obtain ⟨nX, hXB⟩ : ∃ n, W4.heap.size = n := ⟨_, rfl⟩
 have hXB2 : W4.drew.heap.size = nX := hXB
 replace HB := ldB HB
 replace HR2 := ldR HR2
 replace HH := ldG HH
 refine start_ (n := 10) (S := (fun w' => BoxG H A2 c2 n9 w')) (ds := [8]) #[false,false,false,false,false,false,false,false,false,false] (by kernel_rfl) rfl rfl HH.out.box (fun hHeld => ?_)
 refine take_ (i := 0) (N := some 102) (v := ?_) (a' := ?_) #[true,false,false,false,false,false,false,false,false,false] rfl rfl (by kernel_rfl) (fun _ _ _ h => h) (Or.inl ⟨by rfl, ?_⟩) hHeld ?_ ?_
 rotate_left
 · rintro w' ⟨hh0, hh1, hh2, hh3, hh4, hh5, hh6⟩
   go_simp
   try with_reducible rfl
 rotate_left
 · simp only [Act.put, sA, sB, sC]
   rfl
 refine pure_ (i := 1) (N := some 103) (v := ?_) (a' := ?_) #[true,true,false,false,false,false,false,false,false,false] rfl rfl (by kernel_rfl) (fun _ _ _ h => h) (Or.inl ⟨by rfl, ?_⟩) ?_ ?_
 rotate_left
 · intro w'
   go_simp
   try with_reducible rfl
 rotate_left
 · simp only [Act.put, sA, sB, sC]
   rfl
 refine two_ (i := 2) (j := 7) (Ni := some 104) (Nj := some 26) #[true,true,true,false,false,false,false,false,false,false] #[true,true,false,false,false,false,false,true,false,false] rfl rfl rfl rfl (by kernel_rfl) (by decide) (by decide) (fun K hK => ?_) (fun K hK => ?_)
 · go_simp
   refine (appc 5 (J : Int) 1 1 _ (by omega) (by have := HN.out; omega) JP.out rfl).mono ?_; rintro e w41 ⟨Ap, cp, rfl, hrd, hw⟩; have HRP := Aside0.mk hrd; replace HB := lbB HB hw; replace HR2 := lbR HR2 hw; replace HH := lbG HH hw; clear hrd hw
   refine hK.out _ _ ?_ (fun hHeld => ?_)
   · exact HH.out.box
   clear hK K
   try simp only [Act.put, sA, sB, sC]
   obtain ⟨nX, hXw41⟩ : ∃ n, w41.heap.size = n := ⟨_, rfl⟩
   refine two_ (i := 3) (j := 7) (Ni := some 105) (Nj := some 26) #[true,true,true,true,false,false,false,false,false,false] #[true,true,true,false,false,false,false,true,false,false] rfl rfl rfl rfl (by kernel_rfl) (by decide) (by decide) (fun K hK => ?_) (fun K hK => ?_)
   · go_simp
     refine (gdo_calls H A2 c2 P Ap cp _ HR2.out HRP.out LP.out K6d.out K6.out).mono ?_; rintro e w42 ⟨A9, c9, rfl, hrd, hw⟩; have HR9 := Aside0.mk hrd; replace HB := lbB HB hw; replace HR2 := lbR HR2 hw; replace HH := lbG HH hw; clear hrd hw
     refine hK.out _ _ ?_ (fun hHeld => ?_)
     · exact HH.out.box
     clear hK K
     try simp only [Act.put, sA, sB, sC]
     clear hXw41
     obtain ⟨nX, hXw42⟩ : ∃ n, w42.heap.size = n := ⟨_, rfl⟩
     refine pure_ (i := 4) (N := some 101) (v := ?_) (a' := ?_) #[true,true,true,true,true,false,false,false,false,false] rfl rfl (by kernel_rfl) (fun _ _ _ h => h) (Or.inl ⟨by rfl, ?_⟩) ?_ ?_
     rotate_left
     · intro w'
       go_simp
       try with_reducible rfl
     rotate_left
     · simp only [Act.put, sA, sB, sC]
       rfl
     refine pure_ (i := 5) (N := some 106) (v := ?_) (a' := ?_) #[true,true,true,true,true,true,false,false,false,false] rfl rfl (by kernel_rfl) (fun _ _ _ h => h) (Or.inl ⟨by rfl, ?_⟩) ?_ ?_
     rotate_left
     · intro w'
       go_simp
       try with_reducible rfl
     rotate_left
     · simp only [Act.put, sA, sB, sC]
       rfl
     refine pure_ (i := 6) (N := some 107) (v := ?_) (a' := ?_) #[true,true,true,true,true,true,true,false,false,false] rfl rfl (by kernel_rfl) (fun _ _ _ h => h) (Or.inl ⟨by rfl, ?_⟩) ?_ ?_
     rotate_left
     · intro w'
       go_simp
       try with_reducible rfl
     rotate_left
     · simp only [Act.put, sA, sB, sC]
       rfl
     refine one_ (i := 7) (N := some 26) #[true,true,true,true,true,true,true,true,false,false] rfl rfl (by kernel_rfl) (by decide) (fun K hK => ?_)
     go_simp
     refine hK.out _ _ ?_ (fun hHeld => ?_)
     · exact (laG HH (.cells #[.int .i64 0, .int .i64 0, .int .i64 0, .int .i64 0, .int .i64 0, .int .i64 0, .slice none 0 0] 26)).out.box
     clear hK K
     try simp only [Act.put, sA, sB, sC]
     have HX : Aside0 (BlkG ⟨0, 0, 0, 0, 0, 0, []⟩ none 0 nX (w42.alloc (.cells #[.int .i64 0, .int .i64 0, .int .i64 0, .int .i64 0, .int .i64 0, .int .i64 0, .slice none 0 0] 26))) := ⟨by have hq := BlkG.new ⟨0, 0, 0, 0, 0, 0, []⟩ none 0 w42; rw [hXw42] at hq; exact hq⟩
     have ltHH : n9 < nX := by rw [← hXw42]; exact (Array.getElem?_eq_some_iff.1 HH.out).1
     have ltB : w.heap.size ≤ nX := by rw [← hXw42]; exact HB.out.b.size
     replace HB := laB HB (.cells #[.int .i64 0, .int .i64 0, .int .i64 0, .int .i64 0, .int .i64 0, .int .i64 0, .slice none 0 0] 26)
     replace HR2 := laR HR2 (.cells #[.int .i64 0, .int .i64 0, .int .i64 0, .int .i64 0, .int .i64 0, .int .i64 0, .slice none 0 0] 26)
     replace HH := laG HH (.cells #[.int .i64 0, .int .i64 0, .int .i64 0, .int .i64 0, .int .i64 0, .int .i64 0, .slice none 0 0] 26)
     replace HR9 := laR HR9 (.cells #[.int .i64 0, .int .i64 0, .int .i64 0, .int .i64 0, .int .i64 0, .int .i64 0, .slice none 0 0] 26)
     clear hXw42
     obtain ⟨w42, hW3⟩ : ∃ W, w42.alloc (.cells #[.int .i64 0, .int .i64 0, .int .i64 0, .int .i64 0, .int .i64 0, .int .i64 0, .slice none 0 0] 26) = W := ⟨_, rfl⟩
     rw [hW3] at HB HR2 HH HR9 HX ⊢
     clear hW3
     obtain ⟨x0, x1, x2, x3, x4, x5, x6⟩ := HX.out.box
     have xf := HX.out.free
     refine last_ (i := 8) (N := none) #[true,true,true,true,true,true,true,true,true,false] rfl rfl (by kernel_rfl) (by decide) (fun K hK => ?_)
     go_simp
     refine hK.out _ _ ?_
     clear hK K
     try simp only [Act.put, sA, sB, sC]
     refine pure_ (i := 9) (N := some 27) (v := ?_) (a' := ?_) #[true,true,true,true,true,true,true,true,true,true] rfl rfl (by kernel_rfl) (fun _ _ _ h => h) (Or.inl ⟨by rfl, ?_⟩) ?_ ?_
     rotate_left
     · intro w'
       go_simp
       try with_reducible rfl
     rotate_left
     · simp only [Act.put, sA, sB, sC]
       rfl
     refine done_ (by kernel_rfl) ?_
     clear x0 x1 x2 x3 x4 x5 x6 xf
     have hx := only_store H A9 c9 nX w42
     replace HB := Aside0.mk (Bel.only HB.out hx (fun q hq h => by have h2 : q = nX := h; omega))
     replace HR2 := Aside0.mk (Rd.only HR2.out hx (fun q hq h => by have h3 : q = nX := h; subst h3; exact Rd.apartG HR2.out HX.out hq))
     replace HH := Aside0.mk (BlkG.only HH.out hx (fun h => by have h2 : n9 = nX := h; omega))
     replace HR9 := Aside0.mk (Rd.only HR9.out hx (fun q hq h => by have h3 : q = nX := h; subst h3; exact Rd.apartG HR9.out HX.out hq))
     replace HX := Aside0.mk (BlkG.store (g := H) (A := A9) (c := c9) HX.out)
     clear hx
     obtain ⟨W55, hW55⟩ : ∃ W, (((((((w42.setCell ⟨nX, 0, none⟩ (.int .i64 H.id)).setCell ⟨nX, 1, none⟩ (.int .i64 H.fi)).setCell ⟨nX, 2, none⟩ (.int .i64 H.tm)).setCell ⟨nX, 3, none⟩ (.int .i64 H.ht)).setCell ⟨nX, 4, none⟩ (.int .i64 H.hv)).setCell ⟨nX, 5, none⟩ (.int .i64 H.hc)).setCell ⟨nX, 6, none⟩ (.slice A9 H.l.length c9)) = W := ⟨_, rfl⟩
     rw [hW55] at HB HR2 HH HR9 HX ⊢
     clear hW55
     obtain ⟨hh0, hh1, hh2, hh3, hh4, hh5, hh6⟩ := HH.out.box
     obtain ⟨hx0, hx1, hx2, hx3, hx4, hx5, hx6⟩ := HX.out.box
     have hC15 := HC15.out
     simp only [Try.f8] at hC15
     subst hC15
     clear HC15
     go_wp2_with fail
     go_at_call 25
     refine (glast_calls H A2 c2 _ HR2.out KL.out).mono ?_
     rintro e w10 ⟨rfl, hw10⟩
     replace HB := lbB HB hw10
     replace HR2 := lbR HR2 hw10
     replace HH := lbG HH hw10
     replace HR9 := lbR HR9 hw10
     replace HX := lbG HX hw10
     clear hw10
     clear hh0 hh1 hh2 hh3 hh4 hh5 hh6 hx0 hx1 hx2 hx3 hx4 hx5 hx6
     obtain ⟨hh0, hh1, hh2, hh3, hh4, hh5, hh6⟩ := HH.out.box
     obtain ⟨hx0, hx1, hx2, hx3, hx4, hx5, hx6⟩ := HX.out.box
     go_wp2_with fail
     go_ret
     exact ⟨rfl, HB.out.b⟩
   · go_simp
     refine hK.out _ _ ?_ (fun hHeld => ?_)
     · exact (laG HH (.cells #[.int .i64 0, .int .i64 0, .int .i64 0, .int .i64 0, .int .i64 0, .int .i64 0, .slice none 0 0] 26)).out.box
     clear hK K
     try simp only [Act.put, sA, sB, sC]
     have HX : Aside0 (BlkG ⟨0, 0, 0, 0, 0, 0, []⟩ none 0 nX (w41.alloc (.cells #[.int .i64 0, .int .i64 0, .int .i64 0, .int .i64 0, .int .i64 0, .int .i64 0, .slice none 0 0] 26))) := ⟨by have hq := BlkG.new ⟨0, 0, 0, 0, 0, 0, []⟩ none 0 w41; rw [hXw41] at hq; exact hq⟩
     have ltHH : n9 < nX := by rw [← hXw41]; exact (Array.getElem?_eq_some_iff.1 HH.out).1
     have ltB : w.heap.size ≤ nX := by rw [← hXw41]; exact HB.out.b.size
     replace HB := laB HB (.cells #[.int .i64 0, .int .i64 0, .int .i64 0, .int .i64 0, .int .i64 0, .int .i64 0, .slice none 0 0] 26)
     replace HR2 := laR HR2 (.cells #[.int .i64 0, .int .i64 0, .int .i64 0, .int .i64 0, .int .i64 0, .int .i64 0, .slice none 0 0] 26)
     replace HH := laG HH (.cells #[.int .i64 0, .int .i64 0, .int .i64 0, .int .i64 0, .int .i64 0, .int .i64 0, .slice none 0 0] 26)
     replace HRP := laR HRP (.cells #[.int .i64 0, .int .i64 0, .int .i64 0, .int .i64 0, .int .i64 0, .int .i64 0, .slice none 0 0] 26)
     clear hXw41
     refine one_ (i := 3) (N := some 105) #[true,true,true,true,false,false,false,true,false,false] rfl rfl (by kernel_rfl) (by decide) (fun K hK => ?_)
     go_simp
     refine (gdo_calls H A2 c2 P Ap cp _ HR2.out HRP.out LP.out K6d.out K6.out).mono ?_; rintro e w42 ⟨A9, c9, rfl, hrd, hw⟩; have HR9 := Aside0.mk hrd; replace HB := lbB HB hw; replace HR2 := lbR HR2 hw; replace HH := lbG HH hw; replace HX := lbG HX hw; clear hrd hw
     refine hK.out _ _ ?_ (fun hHeld => ?_)
     · exact HH.out.box
     clear hK K
     try simp only [Act.put, sA, sB, sC]
     obtain ⟨x0, x1, x2, x3, x4, x5, x6⟩ := HX.out.box
     have xf := HX.out.free
     refine pure_ (i := 4) (N := some 101) (v := ?_) (a' := ?_) #[true,true,true,true,true,false,false,true,false,false] rfl rfl (by kernel_rfl) (fun _ _ _ h => h) (Or.inl ⟨by rfl, ?_⟩) ?_ ?_
     rotate_left
     · intro w'
       go_simp
       try with_reducible rfl
     rotate_left
     · simp only [Act.put, sA, sB, sC]
       rfl
     refine pure_ (i := 5) (N := some 106) (v := ?_) (a' := ?_) #[true,true,true,true,true,true,false,true,false,false] rfl rfl (by kernel_rfl) (fun _ _ _ h => h) (Or.inl ⟨by rfl, ?_⟩) ?_ ?_
     rotate_left
     · intro w'
       go_simp
       try with_reducible rfl
     rotate_left
     · simp only [Act.put, sA, sB, sC]
       rfl
     refine pure_ (i := 6) (N := some 107) (v := ?_) (a' := ?_) #[true,true,true,true,true,true,true,true,false,false] rfl rfl (by kernel_rfl) (fun _ _ _ h => h) (Or.inl ⟨by rfl, ?_⟩) ?_ ?_
     rotate_left
     · intro w'
       go_simp
       try with_reducible rfl
     rotate_left
     · simp only [Act.put, sA, sB, sC]
       rfl
     refine last_ (i := 8) (N := none) #[true,true,true,true,true,true,true,true,true,false] rfl rfl (by kernel_rfl) (by decide) (fun K hK => ?_)
     go_simp
     refine hK.out _ _ ?_
     clear hK K
     try simp only [Act.put, sA, sB, sC]
     refine pure_ (i := 9) (N := some 27) (v := ?_) (a' := ?_) #[true,true,true,true,true,true,true,true,true,true] rfl rfl (by kernel_rfl) (fun _ _ _ h => h) (Or.inl ⟨by rfl, ?_⟩) ?_ ?_
     rotate_left
     · intro w'
       go_simp
       try with_reducible rfl
     rotate_left
     · simp only [Act.put, sA, sB, sC]
       rfl
     refine done_ (by kernel_rfl) ?_
     clear x0 x1 x2 x3 x4 x5 x6 xf
     have hx := only_store H A9 c9 nX w42
     replace HB := Aside0.mk (Bel.only HB.out hx (fun q hq h => by have h2 : q = nX := h; omega))
     replace HR2 := Aside0.mk (Rd.only HR2.out hx (fun q hq h => by have h3 : q = nX := h; subst h3; exact Rd.apartG HR2.out HX.out hq))
     replace HH := Aside0.mk (BlkG.only HH.out hx (fun h => by have h2 : n9 = nX := h; omega))
     replace HR9 := Aside0.mk (Rd.only HR9.out hx (fun q hq h => by have h3 : q = nX := h; subst h3; exact Rd.apartG HR9.out HX.out hq))
     replace HX := Aside0.mk (BlkG.store (g := H) (A := A9) (c := c9) HX.out)
     clear hx
     obtain ⟨W55, hW55⟩ : ∃ W, (((((((w42.setCell ⟨nX, 0, none⟩ (.int .i64 H.id)).setCell ⟨nX, 1, none⟩ (.int .i64 H.fi)).setCell ⟨nX, 2, none⟩ (.int .i64 H.tm)).setCell ⟨nX, 3, none⟩ (.int .i64 H.ht)).setCell ⟨nX, 4, none⟩ (.int .i64 H.hv)).setCell ⟨nX, 5, none⟩ (.int .i64 H.hc)).setCell ⟨nX, 6, none⟩ (.slice A9 H.l.length c9)) = W := ⟨_, rfl⟩
     rw [hW55] at HB HR2 HH HR9 HX ⊢
     clear hW55
     obtain ⟨hh0, hh1, hh2, hh3, hh4, hh5, hh6⟩ := HH.out.box
     obtain ⟨hx0, hx1, hx2, hx3, hx4, hx5, hx6⟩ := HX.out.box
     have hC15 := HC15.out
     simp only [Try.f8] at hC15
     subst hC15
     clear HC15
     go_wp2_with fail
     go_at_call 25
     refine (glast_calls H A2 c2 _ HR2.out KL.out).mono ?_
     rintro e w10 ⟨rfl, hw10⟩
     replace HB := lbB HB hw10
     replace HR2 := lbR HR2 hw10
     replace HH := lbG HH hw10
     replace HR9 := lbR HR9 hw10
     replace HX := lbG HX hw10
     clear hw10
     clear hh0 hh1 hh2 hh3 hh4 hh5 hh6 hx0 hx1 hx2 hx3 hx4 hx5 hx6
     obtain ⟨hh0, hh1, hh2, hh3, hh4, hh5, hh6⟩ := HH.out.box
     obtain ⟨hx0, hx1, hx2, hx3, hx4, hx5, hx6⟩ := HX.out.box
     go_wp2_with fail
     go_ret
     exact ⟨rfl, HB.out.b⟩
 · go_simp
   refine hK.out _ _ ?_ (fun hHeld => ?_)
   · exact (laG HH (.cells #[.int .i64 0, .int .i64 0, .int .i64 0, .int .i64 0, .int .i64 0, .int .i64 0, .slice none 0 0] 26)).out.box
   clear hK K
   try simp only [Act.put, sA, sB, sC]
   have HX : Aside0 (BlkG ⟨0, 0, 0, 0, 0, 0, []⟩ none 0 nX (W4.drew.alloc (.cells #[.int .i64 0, .int .i64 0, .int .i64 0, .int .i64 0, .int .i64 0, .int .i64 0, .slice none 0 0] 26))) := ⟨by have hq := BlkG.new ⟨0, 0, 0, 0, 0, 0, []⟩ none 0 W4.drew; rw [hXB2] at hq; exact hq⟩
   have ltHH : n9 < nX := by rw [← hXB2]; exact (Array.getElem?_eq_some_iff.1 HH.out).1
   have ltB : w.heap.size ≤ nX := by rw [← hXB2]; exact HB.out.b.size
   replace HB := laB HB (.cells #[.int .i64 0, .int .i64 0, .int .i64 0, .int .i64 0, .int .i64 0, .int .i64 0, .slice none 0 0] 26)
   replace HR2 := laR HR2 (.cells #[.int .i64 0, .int .i64 0, .int .i64 0, .int .i64 0, .int .i64 0, .int .i64 0, .slice none 0 0] 26)
   replace HH := laG HH (.cells #[.int .i64 0, .int .i64 0, .int .i64 0, .int .i64 0, .int .i64 0, .int .i64 0, .slice none 0 0] 26)
   clear hXB2
   clear hXB
   refine one_ (i := 2) (N := some 104) #[true,true,true,false,false,false,false,true,false,false] rfl rfl (by kernel_rfl) (by decide) (fun K hK => ?_)
   go_simp
   refine (appc 5 (J : Int) 1 1 _ (by omega) (by have := HN.out; omega) JP.out rfl).mono ?_; rintro e w41 ⟨Ap, cp, rfl, hrd, hw⟩; have HRP := Aside0.mk hrd; replace HB := lbB HB hw; replace HR2 := lbR HR2 hw; replace HH := lbG HH hw; replace HX := lbG HX hw; clear hrd hw
   refine hK.out _ _ ?_ (fun hHeld => ?_)
   · exact HH.out.box
   clear hK K
   try simp only [Act.put, sA, sB, sC]
   refine one_ (i := 3) (N := some 105) #[true,true,true,true,false,false,false,true,false,false] rfl rfl (by kernel_rfl) (by decide) (fun K hK => ?_)
   go_simp
   refine (gdo_calls H A2 c2 P Ap cp _ HR2.out HRP.out LP.out K6d.out K6.out).mono ?_; rintro e w42 ⟨A9, c9, rfl, hrd, hw⟩; have HR9 := Aside0.mk hrd; replace HB := lbB HB hw; replace HR2 := lbR HR2 hw; replace HH := lbG HH hw; replace HX := lbG HX hw; clear hrd hw
   refine hK.out _ _ ?_ (fun hHeld => ?_)
   · exact HH.out.box
   clear hK K
   try simp only [Act.put, sA, sB, sC]
   obtain ⟨x0, x1, x2, x3, x4, x5, x6⟩ := HX.out.box
   have xf := HX.out.free
   refine pure_ (i := 4) (N := some 101) (v := ?_) (a' := ?_) #[true,true,true,true,true,false,false,true,false,false] rfl rfl (by kernel_rfl) (fun _ _ _ h => h) (Or.inl ⟨by rfl, ?_⟩) ?_ ?_
   rotate_left
   · intro w'
     go_simp
     try with_reducible rfl
   rotate_left
   · simp only [Act.put, sA, sB, sC]
     rfl
   refine pure_ (i := 5) (N := some 106) (v := ?_) (a' := ?_) #[true,true,true,true,true,true,false,true,false,false] rfl rfl (by kernel_rfl) (fun _ _ _ h => h) (Or.inl ⟨by rfl, ?_⟩) ?_ ?_
   rotate_left
   · intro w'
     go_simp
     try with_reducible rfl
   rotate_left
   · simp only [Act.put, sA, sB, sC]
     rfl
   refine pure_ (i := 6) (N := some 107) (v := ?_) (a' := ?_) #[true,true,true,true,true,true,true,true,false,false] rfl rfl (by kernel_rfl) (fun _ _ _ h => h) (Or.inl ⟨by rfl, ?_⟩) ?_ ?_
   rotate_left
   · intro w'
     go_simp
     try with_reducible rfl
   rotate_left
   · simp only [Act.put, sA, sB, sC]
     rfl
   refine last_ (i := 8) (N := none) #[true,true,true,true,true,true,true,true,true,false] rfl rfl (by kernel_rfl) (by decide) (fun K hK => ?_)
   go_simp
   refine hK.out _ _ ?_
   clear hK K
   try simp only [Act.put, sA, sB, sC]
   refine pure_ (i := 9) (N := some 27) (v := ?_) (a' := ?_) #[true,true,true,true,true,true,true,true,true,true] rfl rfl (by kernel_rfl) (fun _ _ _ h => h) (Or.inl ⟨by rfl, ?_⟩) ?_ ?_
   rotate_left
   · intro w'
     go_simp
     try with_reducible rfl
   rotate_left
   · simp only [Act.put, sA, sB, sC]
     rfl
   refine done_ (by kernel_rfl) ?_
   clear x0 x1 x2 x3 x4 x5 x6 xf
   have hx := only_store H A9 c9 nX w42
   replace HB := Aside0.mk (Bel.only HB.out hx (fun q hq h => by have h2 : q = nX := h; omega))
   replace HR2 := Aside0.mk (Rd.only HR2.out hx (fun q hq h => by have h3 : q = nX := h; subst h3; exact Rd.apartG HR2.out HX.out hq))
   replace HH := Aside0.mk (BlkG.only HH.out hx (fun h => by have h2 : n9 = nX := h; omega))
   replace HR9 := Aside0.mk (Rd.only HR9.out hx (fun q hq h => by have h3 : q = nX := h; subst h3; exact Rd.apartG HR9.out HX.out hq))
   replace HX := Aside0.mk (BlkG.store (g := H) (A := A9) (c := c9) HX.out)
   clear hx
   obtain ⟨W55, hW55⟩ : ∃ W, (((((((w42.setCell ⟨nX, 0, none⟩ (.int .i64 H.id)).setCell ⟨nX, 1, none⟩ (.int .i64 H.fi)).setCell ⟨nX, 2, none⟩ (.int .i64 H.tm)).setCell ⟨nX, 3, none⟩ (.int .i64 H.ht)).setCell ⟨nX, 4, none⟩ (.int .i64 H.hv)).setCell ⟨nX, 5, none⟩ (.int .i64 H.hc)).setCell ⟨nX, 6, none⟩ (.slice A9 H.l.length c9)) = W := ⟨_, rfl⟩
   rw [hW55] at HB HR2 HH HR9 HX ⊢
   clear hW55
   obtain ⟨hh0, hh1, hh2, hh3, hh4, hh5, hh6⟩ := HH.out.box
   obtain ⟨hx0, hx1, hx2, hx3, hx4, hx5, hx6⟩ := HX.out.box
   have hC15 := HC15.out
   simp only [Try.f8] at hC15
   subst hC15
   clear HC15
   go_wp2_with fail
   go_at_call 25
   refine (glast_calls H A2 c2 _ HR2.out KL.out).mono ?_
   rintro e w10 ⟨rfl, hw10⟩
   replace HB := lbB HB hw10
   replace HR2 := lbR HR2 hw10
   replace HH := lbG HH hw10
   replace HR9 := lbR HR9 hw10
   replace HX := lbG HX hw10
   clear hw10
   clear hh0 hh1 hh2 hh3 hh4 hh5 hh6 hx0 hx1 hx2 hx3 hx4 hx5 hx6
   obtain ⟨hh0, hh1, hh2, hh3, hh4, hh5, hh6⟩ := HH.out.box
   obtain ⟨hx0, hx1, hx2, hx3, hx4, hx5, hx6⟩ := HX.out.box
   go_wp2_with fail
   go_ret
   exact ⟨rfl, HB.out.b⟩
end Go.Proofs.Ytlfdmlacadoolaa.PartW
namespace Go.Proofs.Ytlfdmlacadoolaa.Pure
open Go Go.RowKit Go.Proofs.Ytlfdmlacadoolaa.Sp Go.Proofs.Ytlfdmlacadoolaa.PartW
theorem GroupCompacts.walk (n a b : Int) (w : World) (w0 : (Lit.int .u8 n).wf = true) (w1 : (Lit.int .u8 a).wf = true) (w2 : (Lit.int .u8 b).wf = true) :
    Calls Try.prog 8 #[.int .u8 n, .int .u8 a, .int .u8 b] w fun e w' => e = .returned (.bool true) ∧ Below w.heap.size w w' := by
  have h0 : 0 ≤ n ∧ n < 256 := by simp [Lit.wf, IntKind.min, IntKind.max, IntKind.bits, IntKind.signed] at w0; omega
  have h1 : 0 ≤ a ∧ a < 256 := by simp [Lit.wf, IntKind.min, IntKind.max, IntKind.bits, IntKind.signed] at w1; omega
  have h2 : 0 ≤ b ∧ b < 256 := by simp [Lit.wf, IntKind.min, IntKind.max, IntKind.bits, IntKind.signed] at w2; omega
  obtain ⟨N, hN1, hN2, hN⟩ : ∃ N : Nat, 1 ≤ N ∧ N ≤ 12 ∧ n % 12 + 1 = (N : Int) := ⟨(n % 12 + 1).toNat, by omega, by omega, by omega⟩
  have e1 := Int.emod_nonneg a (b := (N : Int)) (by omega)
  have e2 := Int.emod_lt_of_pos a (b := (N : Int)) (by omega)
  obtain ⟨I, hI1, hI2, hI⟩ : ∃ I : Nat, 1 ≤ I ∧ I ≤ N ∧ a % (N : Int) + 1 = (I : Int) := ⟨(a % (N : Int) + 1).toNat, by omega, by omega, by omega⟩
  have e3 := Int.emod_nonneg b (b := (I : Int)) (by omega)
  have e4 := Int.emod_lt_of_pos b (b := (I : Int)) (by omega)
  obtain ⟨J, hJ1, hJ2, hJ⟩ : ∃ J : Nat, 1 ≤ J ∧ J ≤ I ∧ b % (I : Int) + 1 = (J : Int) := ⟨(b % (I : Int) + 1).toNat, by omega, by omega, by omega⟩
  exact compacts6 n a b w h0 h1 h2 N I J hN1 hN2 hN hI1 hI2 hI hJ1 hJ2 hJ
end Go.Proofs.Ytlfdmlacadoolaa.Pure
