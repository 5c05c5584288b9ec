/- The statement GroupConflicts; no condition beyond the row's. -/
import Derived.Test.YtlfdmlacadoolaaSameQ
import Derived.Test.YtlfdmlacadoolaaFew6
import Derived.Test.YtlfdmlacadoolaaGrow
set_option linter.unusedVariables false
set_option linter.unusedSimpArgs false
namespace Go.Proofs.Ytlfdmlacadoolaa.PartW
open Go Go.RowKit Go.Shelf Go.Proofs.Ytlfdmlacadoolaa.A Go.Proofs.Ytlfdmlacadoolaa.Sp Go.Proofs.Ytlfdmlacadoolaa.Reg Go.Proofs.Ytlfdmlacadoolaa.Seq Go.Proofs.YtlfdmlacadoolaaW.PrintWords Go.Proofs.YtlfdmlacadoolaaW.PrintLast Go.Proofs.YtlfdmlacadoolaaW.PrintMore
theorem grown_d (id : Int) (N : Nat) (w : World) (hid : 0 ≤ id ∧ id ≤ 999) (hN : N ≤ 900) {G : Grp} (hG : groG id N = G) : Calls Try.prog 33 #[.int .i64 id, .int .i64 (N : Int)] w fun e w' => ∃ A c, e = .returned (.tuple #[vG G A c, .bool true]) ∧ Rd w' A c G.l ∧ Below w.heap.size w w' := by
  rw [← hG]; exact grown_calls id N w hid hN
theorem wrI {x : Int} (h : -1000000 ≤ x ∧ x ≤ 1000000) : IntKind.i64.wrap x = x := by rw [i64_w]; unfold wrap64; omega
theorem wr6 {x : Int} (h : -1000000 ≤ x ∧ x ≤ 1000000) : wrap64 x = x := by unfold wrap64; omega
theorem el_app_l {a b : List Ent} {i : Nat} (h : i < a.length) : el (a ++ b) i = el a i := by
  rw [el_get (by rw [List.length_append]; omega), el_get h, List.getElem_append_left]
theorem el_app_r {a b : List Ent} {i : Nat} (h : a.length ≤ i) (h2 : i < a.length + b.length) : el (a ++ b) i = el b (i - a.length) := by
  rw [el_get (by rw [List.length_append]; exact h2), el_get (by omega), List.getElem_append_right h]
theorem el_tk {a : List Ent} {i n : Nat} (h : i < n) (h2 : n ≤ a.length) : el (a.take n) i = el a i := by
  rw [el_get (by rw [List.length_take]; omega), el_get (by omega), List.getElem_take]
theorem con_facts {N I M : Nat} {t : Int} (h1 : 1 ≤ I) (h2 : I ≤ N + 1) (h3 : N ≤ 12) (h4 : 1 ≤ M) (h5 : M ≤ 6) (ht : 1 ≤ t ∧ t ≤ 1000000) :
    ∃ H : Grp, dwG (groG 5 N) (appP 5 (I : Int) t M) = H ∧ chwG (groG 5 N) (appP 5 (I : Int) t M) = 0 ∧ isG true H = true ∧ lastG H = (I : Int) + (M : Int) - 1 ∧ (H.l.length : Int) = (I : Int) + (M : Int) - 1 ∧ lastG (groG 5 N) = (N : Int) ∧ ∀ j : Int, 1 ≤ j → j ≤ (I : Int) + (M : Int) - 1 → trm H j = (if (I : Int) ≤ j then t else j, 0) := by
  have hD := gro_dense (id := 5) (k := N) ⟨by decide, by decide⟩ (by omega)
  have hla := gro_last (id := 5) (k := N) ⟨by decide, by decide⟩ (by omega)
  have hfi : (groG 5 N).fi = 1 := rfl
  have hck := app_chk (g := groG 5 N) (i := (I : Int)) (t := t) (N := M) hD (by omega) (by omega) ht ⟨h4, h5⟩ (show (0 : Int) ≤ 5 ∧ (5 : Int) ≤ 999 by decide)
  have hc : chkG (groG 5 N) (appP 5 (I : Int) t M) = 0 := by
    refine hck.trans ?_
    rw [if_neg (by rw [hfi]; omega), if_neg (by rw [hfi, gro_len]; omega)]
  have hH := do_dense hD (appP 5 (I : Int) t M)
  have hdo := app_list hD hc rfl
  have he : (el (appP 5 (I : Int) t M).l 0).f0 = (I : Int) := by
    show (el (appL _ _ M) 0).f0 = _
    rw [appL_el (by omega)]
    show (I : Int) + ((0 : Nat) : Int) = _
    omega
  rw [he, hfi, show ((I : Int) - 1).toNat = I - 1 by omega] at hdo
  obtain ⟨H, hHe⟩ : ∃ H, dwG (groG 5 N) (appP 5 (I : Int) t M) = H := ⟨_, rfl⟩
  rw [hHe] at hH hdo
  have f1 : H.fi = 1 := by rw [hdo]
  have fl : H.l = (groG 5 N).l.take (I - 1) ++ appL (I : Int) t M := by rw [hdo]; rfl
  have lt : ((groG 5 N).l.take (I - 1)).length = I - 1 := by rw [List.length_take, gro_len]; omega
  have f4 : H.l.length = I - 1 + M := by rw [fl, List.length_append, lt, appL_len]
  have f5 : lastG H = (I : Int) + (M : Int) - 1 := by rw [dense_last hH, f1, f4]; omega
  refine ⟨H, hHe, by rw [chw_chk hD]; exact hc, hH, f5, by rw [f4]; omega, hla, fun j a b => ?_⟩
  unfold trm
  rw [f1, if_neg (by omega), if_neg (by omega), if_neg (by rw [f5]; omega), (dense_at hH (x := j) (by rw [f1]; omega) (by rw [f5]; omega)).2, f1, fl]
  by_cases hj : (I : Int) ≤ j
  · rw [if_pos hj, el_app_r (by rw [lt]; omega) (by rw [lt, appL_len]; omega), lt, appL_el (by omega)]
    rfl
  · rw [if_neg hj, el_app_l (by rw [lt]; omega), el_tk (by omega) (by rw [gro_len]; omega), gro_el (by omega)]
    congr 1
    show (((j - 1).toNat : Nat) : Int) + 1 = j
    omega
/-- what holds while the entries are asked -/
def ConI (H : Grp) (A : Option Addr) (c b : Nat) (w W : World) : Prop := BlkG H A c b W ∧ Rd W A c H.l ∧ Bel w W
set_option maxHeartbeats 8000000 in
set_option maxRecDepth 100000 in
theorem conflicts6 (n a b t : Int) (w : World) (h0 : 0 ≤ n ∧ n < 256) (h1 : 0 ≤ a ∧ a < 256) (h2 : 0 ≤ b ∧ b < 256) (h3 : 0 ≤ t ∧ t < 65536) (N I M : Nat) (hN1 : 1 ≤ N) (hN2 : N ≤ 12) (hN : n % 12 + 1 = (N : Int)) (hI1 : 1 ≤ I) (hI2 : I ≤ N + 1) (hI : a % ((N : Int) + 1) + 1 = (I : Int)) (hM1 : 1 ≤ M) (hM2 : M ≤ 6) (hM : b % 6 + 1 = (M : Int)) :
  Calls Try.prog 7 #[.int .u8 n, .int .u8 a, .int .u8 b, .int .u16 t] w fun e w' => e = .returned (.bool true) ∧ Below w.heap.size w w' := by
 have hid : (0 : Int) ≤ 5 ∧ (5 : Int) ≤ 999 := by decide
 obtain ⟨H, c1, c2, c3, c4, c5, c6, c7⟩ := con_facts (t := t + 50) hI1 hI2 hN2 hM1 hM2 (by omega)
 obtain ⟨L, hL⟩ : ∃ L : Nat, (I : Int) + (M : Int) - 1 = (L : Int) := ⟨I + M - 1, by omega⟩
 rw [hL] at c4 c5 c7
 obtain ⟨G, hG⟩ : ∃ G, groG 5 N = G := ⟨_, rfl⟩
 obtain ⟨P, hP⟩ : ∃ P, appP 5 (I : Int) (t + 50) M = P := ⟨_, rfl⟩
 rw [hG] at c1 c2 c6
 rw [hP] at c1 c2
 have HN : Aside0 (1 ≤ N ∧ N ≤ 12 ∧ 1 ≤ I ∧ I ≤ N + 1 ∧ 1 ≤ M ∧ M ≤ 6 ∧ 1 ≤ L ∧ L ≤ 30) := ⟨⟨hN1, hN2, hI1, hI2, hM1, hM2, by omega, by omega⟩⟩
 have HE1 := Aside0.mk hN
 have HE2 := Aside0.mk hI
 have HE3 := Aside0.mk hM
 have HID := Aside0.mk hid
 have JG := Aside0.mk hG
 have JP := Aside0.mk hP
 have K1 : Aside0 (dwG G P = H ∧ chwG G P = 0) := ⟨⟨c1, c2⟩⟩
 have KD : Aside0 (isG true H = true) := ⟨c3⟩
 have KL : Aside0 (lastG H = (L : Int)) := ⟨c4⟩
 have KG : Aside0 (lastG G = (N : Int)) := ⟨c6⟩
 have KT : Aside0 (∀ j : Int, 1 ≤ j → j ≤ (L : Int) → trm H j = (if (I : Int) ≤ j then t + 50 else j, 0)) := ⟨c7⟩
 have LP : Aside0 (G.l.length + P.l.length ≤ 4398046511104) := ⟨by rw [← hG, ← hP, gro_len]; show N + (appL _ _ M).length ≤ _; rw [appL_len]; omega⟩
 have q1 : ((H.l.length : Int) == (I : Int) + (M : Int) - 1) = true := beq_iff_eq.2 (by omega)
 have q2 : ((H.l.length : Int) != (I : Int) + (M : Int) - 1) = false := by rw [bne, q1]; rfl
 have q3 : ((L : Int) == (I : Int) + (M : Int) - 1) = true := beq_iff_eq.2 hL.symm
 have q4 : ((L : Int) != (I : Int) + (M : Int) - 1) = false := by rw [bne, q3]; rfl
 have u1 : IntKind.i64.wrap ((I : Int) + (M : Int)) = (I : Int) + (M : Int) := wrI ⟨by omega, by omega⟩
 have u2 : IntKind.i64.wrap ((I : Int) + (M : Int) - 1) = (I : Int) + (M : Int) - 1 := wrI ⟨by omega, by omega⟩
 have u3 : IntKind.i64.wrap (t + 50) = t + 50 := wrI ⟨by omega, by omega⟩
 have u4 : IntKind.i64.wrap t = t := wrI ⟨by omega, by omega⟩
 have v1 : (-1000000 : Int) ≤ (I : Int) ∧ (I : Int) ≤ 1000000 := by omega
 have v5 : (-1000000 : Int) ≤ (I : Int) - 1 ∧ (I : Int) - 1 ≤ 1000000 := by omega
 have u5 : IntKind.i64.wrap ((N : Int) + 1) = (N : Int) + 1 := wrI ⟨by omega, by omega⟩
 have m1 : ((N : Int) + 1 == 0) = false := beq_eq_false_iff_ne.2 (by omega)
 have m2 : (N : Int) + 1 ≠ 0 := by omega
 have m5 : a.tmod ((N : Int) + 1) = a % ((N : Int) + 1) := Int.tmod_eq_emod_of_nonneg h1.1
 have m7 : IntKind.i64.wrap a = a := wrI ⟨by omega, by omega⟩
 have e9 : a % ((N : Int) + 1) = (I : Int) - 1 := by rw [← HE2.out, Int.add_sub_cancel]
 have u6 : IntKind.i64.wrap ((I : Int) - 1) = (I : Int) - 1 := wrI v5
 have m9 : IntKind.i64.wrap (a % ((N : Int) + 1)) = a % ((N : Int) + 1) := (congrArg IntKind.i64.wrap e9).trans (u6.trans e9.symm)
 clear e9 v5
 have m11 := wr6 v1
 have M11 := Aside0.mk m11
 clear v1
 have m13 : IntKind.i64.wrap (I : Int) = (I : Int) := (i64_w _).trans m11
 clear m11
 obtain ⟨i0, i1⟩ := h0
 obtain ⟨i2, i3⟩ := h1
 obtain ⟨i4, i5⟩ := h2
 obtain ⟨i6, i7⟩ := h3
 clear hI hN hM c1 c2 c3 c4 c5 c6 c7 hG hP hid hN1 hN2 hI1 hI2 hM1 hM2 hL
 go_enter Try.func7, Try.ntmps7
 have HB := Aside0.mk (Bel.refl w)
 obtain ⟨C6, hC6⟩ : ∃ C, (match Try.f7.body with | some (.seq _ (.seq _ (.seq _ (.seq _ (.seq _ c))))) => c | _ => .skip) = C := ⟨_, rfl⟩
 have HC6 := Aside0.mk hC6
 simp only [Try.f7] at hC6
 rw [hC6]
 clear hC6
 go_wp2_with fail
 go_at_call 12
 refine (known6 _).mono ?_
 rintro e w1 ⟨rfl, hw1⟩
 replace HB := lbB HB hw1
 clear hw1
 go_wp2_with fail
 try rw [HE1.out]
 try rw [HE3.out]
 try rw [HE2.out]
 try rw [M11.out]
 go_at_call 33
 refine (grown_d 5 N _ HID.out (by have := HN.out; omega) JG.out).mono ?_
 rintro e w2 ⟨A1, c1, rfl, hrd, hw2⟩
 replace HB := lbB HB hw2
 have HR1 := Aside0.mk (hrd)
 clear hrd
 clear hw2
 obtain ⟨n8, hn8⟩ : ∃ n, w2.heap.size = n := ⟨_, rfl⟩
 have HSn8 := Aside0.mk hn8
 go_wp2_with fail
 replace HB := laB HB (.cells #[.int .i64 G.id, .int .i64 G.fi, .int .i64 G.tm, .int .i64 G.ht, .int .i64 G.hv, .int .i64 G.hc, .slice A1 G.l.length c1] 26)
 replace HR1 := laR HR1 (.cells #[.int .i64 G.id, .int .i64 G.fi, .int .i64 G.tm, .int .i64 G.ht, .int .i64 G.hv, .int .i64 G.hc, .slice A1 G.l.length c1] 26)
 have HG : Aside0 (BlkG G A1 c1 n8 (w2.alloc (.cells #[.int .i64 G.id, .int .i64 G.fi, .int .i64 G.tm, .int .i64 G.ht, .int .i64 G.hv, .int .i64 G.hc, .slice A1 G.l.length c1] 26))) := ⟨(by have hq := BlkG.new G A1 c1 w2; rw [HSn8.out] at hq; exact hq : BlkG G A1 c1 n8 (w2.alloc (.cells #[.int .i64 G.id, .int .i64 G.fi, .int .i64 G.tm, .int .i64 G.ht, .int .i64 G.hv, .int .i64 G.hc, .slice A1 G.l.length c1] 26)))⟩
 obtain ⟨W1, hW1⟩ : ∃ W, w2.alloc (.cells #[.int .i64 G.id, .int .i64 G.fi, .int .i64 G.tm, .int .i64 G.ht, .int .i64 G.hv, .int .i64 G.hc, .slice A1 G.l.length c1] 26) = W := ⟨_, rfl⟩
 rw [hW1] at HB HR1 HG ⊢
 clear hW1
 clear hn8
 obtain ⟨hg0, hg1, hg2, hg3, hg4, hg5, hg6⟩ := HG.out.box
 have hC6 := HC6.out
 simp only [Try.f7] at hC6
 subst hC6
 clear HC6
 obtain ⟨C7, hC7⟩ : ∃ C, (match Try.f7.body with | some (.seq _ (.seq _ (.seq _ (.seq _ (.seq _ (.seq _ c)))))) => c | _ => .skip) = C := ⟨_, rfl⟩
 have HC7 := Aside0.mk hC7
 simp only [Try.f7] at hC7
 rw [hC7]
 clear hC7
 go_wp2_with fail
 try rw [HE3.out]
 clear hg0 hg1 hg2 hg3 hg4 hg5 hg6
 obtain ⟨nX, hXB⟩ : ∃ n, W1.heap.size = n := ⟨_, rfl⟩
 have hXB2 : W1.drew.heap.size = nX := hXB
 replace HB := ldB HB
 replace HR1 := ldR HR1
 replace HG := ldG HG
 refine start_ (n := 14) (S := (fun w' => BoxG G A1 c1 n8 w')) (ds := [12]) #[false,false,false,false,false,false,false,false,false,false,false,false,false,false] (by kernel_rfl) rfl rfl HG.out.box (fun hHeld => ?_)
 refine take_ (i := 0) (N := some 42) (v := ?_) (a' := ?_) #[true,false,false,false,false,false,false,false,false,false,false,false,false,false] rfl rfl (by kernel_rfl) (fun _ _ _ h => h) (Or.inl ⟨by rfl, ?_⟩) hHeld ?_ ?_
 rotate_left
 · rintro w' ⟨hg0, hg1, hg2, hg3, hg4, hg5, hg6⟩
   go_simp
   try with_reducible rfl
 rotate_left
 · simp only [Act.put, sA, sB, sC]
   rfl
 refine pure_ (i := 1) (N := some 43) (v := ?_) (a' := ?_) #[true,true,false,false,false,false,false,false,false,false,false,false,false,false] rfl rfl (by kernel_rfl) (fun _ _ _ h => h) (Or.inl ⟨by rfl, ?_⟩) ?_ ?_
 rotate_left
 · intro w'
   go_simp
   try with_reducible rfl
 rotate_left
 · simp only [Act.put, sA, sB, sC]
   rfl
 refine pure_ (i := 2) (N := some 44) (v := ?_) (a' := ?_) #[true,true,true,false,false,false,false,false,false,false,false,false,false,false] rfl rfl (by kernel_rfl) (fun _ _ _ h => h) (Or.inl ⟨by rfl, ?_⟩) ?_ ?_
 rotate_left
 · intro w'
   go_simp
   try with_reducible rfl
 rotate_left
 · simp only [Act.put, sA, sB, sC]
   rfl
 refine pure_ (i := 3) (N := some 45) (v := ?_) (a' := ?_) #[true,true,true,true,false,false,false,false,false,false,false,false,false,false] rfl rfl (by kernel_rfl) (fun _ _ _ h => h) (Or.inl ⟨by rfl, ?_⟩) ?_ ?_
 rotate_left
 · intro w'
   go_simp
   try with_reducible rfl
 rotate_left
 · simp only [Act.put, sA, sB, sC]
   rfl
 refine pure_ (i := 4) (N := some 46) (v := ?_) (a' := ?_) #[true,true,true,true,true,false,false,false,false,false,false,false,false,false] rfl rfl (by kernel_rfl) (fun _ _ _ h => h) (Or.inl ⟨by rfl, ?_⟩) ?_ ?_
 rotate_left
 · intro w'
   go_simp
   try with_reducible rfl
 rotate_left
 · simp only [Act.put, sA, sB, sC]
   rfl
 refine pure_ (i := 5) (N := some 47) (v := ?_) (a' := ?_) #[true,true,true,true,true,true,false,false,false,false,false,false,false,false] rfl rfl (by kernel_rfl) (fun _ _ _ h => h) (Or.inl ⟨by rfl, ?_⟩) ?_ ?_
 rotate_left
 · intro w'
   go_simp
   try with_reducible rfl
 rotate_left
 · simp only [Act.put, sA, sB, sC]
   rfl
 refine two_ (i := 6) (j := 11) (Ni := some 48) (Nj := some 14) #[true,true,true,true,true,true,true,false,false,false,false,false,false,false] #[true,true,true,true,true,true,false,false,false,false,false,true,false,false] rfl rfl rfl rfl (by kernel_rfl) (by decide) (by decide) (fun K hK => ?_) (fun K hK => ?_)
 · go_simp
   refine (appc 5 (I : Int) (t + 50) M _ (by have := HN.out; omega) (by have := HN.out; omega) JP.out rfl).mono ?_; rintro e w41 ⟨Ap, cp, rfl, hrd, hw⟩; have HRP := Aside0.mk hrd; replace HB := lbB HB hw; replace HR1 := lbR HR1 hw; replace HG := lbG HG hw; clear hrd hw
   refine hK.out _ _ ?_ (fun hHeld => ?_)
   · exact HG.out.box
   clear hK K
   try simp only [Act.put, sA, sB, sC]
   obtain ⟨nX, hXw41⟩ : ∃ n, w41.heap.size = n := ⟨_, rfl⟩
   refine two_ (i := 7) (j := 11) (Ni := some 49) (Nj := some 14) #[true,true,true,true,true,true,true,true,false,false,false,false,false,false] #[true,true,true,true,true,true,true,false,false,false,false,true,false,false] rfl rfl rfl rfl (by kernel_rfl) (by decide) (by decide) (fun K hK => ?_) (fun K hK => ?_)
   · go_simp
     refine (gdo_calls G A1 c1 P Ap cp _ HR1.out HRP.out LP.out K1.out.1 K1.out.2).mono ?_; rintro e w42 ⟨A9, c9, rfl, hrd, hw⟩; have HR9 := Aside0.mk hrd; replace HB := lbB HB hw; replace HR1 := lbR HR1 hw; replace HG := lbG HG hw; clear hrd hw
     refine hK.out _ _ ?_ (fun hHeld => ?_)
     · exact HG.out.box
     clear hK K
     try simp only [Act.put, sA, sB, sC]
     clear hXw41
     obtain ⟨nX, hXw42⟩ : ∃ n, w42.heap.size = n := ⟨_, rfl⟩
     refine pure_ (i := 8) (N := some 41) (v := ?_) (a' := ?_) #[true,true,true,true,true,true,true,true,true,false,false,false,false,false] rfl rfl (by kernel_rfl) (fun _ _ _ h => h) (Or.inl ⟨by rfl, ?_⟩) ?_ ?_
     rotate_left
     · intro w'
       go_simp
       try with_reducible rfl
     rotate_left
     · simp only [Act.put, sA, sB, sC]
       rfl
     refine pure_ (i := 9) (N := some 50) (v := ?_) (a' := ?_) #[true,true,true,true,true,true,true,true,true,true,false,false,false,false] rfl rfl (by kernel_rfl) (fun _ _ _ h => h) (Or.inl ⟨by rfl, ?_⟩) ?_ ?_
     rotate_left
     · intro w'
       go_simp
       try with_reducible rfl
     rotate_left
     · simp only [Act.put, sA, sB, sC]
       rfl
     refine pure_ (i := 10) (N := some 51) (v := ?_) (a' := ?_) #[true,true,true,true,true,true,true,true,true,true,true,false,false,false] rfl rfl (by kernel_rfl) (fun _ _ _ h => h) (Or.inl ⟨by rfl, ?_⟩) ?_ ?_
     rotate_left
     · intro w'
       go_simp
       try with_reducible rfl
     rotate_left
     · simp only [Act.put, sA, sB, sC]
       rfl
     refine one_ (i := 11) (N := some 14) #[true,true,true,true,true,true,true,true,true,true,true,true,false,false] rfl rfl (by kernel_rfl) (by decide) (fun K hK => ?_)
     go_simp
     refine hK.out _ _ ?_ (fun hHeld => ?_)
     · exact (laG HG (.cells #[.int .i64 0, .int .i64 0, .int .i64 0, .int .i64 0, .int .i64 0, .int .i64 0, .slice none 0 0] 26)).out.box
     clear hK K
     try simp only [Act.put, sA, sB, sC]
     have HX : Aside0 (BlkG ⟨0, 0, 0, 0, 0, 0, []⟩ none 0 nX (w42.alloc (.cells #[.int .i64 0, .int .i64 0, .int .i64 0, .int .i64 0, .int .i64 0, .int .i64 0, .slice none 0 0] 26))) := ⟨by have hq := BlkG.new ⟨0, 0, 0, 0, 0, 0, []⟩ none 0 w42; rw [hXw42] at hq; exact hq⟩
     have ltHG : n8 < nX := by rw [← hXw42]; exact (Array.getElem?_eq_some_iff.1 HG.out).1
     have ltB : w.heap.size ≤ nX := by rw [← hXw42]; exact HB.out.b.size
     replace HB := laB HB (.cells #[.int .i64 0, .int .i64 0, .int .i64 0, .int .i64 0, .int .i64 0, .int .i64 0, .slice none 0 0] 26)
     replace HR1 := laR HR1 (.cells #[.int .i64 0, .int .i64 0, .int .i64 0, .int .i64 0, .int .i64 0, .int .i64 0, .slice none 0 0] 26)
     replace HG := laG HG (.cells #[.int .i64 0, .int .i64 0, .int .i64 0, .int .i64 0, .int .i64 0, .int .i64 0, .slice none 0 0] 26)
     replace HR9 := laR HR9 (.cells #[.int .i64 0, .int .i64 0, .int .i64 0, .int .i64 0, .int .i64 0, .int .i64 0, .slice none 0 0] 26)
     clear hXw42
     obtain ⟨w42, hW3⟩ : ∃ W, w42.alloc (.cells #[.int .i64 0, .int .i64 0, .int .i64 0, .int .i64 0, .int .i64 0, .int .i64 0, .slice none 0 0] 26) = W := ⟨_, rfl⟩
     rw [hW3] at HB HR1 HG HR9 HX ⊢
     clear hW3
     obtain ⟨x0, x1, x2, x3, x4, x5, x6⟩ := HX.out.box
     have xf := HX.out.free
     refine last_ (i := 12) (N := none) #[true,true,true,true,true,true,true,true,true,true,true,true,true,false] rfl rfl (by kernel_rfl) (by decide) (fun K hK => ?_)
     go_simp
     refine hK.out _ _ ?_
     clear hK K
     try simp only [Act.put, sA, sB, sC]
     refine pure_ (i := 13) (N := some 15) (v := ?_) (a' := ?_) #[true,true,true,true,true,true,true,true,true,true,true,true,true,true] rfl rfl (by kernel_rfl) (fun _ _ _ h => h) (Or.inl ⟨by rfl, ?_⟩) ?_ ?_
     rotate_left
     · intro w'
       go_simp
       try with_reducible rfl
     rotate_left
     · simp only [Act.put, sA, sB, sC]
       rfl
     refine done_ (by kernel_rfl) ?_
     clear x0 x1 x2 x3 x4 x5 x6 xf
     have hx := only_store H A9 c9 nX w42
     replace HB := Aside0.mk (Bel.only HB.out hx (fun q hq h => by have h2 : q = nX := h; omega))
     replace HR1 := Aside0.mk (Rd.only HR1.out hx (fun q hq h => by have h3 : q = nX := h; subst h3; exact Rd.apartG HR1.out HX.out hq))
     replace HG := Aside0.mk (BlkG.only HG.out hx (fun h => by have h2 : n8 = nX := h; omega))
     replace HR9 := Aside0.mk (Rd.only HR9.out hx (fun q hq h => by have h3 : q = nX := h; subst h3; exact Rd.apartG HR9.out HX.out hq))
     replace HX := Aside0.mk (BlkG.store (g := H) (A := A9) (c := c9) HX.out)
     clear hx
     obtain ⟨W55, hW55⟩ : ∃ W, (((((((w42.setCell ⟨nX, 0, none⟩ (.int .i64 H.id)).setCell ⟨nX, 1, none⟩ (.int .i64 H.fi)).setCell ⟨nX, 2, none⟩ (.int .i64 H.tm)).setCell ⟨nX, 3, none⟩ (.int .i64 H.ht)).setCell ⟨nX, 4, none⟩ (.int .i64 H.hv)).setCell ⟨nX, 5, none⟩ (.int .i64 H.hc)).setCell ⟨nX, 6, none⟩ (.slice A9 H.l.length c9)) = W := ⟨_, rfl⟩
     rw [hW55] at HB HR1 HG HR9 HX ⊢
     clear hW55
     obtain ⟨hg0, hg1, hg2, hg3, hg4, hg5, hg6⟩ := HG.out.box
     obtain ⟨hx0, hx1, hx2, hx3, hx4, hx5, hx6⟩ := HX.out.box
     go_wp2_with fail
     have hC7 := HC7.out
     simp only [Try.f7] at hC7
     subst hC7
     clear HC7
     obtain ⟨C8, hC8⟩ : ∃ C, (match Try.f7.body with | some (.seq _ (.seq _ (.seq _ (.seq _ (.seq _ (.seq _ (.seq _ c))))))) => c | _ => .skip) = C := ⟨_, rfl⟩
     have HC8 := Aside0.mk hC8
     simp only [Try.f7] at hC8
     rw [hC8]
     clear hC8
     go_wp2_with fail
     go_at_call 25
     refine (glast_calls H A9 c9 _ HR9.out KL.out).mono ?_
     rintro e w3 ⟨rfl, hw3⟩
     replace HB := lbB HB hw3
     replace HR1 := lbR HR1 hw3
     replace HG := lbG HG hw3
     replace HR9 := lbR HR9 hw3
     replace HX := lbG HX hw3
     clear hw3
     clear hg0 hg1 hg2 hg3 hg4 hg5 hg6 hx0 hx1 hx2 hx3 hx4 hx5 hx6
     obtain ⟨hg0, hg1, hg2, hg3, hg4, hg5, hg6⟩ := HG.out.box
     obtain ⟨hx0, hx1, hx2, hx3, hx4, hx5, hx6⟩ := HX.out.box
     go_wp2_with fail
     go_at_call 25
     refine (glast_calls G A1 c1 _ HR1.out KG.out).mono ?_
     rintro e w4 ⟨rfl, hw4⟩
     replace HB := lbB HB hw4
     replace HR1 := lbR HR1 hw4
     replace HG := lbG HG hw4
     replace HR9 := lbR HR9 hw4
     replace HX := lbG HX hw4
     clear hw4
     clear hg0 hg1 hg2 hg3 hg4 hg5 hg6 hx0 hx1 hx2 hx3 hx4 hx5 hx6
     obtain ⟨hg0, hg1, hg2, hg3, hg4, hg5, hg6⟩ := HG.out.box
     obtain ⟨hx0, hx1, hx2, hx3, hx4, hx5, hx6⟩ := HX.out.box
     go_wp2_with fail
     have hC8 := HC8.out
     simp only [Try.f7] at hC8
     subst hC8
     clear HC8
     clear hg0 hg1 hg2 hg3 hg4 hg5 hg6 hx0 hx1 hx2 hx3 hx4 hx5 hx6
     have HI1 : Aside0 (ConI H A9 c9 nX w w4) := ⟨⟨HX.out, HR9.out, HB.out⟩⟩
     clear HX HR9 HB HG HR1
     go_wp2_with fail
     go_loopw [16] (fun v wr => ∃ j : Nat, 1 ≤ j ∧ j ≤ L + 1 ∧ v = .int .i64 (j : Int) ∧ Aside0 (ConI H A9 c9 nX w wr)) (fun v _ => L + 1 - (intOf v).toNat)
     case atStart => exact ⟨1, Nat.le_refl _, by omega, rfl, HI1⟩
     case round =>
       obtain ⟨j, hj1, hj2, rfl, HI⟩ := hrel
       obtain ⟨hx, hr, hb⟩ := HI.out
       have HX := Aside0.mk hx
       have HR9 := Aside0.mk hr
       have HB := Aside0.mk hb
       clear HI hx hr hb HI1
       obtain ⟨hx0, hx1, hx2, hx3, hx4, hx5, hx6⟩ := HX.out.box
       have hn12 := HN.out
       go_wp2_with fail
       go_at_call 25
       refine (glast_calls H A9 c9 _ HR9.out KL.out).mono ?_
       rintro e w61 ⟨rfl, hw61⟩
       replace HX := lbG HX hw61
       replace HR9 := lbR HR9 hw61
       replace HB := lbB HB hw61
       clear hw61
       clear hx0 hx1 hx2 hx3 hx4 hx5 hx6
       obtain ⟨hx0, hx1, hx2, hx3, hx4, hx5, hx6⟩ := HX.out.box
       by_cases hlt : j ≤ L
       · have d1 : decide ((j : Int) ≤ (L : Int)) = true := decide_eq_true (by omega)
         have d4 : IntKind.i64.wrap ((j : Int) + 1) = (j : Int) + 1 := wrI ⟨by omega, by omega⟩
         have hT := KT.out (j : Int) (by omega) (by omega)
         by_cases hge : (I : Int) ≤ (j : Int)
         · rw [if_pos hge] at hT
           have HT := Aside0.mk hT
           have d2 : decide ((I : Int) ≤ (j : Int)) = true := decide_eq_true hge
           have d3 : decide ((j : Int) ≥ (I : Int)) = true := d2
           have d5 : decide (I ≤ j) = true := decide_eq_true (by omega)
           clear hT hge
           go_wp2_with fail
           go_at_call 27
           refine (gterm_calls H A9 c9 (j : Int) _ HR9.out KD.out HT.out).mono ?_
           rintro e w71 ⟨rfl, hw71⟩
           replace HX := lbG HX hw71
           replace HR9 := lbR HR9 hw71
           replace HB := lbB HB hw71
           clear hw71
           clear hx0 hx1 hx2 hx3 hx4 hx5 hx6
           obtain ⟨hx0, hx1, hx2, hx3, hx4, hx5, hx6⟩ := HX.out.box
           go_wp2_with fail
           go_roundw
           case rel => exact ⟨j + 1, by omega, by omega, by go_num, ⟨HX.out, HR9.out, HB.out⟩⟩
           case measure => simp [intOf]; omega
         · rw [if_neg hge] at hT
           have HT := Aside0.mk hT
           have d2 : decide ((I : Int) ≤ (j : Int)) = false := decide_eq_false hge
           have d3 : decide ((j : Int) ≥ (I : Int)) = false := d2
           have d5 : decide (I ≤ j) = false := decide_eq_false (by omega)
           clear hT hge
           go_wp2_with fail
           go_at_call 27
           refine (gterm_calls H A9 c9 (j : Int) _ HR9.out KD.out HT.out).mono ?_
           rintro e w71 ⟨rfl, hw71⟩
           replace HX := lbG HX hw71
           replace HR9 := lbR HR9 hw71
           replace HB := lbB HB hw71
           clear hw71
           clear hx0 hx1 hx2 hx3 hx4 hx5 hx6
           obtain ⟨hx0, hx1, hx2, hx3, hx4, hx5, hx6⟩ := HX.out.box
           go_wp2_with fail
           go_roundw
           case rel => exact ⟨j + 1, by omega, by omega, by go_num, ⟨HX.out, HR9.out, HB.out⟩⟩
           case measure => simp [intOf]; omega
       · have d1 : decide ((j : Int) ≤ (L : Int)) = false := decide_eq_false (by omega)
         go_wp2_with fail
         go_ret
         exact ⟨rfl, HB.out.b⟩
   · go_simp
     refine hK.out _ _ ?_ (fun hHeld => ?_)
     · exact (laG HG (.cells #[.int .i64 0, .int .i64 0, .int .i64 0, .int .i64 0, .int .i64 0, .int .i64 0, .slice none 0 0] 26)).out.box
     clear hK K
     try simp only [Act.put, sA, sB, sC]
     have HX : Aside0 (BlkG ⟨0, 0, 0, 0, 0, 0, []⟩ none 0 nX (w41.alloc (.cells #[.int .i64 0, .int .i64 0, .int .i64 0, .int .i64 0, .int .i64 0, .int .i64 0, .slice none 0 0] 26))) := ⟨by have hq := BlkG.new ⟨0, 0, 0, 0, 0, 0, []⟩ none 0 w41; rw [hXw41] at hq; exact hq⟩
     have ltHG : n8 < nX := by rw [← hXw41]; exact (Array.getElem?_eq_some_iff.1 HG.out).1
     have ltB : w.heap.size ≤ nX := by rw [← hXw41]; exact HB.out.b.size
     replace HB := laB HB (.cells #[.int .i64 0, .int .i64 0, .int .i64 0, .int .i64 0, .int .i64 0, .int .i64 0, .slice none 0 0] 26)
     replace HR1 := laR HR1 (.cells #[.int .i64 0, .int .i64 0, .int .i64 0, .int .i64 0, .int .i64 0, .int .i64 0, .slice none 0 0] 26)
     replace HG := laG HG (.cells #[.int .i64 0, .int .i64 0, .int .i64 0, .int .i64 0, .int .i64 0, .int .i64 0, .slice none 0 0] 26)
     replace HRP := laR HRP (.cells #[.int .i64 0, .int .i64 0, .int .i64 0, .int .i64 0, .int .i64 0, .int .i64 0, .slice none 0 0] 26)
     clear hXw41
     refine one_ (i := 7) (N := some 49) #[true,true,true,true,true,true,true,true,false,false,false,true,false,false] rfl rfl (by kernel_rfl) (by decide) (fun K hK => ?_)
     go_simp
     refine (gdo_calls G A1 c1 P Ap cp _ HR1.out HRP.out LP.out K1.out.1 K1.out.2).mono ?_; rintro e w42 ⟨A9, c9, rfl, hrd, hw⟩; have HR9 := Aside0.mk hrd; replace HB := lbB HB hw; replace HR1 := lbR HR1 hw; replace HG := lbG HG hw; replace HX := lbG HX hw; clear hrd hw
     refine hK.out _ _ ?_ (fun hHeld => ?_)
     · exact HG.out.box
     clear hK K
     try simp only [Act.put, sA, sB, sC]
     obtain ⟨x0, x1, x2, x3, x4, x5, x6⟩ := HX.out.box
     have xf := HX.out.free
     refine pure_ (i := 8) (N := some 41) (v := ?_) (a' := ?_) #[true,true,true,true,true,true,true,true,true,false,false,true,false,false] rfl rfl (by kernel_rfl) (fun _ _ _ h => h) (Or.inl ⟨by rfl, ?_⟩) ?_ ?_
     rotate_left
     · intro w'
       go_simp
       try with_reducible rfl
     rotate_left
     · simp only [Act.put, sA, sB, sC]
       rfl
     refine pure_ (i := 9) (N := some 50) (v := ?_) (a' := ?_) #[true,true,true,true,true,true,true,true,true,true,false,true,false,false] rfl rfl (by kernel_rfl) (fun _ _ _ h => h) (Or.inl ⟨by rfl, ?_⟩) ?_ ?_
     rotate_left
     · intro w'
       go_simp
       try with_reducible rfl
     rotate_left
     · simp only [Act.put, sA, sB, sC]
       rfl
     refine pure_ (i := 10) (N := some 51) (v := ?_) (a' := ?_) #[true,true,true,true,true,true,true,true,true,true,true,true,false,false] rfl rfl (by kernel_rfl) (fun _ _ _ h => h) (Or.inl ⟨by rfl, ?_⟩) ?_ ?_
     rotate_left
     · intro w'
       go_simp
       try with_reducible rfl
     rotate_left
     · simp only [Act.put, sA, sB, sC]
       rfl
     refine last_ (i := 12) (N := none) #[true,true,true,true,true,true,true,true,true,true,true,true,true,false] rfl rfl (by kernel_rfl) (by decide) (fun K hK => ?_)
     go_simp
     refine hK.out _ _ ?_
     clear hK K
     try simp only [Act.put, sA, sB, sC]
     refine pure_ (i := 13) (N := some 15) (v := ?_) (a' := ?_) #[true,true,true,true,true,true,true,true,true,true,true,true,true,true] rfl rfl (by kernel_rfl) (fun _ _ _ h => h) (Or.inl ⟨by rfl, ?_⟩) ?_ ?_
     rotate_left
     · intro w'
       go_simp
       try with_reducible rfl
     rotate_left
     · simp only [Act.put, sA, sB, sC]
       rfl
     refine done_ (by kernel_rfl) ?_
     clear x0 x1 x2 x3 x4 x5 x6 xf
     have hx := only_store H A9 c9 nX w42
     replace HB := Aside0.mk (Bel.only HB.out hx (fun q hq h => by have h2 : q = nX := h; omega))
     replace HR1 := Aside0.mk (Rd.only HR1.out hx (fun q hq h => by have h3 : q = nX := h; subst h3; exact Rd.apartG HR1.out HX.out hq))
     replace HG := Aside0.mk (BlkG.only HG.out hx (fun h => by have h2 : n8 = nX := h; omega))
     replace HR9 := Aside0.mk (Rd.only HR9.out hx (fun q hq h => by have h3 : q = nX := h; subst h3; exact Rd.apartG HR9.out HX.out hq))
     replace HX := Aside0.mk (BlkG.store (g := H) (A := A9) (c := c9) HX.out)
     clear hx
     obtain ⟨W55, hW55⟩ : ∃ W, (((((((w42.setCell ⟨nX, 0, none⟩ (.int .i64 H.id)).setCell ⟨nX, 1, none⟩ (.int .i64 H.fi)).setCell ⟨nX, 2, none⟩ (.int .i64 H.tm)).setCell ⟨nX, 3, none⟩ (.int .i64 H.ht)).setCell ⟨nX, 4, none⟩ (.int .i64 H.hv)).setCell ⟨nX, 5, none⟩ (.int .i64 H.hc)).setCell ⟨nX, 6, none⟩ (.slice A9 H.l.length c9)) = W := ⟨_, rfl⟩
     rw [hW55] at HB HR1 HG HR9 HX ⊢
     clear hW55
     obtain ⟨hg0, hg1, hg2, hg3, hg4, hg5, hg6⟩ := HG.out.box
     obtain ⟨hx0, hx1, hx2, hx3, hx4, hx5, hx6⟩ := HX.out.box
     go_wp2_with fail
     have hC7 := HC7.out
     simp only [Try.f7] at hC7
     subst hC7
     clear HC7
     obtain ⟨C8, hC8⟩ : ∃ C, (match Try.f7.body with | some (.seq _ (.seq _ (.seq _ (.seq _ (.seq _ (.seq _ (.seq _ c))))))) => c | _ => .skip) = C := ⟨_, rfl⟩
     have HC8 := Aside0.mk hC8
     simp only [Try.f7] at hC8
     rw [hC8]
     clear hC8
     go_wp2_with fail
     go_at_call 25
     refine (glast_calls H A9 c9 _ HR9.out KL.out).mono ?_
     rintro e w3 ⟨rfl, hw3⟩
     replace HB := lbB HB hw3
     replace HR1 := lbR HR1 hw3
     replace HG := lbG HG hw3
     replace HR9 := lbR HR9 hw3
     replace HX := lbG HX hw3
     clear hw3
     clear hg0 hg1 hg2 hg3 hg4 hg5 hg6 hx0 hx1 hx2 hx3 hx4 hx5 hx6
     obtain ⟨hg0, hg1, hg2, hg3, hg4, hg5, hg6⟩ := HG.out.box
     obtain ⟨hx0, hx1, hx2, hx3, hx4, hx5, hx6⟩ := HX.out.box
     go_wp2_with fail
     go_at_call 25
     refine (glast_calls G A1 c1 _ HR1.out KG.out).mono ?_
     rintro e w4 ⟨rfl, hw4⟩
     replace HB := lbB HB hw4
     replace HR1 := lbR HR1 hw4
     replace HG := lbG HG hw4
     replace HR9 := lbR HR9 hw4
     replace HX := lbG HX hw4
     clear hw4
     clear hg0 hg1 hg2 hg3 hg4 hg5 hg6 hx0 hx1 hx2 hx3 hx4 hx5 hx6
     obtain ⟨hg0, hg1, hg2, hg3, hg4, hg5, hg6⟩ := HG.out.box
     obtain ⟨hx0, hx1, hx2, hx3, hx4, hx5, hx6⟩ := HX.out.box
     go_wp2_with fail
     have hC8 := HC8.out
     simp only [Try.f7] at hC8
     subst hC8
     clear HC8
     clear hg0 hg1 hg2 hg3 hg4 hg5 hg6 hx0 hx1 hx2 hx3 hx4 hx5 hx6
     have HI1 : Aside0 (ConI H A9 c9 nX w w4) := ⟨⟨HX.out, HR9.out, HB.out⟩⟩
     clear HX HR9 HB HG HR1
     go_wp2_with fail
     go_loopw [16] (fun v wr => ∃ j : Nat, 1 ≤ j ∧ j ≤ L + 1 ∧ v = .int .i64 (j : Int) ∧ Aside0 (ConI H A9 c9 nX w wr)) (fun v _ => L + 1 - (intOf v).toNat)
     case atStart => exact ⟨1, Nat.le_refl _, by omega, rfl, HI1⟩
     case round =>
       obtain ⟨j, hj1, hj2, rfl, HI⟩ := hrel
       obtain ⟨hx, hr, hb⟩ := HI.out
       have HX := Aside0.mk hx
       have HR9 := Aside0.mk hr
       have HB := Aside0.mk hb
       clear HI hx hr hb HI1
       obtain ⟨hx0, hx1, hx2, hx3, hx4, hx5, hx6⟩ := HX.out.box
       have hn12 := HN.out
       go_wp2_with fail
       go_at_call 25
       refine (glast_calls H A9 c9 _ HR9.out KL.out).mono ?_
       rintro e w61 ⟨rfl, hw61⟩
       replace HX := lbG HX hw61
       replace HR9 := lbR HR9 hw61
       replace HB := lbB HB hw61
       clear hw61
       clear hx0 hx1 hx2 hx3 hx4 hx5 hx6
       obtain ⟨hx0, hx1, hx2, hx3, hx4, hx5, hx6⟩ := HX.out.box
       by_cases hlt : j ≤ L
       · have d1 : decide ((j : Int) ≤ (L : Int)) = true := decide_eq_true (by omega)
         have d4 : IntKind.i64.wrap ((j : Int) + 1) = (j : Int) + 1 := wrI ⟨by omega, by omega⟩
         have hT := KT.out (j : Int) (by omega) (by omega)
         by_cases hge : (I : Int) ≤ (j : Int)
         · rw [if_pos hge] at hT
           have HT := Aside0.mk hT
           have d2 : decide ((I : Int) ≤ (j : Int)) = true := decide_eq_true hge
           have d3 : decide ((j : Int) ≥ (I : Int)) = true := d2
           have d5 : decide (I ≤ j) = true := decide_eq_true (by omega)
           clear hT hge
           go_wp2_with fail
           go_at_call 27
           refine (gterm_calls H A9 c9 (j : Int) _ HR9.out KD.out HT.out).mono ?_
           rintro e w71 ⟨rfl, hw71⟩
           replace HX := lbG HX hw71
           replace HR9 := lbR HR9 hw71
           replace HB := lbB HB hw71
           clear hw71
           clear hx0 hx1 hx2 hx3 hx4 hx5 hx6
           obtain ⟨hx0, hx1, hx2, hx3, hx4, hx5, hx6⟩ := HX.out.box
           go_wp2_with fail
           go_roundw
           case rel => exact ⟨j + 1, by omega, by omega, by go_num, ⟨HX.out, HR9.out, HB.out⟩⟩
           case measure => simp [intOf]; omega
         · rw [if_neg hge] at hT
           have HT := Aside0.mk hT
           have d2 : decide ((I : Int) ≤ (j : Int)) = false := decide_eq_false hge
           have d3 : decide ((j : Int) ≥ (I : Int)) = false := d2
           have d5 : decide (I ≤ j) = false := decide_eq_false (by omega)
           clear hT hge
           go_wp2_with fail
           go_at_call 27
           refine (gterm_calls H A9 c9 (j : Int) _ HR9.out KD.out HT.out).mono ?_
           rintro e w71 ⟨rfl, hw71⟩
           replace HX := lbG HX hw71
           replace HR9 := lbR HR9 hw71
           replace HB := lbB HB hw71
           clear hw71
           clear hx0 hx1 hx2 hx3 hx4 hx5 hx6
           obtain ⟨hx0, hx1, hx2, hx3, hx4, hx5, hx6⟩ := HX.out.box
           go_wp2_with fail
           go_roundw
           case rel => exact ⟨j + 1, by omega, by omega, by go_num, ⟨HX.out, HR9.out, HB.out⟩⟩
           case measure => simp [intOf]; omega
       · have d1 : decide ((j : Int) ≤ (L : Int)) = false := decide_eq_false (by omega)
         go_wp2_with fail
         go_ret
         exact ⟨rfl, HB.out.b⟩
 · go_simp
   refine hK.out _ _ ?_ (fun hHeld => ?_)
   · exact (laG HG (.cells #[.int .i64 0, .int .i64 0, .int .i64 0, .int .i64 0, .int .i64 0, .int .i64 0, .slice none 0 0] 26)).out.box
   clear hK K
   try simp only [Act.put, sA, sB, sC]
   have HX : Aside0 (BlkG ⟨0, 0, 0, 0, 0, 0, []⟩ none 0 nX (W1.drew.alloc (.cells #[.int .i64 0, .int .i64 0, .int .i64 0, .int .i64 0, .int .i64 0, .int .i64 0, .slice none 0 0] 26))) := ⟨by have hq := BlkG.new ⟨0, 0, 0, 0, 0, 0, []⟩ none 0 W1.drew; rw [hXB2] at hq; exact hq⟩
   have ltHG : n8 < nX := by rw [← hXB2]; exact (Array.getElem?_eq_some_iff.1 HG.out).1
   have ltB : w.heap.size ≤ nX := by rw [← hXB2]; exact HB.out.b.size
   replace HB := laB HB (.cells #[.int .i64 0, .int .i64 0, .int .i64 0, .int .i64 0, .int .i64 0, .int .i64 0, .slice none 0 0] 26)
   replace HR1 := laR HR1 (.cells #[.int .i64 0, .int .i64 0, .int .i64 0, .int .i64 0, .int .i64 0, .int .i64 0, .slice none 0 0] 26)
   replace HG := laG HG (.cells #[.int .i64 0, .int .i64 0, .int .i64 0, .int .i64 0, .int .i64 0, .int .i64 0, .slice none 0 0] 26)
   clear hXB2
   clear hXB
   refine one_ (i := 6) (N := some 48) #[true,true,true,true,true,true,true,false,false,false,false,true,false,false] rfl rfl (by kernel_rfl) (by decide) (fun K hK => ?_)
   go_simp
   refine (appc 5 (I : Int) (t + 50) M _ (by have := HN.out; omega) (by have := HN.out; omega) JP.out rfl).mono ?_; rintro e w41 ⟨Ap, cp, rfl, hrd, hw⟩; have HRP := Aside0.mk hrd; replace HB := lbB HB hw; replace HR1 := lbR HR1 hw; replace HG := lbG HG hw; replace HX := lbG HX hw; clear hrd hw
   refine hK.out _ _ ?_ (fun hHeld => ?_)
   · exact HG.out.box
   clear hK K
   try simp only [Act.put, sA, sB, sC]
   refine one_ (i := 7) (N := some 49) #[true,true,true,true,true,true,true,true,false,false,false,true,false,false] rfl rfl (by kernel_rfl) (by decide) (fun K hK => ?_)
   go_simp
   refine (gdo_calls G A1 c1 P Ap cp _ HR1.out HRP.out LP.out K1.out.1 K1.out.2).mono ?_; rintro e w42 ⟨A9, c9, rfl, hrd, hw⟩; have HR9 := Aside0.mk hrd; replace HB := lbB HB hw; replace HR1 := lbR HR1 hw; replace HG := lbG HG hw; replace HX := lbG HX hw; clear hrd hw
   refine hK.out _ _ ?_ (fun hHeld => ?_)
   · exact HG.out.box
   clear hK K
   try simp only [Act.put, sA, sB, sC]
   obtain ⟨x0, x1, x2, x3, x4, x5, x6⟩ := HX.out.box
   have xf := HX.out.free
   refine pure_ (i := 8) (N := some 41) (v := ?_) (a' := ?_) #[true,true,true,true,true,true,true,true,true,false,false,true,false,false] rfl rfl (by kernel_rfl) (fun _ _ _ h => h) (Or.inl ⟨by rfl, ?_⟩) ?_ ?_
   rotate_left
   · intro w'
     go_simp
     try with_reducible rfl
   rotate_left
   · simp only [Act.put, sA, sB, sC]
     rfl
   refine pure_ (i := 9) (N := some 50) (v := ?_) (a' := ?_) #[true,true,true,true,true,true,true,true,true,true,false,true,false,false] rfl rfl (by kernel_rfl) (fun _ _ _ h => h) (Or.inl ⟨by rfl, ?_⟩) ?_ ?_
   rotate_left
   · intro w'
     go_simp
     try with_reducible rfl
   rotate_left
   · simp only [Act.put, sA, sB, sC]
     rfl
   refine pure_ (i := 10) (N := some 51) (v := ?_) (a' := ?_) #[true,true,true,true,true,true,true,true,true,true,true,true,false,false] rfl rfl (by kernel_rfl) (fun _ _ _ h => h) (Or.inl ⟨by rfl, ?_⟩) ?_ ?_
   rotate_left
   · intro w'
     go_simp
     try with_reducible rfl
   rotate_left
   · simp only [Act.put, sA, sB, sC]
     rfl
   refine last_ (i := 12) (N := none) #[true,true,true,true,true,true,true,true,true,true,true,true,true,false] rfl rfl (by kernel_rfl) (by decide) (fun K hK => ?_)
   go_simp
   refine hK.out _ _ ?_
   clear hK K
   try simp only [Act.put, sA, sB, sC]
   refine pure_ (i := 13) (N := some 15) (v := ?_) (a' := ?_) #[true,true,true,true,true,true,true,true,true,true,true,true,true,true] rfl rfl (by kernel_rfl) (fun _ _ _ h => h) (Or.inl ⟨by rfl, ?_⟩) ?_ ?_
   rotate_left
   · intro w'
     go_simp
     try with_reducible rfl
   rotate_left
   · simp only [Act.put, sA, sB, sC]
     rfl
   refine done_ (by kernel_rfl) ?_
   clear x0 x1 x2 x3 x4 x5 x6 xf
   have hx := only_store H A9 c9 nX w42
   replace HB := Aside0.mk (Bel.only HB.out hx (fun q hq h => by have h2 : q = nX := h; omega))
   replace HR1 := Aside0.mk (Rd.only HR1.out hx (fun q hq h => by have h3 : q = nX := h; subst h3; exact Rd.apartG HR1.out HX.out hq))
   replace HG := Aside0.mk (BlkG.only HG.out hx (fun h => by have h2 : n8 = nX := h; omega))
   replace HR9 := Aside0.mk (Rd.only HR9.out hx (fun q hq h => by have h3 : q = nX := h; subst h3; exact Rd.apartG HR9.out HX.out hq))
   replace HX := Aside0.mk (BlkG.store (g := H) (A := A9) (c := c9) HX.out)
   clear hx
   obtain ⟨W55, hW55⟩ : ∃ W, (((((((w42.setCell ⟨nX, 0, none⟩ (.int .i64 H.id)).setCell ⟨nX, 1, none⟩ (.int .i64 H.fi)).setCell ⟨nX, 2, none⟩ (.int .i64 H.tm)).setCell ⟨nX, 3, none⟩ (.int .i64 H.ht)).setCell ⟨nX, 4, none⟩ (.int .i64 H.hv)).setCell ⟨nX, 5, none⟩ (.int .i64 H.hc)).setCell ⟨nX, 6, none⟩ (.slice A9 H.l.length c9)) = W := ⟨_, rfl⟩
   rw [hW55] at HB HR1 HG HR9 HX ⊢
   clear hW55
   obtain ⟨hg0, hg1, hg2, hg3, hg4, hg5, hg6⟩ := HG.out.box
   obtain ⟨hx0, hx1, hx2, hx3, hx4, hx5, hx6⟩ := HX.out.box
   go_wp2_with fail
   have hC7 := HC7.out
   simp only [Try.f7] at hC7
   subst hC7
   clear HC7
   obtain ⟨C8, hC8⟩ : ∃ C, (match Try.f7.body with | some (.seq _ (.seq _ (.seq _ (.seq _ (.seq _ (.seq _ (.seq _ c))))))) => c | _ => .skip) = C := ⟨_, rfl⟩
   have HC8 := Aside0.mk hC8
   simp only [Try.f7] at hC8
   rw [hC8]
   clear hC8
   go_wp2_with fail
   go_at_call 25
   refine (glast_calls H A9 c9 _ HR9.out KL.out).mono ?_
   rintro e w3 ⟨rfl, hw3⟩
   replace HB := lbB HB hw3
   replace HR1 := lbR HR1 hw3
   replace HG := lbG HG hw3
   replace HR9 := lbR HR9 hw3
   replace HX := lbG HX hw3
   clear hw3
   clear hg0 hg1 hg2 hg3 hg4 hg5 hg6 hx0 hx1 hx2 hx3 hx4 hx5 hx6
   obtain ⟨hg0, hg1, hg2, hg3, hg4, hg5, hg6⟩ := HG.out.box
   obtain ⟨hx0, hx1, hx2, hx3, hx4, hx5, hx6⟩ := HX.out.box
   go_wp2_with fail
   go_at_call 25
   refine (glast_calls G A1 c1 _ HR1.out KG.out).mono ?_
   rintro e w4 ⟨rfl, hw4⟩
   replace HB := lbB HB hw4
   replace HR1 := lbR HR1 hw4
   replace HG := lbG HG hw4
   replace HR9 := lbR HR9 hw4
   replace HX := lbG HX hw4
   clear hw4
   clear hg0 hg1 hg2 hg3 hg4 hg5 hg6 hx0 hx1 hx2 hx3 hx4 hx5 hx6
   obtain ⟨hg0, hg1, hg2, hg3, hg4, hg5, hg6⟩ := HG.out.box
   obtain ⟨hx0, hx1, hx2, hx3, hx4, hx5, hx6⟩ := HX.out.box
   go_wp2_with fail
   have hC8 := HC8.out
   simp only [Try.f7] at hC8
   subst hC8
   clear HC8
   clear hg0 hg1 hg2 hg3 hg4 hg5 hg6 hx0 hx1 hx2 hx3 hx4 hx5 hx6
   have HI1 : Aside0 (ConI H A9 c9 nX w w4) := ⟨⟨HX.out, HR9.out, HB.out⟩⟩
   clear HX HR9 HB HG HR1
   go_wp2_with fail
   go_loopw [16] (fun v wr => ∃ j : Nat, 1 ≤ j ∧ j ≤ L + 1 ∧ v = .int .i64 (j : Int) ∧ Aside0 (ConI H A9 c9 nX w wr)) (fun v _ => L + 1 - (intOf v).toNat)
   case atStart => exact ⟨1, Nat.le_refl _, by omega, rfl, HI1⟩
   case round =>
     obtain ⟨j, hj1, hj2, rfl, HI⟩ := hrel
     obtain ⟨hx, hr, hb⟩ := HI.out
     have HX := Aside0.mk hx
     have HR9 := Aside0.mk hr
     have HB := Aside0.mk hb
     clear HI hx hr hb HI1
     obtain ⟨hx0, hx1, hx2, hx3, hx4, hx5, hx6⟩ := HX.out.box
     have hn12 := HN.out
     go_wp2_with fail
     go_at_call 25
     refine (glast_calls H A9 c9 _ HR9.out KL.out).mono ?_
     rintro e w61 ⟨rfl, hw61⟩
     replace HX := lbG HX hw61
     replace HR9 := lbR HR9 hw61
     replace HB := lbB HB hw61
     clear hw61
     clear hx0 hx1 hx2 hx3 hx4 hx5 hx6
     obtain ⟨hx0, hx1, hx2, hx3, hx4, hx5, hx6⟩ := HX.out.box
     by_cases hlt : j ≤ L
     · have d1 : decide ((j : Int) ≤ (L : Int)) = true := decide_eq_true (by omega)
       have d4 : IntKind.i64.wrap ((j : Int) + 1) = (j : Int) + 1 := wrI ⟨by omega, by omega⟩
       have hT := KT.out (j : Int) (by omega) (by omega)
       by_cases hge : (I : Int) ≤ (j : Int)
       · rw [if_pos hge] at hT
         have HT := Aside0.mk hT
         have d2 : decide ((I : Int) ≤ (j : Int)) = true := decide_eq_true hge
         have d3 : decide ((j : Int) ≥ (I : Int)) = true := d2
         have d5 : decide (I ≤ j) = true := decide_eq_true (by omega)
         clear hT hge
         go_wp2_with fail
         go_at_call 27
         refine (gterm_calls H A9 c9 (j : Int) _ HR9.out KD.out HT.out).mono ?_
         rintro e w71 ⟨rfl, hw71⟩
         replace HX := lbG HX hw71
         replace HR9 := lbR HR9 hw71
         replace HB := lbB HB hw71
         clear hw71
         clear hx0 hx1 hx2 hx3 hx4 hx5 hx6
         obtain ⟨hx0, hx1, hx2, hx3, hx4, hx5, hx6⟩ := HX.out.box
         go_wp2_with fail
         go_roundw
         case rel => exact ⟨j + 1, by omega, by omega, by go_num, ⟨HX.out, HR9.out, HB.out⟩⟩
         case measure => simp [intOf]; omega
       · rw [if_neg hge] at hT
         have HT := Aside0.mk hT
         have d2 : decide ((I : Int) ≤ (j : Int)) = false := decide_eq_false hge
         have d3 : decide ((j : Int) ≥ (I : Int)) = false := d2
         have d5 : decide (I ≤ j) = false := decide_eq_false (by omega)
         clear hT hge
         go_wp2_with fail
         go_at_call 27
         refine (gterm_calls H A9 c9 (j : Int) _ HR9.out KD.out HT.out).mono ?_
         rintro e w71 ⟨rfl, hw71⟩
         replace HX := lbG HX hw71
         replace HR9 := lbR HR9 hw71
         replace HB := lbB HB hw71
         clear hw71
         clear hx0 hx1 hx2 hx3 hx4 hx5 hx6
         obtain ⟨hx0, hx1, hx2, hx3, hx4, hx5, hx6⟩ := HX.out.box
         go_wp2_with fail
         go_roundw
         case rel => exact ⟨j + 1, by omega, by omega, by go_num, ⟨HX.out, HR9.out, HB.out⟩⟩
         case measure => simp [intOf]; omega
     · have d1 : decide ((j : Int) ≤ (L : Int)) = false := decide_eq_false (by omega)
       go_wp2_with fail
       go_ret
       exact ⟨rfl, HB.out.b⟩
end Go.Proofs.Ytlfdmlacadoolaa.PartW
namespace Go.Proofs.Ytlfdmlacadoolaa.Pure
open Go Go.RowKit Go.Proofs.Ytlfdmlacadoolaa.Sp Go.Proofs.Ytlfdmlacadoolaa.PartW
theorem GroupConflicts.walk (n a b t : Int) (w : World) (w0 : (Lit.int .u8 n).wf = true) (w1 : (Lit.int .u8 a).wf = true) (w2 : (Lit.int .u8 b).wf = true) (w3 : (Lit.int .u16 t).wf = true) :
    Calls Try.prog 7 #[.int .u8 n, .int .u8 a, .int .u8 b, .int .u16 t] w fun e w' => e = .returned (.bool true) ∧ Below w.heap.size w w' := by
  have h0 : 0 ≤ n ∧ n < 256 := by simp [Lit.wf, IntKind.min, IntKind.max, IntKind.bits, IntKind.signed] at w0; omega
  have h1 : 0 ≤ a ∧ a < 256 := by simp [Lit.wf, IntKind.min, IntKind.max, IntKind.bits, IntKind.signed] at w1; omega
  have h2 : 0 ≤ b ∧ b < 256 := by simp [Lit.wf, IntKind.min, IntKind.max, IntKind.bits, IntKind.signed] at w2; omega
  have h3 : 0 ≤ t ∧ t < 65536 := by simp [Lit.wf, IntKind.min, IntKind.max, IntKind.bits, IntKind.signed] at w3; omega
  obtain ⟨N, hN1, hN2, hN⟩ : ∃ N : Nat, 1 ≤ N ∧ N ≤ 12 ∧ n % 12 + 1 = (N : Int) := ⟨(n % 12 + 1).toNat, by omega, by omega, by omega⟩
  obtain ⟨M, hM1, hM2, hM⟩ : ∃ M : Nat, 1 ≤ M ∧ M ≤ 6 ∧ b % 6 + 1 = (M : Int) := ⟨(b % 6 + 1).toNat, by omega, by omega, by omega⟩
  have e1 := Int.emod_nonneg a (b := (N : Int) + 1) (by omega)
  have e2 := Int.emod_lt_of_pos a (b := (N : Int) + 1) (by omega)
  obtain ⟨I, hI1, hI2, hI⟩ : ∃ I : Nat, 1 ≤ I ∧ I ≤ N + 1 ∧ a % ((N : Int) + 1) + 1 = (I : Int) := ⟨(a % ((N : Int) + 1) + 1).toNat, by omega, by omega, by omega⟩
  exact conflicts6 n a b t w h0 h1 h2 h3 N I M hN1 hN2 hN hI1 hI2 hI hM1 hM2 hM
end Go.Proofs.Ytlfdmlacadoolaa.Pure
