/- The statement GroupGaps; no condition beyond the row's. -/
import Derived.Test.YtlfdmlacadoolaaSameQ
import Derived.Test.YtlfdmlacadoolaaFew6
import Derived.Test.YtlfdmlacadoolaaGrow
set_option linter.unusedVariables false
set_option linter.unusedSimpArgs false
namespace Go.Proofs.Ytlfdmlacadoolaa.PartW
open Go Go.RowKit Go.Shelf Go.Proofs.Ytlfdmlacadoolaa.A Go.Proofs.Ytlfdmlacadoolaa.Sp Go.Proofs.Ytlfdmlacadoolaa.Reg Go.Proofs.Ytlfdmlacadoolaa.Seq Go.Proofs.YtlfdmlacadoolaaW.PrintWords Go.Proofs.YtlfdmlacadoolaaW.PrintLast Go.Proofs.YtlfdmlacadoolaaW.PrintMore
theorem grown_c (id : Int) (N : Nat) (w : World) (hid : 0 ≤ id ∧ id ≤ 999) (hN : N ≤ 900) {G : Grp} (hG : groG id N = G) : Calls Try.prog 33 #[.int .i64 id, .int .i64 (N : Int)] w fun e w' => ∃ A c, e = .returned (.tuple #[vG G A c, .bool true]) ∧ Rd w' A c G.l ∧ Below w.heap.size w w' := by
  rw [← hG]; exact grown_calls id N w hid hN
theorem gaps_snap {N : Nat} (hN : N ≤ 10) : chwG (groG 5 N) ⟨5, 4, [], 0, 0, 0, 40, 1, false, false⟩ = 0 ∧ dwG (groG 5 N) ⟨5, 4, [], 0, 0, 0, 40, 1, false, false⟩ = ⟨5, 41, 1, 0, 0, 0, []⟩ := by
  have hD := gro_dense (id := 5) (k := N) ⟨by decide, by decide⟩ (by omega)
  have hc : chkG (groG 5 N) ⟨5, 4, [], 0, 0, 0, 40, 1, false, false⟩ = 0 := by
    unfold chkG
    rw [if_pos ⟨by decide, by show ¬ (4 : Int) = 6; decide, by show ¬ (4 : Int) = 5; decide, rfl⟩]
    unfold chkK
    rw [if_neg (by show ¬ (4 : Int) = 1; decide), if_neg (by show ¬ (4 : Int) = 3; decide), if_pos rfl, if_neg (by show ¬ (40 : Int) < 1; decide)]
  refine ⟨by rw [chw_chk hD]; exact hc, ?_⟩
  rw [dw_do hD, if_pos hc]
  unfold doRG
  rw [if_neg (by show ¬ (4 : Int) = 1; decide), if_neg (by show ¬ (4 : Int) = 2; decide), if_neg (by show ¬ (4 : Int) = 3; decide), if_pos rfl]
  have ha : atL (groG 5 N).l 40 = -1 := atL_miss (fun j hj => by rw [gro_len] at hj; rw [gro_el hj]; show (j : Int) + 1 ≠ 40; omega)
  rw [if_neg (by rintro ⟨h, _⟩; dsimp only at h; rw [ha] at h; exact absurd h (by decide))]
  rfl
set_option maxHeartbeats 8000000 in
set_option maxRecDepth 100000 in
theorem gaps6_b14 (n i : Int) (w : World) (h0 : 0 ≤ n ∧ n < 256) (h1 : 0 ≤ i ∧ i < 65536) (N : Nat) (hN1 : 1 ≤ N) (hN2 : N ≤ 10) (hN : n % 10 + 1 = (N : Int)) (hc : (N : Int) + 1 < i + 1) :
  Calls Try.prog 11 #[.int .u8 n, .int .u16 i, .bool false] w fun e w' => e = .returned (.bool true) ∧ Below w.heap.size w w' := by
 have HN := Aside0.mk (And.intro hN1 hN2)
 have HNE := Aside0.mk hN
 obtain ⟨i0, i1⟩ := h0
 obtain ⟨i2, i3⟩ := h1
 obtain ⟨G, hG⟩ : ∃ G, groG 5 N = G := ⟨_, rfl⟩
 have JG := Aside0.mk hG
 obtain ⟨P, hP⟩ : ∃ P, appP 5 (i + 1) 9 1 = P := ⟨_, rfl⟩
 have JP := Aside0.mk hP
 have HAT : Aside0 (-1000000 ≤ i + 1 ∧ i + 1 ≤ 1000000) := ⟨by omega⟩
 have HID : Aside0 ((0 : Int) ≤ 5 ∧ (5 : Int) ≤ 999) := ⟨by decide⟩
 have hwi : IntKind.i64.wrap (i + 1) = i + 1 := by rw [i64_w]; unfold wrap64; omega
 have hwk : IntKind.i64.wrap ((N : Int) + 1) = (N : Int) + 1 := by rw [i64_w]; unfold wrap64; omega
 have hD := gro_dense (id := 5) (k := N) ⟨by decide, by decide⟩ (by omega)
 have hla := gro_last (id := 5) (k := N) ⟨by decide, by decide⟩ (by omega)
 have hck := app_chk (g := groG 5 N) (i := i + 1) (t := 9) (N := 1) hD (by omega) (by omega) (by decide) (by decide) (show (0 : Int) ≤ 5 ∧ (5 : Int) ≤ 999 by decide)
 rw [gro_len] at hck
 change chkG (groG 5 N) (appP 5 (i + 1) 9 1) = if i + 1 < 1 then 15 else if (1 : Int) + (N : Int) - 1 < i + 1 - 1 then 14 else 0 at hck
 have JC : Aside0 (chwG G P = 14) := ⟨by rw [← hG, chw_chk hD, ← hP, hck]; rw [if_neg (by omega), if_pos (by omega)]⟩
 have JL : Aside0 (lastG G = (N : Int)) := ⟨by rw [← hG]; exact hla⟩
 have hfi : G.fi = 1 := by rw [← hG]; rfl
 have j1 : decide (i + 1 < G.fi) = false := decide_eq_false (by rw [hfi]; omega)
 have j2 : decide ((N : Int) + 1 < i + 1) = true := decide_eq_true (by omega)
 clear hD hla hck hfi hG hP hN1 hN2 hN
 go_enter Try.func11, Try.ntmps11
 have HB := Aside0.mk (Bel.refl w)
 obtain ⟨C5, hC5⟩ : ∃ C, (match Try.f11.body with | some (.seq _ (.seq _ (.seq _ (.seq _ c)))) => c | _ => .skip) = C := ⟨_, rfl⟩
 have HC5 := Aside0.mk hC5
 simp only [Try.f11] at hC5
 rw [hC5]
 clear hC5
 go_wp2_with fail
 go_at_call 12
 refine (known6 _).mono ?_
 rintro e w1 ⟨rfl, hw1⟩
 replace HB := lbB HB hw1
 clear hw1
 go_wp2_with fail
 rw [HNE.out]
 go_at_call 33
 refine (grown_c 5 N _ HID.out (by have := HN.out; omega) JG.out).mono ?_
 rintro e w2 ⟨A1, c1, rfl, hrd, hw2⟩
 replace HB := lbB HB hw2
 have HR1 := Aside0.mk (hrd)
 clear hrd
 clear hw2
 obtain ⟨n8, hn8⟩ : ∃ n, w2.heap.size = n := ⟨_, rfl⟩
 have HSn8 := Aside0.mk hn8
 have HS8 : Aside0 (w.heap.size ≤ n8) := ⟨by rw [← hn8]; exact HB.out.b.size⟩
 go_wp2_with fail
 replace HB := laB HB (.cells #[.int .i64 G.id, .int .i64 G.fi, .int .i64 G.tm, .int .i64 G.ht, .int .i64 G.hv, .int .i64 G.hc, .slice A1 G.l.length c1] 26)
 replace HR1 := laR HR1 (.cells #[.int .i64 G.id, .int .i64 G.fi, .int .i64 G.tm, .int .i64 G.ht, .int .i64 G.hv, .int .i64 G.hc, .slice A1 G.l.length c1] 26)
 have HG : Aside0 (BlkG G A1 c1 n8 (w2.alloc (.cells #[.int .i64 G.id, .int .i64 G.fi, .int .i64 G.tm, .int .i64 G.ht, .int .i64 G.hv, .int .i64 G.hc, .slice A1 G.l.length c1] 26))) := ⟨(by have hq := BlkG.new G A1 c1 w2; rw [HSn8.out] at hq; exact hq : BlkG G A1 c1 n8 (w2.alloc (.cells #[.int .i64 G.id, .int .i64 G.fi, .int .i64 G.tm, .int .i64 G.ht, .int .i64 G.hv, .int .i64 G.hc, .slice A1 G.l.length c1] 26)))⟩
 obtain ⟨W1, hW1⟩ : ∃ W, w2.alloc (.cells #[.int .i64 G.id, .int .i64 G.fi, .int .i64 G.tm, .int .i64 G.ht, .int .i64 G.hv, .int .i64 G.hc, .slice A1 G.l.length c1] 26) = W := ⟨_, rfl⟩
 rw [hW1] at HB HR1 HG ⊢
 clear hW1
 clear hn8
 obtain ⟨hg0, hg1, hg2, hg3, hg4, hg5, hg6⟩ := HG.out.box
 have hC5 := HC5.out
 simp only [Try.f11] at hC5
 subst hC5
 clear HC5
 go_wp2_with fail
 clear hg0 hg1 hg2 hg3 hg4 hg5 hg6
 replace HB := ldB HB
 replace HR1 := ldR HR1
 replace HG := ldG HG
 refine start_ (n := 5) (S := (fun w' => BoxG G A1 c1 n8 w')) (ds := []) #[false,false,false,false,false] (by kernel_rfl) rfl rfl HG.out.box (fun hHeld => ?_)
 refine take_ (i := 0) (N := some 39) (v := ?_) (a' := ?_) #[true,false,false,false,false] rfl rfl (by kernel_rfl) (fun _ _ _ h => h) (Or.inl ⟨by rfl, ?_⟩) hHeld ?_ ?_
 rotate_left
 · rintro w' ⟨hg0, hg1, hg2, hg3, hg4, hg5, hg6⟩
   go_simp
   try with_reducible rfl
 rotate_left
 · simp only [Act.put, sA, sB, sC]
   rfl
 refine pure_ (i := 1) (N := some 40) (v := ?_) (a' := ?_) #[true,true,false,false,false] rfl rfl (by kernel_rfl) (fun _ _ _ h => h) (Or.inl ⟨by rfl, ?_⟩) ?_ ?_
 rotate_left
 · intro w'
   go_simp
   try with_reducible rfl
 rotate_left
 · simp only [Act.put, sA, sB, sC]
   rfl
 refine one_ (i := 2) (N := some 41) #[true,true,true,false,false] rfl rfl (by kernel_rfl) (by decide) (fun K hK => ?_)
 go_simp
 refine (appc 5 (i + 1) 9 1 _ (by omega) HAT.out JP.out rfl).mono ?_; rintro e w3 ⟨Ap, cp, rfl, hrd, hw3⟩; replace HB := lbB HB hw3; replace HR1 := lbR HR1 hw3; replace HG := lbG HG hw3; have HRP := Aside0.mk (hrd); clear hrd; clear hw3
 refine hK.out _ _ ?_ (fun hHeld => ?_)
 · exact HG.out.box
 clear hK K
 try simp only [Act.put, sA, sB, sC]
 refine one_ (i := 3) (N := some 42) #[true,true,true,true,false] rfl rfl (by kernel_rfl) (by decide) (fun K hK => ?_)
 go_simp
 refine (gchk_calls G A1 c1 P Ap cp _ HR1.out HRP.out JC.out).mono ?_; rintro e w4 ⟨rfl, hw4⟩; replace HB := lbB HB hw4; replace HR1 := lbR HR1 hw4; replace HG := lbG HG hw4; replace HRP := lbR HRP hw4; clear hw4
 refine hK.out _ _ ?_ (fun hHeld => ?_)
 · exact HG.out.box
 clear hK K
 try simp only [Act.put, sA, sB, sC]
 refine pure_ (i := 4) (N := some 13) (v := ?_) (a' := ?_) #[true,true,true,true,true] rfl rfl (by kernel_rfl) (fun _ _ _ h => h) (Or.inl ⟨by rfl, ?_⟩) ?_ ?_
 rotate_left
 · intro w'
   go_simp
   try with_reducible rfl
 rotate_left
 · simp only [Act.put, sA, sB, sC]
   rfl
 refine done_ (by kernel_rfl) ?_
 clear hHeld
 obtain ⟨hg0, hg1, hg2, hg3, hg4, hg5, hg6⟩ := HG.out.box
 go_wp2_with fail
 go_at_call 25
 refine (glast_calls G A1 c1 _ HR1.out JL.out).mono ?_
 rintro e w5 ⟨rfl, hw5⟩
 replace HB := lbB HB hw5
 replace HR1 := lbR HR1 hw5
 replace HG := lbG HG hw5
 replace HRP := lbR HRP hw5
 clear hw5
 clear hg0 hg1 hg2 hg3 hg4 hg5 hg6
 obtain ⟨hg0, hg1, hg2, hg3, hg4, hg5, hg6⟩ := HG.out.box
 go_wp2_with fail
 go_ret
 exact ⟨rfl, HB.out.b⟩
set_option maxHeartbeats 8000000 in
set_option maxRecDepth 100000 in
theorem gaps6_b0 (n i : Int) (w : World) (h0 : 0 ≤ n ∧ n < 256) (h1 : 0 ≤ i ∧ i < 65536) (N : Nat) (hN1 : 1 ≤ N) (hN2 : N ≤ 10) (hN : n % 10 + 1 = (N : Int)) (hc1 : ¬ i + 1 < 1) (hc2 : ¬ (N : Int) + 1 < i + 1) :
  Calls Try.prog 11 #[.int .u8 n, .int .u16 i, .bool false] w fun e w' => e = .returned (.bool true) ∧ Below w.heap.size w w' := by
 have HN := Aside0.mk (And.intro hN1 hN2)
 have HNE := Aside0.mk hN
 obtain ⟨i0, i1⟩ := h0
 obtain ⟨i2, i3⟩ := h1
 obtain ⟨G, hG⟩ : ∃ G, groG 5 N = G := ⟨_, rfl⟩
 have JG := Aside0.mk hG
 obtain ⟨P, hP⟩ : ∃ P, appP 5 (i + 1) 9 1 = P := ⟨_, rfl⟩
 have JP := Aside0.mk hP
 have HAT : Aside0 (-1000000 ≤ i + 1 ∧ i + 1 ≤ 1000000) := ⟨by omega⟩
 have HID : Aside0 ((0 : Int) ≤ 5 ∧ (5 : Int) ≤ 999) := ⟨by decide⟩
 have hwi : IntKind.i64.wrap (i + 1) = i + 1 := by rw [i64_w]; unfold wrap64; omega
 have hwk : IntKind.i64.wrap ((N : Int) + 1) = (N : Int) + 1 := by rw [i64_w]; unfold wrap64; omega
 have hD := gro_dense (id := 5) (k := N) ⟨by decide, by decide⟩ (by omega)
 have hla := gro_last (id := 5) (k := N) ⟨by decide, by decide⟩ (by omega)
 have hck := app_chk (g := groG 5 N) (i := i + 1) (t := 9) (N := 1) hD (by omega) (by omega) (by decide) (by decide) (show (0 : Int) ≤ 5 ∧ (5 : Int) ≤ 999 by decide)
 rw [gro_len] at hck
 change chkG (groG 5 N) (appP 5 (i + 1) 9 1) = if i + 1 < 1 then 15 else if (1 : Int) + (N : Int) - 1 < i + 1 - 1 then 14 else 0 at hck
 have JC : Aside0 (chwG G P = 0) := ⟨by rw [← hG, chw_chk hD, ← hP, hck]; rw [if_neg (by omega), if_neg (by omega)]⟩
 have JL : Aside0 (lastG G = (N : Int)) := ⟨by rw [← hG]; exact hla⟩
 have hfi : G.fi = 1 := by rw [← hG]; rfl
 have j1 : decide (i + 1 < G.fi) = false := decide_eq_false (by rw [hfi]; omega)
 have j2 : decide ((N : Int) + 1 < i + 1) = false := decide_eq_false (by omega)
 clear hD hla hck hfi hG hP hN1 hN2 hN
 go_enter Try.func11, Try.ntmps11
 have HB := Aside0.mk (Bel.refl w)
 obtain ⟨C5, hC5⟩ : ∃ C, (match Try.f11.body with | some (.seq _ (.seq _ (.seq _ (.seq _ c)))) => c | _ => .skip) = C := ⟨_, rfl⟩
 have HC5 := Aside0.mk hC5
 simp only [Try.f11] at hC5
 rw [hC5]
 clear hC5
 go_wp2_with fail
 go_at_call 12
 refine (known6 _).mono ?_
 rintro e w1 ⟨rfl, hw1⟩
 replace HB := lbB HB hw1
 clear hw1
 go_wp2_with fail
 rw [HNE.out]
 go_at_call 33
 refine (grown_c 5 N _ HID.out (by have := HN.out; omega) JG.out).mono ?_
 rintro e w2 ⟨A1, c1, rfl, hrd, hw2⟩
 replace HB := lbB HB hw2
 have HR1 := Aside0.mk (hrd)
 clear hrd
 clear hw2
 obtain ⟨n8, hn8⟩ : ∃ n, w2.heap.size = n := ⟨_, rfl⟩
 have HSn8 := Aside0.mk hn8
 have HS8 : Aside0 (w.heap.size ≤ n8) := ⟨by rw [← hn8]; exact HB.out.b.size⟩
 go_wp2_with fail
 replace HB := laB HB (.cells #[.int .i64 G.id, .int .i64 G.fi, .int .i64 G.tm, .int .i64 G.ht, .int .i64 G.hv, .int .i64 G.hc, .slice A1 G.l.length c1] 26)
 replace HR1 := laR HR1 (.cells #[.int .i64 G.id, .int .i64 G.fi, .int .i64 G.tm, .int .i64 G.ht, .int .i64 G.hv, .int .i64 G.hc, .slice A1 G.l.length c1] 26)
 have HG : Aside0 (BlkG G A1 c1 n8 (w2.alloc (.cells #[.int .i64 G.id, .int .i64 G.fi, .int .i64 G.tm, .int .i64 G.ht, .int .i64 G.hv, .int .i64 G.hc, .slice A1 G.l.length c1] 26))) := ⟨(by have hq := BlkG.new G A1 c1 w2; rw [HSn8.out] at hq; exact hq : BlkG G A1 c1 n8 (w2.alloc (.cells #[.int .i64 G.id, .int .i64 G.fi, .int .i64 G.tm, .int .i64 G.ht, .int .i64 G.hv, .int .i64 G.hc, .slice A1 G.l.length c1] 26)))⟩
 obtain ⟨W1, hW1⟩ : ∃ W, w2.alloc (.cells #[.int .i64 G.id, .int .i64 G.fi, .int .i64 G.tm, .int .i64 G.ht, .int .i64 G.hv, .int .i64 G.hc, .slice A1 G.l.length c1] 26) = W := ⟨_, rfl⟩
 rw [hW1] at HB HR1 HG ⊢
 clear hW1
 clear hn8
 obtain ⟨hg0, hg1, hg2, hg3, hg4, hg5, hg6⟩ := HG.out.box
 have hC5 := HC5.out
 simp only [Try.f11] at hC5
 subst hC5
 clear HC5
 go_wp2_with fail
 clear hg0 hg1 hg2 hg3 hg4 hg5 hg6
 replace HB := ldB HB
 replace HR1 := ldR HR1
 replace HG := ldG HG
 refine start_ (n := 5) (S := (fun w' => BoxG G A1 c1 n8 w')) (ds := []) #[false,false,false,false,false] (by kernel_rfl) rfl rfl HG.out.box (fun hHeld => ?_)
 refine take_ (i := 0) (N := some 39) (v := ?_) (a' := ?_) #[true,false,false,false,false] rfl rfl (by kernel_rfl) (fun _ _ _ h => h) (Or.inl ⟨by rfl, ?_⟩) hHeld ?_ ?_
 rotate_left
 · rintro w' ⟨hg0, hg1, hg2, hg3, hg4, hg5, hg6⟩
   go_simp
   try with_reducible rfl
 rotate_left
 · simp only [Act.put, sA, sB, sC]
   rfl
 refine pure_ (i := 1) (N := some 40) (v := ?_) (a' := ?_) #[true,true,false,false,false] rfl rfl (by kernel_rfl) (fun _ _ _ h => h) (Or.inl ⟨by rfl, ?_⟩) ?_ ?_
 rotate_left
 · intro w'
   go_simp
   try with_reducible rfl
 rotate_left
 · simp only [Act.put, sA, sB, sC]
   rfl
 refine one_ (i := 2) (N := some 41) #[true,true,true,false,false] rfl rfl (by kernel_rfl) (by decide) (fun K hK => ?_)
 go_simp
 refine (appc 5 (i + 1) 9 1 _ (by omega) HAT.out JP.out rfl).mono ?_; rintro e w3 ⟨Ap, cp, rfl, hrd, hw3⟩; replace HB := lbB HB hw3; replace HR1 := lbR HR1 hw3; replace HG := lbG HG hw3; have HRP := Aside0.mk (hrd); clear hrd; clear hw3
 refine hK.out _ _ ?_ (fun hHeld => ?_)
 · exact HG.out.box
 clear hK K
 try simp only [Act.put, sA, sB, sC]
 refine one_ (i := 3) (N := some 42) #[true,true,true,true,false] rfl rfl (by kernel_rfl) (by decide) (fun K hK => ?_)
 go_simp
 refine (gchk_calls G A1 c1 P Ap cp _ HR1.out HRP.out JC.out).mono ?_; rintro e w4 ⟨rfl, hw4⟩; replace HB := lbB HB hw4; replace HR1 := lbR HR1 hw4; replace HG := lbG HG hw4; replace HRP := lbR HRP hw4; clear hw4
 refine hK.out _ _ ?_ (fun hHeld => ?_)
 · exact HG.out.box
 clear hK K
 try simp only [Act.put, sA, sB, sC]
 refine pure_ (i := 4) (N := some 13) (v := ?_) (a' := ?_) #[true,true,true,true,true] rfl rfl (by kernel_rfl) (fun _ _ _ h => h) (Or.inl ⟨by rfl, ?_⟩) ?_ ?_
 rotate_left
 · intro w'
   go_simp
   try with_reducible rfl
 rotate_left
 · simp only [Act.put, sA, sB, sC]
   rfl
 refine done_ (by kernel_rfl) ?_
 clear hHeld
 obtain ⟨hg0, hg1, hg2, hg3, hg4, hg5, hg6⟩ := HG.out.box
 go_wp2_with fail
 go_at_call 25
 refine (glast_calls G A1 c1 _ HR1.out JL.out).mono ?_
 rintro e w5 ⟨rfl, hw5⟩
 replace HB := lbB HB hw5
 replace HR1 := lbR HR1 hw5
 replace HG := lbG HG hw5
 replace HRP := lbR HRP hw5
 clear hw5
 clear hg0 hg1 hg2 hg3 hg4 hg5 hg6
 obtain ⟨hg0, hg1, hg2, hg3, hg4, hg5, hg6⟩ := HG.out.box
 go_wp2_with fail
 go_ret
 exact ⟨rfl, HB.out.b⟩
set_option maxHeartbeats 8000000 in
set_option maxRecDepth 100000 in
theorem gaps6_a15 (n i : Int) (w : World) (h0 : 0 ≤ n ∧ n < 256) (h1 : 0 ≤ i ∧ i < 65536) (N : Nat) (hN1 : 1 ≤ N) (hN2 : N ≤ 10) (hN : n % 10 + 1 = (N : Int)) (hc : i + 1 < 41) :
  Calls Try.prog 11 #[.int .u8 n, .int .u16 i, .bool true] w fun e w' => e = .returned (.bool true) ∧ Below w.heap.size w w' := by
 have HN := Aside0.mk (And.intro hN1 hN2)
 have HNE := Aside0.mk hN
 obtain ⟨i0, i1⟩ := h0
 obtain ⟨i2, i3⟩ := h1
 obtain ⟨G, hG⟩ : ∃ G, groG 5 N = G := ⟨_, rfl⟩
 have JG := Aside0.mk hG
 obtain ⟨P, hP⟩ : ∃ P, appP 5 (i + 1) 9 1 = P := ⟨_, rfl⟩
 have JP := Aside0.mk hP
 have HAT : Aside0 (-1000000 ≤ i + 1 ∧ i + 1 ≤ 1000000) := ⟨by omega⟩
 have HID : Aside0 ((0 : Int) ≤ 5 ∧ (5 : Int) ≤ 999) := ⟨by decide⟩
 have hwi : IntKind.i64.wrap (i + 1) = i + 1 := by rw [i64_w]; unfold wrap64; omega
 have hwk : IntKind.i64.wrap ((N : Int) + 1) = (N : Int) + 1 := by rw [i64_w]; unfold wrap64; omega
 have hs := gaps_snap hN2
 obtain ⟨T, hT⟩ : ∃ T : Grp, (⟨5, 41, 1, 0, 0, 0, []⟩ : Grp) = T := ⟨_, rfl⟩
 rw [hG, hT] at hs
 have JS := Aside0.mk hs
 have hD : isG true (⟨5, 41, 1, 0, 0, 0, []⟩ : Grp) = true := by decide
 have hck := app_chk (g := ⟨5, 41, 1, 0, 0, 0, []⟩) (i := i + 1) (t := 9) (N := 1) hD (by omega) (by omega) (by decide) (by decide) (by decide)
 change chkG ⟨5, 41, 1, 0, 0, 0, []⟩ (appP 5 (i + 1) 9 1) = if i + 1 < 41 then 15 else if (41 : Int) + 0 - 1 < i + 1 - 1 then 14 else 0 at hck
 have JC : Aside0 (chwG T P = 15) := ⟨by rw [← hT, chw_chk hD, ← hP, hck]; rw [if_pos (by omega)]⟩
 have JL : Aside0 (lastG T = 40) := ⟨by rw [← hT]; exact dense_last hD⟩
 have hfi : T.fi = 41 := by rw [← hT]
 have j1 : decide (i + 1 < T.fi) = true := decide_eq_true (by rw [hfi]; omega)
 have j2 : decide ((41 : Int) < i + 1) = false := decide_eq_false (by omega)
 have J6 : Aside0 (G.l.length + ([] : List Ent).length ≤ 4398046511104) := ⟨by rw [← hG, gro_len]; simp; omega⟩
 clear hs hD hck hfi hG hP hT hN1 hN2 hN
 go_enter Try.func11, Try.ntmps11
 have HB := Aside0.mk (Bel.refl w)
 obtain ⟨C5, hC5⟩ : ∃ C, (match Try.f11.body with | some (.seq _ (.seq _ (.seq _ (.seq _ c)))) => c | _ => .skip) = C := ⟨_, rfl⟩
 have HC5 := Aside0.mk hC5
 simp only [Try.f11] at hC5
 rw [hC5]
 clear hC5
 go_wp2_with fail
 go_at_call 12
 refine (known6 _).mono ?_
 rintro e w1 ⟨rfl, hw1⟩
 replace HB := lbB HB hw1
 clear hw1
 go_wp2_with fail
 rw [HNE.out]
 go_at_call 33
 refine (grown_c 5 N _ HID.out (by have := HN.out; omega) JG.out).mono ?_
 rintro e w2 ⟨A1, c1, rfl, hrd, hw2⟩
 replace HB := lbB HB hw2
 have HR1 := Aside0.mk (hrd)
 clear hrd
 clear hw2
 obtain ⟨n8, hn8⟩ : ∃ n, w2.heap.size = n := ⟨_, rfl⟩
 have HSn8 := Aside0.mk hn8
 have HS8 : Aside0 (w.heap.size ≤ n8) := ⟨by rw [← hn8]; exact HB.out.b.size⟩
 go_wp2_with fail
 replace HB := laB HB (.cells #[.int .i64 G.id, .int .i64 G.fi, .int .i64 G.tm, .int .i64 G.ht, .int .i64 G.hv, .int .i64 G.hc, .slice A1 G.l.length c1] 26)
 replace HR1 := laR HR1 (.cells #[.int .i64 G.id, .int .i64 G.fi, .int .i64 G.tm, .int .i64 G.ht, .int .i64 G.hv, .int .i64 G.hc, .slice A1 G.l.length c1] 26)
 have HG : Aside0 (BlkG G A1 c1 n8 (w2.alloc (.cells #[.int .i64 G.id, .int .i64 G.fi, .int .i64 G.tm, .int .i64 G.ht, .int .i64 G.hv, .int .i64 G.hc, .slice A1 G.l.length c1] 26))) := ⟨(by have hq := BlkG.new G A1 c1 w2; rw [HSn8.out] at hq; exact hq : BlkG G A1 c1 n8 (w2.alloc (.cells #[.int .i64 G.id, .int .i64 G.fi, .int .i64 G.tm, .int .i64 G.ht, .int .i64 G.hv, .int .i64 G.hc, .slice A1 G.l.length c1] 26)))⟩
 obtain ⟨W1, hW1⟩ : ∃ W, w2.alloc (.cells #[.int .i64 G.id, .int .i64 G.fi, .int .i64 G.tm, .int .i64 G.ht, .int .i64 G.hv, .int .i64 G.hc, .slice A1 G.l.length c1] 26) = W := ⟨_, rfl⟩
 rw [hW1] at HB HR1 HG ⊢
 clear hW1
 clear hn8
 obtain ⟨hg0, hg1, hg2, hg3, hg4, hg5, hg6⟩ := HG.out.box
 have hC5 := HC5.out
 simp only [Try.f11] at hC5
 subst hC5
 clear HC5
 obtain ⟨C10, hC10⟩ : ∃ C, (match Try.f11.body with | some (.seq _ (.seq _ (.seq _ (.seq _ (.seq _ c))))) => c | _ => .skip) = C := ⟨_, rfl⟩
 have HC10 := Aside0.mk hC10
 simp only [Try.f11] at hC10
 rw [hC10]
 clear hC10
 obtain ⟨C7, hC7⟩ : ∃ C, (match Try.f11.body with | some (.seq _ (.seq _ (.seq _ (.seq _ (.seq (.seq _ (.cond _ (.seq _ c) _)) _))))) => c | _ => .skip) = C := ⟨_, rfl⟩
 have HC7 := Aside0.mk hC7
 simp only [Try.f11] at hC7
 rw [hC7]
 clear hC7
 go_wp2_with fail
 go_at_call 22
 refine (gdo_calls G A1 c1 ⟨5, 4, [], 0, 0, 0, 40, 1, false, false⟩ none 0 _ HR1.out (Rd.nil _) J6.out JS.out.2 JS.out.1).mono ?_
 rintro e w3 ⟨A2, c2, rfl, hrd, hw3⟩
 replace HB := lbB HB hw3
 replace HR1 := lbR HR1 hw3
 replace HG := lbG HG hw3
 have HR2 := Aside0.mk (hrd)
 clear hrd
 clear hw3
 clear hg0 hg1 hg2 hg3 hg4 hg5 hg6
 obtain ⟨hg0, hg1, hg2, hg3, hg4, hg5, hg6⟩ := HG.out.box
 obtain ⟨n9, hn9⟩ : ∃ n, w3.heap.size = n := ⟨_, rfl⟩
 have HSn9 := Aside0.mk hn9
 have l89 : n8 < n9 := by rw [← hn9]; exact HG.out.lt
 go_wp2_with fail
 clear hg0 hg1 hg2 hg3 hg4 hg5 hg6
 replace HB := laB HB (.cells #[.int .i64 T.id, .int .i64 T.fi, .int .i64 T.tm, .int .i64 T.ht, .int .i64 T.hv, .int .i64 T.hc, .slice A2 T.l.length c2] 26)
 replace HR1 := laR HR1 (.cells #[.int .i64 T.id, .int .i64 T.fi, .int .i64 T.tm, .int .i64 T.ht, .int .i64 T.hv, .int .i64 T.hc, .slice A2 T.l.length c2] 26)
 replace HG := laG HG (.cells #[.int .i64 T.id, .int .i64 T.fi, .int .i64 T.tm, .int .i64 T.ht, .int .i64 T.hv, .int .i64 T.hc, .slice A2 T.l.length c2] 26)
 replace HR2 := laR HR2 (.cells #[.int .i64 T.id, .int .i64 T.fi, .int .i64 T.tm, .int .i64 T.ht, .int .i64 T.hv, .int .i64 T.hc, .slice A2 T.l.length c2] 26)
 have HT : Aside0 (BlkG T A2 c2 n9 (w3.alloc (.cells #[.int .i64 T.id, .int .i64 T.fi, .int .i64 T.tm, .int .i64 T.ht, .int .i64 T.hv, .int .i64 T.hc, .slice A2 T.l.length c2] 26))) := ⟨(by have hq := BlkG.new T A2 c2 w3; rw [HSn9.out] at hq; exact hq : BlkG T A2 c2 n9 (w3.alloc (.cells #[.int .i64 T.id, .int .i64 T.fi, .int .i64 T.tm, .int .i64 T.ht, .int .i64 T.hv, .int .i64 T.hc, .slice A2 T.l.length c2] 26)))⟩
 obtain ⟨W2, hW2⟩ : ∃ W, w3.alloc (.cells #[.int .i64 T.id, .int .i64 T.fi, .int .i64 T.tm, .int .i64 T.ht, .int .i64 T.hv, .int .i64 T.hc, .slice A2 T.l.length c2] 26) = W := ⟨_, rfl⟩
 rw [hW2] at HB HR1 HG HR2 HT ⊢
 clear hW2
 clear hn9
 obtain ⟨hg0, hg1, hg2, hg3, hg4, hg5, hg6⟩ := HG.out.box
 obtain ⟨ht0, ht1, ht2, ht3, ht4, ht5, ht6⟩ := HT.out.box
 have hC7 := HC7.out
 simp only [Try.f11] at hC7
 subst hC7
 clear HC7
 have yf := HG.out.free
 go_wp2_with fail
 clear yf
 clear hg0 hg1 hg2 hg3 hg4 hg5 hg6 ht0 ht1 ht2 ht3 ht4 ht5 ht6
 have hx := only_store T A2 c2 n8 W2
 replace HB := Aside0.mk (Bel.only HB.out hx (fun q hq h => by have h2 : q = n8 := h; have := HS8.out; omega))
 replace HR1 := Aside0.mk (Rd.only HR1.out hx (fun q hq h => by have h3 : q = n8 := h; subst h3; exact Rd.apartG HR1.out HG.out hq))
 replace HR2 := Aside0.mk (Rd.only HR2.out hx (fun q hq h => by have h3 : q = n8 := h; subst h3; exact Rd.apartG HR2.out HG.out hq))
 replace HT := Aside0.mk (BlkG.only HT.out hx (fun h => by have h2 : n9 = n8 := h; omega))
 replace HG := Aside0.mk (BlkG.store (g := T) (A := A2) (c := c2) HG.out)
 clear hx
 obtain ⟨W3, hW3⟩ : ∃ W, (((((((W2.setCell ⟨n8, 0, none⟩ (.int .i64 T.id)).setCell ⟨n8, 1, none⟩ (.int .i64 T.fi)).setCell ⟨n8, 2, none⟩ (.int .i64 T.tm)).setCell ⟨n8, 3, none⟩ (.int .i64 T.ht)).setCell ⟨n8, 4, none⟩ (.int .i64 T.hv)).setCell ⟨n8, 5, none⟩ (.int .i64 T.hc)).setCell ⟨n8, 6, none⟩ (.slice A2 T.l.length c2)) = W := ⟨_, rfl⟩
 rw [hW3] at HB HR1 HG HR2 HT ⊢
 clear hW3
 obtain ⟨hg0, hg1, hg2, hg3, hg4, hg5, hg6⟩ := HG.out.box
 obtain ⟨ht0, ht1, ht2, ht3, ht4, ht5, ht6⟩ := HT.out.box
 have hC10 := HC10.out
 simp only [Try.f11] at hC10
 subst hC10
 clear HC10
 go_wp2_with fail
 clear hg0 hg1 hg2 hg3 hg4 hg5 hg6 ht0 ht1 ht2 ht3 ht4 ht5 ht6
 replace HB := ldB HB
 replace HR1 := ldR HR1
 replace HG := ldG HG
 replace HR2 := ldR HR2
 replace HT := ldG HT
 refine start_ (n := 5) (S := (fun w' => BoxG T A2 c2 n8 w')) (ds := []) #[false,false,false,false,false] (by kernel_rfl) rfl rfl HG.out.box (fun hHeld => ?_)
 refine take_ (i := 0) (N := some 39) (v := ?_) (a' := ?_) #[true,false,false,false,false] rfl rfl (by kernel_rfl) (fun _ _ _ h => h) (Or.inl ⟨by rfl, ?_⟩) hHeld ?_ ?_
 rotate_left
 · rintro w' ⟨hg0, hg1, hg2, hg3, hg4, hg5, hg6⟩
   go_simp
   try with_reducible rfl
 rotate_left
 · simp only [Act.put, sA, sB, sC]
   rfl
 refine pure_ (i := 1) (N := some 40) (v := ?_) (a' := ?_) #[true,true,false,false,false] rfl rfl (by kernel_rfl) (fun _ _ _ h => h) (Or.inl ⟨by rfl, ?_⟩) ?_ ?_
 rotate_left
 · intro w'
   go_simp
   try with_reducible rfl
 rotate_left
 · simp only [Act.put, sA, sB, sC]
   rfl
 refine one_ (i := 2) (N := some 41) #[true,true,true,false,false] rfl rfl (by kernel_rfl) (by decide) (fun K hK => ?_)
 go_simp
 refine (appc 5 (i + 1) 9 1 _ (by omega) HAT.out JP.out rfl).mono ?_; rintro e w4 ⟨Ap, cp, rfl, hrd, hw4⟩; replace HB := lbB HB hw4; replace HR1 := lbR HR1 hw4; replace HG := lbG HG hw4; replace HR2 := lbR HR2 hw4; replace HT := lbG HT hw4; have HRP := Aside0.mk (hrd); clear hrd; clear hw4
 refine hK.out _ _ ?_ (fun hHeld => ?_)
 · exact HG.out.box
 clear hK K
 try simp only [Act.put, sA, sB, sC]
 refine one_ (i := 3) (N := some 42) #[true,true,true,true,false] rfl rfl (by kernel_rfl) (by decide) (fun K hK => ?_)
 go_simp
 refine (gchk_calls T A2 c2 P Ap cp _ HR2.out HRP.out JC.out).mono ?_; rintro e w5 ⟨rfl, hw5⟩; replace HB := lbB HB hw5; replace HR1 := lbR HR1 hw5; replace HG := lbG HG hw5; replace HR2 := lbR HR2 hw5; replace HT := lbG HT hw5; replace HRP := lbR HRP hw5; clear hw5
 refine hK.out _ _ ?_ (fun hHeld => ?_)
 · exact HG.out.box
 clear hK K
 try simp only [Act.put, sA, sB, sC]
 refine pure_ (i := 4) (N := some 13) (v := ?_) (a' := ?_) #[true,true,true,true,true] rfl rfl (by kernel_rfl) (fun _ _ _ h => h) (Or.inl ⟨by rfl, ?_⟩) ?_ ?_
 rotate_left
 · intro w'
   go_simp
   try with_reducible rfl
 rotate_left
 · simp only [Act.put, sA, sB, sC]
   rfl
 refine done_ (by kernel_rfl) ?_
 clear hHeld
 obtain ⟨hg0, hg1, hg2, hg3, hg4, hg5, hg6⟩ := HG.out.box
 obtain ⟨ht0, ht1, ht2, ht3, ht4, ht5, ht6⟩ := HT.out.box
 go_wp2_with fail
 go_at_call 25
 refine (glast_calls T A2 c2 _ HR2.out JL.out).mono ?_
 rintro e w6 ⟨rfl, hw6⟩
 replace HB := lbB HB hw6
 replace HR1 := lbR HR1 hw6
 replace HG := lbG HG hw6
 replace HR2 := lbR HR2 hw6
 replace HT := lbG HT hw6
 replace HRP := lbR HRP hw6
 clear hw6
 clear hg0 hg1 hg2 hg3 hg4 hg5 hg6 ht0 ht1 ht2 ht3 ht4 ht5 ht6
 obtain ⟨hg0, hg1, hg2, hg3, hg4, hg5, hg6⟩ := HG.out.box
 obtain ⟨ht0, ht1, ht2, ht3, ht4, ht5, ht6⟩ := HT.out.box
 go_wp2_with fail
 go_ret
 exact ⟨rfl, HB.out.b⟩
set_option maxHeartbeats 8000000 in
set_option maxRecDepth 100000 in
theorem gaps6_a14 (n i : Int) (w : World) (h0 : 0 ≤ n ∧ n < 256) (h1 : 0 ≤ i ∧ i < 65536) (N : Nat) (hN1 : 1 ≤ N) (hN2 : N ≤ 10) (hN : n % 10 + 1 = (N : Int)) (hc : 40 + 1 < i + 1) :
  Calls Try.prog 11 #[.int .u8 n, .int .u16 i, .bool true] w fun e w' => e = .returned (.bool true) ∧ Below w.heap.size w w' := by
 have HN := Aside0.mk (And.intro hN1 hN2)
 have HNE := Aside0.mk hN
 obtain ⟨i0, i1⟩ := h0
 obtain ⟨i2, i3⟩ := h1
 obtain ⟨G, hG⟩ : ∃ G, groG 5 N = G := ⟨_, rfl⟩
 have JG := Aside0.mk hG
 obtain ⟨P, hP⟩ : ∃ P, appP 5 (i + 1) 9 1 = P := ⟨_, rfl⟩
 have JP := Aside0.mk hP
 have HAT : Aside0 (-1000000 ≤ i + 1 ∧ i + 1 ≤ 1000000) := ⟨by omega⟩
 have HID : Aside0 ((0 : Int) ≤ 5 ∧ (5 : Int) ≤ 999) := ⟨by decide⟩
 have hwi : IntKind.i64.wrap (i + 1) = i + 1 := by rw [i64_w]; unfold wrap64; omega
 have hwk : IntKind.i64.wrap ((N : Int) + 1) = (N : Int) + 1 := by rw [i64_w]; unfold wrap64; omega
 have hs := gaps_snap hN2
 obtain ⟨T, hT⟩ : ∃ T : Grp, (⟨5, 41, 1, 0, 0, 0, []⟩ : Grp) = T := ⟨_, rfl⟩
 rw [hG, hT] at hs
 have JS := Aside0.mk hs
 have hD : isG true (⟨5, 41, 1, 0, 0, 0, []⟩ : Grp) = true := by decide
 have hck := app_chk (g := ⟨5, 41, 1, 0, 0, 0, []⟩) (i := i + 1) (t := 9) (N := 1) hD (by omega) (by omega) (by decide) (by decide) (by decide)
 change chkG ⟨5, 41, 1, 0, 0, 0, []⟩ (appP 5 (i + 1) 9 1) = if i + 1 < 41 then 15 else if (41 : Int) + 0 - 1 < i + 1 - 1 then 14 else 0 at hck
 have JC : Aside0 (chwG T P = 14) := ⟨by rw [← hT, chw_chk hD, ← hP, hck]; rw [if_neg (by omega), if_pos (by omega)]⟩
 have JL : Aside0 (lastG T = 40) := ⟨by rw [← hT]; exact dense_last hD⟩
 have hfi : T.fi = 41 := by rw [← hT]
 have j1 : decide (i + 1 < T.fi) = false := decide_eq_false (by rw [hfi]; omega)
 have j2 : decide ((41 : Int) < i + 1) = true := decide_eq_true (by omega)
 have J6 : Aside0 (G.l.length + ([] : List Ent).length ≤ 4398046511104) := ⟨by rw [← hG, gro_len]; simp; omega⟩
 clear hs hD hck hfi hG hP hT hN1 hN2 hN
 go_enter Try.func11, Try.ntmps11
 have HB := Aside0.mk (Bel.refl w)
 obtain ⟨C5, hC5⟩ : ∃ C, (match Try.f11.body with | some (.seq _ (.seq _ (.seq _ (.seq _ c)))) => c | _ => .skip) = C := ⟨_, rfl⟩
 have HC5 := Aside0.mk hC5
 simp only [Try.f11] at hC5
 rw [hC5]
 clear hC5
 go_wp2_with fail
 go_at_call 12
 refine (known6 _).mono ?_
 rintro e w1 ⟨rfl, hw1⟩
 replace HB := lbB HB hw1
 clear hw1
 go_wp2_with fail
 rw [HNE.out]
 go_at_call 33
 refine (grown_c 5 N _ HID.out (by have := HN.out; omega) JG.out).mono ?_
 rintro e w2 ⟨A1, c1, rfl, hrd, hw2⟩
 replace HB := lbB HB hw2
 have HR1 := Aside0.mk (hrd)
 clear hrd
 clear hw2
 obtain ⟨n8, hn8⟩ : ∃ n, w2.heap.size = n := ⟨_, rfl⟩
 have HSn8 := Aside0.mk hn8
 have HS8 : Aside0 (w.heap.size ≤ n8) := ⟨by rw [← hn8]; exact HB.out.b.size⟩
 go_wp2_with fail
 replace HB := laB HB (.cells #[.int .i64 G.id, .int .i64 G.fi, .int .i64 G.tm, .int .i64 G.ht, .int .i64 G.hv, .int .i64 G.hc, .slice A1 G.l.length c1] 26)
 replace HR1 := laR HR1 (.cells #[.int .i64 G.id, .int .i64 G.fi, .int .i64 G.tm, .int .i64 G.ht, .int .i64 G.hv, .int .i64 G.hc, .slice A1 G.l.length c1] 26)
 have HG : Aside0 (BlkG G A1 c1 n8 (w2.alloc (.cells #[.int .i64 G.id, .int .i64 G.fi, .int .i64 G.tm, .int .i64 G.ht, .int .i64 G.hv, .int .i64 G.hc, .slice A1 G.l.length c1] 26))) := ⟨(by have hq := BlkG.new G A1 c1 w2; rw [HSn8.out] at hq; exact hq : BlkG G A1 c1 n8 (w2.alloc (.cells #[.int .i64 G.id, .int .i64 G.fi, .int .i64 G.tm, .int .i64 G.ht, .int .i64 G.hv, .int .i64 G.hc, .slice A1 G.l.length c1] 26)))⟩
 obtain ⟨W1, hW1⟩ : ∃ W, w2.alloc (.cells #[.int .i64 G.id, .int .i64 G.fi, .int .i64 G.tm, .int .i64 G.ht, .int .i64 G.hv, .int .i64 G.hc, .slice A1 G.l.length c1] 26) = W := ⟨_, rfl⟩
 rw [hW1] at HB HR1 HG ⊢
 clear hW1
 clear hn8
 obtain ⟨hg0, hg1, hg2, hg3, hg4, hg5, hg6⟩ := HG.out.box
 have hC5 := HC5.out
 simp only [Try.f11] at hC5
 subst hC5
 clear HC5
 obtain ⟨C10, hC10⟩ : ∃ C, (match Try.f11.body with | some (.seq _ (.seq _ (.seq _ (.seq _ (.seq _ c))))) => c | _ => .skip) = C := ⟨_, rfl⟩
 have HC10 := Aside0.mk hC10
 simp only [Try.f11] at hC10
 rw [hC10]
 clear hC10
 obtain ⟨C7, hC7⟩ : ∃ C, (match Try.f11.body with | some (.seq _ (.seq _ (.seq _ (.seq _ (.seq (.seq _ (.cond _ (.seq _ c) _)) _))))) => c | _ => .skip) = C := ⟨_, rfl⟩
 have HC7 := Aside0.mk hC7
 simp only [Try.f11] at hC7
 rw [hC7]
 clear hC7
 go_wp2_with fail
 go_at_call 22
 refine (gdo_calls G A1 c1 ⟨5, 4, [], 0, 0, 0, 40, 1, false, false⟩ none 0 _ HR1.out (Rd.nil _) J6.out JS.out.2 JS.out.1).mono ?_
 rintro e w3 ⟨A2, c2, rfl, hrd, hw3⟩
 replace HB := lbB HB hw3
 replace HR1 := lbR HR1 hw3
 replace HG := lbG HG hw3
 have HR2 := Aside0.mk (hrd)
 clear hrd
 clear hw3
 clear hg0 hg1 hg2 hg3 hg4 hg5 hg6
 obtain ⟨hg0, hg1, hg2, hg3, hg4, hg5, hg6⟩ := HG.out.box
 obtain ⟨n9, hn9⟩ : ∃ n, w3.heap.size = n := ⟨_, rfl⟩
 have HSn9 := Aside0.mk hn9
 have l89 : n8 < n9 := by rw [← hn9]; exact HG.out.lt
 go_wp2_with fail
 clear hg0 hg1 hg2 hg3 hg4 hg5 hg6
 replace HB := laB HB (.cells #[.int .i64 T.id, .int .i64 T.fi, .int .i64 T.tm, .int .i64 T.ht, .int .i64 T.hv, .int .i64 T.hc, .slice A2 T.l.length c2] 26)
 replace HR1 := laR HR1 (.cells #[.int .i64 T.id, .int .i64 T.fi, .int .i64 T.tm, .int .i64 T.ht, .int .i64 T.hv, .int .i64 T.hc, .slice A2 T.l.length c2] 26)
 replace HG := laG HG (.cells #[.int .i64 T.id, .int .i64 T.fi, .int .i64 T.tm, .int .i64 T.ht, .int .i64 T.hv, .int .i64 T.hc, .slice A2 T.l.length c2] 26)
 replace HR2 := laR HR2 (.cells #[.int .i64 T.id, .int .i64 T.fi, .int .i64 T.tm, .int .i64 T.ht, .int .i64 T.hv, .int .i64 T.hc, .slice A2 T.l.length c2] 26)
 have HT : Aside0 (BlkG T A2 c2 n9 (w3.alloc (.cells #[.int .i64 T.id, .int .i64 T.fi, .int .i64 T.tm, .int .i64 T.ht, .int .i64 T.hv, .int .i64 T.hc, .slice A2 T.l.length c2] 26))) := ⟨(by have hq := BlkG.new T A2 c2 w3; rw [HSn9.out] at hq; exact hq : BlkG T A2 c2 n9 (w3.alloc (.cells #[.int .i64 T.id, .int .i64 T.fi, .int .i64 T.tm, .int .i64 T.ht, .int .i64 T.hv, .int .i64 T.hc, .slice A2 T.l.length c2] 26)))⟩
 obtain ⟨W2, hW2⟩ : ∃ W, w3.alloc (.cells #[.int .i64 T.id, .int .i64 T.fi, .int .i64 T.tm, .int .i64 T.ht, .int .i64 T.hv, .int .i64 T.hc, .slice A2 T.l.length c2] 26) = W := ⟨_, rfl⟩
 rw [hW2] at HB HR1 HG HR2 HT ⊢
 clear hW2
 clear hn9
 obtain ⟨hg0, hg1, hg2, hg3, hg4, hg5, hg6⟩ := HG.out.box
 obtain ⟨ht0, ht1, ht2, ht3, ht4, ht5, ht6⟩ := HT.out.box
 have hC7 := HC7.out
 simp only [Try.f11] at hC7
 subst hC7
 clear HC7
 have yf := HG.out.free
 go_wp2_with fail
 clear yf
 clear hg0 hg1 hg2 hg3 hg4 hg5 hg6 ht0 ht1 ht2 ht3 ht4 ht5 ht6
 have hx := only_store T A2 c2 n8 W2
 replace HB := Aside0.mk (Bel.only HB.out hx (fun q hq h => by have h2 : q = n8 := h; have := HS8.out; omega))
 replace HR1 := Aside0.mk (Rd.only HR1.out hx (fun q hq h => by have h3 : q = n8 := h; subst h3; exact Rd.apartG HR1.out HG.out hq))
 replace HR2 := Aside0.mk (Rd.only HR2.out hx (fun q hq h => by have h3 : q = n8 := h; subst h3; exact Rd.apartG HR2.out HG.out hq))
 replace HT := Aside0.mk (BlkG.only HT.out hx (fun h => by have h2 : n9 = n8 := h; omega))
 replace HG := Aside0.mk (BlkG.store (g := T) (A := A2) (c := c2) HG.out)
 clear hx
 obtain ⟨W3, hW3⟩ : ∃ W, (((((((W2.setCell ⟨n8, 0, none⟩ (.int .i64 T.id)).setCell ⟨n8, 1, none⟩ (.int .i64 T.fi)).setCell ⟨n8, 2, none⟩ (.int .i64 T.tm)).setCell ⟨n8, 3, none⟩ (.int .i64 T.ht)).setCell ⟨n8, 4, none⟩ (.int .i64 T.hv)).setCell ⟨n8, 5, none⟩ (.int .i64 T.hc)).setCell ⟨n8, 6, none⟩ (.slice A2 T.l.length c2)) = W := ⟨_, rfl⟩
 rw [hW3] at HB HR1 HG HR2 HT ⊢
 clear hW3
 obtain ⟨hg0, hg1, hg2, hg3, hg4, hg5, hg6⟩ := HG.out.box
 obtain ⟨ht0, ht1, ht2, ht3, ht4, ht5, ht6⟩ := HT.out.box
 have hC10 := HC10.out
 simp only [Try.f11] at hC10
 subst hC10
 clear HC10
 go_wp2_with fail
 clear hg0 hg1 hg2 hg3 hg4 hg5 hg6 ht0 ht1 ht2 ht3 ht4 ht5 ht6
 replace HB := ldB HB
 replace HR1 := ldR HR1
 replace HG := ldG HG
 replace HR2 := ldR HR2
 replace HT := ldG HT
 refine start_ (n := 5) (S := (fun w' => BoxG T A2 c2 n8 w')) (ds := []) #[false,false,false,false,false] (by kernel_rfl) rfl rfl HG.out.box (fun hHeld => ?_)
 refine take_ (i := 0) (N := some 39) (v := ?_) (a' := ?_) #[true,false,false,false,false] rfl rfl (by kernel_rfl) (fun _ _ _ h => h) (Or.inl ⟨by rfl, ?_⟩) hHeld ?_ ?_
 rotate_left
 · rintro w' ⟨hg0, hg1, hg2, hg3, hg4, hg5, hg6⟩
   go_simp
   try with_reducible rfl
 rotate_left
 · simp only [Act.put, sA, sB, sC]
   rfl
 refine pure_ (i := 1) (N := some 40) (v := ?_) (a' := ?_) #[true,true,false,false,false] rfl rfl (by kernel_rfl) (fun _ _ _ h => h) (Or.inl ⟨by rfl, ?_⟩) ?_ ?_
 rotate_left
 · intro w'
   go_simp
   try with_reducible rfl
 rotate_left
 · simp only [Act.put, sA, sB, sC]
   rfl
 refine one_ (i := 2) (N := some 41) #[true,true,true,false,false] rfl rfl (by kernel_rfl) (by decide) (fun K hK => ?_)
 go_simp
 refine (appc 5 (i + 1) 9 1 _ (by omega) HAT.out JP.out rfl).mono ?_; rintro e w4 ⟨Ap, cp, rfl, hrd, hw4⟩; replace HB := lbB HB hw4; replace HR1 := lbR HR1 hw4; replace HG := lbG HG hw4; replace HR2 := lbR HR2 hw4; replace HT := lbG HT hw4; have HRP := Aside0.mk (hrd); clear hrd; clear hw4
 refine hK.out _ _ ?_ (fun hHeld => ?_)
 · exact HG.out.box
 clear hK K
 try simp only [Act.put, sA, sB, sC]
 refine one_ (i := 3) (N := some 42) #[true,true,true,true,false] rfl rfl (by kernel_rfl) (by decide) (fun K hK => ?_)
 go_simp
 refine (gchk_calls T A2 c2 P Ap cp _ HR2.out HRP.out JC.out).mono ?_; rintro e w5 ⟨rfl, hw5⟩; replace HB := lbB HB hw5; replace HR1 := lbR HR1 hw5; replace HG := lbG HG hw5; replace HR2 := lbR HR2 hw5; replace HT := lbG HT hw5; replace HRP := lbR HRP hw5; clear hw5
 refine hK.out _ _ ?_ (fun hHeld => ?_)
 · exact HG.out.box
 clear hK K
 try simp only [Act.put, sA, sB, sC]
 refine pure_ (i := 4) (N := some 13) (v := ?_) (a' := ?_) #[true,true,true,true,true] rfl rfl (by kernel_rfl) (fun _ _ _ h => h) (Or.inl ⟨by rfl, ?_⟩) ?_ ?_
 rotate_left
 · intro w'
   go_simp
   try with_reducible rfl
 rotate_left
 · simp only [Act.put, sA, sB, sC]
   rfl
 refine done_ (by kernel_rfl) ?_
 clear hHeld
 obtain ⟨hg0, hg1, hg2, hg3, hg4, hg5, hg6⟩ := HG.out.box
 obtain ⟨ht0, ht1, ht2, ht3, ht4, ht5, ht6⟩ := HT.out.box
 go_wp2_with fail
 go_at_call 25
 refine (glast_calls T A2 c2 _ HR2.out JL.out).mono ?_
 rintro e w6 ⟨rfl, hw6⟩
 replace HB := lbB HB hw6
 replace HR1 := lbR HR1 hw6
 replace HG := lbG HG hw6
 replace HR2 := lbR HR2 hw6
 replace HT := lbG HT hw6
 replace HRP := lbR HRP hw6
 clear hw6
 clear hg0 hg1 hg2 hg3 hg4 hg5 hg6 ht0 ht1 ht2 ht3 ht4 ht5 ht6
 obtain ⟨hg0, hg1, hg2, hg3, hg4, hg5, hg6⟩ := HG.out.box
 obtain ⟨ht0, ht1, ht2, ht3, ht4, ht5, ht6⟩ := HT.out.box
 go_wp2_with fail
 go_ret
 exact ⟨rfl, HB.out.b⟩
set_option maxHeartbeats 8000000 in
set_option maxRecDepth 100000 in
theorem gaps6_a0 (n i : Int) (w : World) (h0 : 0 ≤ n ∧ n < 256) (h1 : 0 ≤ i ∧ i < 65536) (N : Nat) (hN1 : 1 ≤ N) (hN2 : N ≤ 10) (hN : n % 10 + 1 = (N : Int)) (hc1 : ¬ i + 1 < 41) (hc2 : ¬ 40 + 1 < i + 1) :
  Calls Try.prog 11 #[.int .u8 n, .int .u16 i, .bool true] w fun e w' => e = .returned (.bool true) ∧ Below w.heap.size w w' := by
 have HN := Aside0.mk (And.intro hN1 hN2)
 have HNE := Aside0.mk hN
 obtain ⟨i0, i1⟩ := h0
 obtain ⟨i2, i3⟩ := h1
 obtain ⟨G, hG⟩ : ∃ G, groG 5 N = G := ⟨_, rfl⟩
 have JG := Aside0.mk hG
 obtain ⟨P, hP⟩ : ∃ P, appP 5 (i + 1) 9 1 = P := ⟨_, rfl⟩
 have JP := Aside0.mk hP
 have HAT : Aside0 (-1000000 ≤ i + 1 ∧ i + 1 ≤ 1000000) := ⟨by omega⟩
 have HID : Aside0 ((0 : Int) ≤ 5 ∧ (5 : Int) ≤ 999) := ⟨by decide⟩
 have hwi : IntKind.i64.wrap (i + 1) = i + 1 := by rw [i64_w]; unfold wrap64; omega
 have hwk : IntKind.i64.wrap ((N : Int) + 1) = (N : Int) + 1 := by rw [i64_w]; unfold wrap64; omega
 have hs := gaps_snap hN2
 obtain ⟨T, hT⟩ : ∃ T : Grp, (⟨5, 41, 1, 0, 0, 0, []⟩ : Grp) = T := ⟨_, rfl⟩
 rw [hG, hT] at hs
 have JS := Aside0.mk hs
 have hD : isG true (⟨5, 41, 1, 0, 0, 0, []⟩ : Grp) = true := by decide
 have hck := app_chk (g := ⟨5, 41, 1, 0, 0, 0, []⟩) (i := i + 1) (t := 9) (N := 1) hD (by omega) (by omega) (by decide) (by decide) (by decide)
 change chkG ⟨5, 41, 1, 0, 0, 0, []⟩ (appP 5 (i + 1) 9 1) = if i + 1 < 41 then 15 else if (41 : Int) + 0 - 1 < i + 1 - 1 then 14 else 0 at hck
 have JC : Aside0 (chwG T P = 0) := ⟨by rw [← hT, chw_chk hD, ← hP, hck]; rw [if_neg (by omega), if_neg (by omega)]⟩
 have JL : Aside0 (lastG T = 40) := ⟨by rw [← hT]; exact dense_last hD⟩
 have hfi : T.fi = 41 := by rw [← hT]
 have j1 : decide (i + 1 < T.fi) = false := decide_eq_false (by rw [hfi]; omega)
 have j2 : decide ((41 : Int) < i + 1) = false := decide_eq_false (by omega)
 have J6 : Aside0 (G.l.length + ([] : List Ent).length ≤ 4398046511104) := ⟨by rw [← hG, gro_len]; simp; omega⟩
 clear hs hD hck hfi hG hP hT hN1 hN2 hN
 go_enter Try.func11, Try.ntmps11
 have HB := Aside0.mk (Bel.refl w)
 obtain ⟨C5, hC5⟩ : ∃ C, (match Try.f11.body with | some (.seq _ (.seq _ (.seq _ (.seq _ c)))) => c | _ => .skip) = C := ⟨_, rfl⟩
 have HC5 := Aside0.mk hC5
 simp only [Try.f11] at hC5
 rw [hC5]
 clear hC5
 go_wp2_with fail
 go_at_call 12
 refine (known6 _).mono ?_
 rintro e w1 ⟨rfl, hw1⟩
 replace HB := lbB HB hw1
 clear hw1
 go_wp2_with fail
 rw [HNE.out]
 go_at_call 33
 refine (grown_c 5 N _ HID.out (by have := HN.out; omega) JG.out).mono ?_
 rintro e w2 ⟨A1, c1, rfl, hrd, hw2⟩
 replace HB := lbB HB hw2
 have HR1 := Aside0.mk (hrd)
 clear hrd
 clear hw2
 obtain ⟨n8, hn8⟩ : ∃ n, w2.heap.size = n := ⟨_, rfl⟩
 have HSn8 := Aside0.mk hn8
 have HS8 : Aside0 (w.heap.size ≤ n8) := ⟨by rw [← hn8]; exact HB.out.b.size⟩
 go_wp2_with fail
 replace HB := laB HB (.cells #[.int .i64 G.id, .int .i64 G.fi, .int .i64 G.tm, .int .i64 G.ht, .int .i64 G.hv, .int .i64 G.hc, .slice A1 G.l.length c1] 26)
 replace HR1 := laR HR1 (.cells #[.int .i64 G.id, .int .i64 G.fi, .int .i64 G.tm, .int .i64 G.ht, .int .i64 G.hv, .int .i64 G.hc, .slice A1 G.l.length c1] 26)
 have HG : Aside0 (BlkG G A1 c1 n8 (w2.alloc (.cells #[.int .i64 G.id, .int .i64 G.fi, .int .i64 G.tm, .int .i64 G.ht, .int .i64 G.hv, .int .i64 G.hc, .slice A1 G.l.length c1] 26))) := ⟨(by have hq := BlkG.new G A1 c1 w2; rw [HSn8.out] at hq; exact hq : BlkG G A1 c1 n8 (w2.alloc (.cells #[.int .i64 G.id, .int .i64 G.fi, .int .i64 G.tm, .int .i64 G.ht, .int .i64 G.hv, .int .i64 G.hc, .slice A1 G.l.length c1] 26)))⟩
 obtain ⟨W1, hW1⟩ : ∃ W, w2.alloc (.cells #[.int .i64 G.id, .int .i64 G.fi, .int .i64 G.tm, .int .i64 G.ht, .int .i64 G.hv, .int .i64 G.hc, .slice A1 G.l.length c1] 26) = W := ⟨_, rfl⟩
 rw [hW1] at HB HR1 HG ⊢
 clear hW1
 clear hn8
 obtain ⟨hg0, hg1, hg2, hg3, hg4, hg5, hg6⟩ := HG.out.box
 have hC5 := HC5.out
 simp only [Try.f11] at hC5
 subst hC5
 clear HC5
 obtain ⟨C10, hC10⟩ : ∃ C, (match Try.f11.body with | some (.seq _ (.seq _ (.seq _ (.seq _ (.seq _ c))))) => c | _ => .skip) = C := ⟨_, rfl⟩
 have HC10 := Aside0.mk hC10
 simp only [Try.f11] at hC10
 rw [hC10]
 clear hC10
 obtain ⟨C7, hC7⟩ : ∃ C, (match Try.f11.body with | some (.seq _ (.seq _ (.seq _ (.seq _ (.seq (.seq _ (.cond _ (.seq _ c) _)) _))))) => c | _ => .skip) = C := ⟨_, rfl⟩
 have HC7 := Aside0.mk hC7
 simp only [Try.f11] at hC7
 rw [hC7]
 clear hC7
 go_wp2_with fail
 go_at_call 22
 refine (gdo_calls G A1 c1 ⟨5, 4, [], 0, 0, 0, 40, 1, false, false⟩ none 0 _ HR1.out (Rd.nil _) J6.out JS.out.2 JS.out.1).mono ?_
 rintro e w3 ⟨A2, c2, rfl, hrd, hw3⟩
 replace HB := lbB HB hw3
 replace HR1 := lbR HR1 hw3
 replace HG := lbG HG hw3
 have HR2 := Aside0.mk (hrd)
 clear hrd
 clear hw3
 clear hg0 hg1 hg2 hg3 hg4 hg5 hg6
 obtain ⟨hg0, hg1, hg2, hg3, hg4, hg5, hg6⟩ := HG.out.box
 obtain ⟨n9, hn9⟩ : ∃ n, w3.heap.size = n := ⟨_, rfl⟩
 have HSn9 := Aside0.mk hn9
 have l89 : n8 < n9 := by rw [← hn9]; exact HG.out.lt
 go_wp2_with fail
 clear hg0 hg1 hg2 hg3 hg4 hg5 hg6
 replace HB := laB HB (.cells #[.int .i64 T.id, .int .i64 T.fi, .int .i64 T.tm, .int .i64 T.ht, .int .i64 T.hv, .int .i64 T.hc, .slice A2 T.l.length c2] 26)
 replace HR1 := laR HR1 (.cells #[.int .i64 T.id, .int .i64 T.fi, .int .i64 T.tm, .int .i64 T.ht, .int .i64 T.hv, .int .i64 T.hc, .slice A2 T.l.length c2] 26)
 replace HG := laG HG (.cells #[.int .i64 T.id, .int .i64 T.fi, .int .i64 T.tm, .int .i64 T.ht, .int .i64 T.hv, .int .i64 T.hc, .slice A2 T.l.length c2] 26)
 replace HR2 := laR HR2 (.cells #[.int .i64 T.id, .int .i64 T.fi, .int .i64 T.tm, .int .i64 T.ht, .int .i64 T.hv, .int .i64 T.hc, .slice A2 T.l.length c2] 26)
 have HT : Aside0 (BlkG T A2 c2 n9 (w3.alloc (.cells #[.int .i64 T.id, .int .i64 T.fi, .int .i64 T.tm, .int .i64 T.ht, .int .i64 T.hv, .int .i64 T.hc, .slice A2 T.l.length c2] 26))) := ⟨(by have hq := BlkG.new T A2 c2 w3; rw [HSn9.out] at hq; exact hq : BlkG T A2 c2 n9 (w3.alloc (.cells #[.int .i64 T.id, .int .i64 T.fi, .int .i64 T.tm, .int .i64 T.ht, .int .i64 T.hv, .int .i64 T.hc, .slice A2 T.l.length c2] 26)))⟩
 obtain ⟨W2, hW2⟩ : ∃ W, w3.alloc (.cells #[.int .i64 T.id, .int .i64 T.fi, .int .i64 T.tm, .int .i64 T.ht, .int .i64 T.hv, .int .i64 T.hc, .slice A2 T.l.length c2] 26) = W := ⟨_, rfl⟩
 rw [hW2] at HB HR1 HG HR2 HT ⊢
 clear hW2
 clear hn9
 obtain ⟨hg0, hg1, hg2, hg3, hg4, hg5, hg6⟩ := HG.out.box
 obtain ⟨ht0, ht1, ht2, ht3, ht4, ht5, ht6⟩ := HT.out.box
 have hC7 := HC7.out
 simp only [Try.f11] at hC7
 subst hC7
 clear HC7
 have yf := HG.out.free
 go_wp2_with fail
 clear yf
 clear hg0 hg1 hg2 hg3 hg4 hg5 hg6 ht0 ht1 ht2 ht3 ht4 ht5 ht6
 have hx := only_store T A2 c2 n8 W2
 replace HB := Aside0.mk (Bel.only HB.out hx (fun q hq h => by have h2 : q = n8 := h; have := HS8.out; omega))
 replace HR1 := Aside0.mk (Rd.only HR1.out hx (fun q hq h => by have h3 : q = n8 := h; subst h3; exact Rd.apartG HR1.out HG.out hq))
 replace HR2 := Aside0.mk (Rd.only HR2.out hx (fun q hq h => by have h3 : q = n8 := h; subst h3; exact Rd.apartG HR2.out HG.out hq))
 replace HT := Aside0.mk (BlkG.only HT.out hx (fun h => by have h2 : n9 = n8 := h; omega))
 replace HG := Aside0.mk (BlkG.store (g := T) (A := A2) (c := c2) HG.out)
 clear hx
 obtain ⟨W3, hW3⟩ : ∃ W, (((((((W2.setCell ⟨n8, 0, none⟩ (.int .i64 T.id)).setCell ⟨n8, 1, none⟩ (.int .i64 T.fi)).setCell ⟨n8, 2, none⟩ (.int .i64 T.tm)).setCell ⟨n8, 3, none⟩ (.int .i64 T.ht)).setCell ⟨n8, 4, none⟩ (.int .i64 T.hv)).setCell ⟨n8, 5, none⟩ (.int .i64 T.hc)).setCell ⟨n8, 6, none⟩ (.slice A2 T.l.length c2)) = W := ⟨_, rfl⟩
 rw [hW3] at HB HR1 HG HR2 HT ⊢
 clear hW3
 obtain ⟨hg0, hg1, hg2, hg3, hg4, hg5, hg6⟩ := HG.out.box
 obtain ⟨ht0, ht1, ht2, ht3, ht4, ht5, ht6⟩ := HT.out.box
 have hC10 := HC10.out
 simp only [Try.f11] at hC10
 subst hC10
 clear HC10
 go_wp2_with fail
 clear hg0 hg1 hg2 hg3 hg4 hg5 hg6 ht0 ht1 ht2 ht3 ht4 ht5 ht6
 replace HB := ldB HB
 replace HR1 := ldR HR1
 replace HG := ldG HG
 replace HR2 := ldR HR2
 replace HT := ldG HT
 refine start_ (n := 5) (S := (fun w' => BoxG T A2 c2 n8 w')) (ds := []) #[false,false,false,false,false] (by kernel_rfl) rfl rfl HG.out.box (fun hHeld => ?_)
 refine take_ (i := 0) (N := some 39) (v := ?_) (a' := ?_) #[true,false,false,false,false] rfl rfl (by kernel_rfl) (fun _ _ _ h => h) (Or.inl ⟨by rfl, ?_⟩) hHeld ?_ ?_
 rotate_left
 · rintro w' ⟨hg0, hg1, hg2, hg3, hg4, hg5, hg6⟩
   go_simp
   try with_reducible rfl
 rotate_left
 · simp only [Act.put, sA, sB, sC]
   rfl
 refine pure_ (i := 1) (N := some 40) (v := ?_) (a' := ?_) #[true,true,false,false,false] rfl rfl (by kernel_rfl) (fun _ _ _ h => h) (Or.inl ⟨by rfl, ?_⟩) ?_ ?_
 rotate_left
 · intro w'
   go_simp
   try with_reducible rfl
 rotate_left
 · simp only [Act.put, sA, sB, sC]
   rfl
 refine one_ (i := 2) (N := some 41) #[true,true,true,false,false] rfl rfl (by kernel_rfl) (by decide) (fun K hK => ?_)
 go_simp
 refine (appc 5 (i + 1) 9 1 _ (by omega) HAT.out JP.out rfl).mono ?_; rintro e w4 ⟨Ap, cp, rfl, hrd, hw4⟩; replace HB := lbB HB hw4; replace HR1 := lbR HR1 hw4; replace HG := lbG HG hw4; replace HR2 := lbR HR2 hw4; replace HT := lbG HT hw4; have HRP := Aside0.mk (hrd); clear hrd; clear hw4
 refine hK.out _ _ ?_ (fun hHeld => ?_)
 · exact HG.out.box
 clear hK K
 try simp only [Act.put, sA, sB, sC]
 refine one_ (i := 3) (N := some 42) #[true,true,true,true,false] rfl rfl (by kernel_rfl) (by decide) (fun K hK => ?_)
 go_simp
 refine (gchk_calls T A2 c2 P Ap cp _ HR2.out HRP.out JC.out).mono ?_; rintro e w5 ⟨rfl, hw5⟩; replace HB := lbB HB hw5; replace HR1 := lbR HR1 hw5; replace HG := lbG HG hw5; replace HR2 := lbR HR2 hw5; replace HT := lbG HT hw5; replace HRP := lbR HRP hw5; clear hw5
 refine hK.out _ _ ?_ (fun hHeld => ?_)
 · exact HG.out.box
 clear hK K
 try simp only [Act.put, sA, sB, sC]
 refine pure_ (i := 4) (N := some 13) (v := ?_) (a' := ?_) #[true,true,true,true,true] rfl rfl (by kernel_rfl) (fun _ _ _ h => h) (Or.inl ⟨by rfl, ?_⟩) ?_ ?_
 rotate_left
 · intro w'
   go_simp
   try with_reducible rfl
 rotate_left
 · simp only [Act.put, sA, sB, sC]
   rfl
 refine done_ (by kernel_rfl) ?_
 clear hHeld
 obtain ⟨hg0, hg1, hg2, hg3, hg4, hg5, hg6⟩ := HG.out.box
 obtain ⟨ht0, ht1, ht2, ht3, ht4, ht5, ht6⟩ := HT.out.box
 go_wp2_with fail
 go_at_call 25
 refine (glast_calls T A2 c2 _ HR2.out JL.out).mono ?_
 rintro e w6 ⟨rfl, hw6⟩
 replace HB := lbB HB hw6
 replace HR1 := lbR HR1 hw6
 replace HG := lbG HG hw6
 replace HR2 := lbR HR2 hw6
 replace HT := lbG HT hw6
 replace HRP := lbR HRP hw6
 clear hw6
 clear hg0 hg1 hg2 hg3 hg4 hg5 hg6 ht0 ht1 ht2 ht3 ht4 ht5 ht6
 obtain ⟨hg0, hg1, hg2, hg3, hg4, hg5, hg6⟩ := HG.out.box
 obtain ⟨ht0, ht1, ht2, ht3, ht4, ht5, ht6⟩ := HT.out.box
 go_wp2_with fail
 go_ret
 exact ⟨rfl, HB.out.b⟩
end Go.Proofs.Ytlfdmlacadoolaa.PartW
namespace Go.Proofs.Ytlfdmlacadoolaa.Pure
open Go Go.RowKit Go.Proofs.Ytlfdmlacadoolaa.Sp Go.Proofs.Ytlfdmlacadoolaa.PartW
theorem GroupGaps.walk (n i : Int) (sn : Bool) (w : World) (w0 : (Lit.int .u8 n).wf = true) (w1 : (Lit.int .u16 i).wf = true) :
    Calls Try.prog 11 #[.int .u8 n, .int .u16 i, .bool sn] w fun e w' => e = .returned (.bool true) ∧ Below w.heap.size w w' := by
  have h0 : 0 ≤ n ∧ n < 256 := by simp [Lit.wf, IntKind.min, IntKind.max, IntKind.bits, IntKind.signed] at w0; omega
  have h1 : 0 ≤ i ∧ i < 65536 := by simp [Lit.wf, IntKind.min, IntKind.max, IntKind.bits, IntKind.signed] at w1; omega
  obtain ⟨N, hN1, hN2, hN⟩ : ∃ N : Nat, 1 ≤ N ∧ N ≤ 10 ∧ n % 10 + 1 = (N : Int) := ⟨(n % 10 + 1).toNat, by omega, by omega, by omega⟩
  cases sn with
  | false =>
    by_cases hc : (N : Int) + 1 < i + 1
    · exact gaps6_b14 n i w h0 h1 N hN1 hN2 hN hc
    · exact gaps6_b0 n i w h0 h1 N hN1 hN2 hN (by omega) hc
  | true =>
    by_cases h : i + 1 < 41
    · exact gaps6_a15 n i w h0 h1 N hN1 hN2 hN h
    · by_cases hc : (40 : Int) + 1 < i + 1
      · exact gaps6_a14 n i w h0 h1 N hN1 hN2 hN hc
      · exact gaps6_a0 n i w h0 h1 N hN1 hN2 hN h hc
end Go.Proofs.Ytlfdmlacadoolaa.Pure
