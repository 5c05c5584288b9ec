/- The statement GroupSnaps; no condition beyond the row's. -/
import Derived.Test.YtlfdmlacadoolaaSameQ
import Derived.Test.YtlfdmlacadoolaaFew6
import Derived.Test.YtlfdmlacadoolaaGrow
set_option linter.unusedVariables false
set_option linter.unusedSimpArgs false
namespace Go.Proofs.Ytlfdmlacadoolaa.PartW
open Go Go.RowKit Go.Shelf Go.Proofs.Ytlfdmlacadoolaa.A Go.Proofs.Ytlfdmlacadoolaa.Sp Go.Proofs.Ytlfdmlacadoolaa.Reg Go.Proofs.Ytlfdmlacadoolaa.Seq Go.Proofs.YtlfdmlacadoolaaW.PrintWords Go.Proofs.YtlfdmlacadoolaaW.PrintLast Go.Proofs.YtlfdmlacadoolaaW.PrintMore
/-- three ways meet: what comes behind them is shown once -/
theorem cut_w {P F : Option Addr → Nat → Option Addr → Nat → Nat → World → Prop} {G : Prop} (m : (∀ A c Ap cp n W, F A c Ap cp n W → P A c Ap cp n W) → G) (t : ∀ A c Ap cp n W, F A c Ap cp n W → P A c Ap cp n W) : G := m t
theorem cut_v {P F : Option Addr → Nat → Nat → World → Prop} {G : Prop} (m : (∀ A c n W, F A c n W → P A c n W) → G) (t : ∀ A c n W, F A c n W → P A c n W) : G := m t
theorem grown_d (id : Int) (N : Nat) (w : World) (hid : 0 ≤ id ∧ id ≤ 999) (hN : N ≤ 900) {G : Grp} (hG : groG id N = G) : Calls Try.prog 33 #[.int .i64 id, .int .i64 (N : Int)] w fun e w' => ∃ A c, e = .returned (.tuple #[vG G A c, .bool true]) ∧ Rd w' A c G.l ∧ Below w.heap.size w w' := by
  rw [← hG]; exact grown_calls id N w hid hN
def snaP (x t : Int) : Prt := ⟨5, 4, [], 0, 0, 0, x, t, false, false⟩
theorem sna_chk {g : Grp} (hid : g.id = 5) {x t : Int} (hx : 1 ≤ x ∧ x ≤ 1000000) (ht : 1 ≤ t ∧ t ≤ 1000000) : chkG g (snaP x t) = if x < g.fi then 15 else 0 := by
  unfold chkG
  rw [if_pos ⟨by
    unfold isP snaP isM noL noH
    dsimp only
    rw [if_neg (by decide), if_neg (by decide), if_neg (by decide), if_pos rfl, decide_eq_true (by omega), decide_eq_true (show (1 ≤ x ∧ x ≤ 1099511627776 ∧ (1 : Int) ≤ t ∧ t ≤ 1099511627776) by omega)]
    rfl, by show ¬ (4 : Int) = 6; decide, by show ¬ (4 : Int) = 5; decide, hid.symm⟩]
  unfold chkK
  rw [if_neg (by show ¬ (4 : Int) = 1; decide), if_neg (by show ¬ (4 : Int) = 3; decide), if_pos (show (snaP x t).k = 4 from rfl)]
  rfl
theorem wrI {x : Int} (h : -1000000 ≤ x ∧ x ≤ 1000000) : IntKind.i64.wrap x = x := by rw [i64_w]; unfold wrap64; omega
theorem wr6 {x : Int} (h : -1000000 ≤ x ∧ x ≤ 1000000) : wrap64 x = x := by unfold wrap64; omega
/-- what a snapshot makes of a grown group -/
theorem sna_do {N I : Nat} {T : Int} (h1 : 1 ≤ I) (h2 : I ≤ 20) (h3 : N ≤ 12) (hT : T = (I : Int) ∨ T = (I : Int) + 30) : chwG (groG 5 N) (snaP (I : Int) T) = 0 ∧ dwG (groG 5 N) (snaP (I : Int) T) = ⟨5, (I : Int) + 1, T, 0, 0, 0, if T = (I : Int) ∧ I ≤ N then (groG 5 N).l.drop I else []⟩ := by
  have hD := gro_dense (id := 5) (k := N) ⟨by decide, by decide⟩ (by omega)
  have hla := gro_last (id := 5) (k := N) ⟨by decide, by decide⟩ (by omega)
  have hfi : (groG 5 N).fi = 1 := rfl
  have hc : chkG (groG 5 N) (snaP (I : Int) T) = 0 := by
    rw [sna_chk rfl ⟨by omega, by omega⟩ ⟨by omega, by omega⟩, if_neg (by rw [hfi]; omega)]
  refine ⟨by rw [chw_chk hD]; exact hc, ?_⟩
  rw [dw_do hD, if_pos hc]
  unfold doRG
  rw [if_neg (by show ¬ (4 : Int) = 1; decide), if_neg (by show ¬ (4 : Int) = 2; decide), if_neg (by show ¬ (4 : Int) = 3; decide), if_pos (show (snaP (I : Int) T).k = 4 from rfl)]
  show (⟨5, (I : Int) + 1, T, 0, 0, 0, if 0 ≤ atL (groG 5 N).l (I : Int) ∧ termL (groG 5 N).l (I : Int) = T then fromL (groG 5 N).l ((I : Int) + 1) else []⟩ : Grp) = _
  congr 1
  by_cases hi : I ≤ N
  · have h4 := dense_at hD (x := (I : Int)) (by rw [hfi]; omega) (by rw [hla]; omega)
    have h5 := from_drop hD (x := (I : Int) + 1) (by rw [hfi]; omega) (by omega)
    rw [h4.1, h4.2, h5, hfi, show ((I : Int) - 1).toNat = I - 1 by omega, gro_el (by omega), show ((I : Int) + 1 - 1).toNat = I by omega]
    have h6 : ((I - 1 : Nat) : Int) + 1 = (I : Int) := by omega
    show (if (0 : Int) ≤ (I : Int) - 1 ∧ ((I - 1 : Nat) : Int) + 1 = T then _ else _) = _
    rw [h6]
    by_cases ht : T = (I : Int)
    · rw [if_pos ⟨by omega, ht.symm⟩, if_pos ⟨ht, hi⟩]
    · rw [if_neg (fun h => ht h.2.symm), if_neg (fun h => ht h.1)]
  · have ha : atL (groG 5 N).l (I : Int) = -1 := atL_miss (fun j hj => by rw [gro_len] at hj; rw [gro_el hj]; show (j : Int) + 1 ≠ (I : Int); omega)
    rw [if_neg (fun h => by rw [ha] at h; exact absurd h.1 (by decide)), if_neg (fun h => hi h.2)]
theorem sna_facts {N I K : Nat} {T : Int} (h1 : 1 ≤ I) (h2 : I ≤ 20) (h3 : N ≤ 12) (hT : T = (I : Int) ∨ T = (I : Int) + 30) (hK : K = if T = (I : Int) ∧ I < N then N else I) :
    ∃ H Y : Grp, dwG (groG 5 N) (snaP (I : Int) T) = H ∧ chwG (groG 5 N) (snaP (I : Int) T) = 0 ∧ trm H (I : Int) = (T, 0) ∧ H.fi = (I : Int) + 1 ∧ lastG H = (K : Int) ∧ isG true H = true ∧ H.l.length ≤ 12 ∧
      chwG H (appP 5 ((K : Int) + 2) 90 1) = 14 ∧ dwG H (appP 5 ((K : Int) + 2) 90 1) = H ∧ chwG H (appP 5 ((K : Int) + 1) 90 1) = 0 ∧ dwG H (appP 5 ((K : Int) + 1) 90 1) = Y ∧ lastG Y = (K : Int) + 1 ∧ isG true Y = true := by
  obtain ⟨hc, hd⟩ := sna_do h1 h2 h3 hT
  have hH : isG true (dwG (groG 5 N) (snaP (I : Int) T)) = true := do_dense (gro_dense (id := 5) (k := N) ⟨by decide, by decide⟩ (by omega)) _
  obtain ⟨H, hHe⟩ : ∃ H, dwG (groG 5 N) (snaP (I : Int) T) = H := ⟨_, rfl⟩
  rw [hHe] at hH hd
  have f1 : H.fi = (I : Int) + 1 := by rw [hd]
  have f2 : H.tm = T := by rw [hd]
  have f3 : H.id = 5 := by rw [hd]
  have f4 : H.l.length = K - I := by
    rw [hd, hK]; dsimp only
    by_cases ht : T = (I : Int)
    · by_cases hi : I ≤ N
      · rw [if_pos ⟨ht, hi⟩, List.length_drop, gro_len]
        by_cases hj : I < N
        · rw [if_pos ⟨ht, hj⟩]
        · rw [if_neg (fun h => hj h.2)]; omega
      · rw [if_neg (fun h => hi h.2), if_neg (fun h => hi (Nat.le_of_lt h.2))]; simp
    · rw [if_neg (fun h => ht h.1), if_neg (fun h => ht h.1)]; simp
  have hKI : I ≤ K ∧ K ≤ 20 ∧ K - I ≤ 12 := by
    rw [hK]; split
    · rename_i h; omega
    · omega
  have f5 : lastG H = (K : Int) := by rw [dense_last hH, f1, f4]; omega
  have hck := fun (j : Int) (a : 1 ≤ j) (b : j ≤ 1000000) => app_chk (g := H) (i := j) (t := 90) (N := 1) hH a b (by decide) (by decide) (by rw [f3]; decide)
  rw [f3] at hck
  have c14 : chwG H (appP 5 ((K : Int) + 2) 90 1) = 14 := by
    rw [chw_chk hH, hck _ (by omega) (by omega), if_neg (by rw [f1]; omega), if_pos (by rw [f1, f4]; omega)]
  have c0 : chkG H (appP 5 ((K : Int) + 1) 90 1) = 0 := by
    rw [hck _ (by omega) (by omega), if_neg (by rw [f1]; omega), if_neg (by rw [f1, f4]; omega)]
  have hY := do_dense hH (appP 5 ((K : Int) + 1) 90 1)
  obtain ⟨_, v, r1, r2, _⟩ := app_reads hH c0 rfl
  refine ⟨H, _, hHe, hc, ?_, f1, f5, hH, by rw [f4]; exact hKI.2.2, c14, by unfold dwG; rw [if_neg (by rw [c14]; decide)], by rw [chw_chk hH]; exact c0, rfl, ?_, hY⟩
  · unfold trm
    rw [f1, f2, if_neg (by omega), if_pos (by omega)]
  · rw [r1, r2]
    show (el (appL _ _ 1) 0).f0 + ((appL _ _ 1).length : Int) - 1 = _
    rw [appL_el (by omega), appL_len]
    show (K : Int) + 1 + ((0 : Nat) : Int) + 1 - 1 = _
    omega
set_option maxHeartbeats 8000000 in
set_option maxRecDepth 100000 in
theorem snaps6_tail (I J : Nat) (T : Int) (H Y : Grp) (P Q : Prt) (A2 : Option Addr) (c2 n9 : Nat) (w W : World) (C : Code) (hC : (match Try.f9.body with | some (.seq _ (.seq _ (.seq _ (.seq _ (.seq _ (.seq _ (.seq _ (.seq _ (.seq _ (.seq _ (.seq _ c))))))))))) => c | _ => .skip) = C) (u0 u1 u2 u3 u4 u5 u6 u7 u10 u17 u18 u19 u20 u21 u22 u23 u24 u25 u26 u27 u28 u29 u30 u31 u32 u33 u34 u35 u36 u37 u38 u39 u40 u41 u42 u43 u44 u45 u46 u47 u48 u49 u50 u51 u52 u53 u54 u55 u56 u57 u58 u59 u60 u61 u62 u63 u64 u65 u66 u67 u68 u69 u70 u71 u72 u73 u74 u75 u76 u77 u78 u79 u80 u81 u82 u83 u84 u85 u86 u87 u88 u89 u90 u91 u92 u93 u94 u95 u96 u97 u98 u99 u100 u101 u102 u103 u104 u105 u106 u107 u108 u109 u110 u111 u112 u113 u114 u115 u116 u117 u118 u119 u120 u121 u122 u123 u124 : Value) (hI : 1 ≤ I ∧ I ≤ 20) (hJ : 1 ≤ J ∧ J ≤ 20) (hP : appP 5 ((J : Int) + 2) 90 1 = P) (hQ : appP 5 ((J : Int) + 1) 90 1 = Q) (hb : Bel w W) (hr : Rd W A2 c2 H.l) (hh : BlkG H A2 c2 n9 W) (hla : lastG H = (J : Int)) (hfi : H.fi = (I : Int) + 1) (k3 : chwG H P = 14 ∧ dwG H P = H) (k4 : chwG H Q = 0 ∧ dwG H Q = Y) (ky : lastG Y = (J : Int) + 1 ∧ isG true Y = true) (hl : H.l.length ≤ 12) :
  C.wp Try.prog (bodyPost Try.prog Try.f9 fun e w' => e = .returned (.bool true) ∧ Below w.heap.size w w') { tmps := #[u0, u1, u2, u3, u4, u5, u6, u7, .int .i64 (I : Int), .int .i64 T, u10, .bool true, .pointer (some ⟨n9, 0, none⟩), .int .i64 0, .int .i64 T, .int .i64 0, .int .i64 (J : Int), u17, u18, u19, u20, u21, u22, u23, u24, u25, u26, u27, u28, u29, u30, u31, u32, u33, u34, u35, u36, u37, u38, u39, u40, u41, u42, u43, u44, u45, u46, u47, u48, u49, u50, u51, u52, u53, u54, u55, u56, u57, u58, u59, u60, u61, u62, u63, u64, u65, u66, u67, u68, u69, u70, u71, u72, u73, u74, u75, u76, u77, u78, u79, u80, u81, u82, u83, u84, u85, u86, u87, u88, u89, u90, u91, u92, u93, u94, u95, u96, u97, u98, u99, u100, u101, u102, u103, u104, u105, u106, u107, u108, u109, u110, u111, u112, u113, u114, u115, u116, u117, u118, u119, u120, u121, u122, u123, u124], defers := [] } W := by
 have HN := Aside0.mk (And.intro hI hJ)
 have JP := Aside0.mk hP
 have JQ := Aside0.mk hQ
 have K3 := Aside0.mk k3
 have K4 := Aside0.mk k4
 have KY := Aside0.mk ky
 have KL := Aside0.mk hla
 have LP : Aside0 (H.l.length + P.l.length ≤ 4398046511104) := ⟨by rw [← hP]; show H.l.length + (appL _ _ 1).length ≤ _; rw [appL_len]; omega⟩
 have LQ : Aside0 (H.l.length + Q.l.length ≤ 4398046511104) := ⟨by rw [← hQ]; show H.l.length + (appL _ _ 1).length ≤ _; rw [appL_len]; omega⟩
 have q1 : (H.fi == (I : Int) + 1) = true := beq_iff_eq.2 hfi
 have v1 : IntKind.i64.wrap ((I : Int) + 1) = (I : Int) + 1 := wrI ⟨by omega, by omega⟩
 have v2 : IntKind.i64.wrap ((J : Int) + 1) = (J : Int) + 1 := wrI ⟨by omega, by omega⟩
 have v3 : IntKind.i64.wrap ((J : Int) + 2) = (J : Int) + 2 := wrI ⟨by omega, by omega⟩
 have HB := Aside0.mk hb
 have HR2 := Aside0.mk hr
 have HH := Aside0.mk hh
 clear hI hJ hP hQ k3 k4 ky hla hfi hl hb hr hh
 simp only [Try.f9] at hC
 subst hC
 obtain ⟨hh0, hh1, hh2, hh3, hh4, hh5, hh6⟩ := HH.out.box
 obtain ⟨C15, hC15⟩ : ∃ C, (match Try.f9.body with | some (.seq _ (.seq _ (.seq _ (.seq _ (.seq _ (.seq _ (.seq _ (.seq _ (.seq _ (.seq _ (.seq _ (.seq _ c)))))))))))) => c | _ => .skip) = C := ⟨_, rfl⟩
 have HC15 := Aside0.mk hC15
 simp only [Try.f9] at hC15
 rw [hC15]
 clear hC15
 go_wp2_with fail
 clear hh0 hh1 hh2 hh3 hh4 hh5 hh6
 apply cut_w (F := fun A9 c9 Ap cp nX W55 => Bel w W55 ∧ Rd W55 A2 c2 H.l ∧ BlkG H A2 c2 n9 W55 ∧ Rd W55 A9 c9 H.l ∧ BlkG H A9 c9 nX W55 ∧ n9 < nX ∧ w.heap.size ≤ nX)
 · intro tl
   obtain ⟨nX, hXB⟩ : ∃ n, W.heap.size = n := ⟨_, rfl⟩
   have hXB2 : W.drew.heap.size = nX := hXB
   replace HB := ldB HB
   replace HR2 := ldR HR2
   replace HH := ldG HH
   refine start_ (n := 11) (S := (fun w' => BoxG H A2 c2 n9 w')) (ds := [9]) #[false,false,false,false,false,false,false,false,false,false,false] (by kernel_rfl) rfl rfl HH.out.box (fun hHeld => ?_)
   refine take_ (i := 0) (N := some 64) (v := ?_) (a' := ?_) #[true,false,false,false,false,false,false,false,false,false,false] rfl rfl (by kernel_rfl) (fun _ _ _ h => h) (Or.inl ⟨by rfl, ?_⟩) hHeld ?_ ?_
   rotate_left
   · rintro w' ⟨hh0, hh1, hh2, hh3, hh4, hh5, hh6⟩
     go_simp
     try with_reducible rfl
   rotate_left
   · simp only [Act.put, sA, sB, sC]
     rfl
   refine pure_ (i := 1) (N := some 65) (v := ?_) (a' := ?_) #[true,true,false,false,false,false,false,false,false,false,false] rfl rfl (by kernel_rfl) (fun _ _ _ h => h) (Or.inl ⟨by rfl, ?_⟩) ?_ ?_
   rotate_left
   · intro w'
     go_simp
     try with_reducible rfl
   rotate_left
   · simp only [Act.put, sA, sB, sC]
     rfl
   refine pure_ (i := 2) (N := some 66) (v := ?_) (a' := ?_) #[true,true,true,false,false,false,false,false,false,false,false] rfl rfl (by kernel_rfl) (fun _ _ _ h => h) (Or.inl ⟨by rfl, ?_⟩) ?_ ?_
   rotate_left
   · intro w'
     go_simp
     try with_reducible rfl
   rotate_left
   · simp only [Act.put, sA, sB, sC]
     rfl
   refine two_ (i := 3) (j := 8) (Ni := some 67) (Nj := some 17) #[true,true,true,true,false,false,false,false,false,false,false] #[true,true,true,false,false,false,false,false,true,false,false] rfl rfl rfl rfl (by kernel_rfl) (by decide) (by decide) (fun K hK => ?_) (fun K hK => ?_)
   · go_simp
     refine (appc 5 ((J : Int) + 2) 90 1 _ (by omega) (by have := HN.out; omega) JP.out rfl).mono ?_; rintro e w41 ⟨Ap, cp, rfl, hrd, hw⟩; have HRP := Aside0.mk hrd; replace HB := lbB HB hw; replace HR2 := lbR HR2 hw; replace HH := lbG HH hw; clear hrd hw
     refine hK.out _ _ ?_ (fun hHeld => ?_)
     · exact HH.out.box
     clear hK K
     try simp only [Act.put, sA, sB, sC]
     obtain ⟨nX, hXw41⟩ : ∃ n, w41.heap.size = n := ⟨_, rfl⟩
     refine two_ (i := 4) (j := 8) (Ni := some 68) (Nj := some 17) #[true,true,true,true,true,false,false,false,false,false,false] #[true,true,true,true,false,false,false,false,true,false,false] rfl rfl rfl rfl (by kernel_rfl) (by decide) (by decide) (fun K hK => ?_) (fun K hK => ?_)
     · go_simp
       refine (gdo_calls H A2 c2 P Ap cp _ HR2.out HRP.out LP.out K3.out.2 K3.out.1).mono ?_; rintro e w42 ⟨A9, c9, rfl, hrd, hw⟩; have HR9 := Aside0.mk hrd; replace HB := lbB HB hw; replace HR2 := lbR HR2 hw; replace HH := lbG HH hw; clear hrd hw
       refine hK.out _ _ ?_ (fun hHeld => ?_)
       · exact HH.out.box
       clear hK K
       try simp only [Act.put, sA, sB, sC]
       clear hXw41
       obtain ⟨nX, hXw42⟩ : ∃ n, w42.heap.size = n := ⟨_, rfl⟩
       refine pure_ (i := 5) (N := some 63) (v := ?_) (a' := ?_) #[true,true,true,true,true,true,false,false,false,false,false] rfl rfl (by kernel_rfl) (fun _ _ _ h => h) (Or.inl ⟨by rfl, ?_⟩) ?_ ?_
       rotate_left
       · intro w'
         go_simp
         try with_reducible rfl
       rotate_left
       · simp only [Act.put, sA, sB, sC]
         rfl
       refine pure_ (i := 6) (N := some 69) (v := ?_) (a' := ?_) #[true,true,true,true,true,true,true,false,false,false,false] rfl rfl (by kernel_rfl) (fun _ _ _ h => h) (Or.inl ⟨by rfl, ?_⟩) ?_ ?_
       rotate_left
       · intro w'
         go_simp
         try with_reducible rfl
       rotate_left
       · simp only [Act.put, sA, sB, sC]
         rfl
       refine pure_ (i := 7) (N := some 70) (v := ?_) (a' := ?_) #[true,true,true,true,true,true,true,true,false,false,false] rfl rfl (by kernel_rfl) (fun _ _ _ h => h) (Or.inl ⟨by rfl, ?_⟩) ?_ ?_
       rotate_left
       · intro w'
         go_simp
         try with_reducible rfl
       rotate_left
       · simp only [Act.put, sA, sB, sC]
         rfl
       refine one_ (i := 8) (N := some 17) #[true,true,true,true,true,true,true,true,true,false,false] rfl rfl (by kernel_rfl) (by decide) (fun K hK => ?_)
       go_simp
       refine hK.out _ _ ?_ (fun hHeld => ?_)
       · exact (laG HH (.cells #[.int .i64 0, .int .i64 0, .int .i64 0, .int .i64 0, .int .i64 0, .int .i64 0, .slice none 0 0] 26)).out.box
       clear hK K
       try simp only [Act.put, sA, sB, sC]
       have HX : Aside0 (BlkG ⟨0, 0, 0, 0, 0, 0, []⟩ none 0 nX (w42.alloc (.cells #[.int .i64 0, .int .i64 0, .int .i64 0, .int .i64 0, .int .i64 0, .int .i64 0, .slice none 0 0] 26))) := ⟨by have hq := BlkG.new ⟨0, 0, 0, 0, 0, 0, []⟩ none 0 w42; rw [hXw42] at hq; exact hq⟩
       have ltHH : n9 < nX := by rw [← hXw42]; exact (Array.getElem?_eq_some_iff.1 HH.out).1
       have ltB : w.heap.size ≤ nX := by rw [← hXw42]; exact HB.out.b.size
       replace HB := laB HB (.cells #[.int .i64 0, .int .i64 0, .int .i64 0, .int .i64 0, .int .i64 0, .int .i64 0, .slice none 0 0] 26)
       replace HR2 := laR HR2 (.cells #[.int .i64 0, .int .i64 0, .int .i64 0, .int .i64 0, .int .i64 0, .int .i64 0, .slice none 0 0] 26)
       replace HH := laG HH (.cells #[.int .i64 0, .int .i64 0, .int .i64 0, .int .i64 0, .int .i64 0, .int .i64 0, .slice none 0 0] 26)
       replace HR9 := laR HR9 (.cells #[.int .i64 0, .int .i64 0, .int .i64 0, .int .i64 0, .int .i64 0, .int .i64 0, .slice none 0 0] 26)
       clear hXw42
       obtain ⟨w42, hW3⟩ : ∃ W, w42.alloc (.cells #[.int .i64 0, .int .i64 0, .int .i64 0, .int .i64 0, .int .i64 0, .int .i64 0, .slice none 0 0] 26) = W := ⟨_, rfl⟩
       rw [hW3] at HB HR2 HH HR9 HX ⊢
       clear hW3
       obtain ⟨x0, x1, x2, x3, x4, x5, x6⟩ := HX.out.box
       have xf := HX.out.free
       refine last_ (i := 9) (N := none) #[true,true,true,true,true,true,true,true,true,true,false] rfl rfl (by kernel_rfl) (by decide) (fun K hK => ?_)
       go_simp
       refine hK.out _ _ ?_
       clear hK K
       try simp only [Act.put, sA, sB, sC]
       refine pure_ (i := 10) (N := some 18) (v := ?_) (a' := ?_) #[true,true,true,true,true,true,true,true,true,true,true] rfl rfl (by kernel_rfl) (fun _ _ _ h => h) (Or.inl ⟨by rfl, ?_⟩) ?_ ?_
       rotate_left
       · intro w'
         go_simp
         try with_reducible rfl
       rotate_left
       · simp only [Act.put, sA, sB, sC]
         rfl
       refine done_ (by kernel_rfl) ?_
       clear x0 x1 x2 x3 x4 x5 x6 xf
       have hx := only_store H A9 c9 nX w42
       replace HB := Aside0.mk (Bel.only HB.out hx (fun q hq h => by have h2 : q = nX := h; omega))
       replace HR2 := Aside0.mk (Rd.only HR2.out hx (fun q hq h => by have h3 : q = nX := h; subst h3; exact Rd.apartG HR2.out HX.out hq))
       replace HH := Aside0.mk (BlkG.only HH.out hx (fun h => by have h2 : n9 = nX := h; omega))
       replace HR9 := Aside0.mk (Rd.only HR9.out hx (fun q hq h => by have h3 : q = nX := h; subst h3; exact Rd.apartG HR9.out HX.out hq))
       replace HX := Aside0.mk (BlkG.store (g := H) (A := A9) (c := c9) HX.out)
       clear hx
       obtain ⟨W55, hW55⟩ : ∃ W, (((((((w42.setCell ⟨nX, 0, none⟩ (.int .i64 H.id)).setCell ⟨nX, 1, none⟩ (.int .i64 H.fi)).setCell ⟨nX, 2, none⟩ (.int .i64 H.tm)).setCell ⟨nX, 3, none⟩ (.int .i64 H.ht)).setCell ⟨nX, 4, none⟩ (.int .i64 H.hv)).setCell ⟨nX, 5, none⟩ (.int .i64 H.hc)).setCell ⟨nX, 6, none⟩ (.slice A9 H.l.length c9)) = W := ⟨_, rfl⟩
       rw [hW55] at HB HR2 HH HR9 HX ⊢
       clear hW55
       exact tl A9 c9 Ap cp nX W55 ⟨HB.out, HR2.out, HH.out, HR9.out, HX.out, ltHH, ltB⟩
     · go_simp
       refine hK.out _ _ ?_ (fun hHeld => ?_)
       · exact (laG HH (.cells #[.int .i64 0, .int .i64 0, .int .i64 0, .int .i64 0, .int .i64 0, .int .i64 0, .slice none 0 0] 26)).out.box
       clear hK K
       try simp only [Act.put, sA, sB, sC]
       have HX : Aside0 (BlkG ⟨0, 0, 0, 0, 0, 0, []⟩ none 0 nX (w41.alloc (.cells #[.int .i64 0, .int .i64 0, .int .i64 0, .int .i64 0, .int .i64 0, .int .i64 0, .slice none 0 0] 26))) := ⟨by have hq := BlkG.new ⟨0, 0, 0, 0, 0, 0, []⟩ none 0 w41; rw [hXw41] at hq; exact hq⟩
       have ltHH : n9 < nX := by rw [← hXw41]; exact (Array.getElem?_eq_some_iff.1 HH.out).1
       have ltB : w.heap.size ≤ nX := by rw [← hXw41]; exact HB.out.b.size
       replace HB := laB HB (.cells #[.int .i64 0, .int .i64 0, .int .i64 0, .int .i64 0, .int .i64 0, .int .i64 0, .slice none 0 0] 26)
       replace HR2 := laR HR2 (.cells #[.int .i64 0, .int .i64 0, .int .i64 0, .int .i64 0, .int .i64 0, .int .i64 0, .slice none 0 0] 26)
       replace HH := laG HH (.cells #[.int .i64 0, .int .i64 0, .int .i64 0, .int .i64 0, .int .i64 0, .int .i64 0, .slice none 0 0] 26)
       replace HRP := laR HRP (.cells #[.int .i64 0, .int .i64 0, .int .i64 0, .int .i64 0, .int .i64 0, .int .i64 0, .slice none 0 0] 26)
       clear hXw41
       refine one_ (i := 4) (N := some 68) #[true,true,true,true,true,false,false,false,true,false,false] rfl rfl (by kernel_rfl) (by decide) (fun K hK => ?_)
       go_simp
       refine (gdo_calls H A2 c2 P Ap cp _ HR2.out HRP.out LP.out K3.out.2 K3.out.1).mono ?_; rintro e w42 ⟨A9, c9, rfl, hrd, hw⟩; have HR9 := Aside0.mk hrd; replace HB := lbB HB hw; replace HR2 := lbR HR2 hw; replace HH := lbG HH hw; replace HX := lbG HX hw; clear hrd hw
       refine hK.out _ _ ?_ (fun hHeld => ?_)
       · exact HH.out.box
       clear hK K
       try simp only [Act.put, sA, sB, sC]
       obtain ⟨x0, x1, x2, x3, x4, x5, x6⟩ := HX.out.box
       have xf := HX.out.free
       refine pure_ (i := 5) (N := some 63) (v := ?_) (a' := ?_) #[true,true,true,true,true,true,false,false,true,false,false] rfl rfl (by kernel_rfl) (fun _ _ _ h => h) (Or.inl ⟨by rfl, ?_⟩) ?_ ?_
       rotate_left
       · intro w'
         go_simp
         try with_reducible rfl
       rotate_left
       · simp only [Act.put, sA, sB, sC]
         rfl
       refine pure_ (i := 6) (N := some 69) (v := ?_) (a' := ?_) #[true,true,true,true,true,true,true,false,true,false,false] rfl rfl (by kernel_rfl) (fun _ _ _ h => h) (Or.inl ⟨by rfl, ?_⟩) ?_ ?_
       rotate_left
       · intro w'
         go_simp
         try with_reducible rfl
       rotate_left
       · simp only [Act.put, sA, sB, sC]
         rfl
       refine pure_ (i := 7) (N := some 70) (v := ?_) (a' := ?_) #[true,true,true,true,true,true,true,true,true,false,false] rfl rfl (by kernel_rfl) (fun _ _ _ h => h) (Or.inl ⟨by rfl, ?_⟩) ?_ ?_
       rotate_left
       · intro w'
         go_simp
         try with_reducible rfl
       rotate_left
       · simp only [Act.put, sA, sB, sC]
         rfl
       refine last_ (i := 9) (N := none) #[true,true,true,true,true,true,true,true,true,true,false] rfl rfl (by kernel_rfl) (by decide) (fun K hK => ?_)
       go_simp
       refine hK.out _ _ ?_
       clear hK K
       try simp only [Act.put, sA, sB, sC]
       refine pure_ (i := 10) (N := some 18) (v := ?_) (a' := ?_) #[true,true,true,true,true,true,true,true,true,true,true] rfl rfl (by kernel_rfl) (fun _ _ _ h => h) (Or.inl ⟨by rfl, ?_⟩) ?_ ?_
       rotate_left
       · intro w'
         go_simp
         try with_reducible rfl
       rotate_left
       · simp only [Act.put, sA, sB, sC]
         rfl
       refine done_ (by kernel_rfl) ?_
       clear x0 x1 x2 x3 x4 x5 x6 xf
       have hx := only_store H A9 c9 nX w42
       replace HB := Aside0.mk (Bel.only HB.out hx (fun q hq h => by have h2 : q = nX := h; omega))
       replace HR2 := Aside0.mk (Rd.only HR2.out hx (fun q hq h => by have h3 : q = nX := h; subst h3; exact Rd.apartG HR2.out HX.out hq))
       replace HH := Aside0.mk (BlkG.only HH.out hx (fun h => by have h2 : n9 = nX := h; omega))
       replace HR9 := Aside0.mk (Rd.only HR9.out hx (fun q hq h => by have h3 : q = nX := h; subst h3; exact Rd.apartG HR9.out HX.out hq))
       replace HX := Aside0.mk (BlkG.store (g := H) (A := A9) (c := c9) HX.out)
       clear hx
       obtain ⟨W55, hW55⟩ : ∃ W, (((((((w42.setCell ⟨nX, 0, none⟩ (.int .i64 H.id)).setCell ⟨nX, 1, none⟩ (.int .i64 H.fi)).setCell ⟨nX, 2, none⟩ (.int .i64 H.tm)).setCell ⟨nX, 3, none⟩ (.int .i64 H.ht)).setCell ⟨nX, 4, none⟩ (.int .i64 H.hv)).setCell ⟨nX, 5, none⟩ (.int .i64 H.hc)).setCell ⟨nX, 6, none⟩ (.slice A9 H.l.length c9)) = W := ⟨_, rfl⟩
       rw [hW55] at HB HR2 HH HR9 HX ⊢
       clear hW55
       exact tl A9 c9 Ap cp nX W55 ⟨HB.out, HR2.out, HH.out, HR9.out, HX.out, ltHH, ltB⟩
   · go_simp
     refine hK.out _ _ ?_ (fun hHeld => ?_)
     · exact (laG HH (.cells #[.int .i64 0, .int .i64 0, .int .i64 0, .int .i64 0, .int .i64 0, .int .i64 0, .slice none 0 0] 26)).out.box
     clear hK K
     try simp only [Act.put, sA, sB, sC]
     have HX : Aside0 (BlkG ⟨0, 0, 0, 0, 0, 0, []⟩ none 0 nX (W.drew.alloc (.cells #[.int .i64 0, .int .i64 0, .int .i64 0, .int .i64 0, .int .i64 0, .int .i64 0, .slice none 0 0] 26))) := ⟨by have hq := BlkG.new ⟨0, 0, 0, 0, 0, 0, []⟩ none 0 W.drew; rw [hXB2] at hq; exact hq⟩
     have ltHH : n9 < nX := by rw [← hXB2]; exact (Array.getElem?_eq_some_iff.1 HH.out).1
     have ltB : w.heap.size ≤ nX := by rw [← hXB2]; exact HB.out.b.size
     replace HB := laB HB (.cells #[.int .i64 0, .int .i64 0, .int .i64 0, .int .i64 0, .int .i64 0, .int .i64 0, .slice none 0 0] 26)
     replace HR2 := laR HR2 (.cells #[.int .i64 0, .int .i64 0, .int .i64 0, .int .i64 0, .int .i64 0, .int .i64 0, .slice none 0 0] 26)
     replace HH := laG HH (.cells #[.int .i64 0, .int .i64 0, .int .i64 0, .int .i64 0, .int .i64 0, .int .i64 0, .slice none 0 0] 26)
     clear hXB2
     clear hXB
     refine one_ (i := 3) (N := some 67) #[true,true,true,true,false,false,false,false,true,false,false] rfl rfl (by kernel_rfl) (by decide) (fun K hK => ?_)
     go_simp
     refine (appc 5 ((J : Int) + 2) 90 1 _ (by omega) (by have := HN.out; omega) JP.out rfl).mono ?_; rintro e w41 ⟨Ap, cp, rfl, hrd, hw⟩; have HRP := Aside0.mk hrd; replace HB := lbB HB hw; replace HR2 := lbR HR2 hw; replace HH := lbG HH hw; replace HX := lbG HX hw; clear hrd hw
     refine hK.out _ _ ?_ (fun hHeld => ?_)
     · exact HH.out.box
     clear hK K
     try simp only [Act.put, sA, sB, sC]
     refine one_ (i := 4) (N := some 68) #[true,true,true,true,true,false,false,false,true,false,false] rfl rfl (by kernel_rfl) (by decide) (fun K hK => ?_)
     go_simp
     refine (gdo_calls H A2 c2 P Ap cp _ HR2.out HRP.out LP.out K3.out.2 K3.out.1).mono ?_; rintro e w42 ⟨A9, c9, rfl, hrd, hw⟩; have HR9 := Aside0.mk hrd; replace HB := lbB HB hw; replace HR2 := lbR HR2 hw; replace HH := lbG HH hw; replace HX := lbG HX hw; clear hrd hw
     refine hK.out _ _ ?_ (fun hHeld => ?_)
     · exact HH.out.box
     clear hK K
     try simp only [Act.put, sA, sB, sC]
     obtain ⟨x0, x1, x2, x3, x4, x5, x6⟩ := HX.out.box
     have xf := HX.out.free
     refine pure_ (i := 5) (N := some 63) (v := ?_) (a' := ?_) #[true,true,true,true,true,true,false,false,true,false,false] rfl rfl (by kernel_rfl) (fun _ _ _ h => h) (Or.inl ⟨by rfl, ?_⟩) ?_ ?_
     rotate_left
     · intro w'
       go_simp
       try with_reducible rfl
     rotate_left
     · simp only [Act.put, sA, sB, sC]
       rfl
     refine pure_ (i := 6) (N := some 69) (v := ?_) (a' := ?_) #[true,true,true,true,true,true,true,false,true,false,false] rfl rfl (by kernel_rfl) (fun _ _ _ h => h) (Or.inl ⟨by rfl, ?_⟩) ?_ ?_
     rotate_left
     · intro w'
       go_simp
       try with_reducible rfl
     rotate_left
     · simp only [Act.put, sA, sB, sC]
       rfl
     refine pure_ (i := 7) (N := some 70) (v := ?_) (a' := ?_) #[true,true,true,true,true,true,true,true,true,false,false] rfl rfl (by kernel_rfl) (fun _ _ _ h => h) (Or.inl ⟨by rfl, ?_⟩) ?_ ?_
     rotate_left
     · intro w'
       go_simp
       try with_reducible rfl
     rotate_left
     · simp only [Act.put, sA, sB, sC]
       rfl
     refine last_ (i := 9) (N := none) #[true,true,true,true,true,true,true,true,true,true,false] rfl rfl (by kernel_rfl) (by decide) (fun K hK => ?_)
     go_simp
     refine hK.out _ _ ?_
     clear hK K
     try simp only [Act.put, sA, sB, sC]
     refine pure_ (i := 10) (N := some 18) (v := ?_) (a' := ?_) #[true,true,true,true,true,true,true,true,true,true,true] rfl rfl (by kernel_rfl) (fun _ _ _ h => h) (Or.inl ⟨by rfl, ?_⟩) ?_ ?_
     rotate_left
     · intro w'
       go_simp
       try with_reducible rfl
     rotate_left
     · simp only [Act.put, sA, sB, sC]
       rfl
     refine done_ (by kernel_rfl) ?_
     clear x0 x1 x2 x3 x4 x5 x6 xf
     have hx := only_store H A9 c9 nX w42
     replace HB := Aside0.mk (Bel.only HB.out hx (fun q hq h => by have h2 : q = nX := h; omega))
     replace HR2 := Aside0.mk (Rd.only HR2.out hx (fun q hq h => by have h3 : q = nX := h; subst h3; exact Rd.apartG HR2.out HX.out hq))
     replace HH := Aside0.mk (BlkG.only HH.out hx (fun h => by have h2 : n9 = nX := h; omega))
     replace HR9 := Aside0.mk (Rd.only HR9.out hx (fun q hq h => by have h3 : q = nX := h; subst h3; exact Rd.apartG HR9.out HX.out hq))
     replace HX := Aside0.mk (BlkG.store (g := H) (A := A9) (c := c9) HX.out)
     clear hx
     obtain ⟨W55, hW55⟩ : ∃ W, (((((((w42.setCell ⟨nX, 0, none⟩ (.int .i64 H.id)).setCell ⟨nX, 1, none⟩ (.int .i64 H.fi)).setCell ⟨nX, 2, none⟩ (.int .i64 H.tm)).setCell ⟨nX, 3, none⟩ (.int .i64 H.ht)).setCell ⟨nX, 4, none⟩ (.int .i64 H.hv)).setCell ⟨nX, 5, none⟩ (.int .i64 H.hc)).setCell ⟨nX, 6, none⟩ (.slice A9 H.l.length c9)) = W := ⟨_, rfl⟩
     rw [hW55] at HB HR2 HH HR9 HX ⊢
     clear hW55
     exact tl A9 c9 Ap cp nX W55 ⟨HB.out, HR2.out, HH.out, HR9.out, HX.out, ltHH, ltB⟩
 intro A9 c9 Ap cp nX W55 hF
 obtain ⟨kHB, kHR2, kHH, kHR9, kHX, ltHH, ltB⟩ := hF
 replace HB := Aside0.mk kHB
 replace HR2 := Aside0.mk kHR2
 replace HH := Aside0.mk kHH
 have HR9 := Aside0.mk kHR9
 have HX := Aside0.mk kHX
 clear kHB kHR2 kHH kHR9 kHX
 clear HX
 clear HR9
 obtain ⟨hh0, hh1, hh2, hh3, hh4, hh5, hh6⟩ := HH.out.box
 go_wp2_with fail
 have hC15 := HC15.out
 simp only [Try.f9] at hC15
 subst hC15
 clear HC15
 obtain ⟨C16, hC16⟩ : ∃ C, (match Try.f9.body with | some (.seq _ (.seq _ (.seq _ (.seq _ (.seq _ (.seq _ (.seq _ (.seq _ (.seq _ (.seq _ (.seq _ (.seq _ (.seq _ c))))))))))))) => c | _ => .skip) = C := ⟨_, rfl⟩
 have HC16 := Aside0.mk hC16
 simp only [Try.f9] at hC16
 rw [hC16]
 clear hC16
 go_wp2_with fail
 clear hh0 hh1 hh2 hh3 hh4 hh5 hh6
 apply cut_w (F := fun A10 c10 Ap cp nX W66 => Bel w W66 ∧ Rd W66 A2 c2 H.l ∧ BlkG H A2 c2 n9 W66 ∧ Rd W66 A10 c10 Y.l ∧ BlkG Y A10 c10 nX W66 ∧ n9 < nX ∧ w.heap.size ≤ nX)
 · intro tl
   obtain ⟨nX, hXB⟩ : ∃ n, W55.heap.size = n := ⟨_, rfl⟩
   have hXB2 : W55.drew.heap.size = nX := hXB
   replace HB := ldB HB
   replace HR2 := ldR HR2
   replace HH := ldG HH
   refine start_ (n := 11) (S := (fun w' => BoxG H A2 c2 n9 w')) (ds := [9]) #[false,false,false,false,false,false,false,false,false,false,false] (by kernel_rfl) rfl rfl HH.out.box (fun hHeld => ?_)
   refine take_ (i := 0) (N := some 72) (v := ?_) (a' := ?_) #[true,false,false,false,false,false,false,false,false,false,false] rfl rfl (by kernel_rfl) (fun _ _ _ h => h) (Or.inl ⟨by rfl, ?_⟩) hHeld ?_ ?_
   rotate_left
   · rintro w' ⟨hh0, hh1, hh2, hh3, hh4, hh5, hh6⟩
     go_simp
     try with_reducible rfl
   rotate_left
   · simp only [Act.put, sA, sB, sC]
     rfl
   refine pure_ (i := 1) (N := some 73) (v := ?_) (a' := ?_) #[true,true,false,false,false,false,false,false,false,false,false] rfl rfl (by kernel_rfl) (fun _ _ _ h => h) (Or.inl ⟨by rfl, ?_⟩) ?_ ?_
   rotate_left
   · intro w'
     go_simp
     try with_reducible rfl
   rotate_left
   · simp only [Act.put, sA, sB, sC]
     rfl
   refine pure_ (i := 2) (N := some 74) (v := ?_) (a' := ?_) #[true,true,true,false,false,false,false,false,false,false,false] rfl rfl (by kernel_rfl) (fun _ _ _ h => h) (Or.inl ⟨by rfl, ?_⟩) ?_ ?_
   rotate_left
   · intro w'
     go_simp
     try with_reducible rfl
   rotate_left
   · simp only [Act.put, sA, sB, sC]
     rfl
   refine two_ (i := 3) (j := 8) (Ni := some 75) (Nj := some 19) #[true,true,true,true,false,false,false,false,false,false,false] #[true,true,true,false,false,false,false,false,true,false,false] rfl rfl rfl rfl (by kernel_rfl) (by decide) (by decide) (fun K hK => ?_) (fun K hK => ?_)
   · go_simp
     refine (appc 5 ((J : Int) + 1) 90 1 _ (by omega) (by have := HN.out; omega) JQ.out rfl).mono ?_; rintro e w41 ⟨Ap, cp, rfl, hrd, hw⟩; have HRQ := Aside0.mk hrd; replace HB := lbB HB hw; replace HR2 := lbR HR2 hw; replace HH := lbG HH hw; clear hrd hw
     refine hK.out _ _ ?_ (fun hHeld => ?_)
     · exact HH.out.box
     clear hK K
     try simp only [Act.put, sA, sB, sC]
     obtain ⟨nX, hXw41⟩ : ∃ n, w41.heap.size = n := ⟨_, rfl⟩
     refine two_ (i := 4) (j := 8) (Ni := some 76) (Nj := some 19) #[true,true,true,true,true,false,false,false,false,false,false] #[true,true,true,true,false,false,false,false,true,false,false] rfl rfl rfl rfl (by kernel_rfl) (by decide) (by decide) (fun K hK => ?_) (fun K hK => ?_)
     · go_simp
       refine (gdo_calls H A2 c2 Q Ap cp _ HR2.out HRQ.out LQ.out K4.out.2 K4.out.1).mono ?_; rintro e w42 ⟨A10, c10, rfl, hrd, hw⟩; have HR10 := Aside0.mk hrd; replace HB := lbB HB hw; replace HR2 := lbR HR2 hw; replace HH := lbG HH hw; clear hrd hw
       refine hK.out _ _ ?_ (fun hHeld => ?_)
       · exact HH.out.box
       clear hK K
       try simp only [Act.put, sA, sB, sC]
       clear hXw41
       obtain ⟨nX, hXw42⟩ : ∃ n, w42.heap.size = n := ⟨_, rfl⟩
       refine pure_ (i := 5) (N := some 71) (v := ?_) (a' := ?_) #[true,true,true,true,true,true,false,false,false,false,false] rfl rfl (by kernel_rfl) (fun _ _ _ h => h) (Or.inl ⟨by rfl, ?_⟩) ?_ ?_
       rotate_left
       · intro w'
         go_simp
         try with_reducible rfl
       rotate_left
       · simp only [Act.put, sA, sB, sC]
         rfl
       refine pure_ (i := 6) (N := some 77) (v := ?_) (a' := ?_) #[true,true,true,true,true,true,true,false,false,false,false] rfl rfl (by kernel_rfl) (fun _ _ _ h => h) (Or.inl ⟨by rfl, ?_⟩) ?_ ?_
       rotate_left
       · intro w'
         go_simp
         try with_reducible rfl
       rotate_left
       · simp only [Act.put, sA, sB, sC]
         rfl
       refine pure_ (i := 7) (N := some 78) (v := ?_) (a' := ?_) #[true,true,true,true,true,true,true,true,false,false,false] rfl rfl (by kernel_rfl) (fun _ _ _ h => h) (Or.inl ⟨by rfl, ?_⟩) ?_ ?_
       rotate_left
       · intro w'
         go_simp
         try with_reducible rfl
       rotate_left
       · simp only [Act.put, sA, sB, sC]
         rfl
       refine one_ (i := 8) (N := some 19) #[true,true,true,true,true,true,true,true,true,false,false] rfl rfl (by kernel_rfl) (by decide) (fun K hK => ?_)
       go_simp
       refine hK.out _ _ ?_ (fun hHeld => ?_)
       · exact (laG HH (.cells #[.int .i64 0, .int .i64 0, .int .i64 0, .int .i64 0, .int .i64 0, .int .i64 0, .slice none 0 0] 26)).out.box
       clear hK K
       try simp only [Act.put, sA, sB, sC]
       have HX : Aside0 (BlkG ⟨0, 0, 0, 0, 0, 0, []⟩ none 0 nX (w42.alloc (.cells #[.int .i64 0, .int .i64 0, .int .i64 0, .int .i64 0, .int .i64 0, .int .i64 0, .slice none 0 0] 26))) := ⟨by have hq := BlkG.new ⟨0, 0, 0, 0, 0, 0, []⟩ none 0 w42; rw [hXw42] at hq; exact hq⟩
       have ltHH : n9 < nX := by rw [← hXw42]; exact (Array.getElem?_eq_some_iff.1 HH.out).1
       have ltB : w.heap.size ≤ nX := by rw [← hXw42]; exact HB.out.b.size
       replace HB := laB HB (.cells #[.int .i64 0, .int .i64 0, .int .i64 0, .int .i64 0, .int .i64 0, .int .i64 0, .slice none 0 0] 26)
       replace HR2 := laR HR2 (.cells #[.int .i64 0, .int .i64 0, .int .i64 0, .int .i64 0, .int .i64 0, .int .i64 0, .slice none 0 0] 26)
       replace HH := laG HH (.cells #[.int .i64 0, .int .i64 0, .int .i64 0, .int .i64 0, .int .i64 0, .int .i64 0, .slice none 0 0] 26)
       replace HR10 := laR HR10 (.cells #[.int .i64 0, .int .i64 0, .int .i64 0, .int .i64 0, .int .i64 0, .int .i64 0, .slice none 0 0] 26)
       clear hXw42
       obtain ⟨w42, hW3⟩ : ∃ W, w42.alloc (.cells #[.int .i64 0, .int .i64 0, .int .i64 0, .int .i64 0, .int .i64 0, .int .i64 0, .slice none 0 0] 26) = W := ⟨_, rfl⟩
       rw [hW3] at HB HR2 HH HR10 HX ⊢
       clear hW3
       obtain ⟨x0, x1, x2, x3, x4, x5, x6⟩ := HX.out.box
       have xf := HX.out.free
       refine last_ (i := 9) (N := none) #[true,true,true,true,true,true,true,true,true,true,false] rfl rfl (by kernel_rfl) (by decide) (fun K hK => ?_)
       go_simp
       refine hK.out _ _ ?_
       clear hK K
       try simp only [Act.put, sA, sB, sC]
       refine pure_ (i := 10) (N := some 20) (v := ?_) (a' := ?_) #[true,true,true,true,true,true,true,true,true,true,true] rfl rfl (by kernel_rfl) (fun _ _ _ h => h) (Or.inl ⟨by rfl, ?_⟩) ?_ ?_
       rotate_left
       · intro w'
         go_simp
         try with_reducible rfl
       rotate_left
       · simp only [Act.put, sA, sB, sC]
         rfl
       refine done_ (by kernel_rfl) ?_
       clear x0 x1 x2 x3 x4 x5 x6 xf
       have hx := only_store Y A10 c10 nX w42
       replace HB := Aside0.mk (Bel.only HB.out hx (fun q hq h => by have h2 : q = nX := h; omega))
       replace HR2 := Aside0.mk (Rd.only HR2.out hx (fun q hq h => by have h3 : q = nX := h; subst h3; exact Rd.apartG HR2.out HX.out hq))
       replace HH := Aside0.mk (BlkG.only HH.out hx (fun h => by have h2 : n9 = nX := h; omega))
       replace HR10 := Aside0.mk (Rd.only HR10.out hx (fun q hq h => by have h3 : q = nX := h; subst h3; exact Rd.apartG HR10.out HX.out hq))
       replace HX := Aside0.mk (BlkG.store (g := Y) (A := A10) (c := c10) HX.out)
       clear hx
       obtain ⟨W66, hW66⟩ : ∃ W, (((((((w42.setCell ⟨nX, 0, none⟩ (.int .i64 Y.id)).setCell ⟨nX, 1, none⟩ (.int .i64 Y.fi)).setCell ⟨nX, 2, none⟩ (.int .i64 Y.tm)).setCell ⟨nX, 3, none⟩ (.int .i64 Y.ht)).setCell ⟨nX, 4, none⟩ (.int .i64 Y.hv)).setCell ⟨nX, 5, none⟩ (.int .i64 Y.hc)).setCell ⟨nX, 6, none⟩ (.slice A10 Y.l.length c10)) = W := ⟨_, rfl⟩
       rw [hW66] at HB HR2 HH HR10 HX ⊢
       clear hW66
       exact tl A10 c10 Ap cp nX W66 ⟨HB.out, HR2.out, HH.out, HR10.out, HX.out, ltHH, ltB⟩
     · go_simp
       refine hK.out _ _ ?_ (fun hHeld => ?_)
       · exact (laG HH (.cells #[.int .i64 0, .int .i64 0, .int .i64 0, .int .i64 0, .int .i64 0, .int .i64 0, .slice none 0 0] 26)).out.box
       clear hK K
       try simp only [Act.put, sA, sB, sC]
       have HX : Aside0 (BlkG ⟨0, 0, 0, 0, 0, 0, []⟩ none 0 nX (w41.alloc (.cells #[.int .i64 0, .int .i64 0, .int .i64 0, .int .i64 0, .int .i64 0, .int .i64 0, .slice none 0 0] 26))) := ⟨by have hq := BlkG.new ⟨0, 0, 0, 0, 0, 0, []⟩ none 0 w41; rw [hXw41] at hq; exact hq⟩
       have ltHH : n9 < nX := by rw [← hXw41]; exact (Array.getElem?_eq_some_iff.1 HH.out).1
       have ltB : w.heap.size ≤ nX := by rw [← hXw41]; exact HB.out.b.size
       replace HB := laB HB (.cells #[.int .i64 0, .int .i64 0, .int .i64 0, .int .i64 0, .int .i64 0, .int .i64 0, .slice none 0 0] 26)
       replace HR2 := laR HR2 (.cells #[.int .i64 0, .int .i64 0, .int .i64 0, .int .i64 0, .int .i64 0, .int .i64 0, .slice none 0 0] 26)
       replace HH := laG HH (.cells #[.int .i64 0, .int .i64 0, .int .i64 0, .int .i64 0, .int .i64 0, .int .i64 0, .slice none 0 0] 26)
       replace HRQ := laR HRQ (.cells #[.int .i64 0, .int .i64 0, .int .i64 0, .int .i64 0, .int .i64 0, .int .i64 0, .slice none 0 0] 26)
       clear hXw41
       refine one_ (i := 4) (N := some 76) #[true,true,true,true,true,false,false,false,true,false,false] rfl rfl (by kernel_rfl) (by decide) (fun K hK => ?_)
       go_simp
       refine (gdo_calls H A2 c2 Q Ap cp _ HR2.out HRQ.out LQ.out K4.out.2 K4.out.1).mono ?_; rintro e w42 ⟨A10, c10, rfl, hrd, hw⟩; have HR10 := Aside0.mk hrd; replace HB := lbB HB hw; replace HR2 := lbR HR2 hw; replace HH := lbG HH hw; replace HX := lbG HX hw; clear hrd hw
       refine hK.out _ _ ?_ (fun hHeld => ?_)
       · exact HH.out.box
       clear hK K
       try simp only [Act.put, sA, sB, sC]
       obtain ⟨x0, x1, x2, x3, x4, x5, x6⟩ := HX.out.box
       have xf := HX.out.free
       refine pure_ (i := 5) (N := some 71) (v := ?_) (a' := ?_) #[true,true,true,true,true,true,false,false,true,false,false] rfl rfl (by kernel_rfl) (fun _ _ _ h => h) (Or.inl ⟨by rfl, ?_⟩) ?_ ?_
       rotate_left
       · intro w'
         go_simp
         try with_reducible rfl
       rotate_left
       · simp only [Act.put, sA, sB, sC]
         rfl
       refine pure_ (i := 6) (N := some 77) (v := ?_) (a' := ?_) #[true,true,true,true,true,true,true,false,true,false,false] rfl rfl (by kernel_rfl) (fun _ _ _ h => h) (Or.inl ⟨by rfl, ?_⟩) ?_ ?_
       rotate_left
       · intro w'
         go_simp
         try with_reducible rfl
       rotate_left
       · simp only [Act.put, sA, sB, sC]
         rfl
       refine pure_ (i := 7) (N := some 78) (v := ?_) (a' := ?_) #[true,true,true,true,true,true,true,true,true,false,false] rfl rfl (by kernel_rfl) (fun _ _ _ h => h) (Or.inl ⟨by rfl, ?_⟩) ?_ ?_
       rotate_left
       · intro w'
         go_simp
         try with_reducible rfl
       rotate_left
       · simp only [Act.put, sA, sB, sC]
         rfl
       refine last_ (i := 9) (N := none) #[true,true,true,true,true,true,true,true,true,true,false] rfl rfl (by kernel_rfl) (by decide) (fun K hK => ?_)
       go_simp
       refine hK.out _ _ ?_
       clear hK K
       try simp only [Act.put, sA, sB, sC]
       refine pure_ (i := 10) (N := some 20) (v := ?_) (a' := ?_) #[true,true,true,true,true,true,true,true,true,true,true] rfl rfl (by kernel_rfl) (fun _ _ _ h => h) (Or.inl ⟨by rfl, ?_⟩) ?_ ?_
       rotate_left
       · intro w'
         go_simp
         try with_reducible rfl
       rotate_left
       · simp only [Act.put, sA, sB, sC]
         rfl
       refine done_ (by kernel_rfl) ?_
       clear x0 x1 x2 x3 x4 x5 x6 xf
       have hx := only_store Y A10 c10 nX w42
       replace HB := Aside0.mk (Bel.only HB.out hx (fun q hq h => by have h2 : q = nX := h; omega))
       replace HR2 := Aside0.mk (Rd.only HR2.out hx (fun q hq h => by have h3 : q = nX := h; subst h3; exact Rd.apartG HR2.out HX.out hq))
       replace HH := Aside0.mk (BlkG.only HH.out hx (fun h => by have h2 : n9 = nX := h; omega))
       replace HR10 := Aside0.mk (Rd.only HR10.out hx (fun q hq h => by have h3 : q = nX := h; subst h3; exact Rd.apartG HR10.out HX.out hq))
       replace HX := Aside0.mk (BlkG.store (g := Y) (A := A10) (c := c10) HX.out)
       clear hx
       obtain ⟨W66, hW66⟩ : ∃ W, (((((((w42.setCell ⟨nX, 0, none⟩ (.int .i64 Y.id)).setCell ⟨nX, 1, none⟩ (.int .i64 Y.fi)).setCell ⟨nX, 2, none⟩ (.int .i64 Y.tm)).setCell ⟨nX, 3, none⟩ (.int .i64 Y.ht)).setCell ⟨nX, 4, none⟩ (.int .i64 Y.hv)).setCell ⟨nX, 5, none⟩ (.int .i64 Y.hc)).setCell ⟨nX, 6, none⟩ (.slice A10 Y.l.length c10)) = W := ⟨_, rfl⟩
       rw [hW66] at HB HR2 HH HR10 HX ⊢
       clear hW66
       exact tl A10 c10 Ap cp nX W66 ⟨HB.out, HR2.out, HH.out, HR10.out, HX.out, ltHH, ltB⟩
   · go_simp
     refine hK.out _ _ ?_ (fun hHeld => ?_)
     · exact (laG HH (.cells #[.int .i64 0, .int .i64 0, .int .i64 0, .int .i64 0, .int .i64 0, .int .i64 0, .slice none 0 0] 26)).out.box
     clear hK K
     try simp only [Act.put, sA, sB, sC]
     have HX : Aside0 (BlkG ⟨0, 0, 0, 0, 0, 0, []⟩ none 0 nX (W55.drew.alloc (.cells #[.int .i64 0, .int .i64 0, .int .i64 0, .int .i64 0, .int .i64 0, .int .i64 0, .slice none 0 0] 26))) := ⟨by have hq := BlkG.new ⟨0, 0, 0, 0, 0, 0, []⟩ none 0 W55.drew; rw [hXB2] at hq; exact hq⟩
     have ltHH : n9 < nX := by rw [← hXB2]; exact (Array.getElem?_eq_some_iff.1 HH.out).1
     have ltB : w.heap.size ≤ nX := by rw [← hXB2]; exact HB.out.b.size
     replace HB := laB HB (.cells #[.int .i64 0, .int .i64 0, .int .i64 0, .int .i64 0, .int .i64 0, .int .i64 0, .slice none 0 0] 26)
     replace HR2 := laR HR2 (.cells #[.int .i64 0, .int .i64 0, .int .i64 0, .int .i64 0, .int .i64 0, .int .i64 0, .slice none 0 0] 26)
     replace HH := laG HH (.cells #[.int .i64 0, .int .i64 0, .int .i64 0, .int .i64 0, .int .i64 0, .int .i64 0, .slice none 0 0] 26)
     clear hXB2
     clear hXB
     refine one_ (i := 3) (N := some 75) #[true,true,true,true,false,false,false,false,true,false,false] rfl rfl (by kernel_rfl) (by decide) (fun K hK => ?_)
     go_simp
     refine (appc 5 ((J : Int) + 1) 90 1 _ (by omega) (by have := HN.out; omega) JQ.out rfl).mono ?_; rintro e w41 ⟨Ap, cp, rfl, hrd, hw⟩; have HRQ := Aside0.mk hrd; replace HB := lbB HB hw; replace HR2 := lbR HR2 hw; replace HH := lbG HH hw; replace HX := lbG HX hw; clear hrd hw
     refine hK.out _ _ ?_ (fun hHeld => ?_)
     · exact HH.out.box
     clear hK K
     try simp only [Act.put, sA, sB, sC]
     refine one_ (i := 4) (N := some 76) #[true,true,true,true,true,false,false,false,true,false,false] rfl rfl (by kernel_rfl) (by decide) (fun K hK => ?_)
     go_simp
     refine (gdo_calls H A2 c2 Q Ap cp _ HR2.out HRQ.out LQ.out K4.out.2 K4.out.1).mono ?_; rintro e w42 ⟨A10, c10, rfl, hrd, hw⟩; have HR10 := Aside0.mk hrd; replace HB := lbB HB hw; replace HR2 := lbR HR2 hw; replace HH := lbG HH hw; replace HX := lbG HX hw; clear hrd hw
     refine hK.out _ _ ?_ (fun hHeld => ?_)
     · exact HH.out.box
     clear hK K
     try simp only [Act.put, sA, sB, sC]
     obtain ⟨x0, x1, x2, x3, x4, x5, x6⟩ := HX.out.box
     have xf := HX.out.free
     refine pure_ (i := 5) (N := some 71) (v := ?_) (a' := ?_) #[true,true,true,true,true,true,false,false,true,false,false] rfl rfl (by kernel_rfl) (fun _ _ _ h => h) (Or.inl ⟨by rfl, ?_⟩) ?_ ?_
     rotate_left
     · intro w'
       go_simp
       try with_reducible rfl
     rotate_left
     · simp only [Act.put, sA, sB, sC]
       rfl
     refine pure_ (i := 6) (N := some 77) (v := ?_) (a' := ?_) #[true,true,true,true,true,true,true,false,true,false,false] rfl rfl (by kernel_rfl) (fun _ _ _ h => h) (Or.inl ⟨by rfl, ?_⟩) ?_ ?_
     rotate_left
     · intro w'
       go_simp
       try with_reducible rfl
     rotate_left
     · simp only [Act.put, sA, sB, sC]
       rfl
     refine pure_ (i := 7) (N := some 78) (v := ?_) (a' := ?_) #[true,true,true,true,true,true,true,true,true,false,false] rfl rfl (by kernel_rfl) (fun _ _ _ h => h) (Or.inl ⟨by rfl, ?_⟩) ?_ ?_
     rotate_left
     · intro w'
       go_simp
       try with_reducible rfl
     rotate_left
     · simp only [Act.put, sA, sB, sC]
       rfl
     refine last_ (i := 9) (N := none) #[true,true,true,true,true,true,true,true,true,true,false] rfl rfl (by kernel_rfl) (by decide) (fun K hK => ?_)
     go_simp
     refine hK.out _ _ ?_
     clear hK K
     try simp only [Act.put, sA, sB, sC]
     refine pure_ (i := 10) (N := some 20) (v := ?_) (a' := ?_) #[true,true,true,true,true,true,true,true,true,true,true] rfl rfl (by kernel_rfl) (fun _ _ _ h => h) (Or.inl ⟨by rfl, ?_⟩) ?_ ?_
     rotate_left
     · intro w'
       go_simp
       try with_reducible rfl
     rotate_left
     · simp only [Act.put, sA, sB, sC]
       rfl
     refine done_ (by kernel_rfl) ?_
     clear x0 x1 x2 x3 x4 x5 x6 xf
     have hx := only_store Y A10 c10 nX w42
     replace HB := Aside0.mk (Bel.only HB.out hx (fun q hq h => by have h2 : q = nX := h; omega))
     replace HR2 := Aside0.mk (Rd.only HR2.out hx (fun q hq h => by have h3 : q = nX := h; subst h3; exact Rd.apartG HR2.out HX.out hq))
     replace HH := Aside0.mk (BlkG.only HH.out hx (fun h => by have h2 : n9 = nX := h; omega))
     replace HR10 := Aside0.mk (Rd.only HR10.out hx (fun q hq h => by have h3 : q = nX := h; subst h3; exact Rd.apartG HR10.out HX.out hq))
     replace HX := Aside0.mk (BlkG.store (g := Y) (A := A10) (c := c10) HX.out)
     clear hx
     obtain ⟨W66, hW66⟩ : ∃ W, (((((((w42.setCell ⟨nX, 0, none⟩ (.int .i64 Y.id)).setCell ⟨nX, 1, none⟩ (.int .i64 Y.fi)).setCell ⟨nX, 2, none⟩ (.int .i64 Y.tm)).setCell ⟨nX, 3, none⟩ (.int .i64 Y.ht)).setCell ⟨nX, 4, none⟩ (.int .i64 Y.hv)).setCell ⟨nX, 5, none⟩ (.int .i64 Y.hc)).setCell ⟨nX, 6, none⟩ (.slice A10 Y.l.length c10)) = W := ⟨_, rfl⟩
     rw [hW66] at HB HR2 HH HR10 HX ⊢
     clear hW66
     exact tl A10 c10 Ap cp nX W66 ⟨HB.out, HR2.out, HH.out, HR10.out, HX.out, ltHH, ltB⟩
 intro A10 c10 Ap cp nX W66 hF
 obtain ⟨kHB, kHR2, kHH, kHR10, kHX, ltHH, ltB⟩ := hF
 replace HB := Aside0.mk kHB
 replace HR2 := Aside0.mk kHR2
 replace HH := Aside0.mk kHH
 have HR10 := Aside0.mk kHR10
 have HX := Aside0.mk kHX
 clear kHB kHR2 kHH kHR10 kHX
 obtain ⟨hh0, hh1, hh2, hh3, hh4, hh5, hh6⟩ := HH.out.box
 obtain ⟨hx0, hx1, hx2, hx3, hx4, hx5, hx6⟩ := HX.out.box
 have hC16 := HC16.out
 simp only [Try.f9] at hC16
 subst hC16
 clear HC16
 go_wp2_with fail
 go_at_call 25
 refine (glast_calls H A2 c2 _ HR2.out KL.out).mono ?_
 rintro e w11 ⟨rfl, hw11⟩
 replace HB := lbB HB hw11
 replace HR2 := lbR HR2 hw11
 replace HH := lbG HH hw11
 replace HR10 := lbR HR10 hw11
 replace HX := lbG HX hw11
 clear hw11
 clear hh0 hh1 hh2 hh3 hh4 hh5 hh6 hx0 hx1 hx2 hx3 hx4 hx5 hx6
 obtain ⟨hh0, hh1, hh2, hh3, hh4, hh5, hh6⟩ := HH.out.box
 obtain ⟨hx0, hx1, hx2, hx3, hx4, hx5, hx6⟩ := HX.out.box
 go_wp2_with fail
 go_at_call 25
 refine (glast_calls Y A10 c10 _ HR10.out KY.out.1).mono ?_
 rintro e w12 ⟨rfl, hw12⟩
 replace HB := lbB HB hw12
 replace HR2 := lbR HR2 hw12
 replace HH := lbG HH hw12
 replace HR10 := lbR HR10 hw12
 replace HX := lbG HX hw12
 clear hw12
 clear hh0 hh1 hh2 hh3 hh4 hh5 hh6 hx0 hx1 hx2 hx3 hx4 hx5 hx6
 obtain ⟨hh0, hh1, hh2, hh3, hh4, hh5, hh6⟩ := HH.out.box
 obtain ⟨hx0, hx1, hx2, hx3, hx4, hx5, hx6⟩ := HX.out.box
 go_wp2_with fail
 go_at_call 16
 refine (ris_c Y A10 c10 _ HR10.out KY.out.2).mono ?_
 rintro e w13 ⟨rfl, hw13⟩
 replace HB := lbB HB hw13
 replace HR2 := lbR HR2 hw13
 replace HH := lbG HH hw13
 replace HR10 := lbR HR10 hw13
 replace HX := lbG HX hw13
 clear hw13
 clear hh0 hh1 hh2 hh3 hh4 hh5 hh6 hx0 hx1 hx2 hx3 hx4 hx5 hx6
 obtain ⟨hh0, hh1, hh2, hh3, hh4, hh5, hh6⟩ := HH.out.box
 obtain ⟨hx0, hx1, hx2, hx3, hx4, hx5, hx6⟩ := HX.out.box
 go_wp2_with fail
 go_ret
 exact ⟨rfl, HB.out.b⟩
set_option maxHeartbeats 8000000 in
set_option maxRecDepth 100000 in
theorem snaps6_a (n a : Int) (w : World) (h0 : 0 ≤ n ∧ n < 256) (h1 : 0 ≤ a ∧ a < 256) (N I : Nat) (hN1 : 1 ≤ N) (hN2 : N ≤ 12) (hN : n % 12 + 1 = (N : Int)) (hI1 : 1 ≤ I) (hI2 : I ≤ 20) (hI : a % 20 + 1 = (I : Int)) (hlt : I < N) :
  Calls Try.prog 9 #[.int .u8 n, .int .u8 a, .bool true] w fun e w' => e = .returned (.bool true) ∧ Below w.heap.size w w' := by
 have hid : (0 : Int) ≤ 5 ∧ (5 : Int) ≤ 999 := by decide
 obtain ⟨H, Y, c1, c2, c3, c4, c5, c6, c7, c8, c9, c10, c11, c12, c13⟩ := sna_facts (N := N) (I := I) (K := N) (T := (I : Int)) hI1 hI2 hN2 (by omega) (by rw [if_pos ⟨rfl, hlt⟩])
 obtain ⟨G, hG⟩ : ∃ G, groG 5 N = G := ⟨_, rfl⟩
 obtain ⟨P, hP⟩ : ∃ P, appP 5 ((N : Int) + 2) 90 1 = P := ⟨_, rfl⟩
 obtain ⟨Q, hQ⟩ : ∃ Q, appP 5 ((N : Int) + 1) 90 1 = Q := ⟨_, rfl⟩
 rw [hG] at c1 c2
 rw [hP] at c8 c9
 rw [hQ] at c10 c11
 have HN : Aside0 (1 ≤ N ∧ N ≤ 12 ∧ 1 ≤ I ∧ I ≤ 20) := ⟨⟨hN1, hN2, hI1, hI2⟩⟩
 have HE1 := Aside0.mk hN
 have HE2 := Aside0.mk hI
 have HID := Aside0.mk hid
 have JG := Aside0.mk hG
 have JP := Aside0.mk hP
 have JQ := Aside0.mk hQ
 have K1 : Aside0 (dwG G (snaP (I : Int) (I : Int)) = H ∧ chwG G (snaP (I : Int) (I : Int)) = 0) := ⟨⟨c1, c2⟩⟩
 have K2 : Aside0 (trm H (I : Int) = ((I : Int), 0)) := ⟨c3⟩
 have KD : Aside0 (isG true H = true) := ⟨c6⟩
 have KL : Aside0 (lastG H = (N : Int)) := ⟨c5⟩
 have K3 : Aside0 (chwG H P = 14 ∧ dwG H P = H) := ⟨⟨c8, c9⟩⟩
 have K4 : Aside0 (chwG H Q = 0 ∧ dwG H Q = Y) := ⟨⟨c10, c11⟩⟩
 have KY : Aside0 (lastG Y = (N : Int) + 1 ∧ isG true Y = true) := ⟨⟨c12, c13⟩⟩
 have KF : Aside0 (H.fi = (I : Int) + 1 ∧ H.l.length ≤ 12) := ⟨⟨c4, c7⟩⟩
 have LG : Aside0 (G.l.length + ([] : List Ent).length ≤ 4398046511104) := ⟨by rw [← hG, gro_len]; show N + 0 ≤ _; omega⟩
 have u4 : IntKind.i64.wrap ((I : Int) + 30) = (I : Int) + 30 := wrI ⟨by omega, by omega⟩
 have d1 : decide ((I : Int) < (N : Int)) = true := decide_eq_true (by omega)
 have d2 : decide (I < N) = true := decide_eq_true hlt
 obtain ⟨i0, i1⟩ := h0
 obtain ⟨i2, i3⟩ := h1
 clear hI hN c1 c2 c3 c4 c5 c6 c7 c8 c9 c10 c11 c12 c13 hG hP hQ hid hN1 hN2 hI1 hI2
 go_enter Try.func9, Try.ntmps9
 have HB := Aside0.mk (Bel.refl w)
 obtain ⟨C9, hC9⟩ : ∃ C, (match Try.f9.body with | some (.seq _ (.seq _ (.seq _ (.seq _ (.seq _ (.seq _ (.seq _ c))))))) => c | _ => .skip) = C := ⟨_, rfl⟩
 have HC9 := Aside0.mk hC9
 simp only [Try.f9] at hC9
 rw [hC9]
 clear hC9
 go_wp2_with fail
 go_at_call 12
 refine (known6 _).mono ?_
 rintro e w1 ⟨rfl, hw1⟩
 replace HB := lbB HB hw1
 clear hw1
 go_wp2_with fail
 try rw [HE1.out]
 try rw [HE2.out]
 go_at_call 33
 refine (grown_d 5 N _ HID.out (by have := HN.out; omega) JG.out).mono ?_
 rintro e w2 ⟨A1, c1, rfl, hrd, hw2⟩
 replace HB := lbB HB hw2
 have HR1 := Aside0.mk (hrd)
 clear hrd
 clear hw2
 obtain ⟨n8, hn8⟩ : ∃ n, w2.heap.size = n := ⟨_, rfl⟩
 have HSn8 := Aside0.mk hn8
 go_wp2_with fail
 replace HB := laB HB (.cells #[.int .i64 G.id, .int .i64 G.fi, .int .i64 G.tm, .int .i64 G.ht, .int .i64 G.hv, .int .i64 G.hc, .slice A1 G.l.length c1] 26)
 replace HR1 := laR HR1 (.cells #[.int .i64 G.id, .int .i64 G.fi, .int .i64 G.tm, .int .i64 G.ht, .int .i64 G.hv, .int .i64 G.hc, .slice A1 G.l.length c1] 26)
 have HG : Aside0 (BlkG G A1 c1 n8 (w2.alloc (.cells #[.int .i64 G.id, .int .i64 G.fi, .int .i64 G.tm, .int .i64 G.ht, .int .i64 G.hv, .int .i64 G.hc, .slice A1 G.l.length c1] 26))) := ⟨(by have hq := BlkG.new G A1 c1 w2; rw [HSn8.out] at hq; exact hq : BlkG G A1 c1 n8 (w2.alloc (.cells #[.int .i64 G.id, .int .i64 G.fi, .int .i64 G.tm, .int .i64 G.ht, .int .i64 G.hv, .int .i64 G.hc, .slice A1 G.l.length c1] 26)))⟩
 obtain ⟨W1, hW1⟩ : ∃ W, w2.alloc (.cells #[.int .i64 G.id, .int .i64 G.fi, .int .i64 G.tm, .int .i64 G.ht, .int .i64 G.hv, .int .i64 G.hc, .slice A1 G.l.length c1] 26) = W := ⟨_, rfl⟩
 rw [hW1] at HB HR1 HG ⊢
 clear hW1
 clear hn8
 obtain ⟨hg0, hg1, hg2, hg3, hg4, hg5, hg6⟩ := HG.out.box
 have hC9 := HC9.out
 simp only [Try.f9] at hC9
 subst hC9
 clear HC9
 obtain ⟨C10, hC10⟩ : ∃ C, (match Try.f9.body with | some (.seq _ (.seq _ (.seq _ (.seq _ (.seq _ (.seq _ (.seq _ (.seq _ c)))))))) => c | _ => .skip) = C := ⟨_, rfl⟩
 have HC10 := Aside0.mk hC10
 simp only [Try.f9] at hC10
 rw [hC10]
 clear hC10
 go_wp2_with fail
 go_at_call 22
 refine (gdo_calls G A1 c1 (snaP (I : Int) (I : Int)) none 0 _ HR1.out (Rd.nil _) LG.out K1.out.1 K1.out.2).mono ?_
 rintro e w3 ⟨A2, c2, rfl, hrd, hw3⟩
 replace HB := lbB HB hw3
 replace HR1 := lbR HR1 hw3
 replace HG := lbG HG hw3
 have HR2 := Aside0.mk (hrd)
 clear hrd
 clear hw3
 clear hg0 hg1 hg2 hg3 hg4 hg5 hg6
 obtain ⟨hg0, hg1, hg2, hg3, hg4, hg5, hg6⟩ := HG.out.box
 obtain ⟨n9, hn9⟩ : ∃ n, w3.heap.size = n := ⟨_, rfl⟩
 have HSn9 := Aside0.mk hn9
 go_wp2_with fail
 clear hg0 hg1 hg2 hg3 hg4 hg5 hg6
 replace HB := laB HB (.cells #[.int .i64 H.id, .int .i64 H.fi, .int .i64 H.tm, .int .i64 H.ht, .int .i64 H.hv, .int .i64 H.hc, .slice A2 H.l.length c2] 26)
 replace HR1 := laR HR1 (.cells #[.int .i64 H.id, .int .i64 H.fi, .int .i64 H.tm, .int .i64 H.ht, .int .i64 H.hv, .int .i64 H.hc, .slice A2 H.l.length c2] 26)
 replace HG := laG HG (.cells #[.int .i64 H.id, .int .i64 H.fi, .int .i64 H.tm, .int .i64 H.ht, .int .i64 H.hv, .int .i64 H.hc, .slice A2 H.l.length c2] 26)
 replace HR2 := laR HR2 (.cells #[.int .i64 H.id, .int .i64 H.fi, .int .i64 H.tm, .int .i64 H.ht, .int .i64 H.hv, .int .i64 H.hc, .slice A2 H.l.length c2] 26)
 have HH : Aside0 (BlkG H A2 c2 n9 (w3.alloc (.cells #[.int .i64 H.id, .int .i64 H.fi, .int .i64 H.tm, .int .i64 H.ht, .int .i64 H.hv, .int .i64 H.hc, .slice A2 H.l.length c2] 26))) := ⟨(by have hq := BlkG.new H A2 c2 w3; rw [HSn9.out] at hq; exact hq : BlkG H A2 c2 n9 (w3.alloc (.cells #[.int .i64 H.id, .int .i64 H.fi, .int .i64 H.tm, .int .i64 H.ht, .int .i64 H.hv, .int .i64 H.hc, .slice A2 H.l.length c2] 26)))⟩
 obtain ⟨W2, hW2⟩ : ∃ W, w3.alloc (.cells #[.int .i64 H.id, .int .i64 H.fi, .int .i64 H.tm, .int .i64 H.ht, .int .i64 H.hv, .int .i64 H.hc, .slice A2 H.l.length c2] 26) = W := ⟨_, rfl⟩
 rw [hW2] at HB HR1 HG HR2 HH ⊢
 clear hW2
 clear hn9
 clear HG
 clear HR1
 obtain ⟨hh0, hh1, hh2, hh3, hh4, hh5, hh6⟩ := HH.out.box
 have hC10 := HC10.out
 simp only [Try.f9] at hC10
 subst hC10
 clear HC10
 obtain ⟨C14, hC14⟩ : ∃ C, (match Try.f9.body with | some (.seq _ (.seq _ (.seq _ (.seq _ (.seq _ (.seq _ (.seq _ (.seq _ (.seq _ (.seq _ (.seq _ c))))))))))) => c | _ => .skip) = C := ⟨_, rfl⟩
 have HC14 := Aside0.mk hC14
 simp only [Try.f9] at hC14
 rw [hC14]
 clear hC14
 go_wp2_with fail
 go_at_call 27
 refine (gterm_calls H A2 c2 (I : Int) _ HR2.out KD.out K2.out).mono ?_
 rintro e w4 ⟨rfl, hw4⟩
 replace HB := lbB HB hw4
 replace HR2 := lbR HR2 hw4
 replace HH := lbG HH hw4
 clear hw4
 clear hh0 hh1 hh2 hh3 hh4 hh5 hh6
 obtain ⟨hh0, hh1, hh2, hh3, hh4, hh5, hh6⟩ := HH.out.box
 go_wp2_with fail
 exact snaps6_tail I N (I : Int) H Y P Q A2 c2 n9 w _ C14 HC14.out _ _ _ _ _ _ _ _ _ _ _ _ _ _ _ _ _ _ _ _ _ _ _ _ _ _ _ _ _ _ _ _ _ _ _ _ _ _ _ _ _ _ _ _ _ _ _ _ _ _ _ _ _ _ _ _ _ _ _ _ _ _ _ _ _ _ _ _ _ _ _ _ _ _ _ _ _ _ _ _ _ _ _ _ _ _ _ _ _ _ _ _ _ _ _ _ _ _ _ _ _ _ _ _ _ _ _ _ _ _ _ _ _ _ _ _ _ ⟨HN.out.2.2.1, HN.out.2.2.2⟩ (by have := HN.out; omega) JP.out JQ.out HB.out HR2.out HH.out KL.out KF.out.1 K3.out K4.out KY.out KF.out.2
set_option maxHeartbeats 8000000 in
set_option maxRecDepth 100000 in
theorem snaps6_b (n a : Int) (w : World) (h0 : 0 ≤ n ∧ n < 256) (h1 : 0 ≤ a ∧ a < 256) (N I : Nat) (hN1 : 1 ≤ N) (hN2 : N ≤ 12) (hN : n % 12 + 1 = (N : Int)) (hI1 : 1 ≤ I) (hI2 : I ≤ 20) (hI : a % 20 + 1 = (I : Int)) (hlt : ¬ I < N) :
  Calls Try.prog 9 #[.int .u8 n, .int .u8 a, .bool true] w fun e w' => e = .returned (.bool true) ∧ Below w.heap.size w w' := by
 have hid : (0 : Int) ≤ 5 ∧ (5 : Int) ≤ 999 := by decide
 obtain ⟨H, Y, c1, c2, c3, c4, c5, c6, c7, c8, c9, c10, c11, c12, c13⟩ := sna_facts (N := N) (I := I) (K := I) (T := (I : Int)) hI1 hI2 hN2 (by omega) (by rw [if_neg (fun h => hlt h.2)])
 obtain ⟨G, hG⟩ : ∃ G, groG 5 N = G := ⟨_, rfl⟩
 obtain ⟨P, hP⟩ : ∃ P, appP 5 ((I : Int) + 2) 90 1 = P := ⟨_, rfl⟩
 obtain ⟨Q, hQ⟩ : ∃ Q, appP 5 ((I : Int) + 1) 90 1 = Q := ⟨_, rfl⟩
 rw [hG] at c1 c2
 rw [hP] at c8 c9
 rw [hQ] at c10 c11
 have HN : Aside0 (1 ≤ N ∧ N ≤ 12 ∧ 1 ≤ I ∧ I ≤ 20) := ⟨⟨hN1, hN2, hI1, hI2⟩⟩
 have HE1 := Aside0.mk hN
 have HE2 := Aside0.mk hI
 have HID := Aside0.mk hid
 have JG := Aside0.mk hG
 have JP := Aside0.mk hP
 have JQ := Aside0.mk hQ
 have K1 : Aside0 (dwG G (snaP (I : Int) (I : Int)) = H ∧ chwG G (snaP (I : Int) (I : Int)) = 0) := ⟨⟨c1, c2⟩⟩
 have K2 : Aside0 (trm H (I : Int) = ((I : Int), 0)) := ⟨c3⟩
 have KD : Aside0 (isG true H = true) := ⟨c6⟩
 have KL : Aside0 (lastG H = (I : Int)) := ⟨c5⟩
 have K3 : Aside0 (chwG H P = 14 ∧ dwG H P = H) := ⟨⟨c8, c9⟩⟩
 have K4 : Aside0 (chwG H Q = 0 ∧ dwG H Q = Y) := ⟨⟨c10, c11⟩⟩
 have KY : Aside0 (lastG Y = (I : Int) + 1 ∧ isG true Y = true) := ⟨⟨c12, c13⟩⟩
 have KF : Aside0 (H.fi = (I : Int) + 1 ∧ H.l.length ≤ 12) := ⟨⟨c4, c7⟩⟩
 have LG : Aside0 (G.l.length + ([] : List Ent).length ≤ 4398046511104) := ⟨by rw [← hG, gro_len]; show N + 0 ≤ _; omega⟩
 have u4 : IntKind.i64.wrap ((I : Int) + 30) = (I : Int) + 30 := wrI ⟨by omega, by omega⟩
 have d1 : decide ((I : Int) < (N : Int)) = false := decide_eq_false (by omega)
 have d2 : decide (I < N) = false := decide_eq_false hlt
 obtain ⟨i0, i1⟩ := h0
 obtain ⟨i2, i3⟩ := h1
 clear hI hN c1 c2 c3 c4 c5 c6 c7 c8 c9 c10 c11 c12 c13 hG hP hQ hid hN1 hN2 hI1 hI2
 go_enter Try.func9, Try.ntmps9
 have HB := Aside0.mk (Bel.refl w)
 obtain ⟨C9, hC9⟩ : ∃ C, (match Try.f9.body with | some (.seq _ (.seq _ (.seq _ (.seq _ (.seq _ (.seq _ (.seq _ c))))))) => c | _ => .skip) = C := ⟨_, rfl⟩
 have HC9 := Aside0.mk hC9
 simp only [Try.f9] at hC9
 rw [hC9]
 clear hC9
 go_wp2_with fail
 go_at_call 12
 refine (known6 _).mono ?_
 rintro e w1 ⟨rfl, hw1⟩
 replace HB := lbB HB hw1
 clear hw1
 go_wp2_with fail
 try rw [HE1.out]
 try rw [HE2.out]
 go_at_call 33
 refine (grown_d 5 N _ HID.out (by have := HN.out; omega) JG.out).mono ?_
 rintro e w2 ⟨A1, c1, rfl, hrd, hw2⟩
 replace HB := lbB HB hw2
 have HR1 := Aside0.mk (hrd)
 clear hrd
 clear hw2
 obtain ⟨n8, hn8⟩ : ∃ n, w2.heap.size = n := ⟨_, rfl⟩
 have HSn8 := Aside0.mk hn8
 go_wp2_with fail
 replace HB := laB HB (.cells #[.int .i64 G.id, .int .i64 G.fi, .int .i64 G.tm, .int .i64 G.ht, .int .i64 G.hv, .int .i64 G.hc, .slice A1 G.l.length c1] 26)
 replace HR1 := laR HR1 (.cells #[.int .i64 G.id, .int .i64 G.fi, .int .i64 G.tm, .int .i64 G.ht, .int .i64 G.hv, .int .i64 G.hc, .slice A1 G.l.length c1] 26)
 have HG : Aside0 (BlkG G A1 c1 n8 (w2.alloc (.cells #[.int .i64 G.id, .int .i64 G.fi, .int .i64 G.tm, .int .i64 G.ht, .int .i64 G.hv, .int .i64 G.hc, .slice A1 G.l.length c1] 26))) := ⟨(by have hq := BlkG.new G A1 c1 w2; rw [HSn8.out] at hq; exact hq : BlkG G A1 c1 n8 (w2.alloc (.cells #[.int .i64 G.id, .int .i64 G.fi, .int .i64 G.tm, .int .i64 G.ht, .int .i64 G.hv, .int .i64 G.hc, .slice A1 G.l.length c1] 26)))⟩
 obtain ⟨W1, hW1⟩ : ∃ W, w2.alloc (.cells #[.int .i64 G.id, .int .i64 G.fi, .int .i64 G.tm, .int .i64 G.ht, .int .i64 G.hv, .int .i64 G.hc, .slice A1 G.l.length c1] 26) = W := ⟨_, rfl⟩
 rw [hW1] at HB HR1 HG ⊢
 clear hW1
 clear hn8
 obtain ⟨hg0, hg1, hg2, hg3, hg4, hg5, hg6⟩ := HG.out.box
 have hC9 := HC9.out
 simp only [Try.f9] at hC9
 subst hC9
 clear HC9
 obtain ⟨C10, hC10⟩ : ∃ C, (match Try.f9.body with | some (.seq _ (.seq _ (.seq _ (.seq _ (.seq _ (.seq _ (.seq _ (.seq _ c)))))))) => c | _ => .skip) = C := ⟨_, rfl⟩
 have HC10 := Aside0.mk hC10
 simp only [Try.f9] at hC10
 rw [hC10]
 clear hC10
 go_wp2_with fail
 go_at_call 22
 refine (gdo_calls G A1 c1 (snaP (I : Int) (I : Int)) none 0 _ HR1.out (Rd.nil _) LG.out K1.out.1 K1.out.2).mono ?_
 rintro e w3 ⟨A2, c2, rfl, hrd, hw3⟩
 replace HB := lbB HB hw3
 replace HR1 := lbR HR1 hw3
 replace HG := lbG HG hw3
 have HR2 := Aside0.mk (hrd)
 clear hrd
 clear hw3
 clear hg0 hg1 hg2 hg3 hg4 hg5 hg6
 obtain ⟨hg0, hg1, hg2, hg3, hg4, hg5, hg6⟩ := HG.out.box
 obtain ⟨n9, hn9⟩ : ∃ n, w3.heap.size = n := ⟨_, rfl⟩
 have HSn9 := Aside0.mk hn9
 go_wp2_with fail
 clear hg0 hg1 hg2 hg3 hg4 hg5 hg6
 replace HB := laB HB (.cells #[.int .i64 H.id, .int .i64 H.fi, .int .i64 H.tm, .int .i64 H.ht, .int .i64 H.hv, .int .i64 H.hc, .slice A2 H.l.length c2] 26)
 replace HR1 := laR HR1 (.cells #[.int .i64 H.id, .int .i64 H.fi, .int .i64 H.tm, .int .i64 H.ht, .int .i64 H.hv, .int .i64 H.hc, .slice A2 H.l.length c2] 26)
 replace HG := laG HG (.cells #[.int .i64 H.id, .int .i64 H.fi, .int .i64 H.tm, .int .i64 H.ht, .int .i64 H.hv, .int .i64 H.hc, .slice A2 H.l.length c2] 26)
 replace HR2 := laR HR2 (.cells #[.int .i64 H.id, .int .i64 H.fi, .int .i64 H.tm, .int .i64 H.ht, .int .i64 H.hv, .int .i64 H.hc, .slice A2 H.l.length c2] 26)
 have HH : Aside0 (BlkG H A2 c2 n9 (w3.alloc (.cells #[.int .i64 H.id, .int .i64 H.fi, .int .i64 H.tm, .int .i64 H.ht, .int .i64 H.hv, .int .i64 H.hc, .slice A2 H.l.length c2] 26))) := ⟨(by have hq := BlkG.new H A2 c2 w3; rw [HSn9.out] at hq; exact hq : BlkG H A2 c2 n9 (w3.alloc (.cells #[.int .i64 H.id, .int .i64 H.fi, .int .i64 H.tm, .int .i64 H.ht, .int .i64 H.hv, .int .i64 H.hc, .slice A2 H.l.length c2] 26)))⟩
 obtain ⟨W2, hW2⟩ : ∃ W, w3.alloc (.cells #[.int .i64 H.id, .int .i64 H.fi, .int .i64 H.tm, .int .i64 H.ht, .int .i64 H.hv, .int .i64 H.hc, .slice A2 H.l.length c2] 26) = W := ⟨_, rfl⟩
 rw [hW2] at HB HR1 HG HR2 HH ⊢
 clear hW2
 clear hn9
 clear HG
 clear HR1
 obtain ⟨hh0, hh1, hh2, hh3, hh4, hh5, hh6⟩ := HH.out.box
 have hC10 := HC10.out
 simp only [Try.f9] at hC10
 subst hC10
 clear HC10
 obtain ⟨C14, hC14⟩ : ∃ C, (match Try.f9.body with | some (.seq _ (.seq _ (.seq _ (.seq _ (.seq _ (.seq _ (.seq _ (.seq _ (.seq _ (.seq _ (.seq _ c))))))))))) => c | _ => .skip) = C := ⟨_, rfl⟩
 have HC14 := Aside0.mk hC14
 simp only [Try.f9] at hC14
 rw [hC14]
 clear hC14
 go_wp2_with fail
 go_at_call 27
 refine (gterm_calls H A2 c2 (I : Int) _ HR2.out KD.out K2.out).mono ?_
 rintro e w4 ⟨rfl, hw4⟩
 replace HB := lbB HB hw4
 replace HR2 := lbR HR2 hw4
 replace HH := lbG HH hw4
 clear hw4
 clear hh0 hh1 hh2 hh3 hh4 hh5 hh6
 obtain ⟨hh0, hh1, hh2, hh3, hh4, hh5, hh6⟩ := HH.out.box
 go_wp2_with fail
 exact snaps6_tail I I (I : Int) H Y P Q A2 c2 n9 w _ C14 HC14.out _ _ _ _ _ _ _ _ _ _ _ _ _ _ _ _ _ _ _ _ _ _ _ _ _ _ _ _ _ _ _ _ _ _ _ _ _ _ _ _ _ _ _ _ _ _ _ _ _ _ _ _ _ _ _ _ _ _ _ _ _ _ _ _ _ _ _ _ _ _ _ _ _ _ _ _ _ _ _ _ _ _ _ _ _ _ _ _ _ _ _ _ _ _ _ _ _ _ _ _ _ _ _ _ _ _ _ _ _ _ _ _ _ _ _ _ _ ⟨HN.out.2.2.1, HN.out.2.2.2⟩ (by have := HN.out; omega) JP.out JQ.out HB.out HR2.out HH.out KL.out KF.out.1 K3.out K4.out KY.out KF.out.2
set_option maxHeartbeats 8000000 in
set_option maxRecDepth 100000 in
theorem snaps6_c (n a : Int) (w : World) (h0 : 0 ≤ n ∧ n < 256) (h1 : 0 ≤ a ∧ a < 256) (N I : Nat) (hN1 : 1 ≤ N) (hN2 : N ≤ 12) (hN : n % 12 + 1 = (N : Int)) (hI1 : 1 ≤ I) (hI2 : I ≤ 20) (hI : a % 20 + 1 = (I : Int)) :
  Calls Try.prog 9 #[.int .u8 n, .int .u8 a, .bool false] w fun e w' => e = .returned (.bool true) ∧ Below w.heap.size w w' := by
 have hid : (0 : Int) ≤ 5 ∧ (5 : Int) ≤ 999 := by decide
 obtain ⟨H, Y, c1, c2, c3, c4, c5, c6, c7, c8, c9, c10, c11, c12, c13⟩ := sna_facts (N := N) (I := I) (K := I) (T := ((I : Int) + 30)) hI1 hI2 hN2 (by omega) (by rw [if_neg (fun h => absurd h.1 (by omega))])
 obtain ⟨G, hG⟩ : ∃ G, groG 5 N = G := ⟨_, rfl⟩
 obtain ⟨P, hP⟩ : ∃ P, appP 5 ((I : Int) + 2) 90 1 = P := ⟨_, rfl⟩
 obtain ⟨Q, hQ⟩ : ∃ Q, appP 5 ((I : Int) + 1) 90 1 = Q := ⟨_, rfl⟩
 rw [hG] at c1 c2
 rw [hP] at c8 c9
 rw [hQ] at c10 c11
 have HN : Aside0 (1 ≤ N ∧ N ≤ 12 ∧ 1 ≤ I ∧ I ≤ 20) := ⟨⟨hN1, hN2, hI1, hI2⟩⟩
 have HE1 := Aside0.mk hN
 have HE2 := Aside0.mk hI
 have HID := Aside0.mk hid
 have JG := Aside0.mk hG
 have JP := Aside0.mk hP
 have JQ := Aside0.mk hQ
 have K1 : Aside0 (dwG G (snaP (I : Int) ((I : Int) + 30)) = H ∧ chwG G (snaP (I : Int) ((I : Int) + 30)) = 0) := ⟨⟨c1, c2⟩⟩
 have K2 : Aside0 (trm H (I : Int) = (((I : Int) + 30), 0)) := ⟨c3⟩
 have KD : Aside0 (isG true H = true) := ⟨c6⟩
 have KL : Aside0 (lastG H = (I : Int)) := ⟨c5⟩
 have K3 : Aside0 (chwG H P = 14 ∧ dwG H P = H) := ⟨⟨c8, c9⟩⟩
 have K4 : Aside0 (chwG H Q = 0 ∧ dwG H Q = Y) := ⟨⟨c10, c11⟩⟩
 have KY : Aside0 (lastG Y = (I : Int) + 1 ∧ isG true Y = true) := ⟨⟨c12, c13⟩⟩
 have KF : Aside0 (H.fi = (I : Int) + 1 ∧ H.l.length ≤ 12) := ⟨⟨c4, c7⟩⟩
 have LG : Aside0 (G.l.length + ([] : List Ent).length ≤ 4398046511104) := ⟨by rw [← hG, gro_len]; show N + 0 ≤ _; omega⟩
 have u4 : IntKind.i64.wrap ((I : Int) + 30) = (I : Int) + 30 := wrI ⟨by omega, by omega⟩
 obtain ⟨i0, i1⟩ := h0
 obtain ⟨i2, i3⟩ := h1
 clear hI hN c1 c2 c3 c4 c5 c6 c7 c8 c9 c10 c11 c12 c13 hG hP hQ hid hN1 hN2 hI1 hI2
 go_enter Try.func9, Try.ntmps9
 have HB := Aside0.mk (Bel.refl w)
 obtain ⟨C9, hC9⟩ : ∃ C, (match Try.f9.body with | some (.seq _ (.seq _ (.seq _ (.seq _ (.seq _ (.seq _ (.seq _ c))))))) => c | _ => .skip) = C := ⟨_, rfl⟩
 have HC9 := Aside0.mk hC9
 simp only [Try.f9] at hC9
 rw [hC9]
 clear hC9
 go_wp2_with fail
 go_at_call 12
 refine (known6 _).mono ?_
 rintro e w1 ⟨rfl, hw1⟩
 replace HB := lbB HB hw1
 clear hw1
 go_wp2_with fail
 try rw [HE1.out]
 try rw [HE2.out]
 go_at_call 33
 refine (grown_d 5 N _ HID.out (by have := HN.out; omega) JG.out).mono ?_
 rintro e w2 ⟨A1, c1, rfl, hrd, hw2⟩
 replace HB := lbB HB hw2
 have HR1 := Aside0.mk (hrd)
 clear hrd
 clear hw2
 obtain ⟨n8, hn8⟩ : ∃ n, w2.heap.size = n := ⟨_, rfl⟩
 have HSn8 := Aside0.mk hn8
 go_wp2_with fail
 replace HB := laB HB (.cells #[.int .i64 G.id, .int .i64 G.fi, .int .i64 G.tm, .int .i64 G.ht, .int .i64 G.hv, .int .i64 G.hc, .slice A1 G.l.length c1] 26)
 replace HR1 := laR HR1 (.cells #[.int .i64 G.id, .int .i64 G.fi, .int .i64 G.tm, .int .i64 G.ht, .int .i64 G.hv, .int .i64 G.hc, .slice A1 G.l.length c1] 26)
 have HG : Aside0 (BlkG G A1 c1 n8 (w2.alloc (.cells #[.int .i64 G.id, .int .i64 G.fi, .int .i64 G.tm, .int .i64 G.ht, .int .i64 G.hv, .int .i64 G.hc, .slice A1 G.l.length c1] 26))) := ⟨(by have hq := BlkG.new G A1 c1 w2; rw [HSn8.out] at hq; exact hq : BlkG G A1 c1 n8 (w2.alloc (.cells #[.int .i64 G.id, .int .i64 G.fi, .int .i64 G.tm, .int .i64 G.ht, .int .i64 G.hv, .int .i64 G.hc, .slice A1 G.l.length c1] 26)))⟩
 obtain ⟨W1, hW1⟩ : ∃ W, w2.alloc (.cells #[.int .i64 G.id, .int .i64 G.fi, .int .i64 G.tm, .int .i64 G.ht, .int .i64 G.hv, .int .i64 G.hc, .slice A1 G.l.length c1] 26) = W := ⟨_, rfl⟩
 rw [hW1] at HB HR1 HG ⊢
 clear hW1
 clear hn8
 obtain ⟨hg0, hg1, hg2, hg3, hg4, hg5, hg6⟩ := HG.out.box
 have hC9 := HC9.out
 simp only [Try.f9] at hC9
 subst hC9
 clear HC9
 obtain ⟨C10, hC10⟩ : ∃ C, (match Try.f9.body with | some (.seq _ (.seq _ (.seq _ (.seq _ (.seq _ (.seq _ (.seq _ (.seq _ c)))))))) => c | _ => .skip) = C := ⟨_, rfl⟩
 have HC10 := Aside0.mk hC10
 simp only [Try.f9] at hC10
 rw [hC10]
 clear hC10
 go_wp2_with fail
 go_at_call 22
 refine (gdo_calls G A1 c1 (snaP (I : Int) ((I : Int) + 30)) none 0 _ HR1.out (Rd.nil _) LG.out K1.out.1 K1.out.2).mono ?_
 rintro e w3 ⟨A2, c2, rfl, hrd, hw3⟩
 replace HB := lbB HB hw3
 replace HR1 := lbR HR1 hw3
 replace HG := lbG HG hw3
 have HR2 := Aside0.mk (hrd)
 clear hrd
 clear hw3
 clear hg0 hg1 hg2 hg3 hg4 hg5 hg6
 obtain ⟨hg0, hg1, hg2, hg3, hg4, hg5, hg6⟩ := HG.out.box
 obtain ⟨n9, hn9⟩ : ∃ n, w3.heap.size = n := ⟨_, rfl⟩
 have HSn9 := Aside0.mk hn9
 go_wp2_with fail
 clear hg0 hg1 hg2 hg3 hg4 hg5 hg6
 replace HB := laB HB (.cells #[.int .i64 H.id, .int .i64 H.fi, .int .i64 H.tm, .int .i64 H.ht, .int .i64 H.hv, .int .i64 H.hc, .slice A2 H.l.length c2] 26)
 replace HR1 := laR HR1 (.cells #[.int .i64 H.id, .int .i64 H.fi, .int .i64 H.tm, .int .i64 H.ht, .int .i64 H.hv, .int .i64 H.hc, .slice A2 H.l.length c2] 26)
 replace HG := laG HG (.cells #[.int .i64 H.id, .int .i64 H.fi, .int .i64 H.tm, .int .i64 H.ht, .int .i64 H.hv, .int .i64 H.hc, .slice A2 H.l.length c2] 26)
 replace HR2 := laR HR2 (.cells #[.int .i64 H.id, .int .i64 H.fi, .int .i64 H.tm, .int .i64 H.ht, .int .i64 H.hv, .int .i64 H.hc, .slice A2 H.l.length c2] 26)
 have HH : Aside0 (BlkG H A2 c2 n9 (w3.alloc (.cells #[.int .i64 H.id, .int .i64 H.fi, .int .i64 H.tm, .int .i64 H.ht, .int .i64 H.hv, .int .i64 H.hc, .slice A2 H.l.length c2] 26))) := ⟨(by have hq := BlkG.new H A2 c2 w3; rw [HSn9.out] at hq; exact hq : BlkG H A2 c2 n9 (w3.alloc (.cells #[.int .i64 H.id, .int .i64 H.fi, .int .i64 H.tm, .int .i64 H.ht, .int .i64 H.hv, .int .i64 H.hc, .slice A2 H.l.length c2] 26)))⟩
 obtain ⟨W2, hW2⟩ : ∃ W, w3.alloc (.cells #[.int .i64 H.id, .int .i64 H.fi, .int .i64 H.tm, .int .i64 H.ht, .int .i64 H.hv, .int .i64 H.hc, .slice A2 H.l.length c2] 26) = W := ⟨_, rfl⟩
 rw [hW2] at HB HR1 HG HR2 HH ⊢
 clear hW2
 clear hn9
 clear HG
 clear HR1
 obtain ⟨hh0, hh1, hh2, hh3, hh4, hh5, hh6⟩ := HH.out.box
 have hC10 := HC10.out
 simp only [Try.f9] at hC10
 subst hC10
 clear HC10
 obtain ⟨C14, hC14⟩ : ∃ C, (match Try.f9.body with | some (.seq _ (.seq _ (.seq _ (.seq _ (.seq _ (.seq _ (.seq _ (.seq _ (.seq _ (.seq _ (.seq _ c))))))))))) => c | _ => .skip) = C := ⟨_, rfl⟩
 have HC14 := Aside0.mk hC14
 simp only [Try.f9] at hC14
 rw [hC14]
 clear hC14
 go_wp2_with fail
 go_at_call 27
 refine (gterm_calls H A2 c2 (I : Int) _ HR2.out KD.out K2.out).mono ?_
 rintro e w4 ⟨rfl, hw4⟩
 replace HB := lbB HB hw4
 replace HR2 := lbR HR2 hw4
 replace HH := lbG HH hw4
 clear hw4
 clear hh0 hh1 hh2 hh3 hh4 hh5 hh6
 obtain ⟨hh0, hh1, hh2, hh3, hh4, hh5, hh6⟩ := HH.out.box
 go_wp2_with fail
 exact snaps6_tail I I ((I : Int) + 30) H Y P Q A2 c2 n9 w _ C14 HC14.out _ _ _ _ _ _ _ _ _ _ _ _ _ _ _ _ _ _ _ _ _ _ _ _ _ _ _ _ _ _ _ _ _ _ _ _ _ _ _ _ _ _ _ _ _ _ _ _ _ _ _ _ _ _ _ _ _ _ _ _ _ _ _ _ _ _ _ _ _ _ _ _ _ _ _ _ _ _ _ _ _ _ _ _ _ _ _ _ _ _ _ _ _ _ _ _ _ _ _ _ _ _ _ _ _ _ _ _ _ _ _ _ _ _ _ _ _ ⟨HN.out.2.2.1, HN.out.2.2.2⟩ (by have := HN.out; omega) JP.out JQ.out HB.out HR2.out HH.out KL.out KF.out.1 K3.out K4.out KY.out KF.out.2
end Go.Proofs.Ytlfdmlacadoolaa.PartW
namespace Go.Proofs.Ytlfdmlacadoolaa.Pure
open Go Go.RowKit Go.Proofs.Ytlfdmlacadoolaa.Sp Go.Proofs.Ytlfdmlacadoolaa.PartW
theorem GroupSnaps.walk (n a : Int) (fits : Bool) (w : World) (w0 : (Lit.int .u8 n).wf = true) (w1 : (Lit.int .u8 a).wf = true) :
    Calls Try.prog 9 #[.int .u8 n, .int .u8 a, .bool fits] w fun e w' => e = .returned (.bool true) ∧ Below w.heap.size w w' := by
  have h0 : 0 ≤ n ∧ n < 256 := by simp [Lit.wf, IntKind.min, IntKind.max, IntKind.bits, IntKind.signed] at w0; omega
  have h1 : 0 ≤ a ∧ a < 256 := by simp [Lit.wf, IntKind.min, IntKind.max, IntKind.bits, IntKind.signed] at w1; omega
  obtain ⟨N, hN1, hN2, hN⟩ : ∃ N : Nat, 1 ≤ N ∧ N ≤ 12 ∧ n % 12 + 1 = (N : Int) := ⟨(n % 12 + 1).toNat, by omega, by omega, by omega⟩
  obtain ⟨I, hI1, hI2, hI⟩ : ∃ I : Nat, 1 ≤ I ∧ I ≤ 20 ∧ a % 20 + 1 = (I : Int) := ⟨(a % 20 + 1).toNat, by omega, by omega, by omega⟩
  cases fits with
  | true =>
    by_cases hlt : I < N
    · exact snaps6_a n a w h0 h1 N I hN1 hN2 hN hI1 hI2 hI hlt
    · exact snaps6_b n a w h0 h1 N I hN1 hN2 hN hI1 hI2 hI hlt
  | false => exact snaps6_c n a w h0 h1 N I hN1 hN2 hN hI1 hI2 hI
end Go.Proofs.Ytlfdmlacadoolaa.Pure
