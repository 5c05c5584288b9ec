/- laderef4.ReadPart. -/
import Derived.Test.YtokjhocjemjfiaaRdP
import Derived.Test.YtokjhocjemjfiaaCuA
set_option linter.unusedVariables false
set_option linter.unusedSimpArgs false
namespace Go.Proofs.Ytokjhocjemjfiaa.PartW
open Go Go.RowKit Go.Shelf Go.Proofs.Ytokjhocjemjfiaa.A Go.Proofs.Ytokjhocjemjfiaa.Sp Go.Proofs.Ytokjhocjemjfiaa.Reg Go.Proofs.Ytokjhocjemjfiaa.Seq Go.Proofs.Ytokjhocjemjfiaa.CodeW Go.Proofs.Ytokjhocjemjfiaa.CodeM Go.Proofs.Ytokjhocjemjfiaa.CodeQ Go.Proofs.Ytokjhocjemjfiaa.Given Go.Proofs.YtokjhocjemjfiaaW.PrintWords Go.Proofs.YtokjhocjemjfiaaW.PrintLast Go.Proofs.YtokjhocjemjfiaaW.PrintMore
theorem cuclose (s : ByteArray) (i e B : Nat) (w : World) (hb : BlkC 72 s i e B w) (hs : s.size ≤ 140737488351232) (hi : i ≤ s.size) {L : List Ent} {b c : Nat} (h : closeR s (i, e) = (L, (b, c))) :
    Calls Try.prog 44 #[.pointer (some ⟨B, 0, none⟩)] w fun r w' => ∃ A c1, r = .returned (.slice A L.length c1) ∧ Rd w' A c1 L ∧ BlkC 72 s b c B w' ∧ Only (fun q => q = B) w w' ∧ b ≤ s.size := by
  have := cu_close s i e B w hb hs hi
  rw [h] at this; exact this
theorem isr4 (p : Prt) (A : Option Addr) (c : Nat) (w : World) (h : Rd w A c p.l) {b : Bool} (hb : isP p = b) : Calls Try.prog 13 #[vP p A c] w fun e w' => e = .returned (.bool b) ∧ Below w.heap.size w w' := by
  rw [← hb]; exact ref_Is p A c w h
/-- the document's end -/
def endD (p : Prt) (st : Nat × Nat) : Prt × (Nat × Nat) := if (mustR (isP p) st).2 ≠ 0 then (ZP, (0, (mustR (isP p) st).2)) else (p, ((mustR (isP p) st).1, 0))
set_option maxHeartbeats 4000000 in
set_option maxRecDepth 100000 in
theorem ref_d8 (s : ByteArray) (i B n0 nP : Nat) (p : Prt) (A : Option Addr) (c : Nat) (w W : World) (C : Code) (hC : (match Try.f21.body with | some (.seq _ (.seq _ (.seq _ (.seq _ (.seq _ (.seq _ (.seq _ (.seq _ c)))))))) => c | _ => .skip) = C) (u1 u7 u8 u9 u10 u11 u12 u13 u14 u15 u16 u17 u18 u19 u20 u21 u22 u23 u24 u25 u26 u27 u28 u29 u30 u31 u32 u33 u34 u35 u36 u37 u38 u39 u40 u41 u42 u43 u44 u45 u46 u47 u48 u49 u50 u51 u52 u53 u54 u55 u56 u57 u58 u59 u60 u61 u62 u63 u64 u65 u66 u67 u68 u69 u70 u71 u72 u73 u74 u75 u76 u77 u78 : Value) (hh : DCt 72 s i 0 B n0 p A c nP w W) (hrd : Rd W A c p.l) :
  C.wp Try.prog (bodyPost Try.prog Try.f21 (fun r w' => ∃ A c, r = .returned (.tuple #[vP ((p, (i, 0)) : Prt × (Nat × Nat)).1 A c, .int .i64 (((p, (i, 0)) : Prt × (Nat × Nat)).2.1 : Int), .int .i64 (((p, (i, 0)) : Prt × (Nat × Nat)).2.2 : Int)]) ∧ Rd w' A c ((p, (i, 0)) : Prt × (Nat × Nat)).1.l ∧ Below w.heap.size w w')) { tmps := #[.string s, u1, .pointer (some ⟨n0, 0, none⟩), .int .i64 0, .int .i64 0, .pointer (some ⟨B, 0, none⟩), .pointer (some ⟨nP, 0, none⟩), u7, u8, u9, u10, u11, u12, u13, u14, u15, u16, u17, u18, u19, u20, u21, u22, u23, u24, u25, u26, u27, u28, u29, u30, u31, u32, u33, u34, u35, u36, u37, u38, u39, u40, u41, u42, u43, u44, u45, u46, u47, u48, u49, u50, u51, u52, u53, u54, u55, u56, u57, u58, u59, u60, u61, u62, u63, u64, u65, u66, u67, u68, u69, u70, u71, u72, u73, u74, u75, u76, u77, u78], defers := [] } W := by
 have HH := Aside0.mk hh
 clear hh
 simp only [Try.f21] at hC
 subst hC
 have HRD := Aside0.mk hrd
 clear hrd
 have HR : Aside0 (((p, (i, 0)) : Prt × (Nat × Nat)) = (p, (i, 0))) := ⟨rfl⟩
 go_wp2_with fail
 replace HH := Aside0.mk HH.out.drew
 replace HRD : Aside0 (Rd W.drew A c p.l) := ⟨HRD.out.below (below_drew (Below.refl _ _))⟩
 refine start_ (n := 8) (S := (fun w' => (w'.cell? ⟨nP, 0, none⟩ = some (.int .i64 p.g) ∧ w'.cell? ⟨nP, 1, none⟩ = some (.int .i64 p.k) ∧ w'.cell? ⟨nP, 2, none⟩ = some (.slice A p.l.length c) ∧ w'.cell? ⟨nP, 3, none⟩ = some (.int .i64 p.ht) ∧ w'.cell? ⟨nP, 4, none⟩ = some (.int .i64 p.hv) ∧ w'.cell? ⟨nP, 5, none⟩ = some (.int .i64 p.hc) ∧ w'.cell? ⟨nP, 6, none⟩ = some (.int .i64 p.ix) ∧ w'.cell? ⟨nP, 7, none⟩ = some (.int .i64 p.tm) ∧ w'.cell? ⟨nP, 8, none⟩ = some (.bool p.mrk) ∧ w'.cell? ⟨nP, 9, none⟩ = some (.bool p.hed)) ∧ (w'.cell? ⟨B, 1, none⟩ = some (.int .i64 (i : Int)) ∧ w'.cell? ⟨B, 2, none⟩ = some (.int .i64 ((0 : Nat) : Int))))) (ds := []) #[false,false,false,false,false,false,false,false] (by kernel_rfl) rfl rfl ⟨HH.out.hp.box, HH.out.hc.box.2⟩ (fun hHeld => ?_)
 obtain ⟨W9, hW9⟩ : ∃ X, W.drew = X := ⟨_, rfl⟩
 rw [hW9] at hHeld HH HRD ⊢
 clear hW9
 obtain ⟨z0, z1, z2, z3, z4, z5, z6, z7, z8, z9⟩ := HH.out.hr.box
 have zf := HH.out.hr.free'
 refine take_ (i := 0) (N := some 74) (v := ?_) (a' := ?_) #[true,false,false,false,false,false,false,false] rfl rfl (by kernel_rfl) (fun _ _ _ h => h) (Or.inl ⟨by rfl, ?_⟩) hHeld ?_ ?_
 rotate_left
 · rintro w' ⟨⟨v0, v1, v2, v3, v4, v5, v6, v7, v8, v9⟩, q1, q2⟩
   go_simp
   try with_reducible rfl
 rotate_left
 · simp only [Act.put, sA, sB, sC]
   rfl
 refine pure_ (i := 1) (N := some 75) (v := ?_) (a' := ?_) #[true,true,false,false,false,false,false,false] rfl rfl (by kernel_rfl) (fun _ _ _ h => h) (Or.inl ⟨by rfl, ?_⟩) ?_ ?_
 rotate_left
 · intro w'
   go_simp
   try with_reducible rfl
 rotate_left
 · simp only [Act.put, sA, sB, sC]
   rfl
 refine pure_ (i := 2) (N := some 76) (v := ?_) (a' := ?_) #[true,true,true,false,false,false,false,false] rfl rfl (by kernel_rfl) (fun _ _ _ h => h) (Or.inl ⟨by rfl, ?_⟩) ?_ ?_
 rotate_left
 · intro w'
   go_simp
   try with_reducible rfl
 rotate_left
 · simp only [Act.put, sA, sB, sC]
   rfl
 refine pure_ (i := 3) (N := some 77) (v := ?_) (a' := ?_) #[true,true,true,true,false,false,false,false] rfl rfl (by kernel_rfl) (fun _ _ _ h => h) (Or.inl ⟨by rfl, ?_⟩) ?_ ?_
 rotate_left
 · intro w'
   go_simp
   try with_reducible rfl
 rotate_left
 · simp only [Act.put, sA, sB, sC]
   rfl
 refine take_ (i := 4) (N := some 78) (v := ?_) (a' := ?_) #[true,true,true,true,true,false,false,false] rfl rfl (by kernel_rfl) (fun _ _ _ h => h) (Or.inl ⟨by rfl, ?_⟩) hHeld ?_ ?_
 rotate_left
 · rintro w' ⟨⟨v0, v1, v2, v3, v4, v5, v6, v7, v8, v9⟩, q1, q2⟩
   go_simp
   try with_reducible rfl
 rotate_left
 · simp only [Act.put, sA, sB, sC]
   rfl
 refine one_ (i := 5) (N := none) #[true,true,true,true,true,true,false,false] rfl rfl (by kernel_rfl) (by decide) (fun K hK => ?_)
 go_simp
 refine hK.out _ _ ?_ (fun hHeld => ?_)
 · exact ⟨(BlkP.only HH.out.hp (only_putP W9 n0 p A c) (fun h' => by have h2 : nP = n0 := h'; have := HH.out.lt; omega)).box, (BlkC.only HH.out.hc (only_putP W9 n0 p A c) (fun h' => by have h2 : B = n0 := h'; have := HH.out.lt; omega)).box.2⟩
 clear hK K
 try simp only [Act.put, sA, sB, sC]
 refine pure_ (i := 6) (N := some 3) (v := ?_) (a' := ?_) #[true,true,true,true,true,true,true,false] rfl rfl (by kernel_rfl) (fun _ _ _ h => h) (Or.inl ⟨by rfl, ?_⟩) ?_ ?_
 rotate_left
 · intro w'
   go_simp
   try with_reducible rfl
 rotate_left
 · simp only [Act.put, sA, sB, sC]
   rfl
 refine pure_ (i := 7) (N := some 4) (v := ?_) (a' := ?_) #[true,true,true,true,true,true,true,true] rfl rfl (by kernel_rfl) (fun _ _ _ h => h) (Or.inl ⟨by rfl, ?_⟩) ?_ ?_
 rotate_left
 · intro w'
   go_simp
   try with_reducible rfl
 rotate_left
 · simp only [Act.put, sA, sB, sC]
   rfl
 refine done_ (by kernel_rfl) ?_
 clear hHeld z0 z1 z2 z3 z4 z5 z6 z7 z8 z9 zf
 go_wp2
 have hx := only_putP W9 n0 p A c
 have hb := HH.out.hr.put p A c
 obtain ⟨y0, y1, y2, y3, y4, y5, y6, y7, y8, y9⟩ := hb.box
 have hbe := HH.out.hb.trans (hx.below HH.out.hb.size (fun q hq h' => by have h2 : q = n0 := h'; have := HH.out.lt; omega))
 have hr6 := Rd.only HRD.out hx (fun q hq h => by have h3 : q = n0 := h; subst h3; exact Rd.apartP HRD.out HH.out.hr hq)
 unfold putP at y0 y1 y2 y3 y4 y5 y6 y7 y8 y9 hbe hr6
 refine bodyPost_ret (v := .tuple #[vP p A c, .int .i64 (i : Int), .int .i64 ((0 : Nat) : Int)]) (by simp [results, Try.results21, go_sem, vP, y0, y1, y2, y3, y4, y5, y6, y7, y8, y9]) rfl ?_
 try rw [HR.out]
 exact ⟨A, c, rfl, hr6, hbe⟩
set_option maxHeartbeats 4000000 in
set_option maxRecDepth 100000 in
theorem ref_d6_z (s : ByteArray) (i e B n0 nP : Nat) (p : Prt) (A : Option Addr) (c : Nat) (w W : World) (C : Code) (hC : (match Try.f21.body with | some (.seq _ (.seq _ (.seq _ (.seq _ (.seq _ (.seq _ c)))))) => c | _ => .skip) = C) (u1 u7 u8 u9 u10 u11 u12 u13 u14 u15 u16 u17 u18 u19 u20 u21 u22 u23 u24 u25 u26 u27 u28 u29 u30 u31 u32 u33 u34 u35 u36 u37 u38 u39 u40 u41 u42 u43 u44 u45 u46 u47 u48 u49 u50 u51 u52 u53 u54 u55 u56 u57 u58 u59 u60 u61 u62 u63 u64 u65 u66 u67 u68 u69 u70 u71 u72 u73 u74 u75 u76 u77 u78 : Value) (hh : DCt 72 s i e B n0 p A c nP w W) (hrd : Rd W A c p.l) (hbad : (mustR (isP p) (i, e)).2 ≠ 0) :
  C.wp Try.prog (bodyPost Try.prog Try.f21 (fun r w' => ∃ A c, r = .returned (.tuple #[vP (endD p (i, e)).1 A c, .int .i64 ((endD p (i, e)).2.1 : Int), .int .i64 ((endD p (i, e)).2.2 : Int)]) ∧ Rd w' A c (endD p (i, e)).1.l ∧ Below w.heap.size w w')) { tmps := #[.string s, u1, .pointer (some ⟨n0, 0, none⟩), .int .i64 0, .int .i64 0, .pointer (some ⟨B, 0, none⟩), .pointer (some ⟨nP, 0, none⟩), u7, u8, u9, u10, u11, u12, u13, u14, u15, u16, u17, u18, u19, u20, u21, u22, u23, u24, u25, u26, u27, u28, u29, u30, u31, u32, u33, u34, u35, u36, u37, u38, u39, u40, u41, u42, u43, u44, u45, u46, u47, u48, u49, u50, u51, u52, u53, u54, u55, u56, u57, u58, u59, u60, u61, u62, u63, u64, u65, u66, u67, u68, u69, u70, u71, u72, u73, u74, u75, u76, u77, u78], defers := [] } W := by
 have HH := Aside0.mk hh
 clear hh
 simp only [Try.f21] at hC
 subst hC
 have HRD := Aside0.mk hrd
 clear hrd
 obtain ⟨b, hb⟩ : ∃ b, isP p = b := ⟨_, rfl⟩
 obtain ⟨i2, e2, hz⟩ : ∃ x y, mustR b (i, e) = (x, y) := ⟨_, _, rfl⟩
 have HBB := Aside0.mk hb
 have EZ := Aside0.mk hz
 have hx2 : (mustR (isP p) (i, e)).2 = e2 := by rw [hb, hz]
 have he2 : e2 ≠ 0 := by rw [← hx2]; exact hbad
 have HR : Aside0 (endD p (i, e) = (ZP, (0, e2))) := ⟨by unfold endD; rw [hb, hz, if_pos he2]⟩
 have j1 : ((e2 : Int) != 0) = true := by rw [bne, beq_eq_false_iff_ne.2 (by omega)]; rfl
 have j2 : (e2 != 0) = true := by rw [bne, beq_eq_false_iff_ne.2 he2]; rfl
 clear hb hz hx2 hbad he2
 rw [HR.out]
 obtain ⟨C8, hC8⟩ : ∃ C, (match Try.f21.body with | some (.seq _ (.seq _ (.seq _ (.seq _ (.seq _ (.seq _ (.seq _ (.seq _ c)))))))) => c | _ => .skip) = C := ⟨_, rfl⟩
 have HC8 := Aside0.mk hC8
 simp only [Try.f21] at hC8
 rw [hC8]
 clear hC8
 obtain ⟨y0, y1, y2, y3, y4, y5, y6, y7, y8, y9⟩ := HH.out.hp.box
 have yf := HH.out.hp.free'
 try dsimp only at y0 y1 y2 y3 y4 y5 y6 y7 y8 y9
 go_wp2_with fail
 go_at_call 13
 refine (isr4 p A c _ HRD.out HBB.out).mono ?_
 rintro r w1 ⟨rfl, hw⟩
 replace HH := Aside0.mk (HH.out.below hw)
 replace HRD := Aside0.mk (HRD.out.below hw)
 clear hw
 go_wp2_with fail
 go_at_call 43
 refine (cumust s i e B _ HH.out.hc HH.out.hs HH.out.hi b EZ.out).mono ?_
 rintro r w2 ⟨⟨v, rfl⟩, hc', ho, hi⟩
 replace HRD := Aside0.mk (Rd.only HRD.out ho (fun q hq h => by have h3 : q = B := h; subst h3; exact Rd.apartC HRD.out HH.out.hc hq))
 replace HH := Aside0.mk (HH.out.call hc' ho hi)
 clear hc' ho hi
 clear y0 y1 y2 y3 y4 y5 y6 y7 y8 y9 yf
 obtain ⟨q0, q1, q2⟩ := HH.out.hc.box
 go_wp2_with fail
 clear q0 q1 q2
 go_wp2_with fail
 replace HH := Aside0.mk HH.out.drew
 refine start_ (n := 8) (S := (fun w' => w'.cell? ⟨B, 1, none⟩ = some (.int .i64 (i2 : Int)) ∧ w'.cell? ⟨B, 2, none⟩ = some (.int .i64 (e2 : Int)))) (ds := []) #[false,false,false,false,false,false,false,false] (by kernel_rfl) rfl rfl HH.out.hc.box.2 (fun hHeld => ?_)
 obtain ⟨W9, hW9⟩ : ∃ X, w2.drew = X := ⟨_, rfl⟩
 rw [hW9] at hHeld HH ⊢
 clear hW9
 obtain ⟨z0, z1, z2, z3, z4, z5, z6, z7, z8, z9⟩ := HH.out.hr.box
 have zf := HH.out.hr.free'
 refine pure_ (i := 0) (N := some 69) (v := ?_) (a' := ?_) #[true,false,false,false,false,false,false,false] rfl rfl (by kernel_rfl) (fun _ _ _ h => h) (Or.inl ⟨by rfl, ?_⟩) ?_ ?_
 rotate_left
 · intro w'
   go_simp
   try with_reducible rfl
 rotate_left
 · simp only [Act.put, sA, sB, sC]
   rfl
 refine pure_ (i := 1) (N := some 70) (v := ?_) (a' := ?_) #[true,true,false,false,false,false,false,false] rfl rfl (by kernel_rfl) (fun _ _ _ h => h) (Or.inl ⟨by rfl, ?_⟩) ?_ ?_
 rotate_left
 · intro w'
   go_simp
   try with_reducible rfl
 rotate_left
 · simp only [Act.put, sA, sB, sC]
   rfl
 refine pure_ (i := 2) (N := some 71) (v := ?_) (a' := ?_) #[true,true,true,false,false,false,false,false] rfl rfl (by kernel_rfl) (fun _ _ _ h => h) (Or.inl ⟨by rfl, ?_⟩) ?_ ?_
 rotate_left
 · intro w'
   go_simp
   try with_reducible rfl
 rotate_left
 · simp only [Act.put, sA, sB, sC]
   rfl
 refine pure_ (i := 3) (N := some 72) (v := ?_) (a' := ?_) #[true,true,true,true,false,false,false,false] rfl rfl (by kernel_rfl) (fun _ _ _ h => h) (Or.inl ⟨by rfl, ?_⟩) ?_ ?_
 rotate_left
 · intro w'
   go_simp
   try with_reducible rfl
 rotate_left
 · simp only [Act.put, sA, sB, sC]
   rfl
 refine take_ (i := 4) (N := some 73) (v := ?_) (a' := ?_) #[true,true,true,true,true,false,false,false] rfl rfl (by kernel_rfl) (fun _ _ _ h => h) (Or.inl ⟨by rfl, ?_⟩) hHeld ?_ ?_
 rotate_left
 · rintro w' ⟨q1, q2⟩
   go_simp
   try with_reducible rfl
 rotate_left
 · simp only [Act.put, sA, sB, sC]
   rfl
 refine one_ (i := 5) (N := none) #[true,true,true,true,true,true,false,false] rfl rfl (by kernel_rfl) (by decide) (fun K hK => ?_)
 go_simp
 refine hK.out _ _ ?_ (fun hHeld => ?_)
 · exact (BlkC.only HH.out.hc (only_putP W9 n0 ⟨0, 0, [], 0, 0, 0, 0, 0, false, false⟩ none 0) (fun h' => by have h2 : B = n0 := h'; have := HH.out.lt; omega)).box.2
 clear hK K
 try simp only [Act.put, sA, sB, sC]
 refine pure_ (i := 6) (N := some 3) (v := ?_) (a' := ?_) #[true,true,true,true,true,true,true,false] rfl rfl (by kernel_rfl) (fun _ _ _ h => h) (Or.inl ⟨by rfl, ?_⟩) ?_ ?_
 rotate_left
 · intro w'
   go_simp
   try with_reducible rfl
 rotate_left
 · simp only [Act.put, sA, sB, sC]
   rfl
 refine pure_ (i := 7) (N := some 4) (v := ?_) (a' := ?_) #[true,true,true,true,true,true,true,true] rfl rfl (by kernel_rfl) (fun _ _ _ h => h) (Or.inl ⟨by rfl, ?_⟩) ?_ ?_
 rotate_left
 · intro w'
   go_simp
   try with_reducible rfl
 rotate_left
 · simp only [Act.put, sA, sB, sC]
   rfl
 refine done_ (by kernel_rfl) ?_
 clear hHeld z0 z1 z2 z3 z4 z5 z6 z7 z8 z9 zf
 go_wp2
 have hx := only_putP W9 n0 ⟨0, 0, [], 0, 0, 0, 0, 0, false, false⟩ none 0
 have hb := HH.out.hr.put ⟨0, 0, [], 0, 0, 0, 0, 0, false, false⟩ none 0
 obtain ⟨y0, y1, y2, y3, y4, y5, y6, y7, y8, y9⟩ := hb.box
 have hbe := HH.out.hb.trans (hx.below HH.out.hb.size (fun q hq h' => by have h2 : q = n0 := h'; have := HH.out.lt; omega))
 unfold putP at y0 y1 y2 y3 y4 y5 y6 y7 y8 y9 hbe
 dsimp only [List.length_nil] at y0 y1 y2 y3 y4 y5 y6 y7 y8 y9 hbe
 refine bodyPost_ret (v := .tuple #[vP ⟨0, 0, [], 0, 0, 0, 0, 0, false, false⟩ none 0, .int .i64 0, .int .i64 (e2 : Int)]) (by simp [results, Try.results21, go_sem, vP, y0, y1, y2, y3, y4, y5, y6, y7, y8, y9, ZP]) rfl ?_
 try rw [HR.out]
 exact ⟨none, 0, rfl, Rd.nil _, hbe⟩
set_option maxHeartbeats 4000000 in
set_option maxRecDepth 100000 in
theorem ref_d6_p (s : ByteArray) (i e B n0 nP : Nat) (p : Prt) (A : Option Addr) (c : Nat) (w W : World) (C : Code) (hC : (match Try.f21.body with | some (.seq _ (.seq _ (.seq _ (.seq _ (.seq _ (.seq _ c)))))) => c | _ => .skip) = C) (u1 u7 u8 u9 u10 u11 u12 u13 u14 u15 u16 u17 u18 u19 u20 u21 u22 u23 u24 u25 u26 u27 u28 u29 u30 u31 u32 u33 u34 u35 u36 u37 u38 u39 u40 u41 u42 u43 u44 u45 u46 u47 u48 u49 u50 u51 u52 u53 u54 u55 u56 u57 u58 u59 u60 u61 u62 u63 u64 u65 u66 u67 u68 u69 u70 u71 u72 u73 u74 u75 u76 u77 u78 : Value) (hh : DCt 72 s i e B n0 p A c nP w W) (hrd : Rd W A c p.l) (hbad : (mustR (isP p) (i, e)).2 = 0) :
  C.wp Try.prog (bodyPost Try.prog Try.f21 (fun r w' => ∃ A c, r = .returned (.tuple #[vP (endD p (i, e)).1 A c, .int .i64 ((endD p (i, e)).2.1 : Int), .int .i64 ((endD p (i, e)).2.2 : Int)]) ∧ Rd w' A c (endD p (i, e)).1.l ∧ Below w.heap.size w w')) { tmps := #[.string s, u1, .pointer (some ⟨n0, 0, none⟩), .int .i64 0, .int .i64 0, .pointer (some ⟨B, 0, none⟩), .pointer (some ⟨nP, 0, none⟩), u7, u8, u9, u10, u11, u12, u13, u14, u15, u16, u17, u18, u19, u20, u21, u22, u23, u24, u25, u26, u27, u28, u29, u30, u31, u32, u33, u34, u35, u36, u37, u38, u39, u40, u41, u42, u43, u44, u45, u46, u47, u48, u49, u50, u51, u52, u53, u54, u55, u56, u57, u58, u59, u60, u61, u62, u63, u64, u65, u66, u67, u68, u69, u70, u71, u72, u73, u74, u75, u76, u77, u78], defers := [] } W := by
 have HH := Aside0.mk hh
 clear hh
 simp only [Try.f21] at hC
 subst hC
 have HRD := Aside0.mk hrd
 clear hrd
 obtain ⟨b, hb⟩ : ∃ b, isP p = b := ⟨_, rfl⟩
 obtain ⟨i2, e2, hz⟩ : ∃ x y, mustR b (i, e) = (x, y) := ⟨_, _, rfl⟩
 have HBB := Aside0.mk hb
 have EZ := Aside0.mk hz
 have hx2 : (mustR (isP p) (i, e)).2 = e2 := by rw [hb, hz]
 have he2 : e2 = 0 := by rw [← hx2]; exact hbad
 subst he2
 have HR : Aside0 (endD p (i, e) = (p, (i2, 0))) := ⟨by unfold endD; rw [hb, hz, if_neg (fun h => h rfl)]⟩
 have j1 : (((0 : Nat) : Int) != 0) = false := rfl
 clear hb hz hx2 hbad
 rw [HR.out]
 obtain ⟨C8, hC8⟩ : ∃ C, (match Try.f21.body with | some (.seq _ (.seq _ (.seq _ (.seq _ (.seq _ (.seq _ (.seq _ (.seq _ c)))))))) => c | _ => .skip) = C := ⟨_, rfl⟩
 have HC8 := Aside0.mk hC8
 simp only [Try.f21] at hC8
 rw [hC8]
 clear hC8
 obtain ⟨y0, y1, y2, y3, y4, y5, y6, y7, y8, y9⟩ := HH.out.hp.box
 have yf := HH.out.hp.free'
 try dsimp only at y0 y1 y2 y3 y4 y5 y6 y7 y8 y9
 go_wp2_with fail
 go_at_call 13
 refine (isr4 p A c _ HRD.out HBB.out).mono ?_
 rintro r w1 ⟨rfl, hw⟩
 replace HH := Aside0.mk (HH.out.below hw)
 replace HRD := Aside0.mk (HRD.out.below hw)
 clear hw
 go_wp2_with fail
 go_at_call 43
 refine (cumust s i e B _ HH.out.hc HH.out.hs HH.out.hi b EZ.out).mono ?_
 rintro r w2 ⟨⟨v, rfl⟩, hc', ho, hi⟩
 replace HRD := Aside0.mk (Rd.only HRD.out ho (fun q hq h => by have h3 : q = B := h; subst h3; exact Rd.apartC HRD.out HH.out.hc hq))
 replace HH := Aside0.mk (HH.out.call hc' ho hi)
 clear hc' ho hi
 clear y0 y1 y2 y3 y4 y5 y6 y7 y8 y9 yf
 obtain ⟨q0, q1, q2⟩ := HH.out.hc.box
 go_wp2_with fail
 clear q0 q1 q2
 exact ref_d8 s i2 B n0 nP p A c w w2 C8 HC8.out u1 _ _ _ _ _ _ _ _ _ _ _ _ _ _ _ _ _ _ _ _ _ _ _ _ _ _ _ _ _ _ _ _ _ _ _ _ _ _ _ _ _ _ _ _ _ _ _ _ _ _ _ _ _ _ _ _ _ _ _ _ _ _ _ _ _ _ _ _ _ _ _ _ HH.out HRD.out
theorem ref_d6 (s : ByteArray) (i e B n0 nP : Nat) (p : Prt) (A : Option Addr) (c : Nat) (w W : World) (C : Code) (hC : (match Try.f21.body with | some (.seq _ (.seq _ (.seq _ (.seq _ (.seq _ (.seq _ c)))))) => c | _ => .skip) = C) (u1 u7 u8 u9 u10 u11 u12 u13 u14 u15 u16 u17 u18 u19 u20 u21 u22 u23 u24 u25 u26 u27 u28 u29 u30 u31 u32 u33 u34 u35 u36 u37 u38 u39 u40 u41 u42 u43 u44 u45 u46 u47 u48 u49 u50 u51 u52 u53 u54 u55 u56 u57 u58 u59 u60 u61 u62 u63 u64 u65 u66 u67 u68 u69 u70 u71 u72 u73 u74 u75 u76 u77 u78 : Value) (hh : DCt 72 s i e B n0 p A c nP w W) (hrd : Rd W A c p.l) : C.wp Try.prog (bodyPost Try.prog Try.f21 (fun r w' => ∃ A c, r = .returned (.tuple #[vP (endD p (i, e)).1 A c, .int .i64 ((endD p (i, e)).2.1 : Int), .int .i64 ((endD p (i, e)).2.2 : Int)]) ∧ Rd w' A c (endD p (i, e)).1.l ∧ Below w.heap.size w w')) { tmps := #[.string s, u1, .pointer (some ⟨n0, 0, none⟩), .int .i64 0, .int .i64 0, .pointer (some ⟨B, 0, none⟩), .pointer (some ⟨nP, 0, none⟩), u7, u8, u9, u10, u11, u12, u13, u14, u15, u16, u17, u18, u19, u20, u21, u22, u23, u24, u25, u26, u27, u28, u29, u30, u31, u32, u33, u34, u35, u36, u37, u38, u39, u40, u41, u42, u43, u44, u45, u46, u47, u48, u49, u50, u51, u52, u53, u54, u55, u56, u57, u58, u59, u60, u61, u62, u63, u64, u65, u66, u67, u68, u69, u70, u71, u72, u73, u74, u75, u76, u77, u78], defers := [] } W := by
  by_cases h : (mustR (isP p) (i, e)).2 = 0
  · exact ref_d6_p s i e B n0 nP p A c w W C hC u1 u7 u8 u9 u10 u11 u12 u13 u14 u15 u16 u17 u18 u19 u20 u21 u22 u23 u24 u25 u26 u27 u28 u29 u30 u31 u32 u33 u34 u35 u36 u37 u38 u39 u40 u41 u42 u43 u44 u45 u46 u47 u48 u49 u50 u51 u52 u53 u54 u55 u56 u57 u58 u59 u60 u61 u62 u63 u64 u65 u66 u67 u68 u69 u70 u71 u72 u73 u74 u75 u76 u77 u78 hh hrd h
  · exact ref_d6_z s i e B n0 nP p A c w W C hC u1 u7 u8 u9 u10 u11 u12 u13 u14 u15 u16 u17 u18 u19 u20 u21 u22 u23 u24 u25 u26 u27 u28 u29 u30 u31 u32 u33 u34 u35 u36 u37 u38 u39 u40 u41 u42 u43 u44 u45 u46 u47 u48 u49 u50 u51 u52 u53 u54 u55 u56 u57 u58 u59 u60 u61 u62 u63 u64 u65 u66 u67 u68 u69 u70 u71 u72 u73 u74 u75 u76 u77 u78 hh hrd h
set_option maxHeartbeats 4000000 in
set_option maxRecDepth 100000 in
theorem ref_d5_1 (s : ByteArray) (i e B n0 nP : Nat) (g : Int) (w W : World) (C : Code) (hC : (match Try.f21.body with | some (.seq _ (.seq _ (.seq _ (.seq _ (.seq _ c))))) => c | _ => .skip) = C) (u1 u7 u8 u9 u10 u11 u12 u13 u14 u15 u16 u17 u18 u19 u20 u21 u22 u23 u24 u25 u26 u27 u28 u29 u30 u31 u32 u33 u34 u35 u36 u37 u38 u39 u40 u41 u42 u43 u44 u45 u46 u47 u48 u49 u50 u51 u52 u53 u54 u55 u56 u57 u58 u59 u60 u61 u62 u63 u64 u65 u66 u67 u68 u69 u70 u71 u72 u73 u74 u75 u76 u77 u78 : Value) (hh : DCt 72 s i e B n0 ⟨g, 1, [], 0, 0, 0, 0, 0, false, false⟩ none 0 nP w W) :
  C.wp Try.prog (bodyPost Try.prog Try.f21 (fun r w' => ∃ A c, r = .returned (.tuple #[vP (endD (kindR s ⟨g, 1, [], 0, 0, 0, 0, 0, false, false⟩ (i, e)).1 (kindR s ⟨g, 1, [], 0, 0, 0, 0, 0, false, false⟩ (i, e)).2).1 A c, .int .i64 ((endD (kindR s ⟨g, 1, [], 0, 0, 0, 0, 0, false, false⟩ (i, e)).1 (kindR s ⟨g, 1, [], 0, 0, 0, 0, 0, false, false⟩ (i, e)).2).2.1 : Int), .int .i64 ((endD (kindR s ⟨g, 1, [], 0, 0, 0, 0, 0, false, false⟩ (i, e)).1 (kindR s ⟨g, 1, [], 0, 0, 0, 0, 0, false, false⟩ (i, e)).2).2.2 : Int)]) ∧ Rd w' A c (endD (kindR s ⟨g, 1, [], 0, 0, 0, 0, 0, false, false⟩ (i, e)).1 (kindR s ⟨g, 1, [], 0, 0, 0, 0, 0, false, false⟩ (i, e)).2).1.l ∧ Below w.heap.size w w')) { tmps := #[.string s, u1, .pointer (some ⟨n0, 0, none⟩), .int .i64 0, .int .i64 0, .pointer (some ⟨B, 0, none⟩), .pointer (some ⟨nP, 0, none⟩), u7, u8, u9, u10, u11, u12, u13, u14, u15, u16, u17, u18, u19, u20, u21, u22, u23, u24, u25, u26, u27, u28, u29, u30, u31, u32, u33, u34, u35, u36, u37, u38, u39, u40, u41, u42, u43, u44, u45, u46, u47, u48, u49, u50, u51, u52, u53, u54, u55, u56, u57, u58, u59, u60, u61, u62, u63, u64, u65, u66, u67, u68, u69, u70, u71, u72, u73, u74, u75, u76, u77, u78], defers := [] } W := by
 have HH := Aside0.mk hh
 clear hh
 simp only [Try.f21] at hC
 subst hC
 obtain ⟨C6, hC6⟩ : ∃ C, (match Try.f21.body with | some (.seq _ (.seq _ (.seq _ (.seq _ (.seq _ (.seq _ c)))))) => c | _ => .skip) = C := ⟨_, rfl⟩
 have HC6 := Aside0.mk hC6
 simp only [Try.f21] at hC6
 rw [hC6]
 clear hC6
 obtain ⟨L, b1, c1, h1⟩ : ∃ L b c, closeR s (i, e) = (L, (b, c)) := ⟨_, _, _, rfl⟩
 have E1 := Aside0.mk h1
 have HR : Aside0 (kindR s ⟨g, 1, [], 0, 0, 0, 0, 0, false, false⟩ (i, e) = (⟨g, 1, L, 0, 0, 0, 0, 0, false, false⟩, (b1, c1))) := ⟨by unfold kindR; rw [if_pos rfl, h1]; rfl⟩
 clear h1
 rw [HR.out]
 obtain ⟨y0, y1, y2, y3, y4, y5, y6, y7, y8, y9⟩ := HH.out.hp.box
 have yf := HH.out.hp.free'
 try dsimp only at y0 y1 y2 y3 y4 y5 y6 y7 y8 y9
 go_wp2_with fail
 go_at_call 44
 refine (cuclose s i e B _ HH.out.hc HH.out.hs HH.out.hi E1.out).mono ?_
 rintro r w1 ⟨A6, c6, rfl, hrd, hc', ho, hi⟩
 replace HH := Aside0.mk (HH.out.call hc' ho hi)
 have HRD := Aside0.mk hrd
 clear hc' ho hi hrd
 clear y0 y1 y2 y3 y4 y5 y6 y7 y8 y9 yf
 obtain ⟨y0, y1, y2, y3, y4, y5, y6, y7, y8, y9⟩ := HH.out.hp.box
 have yf := HH.out.hp.free'
 try dsimp only at y0 y1 y2 y3 y4 y5 y6 y7 y8 y9
 go_wp2_with fail
 clear y0 y1 y2 y3 y4 y5 y6 y7 y8 y9 yf
 have hx := (Only.refl (fun q => q = nP) w1).setCell (p := ⟨nP, 2, none⟩) rfl (.slice A6 L.length c6)
 have hgl := BlkP.setL' HH.out.hp L A6 c6
 have hr6 := Rd.only HRD.out hx (fun q hq h => by have h3 : q = nP := h; subst h3; exact Rd.apartP HRD.out HH.out.hp hq)
 have h9 := HH.out.upd hgl hx
 exact ref_d6 s b1 c1 B n0 nP ⟨g, 1, L, 0, 0, 0, 0, 0, false, false⟩ A6 c6 w _ C6 HC6.out u1 _ _ _ _ _ _ _ _ _ _ _ _ _ _ _ _ _ _ _ _ _ _ _ _ _ _ _ _ _ _ _ _ _ _ _ _ _ _ _ _ _ _ _ _ _ _ _ _ _ _ _ _ _ _ _ _ _ _ _ _ _ _ _ _ _ _ _ _ _ _ _ _ h9 hr6
set_option maxHeartbeats 4000000 in
set_option maxRecDepth 100000 in
theorem ref_d5_2 (s : ByteArray) (i e B n0 nP : Nat) (g : Int) (w W : World) (C : Code) (hC : (match Try.f21.body with | some (.seq _ (.seq _ (.seq _ (.seq _ (.seq _ c))))) => c | _ => .skip) = C) (u1 u7 u8 u9 u10 u11 u12 u13 u14 u15 u16 u17 u18 u19 u20 u21 u22 u23 u24 u25 u26 u27 u28 u29 u30 u31 u32 u33 u34 u35 u36 u37 u38 u39 u40 u41 u42 u43 u44 u45 u46 u47 u48 u49 u50 u51 u52 u53 u54 u55 u56 u57 u58 u59 u60 u61 u62 u63 u64 u65 u66 u67 u68 u69 u70 u71 u72 u73 u74 u75 u76 u77 u78 : Value) (hh : DCt 72 s i e B n0 ⟨g, 2, [], 0, 0, 0, 0, 0, false, false⟩ none 0 nP w W) :
  C.wp Try.prog (bodyPost Try.prog Try.f21 (fun r w' => ∃ A c, r = .returned (.tuple #[vP (endD (kindR s ⟨g, 2, [], 0, 0, 0, 0, 0, false, false⟩ (i, e)).1 (kindR s ⟨g, 2, [], 0, 0, 0, 0, 0, false, false⟩ (i, e)).2).1 A c, .int .i64 ((endD (kindR s ⟨g, 2, [], 0, 0, 0, 0, 0, false, false⟩ (i, e)).1 (kindR s ⟨g, 2, [], 0, 0, 0, 0, 0, false, false⟩ (i, e)).2).2.1 : Int), .int .i64 ((endD (kindR s ⟨g, 2, [], 0, 0, 0, 0, 0, false, false⟩ (i, e)).1 (kindR s ⟨g, 2, [], 0, 0, 0, 0, 0, false, false⟩ (i, e)).2).2.2 : Int)]) ∧ Rd w' A c (endD (kindR s ⟨g, 2, [], 0, 0, 0, 0, 0, false, false⟩ (i, e)).1 (kindR s ⟨g, 2, [], 0, 0, 0, 0, 0, false, false⟩ (i, e)).2).1.l ∧ Below w.heap.size w w')) { tmps := #[.string s, u1, .pointer (some ⟨n0, 0, none⟩), .int .i64 0, .int .i64 0, .pointer (some ⟨B, 0, none⟩), .pointer (some ⟨nP, 0, none⟩), u7, u8, u9, u10, u11, u12, u13, u14, u15, u16, u17, u18, u19, u20, u21, u22, u23, u24, u25, u26, u27, u28, u29, u30, u31, u32, u33, u34, u35, u36, u37, u38, u39, u40, u41, u42, u43, u44, u45, u46, u47, u48, u49, u50, u51, u52, u53, u54, u55, u56, u57, u58, u59, u60, u61, u62, u63, u64, u65, u66, u67, u68, u69, u70, u71, u72, u73, u74, u75, u76, u77, u78], defers := [] } W := by
 have HH := Aside0.mk hh
 clear hh
 simp only [Try.f21] at hC
 subst hC
 obtain ⟨C6, hC6⟩ : ∃ C, (match Try.f21.body with | some (.seq _ (.seq _ (.seq _ (.seq _ (.seq _ (.seq _ c)))))) => c | _ => .skip) = C := ⟨_, rfl⟩
 have HC6 := Aside0.mk hC6
 simp only [Try.f21] at hC6
 rw [hC6]
 clear hC6
 obtain ⟨⟨x1, x2, x3⟩, b1, c1, h1⟩ : ∃ a b c, hardR s (i, e) = (a, (b, c)) := ⟨_, _, _, rfl⟩
 have E1 := Aside0.mk h1
 have HR : Aside0 (kindR s ⟨g, 2, [], 0, 0, 0, 0, 0, false, false⟩ (i, e) = (⟨g, 2, [], (x1 : Int), (x2 : Int), (x3 : Int), 0, 0, false, false⟩, (b1, c1))) := ⟨by unfold kindR; rw [if_neg (show ¬ (2 : Int) = 1 by decide), if_pos rfl, h1]⟩
 clear h1
 rw [HR.out]
 obtain ⟨y0, y1, y2, y3, y4, y5, y6, y7, y8, y9⟩ := HH.out.hp.box
 have yf := HH.out.hp.free'
 try dsimp only at y0 y1 y2 y3 y4 y5 y6 y7 y8 y9
 go_wp2_with fail
 go_at_call 45
 refine (cuhard s i e B _ HH.out.hc HH.out.hs HH.out.hi E1.out).mono ?_
 rintro r w1 ⟨rfl, hc', ho, hi⟩
 replace HH := Aside0.mk (HH.out.call hc' ho hi)
 clear hc' ho hi
 clear y0 y1 y2 y3 y4 y5 y6 y7 y8 y9 yf
 obtain ⟨y0, y1, y2, y3, y4, y5, y6, y7, y8, y9⟩ := HH.out.hp.box
 have yf := HH.out.hp.free'
 try dsimp only at y0 y1 y2 y3 y4 y5 y6 y7 y8 y9
 go_wp2_with fail
 clear y0 y1 y2 y3 y4 y5 y6 y7 y8 y9 yf
 have hx := (((Only.refl (fun q => q = nP) w1).setCell (p := ⟨nP, 3, none⟩) rfl (.int .i64 (x1 : Int))).setCell (p := ⟨nP, 4, none⟩) rfl (.int .i64 (x2 : Int))).setCell (p := ⟨nP, 5, none⟩) rfl (.int .i64 (x3 : Int))
 have hgl := BlkP.set345 HH.out.hp (x1 : Int) (x2 : Int) (x3 : Int)
 have h9 := HH.out.upd hgl hx
 exact ref_d6 s b1 c1 B n0 nP ⟨g, 2, [], (x1 : Int), (x2 : Int), (x3 : Int), 0, 0, false, false⟩ none 0 w _ C6 HC6.out u1 _ _ _ _ _ _ _ _ _ _ _ _ _ _ _ _ _ _ _ _ _ _ _ _ _ _ _ _ _ _ _ _ _ _ _ _ _ _ _ _ _ _ _ _ _ _ _ _ _ _ _ _ _ _ _ _ _ _ _ _ _ _ _ _ _ _ _ _ _ _ _ _ h9 (Rd.nil _)
set_option maxHeartbeats 4000000 in
set_option maxRecDepth 100000 in
theorem ref_d5_3 (s : ByteArray) (i e B n0 nP : Nat) (g : Int) (w W : World) (C : Code) (hC : (match Try.f21.body with | some (.seq _ (.seq _ (.seq _ (.seq _ (.seq _ c))))) => c | _ => .skip) = C) (u1 u7 u8 u9 u10 u11 u12 u13 u14 u15 u16 u17 u18 u19 u20 u21 u22 u23 u24 u25 u26 u27 u28 u29 u30 u31 u32 u33 u34 u35 u36 u37 u38 u39 u40 u41 u42 u43 u44 u45 u46 u47 u48 u49 u50 u51 u52 u53 u54 u55 u56 u57 u58 u59 u60 u61 u62 u63 u64 u65 u66 u67 u68 u69 u70 u71 u72 u73 u74 u75 u76 u77 u78 : Value) (hh : DCt 72 s i e B n0 ⟨g, 3, [], 0, 0, 0, 0, 0, false, false⟩ none 0 nP w W) :
  C.wp Try.prog (bodyPost Try.prog Try.f21 (fun r w' => ∃ A c, r = .returned (.tuple #[vP (endD (kindR s ⟨g, 3, [], 0, 0, 0, 0, 0, false, false⟩ (i, e)).1 (kindR s ⟨g, 3, [], 0, 0, 0, 0, 0, false, false⟩ (i, e)).2).1 A c, .int .i64 ((endD (kindR s ⟨g, 3, [], 0, 0, 0, 0, 0, false, false⟩ (i, e)).1 (kindR s ⟨g, 3, [], 0, 0, 0, 0, 0, false, false⟩ (i, e)).2).2.1 : Int), .int .i64 ((endD (kindR s ⟨g, 3, [], 0, 0, 0, 0, 0, false, false⟩ (i, e)).1 (kindR s ⟨g, 3, [], 0, 0, 0, 0, 0, false, false⟩ (i, e)).2).2.2 : Int)]) ∧ Rd w' A c (endD (kindR s ⟨g, 3, [], 0, 0, 0, 0, 0, false, false⟩ (i, e)).1 (kindR s ⟨g, 3, [], 0, 0, 0, 0, 0, false, false⟩ (i, e)).2).1.l ∧ Below w.heap.size w w')) { tmps := #[.string s, u1, .pointer (some ⟨n0, 0, none⟩), .int .i64 0, .int .i64 0, .pointer (some ⟨B, 0, none⟩), .pointer (some ⟨nP, 0, none⟩), u7, u8, u9, u10, u11, u12, u13, u14, u15, u16, u17, u18, u19, u20, u21, u22, u23, u24, u25, u26, u27, u28, u29, u30, u31, u32, u33, u34, u35, u36, u37, u38, u39, u40, u41, u42, u43, u44, u45, u46, u47, u48, u49, u50, u51, u52, u53, u54, u55, u56, u57, u58, u59, u60, u61, u62, u63, u64, u65, u66, u67, u68, u69, u70, u71, u72, u73, u74, u75, u76, u77, u78], defers := [] } W := by
 have HH := Aside0.mk hh
 clear hh
 simp only [Try.f21] at hC
 subst hC
 obtain ⟨C6, hC6⟩ : ∃ C, (match Try.f21.body with | some (.seq _ (.seq _ (.seq _ (.seq _ (.seq _ (.seq _ c)))))) => c | _ => .skip) = C := ⟨_, rfl⟩
 have HC6 := Aside0.mk hC6
 simp only [Try.f21] at hC6
 rw [hC6]
 clear hC6
 obtain ⟨x1, b1, c1, h1⟩ : ∃ a b c, numR s (i, e) = (a, (b, c)) := ⟨_, _, _, rfl⟩
 have E1 := Aside0.mk h1
 obtain ⟨x2, b2, c2, h2⟩ : ∃ a b c, numR s (b1, c1) = (a, (b, c)) := ⟨_, _, _, rfl⟩
 have E2 := Aside0.mk h2
 have HR : Aside0 (kindR s ⟨g, 3, [], 0, 0, 0, 0, 0, false, false⟩ (i, e) = (⟨g, 3, [], 0, 0, 0, (x1 : Int), (x2 : Int), false, false⟩, (b2, c2))) := ⟨by unfold kindR; rw [if_neg (show ¬ (3 : Int) = 1 by decide), if_neg (show ¬ (3 : Int) = 2 by decide), if_pos (.inl rfl), h1]; dsimp only; rw [h2]⟩
 clear h1 h2
 rw [HR.out]
 obtain ⟨y0, y1, y2, y3, y4, y5, y6, y7, y8, y9⟩ := HH.out.hp.box
 have yf := HH.out.hp.free'
 try dsimp only at y0 y1 y2 y3 y4 y5 y6 y7 y8 y9
 go_wp2_with fail
 go_at_call 42
 refine (cun s i e B _ HH.out.hc HH.out.hs HH.out.hi E1.out).mono ?_
 rintro r w1 ⟨rfl, hc', ho, hi⟩
 replace HH := Aside0.mk (HH.out.call hc' ho hi)
 clear hc' ho hi
 clear y0 y1 y2 y3 y4 y5 y6 y7 y8 y9 yf
 obtain ⟨y0, y1, y2, y3, y4, y5, y6, y7, y8, y9⟩ := HH.out.hp.box
 have yf := HH.out.hp.free'
 try dsimp only at y0 y1 y2 y3 y4 y5 y6 y7 y8 y9
 go_wp2_with fail
 clear y0 y1 y2 y3 y4 y5 y6 y7 y8 y9 yf
 have hx := (Only.refl (fun q => q = nP) w1).setCell (p := ⟨nP, 6, none⟩) rfl (.int .i64 (x1 : Int))
 have hgl := BlkP.set6 HH.out.hp (x1 : Int)
 replace HH := Aside0.mk (HH.out.upd hgl hx)
 clear hx hgl
 obtain ⟨W1, hW⟩ : ∃ X, w1.setCell ⟨nP, 6, none⟩ (.int .i64 (x1 : Int)) = X := ⟨_, rfl⟩
 rw [hW] at HH ⊢
 clear hW
 obtain ⟨y0, y1, y2, y3, y4, y5, y6, y7, y8, y9⟩ := HH.out.hp.box
 have yf := HH.out.hp.free'
 try dsimp only at y0 y1 y2 y3 y4 y5 y6 y7 y8 y9
 try go_wp2_with fail
 go_at_call 42
 refine (cun s b1 c1 B _ HH.out.hc HH.out.hs HH.out.hi E2.out).mono ?_
 rintro r w2 ⟨rfl, hc', ho, hi⟩
 replace HH := Aside0.mk (HH.out.call hc' ho hi)
 clear hc' ho hi
 clear y0 y1 y2 y3 y4 y5 y6 y7 y8 y9 yf
 obtain ⟨y0, y1, y2, y3, y4, y5, y6, y7, y8, y9⟩ := HH.out.hp.box
 have yf := HH.out.hp.free'
 try dsimp only at y0 y1 y2 y3 y4 y5 y6 y7 y8 y9
 go_wp2_with fail
 clear y0 y1 y2 y3 y4 y5 y6 y7 y8 y9 yf
 have hx := (Only.refl (fun q => q = nP) w2).setCell (p := ⟨nP, 7, none⟩) rfl (.int .i64 (x2 : Int))
 have hgl := BlkP.set7 HH.out.hp (x2 : Int)
 replace HH := Aside0.mk (HH.out.upd hgl hx)
 clear hx hgl
 exact ref_d6 s b2 c2 B n0 nP ⟨g, 3, [], 0, 0, 0, (x1 : Int), (x2 : Int), false, false⟩ none 0 w _ C6 HC6.out u1 _ _ _ _ _ _ _ _ _ _ _ _ _ _ _ _ _ _ _ _ _ _ _ _ _ _ _ _ _ _ _ _ _ _ _ _ _ _ _ _ _ _ _ _ _ _ _ _ _ _ _ _ _ _ _ _ _ _ _ _ _ _ _ _ _ _ _ _ _ _ _ _ HH.out (Rd.nil _)
set_option maxHeartbeats 4000000 in
set_option maxRecDepth 100000 in
theorem ref_d5_4 (s : ByteArray) (i e B n0 nP : Nat) (g : Int) (w W : World) (C : Code) (hC : (match Try.f21.body with | some (.seq _ (.seq _ (.seq _ (.seq _ (.seq _ c))))) => c | _ => .skip) = C) (u1 u7 u8 u9 u10 u11 u12 u13 u14 u15 u16 u17 u18 u19 u20 u21 u22 u23 u24 u25 u26 u27 u28 u29 u30 u31 u32 u33 u34 u35 u36 u37 u38 u39 u40 u41 u42 u43 u44 u45 u46 u47 u48 u49 u50 u51 u52 u53 u54 u55 u56 u57 u58 u59 u60 u61 u62 u63 u64 u65 u66 u67 u68 u69 u70 u71 u72 u73 u74 u75 u76 u77 u78 : Value) (hh : DCt 72 s i e B n0 ⟨g, 4, [], 0, 0, 0, 0, 0, false, false⟩ none 0 nP w W) :
  C.wp Try.prog (bodyPost Try.prog Try.f21 (fun r w' => ∃ A c, r = .returned (.tuple #[vP (endD (kindR s ⟨g, 4, [], 0, 0, 0, 0, 0, false, false⟩ (i, e)).1 (kindR s ⟨g, 4, [], 0, 0, 0, 0, 0, false, false⟩ (i, e)).2).1 A c, .int .i64 ((endD (kindR s ⟨g, 4, [], 0, 0, 0, 0, 0, false, false⟩ (i, e)).1 (kindR s ⟨g, 4, [], 0, 0, 0, 0, 0, false, false⟩ (i, e)).2).2.1 : Int), .int .i64 ((endD (kindR s ⟨g, 4, [], 0, 0, 0, 0, 0, false, false⟩ (i, e)).1 (kindR s ⟨g, 4, [], 0, 0, 0, 0, 0, false, false⟩ (i, e)).2).2.2 : Int)]) ∧ Rd w' A c (endD (kindR s ⟨g, 4, [], 0, 0, 0, 0, 0, false, false⟩ (i, e)).1 (kindR s ⟨g, 4, [], 0, 0, 0, 0, 0, false, false⟩ (i, e)).2).1.l ∧ Below w.heap.size w w')) { tmps := #[.string s, u1, .pointer (some ⟨n0, 0, none⟩), .int .i64 0, .int .i64 0, .pointer (some ⟨B, 0, none⟩), .pointer (some ⟨nP, 0, none⟩), u7, u8, u9, u10, u11, u12, u13, u14, u15, u16, u17, u18, u19, u20, u21, u22, u23, u24, u25, u26, u27, u28, u29, u30, u31, u32, u33, u34, u35, u36, u37, u38, u39, u40, u41, u42, u43, u44, u45, u46, u47, u48, u49, u50, u51, u52, u53, u54, u55, u56, u57, u58, u59, u60, u61, u62, u63, u64, u65, u66, u67, u68, u69, u70, u71, u72, u73, u74, u75, u76, u77, u78], defers := [] } W := by
 have HH := Aside0.mk hh
 clear hh
 simp only [Try.f21] at hC
 subst hC
 obtain ⟨C6, hC6⟩ : ∃ C, (match Try.f21.body with | some (.seq _ (.seq _ (.seq _ (.seq _ (.seq _ (.seq _ c)))))) => c | _ => .skip) = C := ⟨_, rfl⟩
 have HC6 := Aside0.mk hC6
 simp only [Try.f21] at hC6
 rw [hC6]
 clear hC6
 obtain ⟨x1, b1, c1, h1⟩ : ∃ a b c, numR s (i, e) = (a, (b, c)) := ⟨_, _, _, rfl⟩
 have E1 := Aside0.mk h1
 obtain ⟨x2, b2, c2, h2⟩ : ∃ a b c, numR s (b1, c1) = (a, (b, c)) := ⟨_, _, _, rfl⟩
 have E2 := Aside0.mk h2
 have HR : Aside0 (kindR s ⟨g, 4, [], 0, 0, 0, 0, 0, false, false⟩ (i, e) = (⟨g, 4, [], 0, 0, 0, (x1 : Int), (x2 : Int), false, false⟩, (b2, c2))) := ⟨by unfold kindR; rw [if_neg (show ¬ (4 : Int) = 1 by decide), if_neg (show ¬ (4 : Int) = 2 by decide), if_pos (.inr rfl), h1]; dsimp only; rw [h2]⟩
 clear h1 h2
 rw [HR.out]
 obtain ⟨y0, y1, y2, y3, y4, y5, y6, y7, y8, y9⟩ := HH.out.hp.box
 have yf := HH.out.hp.free'
 try dsimp only at y0 y1 y2 y3 y4 y5 y6 y7 y8 y9
 go_wp2_with fail
 go_at_call 42
 refine (cun s i e B _ HH.out.hc HH.out.hs HH.out.hi E1.out).mono ?_
 rintro r w1 ⟨rfl, hc', ho, hi⟩
 replace HH := Aside0.mk (HH.out.call hc' ho hi)
 clear hc' ho hi
 clear y0 y1 y2 y3 y4 y5 y6 y7 y8 y9 yf
 obtain ⟨y0, y1, y2, y3, y4, y5, y6, y7, y8, y9⟩ := HH.out.hp.box
 have yf := HH.out.hp.free'
 try dsimp only at y0 y1 y2 y3 y4 y5 y6 y7 y8 y9
 go_wp2_with fail
 clear y0 y1 y2 y3 y4 y5 y6 y7 y8 y9 yf
 have hx := (Only.refl (fun q => q = nP) w1).setCell (p := ⟨nP, 6, none⟩) rfl (.int .i64 (x1 : Int))
 have hgl := BlkP.set6 HH.out.hp (x1 : Int)
 replace HH := Aside0.mk (HH.out.upd hgl hx)
 clear hx hgl
 obtain ⟨W1, hW⟩ : ∃ X, w1.setCell ⟨nP, 6, none⟩ (.int .i64 (x1 : Int)) = X := ⟨_, rfl⟩
 rw [hW] at HH ⊢
 clear hW
 obtain ⟨y0, y1, y2, y3, y4, y5, y6, y7, y8, y9⟩ := HH.out.hp.box
 have yf := HH.out.hp.free'
 try dsimp only at y0 y1 y2 y3 y4 y5 y6 y7 y8 y9
 try go_wp2_with fail
 go_at_call 42
 refine (cun s b1 c1 B _ HH.out.hc HH.out.hs HH.out.hi E2.out).mono ?_
 rintro r w2 ⟨rfl, hc', ho, hi⟩
 replace HH := Aside0.mk (HH.out.call hc' ho hi)
 clear hc' ho hi
 clear y0 y1 y2 y3 y4 y5 y6 y7 y8 y9 yf
 obtain ⟨y0, y1, y2, y3, y4, y5, y6, y7, y8, y9⟩ := HH.out.hp.box
 have yf := HH.out.hp.free'
 try dsimp only at y0 y1 y2 y3 y4 y5 y6 y7 y8 y9
 go_wp2_with fail
 clear y0 y1 y2 y3 y4 y5 y6 y7 y8 y9 yf
 have hx := (Only.refl (fun q => q = nP) w2).setCell (p := ⟨nP, 7, none⟩) rfl (.int .i64 (x2 : Int))
 have hgl := BlkP.set7 HH.out.hp (x2 : Int)
 replace HH := Aside0.mk (HH.out.upd hgl hx)
 clear hx hgl
 exact ref_d6 s b2 c2 B n0 nP ⟨g, 4, [], 0, 0, 0, (x1 : Int), (x2 : Int), false, false⟩ none 0 w _ C6 HC6.out u1 _ _ _ _ _ _ _ _ _ _ _ _ _ _ _ _ _ _ _ _ _ _ _ _ _ _ _ _ _ _ _ _ _ _ _ _ _ _ _ _ _ _ _ _ _ _ _ _ _ _ _ _ _ _ _ _ _ _ _ _ _ _ _ _ _ _ _ _ _ _ _ _ HH.out (Rd.nil _)
set_option maxHeartbeats 4000000 in
set_option maxRecDepth 100000 in
theorem ref_d5_6 (s : ByteArray) (i e B n0 nP : Nat) (g : Int) (w W : World) (C : Code) (hC : (match Try.f21.body with | some (.seq _ (.seq _ (.seq _ (.seq _ (.seq _ c))))) => c | _ => .skip) = C) (u1 u7 u8 u9 u10 u11 u12 u13 u14 u15 u16 u17 u18 u19 u20 u21 u22 u23 u24 u25 u26 u27 u28 u29 u30 u31 u32 u33 u34 u35 u36 u37 u38 u39 u40 u41 u42 u43 u44 u45 u46 u47 u48 u49 u50 u51 u52 u53 u54 u55 u56 u57 u58 u59 u60 u61 u62 u63 u64 u65 u66 u67 u68 u69 u70 u71 u72 u73 u74 u75 u76 u77 u78 : Value) (hh : DCt 72 s i e B n0 ⟨g, 6, [], 0, 0, 0, 0, 0, false, false⟩ none 0 nP w W) :
  C.wp Try.prog (bodyPost Try.prog Try.f21 (fun r w' => ∃ A c, r = .returned (.tuple #[vP (endD (kindR s ⟨g, 6, [], 0, 0, 0, 0, 0, false, false⟩ (i, e)).1 (kindR s ⟨g, 6, [], 0, 0, 0, 0, 0, false, false⟩ (i, e)).2).1 A c, .int .i64 ((endD (kindR s ⟨g, 6, [], 0, 0, 0, 0, 0, false, false⟩ (i, e)).1 (kindR s ⟨g, 6, [], 0, 0, 0, 0, 0, false, false⟩ (i, e)).2).2.1 : Int), .int .i64 ((endD (kindR s ⟨g, 6, [], 0, 0, 0, 0, 0, false, false⟩ (i, e)).1 (kindR s ⟨g, 6, [], 0, 0, 0, 0, 0, false, false⟩ (i, e)).2).2.2 : Int)]) ∧ Rd w' A c (endD (kindR s ⟨g, 6, [], 0, 0, 0, 0, 0, false, false⟩ (i, e)).1 (kindR s ⟨g, 6, [], 0, 0, 0, 0, 0, false, false⟩ (i, e)).2).1.l ∧ Below w.heap.size w w')) { tmps := #[.string s, u1, .pointer (some ⟨n0, 0, none⟩), .int .i64 0, .int .i64 0, .pointer (some ⟨B, 0, none⟩), .pointer (some ⟨nP, 0, none⟩), u7, u8, u9, u10, u11, u12, u13, u14, u15, u16, u17, u18, u19, u20, u21, u22, u23, u24, u25, u26, u27, u28, u29, u30, u31, u32, u33, u34, u35, u36, u37, u38, u39, u40, u41, u42, u43, u44, u45, u46, u47, u48, u49, u50, u51, u52, u53, u54, u55, u56, u57, u58, u59, u60, u61, u62, u63, u64, u65, u66, u67, u68, u69, u70, u71, u72, u73, u74, u75, u76, u77, u78], defers := [] } W := by
 have HH := Aside0.mk hh
 clear hh
 simp only [Try.f21] at hC
 subst hC
 obtain ⟨C6, hC6⟩ : ∃ C, (match Try.f21.body with | some (.seq _ (.seq _ (.seq _ (.seq _ (.seq _ (.seq _ c)))))) => c | _ => .skip) = C := ⟨_, rfl⟩
 have HC6 := Aside0.mk hC6
 simp only [Try.f21] at hC6
 rw [hC6]
 clear hC6
 obtain ⟨P, b1, c1, h1⟩ : ∃ P b c, fwdR s g 6 (i, e) = (P, (b, c)) := ⟨_, _, _, rfl⟩
 have E1 := Aside0.mk h1
 have HR : Aside0 (kindR s ⟨g, 6, [], 0, 0, 0, 0, 0, false, false⟩ (i, e) = (P, (b1, c1))) := ⟨by unfold kindR; rw [if_neg (show ¬ (6 : Int) = 1 by decide), if_neg (show ¬ (6 : Int) = 2 by decide), if_neg (show ¬ ((6 : Int) = 3 ∨ (6 : Int) = 4) by decide), if_pos rfl, h1]⟩
 clear h1
 rw [HR.out]
 obtain ⟨y0, y1, y2, y3, y4, y5, y6, y7, y8, y9⟩ := HH.out.hp.box
 have yf := HH.out.hp.free'
 try dsimp only at y0 y1 y2 y3 y4 y5 y6 y7 y8 y9
 go_wp2_with fail
 go_at_call 46
 refine (cu_forward s i e B nP g 6 _ HH.out.hc HH.out.hp HH.out.hs HH.out.hi (by have := HH.out.lt; omega) E1.out).mono ?_
 rintro r w1 ⟨⟨v, rfl⟩, A6, c6, hp', hrd, hc', ho, hi⟩
 have h9 := HH.out.both hc' hp' ho hi
 clear y0 y1 y2 y3 y4 y5 y6 y7 y8 y9 yf
 have HX9 := Aside0.mk h9
 have HRD := Aside0.mk hrd
 clear h9 hp' hrd hc' ho hi
 go_wp2_with fail
 exact ref_d6 s b1 c1 B n0 nP P A6 c6 w w1 C6 HC6.out u1 _ _ _ _ _ _ _ _ _ _ _ _ _ _ _ _ _ _ _ _ _ _ _ _ _ _ _ _ _ _ _ _ _ _ _ _ _ _ _ _ _ _ _ _ _ _ _ _ _ _ _ _ _ _ _ _ _ _ _ _ _ _ _ _ _ _ _ _ _ _ _ _ HX9.out HRD.out
set_option maxHeartbeats 4000000 in
set_option maxRecDepth 100000 in
theorem ref_d5_0 (s : ByteArray) (i e B n0 nP : Nat) (g kd : Int) (w W : World) (C : Code) (hC : (match Try.f21.body with | some (.seq _ (.seq _ (.seq _ (.seq _ (.seq _ c))))) => c | _ => .skip) = C) (u1 u7 u8 u9 u10 u11 u12 u13 u14 u15 u16 u17 u18 u19 u20 u21 u22 u23 u24 u25 u26 u27 u28 u29 u30 u31 u32 u33 u34 u35 u36 u37 u38 u39 u40 u41 u42 u43 u44 u45 u46 u47 u48 u49 u50 u51 u52 u53 u54 u55 u56 u57 u58 u59 u60 u61 u62 u63 u64 u65 u66 u67 u68 u69 u70 u71 u72 u73 u74 u75 u76 u77 u78 : Value) (hh : DCt 72 s i e B n0 ⟨g, kd, [], 0, 0, 0, 0, 0, false, false⟩ none 0 nP w W) (hk : ¬ (kd = 1 ∨ kd = 2 ∨ kd = 3 ∨ kd = 4 ∨ kd = 6)) :
  C.wp Try.prog (bodyPost Try.prog Try.f21 (fun r w' => ∃ A c, r = .returned (.tuple #[vP (endD (kindR s ⟨g, kd, [], 0, 0, 0, 0, 0, false, false⟩ (i, e)).1 (kindR s ⟨g, kd, [], 0, 0, 0, 0, 0, false, false⟩ (i, e)).2).1 A c, .int .i64 ((endD (kindR s ⟨g, kd, [], 0, 0, 0, 0, 0, false, false⟩ (i, e)).1 (kindR s ⟨g, kd, [], 0, 0, 0, 0, 0, false, false⟩ (i, e)).2).2.1 : Int), .int .i64 ((endD (kindR s ⟨g, kd, [], 0, 0, 0, 0, 0, false, false⟩ (i, e)).1 (kindR s ⟨g, kd, [], 0, 0, 0, 0, 0, false, false⟩ (i, e)).2).2.2 : Int)]) ∧ Rd w' A c (endD (kindR s ⟨g, kd, [], 0, 0, 0, 0, 0, false, false⟩ (i, e)).1 (kindR s ⟨g, kd, [], 0, 0, 0, 0, 0, false, false⟩ (i, e)).2).1.l ∧ Below w.heap.size w w')) { tmps := #[.string s, u1, .pointer (some ⟨n0, 0, none⟩), .int .i64 0, .int .i64 0, .pointer (some ⟨B, 0, none⟩), .pointer (some ⟨nP, 0, none⟩), u7, u8, u9, u10, u11, u12, u13, u14, u15, u16, u17, u18, u19, u20, u21, u22, u23, u24, u25, u26, u27, u28, u29, u30, u31, u32, u33, u34, u35, u36, u37, u38, u39, u40, u41, u42, u43, u44, u45, u46, u47, u48, u49, u50, u51, u52, u53, u54, u55, u56, u57, u58, u59, u60, u61, u62, u63, u64, u65, u66, u67, u68, u69, u70, u71, u72, u73, u74, u75, u76, u77, u78], defers := [] } W := by
 have HH := Aside0.mk hh
 clear hh
 simp only [Try.f21] at hC
 subst hC
 obtain ⟨C6, hC6⟩ : ∃ C, (match Try.f21.body with | some (.seq _ (.seq _ (.seq _ (.seq _ (.seq _ (.seq _ c)))))) => c | _ => .skip) = C := ⟨_, rfl⟩
 have HC6 := Aside0.mk hC6
 simp only [Try.f21] at hC6
 rw [hC6]
 clear hC6
 have k1 : (kd == 1) = false := beq_eq_false_iff_ne.2 (fun h => hk (by omega))
 have k2 : (kd == 2) = false := beq_eq_false_iff_ne.2 (fun h => hk (by omega))
 have k3 : (kd == 3) = false := beq_eq_false_iff_ne.2 (fun h => hk (by omega))
 have k4 : (kd == 4) = false := beq_eq_false_iff_ne.2 (fun h => hk (by omega))
 have k6 : (kd == 6) = false := beq_eq_false_iff_ne.2 (fun h => hk (by omega))
 have HR : Aside0 (kindR s ⟨g, kd, [], 0, 0, 0, 0, 0, false, false⟩ (i, e) = (⟨g, kd, [], 0, 0, 0, 0, 0, false, false⟩, (i, e))) := ⟨by unfold kindR; rw [if_neg (fun h => hk (.inl h)), if_neg (fun h => hk (.inr (.inl h))), if_neg (fun h => hk (.inr (.inr (by rcases h with h | h; exact .inl h; exact .inr (.inl h))))), if_neg (fun h => hk (.inr (.inr (.inr (.inr h)))))]⟩
 clear hk
 rw [HR.out]
 obtain ⟨y0, y1, y2, y3, y4, y5, y6, y7, y8, y9⟩ := HH.out.hp.box
 have yf := HH.out.hp.free'
 try dsimp only at y0 y1 y2 y3 y4 y5 y6 y7 y8 y9
 go_wp2_with fail
 exact ref_d6 s i e B n0 nP ⟨g, kd, [], 0, 0, 0, 0, 0, false, false⟩ none 0 w W C6 HC6.out u1 _ _ _ _ _ _ _ _ _ _ _ _ _ _ _ _ _ _ _ _ _ _ _ _ _ _ _ _ _ _ _ _ _ _ _ _ _ _ _ _ _ _ _ _ _ _ _ _ _ _ _ _ _ _ _ _ _ _ _ _ _ _ _ _ _ _ _ _ _ _ _ _ HH.out (Rd.nil _)
theorem ref_d5 (s : ByteArray) (i e B n0 nP : Nat) (g kd : Int) (w W : World) (C : Code) (hC : (match Try.f21.body with | some (.seq _ (.seq _ (.seq _ (.seq _ (.seq _ c))))) => c | _ => .skip) = C) (u1 u7 u8 u9 u10 u11 u12 u13 u14 u15 u16 u17 u18 u19 u20 u21 u22 u23 u24 u25 u26 u27 u28 u29 u30 u31 u32 u33 u34 u35 u36 u37 u38 u39 u40 u41 u42 u43 u44 u45 u46 u47 u48 u49 u50 u51 u52 u53 u54 u55 u56 u57 u58 u59 u60 u61 u62 u63 u64 u65 u66 u67 u68 u69 u70 u71 u72 u73 u74 u75 u76 u77 u78 : Value) (hh : DCt 72 s i e B n0 ⟨g, kd, [], 0, 0, 0, 0, 0, false, false⟩ none 0 nP w W) : C.wp Try.prog (bodyPost Try.prog Try.f21 (fun r w' => ∃ A c, r = .returned (.tuple #[vP (endD (kindR s ⟨g, kd, [], 0, 0, 0, 0, 0, false, false⟩ (i, e)).1 (kindR s ⟨g, kd, [], 0, 0, 0, 0, 0, false, false⟩ (i, e)).2).1 A c, .int .i64 ((endD (kindR s ⟨g, kd, [], 0, 0, 0, 0, 0, false, false⟩ (i, e)).1 (kindR s ⟨g, kd, [], 0, 0, 0, 0, 0, false, false⟩ (i, e)).2).2.1 : Int), .int .i64 ((endD (kindR s ⟨g, kd, [], 0, 0, 0, 0, 0, false, false⟩ (i, e)).1 (kindR s ⟨g, kd, [], 0, 0, 0, 0, 0, false, false⟩ (i, e)).2).2.2 : Int)]) ∧ Rd w' A c (endD (kindR s ⟨g, kd, [], 0, 0, 0, 0, 0, false, false⟩ (i, e)).1 (kindR s ⟨g, kd, [], 0, 0, 0, 0, 0, false, false⟩ (i, e)).2).1.l ∧ Below w.heap.size w w')) { tmps := #[.string s, u1, .pointer (some ⟨n0, 0, none⟩), .int .i64 0, .int .i64 0, .pointer (some ⟨B, 0, none⟩), .pointer (some ⟨nP, 0, none⟩), u7, u8, u9, u10, u11, u12, u13, u14, u15, u16, u17, u18, u19, u20, u21, u22, u23, u24, u25, u26, u27, u28, u29, u30, u31, u32, u33, u34, u35, u36, u37, u38, u39, u40, u41, u42, u43, u44, u45, u46, u47, u48, u49, u50, u51, u52, u53, u54, u55, u56, u57, u58, u59, u60, u61, u62, u63, u64, u65, u66, u67, u68, u69, u70, u71, u72, u73, u74, u75, u76, u77, u78], defers := [] } W := by
  by_cases hk : kd = 1 ∨ kd = 2 ∨ kd = 3 ∨ kd = 4 ∨ kd = 6
  · rcases hk with rfl | rfl | rfl | rfl | rfl
    · exact ref_d5_1 s i e B n0 nP g w W C hC u1 u7 u8 u9 u10 u11 u12 u13 u14 u15 u16 u17 u18 u19 u20 u21 u22 u23 u24 u25 u26 u27 u28 u29 u30 u31 u32 u33 u34 u35 u36 u37 u38 u39 u40 u41 u42 u43 u44 u45 u46 u47 u48 u49 u50 u51 u52 u53 u54 u55 u56 u57 u58 u59 u60 u61 u62 u63 u64 u65 u66 u67 u68 u69 u70 u71 u72 u73 u74 u75 u76 u77 u78 hh
    · exact ref_d5_2 s i e B n0 nP g w W C hC u1 u7 u8 u9 u10 u11 u12 u13 u14 u15 u16 u17 u18 u19 u20 u21 u22 u23 u24 u25 u26 u27 u28 u29 u30 u31 u32 u33 u34 u35 u36 u37 u38 u39 u40 u41 u42 u43 u44 u45 u46 u47 u48 u49 u50 u51 u52 u53 u54 u55 u56 u57 u58 u59 u60 u61 u62 u63 u64 u65 u66 u67 u68 u69 u70 u71 u72 u73 u74 u75 u76 u77 u78 hh
    · exact ref_d5_3 s i e B n0 nP g w W C hC u1 u7 u8 u9 u10 u11 u12 u13 u14 u15 u16 u17 u18 u19 u20 u21 u22 u23 u24 u25 u26 u27 u28 u29 u30 u31 u32 u33 u34 u35 u36 u37 u38 u39 u40 u41 u42 u43 u44 u45 u46 u47 u48 u49 u50 u51 u52 u53 u54 u55 u56 u57 u58 u59 u60 u61 u62 u63 u64 u65 u66 u67 u68 u69 u70 u71 u72 u73 u74 u75 u76 u77 u78 hh
    · exact ref_d5_4 s i e B n0 nP g w W C hC u1 u7 u8 u9 u10 u11 u12 u13 u14 u15 u16 u17 u18 u19 u20 u21 u22 u23 u24 u25 u26 u27 u28 u29 u30 u31 u32 u33 u34 u35 u36 u37 u38 u39 u40 u41 u42 u43 u44 u45 u46 u47 u48 u49 u50 u51 u52 u53 u54 u55 u56 u57 u58 u59 u60 u61 u62 u63 u64 u65 u66 u67 u68 u69 u70 u71 u72 u73 u74 u75 u76 u77 u78 hh
    · exact ref_d5_6 s i e B n0 nP g w W C hC u1 u7 u8 u9 u10 u11 u12 u13 u14 u15 u16 u17 u18 u19 u20 u21 u22 u23 u24 u25 u26 u27 u28 u29 u30 u31 u32 u33 u34 u35 u36 u37 u38 u39 u40 u41 u42 u43 u44 u45 u46 u47 u48 u49 u50 u51 u52 u53 u54 u55 u56 u57 u58 u59 u60 u61 u62 u63 u64 u65 u66 u67 u68 u69 u70 u71 u72 u73 u74 u75 u76 u77 u78 hh
  · exact ref_d5_0 s i e B n0 nP g kd w W C hC u1 u7 u8 u9 u10 u11 u12 u13 u14 u15 u16 u17 u18 u19 u20 u21 u22 u23 u24 u25 u26 u27 u28 u29 u30 u31 u32 u33 u34 u35 u36 u37 u38 u39 u40 u41 u42 u43 u44 u45 u46 u47 u48 u49 u50 u51 u52 u53 u54 u55 u56 u57 u58 u59 u60 u61 u62 u63 u64 u65 u66 u67 u68 u69 u70 u71 u72 u73 u74 u75 u76 u77 u78 hh hk
set_option maxHeartbeats 4000000 in
set_option maxRecDepth 100000 in
theorem ref_d4_z (s : ByteArray) (i e B n0 nP : Nat) (g kd : Int) (w W : World) (C : Code) (hC : (match Try.f21.body with | some (.seq _ (.seq _ (.seq _ (.seq _ c)))) => c | _ => .skip) = C) (u1 u7 u8 u9 u10 u11 u12 u13 u14 u15 u16 u17 u18 u19 u20 u21 u22 u23 u24 u25 u26 u27 u28 u29 u30 u31 u32 u33 u34 u35 u36 u37 u38 u39 u40 u41 u42 u43 u44 u45 u46 u47 u48 u49 u50 u51 u52 u53 u54 u55 u56 u57 u58 u59 u60 u61 u62 u63 u64 u65 u66 u67 u68 u69 u70 u71 u72 u73 u74 u75 u76 u77 u78 : Value) (hh : DCt 72 s i e B n0 ⟨g, kd, [], 0, 0, 0, 0, 0, false, false⟩ none 0 nP w W) (he : e ≠ 0) :
  C.wp Try.prog (bodyPost Try.prog Try.f21 (fun r w' => ∃ A c, r = .returned (.tuple #[vP (if e ≠ 0 then ((ZP, (0, e)) : Prt × (Nat × Nat)) else endD (kindR s ⟨g, kd, [], 0, 0, 0, 0, 0, false, false⟩ (i, e)).1 (kindR s ⟨g, kd, [], 0, 0, 0, 0, 0, false, false⟩ (i, e)).2).1 A c, .int .i64 ((if e ≠ 0 then ((ZP, (0, e)) : Prt × (Nat × Nat)) else endD (kindR s ⟨g, kd, [], 0, 0, 0, 0, 0, false, false⟩ (i, e)).1 (kindR s ⟨g, kd, [], 0, 0, 0, 0, 0, false, false⟩ (i, e)).2).2.1 : Int), .int .i64 ((if e ≠ 0 then ((ZP, (0, e)) : Prt × (Nat × Nat)) else endD (kindR s ⟨g, kd, [], 0, 0, 0, 0, 0, false, false⟩ (i, e)).1 (kindR s ⟨g, kd, [], 0, 0, 0, 0, 0, false, false⟩ (i, e)).2).2.2 : Int)]) ∧ Rd w' A c (if e ≠ 0 then ((ZP, (0, e)) : Prt × (Nat × Nat)) else endD (kindR s ⟨g, kd, [], 0, 0, 0, 0, 0, false, false⟩ (i, e)).1 (kindR s ⟨g, kd, [], 0, 0, 0, 0, 0, false, false⟩ (i, e)).2).1.l ∧ Below w.heap.size w w')) { tmps := #[.string s, u1, .pointer (some ⟨n0, 0, none⟩), .int .i64 0, .int .i64 0, .pointer (some ⟨B, 0, none⟩), .pointer (some ⟨nP, 0, none⟩), u7, u8, u9, u10, u11, u12, u13, u14, u15, u16, u17, u18, u19, u20, u21, u22, u23, u24, u25, u26, u27, u28, u29, u30, u31, u32, u33, u34, u35, u36, u37, u38, u39, u40, u41, u42, u43, u44, u45, u46, u47, u48, u49, u50, u51, u52, u53, u54, u55, u56, u57, u58, u59, u60, u61, u62, u63, u64, u65, u66, u67, u68, u69, u70, u71, u72, u73, u74, u75, u76, u77, u78], defers := [] } W := by
 have HH := Aside0.mk hh
 clear hh
 simp only [Try.f21] at hC
 subst hC
 have j1 : ((e : Int) != 0) = true := by rw [bne, beq_eq_false_iff_ne.2 (by omega)]; rfl
 have j2 : (e != 0) = true := by rw [bne, beq_eq_false_iff_ne.2 he]; rfl
 rw [if_pos he]
 have HR : Aside0 (((ZP, (0, e)) : Prt × (Nat × Nat)) = (ZP, (0, e))) := ⟨rfl⟩
 clear he
 obtain ⟨C5, hC5⟩ : ∃ C, (match Try.f21.body with | some (.seq _ (.seq _ (.seq _ (.seq _ (.seq _ c))))) => c | _ => .skip) = C := ⟨_, rfl⟩
 have HC5 := Aside0.mk hC5
 simp only [Try.f21] at hC5
 rw [hC5]
 clear hC5
 obtain ⟨q0, q1, q2⟩ := HH.out.hc.box
 go_wp2_with fail
 clear q0 q1 q2
 go_wp2_with fail
 replace HH := Aside0.mk HH.out.drew
 refine start_ (n := 8) (S := (fun w' => w'.cell? ⟨B, 1, none⟩ = some (.int .i64 (i : Int)) ∧ w'.cell? ⟨B, 2, none⟩ = some (.int .i64 (e : Int)))) (ds := []) #[false,false,false,false,false,false,false,false] (by kernel_rfl) rfl rfl HH.out.hc.box.2 (fun hHeld => ?_)
 obtain ⟨W9, hW9⟩ : ∃ X, W.drew = X := ⟨_, rfl⟩
 rw [hW9] at hHeld HH ⊢
 clear hW9
 obtain ⟨z0, z1, z2, z3, z4, z5, z6, z7, z8, z9⟩ := HH.out.hr.box
 have zf := HH.out.hr.free'
 refine pure_ (i := 0) (N := some 30) (v := ?_) (a' := ?_) #[true,false,false,false,false,false,false,false] rfl rfl (by kernel_rfl) (fun _ _ _ h => h) (Or.inl ⟨by rfl, ?_⟩) ?_ ?_
 rotate_left
 · intro w'
   go_simp
   try with_reducible rfl
 rotate_left
 · simp only [Act.put, sA, sB, sC]
   rfl
 refine pure_ (i := 1) (N := some 31) (v := ?_) (a' := ?_) #[true,true,false,false,false,false,false,false] rfl rfl (by kernel_rfl) (fun _ _ _ h => h) (Or.inl ⟨by rfl, ?_⟩) ?_ ?_
 rotate_left
 · intro w'
   go_simp
   try with_reducible rfl
 rotate_left
 · simp only [Act.put, sA, sB, sC]
   rfl
 refine pure_ (i := 2) (N := some 32) (v := ?_) (a' := ?_) #[true,true,true,false,false,false,false,false] rfl rfl (by kernel_rfl) (fun _ _ _ h => h) (Or.inl ⟨by rfl, ?_⟩) ?_ ?_
 rotate_left
 · intro w'
   go_simp
   try with_reducible rfl
 rotate_left
 · simp only [Act.put, sA, sB, sC]
   rfl
 refine pure_ (i := 3) (N := some 33) (v := ?_) (a' := ?_) #[true,true,true,true,false,false,false,false] rfl rfl (by kernel_rfl) (fun _ _ _ h => h) (Or.inl ⟨by rfl, ?_⟩) ?_ ?_
 rotate_left
 · intro w'
   go_simp
   try with_reducible rfl
 rotate_left
 · simp only [Act.put, sA, sB, sC]
   rfl
 refine take_ (i := 4) (N := some 34) (v := ?_) (a' := ?_) #[true,true,true,true,true,false,false,false] rfl rfl (by kernel_rfl) (fun _ _ _ h => h) (Or.inl ⟨by rfl, ?_⟩) hHeld ?_ ?_
 rotate_left
 · rintro w' ⟨q1, q2⟩
   go_simp
   try with_reducible rfl
 rotate_left
 · simp only [Act.put, sA, sB, sC]
   rfl
 refine one_ (i := 5) (N := none) #[true,true,true,true,true,true,false,false] rfl rfl (by kernel_rfl) (by decide) (fun K hK => ?_)
 go_simp
 refine hK.out _ _ ?_ (fun hHeld => ?_)
 · exact (BlkC.only HH.out.hc (only_putP W9 n0 ⟨0, 0, [], 0, 0, 0, 0, 0, false, false⟩ none 0) (fun h' => by have h2 : B = n0 := h'; have := HH.out.lt; omega)).box.2
 clear hK K
 try simp only [Act.put, sA, sB, sC]
 refine pure_ (i := 6) (N := some 3) (v := ?_) (a' := ?_) #[true,true,true,true,true,true,true,false] rfl rfl (by kernel_rfl) (fun _ _ _ h => h) (Or.inl ⟨by rfl, ?_⟩) ?_ ?_
 rotate_left
 · intro w'
   go_simp
   try with_reducible rfl
 rotate_left
 · simp only [Act.put, sA, sB, sC]
   rfl
 refine pure_ (i := 7) (N := some 4) (v := ?_) (a' := ?_) #[true,true,true,true,true,true,true,true] rfl rfl (by kernel_rfl) (fun _ _ _ h => h) (Or.inl ⟨by rfl, ?_⟩) ?_ ?_
 rotate_left
 · intro w'
   go_simp
   try with_reducible rfl
 rotate_left
 · simp only [Act.put, sA, sB, sC]
   rfl
 refine done_ (by kernel_rfl) ?_
 clear hHeld z0 z1 z2 z3 z4 z5 z6 z7 z8 z9 zf
 go_wp2
 have hx := only_putP W9 n0 ⟨0, 0, [], 0, 0, 0, 0, 0, false, false⟩ none 0
 have hb := HH.out.hr.put ⟨0, 0, [], 0, 0, 0, 0, 0, false, false⟩ none 0
 obtain ⟨y0, y1, y2, y3, y4, y5, y6, y7, y8, y9⟩ := hb.box
 have hbe := HH.out.hb.trans (hx.below HH.out.hb.size (fun q hq h' => by have h2 : q = n0 := h'; have := HH.out.lt; omega))
 unfold putP at y0 y1 y2 y3 y4 y5 y6 y7 y8 y9 hbe
 dsimp only [List.length_nil] at y0 y1 y2 y3 y4 y5 y6 y7 y8 y9 hbe
 refine bodyPost_ret (v := .tuple #[vP ⟨0, 0, [], 0, 0, 0, 0, 0, false, false⟩ none 0, .int .i64 0, .int .i64 (e : Int)]) (by simp [results, Try.results21, go_sem, vP, y0, y1, y2, y3, y4, y5, y6, y7, y8, y9, ZP]) rfl ?_
 try rw [HR.out]
 exact ⟨none, 0, rfl, Rd.nil _, hbe⟩
set_option maxHeartbeats 4000000 in
set_option maxRecDepth 100000 in
theorem ref_d4_p (s : ByteArray) (i e B n0 nP : Nat) (g kd : Int) (w W : World) (C : Code) (hC : (match Try.f21.body with | some (.seq _ (.seq _ (.seq _ (.seq _ c)))) => c | _ => .skip) = C) (u1 u7 u8 u9 u10 u11 u12 u13 u14 u15 u16 u17 u18 u19 u20 u21 u22 u23 u24 u25 u26 u27 u28 u29 u30 u31 u32 u33 u34 u35 u36 u37 u38 u39 u40 u41 u42 u43 u44 u45 u46 u47 u48 u49 u50 u51 u52 u53 u54 u55 u56 u57 u58 u59 u60 u61 u62 u63 u64 u65 u66 u67 u68 u69 u70 u71 u72 u73 u74 u75 u76 u77 u78 : Value) (hh : DCt 72 s i e B n0 ⟨g, kd, [], 0, 0, 0, 0, 0, false, false⟩ none 0 nP w W) (he : e = 0) :
  C.wp Try.prog (bodyPost Try.prog Try.f21 (fun r w' => ∃ A c, r = .returned (.tuple #[vP (if e ≠ 0 then ((ZP, (0, e)) : Prt × (Nat × Nat)) else endD (kindR s ⟨g, kd, [], 0, 0, 0, 0, 0, false, false⟩ (i, e)).1 (kindR s ⟨g, kd, [], 0, 0, 0, 0, 0, false, false⟩ (i, e)).2).1 A c, .int .i64 ((if e ≠ 0 then ((ZP, (0, e)) : Prt × (Nat × Nat)) else endD (kindR s ⟨g, kd, [], 0, 0, 0, 0, 0, false, false⟩ (i, e)).1 (kindR s ⟨g, kd, [], 0, 0, 0, 0, 0, false, false⟩ (i, e)).2).2.1 : Int), .int .i64 ((if e ≠ 0 then ((ZP, (0, e)) : Prt × (Nat × Nat)) else endD (kindR s ⟨g, kd, [], 0, 0, 0, 0, 0, false, false⟩ (i, e)).1 (kindR s ⟨g, kd, [], 0, 0, 0, 0, 0, false, false⟩ (i, e)).2).2.2 : Int)]) ∧ Rd w' A c (if e ≠ 0 then ((ZP, (0, e)) : Prt × (Nat × Nat)) else endD (kindR s ⟨g, kd, [], 0, 0, 0, 0, 0, false, false⟩ (i, e)).1 (kindR s ⟨g, kd, [], 0, 0, 0, 0, 0, false, false⟩ (i, e)).2).1.l ∧ Below w.heap.size w w')) { tmps := #[.string s, u1, .pointer (some ⟨n0, 0, none⟩), .int .i64 0, .int .i64 0, .pointer (some ⟨B, 0, none⟩), .pointer (some ⟨nP, 0, none⟩), u7, u8, u9, u10, u11, u12, u13, u14, u15, u16, u17, u18, u19, u20, u21, u22, u23, u24, u25, u26, u27, u28, u29, u30, u31, u32, u33, u34, u35, u36, u37, u38, u39, u40, u41, u42, u43, u44, u45, u46, u47, u48, u49, u50, u51, u52, u53, u54, u55, u56, u57, u58, u59, u60, u61, u62, u63, u64, u65, u66, u67, u68, u69, u70, u71, u72, u73, u74, u75, u76, u77, u78], defers := [] } W := by
 have HH := Aside0.mk hh
 clear hh
 simp only [Try.f21] at hC
 subst hC
 subst he
 have j1 : (((0 : Nat) : Int) != 0) = false := rfl
 rw [if_neg (fun h => h rfl)]
 obtain ⟨C5, hC5⟩ : ∃ C, (match Try.f21.body with | some (.seq _ (.seq _ (.seq _ (.seq _ (.seq _ c))))) => c | _ => .skip) = C := ⟨_, rfl⟩
 have HC5 := Aside0.mk hC5
 simp only [Try.f21] at hC5
 rw [hC5]
 clear hC5
 obtain ⟨q0, q1, q2⟩ := HH.out.hc.box
 go_wp2_with fail
 clear q0 q1 q2
 exact ref_d5 s i 0 B n0 nP g kd w W C5 HC5.out u1 _ _ _ _ _ _ _ _ _ _ _ _ _ _ _ _ _ _ _ _ _ _ _ _ _ _ _ _ _ _ _ _ _ _ _ _ _ _ _ _ _ _ _ _ _ _ _ _ _ _ _ _ _ _ _ _ _ _ _ _ _ _ _ _ _ _ _ _ _ _ _ _ HH.out
theorem ref_d4 (s : ByteArray) (i e B n0 nP : Nat) (g kd : Int) (w W : World) (C : Code) (hC : (match Try.f21.body with | some (.seq _ (.seq _ (.seq _ (.seq _ c)))) => c | _ => .skip) = C) (u1 u7 u8 u9 u10 u11 u12 u13 u14 u15 u16 u17 u18 u19 u20 u21 u22 u23 u24 u25 u26 u27 u28 u29 u30 u31 u32 u33 u34 u35 u36 u37 u38 u39 u40 u41 u42 u43 u44 u45 u46 u47 u48 u49 u50 u51 u52 u53 u54 u55 u56 u57 u58 u59 u60 u61 u62 u63 u64 u65 u66 u67 u68 u69 u70 u71 u72 u73 u74 u75 u76 u77 u78 : Value) (hh : DCt 72 s i e B n0 ⟨g, kd, [], 0, 0, 0, 0, 0, false, false⟩ none 0 nP w W) : C.wp Try.prog (bodyPost Try.prog Try.f21 (fun r w' => ∃ A c, r = .returned (.tuple #[vP (if e ≠ 0 then ((ZP, (0, e)) : Prt × (Nat × Nat)) else endD (kindR s ⟨g, kd, [], 0, 0, 0, 0, 0, false, false⟩ (i, e)).1 (kindR s ⟨g, kd, [], 0, 0, 0, 0, 0, false, false⟩ (i, e)).2).1 A c, .int .i64 ((if e ≠ 0 then ((ZP, (0, e)) : Prt × (Nat × Nat)) else endD (kindR s ⟨g, kd, [], 0, 0, 0, 0, 0, false, false⟩ (i, e)).1 (kindR s ⟨g, kd, [], 0, 0, 0, 0, 0, false, false⟩ (i, e)).2).2.1 : Int), .int .i64 ((if e ≠ 0 then ((ZP, (0, e)) : Prt × (Nat × Nat)) else endD (kindR s ⟨g, kd, [], 0, 0, 0, 0, 0, false, false⟩ (i, e)).1 (kindR s ⟨g, kd, [], 0, 0, 0, 0, 0, false, false⟩ (i, e)).2).2.2 : Int)]) ∧ Rd w' A c (if e ≠ 0 then ((ZP, (0, e)) : Prt × (Nat × Nat)) else endD (kindR s ⟨g, kd, [], 0, 0, 0, 0, 0, false, false⟩ (i, e)).1 (kindR s ⟨g, kd, [], 0, 0, 0, 0, 0, false, false⟩ (i, e)).2).1.l ∧ Below w.heap.size w w')) { tmps := #[.string s, u1, .pointer (some ⟨n0, 0, none⟩), .int .i64 0, .int .i64 0, .pointer (some ⟨B, 0, none⟩), .pointer (some ⟨nP, 0, none⟩), u7, u8, u9, u10, u11, u12, u13, u14, u15, u16, u17, u18, u19, u20, u21, u22, u23, u24, u25, u26, u27, u28, u29, u30, u31, u32, u33, u34, u35, u36, u37, u38, u39, u40, u41, u42, u43, u44, u45, u46, u47, u48, u49, u50, u51, u52, u53, u54, u55, u56, u57, u58, u59, u60, u61, u62, u63, u64, u65, u66, u67, u68, u69, u70, u71, u72, u73, u74, u75, u76, u77, u78], defers := [] } W := by
  by_cases h : e = 0
  · exact ref_d4_p s i e B n0 nP g kd w W C hC u1 u7 u8 u9 u10 u11 u12 u13 u14 u15 u16 u17 u18 u19 u20 u21 u22 u23 u24 u25 u26 u27 u28 u29 u30 u31 u32 u33 u34 u35 u36 u37 u38 u39 u40 u41 u42 u43 u44 u45 u46 u47 u48 u49 u50 u51 u52 u53 u54 u55 u56 u57 u58 u59 u60 u61 u62 u63 u64 u65 u66 u67 u68 u69 u70 u71 u72 u73 u74 u75 u76 u77 u78 hh h
  · exact ref_d4_z s i e B n0 nP g kd w W C hC u1 u7 u8 u9 u10 u11 u12 u13 u14 u15 u16 u17 u18 u19 u20 u21 u22 u23 u24 u25 u26 u27 u28 u29 u30 u31 u32 u33 u34 u35 u36 u37 u38 u39 u40 u41 u42 u43 u44 u45 u46 u47 u48 u49 u50 u51 u52 u53 u54 u55 u56 u57 u58 u59 u60 u61 u62 u63 u64 u65 u66 u67 u68 u69 u70 u71 u72 u73 u74 u75 u76 u77 u78 hh h
set_option maxHeartbeats 4000000 in
set_option maxRecDepth 100000 in
theorem ref_d3_lo (s : ByteArray) (i e B n0 nP : Nat) (g kd : Int) (w W : World) (C : Code) (hC : (match Try.f21.body with | some (.seq _ (.seq _ (.seq _ c))) => c | _ => .skip) = C) (u1 u7 u8 u9 u10 u11 u12 u13 u14 u15 u16 u17 u18 u19 u20 u21 u22 u23 u24 u25 u26 u27 u28 u29 u30 u31 u32 u33 u34 u35 u36 u37 u38 u39 u40 u41 u42 u43 u44 u45 u46 u47 u48 u49 u50 u51 u52 u53 u54 u55 u56 u57 u58 u59 u60 u61 u62 u63 u64 u65 u66 u67 u68 u69 u70 u71 u72 u73 u74 u75 u76 u77 u78 : Value) (hh : DCt 72 s i e B n0 ⟨g, kd, [], 0, 0, 0, 0, 0, false, false⟩ none 0 nP w W) (hk : kd < 1) :
  C.wp Try.prog (bodyPost Try.prog Try.f21 (fun r w' => ∃ A c, r = .returned (.tuple #[vP (if (mustR (decide (1 ≤ kd ∧ kd ≤ 6)) (i, e)).2 ≠ 0 then ((ZP, (0, (mustR (decide (1 ≤ kd ∧ kd ≤ 6)) (i, e)).2)) : Prt × (Nat × Nat)) else endD (kindR s ⟨g, kd, [], 0, 0, 0, 0, 0, false, false⟩ (mustR (decide (1 ≤ kd ∧ kd ≤ 6)) (i, e))).1 (kindR s ⟨g, kd, [], 0, 0, 0, 0, 0, false, false⟩ (mustR (decide (1 ≤ kd ∧ kd ≤ 6)) (i, e))).2).1 A c, .int .i64 ((if (mustR (decide (1 ≤ kd ∧ kd ≤ 6)) (i, e)).2 ≠ 0 then ((ZP, (0, (mustR (decide (1 ≤ kd ∧ kd ≤ 6)) (i, e)).2)) : Prt × (Nat × Nat)) else endD (kindR s ⟨g, kd, [], 0, 0, 0, 0, 0, false, false⟩ (mustR (decide (1 ≤ kd ∧ kd ≤ 6)) (i, e))).1 (kindR s ⟨g, kd, [], 0, 0, 0, 0, 0, false, false⟩ (mustR (decide (1 ≤ kd ∧ kd ≤ 6)) (i, e))).2).2.1 : Int), .int .i64 ((if (mustR (decide (1 ≤ kd ∧ kd ≤ 6)) (i, e)).2 ≠ 0 then ((ZP, (0, (mustR (decide (1 ≤ kd ∧ kd ≤ 6)) (i, e)).2)) : Prt × (Nat × Nat)) else endD (kindR s ⟨g, kd, [], 0, 0, 0, 0, 0, false, false⟩ (mustR (decide (1 ≤ kd ∧ kd ≤ 6)) (i, e))).1 (kindR s ⟨g, kd, [], 0, 0, 0, 0, 0, false, false⟩ (mustR (decide (1 ≤ kd ∧ kd ≤ 6)) (i, e))).2).2.2 : Int)]) ∧ Rd w' A c (if (mustR (decide (1 ≤ kd ∧ kd ≤ 6)) (i, e)).2 ≠ 0 then ((ZP, (0, (mustR (decide (1 ≤ kd ∧ kd ≤ 6)) (i, e)).2)) : Prt × (Nat × Nat)) else endD (kindR s ⟨g, kd, [], 0, 0, 0, 0, 0, false, false⟩ (mustR (decide (1 ≤ kd ∧ kd ≤ 6)) (i, e))).1 (kindR s ⟨g, kd, [], 0, 0, 0, 0, 0, false, false⟩ (mustR (decide (1 ≤ kd ∧ kd ≤ 6)) (i, e))).2).1.l ∧ Below w.heap.size w w')) { tmps := #[.string s, u1, .pointer (some ⟨n0, 0, none⟩), .int .i64 0, .int .i64 0, .pointer (some ⟨B, 0, none⟩), .pointer (some ⟨nP, 0, none⟩), u7, u8, u9, u10, u11, u12, u13, u14, u15, u16, u17, u18, u19, u20, u21, u22, u23, u24, u25, u26, u27, u28, u29, u30, u31, u32, u33, u34, u35, u36, u37, u38, u39, u40, u41, u42, u43, u44, u45, u46, u47, u48, u49, u50, u51, u52, u53, u54, u55, u56, u57, u58, u59, u60, u61, u62, u63, u64, u65, u66, u67, u68, u69, u70, u71, u72, u73, u74, u75, u76, u77, u78], defers := [] } W := by
 have HH := Aside0.mk hh
 clear hh
 simp only [Try.f21] at hC
 subst hC
 obtain ⟨i2, e2, h2⟩ : ∃ x y, mustR false (i, e) = (x, y) := ⟨_, _, rfl⟩
 have E2 := Aside0.mk h2
 have HR : Aside0 (mustR (decide (1 ≤ kd ∧ kd ≤ 6)) (i, e) = (i2, e2)) := ⟨by rw [decide_eq_false (by omega)]; exact h2⟩
 have d1 : decide (1 ≤ kd) = false := decide_eq_false (by omega)
 have d2 : decide (kd ≥ 1) = false := d1
 clear h2 hk
 rw [HR.out]
 obtain ⟨C4, hC4⟩ : ∃ C, (match Try.f21.body with | some (.seq _ (.seq _ (.seq _ (.seq _ c)))) => c | _ => .skip) = C := ⟨_, rfl⟩
 have HC4 := Aside0.mk hC4
 simp only [Try.f21] at hC4
 rw [hC4]
 clear hC4
 obtain ⟨y0, y1, y2, y3, y4, y5, y6, y7, y8, y9⟩ := HH.out.hp.box
 have yf := HH.out.hp.free'
 try dsimp only at y0 y1 y2 y3 y4 y5 y6 y7 y8 y9
 go_wp2_with fail
 go_at_call 43
 refine (cumust s i e B _ HH.out.hc HH.out.hs HH.out.hi false E2.out).mono ?_
 rintro r w2 ⟨⟨v, rfl⟩, hc', ho, hi⟩
 replace HH := Aside0.mk (HH.out.call hc' ho hi)
 clear hc' ho hi
 clear y0 y1 y2 y3 y4 y5 y6 y7 y8 y9 yf
 go_wp2_with fail
 exact ref_d4 s i2 e2 B n0 nP g kd w w2 C4 HC4.out u1 _ _ _ _ _ _ _ _ _ _ _ _ _ _ _ _ _ _ _ _ _ _ _ _ _ _ _ _ _ _ _ _ _ _ _ _ _ _ _ _ _ _ _ _ _ _ _ _ _ _ _ _ _ _ _ _ _ _ _ _ _ _ _ _ _ _ _ _ _ _ _ _ HH.out
set_option maxHeartbeats 4000000 in
set_option maxRecDepth 100000 in
theorem ref_d3_hi (s : ByteArray) (i e B n0 nP : Nat) (g kd : Int) (w W : World) (C : Code) (hC : (match Try.f21.body with | some (.seq _ (.seq _ (.seq _ c))) => c | _ => .skip) = C) (u1 u7 u8 u9 u10 u11 u12 u13 u14 u15 u16 u17 u18 u19 u20 u21 u22 u23 u24 u25 u26 u27 u28 u29 u30 u31 u32 u33 u34 u35 u36 u37 u38 u39 u40 u41 u42 u43 u44 u45 u46 u47 u48 u49 u50 u51 u52 u53 u54 u55 u56 u57 u58 u59 u60 u61 u62 u63 u64 u65 u66 u67 u68 u69 u70 u71 u72 u73 u74 u75 u76 u77 u78 : Value) (hh : DCt 72 s i e B n0 ⟨g, kd, [], 0, 0, 0, 0, 0, false, false⟩ none 0 nP w W) (hk : 6 < kd) :
  C.wp Try.prog (bodyPost Try.prog Try.f21 (fun r w' => ∃ A c, r = .returned (.tuple #[vP (if (mustR (decide (1 ≤ kd ∧ kd ≤ 6)) (i, e)).2 ≠ 0 then ((ZP, (0, (mustR (decide (1 ≤ kd ∧ kd ≤ 6)) (i, e)).2)) : Prt × (Nat × Nat)) else endD (kindR s ⟨g, kd, [], 0, 0, 0, 0, 0, false, false⟩ (mustR (decide (1 ≤ kd ∧ kd ≤ 6)) (i, e))).1 (kindR s ⟨g, kd, [], 0, 0, 0, 0, 0, false, false⟩ (mustR (decide (1 ≤ kd ∧ kd ≤ 6)) (i, e))).2).1 A c, .int .i64 ((if (mustR (decide (1 ≤ kd ∧ kd ≤ 6)) (i, e)).2 ≠ 0 then ((ZP, (0, (mustR (decide (1 ≤ kd ∧ kd ≤ 6)) (i, e)).2)) : Prt × (Nat × Nat)) else endD (kindR s ⟨g, kd, [], 0, 0, 0, 0, 0, false, false⟩ (mustR (decide (1 ≤ kd ∧ kd ≤ 6)) (i, e))).1 (kindR s ⟨g, kd, [], 0, 0, 0, 0, 0, false, false⟩ (mustR (decide (1 ≤ kd ∧ kd ≤ 6)) (i, e))).2).2.1 : Int), .int .i64 ((if (mustR (decide (1 ≤ kd ∧ kd ≤ 6)) (i, e)).2 ≠ 0 then ((ZP, (0, (mustR (decide (1 ≤ kd ∧ kd ≤ 6)) (i, e)).2)) : Prt × (Nat × Nat)) else endD (kindR s ⟨g, kd, [], 0, 0, 0, 0, 0, false, false⟩ (mustR (decide (1 ≤ kd ∧ kd ≤ 6)) (i, e))).1 (kindR s ⟨g, kd, [], 0, 0, 0, 0, 0, false, false⟩ (mustR (decide (1 ≤ kd ∧ kd ≤ 6)) (i, e))).2).2.2 : Int)]) ∧ Rd w' A c (if (mustR (decide (1 ≤ kd ∧ kd ≤ 6)) (i, e)).2 ≠ 0 then ((ZP, (0, (mustR (decide (1 ≤ kd ∧ kd ≤ 6)) (i, e)).2)) : Prt × (Nat × Nat)) else endD (kindR s ⟨g, kd, [], 0, 0, 0, 0, 0, false, false⟩ (mustR (decide (1 ≤ kd ∧ kd ≤ 6)) (i, e))).1 (kindR s ⟨g, kd, [], 0, 0, 0, 0, 0, false, false⟩ (mustR (decide (1 ≤ kd ∧ kd ≤ 6)) (i, e))).2).1.l ∧ Below w.heap.size w w')) { tmps := #[.string s, u1, .pointer (some ⟨n0, 0, none⟩), .int .i64 0, .int .i64 0, .pointer (some ⟨B, 0, none⟩), .pointer (some ⟨nP, 0, none⟩), u7, u8, u9, u10, u11, u12, u13, u14, u15, u16, u17, u18, u19, u20, u21, u22, u23, u24, u25, u26, u27, u28, u29, u30, u31, u32, u33, u34, u35, u36, u37, u38, u39, u40, u41, u42, u43, u44, u45, u46, u47, u48, u49, u50, u51, u52, u53, u54, u55, u56, u57, u58, u59, u60, u61, u62, u63, u64, u65, u66, u67, u68, u69, u70, u71, u72, u73, u74, u75, u76, u77, u78], defers := [] } W := by
 have HH := Aside0.mk hh
 clear hh
 simp only [Try.f21] at hC
 subst hC
 obtain ⟨i2, e2, h2⟩ : ∃ x y, mustR false (i, e) = (x, y) := ⟨_, _, rfl⟩
 have E2 := Aside0.mk h2
 have HR : Aside0 (mustR (decide (1 ≤ kd ∧ kd ≤ 6)) (i, e) = (i2, e2)) := ⟨by rw [decide_eq_false (by omega)]; exact h2⟩
 have d1 : decide (1 ≤ kd) = true := decide_eq_true (by omega)
 have d2 : decide (kd ≥ 1) = true := d1
 have d3 : decide (kd ≤ 6) = false := decide_eq_false (by omega)
 clear h2 hk
 rw [HR.out]
 obtain ⟨C4, hC4⟩ : ∃ C, (match Try.f21.body with | some (.seq _ (.seq _ (.seq _ (.seq _ c)))) => c | _ => .skip) = C := ⟨_, rfl⟩
 have HC4 := Aside0.mk hC4
 simp only [Try.f21] at hC4
 rw [hC4]
 clear hC4
 obtain ⟨y0, y1, y2, y3, y4, y5, y6, y7, y8, y9⟩ := HH.out.hp.box
 have yf := HH.out.hp.free'
 try dsimp only at y0 y1 y2 y3 y4 y5 y6 y7 y8 y9
 go_wp2_with fail
 go_at_call 43
 refine (cumust s i e B _ HH.out.hc HH.out.hs HH.out.hi false E2.out).mono ?_
 rintro r w2 ⟨⟨v, rfl⟩, hc', ho, hi⟩
 replace HH := Aside0.mk (HH.out.call hc' ho hi)
 clear hc' ho hi
 clear y0 y1 y2 y3 y4 y5 y6 y7 y8 y9 yf
 go_wp2_with fail
 exact ref_d4 s i2 e2 B n0 nP g kd w w2 C4 HC4.out u1 _ _ _ _ _ _ _ _ _ _ _ _ _ _ _ _ _ _ _ _ _ _ _ _ _ _ _ _ _ _ _ _ _ _ _ _ _ _ _ _ _ _ _ _ _ _ _ _ _ _ _ _ _ _ _ _ _ _ _ _ _ _ _ _ _ _ _ _ _ _ _ _ HH.out
set_option maxHeartbeats 4000000 in
set_option maxRecDepth 100000 in
theorem ref_d3_ok (s : ByteArray) (i e B n0 nP : Nat) (g kd : Int) (w W : World) (C : Code) (hC : (match Try.f21.body with | some (.seq _ (.seq _ (.seq _ c))) => c | _ => .skip) = C) (u1 u7 u8 u9 u10 u11 u12 u13 u14 u15 u16 u17 u18 u19 u20 u21 u22 u23 u24 u25 u26 u27 u28 u29 u30 u31 u32 u33 u34 u35 u36 u37 u38 u39 u40 u41 u42 u43 u44 u45 u46 u47 u48 u49 u50 u51 u52 u53 u54 u55 u56 u57 u58 u59 u60 u61 u62 u63 u64 u65 u66 u67 u68 u69 u70 u71 u72 u73 u74 u75 u76 u77 u78 : Value) (hh : DCt 72 s i e B n0 ⟨g, kd, [], 0, 0, 0, 0, 0, false, false⟩ none 0 nP w W) (hk : 1 ≤ kd ∧ kd ≤ 6) :
  C.wp Try.prog (bodyPost Try.prog Try.f21 (fun r w' => ∃ A c, r = .returned (.tuple #[vP (if (mustR (decide (1 ≤ kd ∧ kd ≤ 6)) (i, e)).2 ≠ 0 then ((ZP, (0, (mustR (decide (1 ≤ kd ∧ kd ≤ 6)) (i, e)).2)) : Prt × (Nat × Nat)) else endD (kindR s ⟨g, kd, [], 0, 0, 0, 0, 0, false, false⟩ (mustR (decide (1 ≤ kd ∧ kd ≤ 6)) (i, e))).1 (kindR s ⟨g, kd, [], 0, 0, 0, 0, 0, false, false⟩ (mustR (decide (1 ≤ kd ∧ kd ≤ 6)) (i, e))).2).1 A c, .int .i64 ((if (mustR (decide (1 ≤ kd ∧ kd ≤ 6)) (i, e)).2 ≠ 0 then ((ZP, (0, (mustR (decide (1 ≤ kd ∧ kd ≤ 6)) (i, e)).2)) : Prt × (Nat × Nat)) else endD (kindR s ⟨g, kd, [], 0, 0, 0, 0, 0, false, false⟩ (mustR (decide (1 ≤ kd ∧ kd ≤ 6)) (i, e))).1 (kindR s ⟨g, kd, [], 0, 0, 0, 0, 0, false, false⟩ (mustR (decide (1 ≤ kd ∧ kd ≤ 6)) (i, e))).2).2.1 : Int), .int .i64 ((if (mustR (decide (1 ≤ kd ∧ kd ≤ 6)) (i, e)).2 ≠ 0 then ((ZP, (0, (mustR (decide (1 ≤ kd ∧ kd ≤ 6)) (i, e)).2)) : Prt × (Nat × Nat)) else endD (kindR s ⟨g, kd, [], 0, 0, 0, 0, 0, false, false⟩ (mustR (decide (1 ≤ kd ∧ kd ≤ 6)) (i, e))).1 (kindR s ⟨g, kd, [], 0, 0, 0, 0, 0, false, false⟩ (mustR (decide (1 ≤ kd ∧ kd ≤ 6)) (i, e))).2).2.2 : Int)]) ∧ Rd w' A c (if (mustR (decide (1 ≤ kd ∧ kd ≤ 6)) (i, e)).2 ≠ 0 then ((ZP, (0, (mustR (decide (1 ≤ kd ∧ kd ≤ 6)) (i, e)).2)) : Prt × (Nat × Nat)) else endD (kindR s ⟨g, kd, [], 0, 0, 0, 0, 0, false, false⟩ (mustR (decide (1 ≤ kd ∧ kd ≤ 6)) (i, e))).1 (kindR s ⟨g, kd, [], 0, 0, 0, 0, 0, false, false⟩ (mustR (decide (1 ≤ kd ∧ kd ≤ 6)) (i, e))).2).1.l ∧ Below w.heap.size w w')) { tmps := #[.string s, u1, .pointer (some ⟨n0, 0, none⟩), .int .i64 0, .int .i64 0, .pointer (some ⟨B, 0, none⟩), .pointer (some ⟨nP, 0, none⟩), u7, u8, u9, u10, u11, u12, u13, u14, u15, u16, u17, u18, u19, u20, u21, u22, u23, u24, u25, u26, u27, u28, u29, u30, u31, u32, u33, u34, u35, u36, u37, u38, u39, u40, u41, u42, u43, u44, u45, u46, u47, u48, u49, u50, u51, u52, u53, u54, u55, u56, u57, u58, u59, u60, u61, u62, u63, u64, u65, u66, u67, u68, u69, u70, u71, u72, u73, u74, u75, u76, u77, u78], defers := [] } W := by
 have HH := Aside0.mk hh
 clear hh
 simp only [Try.f21] at hC
 subst hC
 obtain ⟨i2, e2, h2⟩ : ∃ x y, mustR true (i, e) = (x, y) := ⟨_, _, rfl⟩
 have E2 := Aside0.mk h2
 have HR : Aside0 (mustR (decide (1 ≤ kd ∧ kd ≤ 6)) (i, e) = (i2, e2)) := ⟨by rw [decide_eq_true (by omega)]; exact h2⟩
 have d1 : decide (1 ≤ kd) = true := decide_eq_true (by omega)
 have d2 : decide (kd ≥ 1) = true := d1
 have d3 : decide (kd ≤ 6) = true := decide_eq_true (by omega)
 clear h2 hk
 rw [HR.out]
 obtain ⟨C4, hC4⟩ : ∃ C, (match Try.f21.body with | some (.seq _ (.seq _ (.seq _ (.seq _ c)))) => c | _ => .skip) = C := ⟨_, rfl⟩
 have HC4 := Aside0.mk hC4
 simp only [Try.f21] at hC4
 rw [hC4]
 clear hC4
 obtain ⟨y0, y1, y2, y3, y4, y5, y6, y7, y8, y9⟩ := HH.out.hp.box
 have yf := HH.out.hp.free'
 try dsimp only at y0 y1 y2 y3 y4 y5 y6 y7 y8 y9
 go_wp2_with fail
 go_at_call 43
 refine (cumust s i e B _ HH.out.hc HH.out.hs HH.out.hi true E2.out).mono ?_
 rintro r w2 ⟨⟨v, rfl⟩, hc', ho, hi⟩
 replace HH := Aside0.mk (HH.out.call hc' ho hi)
 clear hc' ho hi
 clear y0 y1 y2 y3 y4 y5 y6 y7 y8 y9 yf
 go_wp2_with fail
 exact ref_d4 s i2 e2 B n0 nP g kd w w2 C4 HC4.out u1 _ _ _ _ _ _ _ _ _ _ _ _ _ _ _ _ _ _ _ _ _ _ _ _ _ _ _ _ _ _ _ _ _ _ _ _ _ _ _ _ _ _ _ _ _ _ _ _ _ _ _ _ _ _ _ _ _ _ _ _ _ _ _ _ _ _ _ _ _ _ _ _ HH.out
theorem ref_d3 (s : ByteArray) (i e B n0 nP : Nat) (g kd : Int) (w W : World) (C : Code) (hC : (match Try.f21.body with | some (.seq _ (.seq _ (.seq _ c))) => c | _ => .skip) = C) (u1 u7 u8 u9 u10 u11 u12 u13 u14 u15 u16 u17 u18 u19 u20 u21 u22 u23 u24 u25 u26 u27 u28 u29 u30 u31 u32 u33 u34 u35 u36 u37 u38 u39 u40 u41 u42 u43 u44 u45 u46 u47 u48 u49 u50 u51 u52 u53 u54 u55 u56 u57 u58 u59 u60 u61 u62 u63 u64 u65 u66 u67 u68 u69 u70 u71 u72 u73 u74 u75 u76 u77 u78 : Value) (hh : DCt 72 s i e B n0 ⟨g, kd, [], 0, 0, 0, 0, 0, false, false⟩ none 0 nP w W) : C.wp Try.prog (bodyPost Try.prog Try.f21 (fun r w' => ∃ A c, r = .returned (.tuple #[vP (if (mustR (decide (1 ≤ kd ∧ kd ≤ 6)) (i, e)).2 ≠ 0 then ((ZP, (0, (mustR (decide (1 ≤ kd ∧ kd ≤ 6)) (i, e)).2)) : Prt × (Nat × Nat)) else endD (kindR s ⟨g, kd, [], 0, 0, 0, 0, 0, false, false⟩ (mustR (decide (1 ≤ kd ∧ kd ≤ 6)) (i, e))).1 (kindR s ⟨g, kd, [], 0, 0, 0, 0, 0, false, false⟩ (mustR (decide (1 ≤ kd ∧ kd ≤ 6)) (i, e))).2).1 A c, .int .i64 ((if (mustR (decide (1 ≤ kd ∧ kd ≤ 6)) (i, e)).2 ≠ 0 then ((ZP, (0, (mustR (decide (1 ≤ kd ∧ kd ≤ 6)) (i, e)).2)) : Prt × (Nat × Nat)) else endD (kindR s ⟨g, kd, [], 0, 0, 0, 0, 0, false, false⟩ (mustR (decide (1 ≤ kd ∧ kd ≤ 6)) (i, e))).1 (kindR s ⟨g, kd, [], 0, 0, 0, 0, 0, false, false⟩ (mustR (decide (1 ≤ kd ∧ kd ≤ 6)) (i, e))).2).2.1 : Int), .int .i64 ((if (mustR (decide (1 ≤ kd ∧ kd ≤ 6)) (i, e)).2 ≠ 0 then ((ZP, (0, (mustR (decide (1 ≤ kd ∧ kd ≤ 6)) (i, e)).2)) : Prt × (Nat × Nat)) else endD (kindR s ⟨g, kd, [], 0, 0, 0, 0, 0, false, false⟩ (mustR (decide (1 ≤ kd ∧ kd ≤ 6)) (i, e))).1 (kindR s ⟨g, kd, [], 0, 0, 0, 0, 0, false, false⟩ (mustR (decide (1 ≤ kd ∧ kd ≤ 6)) (i, e))).2).2.2 : Int)]) ∧ Rd w' A c (if (mustR (decide (1 ≤ kd ∧ kd ≤ 6)) (i, e)).2 ≠ 0 then ((ZP, (0, (mustR (decide (1 ≤ kd ∧ kd ≤ 6)) (i, e)).2)) : Prt × (Nat × Nat)) else endD (kindR s ⟨g, kd, [], 0, 0, 0, 0, 0, false, false⟩ (mustR (decide (1 ≤ kd ∧ kd ≤ 6)) (i, e))).1 (kindR s ⟨g, kd, [], 0, 0, 0, 0, 0, false, false⟩ (mustR (decide (1 ≤ kd ∧ kd ≤ 6)) (i, e))).2).1.l ∧ Below w.heap.size w w')) { tmps := #[.string s, u1, .pointer (some ⟨n0, 0, none⟩), .int .i64 0, .int .i64 0, .pointer (some ⟨B, 0, none⟩), .pointer (some ⟨nP, 0, none⟩), u7, u8, u9, u10, u11, u12, u13, u14, u15, u16, u17, u18, u19, u20, u21, u22, u23, u24, u25, u26, u27, u28, u29, u30, u31, u32, u33, u34, u35, u36, u37, u38, u39, u40, u41, u42, u43, u44, u45, u46, u47, u48, u49, u50, u51, u52, u53, u54, u55, u56, u57, u58, u59, u60, u61, u62, u63, u64, u65, u66, u67, u68, u69, u70, u71, u72, u73, u74, u75, u76, u77, u78], defers := [] } W := by
  by_cases h1 : kd < 1
  · exact ref_d3_lo s i e B n0 nP g kd w W C hC u1 u7 u8 u9 u10 u11 u12 u13 u14 u15 u16 u17 u18 u19 u20 u21 u22 u23 u24 u25 u26 u27 u28 u29 u30 u31 u32 u33 u34 u35 u36 u37 u38 u39 u40 u41 u42 u43 u44 u45 u46 u47 u48 u49 u50 u51 u52 u53 u54 u55 u56 u57 u58 u59 u60 u61 u62 u63 u64 u65 u66 u67 u68 u69 u70 u71 u72 u73 u74 u75 u76 u77 u78 hh h1
  · by_cases h6 : 6 < kd
    · exact ref_d3_hi s i e B n0 nP g kd w W C hC u1 u7 u8 u9 u10 u11 u12 u13 u14 u15 u16 u17 u18 u19 u20 u21 u22 u23 u24 u25 u26 u27 u28 u29 u30 u31 u32 u33 u34 u35 u36 u37 u38 u39 u40 u41 u42 u43 u44 u45 u46 u47 u48 u49 u50 u51 u52 u53 u54 u55 u56 u57 u58 u59 u60 u61 u62 u63 u64 u65 u66 u67 u68 u69 u70 u71 u72 u73 u74 u75 u76 u77 u78 hh h6
    · exact ref_d3_ok s i e B n0 nP g kd w W C hC u1 u7 u8 u9 u10 u11 u12 u13 u14 u15 u16 u17 u18 u19 u20 u21 u22 u23 u24 u25 u26 u27 u28 u29 u30 u31 u32 u33 u34 u35 u36 u37 u38 u39 u40 u41 u42 u43 u44 u45 u46 u47 u48 u49 u50 u51 u52 u53 u54 u55 u56 u57 u58 u59 u60 u61 u62 u63 u64 u65 u66 u67 u68 u69 u70 u71 u72 u73 u74 u75 u76 u77 u78 hh ⟨by omega, by omega⟩
set_option maxHeartbeats 4000000 in
set_option maxRecDepth 100000 in
theorem ref_ReadPart (s : ByteArray) (w : World) (hs : s.size ≤ 140737488351232) :
  Calls Try.prog 21 #[.string s] w (fun r w' => ∃ A c, r = .returned (.tuple #[vP (docR s).1 A c, .int .i64 ((docR s).2.1 : Int), .int .i64 ((docR s).2.2 : Int)]) ∧ Rd w' A c (docR s).1.l ∧ Below w.heap.size w w') := by
 have HS := Aside0.mk hs
 obtain ⟨a1, b1, c1, h1⟩ : ∃ a b c, numR s (0, 0) = (a, (b, c)) := ⟨_, _, _, rfl⟩
 have E1 := Aside0.mk h1
 obtain ⟨a2, b2, c2, h2⟩ : ∃ a b c, numR s (b1, c1) = (a, (b, c)) := ⟨_, _, _, rfl⟩
 have E2 := Aside0.mk h2
 have HR : Aside0 (docR s = (if (mustR (decide (1 ≤ (a2 : Int) ∧ (a2 : Int) ≤ 6)) (b2, c2)).2 ≠ 0 then ((ZP, (0, (mustR (decide (1 ≤ (a2 : Int) ∧ (a2 : Int) ≤ 6)) (b2, c2)).2)) : Prt × (Nat × Nat)) else endD (kindR s ⟨(a1 : Int), (a2 : Int), [], 0, 0, 0, 0, 0, false, false⟩ (mustR (decide (1 ≤ (a2 : Int) ∧ (a2 : Int) ≤ 6)) (b2, c2))).1 (kindR s ⟨(a1 : Int), (a2 : Int), [], 0, 0, 0, 0, 0, false, false⟩ (mustR (decide (1 ≤ (a2 : Int) ∧ (a2 : Int) ≤ 6)) (b2, c2))).2)) := ⟨by unfold docR; rw [h1]; dsimp only; rw [h2]; rfl⟩
 clear h1 h2 hs
 rw [HR.out]
 obtain ⟨n0, hn0⟩ : ∃ x, w.heap.size = x := ⟨_, rfl⟩
 have HN0 := Aside0.mk hn0
 go_enter Try.func21, Try.ntmps21
 obtain ⟨C2, hC2⟩ : ∃ C, (match Try.f21.body with | some (.seq _ (.seq _ c)) => c | _ => .skip) = C := ⟨_, rfl⟩
 have HC2 := Aside0.mk hC2
 simp only [Try.f21] at hC2
 rw [hC2]
 clear hC2
 go_wp2_with fail
 have hz := BlkP.new ZP none 0 w
 rw [hn0] at hz
 have hc : BlkC 72 s 0 0 (w.alloc (.cells #[.int .i64 0, .int .i64 0, .slice none 0 0, .int .i64 0, .int .i64 0, .int .i64 0, .int .i64 0, .int .i64 0, .bool false, .bool false] 26)).heap.size ((w.alloc (.cells #[.int .i64 0, .int .i64 0, .slice none 0 0, .int .i64 0, .int .i64 0, .int .i64 0, .int .i64 0, .int .i64 0, .bool false, .bool false] 26)).alloc (.cells #[.string s, .int .i64 0, .int .i64 0] 72)) := BlkC.new 72 s 0 0 (w.alloc (.cells #[.int .i64 0, .int .i64 0, .slice none 0 0, .int .i64 0, .int .i64 0, .int .i64 0, .int .i64 0, .int .i64 0, .bool false, .bool false] 26))
 rw [World.size_alloc, hn0] at hc
 have HZ : Aside0 (BlkP ZP none 0 n0 ((w.alloc (.cells #[.int .i64 0, .int .i64 0, .slice none 0 0, .int .i64 0, .int .i64 0, .int .i64 0, .int .i64 0, .int .i64 0, .bool false, .bool false] 26)).alloc (.cells #[.string s, .int .i64 0, .int .i64 0] 72))) := ⟨hz.alloc _⟩
 have HB : Aside0 (Below w.heap.size w ((w.alloc (.cells #[.int .i64 0, .int .i64 0, .slice none 0 0, .int .i64 0, .int .i64 0, .int .i64 0, .int .i64 0, .int .i64 0, .bool false, .bool false] 26)).alloc (.cells #[.string s, .int .i64 0, .int .i64 0] 72))) := ⟨((Below.refl _ w).alloc (Nat.le_refl _) _).alloc (by rw [World.size_alloc]; omega) _⟩
 have HC := Aside0.mk hc
 have hsz : ((w.alloc (.cells #[.int .i64 0, .int .i64 0, .slice none 0 0, .int .i64 0, .int .i64 0, .int .i64 0, .int .i64 0, .int .i64 0, .bool false, .bool false] 26)).alloc (.cells #[.string s, .int .i64 0, .int .i64 0] 72)).heap.size = n0 + 2 := by rw [World.size_alloc, World.size_alloc, hn0]
 try rw [World.size_alloc]
 try rw [hn0]
 obtain ⟨B, hB⟩ : ∃ x, n0 + 1 = x := ⟨_, rfl⟩
 have HBB : Aside0 (n0 < B) := ⟨by omega⟩
 rw [hB] at HC hc ⊢
 obtain ⟨W0, hW⟩ : ∃ X, (w.alloc (.cells #[.int .i64 0, .int .i64 0, .slice none 0 0, .int .i64 0, .int .i64 0, .int .i64 0, .int .i64 0, .int .i64 0, .bool false, .bool false] 26)).alloc (.cells #[.string s, .int .i64 0, .int .i64 0] 72) = X := ⟨_, rfl⟩
 rw [hW] at HC HZ HB hsz ⊢
 have HSZ : Aside0 (B < W0.heap.size) := ⟨by omega⟩
 clear hW hz hc hn0 hsz hB
 have hC2 := HC2.out
 simp only [Try.f21] at hC2
 subst hC2
 clear HC2
 obtain ⟨C3, hC3⟩ : ∃ C, (match Try.f21.body with | some (.seq _ (.seq _ (.seq _ c))) => c | _ => .skip) = C := ⟨_, rfl⟩
 have HC3 := Aside0.mk hC3
 simp only [Try.f21] at hC3
 rw [hC3]
 clear hC3
 go_wp2_with fail
 go_at_call 42
 refine (cun s 0 0 B _ HC.out HS.out (Nat.zero_le _) E1.out).mono ?_
 rintro r w1 ⟨rfl, hc', ho, hi⟩
 replace HZ := Aside0.mk (BlkP.only HZ.out ho (fun h => by have h2 : n0 = B := h; have := HBB.out; omega))
 replace HB := Aside0.mk (HB.out.trans (ho.below HB.out.size (fun q hq h' => by have h2 : q = B := h'; have := HBB.out; have := HN0.out; omega)))
 replace HSZ : Aside0 (B < w1.heap.size) := ⟨Nat.lt_of_lt_of_le HSZ.out ho.size⟩
 replace HC := Aside0.mk hc'
 have HI := Aside0.mk hi
 clear hc' ho hi
 go_wp2_with fail
 go_at_call 42
 refine (cun s b1 c1 B _ HC.out HS.out HI.out E2.out).mono ?_
 rintro r w2 ⟨rfl, hc', ho, hi⟩
 replace HZ := Aside0.mk (BlkP.only HZ.out ho (fun h => by have h2 : n0 = B := h; have := HBB.out; omega))
 replace HB := Aside0.mk (HB.out.trans (ho.below HB.out.size (fun q hq h' => by have h2 : q = B := h'; have := HBB.out; have := HN0.out; omega)))
 replace HSZ : Aside0 (B < w2.heap.size) := ⟨Nat.lt_of_lt_of_le HSZ.out ho.size⟩
 replace HC := Aside0.mk hc'
 replace HI := Aside0.mk hi
 clear hc' ho hi
 obtain ⟨nP, hnP⟩ : ∃ x, w2.heap.size = x := ⟨_, rfl⟩
 have hb : BlkP ⟨(a1 : Int), (a2 : Int), [], 0, 0, 0, 0, 0, false, false⟩ none 0 w2.heap.size (w2.alloc (.cells #[.int .i64 (a1 : Int), .int .i64 (a2 : Int), .slice none 0 0, .int .i64 0, .int .i64 0, .int .i64 0, .int .i64 0, .int .i64 0, .bool false, .bool false] 26)) := BlkP.new ⟨(a1 : Int), (a2 : Int), [], 0, 0, 0, 0, 0, false, false⟩ none 0 w2
 rw [hnP] at hb
 have HNP : Aside0 (B < nP) := ⟨by rw [← hnP]; exact HSZ.out⟩
 have HP := Aside0.mk hb
 have HNPS := Aside0.mk hnP
 clear hb hnP
 go_wp2_with fail
 try rw [HNPS.out]
 have hzz := laP HZ (.cells #[.int .i64 (a1 : Int), .int .i64 (a2 : Int), .slice none 0 0, .int .i64 0, .int .i64 0, .int .i64 0, .int .i64 0, .int .i64 0, .bool false, .bool false] 26)
 have hcc := laC HC (.cells #[.int .i64 (a1 : Int), .int .i64 (a2 : Int), .slice none 0 0, .int .i64 0, .int .i64 0, .int .i64 0, .int .i64 0, .int .i64 0, .bool false, .bool false] 26)
 have hbb := HB.out.alloc HB.out.size (.cells #[.int .i64 (a1 : Int), .int .i64 (a2 : Int), .slice none 0 0, .int .i64 0, .int .i64 0, .int .i64 0, .int .i64 0, .int .i64 0, .bool false, .bool false] 26)
 have h5 : w.heap.size ≤ n0 ∧ n0 < B ∧ B < nP := by have := HNP.out; have := HBB.out; have := HN0.out; omega
 exact ref_d3 s b2 c2 B n0 nP (a1 : Int) (a2 : Int) w _ C3 HC3.out _ _ _ _ _ _ _ _ _ _ _ _ _ _ _ _ _ _ _ _ _ _ _ _ _ _ _ _ _ _ _ _ _ _ _ _ _ _ _ _ _ _ _ _ _ _ _ _ _ _ _ _ _ _ _ _ _ _ _ _ _ _ _ _ _ _ _ _ _ _ _ _ _ ⟨hcc.out, HP.out, hzz.out, hbb, HI.out, HS.out, h5⟩
end Go.Proofs.Ytokjhocjemjfiaa.PartW
