/- part.Read. -/
import Derived.Test.YtokjhocjemjfiaaRead
import Derived.Test.YtokjhocjemjfiaaPtA
set_option linter.unusedVariables false
set_option linter.unusedSimpArgs false
namespace Go.Proofs.Ytokjhocjemjfiaa.PartW
open Go Go.RowKit Go.Shelf Go.Proofs.Ytokjhocjemjfiaa.A Go.Proofs.Ytokjhocjemjfiaa.Sp Go.Proofs.Ytokjhocjemjfiaa.Reg Go.Proofs.Ytokjhocjemjfiaa.Seq Go.Proofs.Ytokjhocjemjfiaa.CodeW Go.Proofs.Ytokjhocjemjfiaa.CodeM Go.Proofs.Ytokjhocjemjfiaa.CodeQ Go.Proofs.Ytokjhocjemjfiaa.Given Go.Proofs.YtokjhocjemjfiaaW.PrintWords Go.Proofs.YtokjhocjemjfiaaW.PrintLast Go.Proofs.YtokjhocjemjfiaaW.PrintMore
/-- what lies while the document's part is read: the cursor, the result, the part -/
structure DCt (T : TypeId) (s : ByteArray) (i e B n0 : Nat) (p : Prt) (A : Option Addr) (c nP : Nat) (w W : World) : Prop where
  hc : BlkC T s i e B W
  hp : BlkP p A c nP W
  hr : BlkP ZP none 0 n0 W
  hb : Below w.heap.size w W
  hi : i ≤ s.size
  hs : s.size ≤ 140737488351232
  lt : w.heap.size ≤ n0 ∧ n0 < B ∧ B < nP
section
variable {T : TypeId} {s : ByteArray} {i e B n0 c nP : Nat} {p : Prt} {A : Option Addr} {w W W' : World}
theorem DCt.both {p' : Prt} {A' : Option Addr} {c' i' e' : Nat} (h : DCt T s i e B n0 p A c nP w W) (hc' : BlkC T s i' e' B W') (hp' : BlkP p' A' c' nP W') (ho : Only (fun q => q = B ∨ q = nP) W W') (hi' : i' ≤ s.size) : DCt T s i' e' B n0 p' A' c' nP w W' := by
  have hl := h.lt
  exact ⟨hc', hp', h.hr.only ho (fun h' => by rcases h' with h' | h' <;> omega), h.hb.trans (ho.below h.hb.size (fun q hq h' => by rcases h' with h' | h' <;> omega)), hi', h.hs, hl⟩
theorem DCt.call {i' e' : Nat} (h : DCt T s i e B n0 p A c nP w W) (hc' : BlkC T s i' e' B W') (ho : Only (fun q => q = B) W W') (hi' : i' ≤ s.size) : DCt T s i' e' B n0 p A c nP w W' :=
  h.both hc' (h.hp.only ho (fun h' => by have h2 : nP = B := h'; have := h.lt; omega)) (ho.mono (fun _ _ h => .inl h)) hi'
theorem DCt.upd {p' : Prt} {A' : Option Addr} {c' : Nat} (h : DCt T s i e B n0 p A c nP w W) (hp' : BlkP p' A' c' nP W') (ho : Only (fun q => q = nP) W W') : DCt T s i e B n0 p' A' c' nP w W' :=
  h.both (h.hc.only ho (fun h' => by have h2 : B = nP := h'; have := h.lt; omega)) hp' (ho.mono (fun _ _ h => .inr h)) h.hi
theorem DCt.below (h : DCt T s i e B n0 p A c nP w W) (hb : Below W.heap.size W W') : DCt T s i e B n0 p A c nP w W' :=
  ⟨h.hc.below hb, h.hp.below hb, h.hr.below hb, h.hb.trans (hb.mono h.hb.size), h.hi, h.hs, h.lt⟩
theorem DCt.drew (h : DCt T s i e B n0 p A c nP w W) : DCt T s i e B n0 p A c nP w W.drew := h.below (below_drew (Below.refl _ _))
end
theorem isp4 (p : Prt) (A : Option Addr) (c : Nat) (w : World) (h : Rd w A c p.l) {b : Bool} (hb : isP p = b) : Calls Try.prog 15 #[vP p A c] w fun e w' => e = .returned (.bool b) ∧ Below w.heap.size w w' := by
  rw [← hb]; exact part_Is p A c w h
theorem Rd.apartC {W : World} {A : Option Addr} {c : Nat} {l : List Ent} {T : TypeId} {s : ByteArray} {i e B : Nat} (h : Rd W A c l) (hb : BlkC T s i e B W) : ¬ inA A l B := by
  rintro ⟨hn, ad, rfl, rfl⟩
  obtain ⟨ad', e', _, _, h2⟩ := h.at_ hn
  cases e'
  rw [Sp.add_block] at h2
  generalize (ad.add (0 * 3)).off = o at h2
  unfold BlkC at hb
  simp only [World.cell?, hb, Option.isSome_none, Bool.false_eq_true, if_false] at h2
  rcases o with _ | o
  · simp at h2
  · simp at h2
set_option maxHeartbeats 4000000 in
set_option maxRecDepth 100000 in
theorem pr_d5 (s : ByteArray) (i B n0 nP : Nat) (p : Prt) (A : Option Addr) (c : Nat) (w W : World) (C : Code) (hC : (match Try.f20.body with | some (.seq _ (.seq _ (.seq _ (.seq _ (.seq _ c))))) => c | _ => .skip) = C) (u1 u7 u8 u9 u10 u11 u12 u13 u14 u15 u16 u17 u18 u19 u20 u21 u22 u23 u24 u25 u26 u27 u28 u29 u30 : Value) (hh : DCt 68 s i 0 B n0 p A c nP w W) (hrd : Rd W A c p.l) :
  C.wp Try.prog (bodyPost Try.prog Try.f20 (fun r w' => ∃ A c, r = .returned (.tuple #[vP ((p, (i, 0)) : Prt × (Nat × Nat)).1 A c, .int .i64 (((p, (i, 0)) : Prt × (Nat × Nat)).2.1 : Int), .int .i64 (((p, (i, 0)) : Prt × (Nat × Nat)).2.2 : Int)]) ∧ Rd w' A c ((p, (i, 0)) : Prt × (Nat × Nat)).1.l ∧ Below w.heap.size w w')) { tmps := #[.string s, u1, .pointer (some ⟨n0, 0, none⟩), .int .i64 0, .int .i64 0, .pointer (some ⟨B, 0, none⟩), .pointer (some ⟨nP, 0, none⟩), u7, u8, u9, u10, u11, u12, u13, u14, u15, u16, u17, u18, u19, u20, u21, u22, u23, u24, u25, u26, u27, u28, u29, u30], defers := [] } W := by
 have HH := Aside0.mk hh
 clear hh
 simp only [Try.f20] at hC
 subst hC
 have HRD := Aside0.mk hrd
 clear hrd
 have HR : Aside0 (((p, (i, 0)) : Prt × (Nat × Nat)) = (p, (i, 0))) := ⟨rfl⟩
 go_wp2_with fail
 replace HH := Aside0.mk HH.out.drew
 replace HRD : Aside0 (Rd W.drew A c p.l) := ⟨HRD.out.below (below_drew (Below.refl _ _))⟩
 refine start_ (n := 8) (S := (fun w' => (w'.cell? ⟨nP, 0, none⟩ = some (.int .i64 p.g) ∧ w'.cell? ⟨nP, 1, none⟩ = some (.int .i64 p.k) ∧ w'.cell? ⟨nP, 2, none⟩ = some (.slice A p.l.length c) ∧ w'.cell? ⟨nP, 3, none⟩ = some (.int .i64 p.ht) ∧ w'.cell? ⟨nP, 4, none⟩ = some (.int .i64 p.hv) ∧ w'.cell? ⟨nP, 5, none⟩ = some (.int .i64 p.hc) ∧ w'.cell? ⟨nP, 6, none⟩ = some (.int .i64 p.ix) ∧ w'.cell? ⟨nP, 7, none⟩ = some (.int .i64 p.tm) ∧ w'.cell? ⟨nP, 8, none⟩ = some (.bool p.mrk) ∧ w'.cell? ⟨nP, 9, none⟩ = some (.bool p.hed)) ∧ (w'.cell? ⟨B, 1, none⟩ = some (.int .i64 (i : Int)) ∧ w'.cell? ⟨B, 2, none⟩ = some (.int .i64 ((0 : Nat) : Int))))) (ds := []) #[false,false,false,false,false,false,false,false] (by kernel_rfl) rfl rfl ⟨HH.out.hp.box, HH.out.hc.box.2⟩ (fun hHeld => ?_)
 obtain ⟨W9, hW9⟩ : ∃ X, W.drew = X := ⟨_, rfl⟩
 rw [hW9] at hHeld HH HRD ⊢
 clear hW9
 obtain ⟨z0, z1, z2, z3, z4, z5, z6, z7, z8, z9⟩ := HH.out.hr.box
 have zf := HH.out.hr.free'
 refine take_ (i := 0) (N := some 26) (v := ?_) (a' := ?_) #[true,false,false,false,false,false,false,false] rfl rfl (by kernel_rfl) (fun _ _ _ h => h) (Or.inl ⟨by rfl, ?_⟩) hHeld ?_ ?_
 rotate_left
 · rintro w' ⟨⟨v0, v1, v2, v3, v4, v5, v6, v7, v8, v9⟩, q1, q2⟩
   go_simp
   try with_reducible rfl
 rotate_left
 · simp only [Act.put, sA, sB, sC]
   rfl
 refine pure_ (i := 1) (N := some 27) (v := ?_) (a' := ?_) #[true,true,false,false,false,false,false,false] rfl rfl (by kernel_rfl) (fun _ _ _ h => h) (Or.inl ⟨by rfl, ?_⟩) ?_ ?_
 rotate_left
 · intro w'
   go_simp
   try with_reducible rfl
 rotate_left
 · simp only [Act.put, sA, sB, sC]
   rfl
 refine pure_ (i := 2) (N := some 28) (v := ?_) (a' := ?_) #[true,true,true,false,false,false,false,false] rfl rfl (by kernel_rfl) (fun _ _ _ h => h) (Or.inl ⟨by rfl, ?_⟩) ?_ ?_
 rotate_left
 · intro w'
   go_simp
   try with_reducible rfl
 rotate_left
 · simp only [Act.put, sA, sB, sC]
   rfl
 refine pure_ (i := 3) (N := some 29) (v := ?_) (a' := ?_) #[true,true,true,true,false,false,false,false] rfl rfl (by kernel_rfl) (fun _ _ _ h => h) (Or.inl ⟨by rfl, ?_⟩) ?_ ?_
 rotate_left
 · intro w'
   go_simp
   try with_reducible rfl
 rotate_left
 · simp only [Act.put, sA, sB, sC]
   rfl
 refine take_ (i := 4) (N := some 30) (v := ?_) (a' := ?_) #[true,true,true,true,true,false,false,false] rfl rfl (by kernel_rfl) (fun _ _ _ h => h) (Or.inl ⟨by rfl, ?_⟩) hHeld ?_ ?_
 rotate_left
 · rintro w' ⟨⟨v0, v1, v2, v3, v4, v5, v6, v7, v8, v9⟩, q1, q2⟩
   go_simp
   try with_reducible rfl
 rotate_left
 · simp only [Act.put, sA, sB, sC]
   rfl
 refine one_ (i := 5) (N := none) #[true,true,true,true,true,true,false,false] rfl rfl (by kernel_rfl) (by decide) (fun K hK => ?_)
 go_simp
 refine hK.out _ _ ?_ (fun hHeld => ?_)
 · exact ⟨(BlkP.only HH.out.hp (only_putP W9 n0 p A c) (fun h' => by have h2 : nP = n0 := h'; have := HH.out.lt; omega)).box, (BlkC.only HH.out.hc (only_putP W9 n0 p A c) (fun h' => by have h2 : B = n0 := h'; have := HH.out.lt; omega)).box.2⟩
 clear hK K
 try simp only [Act.put, sA, sB, sC]
 refine pure_ (i := 6) (N := some 3) (v := ?_) (a' := ?_) #[true,true,true,true,true,true,true,false] rfl rfl (by kernel_rfl) (fun _ _ _ h => h) (Or.inl ⟨by rfl, ?_⟩) ?_ ?_
 rotate_left
 · intro w'
   go_simp
   try with_reducible rfl
 rotate_left
 · simp only [Act.put, sA, sB, sC]
   rfl
 refine pure_ (i := 7) (N := some 4) (v := ?_) (a' := ?_) #[true,true,true,true,true,true,true,true] rfl rfl (by kernel_rfl) (fun _ _ _ h => h) (Or.inl ⟨by rfl, ?_⟩) ?_ ?_
 rotate_left
 · intro w'
   go_simp
   try with_reducible rfl
 rotate_left
 · simp only [Act.put, sA, sB, sC]
   rfl
 refine done_ (by kernel_rfl) ?_
 clear hHeld z0 z1 z2 z3 z4 z5 z6 z7 z8 z9 zf
 go_wp2
 have hx := only_putP W9 n0 p A c
 have hb := HH.out.hr.put p A c
 obtain ⟨y0, y1, y2, y3, y4, y5, y6, y7, y8, y9⟩ := hb.box
 have hbe := HH.out.hb.trans (hx.below HH.out.hb.size (fun q hq h' => by have h2 : q = n0 := h'; have := HH.out.lt; omega))
 have hr6 := Rd.only HRD.out hx (fun q hq h => by have h3 : q = n0 := h; subst h3; exact Rd.apartP HRD.out HH.out.hr hq)
 unfold putP at y0 y1 y2 y3 y4 y5 y6 y7 y8 y9 hbe hr6
 refine bodyPost_ret (v := .tuple #[vP p A c, .int .i64 (i : Int), .int .i64 ((0 : Nat) : Int)]) (by simp [results, Try.results20, go_sem, vP, y0, y1, y2, y3, y4, y5, y6, y7, y8, y9]) rfl ?_
 try rw [HR.out]
 exact ⟨A, c, rfl, hr6, hbe⟩
set_option maxHeartbeats 4000000 in
set_option maxRecDepth 100000 in
theorem pr_d4_t (s : ByteArray) (i B n0 nP : Nat) (p : Prt) (A : Option Addr) (c : Nat) (w W : World) (C : Code) (hC : (match Try.f20.body with | some (.seq _ (.seq _ (.seq _ (.seq _ c)))) => c | _ => .skip) = C) (u1 u7 u8 u9 u10 u11 u12 u13 u14 u15 u16 u17 u18 u19 u20 u21 u22 u23 u24 u25 u26 u27 u28 u29 u30 : Value) (hh : DCt 68 s i 0 B n0 p A c nP w W) (hrd : Rd W A c p.l) (hb : isP p = true) :
  C.wp Try.prog (bodyPost Try.prog Try.f20 (fun r w' => ∃ A c, r = .returned (.tuple #[vP (if isP p then (p, (i, 0)) else (ZP, (0, 11)) : Prt × (Nat × Nat)).1 A c, .int .i64 ((if isP p then (p, (i, 0)) else (ZP, (0, 11)) : Prt × (Nat × Nat)).2.1 : Int), .int .i64 ((if isP p then (p, (i, 0)) else (ZP, (0, 11)) : Prt × (Nat × Nat)).2.2 : Int)]) ∧ Rd w' A c (if isP p then (p, (i, 0)) else (ZP, (0, 11)) : Prt × (Nat × Nat)).1.l ∧ Below w.heap.size w w')) { tmps := #[.string s, u1, .pointer (some ⟨n0, 0, none⟩), .int .i64 0, .int .i64 0, .pointer (some ⟨B, 0, none⟩), .pointer (some ⟨nP, 0, none⟩), u7, u8, u9, u10, u11, u12, u13, u14, u15, u16, u17, u18, u19, u20, u21, u22, u23, u24, u25, u26, u27, u28, u29, u30], defers := [] } W := by
 have HH := Aside0.mk hh
 clear hh
 simp only [Try.f20] at hC
 subst hC
 have HRD := Aside0.mk hrd
 have HBB := Aside0.mk hb
 clear hrd
 rw [hb]
 clear hb
 rw [if_pos rfl]
 obtain ⟨C5, hC5⟩ : ∃ C, (match Try.f20.body with | some (.seq _ (.seq _ (.seq _ (.seq _ (.seq _ c))))) => c | _ => .skip) = C := ⟨_, rfl⟩
 have HC5 := Aside0.mk hC5
 simp only [Try.f20] at hC5
 rw [hC5]
 clear hC5
 obtain ⟨y0, y1, y2, y3, y4, y5, y6, y7, y8, y9⟩ := HH.out.hp.box
 have yf := HH.out.hp.free'
 try dsimp only at y0 y1 y2 y3 y4 y5 y6 y7 y8 y9
 go_wp2_with fail
 go_at_call 15
 refine (isp4 p A c _ HRD.out HBB.out).mono ?_
 rintro r w1 ⟨rfl, hw⟩
 replace HH := Aside0.mk (HH.out.below hw)
 replace HRD := Aside0.mk (HRD.out.below hw)
 clear hw
 clear y0 y1 y2 y3 y4 y5 y6 y7 y8 y9 yf
 go_wp2_with fail
 exact pr_d5 s i B n0 nP p A c w w1 C5 HC5.out u1 _ _ _ _ _ _ _ _ _ _ _ _ _ _ _ _ _ _ _ _ _ _ _ _ HH.out HRD.out
set_option maxHeartbeats 4000000 in
set_option maxRecDepth 100000 in
theorem pr_d4_f (s : ByteArray) (i B n0 nP : Nat) (p : Prt) (A : Option Addr) (c : Nat) (w W : World) (C : Code) (hC : (match Try.f20.body with | some (.seq _ (.seq _ (.seq _ (.seq _ c)))) => c | _ => .skip) = C) (u1 u7 u8 u9 u10 u11 u12 u13 u14 u15 u16 u17 u18 u19 u20 u21 u22 u23 u24 u25 u26 u27 u28 u29 u30 : Value) (hh : DCt 68 s i 0 B n0 p A c nP w W) (hrd : Rd W A c p.l) (hb : isP p = false) :
  C.wp Try.prog (bodyPost Try.prog Try.f20 (fun r w' => ∃ A c, r = .returned (.tuple #[vP (if isP p then (p, (i, 0)) else (ZP, (0, 11)) : Prt × (Nat × Nat)).1 A c, .int .i64 ((if isP p then (p, (i, 0)) else (ZP, (0, 11)) : Prt × (Nat × Nat)).2.1 : Int), .int .i64 ((if isP p then (p, (i, 0)) else (ZP, (0, 11)) : Prt × (Nat × Nat)).2.2 : Int)]) ∧ Rd w' A c (if isP p then (p, (i, 0)) else (ZP, (0, 11)) : Prt × (Nat × Nat)).1.l ∧ Below w.heap.size w w')) { tmps := #[.string s, u1, .pointer (some ⟨n0, 0, none⟩), .int .i64 0, .int .i64 0, .pointer (some ⟨B, 0, none⟩), .pointer (some ⟨nP, 0, none⟩), u7, u8, u9, u10, u11, u12, u13, u14, u15, u16, u17, u18, u19, u20, u21, u22, u23, u24, u25, u26, u27, u28, u29, u30], defers := [] } W := by
 have HH := Aside0.mk hh
 clear hh
 simp only [Try.f20] at hC
 subst hC
 have HRD := Aside0.mk hrd
 have HBB := Aside0.mk hb
 clear hrd
 rw [hb]
 clear hb
 rw [if_neg (by decide)]
 obtain ⟨C5, hC5⟩ : ∃ C, (match Try.f20.body with | some (.seq _ (.seq _ (.seq _ (.seq _ (.seq _ c))))) => c | _ => .skip) = C := ⟨_, rfl⟩
 have HC5 := Aside0.mk hC5
 simp only [Try.f20] at hC5
 rw [hC5]
 clear hC5
 obtain ⟨y0, y1, y2, y3, y4, y5, y6, y7, y8, y9⟩ := HH.out.hp.box
 have yf := HH.out.hp.free'
 try dsimp only at y0 y1 y2 y3 y4 y5 y6 y7 y8 y9
 go_wp2_with fail
 go_at_call 15
 refine (isp4 p A c _ HRD.out HBB.out).mono ?_
 rintro r w1 ⟨rfl, hw⟩
 replace HH := Aside0.mk (HH.out.below hw)
 replace HRD := Aside0.mk (HRD.out.below hw)
 clear hw
 clear y0 y1 y2 y3 y4 y5 y6 y7 y8 y9 yf
 obtain ⟨z0, z1, z2, z3, z4, z5, z6, z7, z8, z9⟩ := HH.out.hr.box
 have zf := HH.out.hr.free'
 go_wp2
 clear z0 z1 z2 z3 z4 z5 z6 z7 z8 z9 zf
 have hx := only_putP w1 n0 ⟨0, 0, [], 0, 0, 0, 0, 0, false, false⟩ none 0
 have hbz := HH.out.hr.put ⟨0, 0, [], 0, 0, 0, 0, 0, false, false⟩ none 0
 obtain ⟨y0, y1, y2, y3, y4, y5, y6, y7, y8, y9⟩ := hbz.box
 have hbe := HH.out.hb.trans (hx.below HH.out.hb.size (fun q hq h' => by have h2 : q = n0 := h'; have := HH.out.lt; omega))
 unfold putP at y0 y1 y2 y3 y4 y5 y6 y7 y8 y9 hbe
 dsimp only [List.length_nil] at y0 y1 y2 y3 y4 y5 y6 y7 y8 y9 hbe
 refine bodyPost_ret (v := .tuple #[vP ⟨0, 0, [], 0, 0, 0, 0, 0, false, false⟩ none 0, .int .i64 0, .int .i64 ((11 : Nat) : Int)]) (by simp [results, Try.results20, go_sem, vP, y0, y1, y2, y3, y4, y5, y6, y7, y8, y9]) rfl ?_
 exact ⟨none, 0, rfl, Rd.nil _, hbe⟩
theorem pr_d4 (s : ByteArray) (i B n0 nP : Nat) (p : Prt) (A : Option Addr) (c : Nat) (w W : World) (C : Code) (hC : (match Try.f20.body with | some (.seq _ (.seq _ (.seq _ (.seq _ c)))) => c | _ => .skip) = C) (u1 u7 u8 u9 u10 u11 u12 u13 u14 u15 u16 u17 u18 u19 u20 u21 u22 u23 u24 u25 u26 u27 u28 u29 u30 : Value) (hh : DCt 68 s i 0 B n0 p A c nP w W) (hrd : Rd W A c p.l) : C.wp Try.prog (bodyPost Try.prog Try.f20 (fun r w' => ∃ A c, r = .returned (.tuple #[vP (if isP p then (p, (i, 0)) else (ZP, (0, 11)) : Prt × (Nat × Nat)).1 A c, .int .i64 ((if isP p then (p, (i, 0)) else (ZP, (0, 11)) : Prt × (Nat × Nat)).2.1 : Int), .int .i64 ((if isP p then (p, (i, 0)) else (ZP, (0, 11)) : Prt × (Nat × Nat)).2.2 : Int)]) ∧ Rd w' A c (if isP p then (p, (i, 0)) else (ZP, (0, 11)) : Prt × (Nat × Nat)).1.l ∧ Below w.heap.size w w')) { tmps := #[.string s, u1, .pointer (some ⟨n0, 0, none⟩), .int .i64 0, .int .i64 0, .pointer (some ⟨B, 0, none⟩), .pointer (some ⟨nP, 0, none⟩), u7, u8, u9, u10, u11, u12, u13, u14, u15, u16, u17, u18, u19, u20, u21, u22, u23, u24, u25, u26, u27, u28, u29, u30], defers := [] } W := by
  cases h : isP p
  · have := pr_d4_f s i B n0 nP p A c w W C hC u1 u7 u8 u9 u10 u11 u12 u13 u14 u15 u16 u17 u18 u19 u20 u21 u22 u23 u24 u25 u26 u27 u28 u29 u30 hh hrd h
    rw [h] at this; exact this
  · have := pr_d4_t s i B n0 nP p A c w W C hC u1 u7 u8 u9 u10 u11 u12 u13 u14 u15 u16 u17 u18 u19 u20 u21 u22 u23 u24 u25 u26 u27 u28 u29 u30 hh hrd h
    rw [h] at this; exact this
set_option maxHeartbeats 4000000 in
set_option maxRecDepth 100000 in
theorem pr_d3_z (s : ByteArray) (i e B n0 nP : Nat) (p : Prt) (A : Option Addr) (c : Nat) (w W : World) (C : Code) (hC : (match Try.f20.body with | some (.seq _ (.seq _ (.seq _ c))) => c | _ => .skip) = C) (u1 u7 u8 u9 u10 u11 u12 u13 u14 u15 u16 u17 u18 u19 u20 u21 u22 u23 u24 u25 u26 u27 u28 u29 u30 : Value) (hh : DCt 68 s i e B n0 p A c nP w W) (hrd : Rd W A c p.l) (he : e ≠ 0) :
  C.wp Try.prog (bodyPost Try.prog Try.f20 (fun r w' => ∃ A c, r = .returned (.tuple #[vP (endR (p, (i, e))).1 A c, .int .i64 ((endR (p, (i, e))).2.1 : Int), .int .i64 ((endR (p, (i, e))).2.2 : Int)]) ∧ Rd w' A c (endR (p, (i, e))).1.l ∧ Below w.heap.size w w')) { tmps := #[.string s, u1, .pointer (some ⟨n0, 0, none⟩), .int .i64 0, .int .i64 0, .pointer (some ⟨B, 0, none⟩), .pointer (some ⟨nP, 0, none⟩), u7, u8, u9, u10, u11, u12, u13, u14, u15, u16, u17, u18, u19, u20, u21, u22, u23, u24, u25, u26, u27, u28, u29, u30], defers := [] } W := by
 have HH := Aside0.mk hh
 clear hh
 simp only [Try.f20] at hC
 subst hC
 have HRD := Aside0.mk hrd
 clear hrd
 have HR : Aside0 (endR (p, (i, e)) = (ZP, (0, e))) := ⟨by unfold endR; rw [if_pos he]⟩
 have j1 : ((e : Int) != 0) = true := by rw [bne, beq_eq_false_iff_ne.2 (by omega)]; rfl
 have j2 : (e != 0) = true := by rw [bne, beq_eq_false_iff_ne.2 he]; rfl
 clear he
 rw [HR.out]
 obtain ⟨C4, hC4⟩ : ∃ C, (match Try.f20.body with | some (.seq _ (.seq _ (.seq _ (.seq _ c)))) => c | _ => .skip) = C := ⟨_, rfl⟩
 have HC4 := Aside0.mk hC4
 simp only [Try.f20] at hC4
 rw [hC4]
 clear hC4
 obtain ⟨q0, q1, q2⟩ := HH.out.hc.box
 go_wp2_with fail
 clear q0 q1 q2
 go_wp2_with fail
 replace HH := Aside0.mk HH.out.drew
 refine start_ (n := 8) (S := (fun w' => w'.cell? ⟨B, 1, none⟩ = some (.int .i64 (i : Int)) ∧ w'.cell? ⟨B, 2, none⟩ = some (.int .i64 (e : Int)))) (ds := []) #[false,false,false,false,false,false,false,false] (by kernel_rfl) rfl rfl HH.out.hc.box.2 (fun hHeld => ?_)
 obtain ⟨W9, hW9⟩ : ∃ X, W.drew = X := ⟨_, rfl⟩
 rw [hW9] at hHeld HH ⊢
 clear hW9
 obtain ⟨z0, z1, z2, z3, z4, z5, z6, z7, z8, z9⟩ := HH.out.hr.box
 have zf := HH.out.hr.free'
 refine pure_ (i := 0) (N := some 17) (v := ?_) (a' := ?_) #[true,false,false,false,false,false,false,false] rfl rfl (by kernel_rfl) (fun _ _ _ h => h) (Or.inl ⟨by rfl, ?_⟩) ?_ ?_
 rotate_left
 · intro w'
   go_simp
   try with_reducible rfl
 rotate_left
 · simp only [Act.put, sA, sB, sC]
   rfl
 refine pure_ (i := 1) (N := some 18) (v := ?_) (a' := ?_) #[true,true,false,false,false,false,false,false] rfl rfl (by kernel_rfl) (fun _ _ _ h => h) (Or.inl ⟨by rfl, ?_⟩) ?_ ?_
 rotate_left
 · intro w'
   go_simp
   try with_reducible rfl
 rotate_left
 · simp only [Act.put, sA, sB, sC]
   rfl
 refine pure_ (i := 2) (N := some 19) (v := ?_) (a' := ?_) #[true,true,true,false,false,false,false,false] rfl rfl (by kernel_rfl) (fun _ _ _ h => h) (Or.inl ⟨by rfl, ?_⟩) ?_ ?_
 rotate_left
 · intro w'
   go_simp
   try with_reducible rfl
 rotate_left
 · simp only [Act.put, sA, sB, sC]
   rfl
 refine pure_ (i := 3) (N := some 20) (v := ?_) (a' := ?_) #[true,true,true,true,false,false,false,false] rfl rfl (by kernel_rfl) (fun _ _ _ h => h) (Or.inl ⟨by rfl, ?_⟩) ?_ ?_
 rotate_left
 · intro w'
   go_simp
   try with_reducible rfl
 rotate_left
 · simp only [Act.put, sA, sB, sC]
   rfl
 refine take_ (i := 4) (N := some 21) (v := ?_) (a' := ?_) #[true,true,true,true,true,false,false,false] rfl rfl (by kernel_rfl) (fun _ _ _ h => h) (Or.inl ⟨by rfl, ?_⟩) hHeld ?_ ?_
 rotate_left
 · rintro w' ⟨q1, q2⟩
   go_simp
   try with_reducible rfl
 rotate_left
 · simp only [Act.put, sA, sB, sC]
   rfl
 refine one_ (i := 5) (N := none) #[true,true,true,true,true,true,false,false] rfl rfl (by kernel_rfl) (by decide) (fun K hK => ?_)
 go_simp
 refine hK.out _ _ ?_ (fun hHeld => ?_)
 · exact (BlkC.only HH.out.hc (only_putP W9 n0 ⟨0, 0, [], 0, 0, 0, 0, 0, false, false⟩ none 0) (fun h' => by have h2 : B = n0 := h'; have := HH.out.lt; omega)).box.2
 clear hK K
 try simp only [Act.put, sA, sB, sC]
 refine pure_ (i := 6) (N := some 3) (v := ?_) (a' := ?_) #[true,true,true,true,true,true,true,false] rfl rfl (by kernel_rfl) (fun _ _ _ h => h) (Or.inl ⟨by rfl, ?_⟩) ?_ ?_
 rotate_left
 · intro w'
   go_simp
   try with_reducible rfl
 rotate_left
 · simp only [Act.put, sA, sB, sC]
   rfl
 refine pure_ (i := 7) (N := some 4) (v := ?_) (a' := ?_) #[true,true,true,true,true,true,true,true] rfl rfl (by kernel_rfl) (fun _ _ _ h => h) (Or.inl ⟨by rfl, ?_⟩) ?_ ?_
 rotate_left
 · intro w'
   go_simp
   try with_reducible rfl
 rotate_left
 · simp only [Act.put, sA, sB, sC]
   rfl
 refine done_ (by kernel_rfl) ?_
 clear hHeld z0 z1 z2 z3 z4 z5 z6 z7 z8 z9 zf
 go_wp2
 have hx := only_putP W9 n0 ⟨0, 0, [], 0, 0, 0, 0, 0, false, false⟩ none 0
 have hb := HH.out.hr.put ⟨0, 0, [], 0, 0, 0, 0, 0, false, false⟩ none 0
 obtain ⟨y0, y1, y2, y3, y4, y5, y6, y7, y8, y9⟩ := hb.box
 have hbe := HH.out.hb.trans (hx.below HH.out.hb.size (fun q hq h' => by have h2 : q = n0 := h'; have := HH.out.lt; omega))
 unfold putP at y0 y1 y2 y3 y4 y5 y6 y7 y8 y9 hbe
 dsimp only [List.length_nil] at y0 y1 y2 y3 y4 y5 y6 y7 y8 y9 hbe
 refine bodyPost_ret (v := .tuple #[vP ⟨0, 0, [], 0, 0, 0, 0, 0, false, false⟩ none 0, .int .i64 0, .int .i64 (e : Int)]) (by simp [results, Try.results20, go_sem, vP, y0, y1, y2, y3, y4, y5, y6, y7, y8, y9, ZP]) rfl ?_
 try rw [HR.out]
 exact ⟨none, 0, rfl, Rd.nil _, hbe⟩
set_option maxHeartbeats 4000000 in
set_option maxRecDepth 100000 in
theorem pr_d3_p (s : ByteArray) (i e B n0 nP : Nat) (p : Prt) (A : Option Addr) (c : Nat) (w W : World) (C : Code) (hC : (match Try.f20.body with | some (.seq _ (.seq _ (.seq _ c))) => c | _ => .skip) = C) (u1 u7 u8 u9 u10 u11 u12 u13 u14 u15 u16 u17 u18 u19 u20 u21 u22 u23 u24 u25 u26 u27 u28 u29 u30 : Value) (hh : DCt 68 s i e B n0 p A c nP w W) (hrd : Rd W A c p.l) (he : e = 0) :
  C.wp Try.prog (bodyPost Try.prog Try.f20 (fun r w' => ∃ A c, r = .returned (.tuple #[vP (endR (p, (i, e))).1 A c, .int .i64 ((endR (p, (i, e))).2.1 : Int), .int .i64 ((endR (p, (i, e))).2.2 : Int)]) ∧ Rd w' A c (endR (p, (i, e))).1.l ∧ Below w.heap.size w w')) { tmps := #[.string s, u1, .pointer (some ⟨n0, 0, none⟩), .int .i64 0, .int .i64 0, .pointer (some ⟨B, 0, none⟩), .pointer (some ⟨nP, 0, none⟩), u7, u8, u9, u10, u11, u12, u13, u14, u15, u16, u17, u18, u19, u20, u21, u22, u23, u24, u25, u26, u27, u28, u29, u30], defers := [] } W := by
 have HH := Aside0.mk hh
 clear hh
 simp only [Try.f20] at hC
 subst hC
 have HRD := Aside0.mk hrd
 clear hrd
 subst he
 have j1 : (((0 : Nat) : Int) != 0) = false := rfl
 have HR : Aside0 (endR (p, (i, 0)) = (if isP p then (p, (i, 0)) else (ZP, (0, 11)) : Prt × (Nat × Nat))) := ⟨by unfold endR; rw [if_neg (fun h => h rfl)]⟩
 rw [HR.out]
 obtain ⟨C4, hC4⟩ : ∃ C, (match Try.f20.body with | some (.seq _ (.seq _ (.seq _ (.seq _ c)))) => c | _ => .skip) = C := ⟨_, rfl⟩
 have HC4 := Aside0.mk hC4
 simp only [Try.f20] at hC4
 rw [hC4]
 clear hC4
 obtain ⟨q0, q1, q2⟩ := HH.out.hc.box
 go_wp2_with fail
 clear q0 q1 q2
 exact pr_d4 s i B n0 nP p A c w W C4 HC4.out u1 _ _ _ _ _ _ _ _ _ _ _ _ _ _ _ _ _ _ _ _ _ _ _ _ HH.out HRD.out
theorem pr_d3 (s : ByteArray) (i e B n0 nP : Nat) (p : Prt) (A : Option Addr) (c : Nat) (w W : World) (C : Code) (hC : (match Try.f20.body with | some (.seq _ (.seq _ (.seq _ c))) => c | _ => .skip) = C) (u1 u7 u8 u9 u10 u11 u12 u13 u14 u15 u16 u17 u18 u19 u20 u21 u22 u23 u24 u25 u26 u27 u28 u29 u30 : Value) (hh : DCt 68 s i e B n0 p A c nP w W) (hrd : Rd W A c p.l) : C.wp Try.prog (bodyPost Try.prog Try.f20 (fun r w' => ∃ A c, r = .returned (.tuple #[vP (endR (p, (i, e))).1 A c, .int .i64 ((endR (p, (i, e))).2.1 : Int), .int .i64 ((endR (p, (i, e))).2.2 : Int)]) ∧ Rd w' A c (endR (p, (i, e))).1.l ∧ Below w.heap.size w w')) { tmps := #[.string s, u1, .pointer (some ⟨n0, 0, none⟩), .int .i64 0, .int .i64 0, .pointer (some ⟨B, 0, none⟩), .pointer (some ⟨nP, 0, none⟩), u7, u8, u9, u10, u11, u12, u13, u14, u15, u16, u17, u18, u19, u20, u21, u22, u23, u24, u25, u26, u27, u28, u29, u30], defers := [] } W := by
  by_cases h : e = 0
  · exact pr_d3_p s i e B n0 nP p A c w W C hC u1 u7 u8 u9 u10 u11 u12 u13 u14 u15 u16 u17 u18 u19 u20 u21 u22 u23 u24 u25 u26 u27 u28 u29 u30 hh hrd h
  · exact pr_d3_z s i e B n0 nP p A c w W C hC u1 u7 u8 u9 u10 u11 u12 u13 u14 u15 u16 u17 u18 u19 u20 u21 u22 u23 u24 u25 u26 u27 u28 u29 u30 hh hrd h
theorem rd_part' (s : ByteArray) (i e B : Nat) (w : World) (hb : BlkC 68 s i e B w) (hs : s.size ≤ 140737488351232) (hi : i ≤ s.size) {P : Prt} {b c : Nat} (h : partR s (i, e) = (P, (b, c))) :
    Calls Try.prog 41 #[.pointer (some ⟨B, 0, none⟩)] w fun r w' => ∃ A c1, r = .returned (vP P A c1) ∧ Rd w' A c1 P.l ∧ BlkC 68 s b c B w' ∧ Only (fun q => q = B) w w' ∧ b ≤ s.size := by
  have := rd_part s i e B w hb hs hi
  rw [h] at this; exact this
set_option maxHeartbeats 4000000 in
set_option maxRecDepth 100000 in
theorem part_Read (s : ByteArray) (w : World) (hs : s.size ≤ 140737488351232) :
  Calls Try.prog 20 #[.string s] w (fun r w' => ∃ A c, r = .returned (.tuple #[vP (progR s).1 A c, .int .i64 ((progR s).2.1 : Int), .int .i64 ((progR s).2.2 : Int)]) ∧ Rd w' A c (progR s).1.l ∧ Below w.heap.size w w') := by
 have HS := Aside0.mk hs
 obtain ⟨p, i2, e2, h1⟩ : ∃ a b c, partR s (0, 0) = (a, (b, c)) := ⟨_, _, _, rfl⟩
 have E1 := Aside0.mk h1
 have HR : Aside0 (progR s = endR (p, (i2, e2))) := ⟨by unfold progR; rw [h1]⟩
 clear h1 hs
 rw [HR.out]
 obtain ⟨n0, hn0⟩ : ∃ x, w.heap.size = x := ⟨_, rfl⟩
 have HN0 := Aside0.mk hn0
 go_enter Try.func20, Try.ntmps20
 obtain ⟨C2, hC2⟩ : ∃ C, (match Try.f20.body with | some (.seq _ (.seq _ c)) => c | _ => .skip) = C := ⟨_, rfl⟩
 have HC2 := Aside0.mk hC2
 simp only [Try.f20] at hC2
 rw [hC2]
 clear hC2
 go_wp2_with fail
 have hz := BlkP.new ZP none 0 w
 rw [hn0] at hz
 have hc : BlkC 68 s 0 0 (w.alloc (.cells #[.int .i64 0, .int .i64 0, .slice none 0 0, .int .i64 0, .int .i64 0, .int .i64 0, .int .i64 0, .int .i64 0, .bool false, .bool false] 26)).heap.size ((w.alloc (.cells #[.int .i64 0, .int .i64 0, .slice none 0 0, .int .i64 0, .int .i64 0, .int .i64 0, .int .i64 0, .int .i64 0, .bool false, .bool false] 26)).alloc (.cells #[.string s, .int .i64 0, .int .i64 0] 68)) := BlkC.new 68 s 0 0 (w.alloc (.cells #[.int .i64 0, .int .i64 0, .slice none 0 0, .int .i64 0, .int .i64 0, .int .i64 0, .int .i64 0, .int .i64 0, .bool false, .bool false] 26))
 rw [World.size_alloc, hn0] at hc
 have HZ : Aside0 (BlkP ZP none 0 n0 ((w.alloc (.cells #[.int .i64 0, .int .i64 0, .slice none 0 0, .int .i64 0, .int .i64 0, .int .i64 0, .int .i64 0, .int .i64 0, .bool false, .bool false] 26)).alloc (.cells #[.string s, .int .i64 0, .int .i64 0] 68))) := ⟨hz.alloc _⟩
 have HB : Aside0 (Below w.heap.size w ((w.alloc (.cells #[.int .i64 0, .int .i64 0, .slice none 0 0, .int .i64 0, .int .i64 0, .int .i64 0, .int .i64 0, .int .i64 0, .bool false, .bool false] 26)).alloc (.cells #[.string s, .int .i64 0, .int .i64 0] 68))) := ⟨((Below.refl _ w).alloc (Nat.le_refl _) _).alloc (by rw [World.size_alloc]; omega) _⟩
 have HC := Aside0.mk hc
 have hsz : ((w.alloc (.cells #[.int .i64 0, .int .i64 0, .slice none 0 0, .int .i64 0, .int .i64 0, .int .i64 0, .int .i64 0, .int .i64 0, .bool false, .bool false] 26)).alloc (.cells #[.string s, .int .i64 0, .int .i64 0] 68)).heap.size = n0 + 2 := by rw [World.size_alloc, World.size_alloc, hn0]
 try rw [World.size_alloc]
 try rw [hn0]
 obtain ⟨B, hB⟩ : ∃ x, n0 + 1 = x := ⟨_, rfl⟩
 have HBB : Aside0 (n0 < B) := ⟨by omega⟩
 rw [hB] at HC hc ⊢
 obtain ⟨W0, hW⟩ : ∃ X, (w.alloc (.cells #[.int .i64 0, .int .i64 0, .slice none 0 0, .int .i64 0, .int .i64 0, .int .i64 0, .int .i64 0, .int .i64 0, .bool false, .bool false] 26)).alloc (.cells #[.string s, .int .i64 0, .int .i64 0] 68) = X := ⟨_, rfl⟩
 rw [hW] at HC HZ HB hsz ⊢
 have HSZ : Aside0 (B < W0.heap.size) := ⟨by omega⟩
 clear hW hz hc hn0 hsz hB
 have hC2 := HC2.out
 simp only [Try.f20] at hC2
 subst hC2
 clear HC2
 obtain ⟨C3, hC3⟩ : ∃ C, (match Try.f20.body with | some (.seq _ (.seq _ (.seq _ c))) => c | _ => .skip) = C := ⟨_, rfl⟩
 have HC3 := Aside0.mk hC3
 simp only [Try.f20] at hC3
 rw [hC3]
 clear hC3
 go_wp2_with fail
 go_at_call 41
 refine (rd_part' s 0 0 B _ HC.out HS.out (Nat.zero_le _) E1.out).mono ?_
 rintro r w2 ⟨A6, c6, rfl, hrd, hc', ho, hi⟩
 replace HZ := Aside0.mk (BlkP.only HZ.out ho (fun h => by have h2 : n0 = B := h; have := HBB.out; omega))
 replace HB := Aside0.mk (HB.out.trans (ho.below HB.out.size (fun q hq h' => by have h2 : q = B := h'; have := HBB.out; have := HN0.out; omega)))
 replace HSZ : Aside0 (B < w2.heap.size) := ⟨Nat.lt_of_lt_of_le HSZ.out ho.size⟩
 replace HC := Aside0.mk hc'
 have HI := Aside0.mk hi
 have HRD := Aside0.mk hrd
 clear hc' ho hi hrd
 obtain ⟨nP, hnP⟩ : ∃ x, w2.heap.size = x := ⟨_, rfl⟩
 have hb : BlkP p A6 c6 w2.heap.size (w2.alloc (.cells #[.int .i64 p.g, .int .i64 p.k, .slice A6 p.l.length c6, .int .i64 p.ht, .int .i64 p.hv, .int .i64 p.hc, .int .i64 p.ix, .int .i64 p.tm, .bool p.mrk, .bool p.hed] 26)) := BlkP.new p A6 c6 w2
 rw [hnP] at hb
 have HNP : Aside0 (B < nP) := ⟨by rw [← hnP]; exact HSZ.out⟩
 have HP := Aside0.mk hb
 have HNPS := Aside0.mk hnP
 clear hb hnP
 unfold vP
 go_wp2_with fail
 try rw [HNPS.out]
 have hzz := laP HZ (.cells #[.int .i64 p.g, .int .i64 p.k, .slice A6 p.l.length c6, .int .i64 p.ht, .int .i64 p.hv, .int .i64 p.hc, .int .i64 p.ix, .int .i64 p.tm, .bool p.mrk, .bool p.hed] 26)
 have hcc := laC HC (.cells #[.int .i64 p.g, .int .i64 p.k, .slice A6 p.l.length c6, .int .i64 p.ht, .int .i64 p.hv, .int .i64 p.hc, .int .i64 p.ix, .int .i64 p.tm, .bool p.mrk, .bool p.hed] 26)
 have hbb := HB.out.alloc HB.out.size (.cells #[.int .i64 p.g, .int .i64 p.k, .slice A6 p.l.length c6, .int .i64 p.ht, .int .i64 p.hv, .int .i64 p.hc, .int .i64 p.ix, .int .i64 p.tm, .bool p.mrk, .bool p.hed] 26)
 have hrr := HRD.out.alloc (.cells #[.int .i64 p.g, .int .i64 p.k, .slice A6 p.l.length c6, .int .i64 p.ht, .int .i64 p.hv, .int .i64 p.hc, .int .i64 p.ix, .int .i64 p.tm, .bool p.mrk, .bool p.hed] 26)
 have h5 : w.heap.size ≤ n0 ∧ n0 < B ∧ B < nP := by have := HNP.out; have := HBB.out; have := HN0.out; omega
 exact pr_d3 s i2 e2 B n0 nP p A6 c6 w _ C3 HC3.out _ _ _ _ _ _ _ _ _ _ _ _ _ _ _ _ _ _ _ _ _ _ _ _ _ ⟨hcc.out, HP.out, hzz.out, hbb, HI.out, HS.out, h5⟩ hrr
end Go.Proofs.Ytokjhocjemjfiaa.PartW
