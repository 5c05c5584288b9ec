/- The document's bytes of a part: the walks. -/
import Derived.Test.YtokjhocjemjfiaaBack
set_option linter.unusedVariables false
set_option linter.unusedSimpArgs false
namespace Go.Proofs.Ytokjhocjemjfiaa.Sp
open Go Go.RowKit Go.Proofs.Ytokjhocjemjfiaa.A Go.Proofs.Ytokjhocjemjfiaa.PartW Go.Proofs.Ytokjhocjemjfiaa.Reg Go.Proofs.Ytokjhocjemjfiaa.Seq Go.Proofs.Ytokjhocjemjfiaa.CodeW Go.Proofs.Ytokjhocjemjfiaa.CodeQ Go.Proofs.Ytokjhocjemjfiaa.Given Go.Proofs.YtokjhocjemjfiaaW.PrintWords Go.Proofs.YtokjhocjemjfiaaW.PrintLast Go.Proofs.YtokjhocjemjfiaaW.PrintMore
theorem apA (a b c : ByteArray) : (a ++ b) ++ c = a ++ (b ++ c) := CodeM.ba_ext (by simp only [CodeM.app_data, List.append_assoc])
theorem apN (a : ByteArray) : (⟨#[]⟩ : ByteArray) ++ a = a := CodeM.ba_ext (by simp only [CodeM.app_data]; rfl)
theorem apE (a : ByteArray) : a ++ (⟨#[]⟩ : ByteArray) = a := CodeM.ba_ext (by simp only [CodeM.app_data]; exact List.append_nil _)
theorem entsB_app (six : Bool) (a : ByteArray) : ∀ (l : List Ent) (s : ByteArray), a ++ entsB six l s = entsB six l (a ++ s)
  | [], s => rfl
  | e :: l, s => by
    show a ++ entsB six l (entB six e s) = entsB six l (entB six e (a ++ s))
    rw [entsB_app six a l]
    congr 1
    unfold entB
    cases six
    · simp only [Bool.false_eq_true, if_false, apA]
    · simp only [if_true, apA]
theorem entsB_size (six : Bool) : ∀ (l : List Ent) (s : ByteArray), (∀ e ∈ l, isE e = true) → (entsB six l s).size ≤ s.size + 67 * l.length
  | [], s, _ => Nat.le_refl _
  | e :: l, s, h => by
    have he := isE_rng' (h e (by simp))
    have a0 := putS_le he.1
    have a1 := putS_le he.2.1
    have a2 := putS_leN (n := e.f2.size) (by omega)
    have := entsB_size six l (entB six e s) (fun x hx => h x (by simp [hx]))
    show (entsB six l (entB six e s)).size ≤ _
    have hb : (entB six e s).size ≤ s.size + 67 := by unfold entB; cases six <;> simp only [Bool.false_eq_true, if_false, if_true, CodeM.app_size] <;> omega
    simp only [List.length_cons]
    omega
def markB (p : Prt) : ByteArray := if p.mrk then putS p.ix.toNat ++ putS p.tm.toNat else ⟨#[]⟩
def hardB (p : Prt) : ByteArray := (putS p.ht.toNat ++ putS p.hv.toNat) ++ putS p.hc.toNat
/-- what is written anew, the document's -/
def fwdB (p : Prt) : ByteArray := entsB true p.l ((putS (flagN p) ++ (if p.hed then markB p ++ hardB p else markB p)) ++ putS p.l.length)
theorem fwdB_eq (p : Prt) (hk : p.k = 6) (s : ByteArray) : s ++ fwdB p = entsB true p.l (lenB p (midB p (flagB p s))) := by
  unfold fwdB
  rw [entsB_app]
  congr 1
  have lb : ∀ T, lenB p T = T ++ putS p.l.length := fun T => by unfold lenB; rw [if_neg (by omega), if_pos hk]
  have fb : flagB p s = s ++ putS (flagN p) := by unfold flagB; rw [if_pos hk]
  have mb : ∀ T, midB p T = numsB (numA 0 p.mrk p.hed) p T := fun T => by unfold midB atK hdK; rw [hk]; rfl
  rw [lb, mb, fb]
  unfold markB hardB
  cases p.mrk <;> cases p.hed <;> simp [numA, numsB, getA, apA, apN, apE]
theorem bytes_k1 {p : Prt} (h : IsP p) (k : p.k = 1) : bytesP p = entsB false p.l ((headB p ++ putS p.l.length) ++ putS (el p.l 0).f0.toNat) := by
  obtain ⟨m0, h0⟩ := h.nf (by omega)
  unfold bytesP lenB midB flagB
  rw [if_pos k, if_neg (by omega), m0, h0, k]
  simp [atK, hdK, numA, numsB, apA]
theorem bytes_k2 {p : Prt} (h : IsP p) (k : p.k = 2) : bytesP p = headB p ++ hardB p := by
  obtain ⟨m0, h0⟩ := h.nf (by omega)
  unfold bytesP lenB midB flagB hardB
  rw [if_neg (by omega), if_neg (by omega), if_neg (by omega), m0, h0, k, h.nl (by omega) (by omega)]
  simp [entsB, atK, hdK, numA, numsB, getA, apA]
theorem bytes_k34 {p : Prt} (h : IsP p) (k : p.k = 3 ∨ p.k = 4) : bytesP p = (headB p ++ putS p.ix.toNat) ++ putS p.tm.toNat := by
  obtain ⟨m0, h0⟩ := h.nf (by omega)
  unfold bytesP lenB midB flagB
  rw [if_neg (by omega), if_neg (by omega), if_neg (by omega), m0, h0, h.nl (by omega) (by omega)]
  rcases k with k | k <;> rw [k] <;> simp [entsB, atK, hdK, numA, numsB, getA, apA]
theorem bytes_k5 {p : Prt} (h : IsP p) (k : p.k = 5) : headB p = bytesP p := by
  obtain ⟨m0, h0⟩ := h.nf (by omega)
  unfold bytesP lenB midB flagB
  rw [if_neg (by omega), if_neg (by omega), if_neg (by omega), m0, h0, k, h.nl (by omega) (by omega)]
  simp [entsB, atK, hdK, numA, numsB]
theorem bytes_k6 {p : Prt} (h : IsP p) (k : p.k = 6) : bytesP p = headB p ++ fwdB p := by
  rw [fwdB_eq p k]
  unfold bytesP
  rw [k]; rfl
end Go.Proofs.Ytokjhocjemjfiaa.Sp
namespace Go.Proofs.Ytokjhocjemjfiaa.PartW
open Go Go.RowKit Go.Shelf Go.Proofs.Ytokjhocjemjfiaa.A Go.Proofs.Ytokjhocjemjfiaa.Sp Go.Proofs.Ytokjhocjemjfiaa.Reg Go.Proofs.Ytokjhocjemjfiaa.Seq Go.Proofs.Ytokjhocjemjfiaa.CodeW Go.Proofs.Ytokjhocjemjfiaa.CodeM Go.Proofs.Ytokjhocjemjfiaa.CodeQ Go.Proofs.Ytokjhocjemjfiaa.Given Go.Proofs.YtokjhocjemjfiaaW.PrintWords Go.Proofs.YtokjhocjemjfiaaW.PrintLast Go.Proofs.YtokjhocjemjfiaaW.PrintMore
theorem fwdB_le {p : Prt} (hlen : p.l.length ≤ 6) (hent : ∀ i, i < p.l.length → isE (el p.l i) = true) (hnum : ∀ o, 0 ≤ getA p o ∧ getA p o ≤ 1099511627776) : (fwdB p).size ≤ 1000 := by
  have h1 := entsB_size true p.l ((putS (flagN p) ++ (if p.hed then markB p ++ hardB p else markB p)) ++ putS p.l.length) (fun e he => by
    obtain ⟨i, hi, rfl⟩ := List.mem_iff_getElem.1 he
    rw [← el_get hi]; exact hent i hi)
  have r3 := putS_le (hnum 3)
  have r4 := putS_le (hnum 4)
  have r5 := putS_le (hnum 5)
  have r6 := putS_le (hnum 6)
  have r7 := putS_le (hnum 7)
  simp only [getA] at r3 r4 r5 r6 r7
  have zl := putS_leN (n := p.l.length) (by omega)
  have zf := putS_leN (n := flagN p) (by unfold flagN; cases p.mrk <;> cases p.hed <;> decide)
  have zm : (markB p).size ≤ 18 := by
    unfold markB
    cases p.mrk
    · exact Nat.zero_le _
    · simp only [if_true, app_size]; omega
  have zh : (hardB p).size ≤ 27 := by unfold hardB; rw [app_size, app_size]; omega
  have zz : (if p.hed then markB p ++ hardB p else markB p).size ≤ 45 := by
    cases p.hed
    · simp only [Bool.false_eq_true, if_false]; omega
    · simp only [if_true, app_size]; omega
  rw [app_size, app_size] at h1
  unfold fwdB
  omega
theorem rputc (n : Int) (h : 0 ≤ n ∧ n ≤ 1099511627776) (w : World) {X : ByteArray} (hx : putS n.toNat = X) : Calls Try.prog 30 #[.int .i64 n] w fun e w' => e = .returned (.string X) ∧ Below w.heap.size w w' := by
  rw [← hx]; exact laderef1_Put.calls 9 _ _ w (ref_put0 (by omega) (by omega) 9 (by omega))
theorem rtxtc (s : ByteArray) (h : s.size ≤ 40) (w : World) {X : ByteArray} (hx : putS s.size ++ s = X) : Calls Try.prog 31 #[.string s] w fun e w' => e = .returned (.string X) ∧ Below w.heap.size w w' := by
  rw [← hx]; exact laderef1_Text.calls 9 _ _ w (ref_text s (by omega) 9 (by omega))
theorem rhardc (p : Prt) (hr : ∀ o, 0 ≤ getA p o ∧ getA p o ≤ 1099511627776) (w : World) {X : ByteArray} (hx : hardB p = X) : Calls Try.prog 32 #[.agg #[.int .i64 p.ht, .int .i64 p.hv, .int .i64 p.hc]] w fun e w' => e = .returned (.string X) ∧ Below w.heap.size w w' := by
  have r3 := hr 3
  have r4 := hr 4
  have r5 := hr 5
  simp only [getA] at r3 r4 r5
  have z1 := putS_le r3
  have z2 := putS_le r4
  have z3 := putS_le r5
  rw [← hx]
  refine laderef4_hard.calls 9 _ _ _ _ w ?_
  unfold laderef4_hard.f hardB
  rw [ref_put0 (by omega) (by omega) 9 (by omega), Sp.bs, ref_put0 (by omega) (by omega) 9 (by omega), Sp.bs, if_pos (by omega), ref_put0 (by omega) (by omega) 9 (by omega), Sp.bs, if_pos (by rw [app_size]; omega)]
theorem hardB_le {p : Prt} (hr : ∀ o, 0 ≤ getA p o ∧ getA p o ≤ 1099511627776) : (hardB p).size ≤ 27 := by
  have r3 := putS_le (hr 3)
  have r4 := putS_le (hr 4)
  have r5 := putS_le (hr 5)
  simp only [getA] at r3 r4 r5
  unfold hardB
  rw [app_size, app_size]; omega
theorem el_e {p : Prt} (hent : ∀ i, i < p.l.length → isE (el p.l i) = true) : ∀ e ∈ p.l, isE e = true := fun e he => by
  obtain ⟨i, hi, rfl⟩ := List.mem_iff_getElem.1 he
  rw [← el_get hi]; exact hent i hi
theorem Rd.third {w : World} {ad : Addr} {c : Nat} {l : List Ent} {k : Nat} {x : Ent} (h : Rd w (some ad) c l) (hk : k < l.length) (hx : el l k = x) : w.cell? (ad.add (k * 3)) = some (.int .i64 x.f0) ∧ w.cell? ⟨(ad.add (k * 3)).block, (ad.add (k * 3)).off + 1, none⟩ = some (.int .i64 x.f1) ∧ w.cell? ⟨(ad.add (k * 3)).block, (ad.add (k * 3)).off + 2, none⟩ = some (.string x.f2) := by
  obtain ⟨ad', e, g0, g1, g2⟩ := h.at_ hk
  cases e
  rw [hx] at g0 g1 g2
  exact ⟨g0, g1, g2⟩
set_option maxHeartbeats 4000000 in
set_option maxRecDepth 100000 in
theorem fw_7 (p : Prt) (A : Option Addr) (c n0 : Nat) (X : ByteArray) (w W : World) (C : Code) (hC : (match Try.f33.body with | some (.seq _ (.seq _ (.seq _ (.seq _ (.seq _ (.seq _ (.seq _ c))))))) => c | _ => .skip) = C) (u0 u3 u5 u6 u7 u8 u9 u10 u11 u12 u13 u14 u15 u16 u17 u18 u19 u20 u21 u22 u23 u24 u25 u26 u27 u28 u29 u30 u31 u32 u33 u34 u35 u36 u37 u38 u39 u40 u41 u42 u43 u44 u45 u46 u47 u48 u49 u50 u51 u52 u53 u54 u55 u56 u57 u58 u59 u60 u61 u62 u63 u64 u65 : Value) (hh : BCz p A c n0 w W) :
  C.wp Try.prog (bodyPost Try.prog Try.f33 (fun r w' => r = .returned (.string X) ∧ Below w.heap.size w w')) { tmps := #[u0, .pointer (some ⟨n0, 0, none⟩), .string ⟨#[]⟩, u3, .string X, u5, u6, u7, u8, u9, u10, u11, u12, u13, u14, u15, u16, u17, u18, u19, u20, u21, u22, u23, u24, u25, u26, u27, u28, u29, u30, u31, u32, u33, u34, u35, u36, u37, u38, u39, u40, u41, u42, u43, u44, u45, u46, u47, u48, u49, u50, u51, u52, u53, u54, u55, u56, u57, u58, u59, u60, u61, u62, u63, u64, u65], defers := [] } W := by
 have HH := Aside0.mk hh
 clear hh
 simp only [Try.f33] at hC
 subst hC
 go_wp2_with fail
 go_ret
 exact ⟨rfl, HH.out.hb⟩
set_option maxHeartbeats 4000000 in
set_option maxRecDepth 100000 in
theorem fw_6 (p : Prt) (A : Option Addr) (c n0 : Nat) (X : ByteArray) (w W : World) (C : Code) (hC : (match Try.f33.body with | some (.seq _ (.seq _ (.seq _ (.seq _ (.seq _ (.seq _ c)))))) => c | _ => .skip) = C) (u0 u3 u5 u6 u7 u8 u9 u10 u11 u12 u13 u14 u15 u16 u17 u18 u19 u20 u21 u22 u23 u24 u25 u26 u27 u28 u29 u30 u31 u32 u33 u34 u35 u36 u37 u38 u39 u40 u41 u42 u43 u44 u45 u46 u47 u48 u49 u50 u51 u52 u53 u54 u55 u56 u57 u58 u59 u60 u61 u62 u63 u64 u65 : Value) (S : ByteArray) (hh : BCz p A c n0 w W) (hlen : p.l.length ≤ 6) (hent : ∀ i, i < p.l.length → isE (el p.l i) = true) (hnum : ∀ o, 0 ≤ getA p o ∧ getA p o ≤ 1099511627776) (hsz : S.size ≤ 1000) (hX : entsB true p.l S = X) :
  C.wp Try.prog (bodyPost Try.prog Try.f33 (fun r w' => r = .returned (.string X) ∧ Below w.heap.size w w')) { tmps := #[u0, .pointer (some ⟨n0, 0, none⟩), .string ⟨#[]⟩, u3, .string S, u5, u6, u7, u8, u9, u10, u11, u12, u13, u14, u15, u16, u17, u18, u19, u20, u21, u22, u23, u24, u25, u26, u27, u28, u29, u30, u31, u32, u33, u34, u35, u36, u37, u38, u39, u40, u41, u42, u43, u44, u45, u46, u47, u48, u49, u50, u51, u52, u53, u54, u55, u56, u57, u58, u59, u60, u61, u62, u63, u64, u65], defers := [] } W := by
 have HH := Aside0.mk hh
 clear hh
 simp only [Try.f33] at hC
 subst hC
 have HK := Aside0.mk (And.intro hlen (And.intro hent hnum))
 have HX := Aside0.mk hX
 have HZ := Aside0.mk hsz
 have hlen6 : p.l.length ≤ 4398046511104 := by omega
 clear hlen hent hnum hX hsz
 obtain ⟨C7, hC7⟩ : ∃ C, (match Try.f33.body with | some (.seq _ (.seq _ (.seq _ (.seq _ (.seq _ (.seq _ (.seq _ c))))))) => c | _ => .skip) = C := ⟨_, rfl⟩
 have HC7 := Aside0.mk hC7
 simp only [Try.f33] at hC7
 rw [hC7]
 clear hC7
 go_wp2_with fail
 have HI1 : Aside0 (∃ S', X = entsB true (p.l.drop 0) S' ∧ S'.size ≤ 1000 + 67 * 0 ∧ BCz p A c n0 w W ∧ Value.string S = .string S') := ⟨S, by rw [List.drop_zero]; exact HX.out.symm, by have := HZ.out; omega, HH.out, rfl⟩
 go_loopw [4, 5] (fun u v wr => ∃ k : Nat, k ≤ p.l.length ∧ v = .int .i64 (k : Int) ∧ Aside0 (∃ S', X = entsB true (p.l.drop k) S' ∧ S'.size ≤ 1000 + 67 * k ∧ BCz p A c n0 w wr ∧ u = .string S')) (fun _ v _ => p.l.length - (intOf v).toNat)
 case atStart => exact ⟨0, Nat.zero_le _, rfl, HI1⟩
 case round =>
   obtain ⟨k, hk, rfl, HI⟩ := hrel
   obtain ⟨S', hE, hs, hh, hu⟩ := HI.out
   clear HH HI HI1 HX HZ
   subst hu
   have HH := Aside0.mk hh
   have HS := Aside0.mk hs
   have HEQ := Aside0.mk hE
   clear hh hs hE
   by_cases hlt : k < p.l.length
   · have d1 : decide ((k : Int) < (p.l.length : Int)) = true := decide_eq_true (by omega)
     have d2 : decide (k < p.l.length) = true := decide_eq_true hlt
     have hk4 : IntKind.i64.wrap ((k : Int) + 1) = (k : Int) + 1 := by rw [i64_w]; unfold wrap64; omega
     have hi0 : (0 : Int) ≤ (k : Int) := by omega
     have hi1 : (k : Int) < (p.l.length : Int) := by omega
     obtain ⟨ad, hA, g0, g1, g2⟩ := HH.out.hr.at_ hlt
     subst hA
     clear g0 g1 g2
     obtain ⟨x, hx⟩ : ∃ x, el p.l k = x := ⟨_, rfl⟩
     have hE := HK.out.2.1 k hlt
     rw [hx] at hE
     have HRX := Aside0.mk (isE_rng' hE)
     have HEL := Aside0.mk hx
     clear hx hE
     obtain ⟨y0, y1, y2, y3, y4, y5, y6, y7, y8, y9⟩ := HH.out.hp.box
     go_wp2_with fail
     clear y0 y1 y2 y3 y4 y5 y6 y7 y8 y9
     obtain ⟨X0, hX0⟩ : ∃ Y, putS x.f0.toNat = Y := ⟨_, rfl⟩
     have EX0 := Aside0.mk hX0
     have ZX0 : Aside0 (X0.size ≤ 9) := ⟨by rw [← hX0]; exact putS_le HRX.out.1⟩
     clear hX0
     obtain ⟨X1, hX1⟩ : ∃ Y, putS x.f1.toNat = Y := ⟨_, rfl⟩
     have EX1 := Aside0.mk hX1
     have ZX1 : Aside0 (X1.size ≤ 9) := ⟨by rw [← hX1]; exact putS_le HRX.out.2.1⟩
     clear hX1
     obtain ⟨X2, hX2⟩ : ∃ Y, putS x.f2.size ++ x.f2 = Y := ⟨_, rfl⟩
     have EX2 := Aside0.mk hX2
     have ZX2 : Aside0 (X2.size ≤ 49) := ⟨by rw [← hX2]; exact by rw [app_size]; have h1 := HRX.out.2.2; have := putS_leN (n := x.f2.size) (by omega); omega⟩
     clear hX2
     have hs0 : (9223372036854775807 < S'.size + X0.size) = False := eq_false (by have := HS.out; have := ZX1.out; have := ZX2.out; have := HK.out.1; have := ZX0.out; omega)
     have hs1 : (9223372036854775807 < (S' ++ X0).size + X1.size) = False := eq_false (by rw [app_size]; have := HS.out; have := ZX1.out; have := ZX2.out; have := HK.out.1; have := ZX0.out; omega)
     have hs2 : (9223372036854775807 < ((S' ++ X0) ++ X1).size + X2.size) = False := eq_false (by rw [app_size, app_size]; have := HS.out; have := ZX1.out; have := ZX2.out; have := HK.out.1; have := ZX0.out; omega)
     have hs3 : (9223372036854775807 < S'.size + X0.size + X1.size) = False := eq_false (by have := HS.out; have := ZX1.out; have := ZX2.out; have := HK.out.1; have := ZX0.out; omega)
     have hs4 : (9223372036854775807 < S'.size + X0.size + X1.size + X2.size) = False := eq_false (by have := HS.out; have := ZX1.out; have := ZX2.out; have := HK.out.1; have := ZX0.out; omega)
     replace HH := Aside0.mk HH.out.drew
     refine start_ (n := 26) (S := (fun w' => w'.cell? ⟨n0, 2, none⟩ = some (.slice (some ad) p.l.length c) ∧ (w'.cell? (ad.add (k * 3)) = some (.int .i64 x.f0) ∧ w'.cell? ⟨(ad.add (k * 3)).block, (ad.add (k * 3)).off + 1, none⟩ = some (.int .i64 x.f1) ∧ w'.cell? ⟨(ad.add (k * 3)).block, (ad.add (k * 3)).off + 2, none⟩ = some (.string x.f2)))) (ds := []) #[false,false,false,false,false,false,false,false,false,false,false,false,false,false,false,false,false,false,false,false,false,false,false,false,false,false] (by kernel_rfl) rfl rfl ⟨HH.out.hp.box.2.2.1, Rd.third HH.out.hr hlt HEL.out⟩ (fun hHeld => ?_)
     obtain ⟨W9, hW⟩ : ∃ X, wr.drew = X := ⟨_, rfl⟩
     rw [hW] at hHeld HH ⊢
     clear hW
     refine pure_ (i := 0) (N := some 40) (v := ?_) (a' := ?_) #[true,false,false,false,false,false,false,false,false,false,false,false,false,false,false,false,false,false,false,false,false,false,false,false,false,false] rfl rfl (by kernel_rfl) (fun _ _ _ h => h) (Or.inl ⟨by rfl, ?_⟩) ?_ ?_
     rotate_left
     · intro w'
       go_simp
       try with_reducible rfl
     rotate_left
     · simp only [Act.put, sA, sB, sC]
       rfl
     refine pure_ (i := 1) (N := some 41) (v := ?_) (a' := ?_) #[true,true,false,false,false,false,false,false,false,false,false,false,false,false,false,false,false,false,false,false,false,false,false,false,false,false] rfl rfl (by kernel_rfl) (fun _ _ _ h => h) (Or.inl ⟨by rfl, ?_⟩) ?_ ?_
     rotate_left
     · intro w'
       go_simp
       try with_reducible rfl
     rotate_left
     · simp only [Act.put, sA, sB, sC]
       rfl
     refine take_ (i := 2) (N := some 42) (v := ?_) (a' := ?_) #[true,true,true,false,false,false,false,false,false,false,false,false,false,false,false,false,false,false,false,false,false,false,false,false,false,false] rfl rfl (by kernel_rfl) (fun _ _ _ h => h) (Or.inl ⟨by rfl, ?_⟩) hHeld ?_ ?_
     rotate_left
     · rintro w' ⟨y2, g0, g1, g2⟩
       go_simp
       try with_reducible rfl
     rotate_left
     · simp only [Act.put, sA, sB, sC]
       rfl
     refine pure_ (i := 3) (N := some 43) (v := ?_) (a' := ?_) #[true,true,true,true,false,false,false,false,false,false,false,false,false,false,false,false,false,false,false,false,false,false,false,false,false,false] rfl rfl (by kernel_rfl) (fun _ _ _ h => h) (Or.inl ⟨by rfl, ?_⟩) ?_ ?_
     rotate_left
     · intro w'
       go_simp
       try with_reducible rfl
     rotate_left
     · simp only [Act.put, sA, sB, sC]
       rfl
     refine pure_ (i := 4) (N := some 44) (v := ?_) (a' := ?_) #[true,true,true,true,true,false,false,false,false,false,false,false,false,false,false,false,false,false,false,false,false,false,false,false,false,false] rfl rfl (by kernel_rfl) (fun _ _ _ h => h) (Or.inl ⟨by rfl, ?_⟩) ?_ ?_
     rotate_left
     · intro w'
       go_simp
       try with_reducible rfl
     rotate_left
     · simp only [Act.put, sA, sB, sC]
       rfl
     refine pure_ (i := 5) (N := some 45) (v := ?_) (a' := ?_) #[true,true,true,true,true,true,false,false,false,false,false,false,false,false,false,false,false,false,false,false,false,false,false,false,false,false] rfl rfl (by kernel_rfl) (fun _ _ _ h => h) (Or.inl ⟨by rfl, ?_⟩) ?_ ?_
     rotate_left
     · intro w'
       go_simp
       try with_reducible rfl
     rotate_left
     · simp only [Act.put, sA, sB, sC]
       rfl
     refine take_ (i := 6) (N := some 46) (v := ?_) (a' := ?_) #[true,true,true,true,true,true,true,false,false,false,false,false,false,false,false,false,false,false,false,false,false,false,false,false,false,false] rfl rfl (by kernel_rfl) (fun _ _ _ h => h) (Or.inl ⟨by rfl, ?_⟩) hHeld ?_ ?_
     rotate_left
     · rintro w' ⟨y2, g0, g1, g2⟩
       go_simp
       try with_reducible rfl
     rotate_left
     · simp only [Act.put, sA, sB, sC]
       rfl
     refine pure_ (i := 9) (N := some 49) (v := ?_) (a' := ?_) #[true,true,true,true,true,true,true,false,false,true,false,false,false,false,false,false,false,false,false,false,false,false,false,false,false,false] rfl rfl (by kernel_rfl) (fun _ _ _ h => h) (Or.inl ⟨by rfl, ?_⟩) ?_ ?_
     rotate_left
     · intro w'
       go_simp
       try with_reducible rfl
     rotate_left
     · simp only [Act.put, sA, sB, sC]
       rfl
     refine take_ (i := 10) (N := some 50) (v := ?_) (a' := ?_) #[true,true,true,true,true,true,true,false,false,true,true,false,false,false,false,false,false,false,false,false,false,false,false,false,false,false] rfl rfl (by kernel_rfl) (fun _ _ _ h => h) (Or.inl ⟨by rfl, ?_⟩) hHeld ?_ ?_
     rotate_left
     · rintro w' ⟨y2, g0, g1, g2⟩
       go_simp
       try with_reducible rfl
     rotate_left
     · simp only [Act.put, sA, sB, sC]
       rfl
     refine pure_ (i := 11) (N := some 51) (v := ?_) (a' := ?_) #[true,true,true,true,true,true,true,false,false,true,true,true,false,false,false,false,false,false,false,false,false,false,false,false,false,false] rfl rfl (by kernel_rfl) (fun _ _ _ h => h) (Or.inl ⟨by rfl, ?_⟩) ?_ ?_
     rotate_left
     · intro w'
       go_simp
       try with_reducible rfl
     rotate_left
     · simp only [Act.put, sA, sB, sC]
       rfl
     refine pure_ (i := 12) (N := some 52) (v := ?_) (a' := ?_) #[true,true,true,true,true,true,true,false,false,true,true,true,true,false,false,false,false,false,false,false,false,false,false,false,false,false] rfl rfl (by kernel_rfl) (fun _ _ _ h => h) (Or.inl ⟨by rfl, ?_⟩) ?_ ?_
     rotate_left
     · intro w'
       go_simp
       try with_reducible rfl
     rotate_left
     · simp only [Act.put, sA, sB, sC]
       rfl
     refine pure_ (i := 13) (N := some 53) (v := ?_) (a' := ?_) #[true,true,true,true,true,true,true,false,false,true,true,true,true,true,false,false,false,false,false,false,false,false,false,false,false,false] rfl rfl (by kernel_rfl) (fun _ _ _ h => h) (Or.inl ⟨by rfl, ?_⟩) ?_ ?_
     rotate_left
     · intro w'
       go_simp
       try with_reducible rfl
     rotate_left
     · simp only [Act.put, sA, sB, sC]
       rfl
     refine take_ (i := 14) (N := some 54) (v := ?_) (a' := ?_) #[true,true,true,true,true,true,true,false,false,true,true,true,true,true,true,false,false,false,false,false,false,false,false,false,false,false] rfl rfl (by kernel_rfl) (fun _ _ _ h => h) (Or.inl ⟨by rfl, ?_⟩) hHeld ?_ ?_
     rotate_left
     · rintro w' ⟨y2, g0, g1, g2⟩
       go_simp
       try with_reducible rfl
     rotate_left
     · simp only [Act.put, sA, sB, sC]
       rfl
     refine pure_ (i := 17) (N := some 57) (v := ?_) (a' := ?_) #[true,true,true,true,true,true,true,false,false,true,true,true,true,true,true,false,false,true,false,false,false,false,false,false,false,false] rfl rfl (by kernel_rfl) (fun _ _ _ h => h) (Or.inl ⟨by rfl, ?_⟩) ?_ ?_
     rotate_left
     · intro w'
       go_simp
       try with_reducible rfl
     rotate_left
     · simp only [Act.put, sA, sB, sC]
       rfl
     refine take_ (i := 18) (N := some 58) (v := ?_) (a' := ?_) #[true,true,true,true,true,true,true,false,false,true,true,true,true,true,true,false,false,true,true,false,false,false,false,false,false,false] rfl rfl (by kernel_rfl) (fun _ _ _ h => h) (Or.inl ⟨by rfl, ?_⟩) hHeld ?_ ?_
     rotate_left
     · rintro w' ⟨y2, g0, g1, g2⟩
       go_simp
       try with_reducible rfl
     rotate_left
     · simp only [Act.put, sA, sB, sC]
       rfl
     refine pure_ (i := 19) (N := some 59) (v := ?_) (a' := ?_) #[true,true,true,true,true,true,true,false,false,true,true,true,true,true,true,false,false,true,true,true,false,false,false,false,false,false] rfl rfl (by kernel_rfl) (fun _ _ _ h => h) (Or.inl ⟨by rfl, ?_⟩) ?_ ?_
     rotate_left
     · intro w'
       go_simp
       try with_reducible rfl
     rotate_left
     · simp only [Act.put, sA, sB, sC]
       rfl
     refine pure_ (i := 20) (N := some 60) (v := ?_) (a' := ?_) #[true,true,true,true,true,true,true,false,false,true,true,true,true,true,true,false,false,true,true,true,true,false,false,false,false,false] rfl rfl (by kernel_rfl) (fun _ _ _ h => h) (Or.inl ⟨by rfl, ?_⟩) ?_ ?_
     rotate_left
     · intro w'
       go_simp
       try with_reducible rfl
     rotate_left
     · simp only [Act.put, sA, sB, sC]
       rfl
     refine pure_ (i := 21) (N := some 61) (v := ?_) (a' := ?_) #[true,true,true,true,true,true,true,false,false,true,true,true,true,true,true,false,false,true,true,true,true,true,false,false,false,false] rfl rfl (by kernel_rfl) (fun _ _ _ h => h) (Or.inl ⟨by rfl, ?_⟩) ?_ ?_
     rotate_left
     · intro w'
       go_simp
       try with_reducible rfl
     rotate_left
     · simp only [Act.put, sA, sB, sC]
       rfl
     refine take_ (i := 22) (N := some 62) (v := ?_) (a' := ?_) #[true,true,true,true,true,true,true,false,false,true,true,true,true,true,true,false,false,true,true,true,true,true,true,false,false,false] rfl rfl (by kernel_rfl) (fun _ _ _ h => h) (Or.inl ⟨by rfl, ?_⟩) hHeld ?_ ?_
     rotate_left
     · rintro w' ⟨y2, g0, g1, g2⟩
       go_simp
       try with_reducible rfl
     rotate_left
     · simp only [Act.put, sA, sB, sC]
       rfl
     refine one_ (i := 7) (N := some 47) #[true,true,true,true,true,true,true,true,false,true,true,true,true,true,true,false,false,true,true,true,true,true,true,false,false,false] rfl rfl (by kernel_rfl) (by decide) (fun K hK => ?_)
     go_simp
     refine (rputc x.f0 HRX.out.1 _ EX0.out).mono ?_; rintro r w27 ⟨rfl, hw⟩; replace HH := Aside0.mk (HH.out.below hw); clear hw
     refine hK.out _ _ ?_ (fun hHeld => ?_)
     · exact ⟨HH.out.hp.box.2.2.1, Rd.third HH.out.hr hlt HEL.out⟩
     clear hK K
     try simp only [Act.put, sA, sB, sC]
     refine pure_ (i := 8) (N := some 48) (v := ?_) (a' := ?_) #[true,true,true,true,true,true,true,true,true,true,true,true,true,true,true,false,false,true,true,true,true,true,true,false,false,false] rfl rfl (by kernel_rfl) (fun _ _ _ h => h) (Or.inl ⟨by rfl, ?_⟩) ?_ ?_
     rotate_left
     · intro w'
       go_simp
       try with_reducible rfl
     rotate_left
     · simp only [Act.put, sA, sB, sC]
       rfl
     refine one_ (i := 15) (N := some 55) #[true,true,true,true,true,true,true,true,true,true,true,true,true,true,true,true,false,true,true,true,true,true,true,false,false,false] rfl rfl (by kernel_rfl) (by decide) (fun K hK => ?_)
     go_simp
     refine (rputc x.f1 HRX.out.2.1 _ EX1.out).mono ?_; rintro r w35 ⟨rfl, hw⟩; replace HH := Aside0.mk (HH.out.below hw); clear hw
     refine hK.out _ _ ?_ (fun hHeld => ?_)
     · exact ⟨HH.out.hp.box.2.2.1, Rd.third HH.out.hr hlt HEL.out⟩
     clear hK K
     try simp only [Act.put, sA, sB, sC]
     refine pure_ (i := 16) (N := some 56) (v := ?_) (a' := ?_) #[true,true,true,true,true,true,true,true,true,true,true,true,true,true,true,true,true,true,true,true,true,true,true,false,false,false] rfl rfl (by kernel_rfl) (fun _ _ _ h => h) (Or.inl ⟨by rfl, ?_⟩) ?_ ?_
     rotate_left
     · intro w'
       go_simp
       try with_reducible rfl
     rotate_left
     · simp only [Act.put, sA, sB, sC]
       rfl
     refine one_ (i := 23) (N := some 63) #[true,true,true,true,true,true,true,true,true,true,true,true,true,true,true,true,true,true,true,true,true,true,true,true,false,false] rfl rfl (by kernel_rfl) (by decide) (fun K hK => ?_)
     go_simp
     refine (rtxtc x.f2 HRX.out.2.2 _ EX2.out).mono ?_; rintro r w43 ⟨rfl, hw⟩; replace HH := Aside0.mk (HH.out.below hw); clear hw
     refine hK.out _ _ ?_ (fun hHeld => ?_)
     · exact ⟨HH.out.hp.box.2.2.1, Rd.third HH.out.hr hlt HEL.out⟩
     clear hK K
     try simp only [Act.put, sA, sB, sC]
     refine pure_ (i := 24) (N := some 64) (v := ?_) (a' := ?_) #[true,true,true,true,true,true,true,true,true,true,true,true,true,true,true,true,true,true,true,true,true,true,true,true,true,false] rfl rfl (by kernel_rfl) (fun _ _ _ h => h) (Or.inl ⟨by rfl, ?_⟩) ?_ ?_
     rotate_left
     · intro w'
       go_simp
       try with_reducible rfl
     rotate_left
     · simp only [Act.put, sA, sB, sC]
       rfl
     refine pure_ (i := 25) (N := some 4) (v := ?_) (a' := ?_) #[true,true,true,true,true,true,true,true,true,true,true,true,true,true,true,true,true,true,true,true,true,true,true,true,true,true] rfl rfl (by kernel_rfl) (fun _ _ _ h => h) (Or.inl ⟨by rfl, ?_⟩) ?_ ?_
     rotate_left
     · intro w'
       go_simp
       try with_reducible rfl
     rotate_left
     · simp only [Act.put, sA, sB, sC]
       rfl
     refine done_ (by kernel_rfl) ?_
     have hq : ((S' ++ X0) ++ X1) ++ X2 = entB true x S' := by unfold entB; rw [if_pos rfl, EX0.out, EX1.out, EX2.out, apA (S' ++ X0)]
     have hq2 : (((S' ++ X0) ++ X1) ++ X2).size ≤ 1000 + 67 * (k + 1) := by simp only [app_size]; have := HS.out; have := ZX1.out; have := ZX2.out; have := HK.out.1; have := ZX0.out; omega
     rw [hq] at hq2
     have HQ := Aside0.mk hq2
     have HQE := Aside0.mk hq
     clear hq hq2
     go_wp2_with fail
     go_roundw
     case rel => exact ⟨k + 1, by omega, by go_num, ⟨entB true x S', by rw [HEQ.out, entsB_drop _ _ hlt, HEL.out], HQ.out, HH.out, by rw [← HQE.out]⟩⟩
     case measure => simp [intOf]; omega
   · have d1 : decide ((k : Int) < (p.l.length : Int)) = false := decide_eq_false (by omega)
     have d2 : decide (k < p.l.length) = false := decide_eq_false hlt
     have hX : S' = X := by rw [HEQ.out, List.drop_of_length_le (by omega)]; rfl
     clear HEQ
     subst hX
     obtain ⟨y0, y1, y2, y3, y4, y5, y6, y7, y8, y9⟩ := HH.out.hp.box
     go_wp2_with fail
     clear y0 y1 y2 y3 y4 y5 y6 y7 y8 y9
     exact fw_7 p A c n0 S' w wr C7 HC7.out _ _ _ _ _ _ _ _ _ _ _ _ _ _ _ _ _ _ _ _ _ _ _ _ _ _ _ _ _ _ _ _ _ _ _ _ _ _ _ _ _ _ _ _ _ _ _ _ _ _ _ _ _ _ _ _ _ _ _ _ _ _ _ HH.out
set_option maxHeartbeats 4000000 in
set_option maxRecDepth 100000 in
theorem fw_5 (p : Prt) (A : Option Addr) (c n0 : Nat) (X : ByteArray) (w W : World) (C : Code) (hC : (match Try.f33.body with | some (.seq _ (.seq _ (.seq _ (.seq _ (.seq _ c))))) => c | _ => .skip) = C) (u0 u5 u6 u7 u8 u9 u10 u11 u12 u13 u14 u15 u16 u17 u18 u19 u20 u21 u22 u23 u24 u25 u26 u27 u28 u29 u30 u31 u32 u33 u34 u35 u36 u37 u38 u39 u40 u41 u42 u43 u44 u45 u46 u47 u48 u49 u50 u51 u52 u53 u54 u55 u56 u57 u58 u59 u60 u61 u62 u63 u64 u65 : Value) (f : Nat) (T : ByteArray) (hh : BCz p A c n0 w W) (hlen : p.l.length ≤ 6) (hent : ∀ i, i < p.l.length → isE (el p.l i) = true) (hnum : ∀ o, 0 ≤ getA p o ∧ getA p o ≤ 1099511627776) (hf : f ≤ 3) (hT : T.size ≤ 45) (hX : entsB true p.l ((putS f ++ T) ++ putS p.l.length) = X) :
  C.wp Try.prog (bodyPost Try.prog Try.f33 (fun r w' => r = .returned (.string X) ∧ Below w.heap.size w w')) { tmps := #[u0, .pointer (some ⟨n0, 0, none⟩), .string ⟨#[]⟩, .int .i64 (f : Int), .string T, u5, u6, u7, u8, u9, u10, u11, u12, u13, u14, u15, u16, u17, u18, u19, u20, u21, u22, u23, u24, u25, u26, u27, u28, u29, u30, u31, u32, u33, u34, u35, u36, u37, u38, u39, u40, u41, u42, u43, u44, u45, u46, u47, u48, u49, u50, u51, u52, u53, u54, u55, u56, u57, u58, u59, u60, u61, u62, u63, u64, u65], defers := [] } W := by
 have HH := Aside0.mk hh
 clear hh
 simp only [Try.f33] at hC
 subst hC
 have HK := Aside0.mk (And.intro hlen (And.intro hent hnum))
 obtain ⟨X0, hX0⟩ : ∃ Y, putS ((f : Int)).toNat = Y := ⟨_, rfl⟩
 have EX0 := Aside0.mk hX0
 have ZX0 : Aside0 (X0.size ≤ 9) := ⟨by rw [← hX0]; exact putS_le (by omega)⟩
 clear hX0
 obtain ⟨X1, hX1⟩ : ∃ Y, putS ((p.l.length : Int)).toNat = Y := ⟨_, rfl⟩
 have EX1 := Aside0.mk hX1
 have ZX1 : Aside0 (X1.size ≤ 9) := ⟨by rw [← hX1]; exact putS_le (by omega)⟩
 clear hX1
 have HX : Aside0 (entsB true p.l ((X0 ++ T) ++ X1) = X) := ⟨by rw [← EX0.out, ← EX1.out, Int.toNat_natCast, Int.toNat_natCast]; exact hX⟩
 have HT := Aside0.mk hT
 have HF := Aside0.mk hf
 have hs0 : (9223372036854775807 < X0.size + T.size) = False := eq_false (by have := ZX0.out; omega)
 have hs1 : (9223372036854775807 < (X0 ++ T).size + X1.size) = False := eq_false (by rw [app_size]; have := ZX0.out; have := ZX1.out; omega)
 have hs2 : (9223372036854775807 < X0.size + T.size + X1.size) = False := eq_false (by have := ZX0.out; have := ZX1.out; omega)
 clear hlen hent hnum hX hT hf
 obtain ⟨C6, hC6⟩ : ∃ C, (match Try.f33.body with | some (.seq _ (.seq _ (.seq _ (.seq _ (.seq _ (.seq _ c)))))) => c | _ => .skip) = C := ⟨_, rfl⟩
 have HC6 := Aside0.mk hC6
 simp only [Try.f33] at hC6
 rw [hC6]
 clear hC6
 go_wp2_with fail
 replace HH := Aside0.mk HH.out.drew
 refine start_ (n := 10) (S := (fun w' => w'.cell? ⟨n0, 2, none⟩ = some (.slice A p.l.length c))) (ds := []) #[false,false,false,false,false,false,false,false,false,false] (by kernel_rfl) rfl rfl HH.out.hp.box.2.2.1 (fun hHeld => ?_)
 obtain ⟨W9, hW⟩ : ∃ X, W.drew = X := ⟨_, rfl⟩
 rw [hW] at hHeld HH ⊢
 clear hW
 refine pure_ (i := 0) (N := some 24) (v := ?_) (a' := ?_) #[true,false,false,false,false,false,false,false,false,false] rfl rfl (by kernel_rfl) (fun _ _ _ h => h) (Or.inl ⟨by rfl, ?_⟩) ?_ ?_
 rotate_left
 · intro w'
   go_simp
   try with_reducible rfl
 rotate_left
 · simp only [Act.put, sA, sB, sC]
   rfl
 refine pure_ (i := 2) (N := some 26) (v := ?_) (a' := ?_) #[true,false,true,false,false,false,false,false,false,false] rfl rfl (by kernel_rfl) (fun _ _ _ h => h) (Or.inl ⟨by rfl, ?_⟩) ?_ ?_
 rotate_left
 · intro w'
   go_simp
   try with_reducible rfl
 rotate_left
 · simp only [Act.put, sA, sB, sC]
   rfl
 refine pure_ (i := 4) (N := some 28) (v := ?_) (a' := ?_) #[true,false,true,false,true,false,false,false,false,false] rfl rfl (by kernel_rfl) (fun _ _ _ h => h) (Or.inl ⟨by rfl, ?_⟩) ?_ ?_
 rotate_left
 · intro w'
   go_simp
   try with_reducible rfl
 rotate_left
 · simp only [Act.put, sA, sB, sC]
   rfl
 refine take_ (i := 5) (N := some 29) (v := ?_) (a' := ?_) #[true,false,true,false,true,true,false,false,false,false] rfl rfl (by kernel_rfl) (fun _ _ _ h => h) (Or.inl ⟨by rfl, ?_⟩) hHeld ?_ ?_
 rotate_left
 · rintro w' y2
   go_simp
   try with_reducible rfl
 rotate_left
 · simp only [Act.put, sA, sB, sC]
   rfl
 refine pure_ (i := 6) (N := some 30) (v := ?_) (a' := ?_) #[true,false,true,false,true,true,true,false,false,false] rfl rfl (by kernel_rfl) (fun _ _ _ h => h) (Or.inl ⟨by rfl, ?_⟩) ?_ ?_
 rotate_left
 · intro w'
   go_simp
   try with_reducible rfl
 rotate_left
 · simp only [Act.put, sA, sB, sC]
   rfl
 refine one_ (i := 1) (N := some 25) #[true,true,true,false,true,true,true,false,false,false] rfl rfl (by kernel_rfl) (by decide) (fun K hK => ?_)
 go_simp
 refine (rputc (f : Int) (by have := HF.out; omega) _ EX0.out).mono ?_; rintro r w20 ⟨rfl, hw⟩; replace HH := Aside0.mk (HH.out.below hw); clear hw
 refine hK.out _ _ ?_ (fun hHeld => ?_)
 · exact HH.out.hp.box.2.2.1
 clear hK K
 try simp only [Act.put, sA, sB, sC]
 refine pure_ (i := 3) (N := some 27) (v := ?_) (a' := ?_) #[true,true,true,true,true,true,true,false,false,false] rfl rfl (by kernel_rfl) (fun _ _ _ h => h) (Or.inl ⟨by rfl, ?_⟩) ?_ ?_
 rotate_left
 · intro w'
   go_simp
   try with_reducible rfl
 rotate_left
 · simp only [Act.put, sA, sB, sC]
   rfl
 refine one_ (i := 7) (N := some 31) #[true,true,true,true,true,true,true,true,false,false] rfl rfl (by kernel_rfl) (by decide) (fun K hK => ?_)
 go_simp
 refine (rputc (p.l.length : Int) (by have := HK.out.1; omega) _ EX1.out).mono ?_; rintro r w21 ⟨rfl, hw⟩; replace HH := Aside0.mk (HH.out.below hw); clear hw
 refine hK.out _ _ ?_ (fun hHeld => ?_)
 · exact HH.out.hp.box.2.2.1
 clear hK K
 try simp only [Act.put, sA, sB, sC]
 refine pure_ (i := 8) (N := some 32) (v := ?_) (a' := ?_) #[true,true,true,true,true,true,true,true,true,false] rfl rfl (by kernel_rfl) (fun _ _ _ h => h) (Or.inl ⟨by rfl, ?_⟩) ?_ ?_
 rotate_left
 · intro w'
   go_simp
   try with_reducible rfl
 rotate_left
 · simp only [Act.put, sA, sB, sC]
   rfl
 refine pure_ (i := 9) (N := some 4) (v := ?_) (a' := ?_) #[true,true,true,true,true,true,true,true,true,true] rfl rfl (by kernel_rfl) (fun _ _ _ h => h) (Or.inl ⟨by rfl, ?_⟩) ?_ ?_
 rotate_left
 · intro w'
   go_simp
   try with_reducible rfl
 rotate_left
 · simp only [Act.put, sA, sB, sC]
   rfl
 refine done_ (by kernel_rfl) ?_
 go_wp2_with fail
 exact fw_6 p A c n0 X w w21 C6 HC6.out _ _ _ _ _ _ _ _ _ _ _ _ _ _ _ _ _ _ _ _ _ _ _ _ _ _ _ _ _ _ _ _ _ _ _ _ _ _ _ _ _ _ _ _ _ _ _ _ _ _ _ _ _ _ _ _ _ _ _ _ _ _ _ ((X0 ++ T) ++ X1) HH.out HK.out.1 HK.out.2.1 HK.out.2.2 (by rw [app_size, app_size]; have := ZX0.out; have := ZX1.out; have := HT.out; omega) HX.out
set_option maxHeartbeats 4000000 in
set_option maxRecDepth 100000 in
theorem fw_4_f (p : Prt) (A : Option Addr) (c n0 : Nat) (X : ByteArray) (w W : World) (C : Code) (hC : (match Try.f33.body with | some (.seq _ (.seq _ (.seq _ (.seq _ c)))) => c | _ => .skip) = C) (u0 u5 u6 u7 u8 u9 u10 u11 u12 u13 u14 u15 u16 u17 u18 u19 u20 u21 u22 u23 u24 u25 u26 u27 u28 u29 u30 u31 u32 u33 u34 u35 u36 u37 u38 u39 u40 u41 u42 u43 u44 u45 u46 u47 u48 u49 u50 u51 u52 u53 u54 u55 u56 u57 u58 u59 u60 u61 u62 u63 u64 u65 : Value) (f : Nat) (T : ByteArray) (hh : BCz p A c n0 w W) (hlen : p.l.length ≤ 6) (hent : ∀ i, i < p.l.length → isE (el p.l i) = true) (hnum : ∀ o, 0 ≤ getA p o ∧ getA p o ≤ 1099511627776) (hf : f ≤ 1) (hT : T.size ≤ 18) (hhed : p.hed = false) (hX : entsB true p.l ((putS (if p.hed then f + 2 else f) ++ (if p.hed then T ++ hardB p else T)) ++ putS p.l.length) = X) :
  C.wp Try.prog (bodyPost Try.prog Try.f33 (fun r w' => r = .returned (.string X) ∧ Below w.heap.size w w')) { tmps := #[u0, .pointer (some ⟨n0, 0, none⟩), .string ⟨#[]⟩, .int .i64 (f : Int), .string T, u5, u6, u7, u8, u9, u10, u11, u12, u13, u14, u15, u16, u17, u18, u19, u20, u21, u22, u23, u24, u25, u26, u27, u28, u29, u30, u31, u32, u33, u34, u35, u36, u37, u38, u39, u40, u41, u42, u43, u44, u45, u46, u47, u48, u49, u50, u51, u52, u53, u54, u55, u56, u57, u58, u59, u60, u61, u62, u63, u64, u65], defers := [] } W := by
 have HH := Aside0.mk hh
 clear hh
 simp only [Try.f33] at hC
 subst hC
 have HK := Aside0.mk (And.intro hlen (And.intro hent hnum))
 obtain ⟨C5, hC5⟩ : ∃ C, (match Try.f33.body with | some (.seq _ (.seq _ (.seq _ (.seq _ (.seq _ c))))) => c | _ => .skip) = C := ⟨_, rfl⟩
 have HC5 := Aside0.mk hC5
 simp only [Try.f33] at hC5
 rw [hC5]
 clear hC5
 have hd : p.hed = false := hhed
 rw [hd] at hX
 rw [if_neg (by decide)] at hX
 have HX := Aside0.mk hX
 have HT := Aside0.mk hT
 have HF := Aside0.mk hf
 clear hX hT hf hhed hlen hent hnum
 obtain ⟨y0, y1, y2, y3, y4, y5, y6, y7, y8, y9⟩ := HH.out.hp.box
 rw [hd] at y9
 clear hd
 go_wp2_with fail
 clear y0 y1 y2 y3 y4 y5 y6 y7 y8 y9
 exact fw_5 p A c n0 X w W C5 HC5.out _ _ _ _ _ _ _ _ _ _ _ _ _ _ _ _ _ _ _ _ _ _ _ _ _ _ _ _ _ _ _ _ _ _ _ _ _ _ _ _ _ _ _ _ _ _ _ _ _ _ _ _ _ _ _ _ _ _ _ _ _ _ f T HH.out HK.out.1 HK.out.2.1 HK.out.2.2 (by have := HF.out; omega) (by have := HT.out; omega) HX.out
set_option maxHeartbeats 4000000 in
set_option maxRecDepth 100000 in
theorem fw_4_t (p : Prt) (A : Option Addr) (c n0 : Nat) (X : ByteArray) (w W : World) (C : Code) (hC : (match Try.f33.body with | some (.seq _ (.seq _ (.seq _ (.seq _ c)))) => c | _ => .skip) = C) (u0 u5 u6 u7 u8 u9 u10 u11 u12 u13 u14 u15 u16 u17 u18 u19 u20 u21 u22 u23 u24 u25 u26 u27 u28 u29 u30 u31 u32 u33 u34 u35 u36 u37 u38 u39 u40 u41 u42 u43 u44 u45 u46 u47 u48 u49 u50 u51 u52 u53 u54 u55 u56 u57 u58 u59 u60 u61 u62 u63 u64 u65 : Value) (f : Nat) (T : ByteArray) (hh : BCz p A c n0 w W) (hlen : p.l.length ≤ 6) (hent : ∀ i, i < p.l.length → isE (el p.l i) = true) (hnum : ∀ o, 0 ≤ getA p o ∧ getA p o ≤ 1099511627776) (hf : f ≤ 1) (hT : T.size ≤ 18) (hhed : p.hed = true) (hX : entsB true p.l ((putS (if p.hed then f + 2 else f) ++ (if p.hed then T ++ hardB p else T)) ++ putS p.l.length) = X) :
  C.wp Try.prog (bodyPost Try.prog Try.f33 (fun r w' => r = .returned (.string X) ∧ Below w.heap.size w w')) { tmps := #[u0, .pointer (some ⟨n0, 0, none⟩), .string ⟨#[]⟩, .int .i64 (f : Int), .string T, u5, u6, u7, u8, u9, u10, u11, u12, u13, u14, u15, u16, u17, u18, u19, u20, u21, u22, u23, u24, u25, u26, u27, u28, u29, u30, u31, u32, u33, u34, u35, u36, u37, u38, u39, u40, u41, u42, u43, u44, u45, u46, u47, u48, u49, u50, u51, u52, u53, u54, u55, u56, u57, u58, u59, u60, u61, u62, u63, u64, u65], defers := [] } W := by
 have HH := Aside0.mk hh
 clear hh
 simp only [Try.f33] at hC
 subst hC
 have HK := Aside0.mk (And.intro hlen (And.intro hent hnum))
 obtain ⟨C5, hC5⟩ : ∃ C, (match Try.f33.body with | some (.seq _ (.seq _ (.seq _ (.seq _ (.seq _ c))))) => c | _ => .skip) = C := ⟨_, rfl⟩
 have HC5 := Aside0.mk hC5
 simp only [Try.f33] at hC5
 rw [hC5]
 clear hC5
 have hd : p.hed = true := hhed
 rw [hd] at hX
 rw [if_pos rfl] at hX
 obtain ⟨X0, hX0⟩ : ∃ Y, hardB p = Y := ⟨_, rfl⟩
 have EX0 := Aside0.mk hX0
 have ZX0 : Aside0 (X0.size ≤ 27) := ⟨by rw [← hX0]; exact hardB_le hnum⟩
 clear hX0
 rw [EX0.out] at hX
 have HX := Aside0.mk hX
 have HT := Aside0.mk hT
 have HF := Aside0.mk hf
 have hw2 : IntKind.i64.wrap ((f : Int) + 2) = ((f + 2 : Nat) : Int) := by rw [i64_w]; unfold wrap64; omega
 have hs0 : (9223372036854775807 < T.size + X0.size) = False := eq_false (by have := ZX0.out; omega)
 clear hX hT hf hhed hlen hent hnum
 obtain ⟨y0, y1, y2, y3, y4, y5, y6, y7, y8, y9⟩ := HH.out.hp.box
 rw [hd] at y9
 clear hd
 go_wp2_with fail
 go_at_call 32
 refine (rhardc p HK.out.2.2 _ EX0.out).mono ?_
 rintro r w1 ⟨rfl, hw⟩
 replace HH := Aside0.mk (HH.out.below hw)
 clear hw y0 y1 y2 y3 y4 y5 y6 y7 y8 y9
 go_wp2_with fail
 exact fw_5 p A c n0 X w w1 C5 HC5.out _ _ _ _ _ _ _ _ _ _ _ _ _ _ _ _ _ _ _ _ _ _ _ _ _ _ _ _ _ _ _ _ _ _ _ _ _ _ _ _ _ _ _ _ _ _ _ _ _ _ _ _ _ _ _ _ _ _ _ _ _ _ (f + 2) (T ++ X0) HH.out HK.out.1 HK.out.2.1 HK.out.2.2 (by have := HF.out; omega) (by rw [app_size]; have := HT.out; have := ZX0.out; omega) HX.out
theorem fw_4 (p : Prt) (A : Option Addr) (c n0 : Nat) (X : ByteArray) (w W : World) (C : Code) (hC : (match Try.f33.body with | some (.seq _ (.seq _ (.seq _ (.seq _ c)))) => c | _ => .skip) = C) (u0 u5 u6 u7 u8 u9 u10 u11 u12 u13 u14 u15 u16 u17 u18 u19 u20 u21 u22 u23 u24 u25 u26 u27 u28 u29 u30 u31 u32 u33 u34 u35 u36 u37 u38 u39 u40 u41 u42 u43 u44 u45 u46 u47 u48 u49 u50 u51 u52 u53 u54 u55 u56 u57 u58 u59 u60 u61 u62 u63 u64 u65 : Value) (f : Nat) (T : ByteArray) (hh : BCz p A c n0 w W) (hlen : p.l.length ≤ 6) (hent : ∀ i, i < p.l.length → isE (el p.l i) = true) (hnum : ∀ o, 0 ≤ getA p o ∧ getA p o ≤ 1099511627776) (hf : f ≤ 1) (hT : T.size ≤ 18) (hX : entsB true p.l ((putS (if p.hed then f + 2 else f) ++ (if p.hed then T ++ hardB p else T)) ++ putS p.l.length) = X) : C.wp Try.prog (bodyPost Try.prog Try.f33 (fun r w' => r = .returned (.string X) ∧ Below w.heap.size w w')) { tmps := #[u0, .pointer (some ⟨n0, 0, none⟩), .string ⟨#[]⟩, .int .i64 (f : Int), .string T, u5, u6, u7, u8, u9, u10, u11, u12, u13, u14, u15, u16, u17, u18, u19, u20, u21, u22, u23, u24, u25, u26, u27, u28, u29, u30, u31, u32, u33, u34, u35, u36, u37, u38, u39, u40, u41, u42, u43, u44, u45, u46, u47, u48, u49, u50, u51, u52, u53, u54, u55, u56, u57, u58, u59, u60, u61, u62, u63, u64, u65], defers := [] } W := by
  cases h : p.hed
  · exact fw_4_f p A c n0 X w W C hC u0 u5 u6 u7 u8 u9 u10 u11 u12 u13 u14 u15 u16 u17 u18 u19 u20 u21 u22 u23 u24 u25 u26 u27 u28 u29 u30 u31 u32 u33 u34 u35 u36 u37 u38 u39 u40 u41 u42 u43 u44 u45 u46 u47 u48 u49 u50 u51 u52 u53 u54 u55 u56 u57 u58 u59 u60 u61 u62 u63 u64 u65 f T hh hlen hent hnum hf hT h hX
  · exact fw_4_t p A c n0 X w W C hC u0 u5 u6 u7 u8 u9 u10 u11 u12 u13 u14 u15 u16 u17 u18 u19 u20 u21 u22 u23 u24 u25 u26 u27 u28 u29 u30 u31 u32 u33 u34 u35 u36 u37 u38 u39 u40 u41 u42 u43 u44 u45 u46 u47 u48 u49 u50 u51 u52 u53 u54 u55 u56 u57 u58 u59 u60 u61 u62 u63 u64 u65 f T hh hlen hent hnum hf hT h hX
set_option maxHeartbeats 4000000 in
set_option maxRecDepth 100000 in
theorem fw_3_f (p : Prt) (A : Option Addr) (c n0 : Nat) (X : ByteArray) (w W : World) (C : Code) (hC : (match Try.f33.body with | some (.seq _ (.seq _ (.seq _ c))) => c | _ => .skip) = C) (u0 u5 u6 u7 u8 u9 u10 u11 u12 u13 u14 u15 u16 u17 u18 u19 u20 u21 u22 u23 u24 u25 u26 u27 u28 u29 u30 u31 u32 u33 u34 u35 u36 u37 u38 u39 u40 u41 u42 u43 u44 u45 u46 u47 u48 u49 u50 u51 u52 u53 u54 u55 u56 u57 u58 u59 u60 u61 u62 u63 u64 u65 : Value) (hh : BCz p A c n0 w W) (hlen : p.l.length ≤ 6) (hent : ∀ i, i < p.l.length → isE (el p.l i) = true) (hnum : ∀ o, 0 ≤ getA p o ∧ getA p o ≤ 1099511627776) (hmrk : p.mrk = false) (hX : fwdB p = X) :
  C.wp Try.prog (bodyPost Try.prog Try.f33 (fun r w' => r = .returned (.string X) ∧ Below w.heap.size w w')) { tmps := #[u0, .pointer (some ⟨n0, 0, none⟩), .string ⟨#[]⟩, .int .i64 0, .string ⟨#[]⟩, u5, u6, u7, u8, u9, u10, u11, u12, u13, u14, u15, u16, u17, u18, u19, u20, u21, u22, u23, u24, u25, u26, u27, u28, u29, u30, u31, u32, u33, u34, u35, u36, u37, u38, u39, u40, u41, u42, u43, u44, u45, u46, u47, u48, u49, u50, u51, u52, u53, u54, u55, u56, u57, u58, u59, u60, u61, u62, u63, u64, u65], defers := [] } W := by
 have HH := Aside0.mk hh
 clear hh
 simp only [Try.f33] at hC
 subst hC
 have HK := Aside0.mk (And.intro hlen (And.intro hent hnum))
 obtain ⟨C4, hC4⟩ : ∃ C, (match Try.f33.body with | some (.seq _ (.seq _ (.seq _ (.seq _ c)))) => c | _ => .skip) = C := ⟨_, rfl⟩
 have HC4 := Aside0.mk hC4
 simp only [Try.f33] at hC4
 rw [hC4]
 clear hC4
 have hm : p.mrk = false := hmrk
 unfold fwdB at hX
 have hfl : flagN p = (if p.hed then 0 + 2 else 0) := by unfold flagN; rw [hm]; cases p.hed <;> rfl
 rw [show markB p = ⟨#[]⟩ by unfold markB; rw [hm]; rfl, hfl] at hX
 have HX := Aside0.mk hX
 clear hX hmrk hlen hent hnum hfl
 obtain ⟨y0, y1, y2, y3, y4, y5, y6, y7, y8, y9⟩ := HH.out.hp.box
 rw [hm] at y8
 clear hm
 go_wp2_with fail
 clear y0 y1 y2 y3 y4 y5 y6 y7 y8 y9
 exact fw_4 p A c n0 X w W C4 HC4.out _ _ _ _ _ _ _ _ _ _ _ _ _ _ _ _ _ _ _ _ _ _ _ _ _ _ _ _ _ _ _ _ _ _ _ _ _ _ _ _ _ _ _ _ _ _ _ _ _ _ _ _ _ _ _ _ _ _ _ _ _ _ 0 ⟨#[]⟩ HH.out HK.out.1 HK.out.2.1 HK.out.2.2 (by omega) (by decide) HX.out
set_option maxHeartbeats 4000000 in
set_option maxRecDepth 100000 in
theorem fw_3_t (p : Prt) (A : Option Addr) (c n0 : Nat) (X : ByteArray) (w W : World) (C : Code) (hC : (match Try.f33.body with | some (.seq _ (.seq _ (.seq _ c))) => c | _ => .skip) = C) (u0 u5 u6 u7 u8 u9 u10 u11 u12 u13 u14 u15 u16 u17 u18 u19 u20 u21 u22 u23 u24 u25 u26 u27 u28 u29 u30 u31 u32 u33 u34 u35 u36 u37 u38 u39 u40 u41 u42 u43 u44 u45 u46 u47 u48 u49 u50 u51 u52 u53 u54 u55 u56 u57 u58 u59 u60 u61 u62 u63 u64 u65 : Value) (hh : BCz p A c n0 w W) (hlen : p.l.length ≤ 6) (hent : ∀ i, i < p.l.length → isE (el p.l i) = true) (hnum : ∀ o, 0 ≤ getA p o ∧ getA p o ≤ 1099511627776) (hmrk : p.mrk = true) (hX : fwdB p = X) :
  C.wp Try.prog (bodyPost Try.prog Try.f33 (fun r w' => r = .returned (.string X) ∧ Below w.heap.size w w')) { tmps := #[u0, .pointer (some ⟨n0, 0, none⟩), .string ⟨#[]⟩, .int .i64 0, .string ⟨#[]⟩, u5, u6, u7, u8, u9, u10, u11, u12, u13, u14, u15, u16, u17, u18, u19, u20, u21, u22, u23, u24, u25, u26, u27, u28, u29, u30, u31, u32, u33, u34, u35, u36, u37, u38, u39, u40, u41, u42, u43, u44, u45, u46, u47, u48, u49, u50, u51, u52, u53, u54, u55, u56, u57, u58, u59, u60, u61, u62, u63, u64, u65], defers := [] } W := by
 have HH := Aside0.mk hh
 clear hh
 simp only [Try.f33] at hC
 subst hC
 have HK := Aside0.mk (And.intro hlen (And.intro hent hnum))
 obtain ⟨C4, hC4⟩ : ∃ C, (match Try.f33.body with | some (.seq _ (.seq _ (.seq _ (.seq _ c)))) => c | _ => .skip) = C := ⟨_, rfl⟩
 have HC4 := Aside0.mk hC4
 simp only [Try.f33] at hC4
 rw [hC4]
 clear hC4
 have hm : p.mrk = true := hmrk
 obtain ⟨X0, hX0⟩ : ∃ Y, putS p.ix.toNat = Y := ⟨_, rfl⟩
 have EX0 := Aside0.mk hX0
 have ZX0 : Aside0 (X0.size ≤ 9) := ⟨by rw [← hX0]; exact putS_le (hnum 6)⟩
 clear hX0
 obtain ⟨X1, hX1⟩ : ∃ Y, putS p.tm.toNat = Y := ⟨_, rfl⟩
 have EX1 := Aside0.mk hX1
 have ZX1 : Aside0 (X1.size ≤ 9) := ⟨by rw [← hX1]; exact putS_le (hnum 7)⟩
 clear hX1
 unfold fwdB at hX
 have hfl : flagN p = (if p.hed then 1 + 2 else 1) := by unfold flagN; rw [hm]; cases p.hed <;> rfl
 rw [show markB p = X0 ++ X1 by unfold markB; rw [hm, if_pos rfl, EX0.out, EX1.out], hfl] at hX
 have HX := Aside0.mk hX
 have HR6 := Aside0.mk (And.intro (hnum 6) (hnum 7))
 have hs0 : (9223372036854775807 < X0.size + X1.size) = False := eq_false (by have := ZX0.out; have := ZX1.out; omega)
 clear hX hmrk hlen hent hnum hfl
 obtain ⟨y0, y1, y2, y3, y4, y5, y6, y7, y8, y9⟩ := HH.out.hp.box
 rw [hm] at y8
 clear hm
 go_wp2_with fail
 clear y0 y1 y2 y3 y4 y5 y6 y7 y8 y9
 replace HH := Aside0.mk HH.out.drew
 refine start_ (n := 8) (S := (fun w' => w'.cell? ⟨n0, 6, none⟩ = some (.int .i64 p.ix) ∧ w'.cell? ⟨n0, 7, none⟩ = some (.int .i64 p.tm))) (ds := []) #[false,false,false,false,false,false,false,false] (by kernel_rfl) rfl rfl ⟨HH.out.hp.box.2.2.2.2.2.2.1, HH.out.hp.box.2.2.2.2.2.2.2.1⟩ (fun hHeld => ?_)
 obtain ⟨W9, hW⟩ : ∃ X, W.drew = X := ⟨_, rfl⟩
 rw [hW] at hHeld HH ⊢
 clear hW
 refine pure_ (i := 0) (N := some 8) (v := ?_) (a' := ?_) #[true,false,false,false,false,false,false,false] rfl rfl (by kernel_rfl) (fun _ _ _ h => h) (Or.inl ⟨by rfl, ?_⟩) ?_ ?_
 rotate_left
 · intro w'
   go_simp
   try with_reducible rfl
 rotate_left
 · simp only [Act.put, sA, sB, sC]
   rfl
 refine take_ (i := 1) (N := some 9) (v := ?_) (a' := ?_) #[true,true,false,false,false,false,false,false] rfl rfl (by kernel_rfl) (fun _ _ _ h => h) (Or.inl ⟨by rfl, ?_⟩) hHeld ?_ ?_
 rotate_left
 · rintro w' ⟨y6, y7⟩
   go_simp
   try with_reducible rfl
 rotate_left
 · simp only [Act.put, sA, sB, sC]
   rfl
 refine pure_ (i := 3) (N := some 11) (v := ?_) (a' := ?_) #[true,true,false,true,false,false,false,false] rfl rfl (by kernel_rfl) (fun _ _ _ h => h) (Or.inl ⟨by rfl, ?_⟩) ?_ ?_
 rotate_left
 · intro w'
   go_simp
   try with_reducible rfl
 rotate_left
 · simp only [Act.put, sA, sB, sC]
   rfl
 refine take_ (i := 4) (N := some 12) (v := ?_) (a' := ?_) #[true,true,false,true,true,false,false,false] rfl rfl (by kernel_rfl) (fun _ _ _ h => h) (Or.inl ⟨by rfl, ?_⟩) hHeld ?_ ?_
 rotate_left
 · rintro w' ⟨y6, y7⟩
   go_simp
   try with_reducible rfl
 rotate_left
 · simp only [Act.put, sA, sB, sC]
   rfl
 refine one_ (i := 2) (N := some 10) #[true,true,true,true,true,false,false,false] rfl rfl (by kernel_rfl) (by decide) (fun K hK => ?_)
 go_simp
 refine (rputc p.ix HR6.out.1 _ EX0.out).mono ?_; rintro r w20 ⟨rfl, hw⟩; replace HH := Aside0.mk (HH.out.below hw); clear hw
 refine hK.out _ _ ?_ (fun hHeld => ?_)
 · exact ⟨HH.out.hp.box.2.2.2.2.2.2.1, HH.out.hp.box.2.2.2.2.2.2.2.1⟩
 clear hK K
 try simp only [Act.put, sA, sB, sC]
 refine one_ (i := 5) (N := some 13) #[true,true,true,true,true,true,false,false] rfl rfl (by kernel_rfl) (by decide) (fun K hK => ?_)
 go_simp
 refine (rputc p.tm HR6.out.2 _ EX1.out).mono ?_; rintro r w21 ⟨rfl, hw⟩; replace HH := Aside0.mk (HH.out.below hw); clear hw
 refine hK.out _ _ ?_ (fun hHeld => ?_)
 · exact ⟨HH.out.hp.box.2.2.2.2.2.2.1, HH.out.hp.box.2.2.2.2.2.2.2.1⟩
 clear hK K
 try simp only [Act.put, sA, sB, sC]
 refine pure_ (i := 6) (N := some 14) (v := ?_) (a' := ?_) #[true,true,true,true,true,true,true,false] rfl rfl (by kernel_rfl) (fun _ _ _ h => h) (Or.inl ⟨by rfl, ?_⟩) ?_ ?_
 rotate_left
 · intro w'
   go_simp
   try with_reducible rfl
 rotate_left
 · simp only [Act.put, sA, sB, sC]
   rfl
 refine pure_ (i := 7) (N := some 4) (v := ?_) (a' := ?_) #[true,true,true,true,true,true,true,true] rfl rfl (by kernel_rfl) (fun _ _ _ h => h) (Or.inl ⟨by rfl, ?_⟩) ?_ ?_
 rotate_left
 · intro w'
   go_simp
   try with_reducible rfl
 rotate_left
 · simp only [Act.put, sA, sB, sC]
   rfl
 refine done_ (by kernel_rfl) ?_
 go_wp2_with fail
 exact fw_4 p A c n0 X w w21 C4 HC4.out _ _ _ _ _ _ _ _ _ _ _ _ _ _ _ _ _ _ _ _ _ _ _ _ _ _ _ _ _ _ _ _ _ _ _ _ _ _ _ _ _ _ _ _ _ _ _ _ _ _ _ _ _ _ _ _ _ _ _ _ _ _ 1 (X0 ++ X1) HH.out HK.out.1 HK.out.2.1 HK.out.2.2 (by omega) (by rw [app_size]; have := ZX0.out; have := ZX1.out; omega) HX.out
set_option maxHeartbeats 4000000 in
set_option maxRecDepth 100000 in
theorem fwd_c_f (p : Prt) (A : Option Addr) (c : Nat) (w : World) (h : Rd w A c p.l) (hlen : p.l.length ≤ 6) (hent : ∀ i, i < p.l.length → isE (el p.l i) = true) (hnum : ∀ o, 0 ≤ getA p o ∧ getA p o ≤ 1099511627776) (hmrk : p.mrk = false) {X : ByteArray} (hX : fwdB p = X) :
  Calls Try.prog 33 #[vP p A c] w fun r w' => r = .returned (.string X) ∧ Below w.heap.size w w' := by
 have HK := Aside0.mk (And.intro hlen (And.intro hent hnum))
 have HM := Aside0.mk hmrk
 have HX := Aside0.mk hX
 clear hlen hent hnum hmrk hX
 have HR := Aside0.mk h
 clear h
 unfold vP
 go_enter Try.func33, Try.ntmps33
 obtain ⟨C3, hC3⟩ : ∃ C, (match Try.f33.body with | some (.seq _ (.seq _ (.seq _ c))) => c | _ => .skip) = C := ⟨_, rfl⟩
 have HC3 := Aside0.mk hC3
 simp only [Try.f33] at hC3
 rw [hC3]
 clear hC3
 go_wp2_with fail
 have h9 : BCz p A c w.heap.size w (w.alloc (.cells #[.int .i64 p.g, .int .i64 p.k, .slice A p.l.length c, .int .i64 p.ht, .int .i64 p.hv, .int .i64 p.hc, .int .i64 p.ix, .int .i64 p.tm, .bool p.mrk, .bool p.hed] 26)) := ⟨BlkP.new p A c w, HR.out.alloc _, fun q hq => HR.out.lt hq, (Below.refl _ w).alloc (Nat.le_refl _) _, Nat.le_refl _⟩
 exact fw_3_f p A c w.heap.size X w _ C3 HC3.out _ _ _ _ _ _ _ _ _ _ _ _ _ _ _ _ _ _ _ _ _ _ _ _ _ _ _ _ _ _ _ _ _ _ _ _ _ _ _ _ _ _ _ _ _ _ _ _ _ _ _ _ _ _ _ _ _ _ _ _ _ _ h9 HK.out.1 HK.out.2.1 HK.out.2.2 HM.out HX.out
set_option maxHeartbeats 4000000 in
set_option maxRecDepth 100000 in
theorem fwd_c_t (p : Prt) (A : Option Addr) (c : Nat) (w : World) (h : Rd w A c p.l) (hlen : p.l.length ≤ 6) (hent : ∀ i, i < p.l.length → isE (el p.l i) = true) (hnum : ∀ o, 0 ≤ getA p o ∧ getA p o ≤ 1099511627776) (hmrk : p.mrk = true) {X : ByteArray} (hX : fwdB p = X) :
  Calls Try.prog 33 #[vP p A c] w fun r w' => r = .returned (.string X) ∧ Below w.heap.size w w' := by
 have HK := Aside0.mk (And.intro hlen (And.intro hent hnum))
 have HM := Aside0.mk hmrk
 have HX := Aside0.mk hX
 clear hlen hent hnum hmrk hX
 have HR := Aside0.mk h
 clear h
 unfold vP
 go_enter Try.func33, Try.ntmps33
 obtain ⟨C3, hC3⟩ : ∃ C, (match Try.f33.body with | some (.seq _ (.seq _ (.seq _ c))) => c | _ => .skip) = C := ⟨_, rfl⟩
 have HC3 := Aside0.mk hC3
 simp only [Try.f33] at hC3
 rw [hC3]
 clear hC3
 go_wp2_with fail
 have h9 : BCz p A c w.heap.size w (w.alloc (.cells #[.int .i64 p.g, .int .i64 p.k, .slice A p.l.length c, .int .i64 p.ht, .int .i64 p.hv, .int .i64 p.hc, .int .i64 p.ix, .int .i64 p.tm, .bool p.mrk, .bool p.hed] 26)) := ⟨BlkP.new p A c w, HR.out.alloc _, fun q hq => HR.out.lt hq, (Below.refl _ w).alloc (Nat.le_refl _) _, Nat.le_refl _⟩
 exact fw_3_t p A c w.heap.size X w _ C3 HC3.out _ _ _ _ _ _ _ _ _ _ _ _ _ _ _ _ _ _ _ _ _ _ _ _ _ _ _ _ _ _ _ _ _ _ _ _ _ _ _ _ _ _ _ _ _ _ _ _ _ _ _ _ _ _ _ _ _ _ _ _ _ _ h9 HK.out.1 HK.out.2.1 HK.out.2.2 HM.out HX.out
theorem fwd_c (p : Prt) (A : Option Addr) (c : Nat) (w : World) (h : Rd w A c p.l) (hlen : p.l.length ≤ 6) (hent : ∀ i, i < p.l.length → isE (el p.l i) = true) (hnum : ∀ o, 0 ≤ getA p o ∧ getA p o ≤ 1099511627776) {X : ByteArray} (hX : fwdB p = X) : Calls Try.prog 33 #[vP p A c] w fun r w' => r = .returned (.string X) ∧ Below w.heap.size w w' := by
  cases hm : p.mrk
  · exact fwd_c_f p A c w h hlen hent hnum hm hX
  · exact fwd_c_t p A c w h hlen hent hnum hm hX
set_option maxHeartbeats 4000000 in
set_option maxRecDepth 100000 in
theorem pb_3 (p : Prt) (A : Option Addr) (c n0 : Nat) (X : ByteArray) (w W : World) (C : Code) (hC : (match Try.f14.body with | some (.seq _ (.seq _ (.seq _ c))) => c | _ => .skip) = C) (u0 u4 u5 u6 u7 u8 u9 u10 u11 u12 u13 u14 u15 u16 u17 u18 u19 u20 u21 u22 u23 u24 u25 u26 u27 u28 u29 u30 u31 u32 u33 u34 u35 u36 u37 u38 u39 u40 u41 u42 u43 u44 u45 u46 u47 u48 u49 u50 u51 u52 u53 u54 u55 u56 u57 u58 u59 u60 u61 u62 u63 u64 u65 u66 u67 u68 u69 u70 u71 u72 u73 u74 u75 u76 u77 u78 : Value) (hh : BCz p A c n0 w W) :
  C.wp Try.prog (bodyPost Try.prog Try.f14 (fun r w' => r = .returned (.string X) ∧ Below w.heap.size w w')) { tmps := #[u0, .pointer (some ⟨n0, 0, none⟩), .string ⟨#[]⟩, .string X, u4, u5, u6, u7, u8, u9, u10, u11, u12, u13, u14, u15, u16, u17, u18, u19, u20, u21, u22, u23, u24, u25, u26, u27, u28, u29, u30, u31, u32, u33, u34, u35, u36, u37, u38, u39, u40, u41, u42, u43, u44, u45, u46, u47, u48, u49, u50, u51, u52, u53, u54, u55, u56, u57, u58, u59, u60, u61, u62, u63, u64, u65, u66, u67, u68, u69, u70, u71, u72, u73, u74, u75, u76, u77, u78], defers := [] } W := by
 have HH := Aside0.mk hh
 clear hh
 simp only [Try.f14] at hC
 subst hC
 go_wp2_with fail
 go_ret
 exact ⟨rfl, HH.out.hb⟩
set_option maxHeartbeats 4000000 in
set_option maxRecDepth 100000 in
theorem pb_2_1 (p : Prt) (A : Option Addr) (c n0 : Nat) (X : ByteArray) (w W : World) (C : Code) (hC : (match Try.f14.body with | some (.seq _ (.seq _ c)) => c | _ => .skip) = C) (u0 u4 u5 u6 u7 u8 u9 u10 u11 u12 u13 u14 u15 u16 u17 u18 u19 u20 u21 u22 u23 u24 u25 u26 u27 u28 u29 u30 u31 u32 u33 u34 u35 u36 u37 u38 u39 u40 u41 u42 u43 u44 u45 u46 u47 u48 u49 u50 u51 u52 u53 u54 u55 u56 u57 u58 u59 u60 u61 u62 u63 u64 u65 u66 u67 u68 u69 u70 u71 u72 u73 u74 u75 u76 u77 u78 : Value) (S : ByteArray) (hh : BCz p A c n0 w W) (hlen : p.l.length ≤ 6) (hent : ∀ i, i < p.l.length → isE (el p.l i) = true) (hnum : ∀ o, 0 ≤ getA p o ∧ getA p o ≤ 1099511627776) (hsz : S.size ≤ 100) (hX : entsB false p.l ((S ++ putS p.l.length) ++ putS (el p.l 0).f0.toNat) = X) (hk : p.k = 1) (hpos : p.k = 1 → 0 < p.l.length) :
  C.wp Try.prog (bodyPost Try.prog Try.f14 (fun r w' => r = .returned (.string X) ∧ Below w.heap.size w w')) { tmps := #[u0, .pointer (some ⟨n0, 0, none⟩), .string ⟨#[]⟩, .string S, u4, u5, u6, u7, u8, u9, u10, u11, u12, u13, u14, u15, u16, u17, u18, u19, u20, u21, u22, u23, u24, u25, u26, u27, u28, u29, u30, u31, u32, u33, u34, u35, u36, u37, u38, u39, u40, u41, u42, u43, u44, u45, u46, u47, u48, u49, u50, u51, u52, u53, u54, u55, u56, u57, u58, u59, u60, u61, u62, u63, u64, u65, u66, u67, u68, u69, u70, u71, u72, u73, u74, u75, u76, u77, u78], defers := [] } W := by
 have HH := Aside0.mk hh
 clear hh
 simp only [Try.f14] at hC
 subst hC
 have HK := Aside0.mk (And.intro hlen (And.intro hent hnum))
 obtain ⟨C3, hC3⟩ : ∃ C, (match Try.f14.body with | some (.seq _ (.seq _ (.seq _ c))) => c | _ => .skip) = C := ⟨_, rfl⟩
 have HC3 := Aside0.mk hC3
 simp only [Try.f14] at hC3
 rw [hC3]
 clear hC3
 have k1 : (p.k == 1) = true := beq_iff_eq.2 hk
 have k2 : (p.k == 2) = false := beq_eq_false_iff_ne.2 (by omega)
 have k3 : (p.k == 3) = false := beq_eq_false_iff_ne.2 (by omega)
 have k4 : (p.k == 4) = false := beq_eq_false_iff_ne.2 (by omega)
 have k6 : (p.k == 6) = false := beq_eq_false_iff_ne.2 (by omega)
 have HSZ := Aside0.mk hsz
 obtain ⟨X0, hX0⟩ : ∃ Y, putS ((p.l.length : Int)).toNat = Y := ⟨_, rfl⟩
 have EX0 := Aside0.mk hX0
 have ZX0 : Aside0 (X0.size ≤ 9) := ⟨by rw [← hX0]; exact putS_le (by omega)⟩
 clear hX0
 have HPO := Aside0.mk (hpos hk)
 obtain ⟨x, hx⟩ : ∃ x, el p.l 0 = x := ⟨_, rfl⟩
 have HRX := Aside0.mk (isE_rng' (hent 0 (hpos hk)))
 rw [hx] at HRX hX
 have HEL := Aside0.mk hx
 obtain ⟨X1, hX1⟩ : ∃ Y, putS x.f0.toNat = Y := ⟨_, rfl⟩
 have EX1 := Aside0.mk hX1
 have ZX1 : Aside0 (X1.size ≤ 9) := ⟨by rw [← hX1]; exact putS_le HRX.out.1⟩
 clear hX1
 have HX : Aside0 (entsB false p.l ((S ++ X0) ++ X1) = X) := ⟨by rw [← EX0.out, ← EX1.out, Int.toNat_natCast]; exact hX⟩
 obtain ⟨ad, hA, g0, g1, g2⟩ := HH.out.hr.at_ HPO.out
 subst hA
 clear g0 g1 g2
 have hs0 : (9223372036854775807 < S.size + X0.size) = False := eq_false (by have := ZX0.out; omega)
 have hs1 : (9223372036854775807 < (S ++ X0).size + X1.size) = False := eq_false (by rw [app_size]; have := ZX0.out; have := ZX1.out; omega)
 have hs2 : (9223372036854775807 < S.size + X0.size + X1.size) = False := eq_false (by have := ZX0.out; have := ZX1.out; omega)
 have hp0 : (0 : Int) < (p.l.length : Int) := by have := HPO.out; omega
 have hp1 : 0 < p.l.length := HPO.out
 clear hk hlen hent hnum hsz hX hx hpos
 obtain ⟨y0, y1, y2, y3, y4, y5, y6, y7, y8, y9⟩ := HH.out.hp.box
 go_wp2_with fail
 clear y0 y1 y2 y3 y4 y5 y6 y7 y8 y9
 replace HH := Aside0.mk HH.out.drew
 refine start_ (n := 14) (S := (fun w' => w'.cell? ⟨n0, 2, none⟩ = some (.slice (some ad) p.l.length c) ∧ w'.cell? ad = some (.int .i64 x.f0))) (ds := []) #[false,false,false,false,false,false,false,false,false,false,false,false,false,false] (by kernel_rfl) rfl rfl ⟨HH.out.hp.box.2.2.1, Rd.first HH.out.hr HPO.out HEL.out⟩ (fun hHeld => ?_)
 obtain ⟨W9, hW⟩ : ∃ X, W.drew = X := ⟨_, rfl⟩
 rw [hW] at hHeld HH ⊢
 clear hW
 refine pure_ (i := 0) (N := some 16) (v := ?_) (a' := ?_) #[true,false,false,false,false,false,false,false,false,false,false,false,false,false] rfl rfl (by kernel_rfl) (fun _ _ _ h => h) (Or.inl ⟨by rfl, ?_⟩) ?_ ?_
 rotate_left
 · intro w'
   go_simp
   try with_reducible rfl
 rotate_left
 · simp only [Act.put, sA, sB, sC]
   rfl
 refine pure_ (i := 1) (N := some 17) (v := ?_) (a' := ?_) #[true,true,false,false,false,false,false,false,false,false,false,false,false,false] rfl rfl (by kernel_rfl) (fun _ _ _ h => h) (Or.inl ⟨by rfl, ?_⟩) ?_ ?_
 rotate_left
 · intro w'
   go_simp
   try with_reducible rfl
 rotate_left
 · simp only [Act.put, sA, sB, sC]
   rfl
 refine take_ (i := 2) (N := some 18) (v := ?_) (a' := ?_) #[true,true,true,false,false,false,false,false,false,false,false,false,false,false] rfl rfl (by kernel_rfl) (fun _ _ _ h => h) (Or.inl ⟨by rfl, ?_⟩) hHeld ?_ ?_
 rotate_left
 · rintro w' ⟨y2, g0⟩
   go_simp
   try with_reducible rfl
 rotate_left
 · simp only [Act.put, sA, sB, sC]
   rfl
 refine pure_ (i := 3) (N := some 19) (v := ?_) (a' := ?_) #[true,true,true,true,false,false,false,false,false,false,false,false,false,false] rfl rfl (by kernel_rfl) (fun _ _ _ h => h) (Or.inl ⟨by rfl, ?_⟩) ?_ ?_
 rotate_left
 · intro w'
   go_simp
   try with_reducible rfl
 rotate_left
 · simp only [Act.put, sA, sB, sC]
   rfl
 refine pure_ (i := 6) (N := some 22) (v := ?_) (a' := ?_) #[true,true,true,true,false,false,true,false,false,false,false,false,false,false] rfl rfl (by kernel_rfl) (fun _ _ _ h => h) (Or.inl ⟨by rfl, ?_⟩) ?_ ?_
 rotate_left
 · intro w'
   go_simp
   try with_reducible rfl
 rotate_left
 · simp only [Act.put, sA, sB, sC]
   rfl
 refine take_ (i := 7) (N := some 23) (v := ?_) (a' := ?_) #[true,true,true,true,false,false,true,true,false,false,false,false,false,false] rfl rfl (by kernel_rfl) (fun _ _ _ h => h) (Or.inl ⟨by rfl, ?_⟩) hHeld ?_ ?_
 rotate_left
 · rintro w' ⟨y2, g0⟩
   go_simp
   try with_reducible rfl
 rotate_left
 · simp only [Act.put, sA, sB, sC]
   rfl
 refine pure_ (i := 8) (N := some 24) (v := ?_) (a' := ?_) #[true,true,true,true,false,false,true,true,true,false,false,false,false,false] rfl rfl (by kernel_rfl) (fun _ _ _ h => h) (Or.inl ⟨by rfl, ?_⟩) ?_ ?_
 rotate_left
 · intro w'
   go_simp
   try with_reducible rfl
 rotate_left
 · simp only [Act.put, sA, sB, sC]
   rfl
 refine pure_ (i := 9) (N := some 25) (v := ?_) (a' := ?_) #[true,true,true,true,false,false,true,true,true,true,false,false,false,false] rfl rfl (by kernel_rfl) (fun _ _ _ h => h) (Or.inl ⟨by rfl, ?_⟩) ?_ ?_
 rotate_left
 · intro w'
   go_simp
   try with_reducible rfl
 rotate_left
 · simp only [Act.put, sA, sB, sC]
   rfl
 refine take_ (i := 10) (N := some 26) (v := ?_) (a' := ?_) #[true,true,true,true,false,false,true,true,true,true,true,false,false,false] rfl rfl (by kernel_rfl) (fun _ _ _ h => h) (Or.inl ⟨by rfl, ?_⟩) hHeld ?_ ?_
 rotate_left
 · rintro w' ⟨y2, g0⟩
   go_simp
   try with_reducible rfl
 rotate_left
 · simp only [Act.put, sA, sB, sC]
   rfl
 refine one_ (i := 4) (N := some 20) #[true,true,true,true,true,false,true,true,true,true,true,false,false,false] rfl rfl (by kernel_rfl) (by decide) (fun K hK => ?_)
 go_simp
 refine (rputc (p.l.length : Int) (by have := HK.out.1; omega) _ EX0.out).mono ?_; rintro r w20 ⟨rfl, hw⟩; replace HH := Aside0.mk (HH.out.below hw); clear hw
 refine hK.out _ _ ?_ (fun hHeld => ?_)
 · exact ⟨HH.out.hp.box.2.2.1, Rd.first HH.out.hr HPO.out HEL.out⟩
 clear hK K
 try simp only [Act.put, sA, sB, sC]
 refine pure_ (i := 5) (N := some 21) (v := ?_) (a' := ?_) #[true,true,true,true,true,true,true,true,true,true,true,false,false,false] rfl rfl (by kernel_rfl) (fun _ _ _ h => h) (Or.inl ⟨by rfl, ?_⟩) ?_ ?_
 rotate_left
 · intro w'
   go_simp
   try with_reducible rfl
 rotate_left
 · simp only [Act.put, sA, sB, sC]
   rfl
 refine one_ (i := 11) (N := some 27) #[true,true,true,true,true,true,true,true,true,true,true,true,false,false] rfl rfl (by kernel_rfl) (by decide) (fun K hK => ?_)
 go_simp
 refine (rputc x.f0 HRX.out.1 _ EX1.out).mono ?_; rintro r w21 ⟨rfl, hw⟩; replace HH := Aside0.mk (HH.out.below hw); clear hw
 refine hK.out _ _ ?_ (fun hHeld => ?_)
 · exact ⟨HH.out.hp.box.2.2.1, Rd.first HH.out.hr HPO.out HEL.out⟩
 clear hK K
 try simp only [Act.put, sA, sB, sC]
 refine pure_ (i := 12) (N := some 28) (v := ?_) (a' := ?_) #[true,true,true,true,true,true,true,true,true,true,true,true,true,false] rfl rfl (by kernel_rfl) (fun _ _ _ h => h) (Or.inl ⟨by rfl, ?_⟩) ?_ ?_
 rotate_left
 · intro w'
   go_simp
   try with_reducible rfl
 rotate_left
 · simp only [Act.put, sA, sB, sC]
   rfl
 refine pure_ (i := 13) (N := some 3) (v := ?_) (a' := ?_) #[true,true,true,true,true,true,true,true,true,true,true,true,true,true] rfl rfl (by kernel_rfl) (fun _ _ _ h => h) (Or.inl ⟨by rfl, ?_⟩) ?_ ?_
 rotate_left
 · intro w'
   go_simp
   try with_reducible rfl
 rotate_left
 · simp only [Act.put, sA, sB, sC]
   rfl
 refine done_ (by kernel_rfl) ?_
 obtain ⟨S1, hS1⟩ : ∃ Y, (S ++ X0) ++ X1 = Y := ⟨_, rfl⟩
 have HZ : Aside0 (S1.size ≤ 1000) := ⟨by rw [← hS1, app_size, app_size]; have := ZX0.out; have := ZX1.out; have := HSZ.out; omega⟩
 rw [hS1] at HX ⊢
 clear hS1 hs0 hs1 hs2 hp0 hp1 EX0 EX1 ZX0 ZX1 HRX HEL HSZ HPO
 have hlen6 : p.l.length ≤ 4398046511104 := by have := HK.out.1; omega
 go_wp2_with fail
 have HI1 : Aside0 (∃ S', X = entsB false (p.l.drop 0) S' ∧ S'.size ≤ 1000 + 67 * 0 ∧ BCz p (some ad) c n0 w w21 ∧ Value.string S1 = .string S') := ⟨S1, by rw [List.drop_zero]; exact HX.out.symm, by have := HZ.out; omega, HH.out, rfl⟩
 go_loopw [3, 4] (fun u v wr => ∃ k : Nat, k ≤ p.l.length ∧ v = .int .i64 (k : Int) ∧ Aside0 (∃ S', X = entsB false (p.l.drop k) S' ∧ S'.size ≤ 1000 + 67 * k ∧ BCz p (some ad) c n0 w wr ∧ u = .string S')) (fun _ v _ => p.l.length - (intOf v).toNat)
 case atStart => exact ⟨0, Nat.zero_le _, rfl, HI1⟩
 case round =>
   obtain ⟨k, hk, rfl, HI⟩ := hrel
   obtain ⟨S', hE, hs, hh, hu⟩ := HI.out
   clear HH HI HI1 HX HZ
   subst hu
   have HH := Aside0.mk hh
   have HS := Aside0.mk hs
   have HEQ := Aside0.mk hE
   clear hh hs hE
   by_cases hlt : k < p.l.length
   · have d1 : decide ((k : Int) < (p.l.length : Int)) = true := decide_eq_true (by omega)
     have d2 : decide (k < p.l.length) = true := decide_eq_true hlt
     have hk4 : IntKind.i64.wrap ((k : Int) + 1) = (k : Int) + 1 := by rw [i64_w]; unfold wrap64; omega
     have hi0 : (0 : Int) ≤ (k : Int) := by omega
     have hi1 : (k : Int) < (p.l.length : Int) := by omega
     obtain ⟨x, hx⟩ : ∃ x, el p.l k = x := ⟨_, rfl⟩
     have hE := HK.out.2.1 k hlt
     rw [hx] at hE
     have HRX := Aside0.mk (isE_rng' hE)
     have HEL := Aside0.mk hx
     clear hx hE
     obtain ⟨y0, y1, y2, y3, y4, y5, y6, y7, y8, y9⟩ := HH.out.hp.box
     go_wp2_with fail
     clear y0 y1 y2 y3 y4 y5 y6 y7 y8 y9
     obtain ⟨X1, hX1⟩ : ∃ Y, putS x.f1.toNat = Y := ⟨_, rfl⟩
     have EX1 := Aside0.mk hX1
     have ZX1 : Aside0 (X1.size ≤ 9) := ⟨by rw [← hX1]; exact putS_le HRX.out.2.1⟩
     clear hX1
     obtain ⟨X2, hX2⟩ : ∃ Y, putS x.f2.size ++ x.f2 = Y := ⟨_, rfl⟩
     have EX2 := Aside0.mk hX2
     have ZX2 : Aside0 (X2.size ≤ 49) := ⟨by rw [← hX2]; exact by rw [app_size]; have h1 := HRX.out.2.2; have := putS_leN (n := x.f2.size) (by omega); omega⟩
     clear hX2
     have hs1 : (9223372036854775807 < S'.size + X1.size) = False := eq_false (by have := HS.out; have := ZX1.out; have := ZX2.out; have := HK.out.1; omega)
     have hs2 : (9223372036854775807 < (S' ++ X1).size + X2.size) = False := eq_false (by rw [app_size]; have := HS.out; have := ZX1.out; have := ZX2.out; have := HK.out.1; omega)
     have hs4 : (9223372036854775807 < S'.size + X1.size + X2.size) = False := eq_false (by have := HS.out; have := ZX1.out; have := ZX2.out; have := HK.out.1; omega)
     replace HH := Aside0.mk HH.out.drew
     refine start_ (n := 18) (S := (fun w' => w'.cell? ⟨n0, 2, none⟩ = some (.slice (some ad) p.l.length c) ∧ (w'.cell? (ad.add (k * 3)) = some (.int .i64 x.f0) ∧ w'.cell? ⟨(ad.add (k * 3)).block, (ad.add (k * 3)).off + 1, none⟩ = some (.int .i64 x.f1) ∧ w'.cell? ⟨(ad.add (k * 3)).block, (ad.add (k * 3)).off + 2, none⟩ = some (.string x.f2)))) (ds := []) #[false,false,false,false,false,false,false,false,false,false,false,false,false,false,false,false,false,false] (by kernel_rfl) rfl rfl ⟨HH.out.hp.box.2.2.1, Rd.third HH.out.hr hlt HEL.out⟩ (fun hHeld => ?_)
     obtain ⟨W9, hW⟩ : ∃ X, wr.drew = X := ⟨_, rfl⟩
     rw [hW] at hHeld HH ⊢
     clear hW
     refine pure_ (i := 0) (N := some 36) (v := ?_) (a' := ?_) #[true,false,false,false,false,false,false,false,false,false,false,false,false,false,false,false,false,false] rfl rfl (by kernel_rfl) (fun _ _ _ h => h) (Or.inl ⟨by rfl, ?_⟩) ?_ ?_
     rotate_left
     · intro w'
       go_simp
       try with_reducible rfl
     rotate_left
     · simp only [Act.put, sA, sB, sC]
       rfl
     refine pure_ (i := 1) (N := some 37) (v := ?_) (a' := ?_) #[true,true,false,false,false,false,false,false,false,false,false,false,false,false,false,false,false,false] rfl rfl (by kernel_rfl) (fun _ _ _ h => h) (Or.inl ⟨by rfl, ?_⟩) ?_ ?_
     rotate_left
     · intro w'
       go_simp
       try with_reducible rfl
     rotate_left
     · simp only [Act.put, sA, sB, sC]
       rfl
     refine take_ (i := 2) (N := some 38) (v := ?_) (a' := ?_) #[true,true,true,false,false,false,false,false,false,false,false,false,false,false,false,false,false,false] rfl rfl (by kernel_rfl) (fun _ _ _ h => h) (Or.inl ⟨by rfl, ?_⟩) hHeld ?_ ?_
     rotate_left
     · rintro w' ⟨y2, g0, g1, g2⟩
       go_simp
       try with_reducible rfl
     rotate_left
     · simp only [Act.put, sA, sB, sC]
       rfl
     refine pure_ (i := 3) (N := some 39) (v := ?_) (a' := ?_) #[true,true,true,true,false,false,false,false,false,false,false,false,false,false,false,false,false,false] rfl rfl (by kernel_rfl) (fun _ _ _ h => h) (Or.inl ⟨by rfl, ?_⟩) ?_ ?_
     rotate_left
     · intro w'
       go_simp
       try with_reducible rfl
     rotate_left
     · simp only [Act.put, sA, sB, sC]
       rfl
     refine pure_ (i := 4) (N := some 40) (v := ?_) (a' := ?_) #[true,true,true,true,true,false,false,false,false,false,false,false,false,false,false,false,false,false] rfl rfl (by kernel_rfl) (fun _ _ _ h => h) (Or.inl ⟨by rfl, ?_⟩) ?_ ?_
     rotate_left
     · intro w'
       go_simp
       try with_reducible rfl
     rotate_left
     · simp only [Act.put, sA, sB, sC]
       rfl
     refine pure_ (i := 5) (N := some 41) (v := ?_) (a' := ?_) #[true,true,true,true,true,true,false,false,false,false,false,false,false,false,false,false,false,false] rfl rfl (by kernel_rfl) (fun _ _ _ h => h) (Or.inl ⟨by rfl, ?_⟩) ?_ ?_
     rotate_left
     · intro w'
       go_simp
       try with_reducible rfl
     rotate_left
     · simp only [Act.put, sA, sB, sC]
       rfl
     refine take_ (i := 6) (N := some 42) (v := ?_) (a' := ?_) #[true,true,true,true,true,true,true,false,false,false,false,false,false,false,false,false,false,false] rfl rfl (by kernel_rfl) (fun _ _ _ h => h) (Or.inl ⟨by rfl, ?_⟩) hHeld ?_ ?_
     rotate_left
     · rintro w' ⟨y2, g0, g1, g2⟩
       go_simp
       try with_reducible rfl
     rotate_left
     · simp only [Act.put, sA, sB, sC]
       rfl
     refine pure_ (i := 9) (N := some 45) (v := ?_) (a' := ?_) #[true,true,true,true,true,true,true,false,false,true,false,false,false,false,false,false,false,false] rfl rfl (by kernel_rfl) (fun _ _ _ h => h) (Or.inl ⟨by rfl, ?_⟩) ?_ ?_
     rotate_left
     · intro w'
       go_simp
       try with_reducible rfl
     rotate_left
     · simp only [Act.put, sA, sB, sC]
       rfl
     refine take_ (i := 10) (N := some 46) (v := ?_) (a' := ?_) #[true,true,true,true,true,true,true,false,false,true,true,false,false,false,false,false,false,false] rfl rfl (by kernel_rfl) (fun _ _ _ h => h) (Or.inl ⟨by rfl, ?_⟩) hHeld ?_ ?_
     rotate_left
     · rintro w' ⟨y2, g0, g1, g2⟩
       go_simp
       try with_reducible rfl
     rotate_left
     · simp only [Act.put, sA, sB, sC]
       rfl
     refine pure_ (i := 11) (N := some 47) (v := ?_) (a' := ?_) #[true,true,true,true,true,true,true,false,false,true,true,true,false,false,false,false,false,false] rfl rfl (by kernel_rfl) (fun _ _ _ h => h) (Or.inl ⟨by rfl, ?_⟩) ?_ ?_
     rotate_left
     · intro w'
       go_simp
       try with_reducible rfl
     rotate_left
     · simp only [Act.put, sA, sB, sC]
       rfl
     refine pure_ (i := 12) (N := some 48) (v := ?_) (a' := ?_) #[true,true,true,true,true,true,true,false,false,true,true,true,true,false,false,false,false,false] rfl rfl (by kernel_rfl) (fun _ _ _ h => h) (Or.inl ⟨by rfl, ?_⟩) ?_ ?_
     rotate_left
     · intro w'
       go_simp
       try with_reducible rfl
     rotate_left
     · simp only [Act.put, sA, sB, sC]
       rfl
     refine pure_ (i := 13) (N := some 49) (v := ?_) (a' := ?_) #[true,true,true,true,true,true,true,false,false,true,true,true,true,true,false,false,false,false] rfl rfl (by kernel_rfl) (fun _ _ _ h => h) (Or.inl ⟨by rfl, ?_⟩) ?_ ?_
     rotate_left
     · intro w'
       go_simp
       try with_reducible rfl
     rotate_left
     · simp only [Act.put, sA, sB, sC]
       rfl
     refine take_ (i := 14) (N := some 50) (v := ?_) (a' := ?_) #[true,true,true,true,true,true,true,false,false,true,true,true,true,true,true,false,false,false] rfl rfl (by kernel_rfl) (fun _ _ _ h => h) (Or.inl ⟨by rfl, ?_⟩) hHeld ?_ ?_
     rotate_left
     · rintro w' ⟨y2, g0, g1, g2⟩
       go_simp
       try with_reducible rfl
     rotate_left
     · simp only [Act.put, sA, sB, sC]
       rfl
     refine one_ (i := 7) (N := some 43) #[true,true,true,true,true,true,true,true,false,true,true,true,true,true,true,false,false,false] rfl rfl (by kernel_rfl) (by decide) (fun K hK => ?_)
     go_simp
     refine (rputc x.f1 HRX.out.2.1 _ EX1.out).mono ?_; rintro r w27 ⟨rfl, hw⟩; replace HH := Aside0.mk (HH.out.below hw); clear hw
     refine hK.out _ _ ?_ (fun hHeld => ?_)
     · exact ⟨HH.out.hp.box.2.2.1, Rd.third HH.out.hr hlt HEL.out⟩
     clear hK K
     try simp only [Act.put, sA, sB, sC]
     refine pure_ (i := 8) (N := some 44) (v := ?_) (a' := ?_) #[true,true,true,true,true,true,true,true,true,true,true,true,true,true,true,false,false,false] rfl rfl (by kernel_rfl) (fun _ _ _ h => h) (Or.inl ⟨by rfl, ?_⟩) ?_ ?_
     rotate_left
     · intro w'
       go_simp
       try with_reducible rfl
     rotate_left
     · simp only [Act.put, sA, sB, sC]
       rfl
     refine one_ (i := 15) (N := some 51) #[true,true,true,true,true,true,true,true,true,true,true,true,true,true,true,true,false,false] rfl rfl (by kernel_rfl) (by decide) (fun K hK => ?_)
     go_simp
     refine (rtxtc x.f2 HRX.out.2.2 _ EX2.out).mono ?_; rintro r w35 ⟨rfl, hw⟩; replace HH := Aside0.mk (HH.out.below hw); clear hw
     refine hK.out _ _ ?_ (fun hHeld => ?_)
     · exact ⟨HH.out.hp.box.2.2.1, Rd.third HH.out.hr hlt HEL.out⟩
     clear hK K
     try simp only [Act.put, sA, sB, sC]
     refine pure_ (i := 16) (N := some 52) (v := ?_) (a' := ?_) #[true,true,true,true,true,true,true,true,true,true,true,true,true,true,true,true,true,false] rfl rfl (by kernel_rfl) (fun _ _ _ h => h) (Or.inl ⟨by rfl, ?_⟩) ?_ ?_
     rotate_left
     · intro w'
       go_simp
       try with_reducible rfl
     rotate_left
     · simp only [Act.put, sA, sB, sC]
       rfl
     refine pure_ (i := 17) (N := some 3) (v := ?_) (a' := ?_) #[true,true,true,true,true,true,true,true,true,true,true,true,true,true,true,true,true,true] rfl rfl (by kernel_rfl) (fun _ _ _ h => h) (Or.inl ⟨by rfl, ?_⟩) ?_ ?_
     rotate_left
     · intro w'
       go_simp
       try with_reducible rfl
     rotate_left
     · simp only [Act.put, sA, sB, sC]
       rfl
     refine done_ (by kernel_rfl) ?_
     have hq : (S' ++ X1) ++ X2 = entB false x S' := by unfold entB; rw [if_neg (by decide), EX1.out, EX2.out, apA]
     have hq2 : ((S' ++ X1) ++ X2).size ≤ 1000 + 67 * (k + 1) := by simp only [app_size]; have := HS.out; have := ZX1.out; have := ZX2.out; have := HK.out.1; omega
     rw [hq] at hq2
     have HQ := Aside0.mk hq2
     have HQE := Aside0.mk hq
     clear hq hq2
     go_wp2_with fail
     go_roundw
     case rel => exact ⟨k + 1, by omega, by go_num, ⟨entB false x S', by rw [HEQ.out, entsB_drop _ _ hlt, HEL.out], HQ.out, HH.out, by rw [← HQE.out]⟩⟩
     case measure => simp [intOf]; omega
   · have d1 : decide ((k : Int) < (p.l.length : Int)) = false := decide_eq_false (by omega)
     have d2 : decide (k < p.l.length) = false := decide_eq_false hlt
     have hX : S' = X := by rw [HEQ.out, List.drop_of_length_le (by omega)]; rfl
     clear HEQ
     subst hX
     obtain ⟨y0, y1, y2, y3, y4, y5, y6, y7, y8, y9⟩ := HH.out.hp.box
     go_wp2_with fail
     clear y0 y1 y2 y3 y4 y5 y6 y7 y8 y9
     exact pb_3 p (some ad) c n0 S' w wr C3 HC3.out _ _ _ _ _ _ _ _ _ _ _ _ _ _ _ _ _ _ _ _ _ _ _ _ _ _ _ _ _ _ _ _ _ _ _ _ _ _ _ _ _ _ _ _ _ _ _ _ _ _ _ _ _ _ _ _ _ _ _ _ _ _ _ _ _ _ _ _ _ _ _ _ _ _ _ _ HH.out
set_option maxHeartbeats 4000000 in
set_option maxRecDepth 100000 in
theorem pb_2_2 (p : Prt) (A : Option Addr) (c n0 : Nat) (X : ByteArray) (w W : World) (C : Code) (hC : (match Try.f14.body with | some (.seq _ (.seq _ c)) => c | _ => .skip) = C) (u0 u4 u5 u6 u7 u8 u9 u10 u11 u12 u13 u14 u15 u16 u17 u18 u19 u20 u21 u22 u23 u24 u25 u26 u27 u28 u29 u30 u31 u32 u33 u34 u35 u36 u37 u38 u39 u40 u41 u42 u43 u44 u45 u46 u47 u48 u49 u50 u51 u52 u53 u54 u55 u56 u57 u58 u59 u60 u61 u62 u63 u64 u65 u66 u67 u68 u69 u70 u71 u72 u73 u74 u75 u76 u77 u78 : Value) (S : ByteArray) (hh : BCz p A c n0 w W) (hlen : p.l.length ≤ 6) (hent : ∀ i, i < p.l.length → isE (el p.l i) = true) (hnum : ∀ o, 0 ≤ getA p o ∧ getA p o ≤ 1099511627776) (hsz : S.size ≤ 100) (hX : S ++ hardB p = X) (hk : p.k = 2) :
  C.wp Try.prog (bodyPost Try.prog Try.f14 (fun r w' => r = .returned (.string X) ∧ Below w.heap.size w w')) { tmps := #[u0, .pointer (some ⟨n0, 0, none⟩), .string ⟨#[]⟩, .string S, u4, u5, u6, u7, u8, u9, u10, u11, u12, u13, u14, u15, u16, u17, u18, u19, u20, u21, u22, u23, u24, u25, u26, u27, u28, u29, u30, u31, u32, u33, u34, u35, u36, u37, u38, u39, u40, u41, u42, u43, u44, u45, u46, u47, u48, u49, u50, u51, u52, u53, u54, u55, u56, u57, u58, u59, u60, u61, u62, u63, u64, u65, u66, u67, u68, u69, u70, u71, u72, u73, u74, u75, u76, u77, u78], defers := [] } W := by
 have HH := Aside0.mk hh
 clear hh
 simp only [Try.f14] at hC
 subst hC
 have HK := Aside0.mk (And.intro hlen (And.intro hent hnum))
 obtain ⟨C3, hC3⟩ : ∃ C, (match Try.f14.body with | some (.seq _ (.seq _ (.seq _ c))) => c | _ => .skip) = C := ⟨_, rfl⟩
 have HC3 := Aside0.mk hC3
 simp only [Try.f14] at hC3
 rw [hC3]
 clear hC3
 have k1 : (p.k == 1) = false := beq_eq_false_iff_ne.2 (by omega)
 have k2 : (p.k == 2) = true := beq_iff_eq.2 hk
 have k3 : (p.k == 3) = false := beq_eq_false_iff_ne.2 (by omega)
 have k4 : (p.k == 4) = false := beq_eq_false_iff_ne.2 (by omega)
 have k6 : (p.k == 6) = false := beq_eq_false_iff_ne.2 (by omega)
 have HSZ := Aside0.mk hsz
 obtain ⟨X0, hX0⟩ : ∃ Y, hardB p = Y := ⟨_, rfl⟩
 have EX0 := Aside0.mk hX0
 have ZX0 : Aside0 (X0.size ≤ 27) := ⟨by rw [← hX0]; exact hardB_le hnum⟩
 clear hX0
 rw [EX0.out] at hX
 subst hX
 have hs0 : (9223372036854775807 < S.size + X0.size) = False := eq_false (by have := ZX0.out; omega)
 clear hk hlen hent hnum hsz
 obtain ⟨y0, y1, y2, y3, y4, y5, y6, y7, y8, y9⟩ := HH.out.hp.box
 go_wp2_with fail
 go_at_call 32
 refine (rhardc p HK.out.2.2 _ EX0.out).mono ?_
 rintro r w1 ⟨rfl, hw⟩
 replace HH := Aside0.mk (HH.out.below hw)
 clear hw y0 y1 y2 y3 y4 y5 y6 y7 y8 y9
 go_wp2_with fail
 exact pb_3 p A c n0 (S ++ X0) w w1 C3 HC3.out _ _ _ _ _ _ _ _ _ _ _ _ _ _ _ _ _ _ _ _ _ _ _ _ _ _ _ _ _ _ _ _ _ _ _ _ _ _ _ _ _ _ _ _ _ _ _ _ _ _ _ _ _ _ _ _ _ _ _ _ _ _ _ _ _ _ _ _ _ _ _ _ _ _ _ _ HH.out
set_option maxHeartbeats 4000000 in
set_option maxRecDepth 100000 in
theorem pb_2_3 (p : Prt) (A : Option Addr) (c n0 : Nat) (X : ByteArray) (w W : World) (C : Code) (hC : (match Try.f14.body with | some (.seq _ (.seq _ c)) => c | _ => .skip) = C) (u0 u4 u5 u6 u7 u8 u9 u10 u11 u12 u13 u14 u15 u16 u17 u18 u19 u20 u21 u22 u23 u24 u25 u26 u27 u28 u29 u30 u31 u32 u33 u34 u35 u36 u37 u38 u39 u40 u41 u42 u43 u44 u45 u46 u47 u48 u49 u50 u51 u52 u53 u54 u55 u56 u57 u58 u59 u60 u61 u62 u63 u64 u65 u66 u67 u68 u69 u70 u71 u72 u73 u74 u75 u76 u77 u78 : Value) (S : ByteArray) (hh : BCz p A c n0 w W) (hlen : p.l.length ≤ 6) (hent : ∀ i, i < p.l.length → isE (el p.l i) = true) (hnum : ∀ o, 0 ≤ getA p o ∧ getA p o ≤ 1099511627776) (hsz : S.size ≤ 100) (hX : (S ++ putS p.ix.toNat) ++ putS p.tm.toNat = X) (hk : p.k = 3) :
  C.wp Try.prog (bodyPost Try.prog Try.f14 (fun r w' => r = .returned (.string X) ∧ Below w.heap.size w w')) { tmps := #[u0, .pointer (some ⟨n0, 0, none⟩), .string ⟨#[]⟩, .string S, u4, u5, u6, u7, u8, u9, u10, u11, u12, u13, u14, u15, u16, u17, u18, u19, u20, u21, u22, u23, u24, u25, u26, u27, u28, u29, u30, u31, u32, u33, u34, u35, u36, u37, u38, u39, u40, u41, u42, u43, u44, u45, u46, u47, u48, u49, u50, u51, u52, u53, u54, u55, u56, u57, u58, u59, u60, u61, u62, u63, u64, u65, u66, u67, u68, u69, u70, u71, u72, u73, u74, u75, u76, u77, u78], defers := [] } W := by
 have HH := Aside0.mk hh
 clear hh
 simp only [Try.f14] at hC
 subst hC
 have HK := Aside0.mk (And.intro hlen (And.intro hent hnum))
 obtain ⟨C3, hC3⟩ : ∃ C, (match Try.f14.body with | some (.seq _ (.seq _ (.seq _ c))) => c | _ => .skip) = C := ⟨_, rfl⟩
 have HC3 := Aside0.mk hC3
 simp only [Try.f14] at hC3
 rw [hC3]
 clear hC3
 have k1 : (p.k == 1) = false := beq_eq_false_iff_ne.2 (by omega)
 have k2 : (p.k == 2) = false := beq_eq_false_iff_ne.2 (by omega)
 have k3 : (p.k == 3) = true := beq_iff_eq.2 hk
 have k4 : (p.k == 4) = false := beq_eq_false_iff_ne.2 (by omega)
 have k6 : (p.k == 6) = false := beq_eq_false_iff_ne.2 (by omega)
 have HSZ := Aside0.mk hsz
 obtain ⟨X0, hX0⟩ : ∃ Y, putS p.ix.toNat = Y := ⟨_, rfl⟩
 have EX0 := Aside0.mk hX0
 have ZX0 : Aside0 (X0.size ≤ 9) := ⟨by rw [← hX0]; exact putS_le (hnum 6)⟩
 clear hX0
 obtain ⟨X1, hX1⟩ : ∃ Y, putS p.tm.toNat = Y := ⟨_, rfl⟩
 have EX1 := Aside0.mk hX1
 have ZX1 : Aside0 (X1.size ≤ 9) := ⟨by rw [← hX1]; exact putS_le (hnum 7)⟩
 clear hX1
 rw [EX0.out, EX1.out] at hX
 subst hX
 have hs0 : (9223372036854775807 < S.size + X0.size) = False := eq_false (by have := ZX0.out; omega)
 have hs1 : (9223372036854775807 < (S ++ X0).size + X1.size) = False := eq_false (by rw [app_size]; have := ZX0.out; have := ZX1.out; omega)
 have hs2 : (9223372036854775807 < S.size + X0.size + X1.size) = False := eq_false (by have := ZX0.out; have := ZX1.out; omega)
 have HR6 := Aside0.mk (And.intro (hnum 6) (hnum 7))
 clear hk hlen hent hnum hsz
 obtain ⟨y0, y1, y2, y3, y4, y5, y6, y7, y8, y9⟩ := HH.out.hp.box
 go_wp2_with fail
 clear y0 y1 y2 y3 y4 y5 y6 y7 y8 y9
 replace HH := Aside0.mk HH.out.drew
 refine start_ (n := 10) (S := (fun w' => w'.cell? ⟨n0, 6, none⟩ = some (.int .i64 p.ix) ∧ w'.cell? ⟨n0, 7, none⟩ = some (.int .i64 p.tm))) (ds := []) #[false,false,false,false,false,false,false,false,false,false] (by kernel_rfl) rfl rfl ⟨HH.out.hp.box.2.2.2.2.2.2.1, HH.out.hp.box.2.2.2.2.2.2.2.1⟩ (fun hHeld => ?_)
 obtain ⟨W9, hW⟩ : ∃ X, W.drew = X := ⟨_, rfl⟩
 rw [hW] at hHeld HH ⊢
 clear hW
 refine pure_ (i := 0) (N := some 63) (v := ?_) (a' := ?_) #[true,false,false,false,false,false,false,false,false,false] rfl rfl (by kernel_rfl) (fun _ _ _ h => h) (Or.inl ⟨by rfl, ?_⟩) ?_ ?_
 rotate_left
 · intro w'
   go_simp
   try with_reducible rfl
 rotate_left
 · simp only [Act.put, sA, sB, sC]
   rfl
 refine pure_ (i := 1) (N := some 64) (v := ?_) (a' := ?_) #[true,true,false,false,false,false,false,false,false,false] rfl rfl (by kernel_rfl) (fun _ _ _ h => h) (Or.inl ⟨by rfl, ?_⟩) ?_ ?_
 rotate_left
 · intro w'
   go_simp
   try with_reducible rfl
 rotate_left
 · simp only [Act.put, sA, sB, sC]
   rfl
 refine take_ (i := 2) (N := some 65) (v := ?_) (a' := ?_) #[true,true,true,false,false,false,false,false,false,false] rfl rfl (by kernel_rfl) (fun _ _ _ h => h) (Or.inl ⟨by rfl, ?_⟩) hHeld ?_ ?_
 rotate_left
 · rintro w' ⟨y6, y7⟩
   go_simp
   try with_reducible rfl
 rotate_left
 · simp only [Act.put, sA, sB, sC]
   rfl
 refine pure_ (i := 5) (N := some 68) (v := ?_) (a' := ?_) #[true,true,true,false,false,true,false,false,false,false] rfl rfl (by kernel_rfl) (fun _ _ _ h => h) (Or.inl ⟨by rfl, ?_⟩) ?_ ?_
 rotate_left
 · intro w'
   go_simp
   try with_reducible rfl
 rotate_left
 · simp only [Act.put, sA, sB, sC]
   rfl
 refine take_ (i := 6) (N := some 69) (v := ?_) (a' := ?_) #[true,true,true,false,false,true,true,false,false,false] rfl rfl (by kernel_rfl) (fun _ _ _ h => h) (Or.inl ⟨by rfl, ?_⟩) hHeld ?_ ?_
 rotate_left
 · rintro w' ⟨y6, y7⟩
   go_simp
   try with_reducible rfl
 rotate_left
 · simp only [Act.put, sA, sB, sC]
   rfl
 refine one_ (i := 3) (N := some 66) #[true,true,true,true,false,true,true,false,false,false] rfl rfl (by kernel_rfl) (by decide) (fun K hK => ?_)
 go_simp
 refine (rputc p.ix HR6.out.1 _ EX0.out).mono ?_; rintro r w20 ⟨rfl, hw⟩; replace HH := Aside0.mk (HH.out.below hw); clear hw
 refine hK.out _ _ ?_ (fun hHeld => ?_)
 · exact ⟨HH.out.hp.box.2.2.2.2.2.2.1, HH.out.hp.box.2.2.2.2.2.2.2.1⟩
 clear hK K
 try simp only [Act.put, sA, sB, sC]
 refine pure_ (i := 4) (N := some 67) (v := ?_) (a' := ?_) #[true,true,true,true,true,true,true,false,false,false] rfl rfl (by kernel_rfl) (fun _ _ _ h => h) (Or.inl ⟨by rfl, ?_⟩) ?_ ?_
 rotate_left
 · intro w'
   go_simp
   try with_reducible rfl
 rotate_left
 · simp only [Act.put, sA, sB, sC]
   rfl
 refine one_ (i := 7) (N := some 70) #[true,true,true,true,true,true,true,true,false,false] rfl rfl (by kernel_rfl) (by decide) (fun K hK => ?_)
 go_simp
 refine (rputc p.tm HR6.out.2 _ EX1.out).mono ?_; rintro r w21 ⟨rfl, hw⟩; replace HH := Aside0.mk (HH.out.below hw); clear hw
 refine hK.out _ _ ?_ (fun hHeld => ?_)
 · exact ⟨HH.out.hp.box.2.2.2.2.2.2.1, HH.out.hp.box.2.2.2.2.2.2.2.1⟩
 clear hK K
 try simp only [Act.put, sA, sB, sC]
 refine pure_ (i := 8) (N := some 71) (v := ?_) (a' := ?_) #[true,true,true,true,true,true,true,true,true,false] rfl rfl (by kernel_rfl) (fun _ _ _ h => h) (Or.inl ⟨by rfl, ?_⟩) ?_ ?_
 rotate_left
 · intro w'
   go_simp
   try with_reducible rfl
 rotate_left
 · simp only [Act.put, sA, sB, sC]
   rfl
 refine pure_ (i := 9) (N := some 3) (v := ?_) (a' := ?_) #[true,true,true,true,true,true,true,true,true,true] rfl rfl (by kernel_rfl) (fun _ _ _ h => h) (Or.inl ⟨by rfl, ?_⟩) ?_ ?_
 rotate_left
 · intro w'
   go_simp
   try with_reducible rfl
 rotate_left
 · simp only [Act.put, sA, sB, sC]
   rfl
 refine done_ (by kernel_rfl) ?_
 go_wp2_with fail
 exact pb_3 p A c n0 ((S ++ X0) ++ X1) w w21 C3 HC3.out _ _ _ _ _ _ _ _ _ _ _ _ _ _ _ _ _ _ _ _ _ _ _ _ _ _ _ _ _ _ _ _ _ _ _ _ _ _ _ _ _ _ _ _ _ _ _ _ _ _ _ _ _ _ _ _ _ _ _ _ _ _ _ _ _ _ _ _ _ _ _ _ _ _ _ _ HH.out
set_option maxHeartbeats 4000000 in
set_option maxRecDepth 100000 in
theorem pb_2_4 (p : Prt) (A : Option Addr) (c n0 : Nat) (X : ByteArray) (w W : World) (C : Code) (hC : (match Try.f14.body with | some (.seq _ (.seq _ c)) => c | _ => .skip) = C) (u0 u4 u5 u6 u7 u8 u9 u10 u11 u12 u13 u14 u15 u16 u17 u18 u19 u20 u21 u22 u23 u24 u25 u26 u27 u28 u29 u30 u31 u32 u33 u34 u35 u36 u37 u38 u39 u40 u41 u42 u43 u44 u45 u46 u47 u48 u49 u50 u51 u52 u53 u54 u55 u56 u57 u58 u59 u60 u61 u62 u63 u64 u65 u66 u67 u68 u69 u70 u71 u72 u73 u74 u75 u76 u77 u78 : Value) (S : ByteArray) (hh : BCz p A c n0 w W) (hlen : p.l.length ≤ 6) (hent : ∀ i, i < p.l.length → isE (el p.l i) = true) (hnum : ∀ o, 0 ≤ getA p o ∧ getA p o ≤ 1099511627776) (hsz : S.size ≤ 100) (hX : (S ++ putS p.ix.toNat) ++ putS p.tm.toNat = X) (hk : p.k = 4) :
  C.wp Try.prog (bodyPost Try.prog Try.f14 (fun r w' => r = .returned (.string X) ∧ Below w.heap.size w w')) { tmps := #[u0, .pointer (some ⟨n0, 0, none⟩), .string ⟨#[]⟩, .string S, u4, u5, u6, u7, u8, u9, u10, u11, u12, u13, u14, u15, u16, u17, u18, u19, u20, u21, u22, u23, u24, u25, u26, u27, u28, u29, u30, u31, u32, u33, u34, u35, u36, u37, u38, u39, u40, u41, u42, u43, u44, u45, u46, u47, u48, u49, u50, u51, u52, u53, u54, u55, u56, u57, u58, u59, u60, u61, u62, u63, u64, u65, u66, u67, u68, u69, u70, u71, u72, u73, u74, u75, u76, u77, u78], defers := [] } W := by
 have HH := Aside0.mk hh
 clear hh
 simp only [Try.f14] at hC
 subst hC
 have HK := Aside0.mk (And.intro hlen (And.intro hent hnum))
 obtain ⟨C3, hC3⟩ : ∃ C, (match Try.f14.body with | some (.seq _ (.seq _ (.seq _ c))) => c | _ => .skip) = C := ⟨_, rfl⟩
 have HC3 := Aside0.mk hC3
 simp only [Try.f14] at hC3
 rw [hC3]
 clear hC3
 have k1 : (p.k == 1) = false := beq_eq_false_iff_ne.2 (by omega)
 have k2 : (p.k == 2) = false := beq_eq_false_iff_ne.2 (by omega)
 have k3 : (p.k == 3) = false := beq_eq_false_iff_ne.2 (by omega)
 have k4 : (p.k == 4) = true := beq_iff_eq.2 hk
 have k6 : (p.k == 6) = false := beq_eq_false_iff_ne.2 (by omega)
 have HSZ := Aside0.mk hsz
 obtain ⟨X0, hX0⟩ : ∃ Y, putS p.ix.toNat = Y := ⟨_, rfl⟩
 have EX0 := Aside0.mk hX0
 have ZX0 : Aside0 (X0.size ≤ 9) := ⟨by rw [← hX0]; exact putS_le (hnum 6)⟩
 clear hX0
 obtain ⟨X1, hX1⟩ : ∃ Y, putS p.tm.toNat = Y := ⟨_, rfl⟩
 have EX1 := Aside0.mk hX1
 have ZX1 : Aside0 (X1.size ≤ 9) := ⟨by rw [← hX1]; exact putS_le (hnum 7)⟩
 clear hX1
 rw [EX0.out, EX1.out] at hX
 subst hX
 have hs0 : (9223372036854775807 < S.size + X0.size) = False := eq_false (by have := ZX0.out; omega)
 have hs1 : (9223372036854775807 < (S ++ X0).size + X1.size) = False := eq_false (by rw [app_size]; have := ZX0.out; have := ZX1.out; omega)
 have hs2 : (9223372036854775807 < S.size + X0.size + X1.size) = False := eq_false (by have := ZX0.out; have := ZX1.out; omega)
 have HR6 := Aside0.mk (And.intro (hnum 6) (hnum 7))
 clear hk hlen hent hnum hsz
 obtain ⟨y0, y1, y2, y3, y4, y5, y6, y7, y8, y9⟩ := HH.out.hp.box
 go_wp2_with fail
 clear y0 y1 y2 y3 y4 y5 y6 y7 y8 y9
 replace HH := Aside0.mk HH.out.drew
 refine start_ (n := 10) (S := (fun w' => w'.cell? ⟨n0, 6, none⟩ = some (.int .i64 p.ix) ∧ w'.cell? ⟨n0, 7, none⟩ = some (.int .i64 p.tm))) (ds := []) #[false,false,false,false,false,false,false,false,false,false] (by kernel_rfl) rfl rfl ⟨HH.out.hp.box.2.2.2.2.2.2.1, HH.out.hp.box.2.2.2.2.2.2.2.1⟩ (fun hHeld => ?_)
 obtain ⟨W9, hW⟩ : ∃ X, W.drew = X := ⟨_, rfl⟩
 rw [hW] at hHeld HH ⊢
 clear hW
 refine pure_ (i := 0) (N := some 63) (v := ?_) (a' := ?_) #[true,false,false,false,false,false,false,false,false,false] rfl rfl (by kernel_rfl) (fun _ _ _ h => h) (Or.inl ⟨by rfl, ?_⟩) ?_ ?_
 rotate_left
 · intro w'
   go_simp
   try with_reducible rfl
 rotate_left
 · simp only [Act.put, sA, sB, sC]
   rfl
 refine pure_ (i := 1) (N := some 64) (v := ?_) (a' := ?_) #[true,true,false,false,false,false,false,false,false,false] rfl rfl (by kernel_rfl) (fun _ _ _ h => h) (Or.inl ⟨by rfl, ?_⟩) ?_ ?_
 rotate_left
 · intro w'
   go_simp
   try with_reducible rfl
 rotate_left
 · simp only [Act.put, sA, sB, sC]
   rfl
 refine take_ (i := 2) (N := some 65) (v := ?_) (a' := ?_) #[true,true,true,false,false,false,false,false,false,false] rfl rfl (by kernel_rfl) (fun _ _ _ h => h) (Or.inl ⟨by rfl, ?_⟩) hHeld ?_ ?_
 rotate_left
 · rintro w' ⟨y6, y7⟩
   go_simp
   try with_reducible rfl
 rotate_left
 · simp only [Act.put, sA, sB, sC]
   rfl
 refine pure_ (i := 5) (N := some 68) (v := ?_) (a' := ?_) #[true,true,true,false,false,true,false,false,false,false] rfl rfl (by kernel_rfl) (fun _ _ _ h => h) (Or.inl ⟨by rfl, ?_⟩) ?_ ?_
 rotate_left
 · intro w'
   go_simp
   try with_reducible rfl
 rotate_left
 · simp only [Act.put, sA, sB, sC]
   rfl
 refine take_ (i := 6) (N := some 69) (v := ?_) (a' := ?_) #[true,true,true,false,false,true,true,false,false,false] rfl rfl (by kernel_rfl) (fun _ _ _ h => h) (Or.inl ⟨by rfl, ?_⟩) hHeld ?_ ?_
 rotate_left
 · rintro w' ⟨y6, y7⟩
   go_simp
   try with_reducible rfl
 rotate_left
 · simp only [Act.put, sA, sB, sC]
   rfl
 refine one_ (i := 3) (N := some 66) #[true,true,true,true,false,true,true,false,false,false] rfl rfl (by kernel_rfl) (by decide) (fun K hK => ?_)
 go_simp
 refine (rputc p.ix HR6.out.1 _ EX0.out).mono ?_; rintro r w20 ⟨rfl, hw⟩; replace HH := Aside0.mk (HH.out.below hw); clear hw
 refine hK.out _ _ ?_ (fun hHeld => ?_)
 · exact ⟨HH.out.hp.box.2.2.2.2.2.2.1, HH.out.hp.box.2.2.2.2.2.2.2.1⟩
 clear hK K
 try simp only [Act.put, sA, sB, sC]
 refine pure_ (i := 4) (N := some 67) (v := ?_) (a' := ?_) #[true,true,true,true,true,true,true,false,false,false] rfl rfl (by kernel_rfl) (fun _ _ _ h => h) (Or.inl ⟨by rfl, ?_⟩) ?_ ?_
 rotate_left
 · intro w'
   go_simp
   try with_reducible rfl
 rotate_left
 · simp only [Act.put, sA, sB, sC]
   rfl
 refine one_ (i := 7) (N := some 70) #[true,true,true,true,true,true,true,true,false,false] rfl rfl (by kernel_rfl) (by decide) (fun K hK => ?_)
 go_simp
 refine (rputc p.tm HR6.out.2 _ EX1.out).mono ?_; rintro r w21 ⟨rfl, hw⟩; replace HH := Aside0.mk (HH.out.below hw); clear hw
 refine hK.out _ _ ?_ (fun hHeld => ?_)
 · exact ⟨HH.out.hp.box.2.2.2.2.2.2.1, HH.out.hp.box.2.2.2.2.2.2.2.1⟩
 clear hK K
 try simp only [Act.put, sA, sB, sC]
 refine pure_ (i := 8) (N := some 71) (v := ?_) (a' := ?_) #[true,true,true,true,true,true,true,true,true,false] rfl rfl (by kernel_rfl) (fun _ _ _ h => h) (Or.inl ⟨by rfl, ?_⟩) ?_ ?_
 rotate_left
 · intro w'
   go_simp
   try with_reducible rfl
 rotate_left
 · simp only [Act.put, sA, sB, sC]
   rfl
 refine pure_ (i := 9) (N := some 3) (v := ?_) (a' := ?_) #[true,true,true,true,true,true,true,true,true,true] rfl rfl (by kernel_rfl) (fun _ _ _ h => h) (Or.inl ⟨by rfl, ?_⟩) ?_ ?_
 rotate_left
 · intro w'
   go_simp
   try with_reducible rfl
 rotate_left
 · simp only [Act.put, sA, sB, sC]
   rfl
 refine done_ (by kernel_rfl) ?_
 go_wp2_with fail
 exact pb_3 p A c n0 ((S ++ X0) ++ X1) w w21 C3 HC3.out _ _ _ _ _ _ _ _ _ _ _ _ _ _ _ _ _ _ _ _ _ _ _ _ _ _ _ _ _ _ _ _ _ _ _ _ _ _ _ _ _ _ _ _ _ _ _ _ _ _ _ _ _ _ _ _ _ _ _ _ _ _ _ _ _ _ _ _ _ _ _ _ _ _ _ _ HH.out
set_option maxHeartbeats 4000000 in
set_option maxRecDepth 100000 in
theorem pb_2_6 (p : Prt) (A : Option Addr) (c n0 : Nat) (X : ByteArray) (w W : World) (C : Code) (hC : (match Try.f14.body with | some (.seq _ (.seq _ c)) => c | _ => .skip) = C) (u0 u4 u5 u6 u7 u8 u9 u10 u11 u12 u13 u14 u15 u16 u17 u18 u19 u20 u21 u22 u23 u24 u25 u26 u27 u28 u29 u30 u31 u32 u33 u34 u35 u36 u37 u38 u39 u40 u41 u42 u43 u44 u45 u46 u47 u48 u49 u50 u51 u52 u53 u54 u55 u56 u57 u58 u59 u60 u61 u62 u63 u64 u65 u66 u67 u68 u69 u70 u71 u72 u73 u74 u75 u76 u77 u78 : Value) (S : ByteArray) (hh : BCz p A c n0 w W) (hlen : p.l.length ≤ 6) (hent : ∀ i, i < p.l.length → isE (el p.l i) = true) (hnum : ∀ o, 0 ≤ getA p o ∧ getA p o ≤ 1099511627776) (hsz : S.size ≤ 100) (hX : S ++ fwdB p = X) (hk : p.k = 6) :
  C.wp Try.prog (bodyPost Try.prog Try.f14 (fun r w' => r = .returned (.string X) ∧ Below w.heap.size w w')) { tmps := #[u0, .pointer (some ⟨n0, 0, none⟩), .string ⟨#[]⟩, .string S, u4, u5, u6, u7, u8, u9, u10, u11, u12, u13, u14, u15, u16, u17, u18, u19, u20, u21, u22, u23, u24, u25, u26, u27, u28, u29, u30, u31, u32, u33, u34, u35, u36, u37, u38, u39, u40, u41, u42, u43, u44, u45, u46, u47, u48, u49, u50, u51, u52, u53, u54, u55, u56, u57, u58, u59, u60, u61, u62, u63, u64, u65, u66, u67, u68, u69, u70, u71, u72, u73, u74, u75, u76, u77, u78], defers := [] } W := by
 have HH := Aside0.mk hh
 clear hh
 simp only [Try.f14] at hC
 subst hC
 have HK := Aside0.mk (And.intro hlen (And.intro hent hnum))
 obtain ⟨C3, hC3⟩ : ∃ C, (match Try.f14.body with | some (.seq _ (.seq _ (.seq _ c))) => c | _ => .skip) = C := ⟨_, rfl⟩
 have HC3 := Aside0.mk hC3
 simp only [Try.f14] at hC3
 rw [hC3]
 clear hC3
 have k1 : (p.k == 1) = false := beq_eq_false_iff_ne.2 (by omega)
 have k2 : (p.k == 2) = false := beq_eq_false_iff_ne.2 (by omega)
 have k3 : (p.k == 3) = false := beq_eq_false_iff_ne.2 (by omega)
 have k4 : (p.k == 4) = false := beq_eq_false_iff_ne.2 (by omega)
 have k6 : (p.k == 6) = true := beq_iff_eq.2 hk
 have HSZ := Aside0.mk hsz
 obtain ⟨X0, hX0⟩ : ∃ Y, fwdB p = Y := ⟨_, rfl⟩
 have EX0 := Aside0.mk hX0
 have ZX0 : Aside0 (X0.size ≤ 1000) := ⟨by rw [← hX0]; exact fwdB_le hlen hent hnum⟩
 rw [hX0] at hX
 clear hX0
 subst hX
 have hs0 : (9223372036854775807 < S.size + X0.size) = False := eq_false (by have := ZX0.out; omega)
 clear hk hlen hent hnum hsz
 obtain ⟨y0, y1, y2, y3, y4, y5, y6, y7, y8, y9⟩ := HH.out.hp.box
 go_wp2_with fail
 go_at_call 33
 refine (fwd_c p A c _ HH.out.hr HK.out.1 HK.out.2.1 HK.out.2.2 EX0.out).mono ?_
 rintro r w1 ⟨rfl, hw⟩
 replace HH := Aside0.mk (HH.out.below hw)
 clear hw y0 y1 y2 y3 y4 y5 y6 y7 y8 y9
 go_wp2_with fail
 exact pb_3 p A c n0 (S ++ X0) w w1 C3 HC3.out _ _ _ _ _ _ _ _ _ _ _ _ _ _ _ _ _ _ _ _ _ _ _ _ _ _ _ _ _ _ _ _ _ _ _ _ _ _ _ _ _ _ _ _ _ _ _ _ _ _ _ _ _ _ _ _ _ _ _ _ _ _ _ _ _ _ _ _ _ _ _ _ _ _ _ _ HH.out
set_option maxHeartbeats 4000000 in
set_option maxRecDepth 100000 in
theorem pb_2_0 (p : Prt) (A : Option Addr) (c n0 : Nat) (X : ByteArray) (w W : World) (C : Code) (hC : (match Try.f14.body with | some (.seq _ (.seq _ c)) => c | _ => .skip) = C) (u0 u4 u5 u6 u7 u8 u9 u10 u11 u12 u13 u14 u15 u16 u17 u18 u19 u20 u21 u22 u23 u24 u25 u26 u27 u28 u29 u30 u31 u32 u33 u34 u35 u36 u37 u38 u39 u40 u41 u42 u43 u44 u45 u46 u47 u48 u49 u50 u51 u52 u53 u54 u55 u56 u57 u58 u59 u60 u61 u62 u63 u64 u65 u66 u67 u68 u69 u70 u71 u72 u73 u74 u75 u76 u77 u78 : Value) (S : ByteArray) (hh : BCz p A c n0 w W) (hlen : p.l.length ≤ 6) (hent : ∀ i, i < p.l.length → isE (el p.l i) = true) (hnum : ∀ o, 0 ≤ getA p o ∧ getA p o ≤ 1099511627776) (hsz : S.size ≤ 100) (hX : S = X) (hk : p.k = 5) :
  C.wp Try.prog (bodyPost Try.prog Try.f14 (fun r w' => r = .returned (.string X) ∧ Below w.heap.size w w')) { tmps := #[u0, .pointer (some ⟨n0, 0, none⟩), .string ⟨#[]⟩, .string S, u4, u5, u6, u7, u8, u9, u10, u11, u12, u13, u14, u15, u16, u17, u18, u19, u20, u21, u22, u23, u24, u25, u26, u27, u28, u29, u30, u31, u32, u33, u34, u35, u36, u37, u38, u39, u40, u41, u42, u43, u44, u45, u46, u47, u48, u49, u50, u51, u52, u53, u54, u55, u56, u57, u58, u59, u60, u61, u62, u63, u64, u65, u66, u67, u68, u69, u70, u71, u72, u73, u74, u75, u76, u77, u78], defers := [] } W := by
 have HH := Aside0.mk hh
 clear hh
 simp only [Try.f14] at hC
 subst hC
 have HK := Aside0.mk (And.intro hlen (And.intro hent hnum))
 obtain ⟨C3, hC3⟩ : ∃ C, (match Try.f14.body with | some (.seq _ (.seq _ (.seq _ c))) => c | _ => .skip) = C := ⟨_, rfl⟩
 have HC3 := Aside0.mk hC3
 simp only [Try.f14] at hC3
 rw [hC3]
 clear hC3
 have k1 : (p.k == 1) = false := beq_eq_false_iff_ne.2 (by omega)
 have k2 : (p.k == 2) = false := beq_eq_false_iff_ne.2 (by omega)
 have k3 : (p.k == 3) = false := beq_eq_false_iff_ne.2 (by omega)
 have k4 : (p.k == 4) = false := beq_eq_false_iff_ne.2 (by omega)
 have k6 : (p.k == 6) = false := beq_eq_false_iff_ne.2 (by omega)
 have HSZ := Aside0.mk hsz
 have hXS : S = X := hX
 subst hXS
 clear hX hk hlen hent hnum hsz
 obtain ⟨y0, y1, y2, y3, y4, y5, y6, y7, y8, y9⟩ := HH.out.hp.box
 go_wp2_with fail
 clear y0 y1 y2 y3 y4 y5 y6 y7 y8 y9
 exact pb_3 p A c n0 S w W C3 HC3.out _ _ _ _ _ _ _ _ _ _ _ _ _ _ _ _ _ _ _ _ _ _ _ _ _ _ _ _ _ _ _ _ _ _ _ _ _ _ _ _ _ _ _ _ _ _ _ _ _ _ _ _ _ _ _ _ _ _ _ _ _ _ _ _ _ _ _ _ _ _ _ _ _ _ _ _ HH.out
set_option maxHeartbeats 4000000 in
set_option maxRecDepth 100000 in
theorem pb_1 (p : Prt) (A : Option Addr) (c n0 : Nat) (h : IsP p) (w W : World) (C : Code) (hC : (match Try.f14.body with | some (.seq _ c) => c | _ => .skip) = C) (u0 u3 u4 u5 u6 u7 u8 u9 u10 u11 u12 u13 u14 u15 u16 u17 u18 u19 u20 u21 u22 u23 u24 u25 u26 u27 u28 u29 u30 u31 u32 u33 u34 u35 u36 u37 u38 u39 u40 u41 u42 u43 u44 u45 u46 u47 u48 u49 u50 u51 u52 u53 u54 u55 u56 u57 u58 u59 u60 u61 u62 u63 u64 u65 u66 u67 u68 u69 u70 u71 u72 u73 u74 u75 u76 u77 u78 : Value) (hh : BCz p A c n0 w W) :
  C.wp Try.prog (bodyPost Try.prog Try.f14 (fun r w' => r = .returned (.string (bytesP p)) ∧ Below w.heap.size w w')) { tmps := #[u0, .pointer (some ⟨n0, 0, none⟩), .string ⟨#[]⟩, u3, u4, u5, u6, u7, u8, u9, u10, u11, u12, u13, u14, u15, u16, u17, u18, u19, u20, u21, u22, u23, u24, u25, u26, u27, u28, u29, u30, u31, u32, u33, u34, u35, u36, u37, u38, u39, u40, u41, u42, u43, u44, u45, u46, u47, u48, u49, u50, u51, u52, u53, u54, u55, u56, u57, u58, u59, u60, u61, u62, u63, u64, u65, u66, u67, u68, u69, u70, u71, u72, u73, u74, u75, u76, u77, u78], defers := [] } W := by
 have HH := Aside0.mk hh
 clear hh
 simp only [Try.f14] at hC
 subst hC
 have HQ := Aside0.mk h
 have HK := Aside0.mk (And.intro h.l6 (And.intro h.e h.r))
 obtain ⟨X0, hX0⟩ : ∃ Y, putS p.g.toNat = Y := ⟨_, rfl⟩
 have EX0 := Aside0.mk hX0
 have ZX0 : Aside0 (X0.size ≤ 9) := ⟨by rw [← hX0]; exact putS_le (by have := h.g; omega)⟩
 clear hX0
 obtain ⟨X1, hX1⟩ : ∃ Y, putS p.k.toNat = Y := ⟨_, rfl⟩
 have EX1 := Aside0.mk hX1
 have ZX1 : Aside0 (X1.size ≤ 9) := ⟨by rw [← hX1]; exact putS_le (by have := h.k; omega)⟩
 clear hX1
 obtain ⟨X, hX⟩ : ∃ X, bytesP p = X := ⟨_, rfl⟩
 have HX := Aside0.mk hX
 have HE : Aside0 (headB p = X0 ++ X1) := ⟨by unfold headB; rw [EX0.out, EX1.out]⟩
 rw [hX]
 have HGK := Aside0.mk (And.intro h.g h.k)
 have hs0 : (9223372036854775807 < X0.size + X1.size) = False := eq_false (by have := ZX0.out; have := ZX1.out; omega)
 clear hX h
 obtain ⟨C2, hC2⟩ : ∃ C, (match Try.f14.body with | some (.seq _ (.seq _ c)) => c | _ => .skip) = C := ⟨_, rfl⟩
 have HC2 := Aside0.mk hC2
 simp only [Try.f14] at hC2
 rw [hC2]
 clear hC2
 go_wp2_with fail
 replace HH := Aside0.mk HH.out.drew
 refine start_ (n := 8) (S := (fun w' => w'.cell? ⟨n0, 0, none⟩ = some (.int .i64 p.g) ∧ w'.cell? ⟨n0, 1, none⟩ = some (.int .i64 p.k))) (ds := []) #[false,false,false,false,false,false,false,false] (by kernel_rfl) rfl rfl ⟨HH.out.hp.box.1, HH.out.hp.box.2.1⟩ (fun hHeld => ?_)
 obtain ⟨W9, hW⟩ : ∃ X, W.drew = X := ⟨_, rfl⟩
 rw [hW] at hHeld HH ⊢
 clear hW
 refine pure_ (i := 0) (N := some 5) (v := ?_) (a' := ?_) #[true,false,false,false,false,false,false,false] rfl rfl (by kernel_rfl) (fun _ _ _ h => h) (Or.inl ⟨by rfl, ?_⟩) ?_ ?_
 rotate_left
 · intro w'
   go_simp
   try with_reducible rfl
 rotate_left
 · simp only [Act.put, sA, sB, sC]
   rfl
 refine take_ (i := 1) (N := some 6) (v := ?_) (a' := ?_) #[true,true,false,false,false,false,false,false] rfl rfl (by kernel_rfl) (fun _ _ _ h => h) (Or.inl ⟨by rfl, ?_⟩) hHeld ?_ ?_
 rotate_left
 · rintro w' ⟨y0, y1⟩
   go_simp
   try with_reducible rfl
 rotate_left
 · simp only [Act.put, sA, sB, sC]
   rfl
 refine pure_ (i := 3) (N := some 8) (v := ?_) (a' := ?_) #[true,true,false,true,false,false,false,false] rfl rfl (by kernel_rfl) (fun _ _ _ h => h) (Or.inl ⟨by rfl, ?_⟩) ?_ ?_
 rotate_left
 · intro w'
   go_simp
   try with_reducible rfl
 rotate_left
 · simp only [Act.put, sA, sB, sC]
   rfl
 refine take_ (i := 4) (N := some 9) (v := ?_) (a' := ?_) #[true,true,false,true,true,false,false,false] rfl rfl (by kernel_rfl) (fun _ _ _ h => h) (Or.inl ⟨by rfl, ?_⟩) hHeld ?_ ?_
 rotate_left
 · rintro w' ⟨y0, y1⟩
   go_simp
   try with_reducible rfl
 rotate_left
 · simp only [Act.put, sA, sB, sC]
   rfl
 refine one_ (i := 2) (N := some 7) #[true,true,true,true,true,false,false,false] rfl rfl (by kernel_rfl) (by decide) (fun K hK => ?_)
 go_simp
 refine (rputc p.g (by have := HGK.out.1; omega) _ EX0.out).mono ?_; rintro r w20 ⟨rfl, hw⟩; replace HH := Aside0.mk (HH.out.below hw); clear hw
 refine hK.out _ _ ?_ (fun hHeld => ?_)
 · exact ⟨HH.out.hp.box.1, HH.out.hp.box.2.1⟩
 clear hK K
 try simp only [Act.put, sA, sB, sC]
 refine one_ (i := 5) (N := some 10) #[true,true,true,true,true,true,false,false] rfl rfl (by kernel_rfl) (by decide) (fun K hK => ?_)
 go_simp
 refine (rputc p.k (by have := HGK.out.2; omega) _ EX1.out).mono ?_; rintro r w21 ⟨rfl, hw⟩; replace HH := Aside0.mk (HH.out.below hw); clear hw
 refine hK.out _ _ ?_ (fun hHeld => ?_)
 · exact ⟨HH.out.hp.box.1, HH.out.hp.box.2.1⟩
 clear hK K
 try simp only [Act.put, sA, sB, sC]
 refine pure_ (i := 6) (N := some 11) (v := ?_) (a' := ?_) #[true,true,true,true,true,true,true,false] rfl rfl (by kernel_rfl) (fun _ _ _ h => h) (Or.inl ⟨by rfl, ?_⟩) ?_ ?_
 rotate_left
 · intro w'
   go_simp
   try with_reducible rfl
 rotate_left
 · simp only [Act.put, sA, sB, sC]
   rfl
 refine pure_ (i := 7) (N := some 3) (v := ?_) (a' := ?_) #[true,true,true,true,true,true,true,true] rfl rfl (by kernel_rfl) (fun _ _ _ h => h) (Or.inl ⟨by rfl, ?_⟩) ?_ ?_
 rotate_left
 · intro w'
   go_simp
   try with_reducible rfl
 rotate_left
 · simp only [Act.put, sA, sB, sC]
   rfl
 refine done_ (by kernel_rfl) ?_
 go_wp2_with fail
 have hz : (X0 ++ X1).size ≤ 100 := by rw [app_size]; have := ZX0.out; have := ZX1.out; omega
 obtain hk | hk | hk | hk | hk | hk : p.k = 1 ∨ p.k = 2 ∨ p.k = 3 ∨ p.k = 4 ∨ p.k = 5 ∨ p.k = 6 := by have := HGK.out.2; omega
 · exact pb_2_1 p A c n0 X w w21 C2 HC2.out _ _ _ _ _ _ _ _ _ _ _ _ _ _ _ _ _ _ _ _ _ _ _ _ _ _ _ _ _ _ _ _ _ _ _ _ _ _ _ _ _ _ _ _ _ _ _ _ _ _ _ _ _ _ _ _ _ _ _ _ _ _ _ _ _ _ _ _ _ _ _ _ _ _ _ _ (X0 ++ X1) HH.out HK.out.1 HK.out.2.1 HK.out.2.2 hz (by rw [← HX.out, bytes_k1 HQ.out hk, HE.out]) hk HQ.out.pos
 · exact pb_2_2 p A c n0 X w w21 C2 HC2.out _ _ _ _ _ _ _ _ _ _ _ _ _ _ _ _ _ _ _ _ _ _ _ _ _ _ _ _ _ _ _ _ _ _ _ _ _ _ _ _ _ _ _ _ _ _ _ _ _ _ _ _ _ _ _ _ _ _ _ _ _ _ _ _ _ _ _ _ _ _ _ _ _ _ _ _ (X0 ++ X1) HH.out HK.out.1 HK.out.2.1 HK.out.2.2 hz (by rw [← HX.out, bytes_k2 HQ.out hk, HE.out]) hk
 · exact pb_2_3 p A c n0 X w w21 C2 HC2.out _ _ _ _ _ _ _ _ _ _ _ _ _ _ _ _ _ _ _ _ _ _ _ _ _ _ _ _ _ _ _ _ _ _ _ _ _ _ _ _ _ _ _ _ _ _ _ _ _ _ _ _ _ _ _ _ _ _ _ _ _ _ _ _ _ _ _ _ _ _ _ _ _ _ _ _ (X0 ++ X1) HH.out HK.out.1 HK.out.2.1 HK.out.2.2 hz (by rw [← HX.out, bytes_k34 HQ.out (.inl hk), HE.out]) hk
 · exact pb_2_4 p A c n0 X w w21 C2 HC2.out _ _ _ _ _ _ _ _ _ _ _ _ _ _ _ _ _ _ _ _ _ _ _ _ _ _ _ _ _ _ _ _ _ _ _ _ _ _ _ _ _ _ _ _ _ _ _ _ _ _ _ _ _ _ _ _ _ _ _ _ _ _ _ _ _ _ _ _ _ _ _ _ _ _ _ _ (X0 ++ X1) HH.out HK.out.1 HK.out.2.1 HK.out.2.2 hz (by rw [← HX.out, bytes_k34 HQ.out (.inr hk), HE.out]) hk
 · exact pb_2_0 p A c n0 X w w21 C2 HC2.out _ _ _ _ _ _ _ _ _ _ _ _ _ _ _ _ _ _ _ _ _ _ _ _ _ _ _ _ _ _ _ _ _ _ _ _ _ _ _ _ _ _ _ _ _ _ _ _ _ _ _ _ _ _ _ _ _ _ _ _ _ _ _ _ _ _ _ _ _ _ _ _ _ _ _ _ (X0 ++ X1) HH.out HK.out.1 HK.out.2.1 HK.out.2.2 hz (by rw [← HX.out, ← bytes_k5 HQ.out hk, HE.out]) hk
 · exact pb_2_6 p A c n0 X w w21 C2 HC2.out _ _ _ _ _ _ _ _ _ _ _ _ _ _ _ _ _ _ _ _ _ _ _ _ _ _ _ _ _ _ _ _ _ _ _ _ _ _ _ _ _ _ _ _ _ _ _ _ _ _ _ _ _ _ _ _ _ _ _ _ _ _ _ _ _ _ _ _ _ _ _ _ _ _ _ _ (X0 ++ X1) HH.out HK.out.1 HK.out.2.1 HK.out.2.2 hz (by rw [← HX.out, bytes_k6 HQ.out hk, HE.out]) hk
set_option maxHeartbeats 4000000 in
set_option maxRecDepth 100000 in
theorem rbytec (p : Prt) (A : Option Addr) (c : Nat) (w : World) (h : Rd w A c p.l) (hp : isP p = true) {S : ByteArray} (hS : bytesP p = S) :
  Calls Try.prog 14 #[vP p A c] w fun r w' => r = .returned (.string S) ∧ Below w.heap.size w w' := by
 rw [← hS]
 have HI := Aside0.mk (isP_all hp)
 clear hS hp
 have HR := Aside0.mk h
 clear h
 unfold vP
 go_enter Try.func14, Try.ntmps14
 obtain ⟨C1, hC1⟩ : ∃ C, (match Try.f14.body with | some (.seq _ c) => c | _ => .skip) = C := ⟨_, rfl⟩
 have HC1 := Aside0.mk hC1
 simp only [Try.f14] at hC1
 rw [hC1]
 clear hC1
 go_wp2_with fail
 have h9 : BCz p A c w.heap.size w (w.alloc (.cells #[.int .i64 p.g, .int .i64 p.k, .slice A p.l.length c, .int .i64 p.ht, .int .i64 p.hv, .int .i64 p.hc, .int .i64 p.ix, .int .i64 p.tm, .bool p.mrk, .bool p.hed] 26)) := ⟨BlkP.new p A c w, HR.out.alloc _, fun q hq => HR.out.lt hq, (Below.refl _ w).alloc (Nat.le_refl _) _, Nat.le_refl _⟩
 exact pb_1 p A c w.heap.size HI.out w _ C1 HC1.out _ _ _ _ _ _ _ _ _ _ _ _ _ _ _ _ _ _ _ _ _ _ _ _ _ _ _ _ _ _ _ _ _ _ _ _ _ _ _ _ _ _ _ _ _ _ _ _ _ _ _ _ _ _ _ _ _ _ _ _ _ _ _ _ _ _ _ _ _ _ _ _ _ _ _ _ _ h9
end Go.Proofs.Ytokjhocjemjfiaa.PartW
