/- part.Bytes. -/
import Derived.Test.YtokjhocjemjfiaaRdP
set_option linter.unusedVariables false
set_option linter.unusedSimpArgs false
namespace Go.Proofs.Ytokjhocjemjfiaa.Sp
open Go Go.RowKit Go.Proofs.Ytokjhocjemjfiaa.A Go.Proofs.Ytokjhocjemjfiaa.PartW Go.Proofs.Ytokjhocjemjfiaa.Seq Go.Proofs.Ytokjhocjemjfiaa.CodeW Go.Proofs.Ytokjhocjemjfiaa.CodeM Go.Proofs.Ytokjhocjemjfiaa.CodeQ Go.Proofs.Ytokjhocjemjfiaa.Given Go.Proofs.YtokjhocjemjfiaaW.PrintWords Go.Proofs.YtokjhocjemjfiaaW.PrintLast Go.Proofs.YtokjhocjemjfiaaW.PrintMore
def getA (p : Prt) (o : Nat) : Int :=
  match o with
  | 3 => p.ht
  | 4 => p.hv
  | 5 => p.hc
  | 6 => p.ix
  | _ => p.tm
/-- a part's numbers are appended -/
def numsB : List Addr → Prt → ByteArray → ByteArray
  | [], p, s => s
  | a :: l, p, s => numsB l p (s ++ putS (getA p a.off).toNat)
/-- an entry is appended -/
def entB (six : Bool) (e : Ent) (s : ByteArray) : ByteArray := (if six then s ++ putS e.f0.toNat else s) ++ (putS e.f1.toNat ++ (putS e.f2.size ++ e.f2))
def entsB (six : Bool) (l : List Ent) (s : ByteArray) : ByteArray := l.foldl (fun s e => entB six e s) s
/-- what a part of what is written anew has, as a number -/
def flagN (p : Prt) : Nat := if p.mrk then (if p.hed then 3 else 1) else (if p.hed then 2 else 0)
def headB (p : Prt) : ByteArray := putS p.g.toNat ++ putS p.k.toNat
def flagB (p : Prt) (s : ByteArray) : ByteArray := if p.k = 6 then s ++ putS (flagN p) else s
def midB (p : Prt) (s : ByteArray) : ByteArray := numsB (numA 0 (atK p.k p.mrk) (hdK p.k p.hed)) p s
def lenB (p : Prt) (s : ByteArray) : ByteArray := if p.k = 1 then s ++ (putS p.l.length ++ putS (el p.l 0).f0.toNat) else if p.k = 6 then s ++ putS p.l.length else s
/-- a part's bytes -/
def bytesP (p : Prt) : ByteArray := entsB (p.k == 6) p.l (lenB p (midB p (flagB p (headB p))))
def bytesR (p : Prt) : ByteArray × Nat := if isP p then (bytesP p, 0) else (⟨#[]⟩, 11)
theorem numsB_any (n : Nat) (a h : Bool) (p : Prt) (s : ByteArray) : numsB (numA n a h) p s = numsB (numA 0 a h) p s := by
  cases a <;> cases h <;> rfl
theorem isP_rng {p : Prt} (h : isP p = true) : (0 ≤ p.g ∧ p.g ≤ 999) ∧ (1 ≤ p.k ∧ p.k ≤ 6) ∧ (∀ o, 0 ≤ getA p o ∧ getA p o ≤ 1099511627776) ∧ p.l.length ≤ 6 ∧ (∀ i, i < p.l.length → isE (el p.l i) = true) ∧ (p.k = 1 → 0 < p.l.length) := by
  unfold isP at h
  rw [Bool.and_eq_true] at h
  obtain ⟨hg, h⟩ := h
  have hg := of_decide_eq_true hg
  have M0 : noM p = true → 0 ≤ p.ix ∧ p.ix ≤ 1099511627776 ∧ 0 ≤ p.tm ∧ p.tm ≤ 1099511627776 := fun h => by unfold noM at h; have := of_decide_eq_true h; omega
  have M1 : ∀ t, 0 ≤ t → isM p.ix p.tm t = true → 0 ≤ p.ix ∧ p.ix ≤ 1099511627776 ∧ 0 ≤ p.tm ∧ p.tm ≤ 1099511627776 := fun t ht h => by unfold isM at h; have := of_decide_eq_true h; omega
  have H0 : noH p = true → 0 ≤ p.ht ∧ p.ht ≤ 1099511627776 ∧ 0 ≤ p.hv ∧ p.hv ≤ 1099511627776 ∧ 0 ≤ p.hc ∧ p.hc ≤ 1099511627776 := fun h => by unfold noH at h; have := of_decide_eq_true h; omega
  have H1 : isH p.ht p.hv p.hc = true → 0 ≤ p.ht ∧ p.ht ≤ 1099511627776 ∧ 0 ≤ p.hv ∧ p.hv ≤ 1099511627776 ∧ 0 ≤ p.hc ∧ p.hc ≤ 1099511627776 := fun h => by unfold isH at h; have := of_decide_eq_true h; omega
  have L0 : noL p = true → p.l.length ≤ 6 ∧ ∀ i, i < p.l.length → isE (el p.l i) = true := fun h => by unfold noL at h; have := of_decide_eq_true h; exact ⟨by omega, fun i hi => by omega⟩
  have L1 : ∀ d, risB d p.l = true → p.l.length ≤ 6 ∧ ∀ i, i < p.l.length → isE (el p.l i) = true := fun d h => by
    unfold risB at h
    rw [Bool.and_eq_true] at h
    refine ⟨of_decide_eq_true h.2, fun i hi => ?_⟩
    have := List.all_eq_true.1 h.1 i (List.mem_range.2 hi)
    unfold okR at this
    rw [Bool.and_eq_true] at this
    exact this.1
  have fin : (0 ≤ p.ix ∧ p.ix ≤ 1099511627776 ∧ 0 ≤ p.tm ∧ p.tm ≤ 1099511627776) → (0 ≤ p.ht ∧ p.ht ≤ 1099511627776 ∧ 0 ≤ p.hv ∧ p.hv ≤ 1099511627776 ∧ 0 ≤ p.hc ∧ p.hc ≤ 1099511627776) → ∀ o, 0 ≤ getA p o ∧ getA p o ≤ 1099511627776 := fun a b o => by
    unfold getA
    split <;> omega
  by_cases k1 : p.k = 1
  · rw [if_pos k1] at h
    simp only [Bool.and_eq_true] at h
    obtain ⟨_, ⟨h1, h2⟩, h3, h4⟩ := h
    exact ⟨hg, by omega, fin (M0 h2) (H0 h1), (L1 _ h4).1, (L1 _ h4).2, fun _ => by unfold noL at h3; simpa using Nat.pos_of_ne_zero (by simpa using h3)⟩
  · rw [if_neg k1] at h
    by_cases k2 : p.k = 2
    · rw [if_pos k2] at h
      simp only [Bool.and_eq_true] at h
      obtain ⟨_, ⟨h1, h2⟩, h3⟩ := h
      exact ⟨hg, by omega, fin (M0 h2) (H1 h3), (L0 h1).1, (L0 h1).2, fun h => absurd h k1⟩
    · rw [if_neg k2] at h
      by_cases k3 : p.k = 3
      · rw [if_pos k3] at h
        simp only [Bool.and_eq_true] at h
        obtain ⟨_, ⟨h1, h2⟩, h3⟩ := h
        exact ⟨hg, by omega, fin (M1 0 (by omega) h3) (H0 h2), (L0 h1).1, (L0 h1).2, fun h => absurd h k1⟩
      · rw [if_neg k3] at h
        by_cases k4 : p.k = 4
        · rw [if_pos k4] at h
          simp only [Bool.and_eq_true] at h
          obtain ⟨_, ⟨h1, h2⟩, h3⟩ := h
          exact ⟨hg, by omega, fin (M1 1 (by omega) h3) (H0 h2), (L0 h1).1, (L0 h1).2, fun h => absurd h k1⟩
        · rw [if_neg k4] at h
          by_cases k5 : p.k = 5
          · rw [if_pos k5] at h
            simp only [Bool.and_eq_true] at h
            obtain ⟨_, ⟨h1, h2⟩, h3⟩ := h
            exact ⟨hg, by omega, fin (M0 h3) (H0 h2), (L0 h1).1, (L0 h1).2, fun h => absurd h k1⟩
          · rw [if_neg k5] at h
            by_cases k6 : p.k = 6
            · rw [if_pos k6] at h
              simp only [Bool.and_eq_true] at h
              obtain ⟨⟨⟨h1, _⟩, h2⟩, h3⟩ := h
              refine ⟨hg, by omega, fin ?_ ?_, (L1 _ h1).1, (L1 _ h1).2, fun h => absurd h k1⟩
              · split at h2
                · exact M1 1 (by omega) h2
                · exact M0 h2
              · split at h3
                · exact H1 h3
                · exact H0 h3
            · rw [if_neg k6] at h; cases h
theorem isE_rng' {e : Ent} (h : isE e = true) : (0 ≤ e.f0 ∧ e.f0 ≤ 1099511627776) ∧ (0 ≤ e.f1 ∧ e.f1 ≤ 1099511627776) ∧ e.f2.size ≤ 40 := by
  unfold isE at h
  have := of_decide_eq_true h
  omega
theorem putS_le {n : Int} (h : 0 ≤ n ∧ n ≤ 1099511627776) : (putS n.toNat).size ≤ 9 := by rw [putS_size]; exact putB_nine (by omega)
theorem putS_leN {n : Nat} (h : n ≤ 1099511627776) : (putS n).size ≤ 9 := by rw [putS_size]; exact putB_nine (by omega)
theorem numsB_drop {xs : List Addr} {k : Nat} {x : Addr} (h : xs[k]? = some x) (p : Prt) (s : ByteArray) : numsB (xs.drop k) p s = numsB (xs.drop (k + 1)) p (s ++ putS (getA p x.off).toNat) := by
  obtain ⟨hk, rfl⟩ := List.getElem?_eq_some_iff.1 h
  rw [List.drop_eq_getElem_cons hk]; rfl
theorem numA_len (n : Nat) (a h : Bool) : (numA n a h).length ≤ 5 := by cases a <;> cases h <;> simp [numA]
theorem entsB_drop (six : Bool) (l : List Ent) {k : Nat} (h : k < l.length) (s : ByteArray) : entsB six (l.drop k) s = entsB six (l.drop (k + 1)) (entB six (el l k) s) := by
  rw [List.drop_eq_getElem_cons h, el_get h]; rfl
end Go.Proofs.Ytokjhocjemjfiaa.Sp
namespace Go.Proofs.Ytokjhocjemjfiaa.PartW
open Go Go.RowKit Go.Shelf Go.Proofs.Ytokjhocjemjfiaa.A Go.Proofs.Ytokjhocjemjfiaa.Sp Go.Proofs.Ytokjhocjemjfiaa.Reg Go.Proofs.Ytokjhocjemjfiaa.Seq Go.Proofs.Ytokjhocjemjfiaa.CodeW Go.Proofs.Ytokjhocjemjfiaa.CodeM Go.Proofs.Ytokjhocjemjfiaa.CodeQ Go.Proofs.Ytokjhocjemjfiaa.Given Go.Proofs.YtokjhocjemjfiaaW.PrintWords Go.Proofs.YtokjhocjemjfiaaW.PrintLast Go.Proofs.YtokjhocjemjfiaaW.PrintMore
/-- what lies while a part's bytes are made: the part, the bytes so far -/
structure BCt (p : Prt) (A : Option Addr) (c n0 n1 : Nat) (S : ByteArray) (w W : World) : Prop where
  hp : BlkP p A c n0 W
  hx : Boxed W n1 9 (.string S)
  hr : Rd W A c p.l
  ag : ∀ q, inA A p.l q → q < w.heap.size
  hb : Below w.heap.size w W
  lt : w.heap.size ≤ n0 ∧ n0 < n1
section
variable {p : Prt} {A : Option Addr} {c n0 n1 n2 : Nat} {S : ByteArray} {w W W' : World}
theorem BCt.only {U : Nat → Prop} (h : BCt p A c n0 n1 S w W) (ho : Only U W W') (hU : ∀ q, U q → n1 < q) : BCt p A c n0 n1 S w W' := by
  have hl := h.lt
  exact ⟨h.hp.only ho (fun h' => by have := hU _ h'; omega), ho.boxed h.hx (fun h' => by have := hU _ h'; omega), h.hr.only ho (fun q hq h' => by have := hU _ h'; have := h.ag q hq; omega), h.ag, h.hb.trans (ho.below h.hb.size (fun q hq h' => by have := hU _ h'; omega)), hl⟩
theorem BCt.below (h : BCt p A c n0 n1 S w W) (hb : Below W.heap.size W W') : BCt p A c n0 n1 S w W' := h.only (U := fun _ => False) ⟨hb.os, hb.tape, hb.output, hb.size, fun k hk _ => hb.block k hk⟩ (fun q hq => hq.elim)
theorem BCt.drew (h : BCt p A c n0 n1 S w W) : BCt p A c n0 n1 S w W.drew := h.below (below_drew (Below.refl _ _))
theorem BCt.alloc (h : BCt p A c n0 n1 S w W) (o : Obj) : BCt p A c n0 n1 S w (W.alloc o) := h.below ((Below.refl _ _).alloc (Nat.le_refl _) _)
theorem BCt.put (h : BCt p A c n0 n1 S w W) (X : ByteArray) : BCt p A c n0 n1 X w (W.setCell ⟨n1, 0, none⟩ (.string X)) := by
  have hl := h.lt
  have ho : Only (fun q => q = n1) W (W.setCell ⟨n1, 0, none⟩ (.string X)) := (Only.refl (fun q => q = n1) W).setCell (p := ⟨n1, 0, none⟩) rfl _
  exact ⟨h.hp.only ho (fun h' => by have h2 : n0 = n1 := h'; omega), h.hx.set _, h.hr.only ho (fun q hq h' => by have h2 : q = n1 := h'; have := h.ag q hq; omega), h.ag, h.hb.trans (ho.below h.hb.size (fun q hq h' => by have h2 : q = n1 := h'; omega)), hl⟩
/-- with the mark of a loop that is done -/
structure BCd (p : Prt) (A : Option Addr) (c n0 n1 n2 : Nat) (S : ByteArray) (w W : World) : Prop where
  h : BCt p A c n0 n1 S w W
  d : W.heap[n2]? = some (.deferred (some []))
  n : n1 < n2
theorem BCd.below (h : BCd p A c n0 n1 n2 S w W) (hb : Below W.heap.size W W') : BCd p A c n0 n1 n2 S w W' := ⟨h.h.below hb, (hb.block _ (Array.getElem?_eq_some_iff.1 h.d).1).trans h.d, h.n⟩
theorem BCd.drew (h : BCd p A c n0 n1 n2 S w W) : BCd p A c n0 n1 n2 S w W.drew := h.below (below_drew (Below.refl _ _))
theorem BCd.alloc (h : BCd p A c n0 n1 n2 S w W) (o : Obj) : BCd p A c n0 n1 n2 S w (W.alloc o) := h.below ((Below.refl _ _).alloc (Nat.le_refl _) _)
theorem BCd.put (h : BCd p A c n0 n1 n2 S w W) (X : ByteArray) : BCd p A c n0 n1 n2 X w (W.setCell ⟨n1, 0, none⟩ (.string X)) :=
  ⟨h.h.put X, (((Only.refl (fun q => q = n1) W).setCell (p := ⟨n1, 0, none⟩) rfl (.string X)).block _ (Array.getElem?_eq_some_iff.1 h.d).1 (fun h' => by have h2 : n2 = n1 := h'; have := h.n; omega)).trans h.d, h.n⟩
end
theorem putc (n : Int) (h : 0 ≤ n ∧ n ≤ 1099511627776) (w : World) {X : ByteArray} (hx : putS n.toNat = X) : Calls Try.prog 22 #[.int .i64 n] w fun e w' => e = .returned (.string X) ∧ Below w.heap.size w w' := by
  rw [← hx]; exact put_calls n (by omega) (by omega) w
theorem txtc (s : ByteArray) (h : s.size ≤ 40) (w : World) {X : ByteArray} (hx : putS s.size ++ s = X) : Calls Try.prog 25 #[.string s] w fun e w' => e = .returned (.string X) ∧ Below w.heap.size w w' := by
  rw [← hx]; exact code_Text.calls s _ w (Text_f s (by omega))
theorem flagc (p : Prt) (A : Option Addr) (c : Nat) (w : World) (h : Rd w A c p.l) {n : Nat} (hn : flagN p = n) : Calls Try.prog 23 #[vP p A c] w fun e w' => e = .returned (.int .i64 (n : Int)) ∧ Below w.heap.size w w' := by
  refine part_flags.calls p.g p.k A c p.l p.ht p.hv p.hc p.ix p.tm p.mrk p.hed _ w h.rd h.le ?_
  rw [← hn]
  unfold part_flags.f flagN
  cases p.mrk <;> cases p.hed <;> decide
theorem BlkE.below' {x : Ent} {B : Nat} {W W' : World} (h : BlkE x B W) (hb : Below W.heap.size W W') : BlkE x B W' := (hb.block _ (Array.getElem?_eq_some_iff.1 h).1).trans h
theorem Rd.first {w : World} {ad : Addr} {c : Nat} {l : List Ent} {x : Ent} (h : Rd w (some ad) c l) (hl : 0 < l.length) (hx : el l 0 = x) : w.cell? ad = some (.int .i64 x.f0) := by
  obtain ⟨ad', e, g0, _, _⟩ := h.at_ hl
  cases e
  rw [hx] at g0
  rwa [show ad.add (0 * 3) = ad by unfold Addr.add; simp] at g0
set_option maxHeartbeats 4000000 in
set_option maxRecDepth 100000 in
theorem by_7 (p : Prt) (A : Option Addr) (c n0 n1 n2 : Nat) (S X : ByteArray) (w W : World) (C : Code) (hC : (match Try.f12.body with | some (.seq _ (.seq _ (.seq _ (.seq _ (.seq _ (.seq _ (.seq _ c))))))) => c | _ => .skip) = C) (u0 u5 u6 u7 u8 u9 u10 u11 u12 u13 u14 u15 u16 u17 u18 u19 u20 u21 u22 u23 u24 u25 u26 u27 u28 u29 u30 u31 u32 u33 u34 u35 u36 u37 u38 u39 u40 u41 u42 u43 u44 u45 u46 u47 u48 u49 u50 u51 u52 u53 u54 u55 u56 u57 u58 u59 u60 u61 u62 u63 u64 u65 u66 u67 u68 u69 u70 u71 u72 u73 u74 u75 u76 u77 u78 u79 u80 u81 u82 u83 u84 : Value) (hh : BCd p A c n0 n1 n2 S w W) (hX : S = X) :
  C.wp Try.prog (bodyPostR Fence.wide 0 Try.prog Try.f12 (fun r w' => r = .returned (.tuple #[.string X, .int .i64 ((0 : Nat) : Int)]) ∧ Below w.heap.size w w')) { tmps := #[u0, .pointer (some ⟨n0, 0, none⟩), .string ⟨#[]⟩, .int .i64 0, .pointer (some ⟨n1, 0, none⟩), u5, u6, u7, u8, u9, u10, u11, u12, u13, u14, u15, u16, u17, u18, u19, u20, u21, u22, u23, u24, u25, u26, u27, u28, u29, u30, u31, u32, u33, u34, u35, u36, u37, u38, u39, u40, u41, u42, u43, u44, u45, u46, u47, u48, u49, u50, u51, u52, u53, u54, u55, u56, u57, u58, u59, u60, u61, u62, u63, u64, u65, u66, u67, u68, u69, u70, u71, u72, u73, u74, u75, u76, u77, u78, u79, u80, u81, u82, u83, u84], defers := [{ target := .collected n2, args := #[] }] } W := by
 have HH := Aside0.mk hh
 clear hh
 simp only [Try.f12] at hC
 subst hC
 subst hX
 have x0 := HH.out.h.hx.cell
 go_wp2
 clear x0
 refine Marks.leaves (n₀ := n2) ((show Marks n2 [] _ from trivial).cons HH.out.d (Nat.le_refl _) (by simp)) fun W' hW' => ?_
 refine ⟨.tuple #[.string S, .int .i64 0], by simp [results, Try.results12, go_sem], rfl, HH.out.h.hb.trans (hW'.below HH.out.h.hb.size (fun q hq h => by have h1 := h.1; have h2 := HH.out.n; have h3 := HH.out.h.lt; omega))⟩
set_option maxHeartbeats 4000000 in
set_option maxRecDepth 100000 in
theorem by_6_f (p : Prt) (A : Option Addr) (c n0 n1 n2 : Nat) (S X : ByteArray) (w W : World) (C : Code) (hC : (match Try.f12.body with | some (.seq _ (.seq _ (.seq _ (.seq _ (.seq _ (.seq _ c)))))) => c | _ => .skip) = C) (u0 u5 u6 u7 u8 u9 u10 u11 u12 u13 u14 u15 u16 u17 u18 u19 u20 u21 u22 u23 u24 u25 u26 u27 u28 u29 u30 u31 u32 u33 u34 u35 u36 u37 u38 u39 u40 u41 u42 u43 u44 u45 u46 u47 u48 u49 u50 u51 u52 u53 u54 u55 u56 u57 u58 u59 u60 u61 u62 u63 u64 u65 u66 u67 u68 u69 u70 u71 u72 u73 u74 u75 u76 u77 u78 u79 u80 u81 u82 u83 u84 : Value) (hh : BCd p A c n0 n1 n2 S w W) (hlen : p.l.length ≤ 6) (hent : ∀ i, i < p.l.length → isE (el p.l i) = true) (hsz : S.size ≤ 1000) (h6 : (p.k == 6) = false) (hX : entsB (p.k == 6) p.l S = X) :
  C.wp Try.prog (bodyPostR Fence.wide 0 Try.prog Try.f12 (fun r w' => r = .returned (.tuple #[.string X, .int .i64 ((0 : Nat) : Int)]) ∧ Below w.heap.size w w')) { tmps := #[u0, .pointer (some ⟨n0, 0, none⟩), .string ⟨#[]⟩, .int .i64 0, .pointer (some ⟨n1, 0, none⟩), u5, u6, u7, u8, u9, u10, u11, u12, u13, u14, u15, u16, u17, u18, u19, u20, u21, u22, u23, u24, u25, u26, u27, u28, u29, u30, u31, u32, u33, u34, u35, u36, u37, u38, u39, u40, u41, u42, u43, u44, u45, u46, u47, u48, u49, u50, u51, u52, u53, u54, u55, u56, u57, u58, u59, u60, u61, u62, u63, u64, u65, u66, u67, u68, u69, u70, u71, u72, u73, u74, u75, u76, u77, u78, u79, u80, u81, u82, u83, u84], defers := [{ target := .collected n2, args := #[] }] } W := by
 have HH := Aside0.mk hh
 clear hh
 simp only [Try.f12] at hC
 subst hC
 have HK := Aside0.mk (And.intro hlen hent)
 have HX := Aside0.mk hX
 have HZ := Aside0.mk hsz
 have k6 : (p.k == 6) = false := h6
 rw [h6] at HX
 clear h6 hlen hent hX hsz
 obtain ⟨C7, hC7⟩ : ∃ C, (match Try.f12.body with | some (.seq _ (.seq _ (.seq _ (.seq _ (.seq _ (.seq _ (.seq _ c))))))) => c | _ => .skip) = C := ⟨_, rfl⟩
 have HC7 := Aside0.mk hC7
 simp only [Try.f12] at hC7
 rw [hC7]
 clear hC7
 obtain ⟨y0, y1, y2, y3, y4, y5, y6, y7, y8, y9⟩ := HH.out.h.hp.box
 have x0 := HH.out.h.hx.cell
 have xf := HH.out.h.hx.frozen
 have hlen6 : p.l.length ≤ 4398046511104 := by have := HK.out.1; omega
 go_wp2_with fail
 clear y0 y1 y2 y3 y4 y5 y6 y7 y8 y9 x0 xf
 have HI1 : Aside0 (∃ S', X = entsB false (p.l.drop 0) S' ∧ S'.size ≤ 1000 + 67 * 0 ∧ BCd p A c n0 n1 n2 S' w W) := ⟨S, by rw [List.drop_zero]; exact HX.out.symm, by have := HZ.out; omega, HH.out⟩
 go_loopw [62] (fun v wr => ∃ k : Nat, k ≤ p.l.length ∧ v = .int .i64 (k : Int) ∧ Aside0 (∃ S', X = entsB false (p.l.drop k) S' ∧ S'.size ≤ 1000 + 67 * k ∧ BCd p A c n0 n1 n2 S' w wr)) (fun v _ => p.l.length - (intOf v).toNat)
 case atStart => exact ⟨0, Nat.zero_le _, rfl, HI1⟩
 case round =>
   obtain ⟨k, hk, rfl, HI⟩ := hrel
   obtain ⟨S', hE, hs, hh⟩ := HI.out
   clear HH HI HI1 HX HZ
   have HH := Aside0.mk hh
   have HS := Aside0.mk hs
   have HEQ := Aside0.mk hE
   clear hh hs hE
   by_cases hlt : k < p.l.length
   · have d1 : decide ((k : Int) < (p.l.length : Int)) = true := decide_eq_true (by omega)
     have d2 : decide (k < p.l.length) = true := decide_eq_true hlt
     have hk4 : IntKind.i64.wrap ((k : Int) + 1) = (k : Int) + 1 := by rw [i64_w]; unfold wrap64; omega
     have hi0 : (0 : Int) ≤ (k : Int) := by omega
     have hi1 : (k : Int) < (p.l.length : Int) := by omega
     obtain ⟨ad, hA, g0, g1, g2⟩ := HH.out.h.hr.at_ hlt
     subst hA
     obtain ⟨x, hx⟩ : ∃ x, el p.l k = x := ⟨_, rfl⟩
     rw [hx] at g0 g1 g2
     have hE := HK.out.2 k hlt
     rw [hx] at hE
     have HRX := Aside0.mk (isE_rng' hE)
     have HEL := Aside0.mk hx
     clear hx hE
     obtain ⟨n7, hn7⟩ : ∃ n, wr.heap.size = n := ⟨_, rfl⟩
     have hbe := BlkE.new x wr
     rw [hn7] at hbe
     have h17 : n1 < n7 := by rw [← hn7]; exact (Array.getElem?_eq_some_iff.1 HH.out.h.hx).1
     have y1 : (wr.alloc (.cells #[.int .i64 x.f0, .int .i64 x.f1, .string x.f2] 28)).cell? ⟨n0, 1, none⟩ = some (.int .i64 p.k) := ((HH.out.h.hp.alloc _).box).2.1
     go_wp2_with fail
     clear y1 g0 g1 g2
     have HE := Aside0.mk hbe
     replace HH := Aside0.mk (HH.out.alloc (.cells #[.int .i64 x.f0, .int .i64 x.f1, .string x.f2] 28))
     obtain ⟨W5, hW⟩ : ∃ X, wr.alloc (.cells #[.int .i64 x.f0, .int .i64 x.f1, .string x.f2] 28) = X := ⟨_, rfl⟩
     rw [hW] at HE HH ⊢
     clear hW hbe hn7
     obtain ⟨X1, hX1⟩ : ∃ Y, putS x.f1.toNat = Y := ⟨_, rfl⟩
     have EX1 := Aside0.mk hX1
     have HZ1 : Aside0 (X1.size ≤ 9) := ⟨by rw [← hX1]; exact putS_le HRX.out.2.1⟩
     obtain ⟨X2, hX2⟩ : ∃ Y, putS x.f2.size ++ x.f2 = Y := ⟨_, rfl⟩
     have EX2 := Aside0.mk hX2
     have HZ2 : Aside0 (X2.size ≤ 49) := ⟨by rw [← hX2, app_size]; have h1 := HRX.out.2.2; have := putS_leN (n := x.f2.size) (by omega); omega⟩
     clear hX1 hX2
     have hs1 : (9223372036854775807 < X1.size + X2.size) = False := eq_false (by have := HZ1.out; have := HZ2.out; omega)
     have hs2 : (9223372036854775807 < S'.size + (X1 ++ X2).size) = False := eq_false (by rw [app_size]; have := HS.out; have := HZ1.out; have := HZ2.out; have := HK.out.1; omega)
     have hs3 : (9223372036854775807 < S'.size + (X1.size + X2.size)) = False := eq_false (by have := HS.out; have := HZ1.out; have := HZ2.out; have := HK.out.1; omega)
     replace HH := Aside0.mk HH.out.drew
     replace HE : Aside0 (BlkE x n7 W5.drew) := ⟨HE.out⟩
     refine start_ (n := 10) (S := (fun w' => w'.cell? ⟨n1, 0, none⟩ = some (.string S') ∧ BoxE x n7 w')) (ds := [9]) #[false,false,false,false,false,false,false,false,false,false] (by kernel_rfl) rfl rfl ⟨HH.out.h.hx.cell, HE.out.box⟩ (fun hHeld => ?_)
     obtain ⟨W9, hW⟩ : ∃ X, W5.drew = X := ⟨_, rfl⟩
     rw [hW] at hHeld HH HE ⊢
     clear hW
     refine take_ (i := 0) (N := some 74) (v := ?_) (a' := ?_) #[true,false,false,false,false,false,false,false,false,false] rfl rfl (by kernel_rfl) (fun _ _ _ h => h) (Or.inl ⟨by rfl, ?_⟩) hHeld ?_ ?_
     rotate_left
     · rintro w' ⟨x0, e0, e1, e2⟩
       go_simp
       try with_reducible rfl
     rotate_left
     · simp only [Act.put, sA, sB, sC]
       rfl
     refine pure_ (i := 1) (N := some 75) (v := ?_) (a' := ?_) #[true,true,false,false,false,false,false,false,false,false] rfl rfl (by kernel_rfl) (fun _ _ _ h => h) (Or.inl ⟨by rfl, ?_⟩) ?_ ?_
     rotate_left
     · intro w'
       go_simp
       try with_reducible rfl
     rotate_left
     · simp only [Act.put, sA, sB, sC]
       rfl
     refine take_ (i := 2) (N := some 76) (v := ?_) (a' := ?_) #[true,true,true,false,false,false,false,false,false,false] rfl rfl (by kernel_rfl) (fun _ _ _ h => h) (Or.inl ⟨by rfl, ?_⟩) hHeld ?_ ?_
     rotate_left
     · rintro w' ⟨x0, e0, e1, e2⟩
       go_simp
       try with_reducible rfl
     rotate_left
     · simp only [Act.put, sA, sB, sC]
       rfl
     refine pure_ (i := 4) (N := some 78) (v := ?_) (a' := ?_) #[true,true,true,false,true,false,false,false,false,false] rfl rfl (by kernel_rfl) (fun _ _ _ h => h) (Or.inl ⟨by rfl, ?_⟩) ?_ ?_
     rotate_left
     · intro w'
       go_simp
       try with_reducible rfl
     rotate_left
     · simp only [Act.put, sA, sB, sC]
       rfl
     refine take_ (i := 5) (N := some 79) (v := ?_) (a' := ?_) #[true,true,true,false,true,true,false,false,false,false] rfl rfl (by kernel_rfl) (fun _ _ _ h => h) (Or.inl ⟨by rfl, ?_⟩) hHeld ?_ ?_
     rotate_left
     · rintro w' ⟨x0, e0, e1, e2⟩
       go_simp
       try with_reducible rfl
     rotate_left
     · simp only [Act.put, sA, sB, sC]
       rfl
     refine one_ (i := 3) (N := some 77) #[true,true,true,true,true,true,false,false,false,false] rfl rfl (by kernel_rfl) (by decide) (fun K hK => ?_)
     go_simp
     refine (putc x.f1 HRX.out.2.1 _ EX1.out).mono ?_; rintro r w10 ⟨rfl, hw⟩; replace HH := Aside0.mk (HH.out.below hw); replace HE := Aside0.mk (HE.out.below' hw); clear hw
     refine hK.out _ _ ?_ (fun hHeld => ?_)
     · exact ⟨HH.out.h.hx.cell, HE.out.box⟩
     clear hK K
     try simp only [Act.put, sA, sB, sC]
     refine one_ (i := 6) (N := some 80) #[true,true,true,true,true,true,true,false,false,false] rfl rfl (by kernel_rfl) (by decide) (fun K hK => ?_)
     go_simp
     refine (txtc x.f2 HRX.out.2.2 _ EX2.out).mono ?_; rintro r w11 ⟨rfl, hw⟩; replace HH := Aside0.mk (HH.out.below hw); replace HE := Aside0.mk (HE.out.below' hw); clear hw
     refine hK.out _ _ ?_ (fun hHeld => ?_)
     · exact ⟨HH.out.h.hx.cell, HE.out.box⟩
     clear hK K
     try simp only [Act.put, sA, sB, sC]
     have x0 := HH.out.h.hx.cell
     have xf := HH.out.h.hx.frozen
     refine pure_ (i := 7) (N := some 81) (v := ?_) (a' := ?_) #[true,true,true,true,true,true,true,true,false,false] rfl rfl (by kernel_rfl) (fun _ _ _ h => h) (Or.inl ⟨by rfl, ?_⟩) ?_ ?_
     rotate_left
     · intro w'
       go_simp
       try with_reducible rfl
     rotate_left
     · simp only [Act.put, sA, sB, sC]
       rfl
     refine pure_ (i := 8) (N := some 82) (v := ?_) (a' := ?_) #[true,true,true,true,true,true,true,true,true,false] rfl rfl (by kernel_rfl) (fun _ _ _ h => h) (Or.inl ⟨by rfl, ?_⟩) ?_ ?_
     rotate_left
     · intro w'
       go_simp
       try with_reducible rfl
     rotate_left
     · simp only [Act.put, sA, sB, sC]
       rfl
     refine last_ (i := 9) (N := none) #[true,true,true,true,true,true,true,true,true,true] rfl rfl (by kernel_rfl) (by decide) (fun K hK => ?_)
     go_simp
     refine hK.out _ _ ?_
     clear hK K
     try simp only [Act.put, sA, sB, sC]
     refine done_ (by kernel_rfl) ?_
     clear x0 xf
     have h9 := HH.out.put (S' ++ (X1 ++ X2))
     have hq : S' ++ (X1 ++ X2) = entB false x S' := by unfold entB; rw [if_neg (by decide), EX1.out, EX2.out]
     have hq2 : (S' ++ (X1 ++ X2)).size ≤ 1000 + 67 * (k + 1) := by rw [app_size, app_size]; have := HS.out; have := HZ1.out; have := HZ2.out; omega
     rw [hq] at hq2
     have HQ := Aside0.mk hq2
     have h10 := h9
     rw [hq] at h10
     have HQ9 := Aside0.mk h10
     clear h9 h10 hq2
     go_wp2_with fail
     go_roundw
     case rel => exact ⟨k + 1, by omega, by go_num, ⟨entB false x S', by rw [HEQ.out, entsB_drop _ _ hlt, HEL.out], HQ.out, by first | exact HQ9.out | (rw [← hq] at HQ9; exact HQ9.out)⟩⟩
     case measure => simp [intOf]; omega
   · have d1 : decide ((k : Int) < (p.l.length : Int)) = false := decide_eq_false (by omega)
     have d2 : decide (k < p.l.length) = false := decide_eq_false hlt
     have hX : S' = X := by rw [HEQ.out, List.drop_of_length_le (by omega)]; rfl
     clear HEQ
     subst hX
     go_wp2_with fail
     exact by_7 p A c n0 n1 n2 S' S' w wr C7 HC7.out _ _ _ _ _ _ _ _ _ _ _ _ _ _ _ _ _ _ _ _ _ _ _ _ _ _ _ _ _ _ _ _ _ _ _ _ _ _ _ _ _ _ _ _ _ _ _ _ _ _ _ _ _ _ _ _ _ _ _ _ _ _ _ _ _ _ _ _ _ _ _ _ _ _ _ _ _ _ _ _ _ HH.out rfl
set_option maxHeartbeats 4000000 in
set_option maxRecDepth 100000 in
theorem by_6_t (p : Prt) (A : Option Addr) (c n0 n1 n2 : Nat) (S X : ByteArray) (w W : World) (C : Code) (hC : (match Try.f12.body with | some (.seq _ (.seq _ (.seq _ (.seq _ (.seq _ (.seq _ c)))))) => c | _ => .skip) = C) (u0 u5 u6 u7 u8 u9 u10 u11 u12 u13 u14 u15 u16 u17 u18 u19 u20 u21 u22 u23 u24 u25 u26 u27 u28 u29 u30 u31 u32 u33 u34 u35 u36 u37 u38 u39 u40 u41 u42 u43 u44 u45 u46 u47 u48 u49 u50 u51 u52 u53 u54 u55 u56 u57 u58 u59 u60 u61 u62 u63 u64 u65 u66 u67 u68 u69 u70 u71 u72 u73 u74 u75 u76 u77 u78 u79 u80 u81 u82 u83 u84 : Value) (hh : BCd p A c n0 n1 n2 S w W) (hlen : p.l.length ≤ 6) (hent : ∀ i, i < p.l.length → isE (el p.l i) = true) (hsz : S.size ≤ 1000) (h6 : (p.k == 6) = true) (hX : entsB (p.k == 6) p.l S = X) :
  C.wp Try.prog (bodyPostR Fence.wide 0 Try.prog Try.f12 (fun r w' => r = .returned (.tuple #[.string X, .int .i64 ((0 : Nat) : Int)]) ∧ Below w.heap.size w w')) { tmps := #[u0, .pointer (some ⟨n0, 0, none⟩), .string ⟨#[]⟩, .int .i64 0, .pointer (some ⟨n1, 0, none⟩), u5, u6, u7, u8, u9, u10, u11, u12, u13, u14, u15, u16, u17, u18, u19, u20, u21, u22, u23, u24, u25, u26, u27, u28, u29, u30, u31, u32, u33, u34, u35, u36, u37, u38, u39, u40, u41, u42, u43, u44, u45, u46, u47, u48, u49, u50, u51, u52, u53, u54, u55, u56, u57, u58, u59, u60, u61, u62, u63, u64, u65, u66, u67, u68, u69, u70, u71, u72, u73, u74, u75, u76, u77, u78, u79, u80, u81, u82, u83, u84], defers := [{ target := .collected n2, args := #[] }] } W := by
 have HH := Aside0.mk hh
 clear hh
 simp only [Try.f12] at hC
 subst hC
 have HK := Aside0.mk (And.intro hlen hent)
 have HX := Aside0.mk hX
 have HZ := Aside0.mk hsz
 have k6 : (p.k == 6) = true := h6
 rw [h6] at HX
 clear h6 hlen hent hX hsz
 obtain ⟨C7, hC7⟩ : ∃ C, (match Try.f12.body with | some (.seq _ (.seq _ (.seq _ (.seq _ (.seq _ (.seq _ (.seq _ c))))))) => c | _ => .skip) = C := ⟨_, rfl⟩
 have HC7 := Aside0.mk hC7
 simp only [Try.f12] at hC7
 rw [hC7]
 clear hC7
 obtain ⟨y0, y1, y2, y3, y4, y5, y6, y7, y8, y9⟩ := HH.out.h.hp.box
 have x0 := HH.out.h.hx.cell
 have xf := HH.out.h.hx.frozen
 have hlen6 : p.l.length ≤ 4398046511104 := by have := HK.out.1; omega
 go_wp2_with fail
 clear y0 y1 y2 y3 y4 y5 y6 y7 y8 y9 x0 xf
 have HI1 : Aside0 (∃ S', X = entsB true (p.l.drop 0) S' ∧ S'.size ≤ 1000 + 67 * 0 ∧ BCd p A c n0 n1 n2 S' w W) := ⟨S, by rw [List.drop_zero]; exact HX.out.symm, by have := HZ.out; omega, HH.out⟩
 go_loopw [62] (fun v wr => ∃ k : Nat, k ≤ p.l.length ∧ v = .int .i64 (k : Int) ∧ Aside0 (∃ S', X = entsB true (p.l.drop k) S' ∧ S'.size ≤ 1000 + 67 * k ∧ BCd p A c n0 n1 n2 S' w wr)) (fun v _ => p.l.length - (intOf v).toNat)
 case atStart => exact ⟨0, Nat.zero_le _, rfl, HI1⟩
 case round =>
   obtain ⟨k, hk, rfl, HI⟩ := hrel
   obtain ⟨S', hE, hs, hh⟩ := HI.out
   clear HH HI HI1 HX HZ
   have HH := Aside0.mk hh
   have HS := Aside0.mk hs
   have HEQ := Aside0.mk hE
   clear hh hs hE
   by_cases hlt : k < p.l.length
   · have d1 : decide ((k : Int) < (p.l.length : Int)) = true := decide_eq_true (by omega)
     have d2 : decide (k < p.l.length) = true := decide_eq_true hlt
     have hk4 : IntKind.i64.wrap ((k : Int) + 1) = (k : Int) + 1 := by rw [i64_w]; unfold wrap64; omega
     have hi0 : (0 : Int) ≤ (k : Int) := by omega
     have hi1 : (k : Int) < (p.l.length : Int) := by omega
     obtain ⟨ad, hA, g0, g1, g2⟩ := HH.out.h.hr.at_ hlt
     subst hA
     obtain ⟨x, hx⟩ : ∃ x, el p.l k = x := ⟨_, rfl⟩
     rw [hx] at g0 g1 g2
     have hE := HK.out.2 k hlt
     rw [hx] at hE
     have HRX := Aside0.mk (isE_rng' hE)
     have HEL := Aside0.mk hx
     clear hx hE
     obtain ⟨n7, hn7⟩ : ∃ n, wr.heap.size = n := ⟨_, rfl⟩
     have hbe := BlkE.new x wr
     rw [hn7] at hbe
     have h17 : n1 < n7 := by rw [← hn7]; exact (Array.getElem?_eq_some_iff.1 HH.out.h.hx).1
     have y1 : (wr.alloc (.cells #[.int .i64 x.f0, .int .i64 x.f1, .string x.f2] 28)).cell? ⟨n0, 1, none⟩ = some (.int .i64 p.k) := ((HH.out.h.hp.alloc _).box).2.1
     go_wp2_with fail
     clear y1 g0 g1 g2
     have HE := Aside0.mk hbe
     replace HH := Aside0.mk (HH.out.alloc (.cells #[.int .i64 x.f0, .int .i64 x.f1, .string x.f2] 28))
     obtain ⟨W5, hW⟩ : ∃ X, wr.alloc (.cells #[.int .i64 x.f0, .int .i64 x.f1, .string x.f2] 28) = X := ⟨_, rfl⟩
     rw [hW] at HE HH ⊢
     clear hW hbe hn7
     obtain ⟨X0, hX0⟩ : ∃ Y, putS x.f0.toNat = Y := ⟨_, rfl⟩
     have EX0 := Aside0.mk hX0
     have HZ0 : Aside0 (X0.size ≤ 9) := ⟨by rw [← hX0]; exact putS_le HRX.out.1⟩
     clear hX0
     have hsum : (9223372036854775807 < S'.size + X0.size) = False := eq_false (by have := HS.out; have := HZ0.out; have := HK.out.1; omega)
     replace HH := Aside0.mk HH.out.drew
     replace HE : Aside0 (BlkE x n7 W5.drew) := ⟨HE.out⟩
     refine start_ (n := 6) (S := (fun w' => w'.cell? ⟨n1, 0, none⟩ = some (.string S') ∧ BoxE x n7 w')) (ds := [5]) #[false,false,false,false,false,false] (by kernel_rfl) rfl rfl ⟨HH.out.h.hx.cell, HE.out.box⟩ (fun hHeld => ?_)
     obtain ⟨W6, hW⟩ : ∃ X, W5.drew = X := ⟨_, rfl⟩
     rw [hW] at hHeld HH HE ⊢
     clear hW
     refine take_ (i := 0) (N := some 69) (v := ?_) (a' := ?_) #[true,false,false,false,false,false] rfl rfl (by kernel_rfl) (fun _ _ _ h => h) (Or.inl ⟨by rfl, ?_⟩) hHeld ?_ ?_
     rotate_left
     · rintro w' ⟨x0, e0, e1, e2⟩
       go_simp
       try with_reducible rfl
     rotate_left
     · simp only [Act.put, sA, sB, sC]
       rfl
     refine pure_ (i := 1) (N := some 70) (v := ?_) (a' := ?_) #[true,true,false,false,false,false] rfl rfl (by kernel_rfl) (fun _ _ _ h => h) (Or.inl ⟨by rfl, ?_⟩) ?_ ?_
     rotate_left
     · intro w'
       go_simp
       try with_reducible rfl
     rotate_left
     · simp only [Act.put, sA, sB, sC]
       rfl
     refine take_ (i := 2) (N := some 71) (v := ?_) (a' := ?_) #[true,true,true,false,false,false] rfl rfl (by kernel_rfl) (fun _ _ _ h => h) (Or.inl ⟨by rfl, ?_⟩) hHeld ?_ ?_
     rotate_left
     · rintro w' ⟨x0, e0, e1, e2⟩
       go_simp
       try with_reducible rfl
     rotate_left
     · simp only [Act.put, sA, sB, sC]
       rfl
     refine one_ (i := 3) (N := some 72) #[true,true,true,true,false,false] rfl rfl (by kernel_rfl) (by decide) (fun K hK => ?_)
     go_simp
     refine (putc x.f0 HRX.out.1 _ EX0.out).mono ?_; rintro r w7 ⟨rfl, hw⟩; replace HH := Aside0.mk (HH.out.below hw); replace HE := Aside0.mk (HE.out.below' hw); clear hw
     refine hK.out _ _ ?_ (fun hHeld => ?_)
     · exact ⟨HH.out.h.hx.cell, HE.out.box⟩
     clear hK K
     try simp only [Act.put, sA, sB, sC]
     have x0 := HH.out.h.hx.cell
     have xf := HH.out.h.hx.frozen
     refine pure_ (i := 4) (N := some 73) (v := ?_) (a' := ?_) #[true,true,true,true,true,false] rfl rfl (by kernel_rfl) (fun _ _ _ h => h) (Or.inl ⟨by rfl, ?_⟩) ?_ ?_
     rotate_left
     · intro w'
       go_simp
       try with_reducible rfl
     rotate_left
     · simp only [Act.put, sA, sB, sC]
       rfl
     refine last_ (i := 5) (N := none) #[true,true,true,true,true,true] rfl rfl (by kernel_rfl) (by decide) (fun K hK => ?_)
     go_simp
     refine hK.out _ _ ?_
     clear hK K
     try simp only [Act.put, sA, sB, sC]
     refine done_ (by kernel_rfl) ?_
     clear x0 xf hsum
     replace HE := Aside0.mk (BlkE.only HE.out ((Only.refl (fun q => q = n1) w7).setCell (p := ⟨n1, 0, none⟩) rfl (.string (S' ++ X0))) (fun h => by have h2 : n7 = n1 := h; omega))
     replace HH := Aside0.mk (HH.out.put (S' ++ X0))
     replace HS : Aside0 ((S' ++ X0).size ≤ 1009 + 67 * k) := ⟨by rw [app_size]; have := HS.out; have := HZ0.out; omega⟩
     obtain ⟨S2, hS2⟩ : ∃ Y, S' ++ X0 = Y := ⟨_, rfl⟩
     have ES2 := Aside0.mk hS2
     rw [hS2] at HE HH HS ⊢
     clear hS2
     obtain ⟨W8, hW⟩ : ∃ X, w7.setCell ⟨n1, 0, none⟩ (.string S2) = X := ⟨_, rfl⟩
     rw [hW] at HE HH ⊢
     clear hW
     go_wp2_with fail
     obtain ⟨X1, hX1⟩ : ∃ Y, putS x.f1.toNat = Y := ⟨_, rfl⟩
     have EX1 := Aside0.mk hX1
     have HZ1 : Aside0 (X1.size ≤ 9) := ⟨by rw [← hX1]; exact putS_le HRX.out.2.1⟩
     obtain ⟨X2, hX2⟩ : ∃ Y, putS x.f2.size ++ x.f2 = Y := ⟨_, rfl⟩
     have EX2 := Aside0.mk hX2
     have HZ2 : Aside0 (X2.size ≤ 49) := ⟨by rw [← hX2, app_size]; have h1 := HRX.out.2.2; have := putS_leN (n := x.f2.size) (by omega); omega⟩
     clear hX1 hX2
     have hs1 : (9223372036854775807 < X1.size + X2.size) = False := eq_false (by have := HZ1.out; have := HZ2.out; omega)
     have hs2 : (9223372036854775807 < S2.size + (X1 ++ X2).size) = False := eq_false (by rw [app_size]; have := HS.out; have := HZ1.out; have := HZ2.out; have := HK.out.1; omega)
     have hs3 : (9223372036854775807 < S2.size + (X1.size + X2.size)) = False := eq_false (by have := HS.out; have := HZ1.out; have := HZ2.out; have := HK.out.1; omega)
     replace HH := Aside0.mk HH.out.drew
     replace HE : Aside0 (BlkE x n7 W8.drew) := ⟨HE.out⟩
     refine start_ (n := 10) (S := (fun w' => w'.cell? ⟨n1, 0, none⟩ = some (.string S2) ∧ BoxE x n7 w')) (ds := [9]) #[false,false,false,false,false,false,false,false,false,false] (by kernel_rfl) rfl rfl ⟨HH.out.h.hx.cell, HE.out.box⟩ (fun hHeld => ?_)
     obtain ⟨W9, hW⟩ : ∃ X, W8.drew = X := ⟨_, rfl⟩
     rw [hW] at hHeld HH HE ⊢
     clear hW
     refine take_ (i := 0) (N := some 74) (v := ?_) (a' := ?_) #[true,false,false,false,false,false,false,false,false,false] rfl rfl (by kernel_rfl) (fun _ _ _ h => h) (Or.inl ⟨by rfl, ?_⟩) hHeld ?_ ?_
     rotate_left
     · rintro w' ⟨x0, e0, e1, e2⟩
       go_simp
       try with_reducible rfl
     rotate_left
     · simp only [Act.put, sA, sB, sC]
       rfl
     refine pure_ (i := 1) (N := some 75) (v := ?_) (a' := ?_) #[true,true,false,false,false,false,false,false,false,false] rfl rfl (by kernel_rfl) (fun _ _ _ h => h) (Or.inl ⟨by rfl, ?_⟩) ?_ ?_
     rotate_left
     · intro w'
       go_simp
       try with_reducible rfl
     rotate_left
     · simp only [Act.put, sA, sB, sC]
       rfl
     refine take_ (i := 2) (N := some 76) (v := ?_) (a' := ?_) #[true,true,true,false,false,false,false,false,false,false] rfl rfl (by kernel_rfl) (fun _ _ _ h => h) (Or.inl ⟨by rfl, ?_⟩) hHeld ?_ ?_
     rotate_left
     · rintro w' ⟨x0, e0, e1, e2⟩
       go_simp
       try with_reducible rfl
     rotate_left
     · simp only [Act.put, sA, sB, sC]
       rfl
     refine pure_ (i := 4) (N := some 78) (v := ?_) (a' := ?_) #[true,true,true,false,true,false,false,false,false,false] rfl rfl (by kernel_rfl) (fun _ _ _ h => h) (Or.inl ⟨by rfl, ?_⟩) ?_ ?_
     rotate_left
     · intro w'
       go_simp
       try with_reducible rfl
     rotate_left
     · simp only [Act.put, sA, sB, sC]
       rfl
     refine take_ (i := 5) (N := some 79) (v := ?_) (a' := ?_) #[true,true,true,false,true,true,false,false,false,false] rfl rfl (by kernel_rfl) (fun _ _ _ h => h) (Or.inl ⟨by rfl, ?_⟩) hHeld ?_ ?_
     rotate_left
     · rintro w' ⟨x0, e0, e1, e2⟩
       go_simp
       try with_reducible rfl
     rotate_left
     · simp only [Act.put, sA, sB, sC]
       rfl
     refine one_ (i := 3) (N := some 77) #[true,true,true,true,true,true,false,false,false,false] rfl rfl (by kernel_rfl) (by decide) (fun K hK => ?_)
     go_simp
     refine (putc x.f1 HRX.out.2.1 _ EX1.out).mono ?_; rintro r w10 ⟨rfl, hw⟩; replace HH := Aside0.mk (HH.out.below hw); replace HE := Aside0.mk (HE.out.below' hw); clear hw
     refine hK.out _ _ ?_ (fun hHeld => ?_)
     · exact ⟨HH.out.h.hx.cell, HE.out.box⟩
     clear hK K
     try simp only [Act.put, sA, sB, sC]
     refine one_ (i := 6) (N := some 80) #[true,true,true,true,true,true,true,false,false,false] rfl rfl (by kernel_rfl) (by decide) (fun K hK => ?_)
     go_simp
     refine (txtc x.f2 HRX.out.2.2 _ EX2.out).mono ?_; rintro r w11 ⟨rfl, hw⟩; replace HH := Aside0.mk (HH.out.below hw); replace HE := Aside0.mk (HE.out.below' hw); clear hw
     refine hK.out _ _ ?_ (fun hHeld => ?_)
     · exact ⟨HH.out.h.hx.cell, HE.out.box⟩
     clear hK K
     try simp only [Act.put, sA, sB, sC]
     have x0 := HH.out.h.hx.cell
     have xf := HH.out.h.hx.frozen
     refine pure_ (i := 7) (N := some 81) (v := ?_) (a' := ?_) #[true,true,true,true,true,true,true,true,false,false] rfl rfl (by kernel_rfl) (fun _ _ _ h => h) (Or.inl ⟨by rfl, ?_⟩) ?_ ?_
     rotate_left
     · intro w'
       go_simp
       try with_reducible rfl
     rotate_left
     · simp only [Act.put, sA, sB, sC]
       rfl
     refine pure_ (i := 8) (N := some 82) (v := ?_) (a' := ?_) #[true,true,true,true,true,true,true,true,true,false] rfl rfl (by kernel_rfl) (fun _ _ _ h => h) (Or.inl ⟨by rfl, ?_⟩) ?_ ?_
     rotate_left
     · intro w'
       go_simp
       try with_reducible rfl
     rotate_left
     · simp only [Act.put, sA, sB, sC]
       rfl
     refine last_ (i := 9) (N := none) #[true,true,true,true,true,true,true,true,true,true] rfl rfl (by kernel_rfl) (by decide) (fun K hK => ?_)
     go_simp
     refine hK.out _ _ ?_
     clear hK K
     try simp only [Act.put, sA, sB, sC]
     refine done_ (by kernel_rfl) ?_
     clear x0 xf
     have h9 := HH.out.put (S2 ++ (X1 ++ X2))
     have hq : S2 ++ (X1 ++ X2) = entB true x S' := by unfold entB; rw [if_pos rfl, EX0.out, ES2.out, EX1.out, EX2.out]
     have hq2 : (S2 ++ (X1 ++ X2)).size ≤ 1000 + 67 * (k + 1) := by rw [app_size, app_size]; have := HS.out; have := HZ1.out; have := HZ2.out; omega
     rw [hq] at hq2
     have HQ := Aside0.mk hq2
     have h10 := h9
     rw [hq] at h10
     have HQ9 := Aside0.mk h10
     clear h9 h10 hq2
     go_wp2_with fail
     go_roundw
     case rel => exact ⟨k + 1, by omega, by go_num, ⟨entB true x S', by rw [HEQ.out, entsB_drop _ _ hlt, HEL.out], HQ.out, by first | exact HQ9.out | (rw [← hq] at HQ9; exact HQ9.out)⟩⟩
     case measure => simp [intOf]; omega
   · have d1 : decide ((k : Int) < (p.l.length : Int)) = false := decide_eq_false (by omega)
     have d2 : decide (k < p.l.length) = false := decide_eq_false hlt
     have hX : S' = X := by rw [HEQ.out, List.drop_of_length_le (by omega)]; rfl
     clear HEQ
     subst hX
     go_wp2_with fail
     exact by_7 p A c n0 n1 n2 S' S' w wr C7 HC7.out _ _ _ _ _ _ _ _ _ _ _ _ _ _ _ _ _ _ _ _ _ _ _ _ _ _ _ _ _ _ _ _ _ _ _ _ _ _ _ _ _ _ _ _ _ _ _ _ _ _ _ _ _ _ _ _ _ _ _ _ _ _ _ _ _ _ _ _ _ _ _ _ _ _ _ _ _ _ _ _ _ HH.out rfl
theorem by_6 (p : Prt) (A : Option Addr) (c n0 n1 n2 : Nat) (S X : ByteArray) (w W : World) (C : Code) (hC : (match Try.f12.body with | some (.seq _ (.seq _ (.seq _ (.seq _ (.seq _ (.seq _ c)))))) => c | _ => .skip) = C) (u0 u5 u6 u7 u8 u9 u10 u11 u12 u13 u14 u15 u16 u17 u18 u19 u20 u21 u22 u23 u24 u25 u26 u27 u28 u29 u30 u31 u32 u33 u34 u35 u36 u37 u38 u39 u40 u41 u42 u43 u44 u45 u46 u47 u48 u49 u50 u51 u52 u53 u54 u55 u56 u57 u58 u59 u60 u61 u62 u63 u64 u65 u66 u67 u68 u69 u70 u71 u72 u73 u74 u75 u76 u77 u78 u79 u80 u81 u82 u83 u84 : Value) (hh : BCd p A c n0 n1 n2 S w W) (hlen : p.l.length ≤ 6) (hent : ∀ i, i < p.l.length → isE (el p.l i) = true) (hsz : S.size ≤ 1000) (hX : entsB (p.k == 6) p.l S = X) : C.wp Try.prog (bodyPostR Fence.wide 0 Try.prog Try.f12 (fun r w' => r = .returned (.tuple #[.string X, .int .i64 ((0 : Nat) : Int)]) ∧ Below w.heap.size w w')) { tmps := #[u0, .pointer (some ⟨n0, 0, none⟩), .string ⟨#[]⟩, .int .i64 0, .pointer (some ⟨n1, 0, none⟩), u5, u6, u7, u8, u9, u10, u11, u12, u13, u14, u15, u16, u17, u18, u19, u20, u21, u22, u23, u24, u25, u26, u27, u28, u29, u30, u31, u32, u33, u34, u35, u36, u37, u38, u39, u40, u41, u42, u43, u44, u45, u46, u47, u48, u49, u50, u51, u52, u53, u54, u55, u56, u57, u58, u59, u60, u61, u62, u63, u64, u65, u66, u67, u68, u69, u70, u71, u72, u73, u74, u75, u76, u77, u78, u79, u80, u81, u82, u83, u84], defers := [{ target := .collected n2, args := #[] }] } W := by
  cases h6 : p.k == 6
  · exact by_6_f p A c n0 n1 n2 S X w W C hC u0 u5 u6 u7 u8 u9 u10 u11 u12 u13 u14 u15 u16 u17 u18 u19 u20 u21 u22 u23 u24 u25 u26 u27 u28 u29 u30 u31 u32 u33 u34 u35 u36 u37 u38 u39 u40 u41 u42 u43 u44 u45 u46 u47 u48 u49 u50 u51 u52 u53 u54 u55 u56 u57 u58 u59 u60 u61 u62 u63 u64 u65 u66 u67 u68 u69 u70 u71 u72 u73 u74 u75 u76 u77 u78 u79 u80 u81 u82 u83 u84 hh hlen hent hsz h6 hX
  · exact by_6_t p A c n0 n1 n2 S X w W C hC u0 u5 u6 u7 u8 u9 u10 u11 u12 u13 u14 u15 u16 u17 u18 u19 u20 u21 u22 u23 u24 u25 u26 u27 u28 u29 u30 u31 u32 u33 u34 u35 u36 u37 u38 u39 u40 u41 u42 u43 u44 u45 u46 u47 u48 u49 u50 u51 u52 u53 u54 u55 u56 u57 u58 u59 u60 u61 u62 u63 u64 u65 u66 u67 u68 u69 u70 u71 u72 u73 u74 u75 u76 u77 u78 u79 u80 u81 u82 u83 u84 hh hlen hent hsz h6 hX
set_option maxHeartbeats 4000000 in
set_option maxRecDepth 100000 in
theorem by_5_1 (p : Prt) (A : Option Addr) (c n0 n1 n2 : Nat) (S X : ByteArray) (w W : World) (C : Code) (hC : (match Try.f12.body with | some (.seq _ (.seq _ (.seq _ (.seq _ (.seq _ c))))) => c | _ => .skip) = C) (u0 u5 u6 u7 u8 u9 u10 u11 u12 u13 u14 u15 u16 u17 u18 u19 u20 u21 u22 u23 u24 u25 u26 u27 u28 u29 u30 u31 u32 u33 u34 u35 u36 u37 u38 u39 u40 u41 u42 u43 u44 u45 u46 u47 u48 u49 u50 u51 u52 u53 u54 u55 u56 u57 u58 u59 u60 u61 u62 u63 u64 u65 u66 u67 u68 u69 u70 u71 u72 u73 u74 u75 u76 u77 u78 u79 u80 u81 u82 u83 u84 : Value) (hh : BCd p A c n0 n1 n2 S w W) (hlen : p.l.length ≤ 6) (hent : ∀ i, i < p.l.length → isE (el p.l i) = true) (hsz : S.size ≤ 100) (hpos : p.k = 1 → 0 < p.l.length) (hX : entsB (p.k == 6) p.l (lenB p S) = X) (h1 : p.k = 1) :
  C.wp Try.prog (bodyPostR Fence.wide 0 Try.prog Try.f12 (fun r w' => r = .returned (.tuple #[.string X, .int .i64 ((0 : Nat) : Int)]) ∧ Below w.heap.size w w')) { tmps := #[u0, .pointer (some ⟨n0, 0, none⟩), .string ⟨#[]⟩, .int .i64 0, .pointer (some ⟨n1, 0, none⟩), u5, u6, u7, u8, u9, u10, u11, u12, u13, u14, u15, u16, u17, u18, u19, u20, u21, u22, u23, u24, u25, u26, u27, u28, u29, u30, u31, u32, u33, u34, u35, u36, u37, u38, u39, u40, u41, u42, u43, u44, u45, u46, u47, u48, u49, u50, u51, u52, u53, u54, u55, u56, u57, u58, u59, u60, u61, u62, u63, u64, u65, u66, u67, u68, u69, u70, u71, u72, u73, u74, u75, u76, u77, u78, u79, u80, u81, u82, u83, u84], defers := [{ target := .collected n2, args := #[] }] } W := by
 have HH := Aside0.mk hh
 clear hh
 simp only [Try.f12] at hC
 subst hC
 have HK := Aside0.mk (And.intro hlen hent)
 have HX := Aside0.mk hX
 have HZ := Aside0.mk hsz
 have hpos := hpos
 obtain ⟨C6, hC6⟩ : ∃ C, (match Try.f12.body with | some (.seq _ (.seq _ (.seq _ (.seq _ (.seq _ (.seq _ c)))))) => c | _ => .skip) = C := ⟨_, rfl⟩
 have HC6 := Aside0.mk hC6
 simp only [Try.f12] at hC6
 rw [hC6]
 clear hC6
 obtain ⟨X1, hX1⟩ : ∃ Y, putS ((p.l.length : Int)).toNat = Y := ⟨_, rfl⟩
 have EX1 := Aside0.mk hX1
 have HZ1 : Aside0 (X1.size ≤ 9) := ⟨by rw [← hX1]; exact putS_le (by omega)⟩
 obtain ⟨x, hx⟩ : ∃ x, el p.l 0 = x := ⟨_, rfl⟩
 have HRX := Aside0.mk (isE_rng' (hent 0 (hpos h1)))
 have HPO := Aside0.mk (hpos h1)
 rw [hx] at HRX
 have HEL := Aside0.mk hx
 obtain ⟨X2, hX2⟩ : ∃ Y, putS x.f0.toNat = Y := ⟨_, rfl⟩
 have EX2 := Aside0.mk hX2
 have HZ2 : Aside0 (X2.size ≤ 9) := ⟨by rw [← hX2]; exact putS_le HRX.out.1⟩
 obtain ⟨ad, hA, g0, g1, g2⟩ := HH.out.h.hr.at_ HPO.out
 subst hA
 clear g0 g1 g2
 have k1 : (p.k == 1) = true := beq_iff_eq.2 h1
 have HL : Aside0 (lenB p S = S ++ (X1 ++ X2)) := ⟨by unfold lenB; rw [if_pos h1, hx, hX2, ← hX1, Int.toNat_natCast]⟩
 have hs1 : (9223372036854775807 < X1.size + X2.size) = False := eq_false (by have := HZ1.out; have := HZ2.out; omega)
 have hs2 : (9223372036854775807 < S.size + (X1 ++ X2).size) = False := eq_false (by rw [app_size]; have := HZ.out; have := HZ1.out; have := HZ2.out; omega)
 have hs3 : (9223372036854775807 < S.size + (X1.size + X2.size)) = False := eq_false (by have := HZ.out; have := HZ1.out; have := HZ2.out; omega)
 have hp0 : (0 : Int) < (p.l.length : Int) := by have := HPO.out; omega
 have hp1 : 0 < p.l.length := HPO.out
 rw [HL.out] at hX
 clear HX
 have HX := Aside0.mk hX
 clear hX hX1 h1 hlen hent hsz hpos hx hX2
 obtain ⟨y0, y1, y2, y3, y4, y5, y6, y7, y8, y9⟩ := HH.out.h.hp.box
 have x0 := HH.out.h.hx.cell
 have xf := HH.out.h.hx.frozen
 go_wp2_with fail
 clear y0 y1 y2 y3 y4 y5 y6 y7 y8 y9 x0 xf
 replace HH := Aside0.mk HH.out.drew
 refine start_ (n := 14) (S := (fun w' => w'.cell? ⟨n1, 0, none⟩ = some (.string S) ∧ w'.cell? ⟨n0, 2, none⟩ = some (.slice (some ad) p.l.length c) ∧ w'.cell? ad = some (.int .i64 x.f0))) (ds := [13]) #[false,false,false,false,false,false,false,false,false,false,false,false,false,false] (by kernel_rfl) rfl rfl ⟨HH.out.h.hx.cell, HH.out.h.hp.box.2.2.1, Rd.first HH.out.h.hr HPO.out HEL.out⟩ (fun hHeld => ?_)
 obtain ⟨W9, hW⟩ : ∃ X, W.drew = X := ⟨_, rfl⟩
 rw [hW] at hHeld HH ⊢
 clear hW
 refine take_ (i := 0) (N := some 38) (v := ?_) (a' := ?_) #[true,false,false,false,false,false,false,false,false,false,false,false,false,false] rfl rfl (by kernel_rfl) (fun _ _ _ h => h) (Or.inl ⟨by rfl, ?_⟩) hHeld ?_ ?_
 rotate_left
 · rintro w' ⟨x0, y2, g0⟩
   go_simp
   try with_reducible rfl
 rotate_left
 · simp only [Act.put, sA, sB, sC]
   rfl
 refine pure_ (i := 1) (N := some 39) (v := ?_) (a' := ?_) #[true,true,false,false,false,false,false,false,false,false,false,false,false,false] rfl rfl (by kernel_rfl) (fun _ _ _ h => h) (Or.inl ⟨by rfl, ?_⟩) ?_ ?_
 rotate_left
 · intro w'
   go_simp
   try with_reducible rfl
 rotate_left
 · simp only [Act.put, sA, sB, sC]
   rfl
 refine take_ (i := 2) (N := some 40) (v := ?_) (a' := ?_) #[true,true,true,false,false,false,false,false,false,false,false,false,false,false] rfl rfl (by kernel_rfl) (fun _ _ _ h => h) (Or.inl ⟨by rfl, ?_⟩) hHeld ?_ ?_
 rotate_left
 · rintro w' ⟨x0, y2, g0⟩
   go_simp
   try with_reducible rfl
 rotate_left
 · simp only [Act.put, sA, sB, sC]
   rfl
 refine pure_ (i := 3) (N := some 41) (v := ?_) (a' := ?_) #[true,true,true,true,false,false,false,false,false,false,false,false,false,false] rfl rfl (by kernel_rfl) (fun _ _ _ h => h) (Or.inl ⟨by rfl, ?_⟩) ?_ ?_
 rotate_left
 · intro w'
   go_simp
   try with_reducible rfl
 rotate_left
 · simp only [Act.put, sA, sB, sC]
   rfl
 refine pure_ (i := 5) (N := some 43) (v := ?_) (a' := ?_) #[true,true,true,true,false,true,false,false,false,false,false,false,false,false] rfl rfl (by kernel_rfl) (fun _ _ _ h => h) (Or.inl ⟨by rfl, ?_⟩) ?_ ?_
 rotate_left
 · intro w'
   go_simp
   try with_reducible rfl
 rotate_left
 · simp only [Act.put, sA, sB, sC]
   rfl
 refine take_ (i := 6) (N := some 44) (v := ?_) (a' := ?_) #[true,true,true,true,false,true,true,false,false,false,false,false,false,false] rfl rfl (by kernel_rfl) (fun _ _ _ h => h) (Or.inl ⟨by rfl, ?_⟩) hHeld ?_ ?_
 rotate_left
 · rintro w' ⟨x0, y2, g0⟩
   go_simp
   try with_reducible rfl
 rotate_left
 · simp only [Act.put, sA, sB, sC]
   rfl
 refine pure_ (i := 7) (N := some 45) (v := ?_) (a' := ?_) #[true,true,true,true,false,true,true,true,false,false,false,false,false,false] rfl rfl (by kernel_rfl) (fun _ _ _ h => h) (Or.inl ⟨by rfl, ?_⟩) ?_ ?_
 rotate_left
 · intro w'
   go_simp
   try with_reducible rfl
 rotate_left
 · simp only [Act.put, sA, sB, sC]
   rfl
 refine pure_ (i := 8) (N := some 46) (v := ?_) (a' := ?_) #[true,true,true,true,false,true,true,true,true,false,false,false,false,false] rfl rfl (by kernel_rfl) (fun _ _ _ h => h) (Or.inl ⟨by rfl, ?_⟩) ?_ ?_
 rotate_left
 · intro w'
   go_simp
   try with_reducible rfl
 rotate_left
 · simp only [Act.put, sA, sB, sC]
   rfl
 refine take_ (i := 9) (N := some 47) (v := ?_) (a' := ?_) #[true,true,true,true,false,true,true,true,true,true,false,false,false,false] rfl rfl (by kernel_rfl) (fun _ _ _ h => h) (Or.inl ⟨by rfl, ?_⟩) hHeld ?_ ?_
 rotate_left
 · rintro w' ⟨x0, y2, g0⟩
   go_simp
   try with_reducible rfl
 rotate_left
 · simp only [Act.put, sA, sB, sC]
   rfl
 refine one_ (i := 4) (N := some 42) #[true,true,true,true,true,true,true,true,true,true,false,false,false,false] rfl rfl (by kernel_rfl) (by decide) (fun K hK => ?_)
 go_simp
 refine (putc (p.l.length : Int) (by have := HK.out.1; omega) _ EX1.out).mono ?_; rintro r w10 ⟨rfl, hw⟩; replace HH := Aside0.mk (HH.out.below hw); clear hw
 refine hK.out _ _ ?_ (fun hHeld => ?_)
 · exact ⟨HH.out.h.hx.cell, HH.out.h.hp.box.2.2.1, Rd.first HH.out.h.hr HPO.out HEL.out⟩
 clear hK K
 try simp only [Act.put, sA, sB, sC]
 refine one_ (i := 10) (N := some 48) #[true,true,true,true,true,true,true,true,true,true,true,false,false,false] rfl rfl (by kernel_rfl) (by decide) (fun K hK => ?_)
 go_simp
 refine (putc x.f0 HRX.out.1 _ EX2.out).mono ?_; rintro r w11 ⟨rfl, hw⟩; replace HH := Aside0.mk (HH.out.below hw); clear hw
 refine hK.out _ _ ?_ (fun hHeld => ?_)
 · exact ⟨HH.out.h.hx.cell, HH.out.h.hp.box.2.2.1, Rd.first HH.out.h.hr HPO.out HEL.out⟩
 clear hK K
 try simp only [Act.put, sA, sB, sC]
 have x0 := HH.out.h.hx.cell
 have xf := HH.out.h.hx.frozen
 refine pure_ (i := 11) (N := some 49) (v := ?_) (a' := ?_) #[true,true,true,true,true,true,true,true,true,true,true,true,false,false] rfl rfl (by kernel_rfl) (fun _ _ _ h => h) (Or.inl ⟨by rfl, ?_⟩) ?_ ?_
 rotate_left
 · intro w'
   go_simp
   try with_reducible rfl
 rotate_left
 · simp only [Act.put, sA, sB, sC]
   rfl
 refine pure_ (i := 12) (N := some 50) (v := ?_) (a' := ?_) #[true,true,true,true,true,true,true,true,true,true,true,true,true,false] rfl rfl (by kernel_rfl) (fun _ _ _ h => h) (Or.inl ⟨by rfl, ?_⟩) ?_ ?_
 rotate_left
 · intro w'
   go_simp
   try with_reducible rfl
 rotate_left
 · simp only [Act.put, sA, sB, sC]
   rfl
 refine last_ (i := 13) (N := none) #[true,true,true,true,true,true,true,true,true,true,true,true,true,true] rfl rfl (by kernel_rfl) (by decide) (fun K hK => ?_)
 go_simp
 refine hK.out _ _ ?_
 clear hK K
 try simp only [Act.put, sA, sB, sC]
 refine done_ (by kernel_rfl) ?_
 clear x0 xf
 have h9 := HH.out.put (S ++ (X1 ++ X2))
 have HQ9 := Aside0.mk h9
 clear h9
 go_wp2_with fail
 exact by_6 p (some ad) c n0 n1 n2 (S ++ (X1 ++ X2)) X w _ C6 HC6.out _ _ _ _ _ _ _ _ _ _ _ _ _ _ _ _ _ _ _ _ _ _ _ _ _ _ _ _ _ _ _ _ _ _ _ _ _ _ _ _ _ _ _ _ _ _ _ _ _ _ _ _ _ _ _ _ _ _ _ _ _ _ _ _ _ _ _ _ _ _ _ _ _ _ _ _ _ _ _ _ _ HQ9.out HK.out.1 HK.out.2 (by rw [app_size, app_size]; have := HZ.out; have := HZ1.out; have := HZ2.out; omega) HX.out
set_option maxHeartbeats 4000000 in
set_option maxRecDepth 100000 in
theorem by_5_6 (p : Prt) (A : Option Addr) (c n0 n1 n2 : Nat) (S X : ByteArray) (w W : World) (C : Code) (hC : (match Try.f12.body with | some (.seq _ (.seq _ (.seq _ (.seq _ (.seq _ c))))) => c | _ => .skip) = C) (u0 u5 u6 u7 u8 u9 u10 u11 u12 u13 u14 u15 u16 u17 u18 u19 u20 u21 u22 u23 u24 u25 u26 u27 u28 u29 u30 u31 u32 u33 u34 u35 u36 u37 u38 u39 u40 u41 u42 u43 u44 u45 u46 u47 u48 u49 u50 u51 u52 u53 u54 u55 u56 u57 u58 u59 u60 u61 u62 u63 u64 u65 u66 u67 u68 u69 u70 u71 u72 u73 u74 u75 u76 u77 u78 u79 u80 u81 u82 u83 u84 : Value) (hh : BCd p A c n0 n1 n2 S w W) (hlen : p.l.length ≤ 6) (hent : ∀ i, i < p.l.length → isE (el p.l i) = true) (hsz : S.size ≤ 100) (hpos : p.k = 1 → 0 < p.l.length) (hX : entsB (p.k == 6) p.l (lenB p S) = X) (h1 : p.k ≠ 1) (h6 : p.k = 6) :
  C.wp Try.prog (bodyPostR Fence.wide 0 Try.prog Try.f12 (fun r w' => r = .returned (.tuple #[.string X, .int .i64 ((0 : Nat) : Int)]) ∧ Below w.heap.size w w')) { tmps := #[u0, .pointer (some ⟨n0, 0, none⟩), .string ⟨#[]⟩, .int .i64 0, .pointer (some ⟨n1, 0, none⟩), u5, u6, u7, u8, u9, u10, u11, u12, u13, u14, u15, u16, u17, u18, u19, u20, u21, u22, u23, u24, u25, u26, u27, u28, u29, u30, u31, u32, u33, u34, u35, u36, u37, u38, u39, u40, u41, u42, u43, u44, u45, u46, u47, u48, u49, u50, u51, u52, u53, u54, u55, u56, u57, u58, u59, u60, u61, u62, u63, u64, u65, u66, u67, u68, u69, u70, u71, u72, u73, u74, u75, u76, u77, u78, u79, u80, u81, u82, u83, u84], defers := [{ target := .collected n2, args := #[] }] } W := by
 have HH := Aside0.mk hh
 clear hh
 simp only [Try.f12] at hC
 subst hC
 have HK := Aside0.mk (And.intro hlen hent)
 have HX := Aside0.mk hX
 have HZ := Aside0.mk hsz
 have hpos := hpos
 obtain ⟨C6, hC6⟩ : ∃ C, (match Try.f12.body with | some (.seq _ (.seq _ (.seq _ (.seq _ (.seq _ (.seq _ c)))))) => c | _ => .skip) = C := ⟨_, rfl⟩
 have HC6 := Aside0.mk hC6
 simp only [Try.f12] at hC6
 rw [hC6]
 clear hC6
 obtain ⟨X1, hX1⟩ : ∃ Y, putS ((p.l.length : Int)).toNat = Y := ⟨_, rfl⟩
 have EX1 := Aside0.mk hX1
 have HZ1 : Aside0 (X1.size ≤ 9) := ⟨by rw [← hX1]; exact putS_le (by omega)⟩
 have k1 : (p.k == 1) = false := beq_eq_false_iff_ne.2 h1
 have k6 : (p.k == 6) = true := beq_iff_eq.2 h6
 have HL : Aside0 (lenB p S = S ++ X1) := ⟨by unfold lenB; rw [if_neg h1, if_pos h6, ← hX1, Int.toNat_natCast]⟩
 have hs1 : (9223372036854775807 < S.size + X1.size) = False := eq_false (by have := HZ.out; have := HZ1.out; omega)
 rw [HL.out] at hX
 clear HX
 have HX := Aside0.mk hX
 clear hX hX1 h1 hlen hent hsz hpos h6
 obtain ⟨y0, y1, y2, y3, y4, y5, y6, y7, y8, y9⟩ := HH.out.h.hp.box
 have x0 := HH.out.h.hx.cell
 have xf := HH.out.h.hx.frozen
 go_wp2_with fail
 clear y0 y1 y2 y3 y4 y5 y6 y7 y8 y9 x0 xf
 replace HH := Aside0.mk HH.out.drew
 refine start_ (n := 7) (S := (fun w' => w'.cell? ⟨n1, 0, none⟩ = some (.string S) ∧ w'.cell? ⟨n0, 2, none⟩ = some (.slice A p.l.length c))) (ds := [6]) #[false,false,false,false,false,false,false] (by kernel_rfl) rfl rfl ⟨HH.out.h.hx.cell, HH.out.h.hp.box.2.2.1⟩ (fun hHeld => ?_)
 obtain ⟨W9, hW⟩ : ∃ X, W.drew = X := ⟨_, rfl⟩
 rw [hW] at hHeld HH ⊢
 clear hW
 refine take_ (i := 0) (N := some 53) (v := ?_) (a' := ?_) #[true,false,false,false,false,false,false] rfl rfl (by kernel_rfl) (fun _ _ _ h => h) (Or.inl ⟨by rfl, ?_⟩) hHeld ?_ ?_
 rotate_left
 · rintro w' ⟨x0, y2⟩
   go_simp
   try with_reducible rfl
 rotate_left
 · simp only [Act.put, sA, sB, sC]
   rfl
 refine pure_ (i := 1) (N := some 54) (v := ?_) (a' := ?_) #[true,true,false,false,false,false,false] rfl rfl (by kernel_rfl) (fun _ _ _ h => h) (Or.inl ⟨by rfl, ?_⟩) ?_ ?_
 rotate_left
 · intro w'
   go_simp
   try with_reducible rfl
 rotate_left
 · simp only [Act.put, sA, sB, sC]
   rfl
 refine take_ (i := 2) (N := some 55) (v := ?_) (a' := ?_) #[true,true,true,false,false,false,false] rfl rfl (by kernel_rfl) (fun _ _ _ h => h) (Or.inl ⟨by rfl, ?_⟩) hHeld ?_ ?_
 rotate_left
 · rintro w' ⟨x0, y2⟩
   go_simp
   try with_reducible rfl
 rotate_left
 · simp only [Act.put, sA, sB, sC]
   rfl
 refine pure_ (i := 3) (N := some 56) (v := ?_) (a' := ?_) #[true,true,true,true,false,false,false] rfl rfl (by kernel_rfl) (fun _ _ _ h => h) (Or.inl ⟨by rfl, ?_⟩) ?_ ?_
 rotate_left
 · intro w'
   go_simp
   try with_reducible rfl
 rotate_left
 · simp only [Act.put, sA, sB, sC]
   rfl
 refine one_ (i := 4) (N := some 57) #[true,true,true,true,true,false,false] rfl rfl (by kernel_rfl) (by decide) (fun K hK => ?_)
 go_simp
 refine (putc (p.l.length : Int) (by have := HK.out.1; omega) _ EX1.out).mono ?_; rintro r w11 ⟨rfl, hw⟩; replace HH := Aside0.mk (HH.out.below hw); clear hw
 refine hK.out _ _ ?_ (fun hHeld => ?_)
 · exact ⟨HH.out.h.hx.cell, HH.out.h.hp.box.2.2.1⟩
 clear hK K
 try simp only [Act.put, sA, sB, sC]
 have x0 := HH.out.h.hx.cell
 have xf := HH.out.h.hx.frozen
 refine pure_ (i := 5) (N := some 58) (v := ?_) (a' := ?_) #[true,true,true,true,true,true,false] rfl rfl (by kernel_rfl) (fun _ _ _ h => h) (Or.inl ⟨by rfl, ?_⟩) ?_ ?_
 rotate_left
 · intro w'
   go_simp
   try with_reducible rfl
 rotate_left
 · simp only [Act.put, sA, sB, sC]
   rfl
 refine last_ (i := 6) (N := none) #[true,true,true,true,true,true,true] rfl rfl (by kernel_rfl) (by decide) (fun K hK => ?_)
 go_simp
 refine hK.out _ _ ?_
 clear hK K
 try simp only [Act.put, sA, sB, sC]
 refine done_ (by kernel_rfl) ?_
 clear x0 xf
 have h9 := HH.out.put (S ++ X1)
 have HQ9 := Aside0.mk h9
 clear h9
 go_wp2_with fail
 exact by_6 p A c n0 n1 n2 (S ++ X1) X w _ C6 HC6.out _ _ _ _ _ _ _ _ _ _ _ _ _ _ _ _ _ _ _ _ _ _ _ _ _ _ _ _ _ _ _ _ _ _ _ _ _ _ _ _ _ _ _ _ _ _ _ _ _ _ _ _ _ _ _ _ _ _ _ _ _ _ _ _ _ _ _ _ _ _ _ _ _ _ _ _ _ _ _ _ _ HQ9.out HK.out.1 HK.out.2 (by rw [app_size]; have := HZ.out; have := HZ1.out; omega) HX.out
set_option maxHeartbeats 4000000 in
set_option maxRecDepth 100000 in
theorem by_5_0 (p : Prt) (A : Option Addr) (c n0 n1 n2 : Nat) (S X : ByteArray) (w W : World) (C : Code) (hC : (match Try.f12.body with | some (.seq _ (.seq _ (.seq _ (.seq _ (.seq _ c))))) => c | _ => .skip) = C) (u0 u5 u6 u7 u8 u9 u10 u11 u12 u13 u14 u15 u16 u17 u18 u19 u20 u21 u22 u23 u24 u25 u26 u27 u28 u29 u30 u31 u32 u33 u34 u35 u36 u37 u38 u39 u40 u41 u42 u43 u44 u45 u46 u47 u48 u49 u50 u51 u52 u53 u54 u55 u56 u57 u58 u59 u60 u61 u62 u63 u64 u65 u66 u67 u68 u69 u70 u71 u72 u73 u74 u75 u76 u77 u78 u79 u80 u81 u82 u83 u84 : Value) (hh : BCd p A c n0 n1 n2 S w W) (hlen : p.l.length ≤ 6) (hent : ∀ i, i < p.l.length → isE (el p.l i) = true) (hsz : S.size ≤ 100) (hpos : p.k = 1 → 0 < p.l.length) (hX : entsB (p.k == 6) p.l (lenB p S) = X) (h1 : p.k ≠ 1) (h6 : p.k ≠ 6) :
  C.wp Try.prog (bodyPostR Fence.wide 0 Try.prog Try.f12 (fun r w' => r = .returned (.tuple #[.string X, .int .i64 ((0 : Nat) : Int)]) ∧ Below w.heap.size w w')) { tmps := #[u0, .pointer (some ⟨n0, 0, none⟩), .string ⟨#[]⟩, .int .i64 0, .pointer (some ⟨n1, 0, none⟩), u5, u6, u7, u8, u9, u10, u11, u12, u13, u14, u15, u16, u17, u18, u19, u20, u21, u22, u23, u24, u25, u26, u27, u28, u29, u30, u31, u32, u33, u34, u35, u36, u37, u38, u39, u40, u41, u42, u43, u44, u45, u46, u47, u48, u49, u50, u51, u52, u53, u54, u55, u56, u57, u58, u59, u60, u61, u62, u63, u64, u65, u66, u67, u68, u69, u70, u71, u72, u73, u74, u75, u76, u77, u78, u79, u80, u81, u82, u83, u84], defers := [{ target := .collected n2, args := #[] }] } W := by
 have HH := Aside0.mk hh
 clear hh
 simp only [Try.f12] at hC
 subst hC
 have HK := Aside0.mk (And.intro hlen hent)
 have HX := Aside0.mk hX
 have HZ := Aside0.mk hsz
 have hpos := hpos
 obtain ⟨C6, hC6⟩ : ∃ C, (match Try.f12.body with | some (.seq _ (.seq _ (.seq _ (.seq _ (.seq _ (.seq _ c)))))) => c | _ => .skip) = C := ⟨_, rfl⟩
 have HC6 := Aside0.mk hC6
 simp only [Try.f12] at hC6
 rw [hC6]
 clear hC6
 have k1 : (p.k == 1) = false := beq_eq_false_iff_ne.2 h1
 have k6 : (p.k == 6) = false := beq_eq_false_iff_ne.2 h6
 have HL : Aside0 (lenB p S = S) := ⟨by unfold lenB; rw [if_neg h1, if_neg h6]⟩
 rw [HL.out] at hX
 clear h1 h6 hlen hent hsz hpos HX
 obtain ⟨y0, y1, y2, y3, y4, y5, y6, y7, y8, y9⟩ := HH.out.h.hp.box
 have x0 := HH.out.h.hx.cell
 have xf := HH.out.h.hx.frozen
 have HX := Aside0.mk hX
 clear hX
 go_wp2_with fail
 exact by_6 p A c n0 n1 n2 S X w W C6 HC6.out _ _ _ _ _ _ _ _ _ _ _ _ _ _ _ _ _ _ _ _ _ _ _ _ _ _ _ _ _ _ _ _ _ _ _ _ _ _ _ _ _ _ _ _ _ _ _ _ _ _ _ _ _ _ _ _ _ _ _ _ _ _ _ _ _ _ _ _ _ _ _ _ _ _ _ _ _ _ _ _ _ HH.out HK.out.1 HK.out.2 (by have := HZ.out; omega) HX.out
theorem by_5 (p : Prt) (A : Option Addr) (c n0 n1 n2 : Nat) (S X : ByteArray) (w W : World) (C : Code) (hC : (match Try.f12.body with | some (.seq _ (.seq _ (.seq _ (.seq _ (.seq _ c))))) => c | _ => .skip) = C) (u0 u5 u6 u7 u8 u9 u10 u11 u12 u13 u14 u15 u16 u17 u18 u19 u20 u21 u22 u23 u24 u25 u26 u27 u28 u29 u30 u31 u32 u33 u34 u35 u36 u37 u38 u39 u40 u41 u42 u43 u44 u45 u46 u47 u48 u49 u50 u51 u52 u53 u54 u55 u56 u57 u58 u59 u60 u61 u62 u63 u64 u65 u66 u67 u68 u69 u70 u71 u72 u73 u74 u75 u76 u77 u78 u79 u80 u81 u82 u83 u84 : Value) (hh : BCd p A c n0 n1 n2 S w W) (hlen : p.l.length ≤ 6) (hent : ∀ i, i < p.l.length → isE (el p.l i) = true) (hsz : S.size ≤ 100) (hpos : p.k = 1 → 0 < p.l.length) (hX : entsB (p.k == 6) p.l (lenB p S) = X) : C.wp Try.prog (bodyPostR Fence.wide 0 Try.prog Try.f12 (fun r w' => r = .returned (.tuple #[.string X, .int .i64 ((0 : Nat) : Int)]) ∧ Below w.heap.size w w')) { tmps := #[u0, .pointer (some ⟨n0, 0, none⟩), .string ⟨#[]⟩, .int .i64 0, .pointer (some ⟨n1, 0, none⟩), u5, u6, u7, u8, u9, u10, u11, u12, u13, u14, u15, u16, u17, u18, u19, u20, u21, u22, u23, u24, u25, u26, u27, u28, u29, u30, u31, u32, u33, u34, u35, u36, u37, u38, u39, u40, u41, u42, u43, u44, u45, u46, u47, u48, u49, u50, u51, u52, u53, u54, u55, u56, u57, u58, u59, u60, u61, u62, u63, u64, u65, u66, u67, u68, u69, u70, u71, u72, u73, u74, u75, u76, u77, u78, u79, u80, u81, u82, u83, u84], defers := [{ target := .collected n2, args := #[] }] } W := by
  by_cases h1 : p.k = 1
  · exact by_5_1 p A c n0 n1 n2 S X w W C hC u0 u5 u6 u7 u8 u9 u10 u11 u12 u13 u14 u15 u16 u17 u18 u19 u20 u21 u22 u23 u24 u25 u26 u27 u28 u29 u30 u31 u32 u33 u34 u35 u36 u37 u38 u39 u40 u41 u42 u43 u44 u45 u46 u47 u48 u49 u50 u51 u52 u53 u54 u55 u56 u57 u58 u59 u60 u61 u62 u63 u64 u65 u66 u67 u68 u69 u70 u71 u72 u73 u74 u75 u76 u77 u78 u79 u80 u81 u82 u83 u84 hh hlen hent hsz hpos hX h1
  · by_cases h6 : p.k = 6
    · exact by_5_6 p A c n0 n1 n2 S X w W C hC u0 u5 u6 u7 u8 u9 u10 u11 u12 u13 u14 u15 u16 u17 u18 u19 u20 u21 u22 u23 u24 u25 u26 u27 u28 u29 u30 u31 u32 u33 u34 u35 u36 u37 u38 u39 u40 u41 u42 u43 u44 u45 u46 u47 u48 u49 u50 u51 u52 u53 u54 u55 u56 u57 u58 u59 u60 u61 u62 u63 u64 u65 u66 u67 u68 u69 u70 u71 u72 u73 u74 u75 u76 u77 u78 u79 u80 u81 u82 u83 u84 hh hlen hent hsz hpos hX h1 h6
    · exact by_5_0 p A c n0 n1 n2 S X w W C hC u0 u5 u6 u7 u8 u9 u10 u11 u12 u13 u14 u15 u16 u17 u18 u19 u20 u21 u22 u23 u24 u25 u26 u27 u28 u29 u30 u31 u32 u33 u34 u35 u36 u37 u38 u39 u40 u41 u42 u43 u44 u45 u46 u47 u48 u49 u50 u51 u52 u53 u54 u55 u56 u57 u58 u59 u60 u61 u62 u63 u64 u65 u66 u67 u68 u69 u70 u71 u72 u73 u74 u75 u76 u77 u78 u79 u80 u81 u82 u83 u84 hh hlen hent hsz hpos hX h1 h6
attribute [local go_sem] Oper.semAt_some
theorem BlkP.getA {p : Prt} {A : Option Addr} {c B : Nat} {W : World} (h : BlkP p A c B W) {o : Nat} (ho : 3 ≤ o ∧ o ≤ 7) : W.cell? ⟨B, o, none⟩ = some (.int .i64 (getA p o)) := by
  obtain ⟨h0, h1, h2, h3, h4, h5, h6, h7, h8, h9⟩ := h.box
  obtain rfl | rfl | rfl | rfl | rfl : o = 3 ∨ o = 4 ∨ o = 5 ∨ o = 6 ∨ o = 7 := by omega
  · exact h3
  · exact h4
  · exact h5
  · exact h6
  · exact h7
theorem keeps_bel {U : Nat → Prop} {A B : World} (h : Below A.heap.size A B) : Keeps U A B := ⟨h.size, fun k hk _ => h.block k hk⟩
theorem only_bel {A B : World} (h : Below A.heap.size A B) : Only (fun _ => False) A B := ⟨h.os, h.tape, h.output, h.size, fun k hk _ => h.block k hk⟩
/-- before the bytes have a box -/
structure BCz (p : Prt) (A : Option Addr) (c n0 : Nat) (w W : World) : Prop where
  hp : BlkP p A c n0 W
  hr : Rd W A c p.l
  ag : ∀ q, inA A p.l q → q < w.heap.size
  hb : Below w.heap.size w W
  lt : w.heap.size ≤ n0
section
variable {p : Prt} {A : Option Addr} {c n0 n1 : Nat} {S : ByteArray} {w W W' : World}
theorem BCz.below (h : BCz p A c n0 w W) (hb : Below W.heap.size W W') : BCz p A c n0 w W' := ⟨h.hp.below hb, h.hr.below hb, h.ag, h.hb.trans (hb.mono h.hb.size), h.lt⟩
theorem BCz.drew (h : BCz p A c n0 w W) : BCz p A c n0 w W.drew := h.below (below_drew (Below.refl _ _))
theorem BCz.alloc (h : BCz p A c n0 w W) (o : Obj) : BCz p A c n0 w (W.alloc o) := h.below ((Below.refl _ _).alloc (Nat.le_refl _) _)
theorem BCz.boxed (h : BCz p A c n0 w W) (hx : Boxed W n1 9 (.string S)) (hn : n0 < n1) : BCt p A c n0 n1 S w W := ⟨h.hp, hx, h.hr, h.ag, h.hb, h.lt, hn⟩
end
set_option maxHeartbeats 4000000 in
set_option maxRecDepth 100000 in
theorem by_4 (p : Prt) (A : Option Addr) (c n0 n1 : Nat) (S X : ByteArray) (w W : World) (C : Code) (hC : (match Try.f12.body with | some (.seq _ (.seq _ (.seq _ (.seq _ c)))) => c | _ => .skip) = C) (u0 u5 u6 u7 u8 u9 u10 u11 u12 u13 u14 u15 u16 u17 u18 u19 u20 u21 u22 u23 u24 u25 u26 u27 u28 u29 u30 u31 u32 u33 u34 u35 u36 u37 u38 u39 u40 u41 u42 u43 u44 u45 u46 u47 u48 u49 u50 u51 u52 u53 u54 u55 u56 u57 u58 u59 u60 u61 u62 u63 u64 u65 u66 u67 u68 u69 u70 u71 u72 u73 u74 u75 u76 u77 u78 u79 u80 u81 u82 u83 u84 : Value) (hh : BCt p A c n0 n1 S w W) (hlen : p.l.length ≤ 6) (hent : ∀ i, i < p.l.length → isE (el p.l i) = true) (hnum : ∀ o, 0 ≤ getA p o ∧ getA p o ≤ 1099511627776) (hpos : p.k = 1 → 0 < p.l.length) (hsz : S.size ≤ 50) (hX : entsB (p.k == 6) p.l (lenB p (midB p S)) = X) :
  C.wp Try.prog (bodyPostR Fence.wide 0 Try.prog Try.f12 (fun r w' => r = .returned (.tuple #[.string X, .int .i64 ((0 : Nat) : Int)]) ∧ Below w.heap.size w w')) { tmps := #[u0, .pointer (some ⟨n0, 0, none⟩), .string ⟨#[]⟩, .int .i64 0, .pointer (some ⟨n1, 0, none⟩), u5, u6, u7, u8, u9, u10, u11, u12, u13, u14, u15, u16, u17, u18, u19, u20, u21, u22, u23, u24, u25, u26, u27, u28, u29, u30, u31, u32, u33, u34, u35, u36, u37, u38, u39, u40, u41, u42, u43, u44, u45, u46, u47, u48, u49, u50, u51, u52, u53, u54, u55, u56, u57, u58, u59, u60, u61, u62, u63, u64, u65, u66, u67, u68, u69, u70, u71, u72, u73, u74, u75, u76, u77, u78, u79, u80, u81, u82, u83, u84], defers := [] } W := by
 have HH := Aside0.mk hh
 clear hh
 simp only [Try.f12] at hC
 subst hC
 have HK := Aside0.mk (And.intro hlen (And.intro hent (And.intro hnum hpos)))
 have HX := Aside0.mk hX
 have HZ := Aside0.mk hsz
 clear hlen hent hnum hpos hX hsz
 obtain ⟨C5, hC5⟩ : ∃ C, (match Try.f12.body with | some (.seq _ (.seq _ (.seq _ (.seq _ (.seq _ c))))) => c | _ => .skip) = C := ⟨_, rfl⟩
 have HC5 := Aside0.mk hC5
 simp only [Try.f12] at hC5
 rw [hC5]
 clear hC5
 go_wp2_with fail
 go_at_call 24
 refine ((callsIn_wide (n := 0)).1 (numbers_calls ⟨n0, 0, none⟩ _)).mono ?_
 rintro r w1 ⟨rfl, rfl⟩
 obtain ⟨Bp, hBp⟩ : ∃ x, W.heap.size = x := ⟨_, rfl⟩
 have hbx := Boxed.new W 57 (.pointer (some ⟨n0, 0, none⟩))
 rw [hBp] at hbx ⊢
 have hlt : n1 < Bp := by rw [← hBp]; exact (Array.getElem?_eq_some_iff.1 HH.out.hx).1
 replace HH := Aside0.mk (HH.out.alloc (.cells #[.pointer (some ⟨n0, 0, none⟩)] 57))
 have hsz : (W.alloc (.cells #[.pointer (some ⟨n0, 0, none⟩)] 57)).heap.size = Bp + 1 := by rw [World.size_alloc, hBp]
 obtain ⟨W1, hW⟩ : ∃ X, W.alloc (.cells #[.pointer (some ⟨n0, 0, none⟩)] 57) = X := ⟨_, rfl⟩
 rw [hW] at hbx HH hsz ⊢
 clear hW hBp
 go_wp2_with fail
 refine (wpIn_wide (n := 0)).1 ?_
 refine range_outer3 (gf := 48) (lb := #[.pointer (some ⟨Bp, 0, none⟩)]) rfl (enters_of Try.func48 (by kernel_rfl) rfl) (numbers_iter n0 Bp p.k p.mrk p.hed W1 hbx) (fun q h => h.elim) (fun q h => by rw [hsz]; have h2 : q = Bp := h; omega) (fun _ => rfl)
   (fun k Y => ∃ S', midB p S = numsB ((numA n0 (atK p.k p.mrk) (hdK p.k p.hed)).drop k) p S' ∧ S'.size ≤ 50 + 9 * k ∧ BCt p A c n0 n1 S' w Y)
   (fun _ _ _ => False) ?hI (fun _ _ _ _ h _ => h) ?hC ?h0
   (fun x a' _ => a' = { tmps := #[u0, .pointer (some ⟨n0, 0, none⟩), .string ⟨#[]⟩, .int .i64 0, .pointer (some ⟨n1, 0, none⟩), .pointer (some x), u6, u7, u8, u9, u10, u11, u12, u13, u14, u15, u16, u17, u18, u19, u20, u21, u22, u23, u24, u25, .func (.func 48) #[] #[.pointer (some ⟨Bp, 0, none⟩)], .pointer (some x), u28, u29, u30, u31, u32, u33, u34, u35, u36, u37, u38, u39, u40, u41, u42, u43, u44, u45, u46, u47, u48, u49, u50, u51, u52, u53, u54, u55, u56, u57, u58, u59, u60, u61, u62, u63, u64, u65, u66, u67, u68, u69, u70, u71, u72, u73, u74, u75, u76, u77, u78, u79, u80, u81, u82, u83, u84], defers := [] }) (fun _ _ _ _ h _ => h) ?assign ?body ?done ?stop
 case hI =>
   rintro k P Q ⟨S', h1, h2, hh⟩ ho
   exact ⟨S', h1, h2, hh.only ho (fun q hq => by rw [hsz] at hq; rcases hq with h | h | h; exact h.elim; omega; omega)⟩
 case hC =>
   rintro k P ⟨S', h1, h2, hh⟩
   obtain ⟨y0, y1, y2, y3, y4, y5, y6, y7, y8, y9⟩ := hh.hp.box
   exact ⟨y1, y8, y9⟩
 case h0 => exact ⟨S, by unfold midB; rw [List.drop_zero]; exact (numsB_any n0 _ _ _ _).symm, by have := HZ.out; omega, HH.out⟩
 case assign =>
   rintro l j x W' K hx hi' hsz' hK
   gi_wp2
   exact hK _ _ (Keeps.refl _ _) hi' rfl
 case body =>
   rintro l k x a' P hx rfl ⟨q, hq⟩ ⟨S', h1, h2, hh⟩ rfl
   rw [numsB_drop hx] at h1
   have hk5 : k < 5 := Nat.lt_of_lt_of_le (List.getElem?_eq_some_iff.1 hx).1 (numA_len _ _ _)
   obtain ⟨o, rfl, ho3, ho7⟩ := numA_mem hx
   dsimp only at h1
   obtain ⟨v, hv⟩ : ∃ v, getA p o = v := ⟨_, rfl⟩
   have HV : Aside0 (0 ≤ v ∧ v ≤ 1099511627776) := ⟨by rw [← hv]; exact HK.out.2.2.1 o⟩
   rw [hv] at h1
   have HGV := Aside0.mk hv
   obtain ⟨X1, hX1⟩ : ∃ Y, putS v.toNat = Y := ⟨_, rfl⟩
   have EX1 := Aside0.mk hX1
   have HZ1 : Aside0 (X1.size ≤ 9) := ⟨by rw [← hX1]; exact putS_le HV.out⟩
   rw [hX1] at h1
   have hs1 : (9223372036854775807 < S'.size + X1.size) = False := eq_false (by have := HZ1.out; omega)
   have H1 := Aside0.mk (And.intro h1 h2)
   have HB := Aside0.mk hh
   have HSZ := Aside0.mk hsz
   have HLT := Aside0.mk hlt
   have HOO := Aside0.mk (And.intro ho3 ho7)
   have HK5 := Aside0.mk hk5
   clear h1 h2 hh hx hq hbx hsz hlt HH ho3 ho7 hk5 hv hX1 HX HZ
   gi_wp2_with fail
   replace HB := Aside0.mk HB.out.drew
   refine startR_ (n := 7) (S := (fun w' => w'.cell? ⟨n1, 0, none⟩ = some (.string S') ∧ w'.cell? ⟨n0, o, none⟩ = some (.int .i64 v))) (ds := [6]) #[false,false,false,false,false,false,false] (by kernel_rfl) (fun h => by obtain ⟨_, _, h⟩ := h; exact h) (by kernel_rfl) rfl rfl ⟨HB.out.hx.cell, by rw [← HGV.out]; exact HB.out.hp.getA HOO.out⟩ (fun hHeld => ?_)
   have HKP : Aside0 (Keeps (fun q => q = Bp ∨ q = W1.heap.size ∨ q = W1.heap.size + 1) P P.drew) := ⟨Keeps.drew _ _⟩
   obtain ⟨W9, hW⟩ : ∃ X, P.drew = X := ⟨_, rfl⟩
   rw [hW] at hHeld HB HKP ⊢
   clear hW
   refine take_ (i := 0) (N := some 28) (v := ?_) (a' := ?_) #[true,false,false,false,false,false,false] rfl rfl (by kernel_rfl) (fun _ _ _ h => h) (Or.inl ⟨by rfl, ?_⟩) hHeld ?_ ?_
   rotate_left
   · rintro w' ⟨x0, g0⟩
     go_simp
     try with_reducible rfl
   rotate_left
   · simp only [Act.put, sA, sB, sC]
     rfl
   refine pure_ (i := 1) (N := some 29) (v := ?_) (a' := ?_) #[true,true,false,false,false,false,false] rfl rfl (by kernel_rfl) (fun _ _ _ h => h) (Or.inl ⟨by rfl, ?_⟩) ?_ ?_
   rotate_left
   · intro w'
     go_simp
     try with_reducible rfl
   rotate_left
   · simp only [Act.put, sA, sB, sC]
     rfl
   refine pure_ (i := 2) (N := some 30) (v := ?_) (a' := ?_) #[true,true,true,false,false,false,false] rfl rfl (by kernel_rfl) (fun _ _ _ h => h) (Or.inl ⟨by rfl, ?_⟩) ?_ ?_
   rotate_left
   · intro w'
     go_simp
     try with_reducible rfl
   rotate_left
   · simp only [Act.put, sA, sB, sC]
     rfl
   refine take_ (i := 3) (N := some 31) (v := ?_) (a' := ?_) #[true,true,true,true,false,false,false] rfl rfl (by kernel_rfl) (fun _ _ _ h => h) (Or.inl ⟨by rfl, ?_⟩) hHeld ?_ ?_
   rotate_left
   · rintro w' ⟨x0, g0⟩
     go_simp
     try with_reducible rfl
   rotate_left
   · simp only [Act.put, sA, sB, sC]
     rfl
   refine one_ (i := 4) (N := some 32) #[true,true,true,true,true,false,false] rfl rfl (by kernel_rfl) (by decide) (fun K hK => ?_)
   go_simp
   refine (putc v HV.out _ EX1.out).mono ?_; rintro r w7 ⟨rfl, hw⟩; replace HKP := Aside0.mk (HKP.out.trans (keeps_bel hw)); replace HB := Aside0.mk (HB.out.below hw); clear hw
   refine hK.out _ _ ?_ (fun hHeld => ?_)
   · exact ⟨HB.out.hx.cell, by rw [← HGV.out]; exact HB.out.hp.getA HOO.out⟩
   clear hK K
   try simp only [Act.put, sA, sB, sC]
   have x0 := HB.out.hx.cell
   have xf := HB.out.hx.frozen
   refine pure_ (i := 5) (N := some 33) (v := ?_) (a' := ?_) #[true,true,true,true,true,true,false] rfl rfl (by kernel_rfl) (fun _ _ _ h => h) (Or.inl ⟨by rfl, ?_⟩) ?_ ?_
   rotate_left
   · intro w'
     go_simp
     try with_reducible rfl
   rotate_left
   · simp only [Act.put, sA, sB, sC]
     rfl
   refine last_ (i := 6) (N := none) #[true,true,true,true,true,true,true] rfl rfl (by kernel_rfl) (by decide) (fun K hK => ?_)
   go_simp
   refine hK.out _ _ ?_
   clear hK K
   try simp only [Act.put, sA, sB, sC]
   refine done_ (by kernel_rfl) ?_
   clear x0 xf
   refine ⟨HKP.out.trans (Keeps.setCell _ _ (fun h => by have h3 : n1 = Bp ∨ n1 = W1.heap.size ∨ n1 = W1.heap.size + 1 := h; have h5 := HLT.out; have h6 := HSZ.out; omega) _), S' ++ X1, H1.out.1, by rw [app_size]; have := H1.out.2; have := HZ1.out; omega, HB.out.put _⟩
 case done =>
   rintro P ⟨S', h1, h2, hh⟩ hD
   rw [List.drop_of_length_le (Nat.le_refl _)] at h1
   unfold numsB at h1
   have hx2 := HX.out
   rw [h1] at hx2
   have HX2 := Aside0.mk hx2
   have HD : Aside0 (BCd p A c n0 n1 W1.heap.size S' w P) := ⟨hh, hD, by rw [hsz]; omega⟩
   have HS2 : Aside0 (S'.size ≤ 100) := ⟨by have := numA_len n0 (atK p.k p.mrk) (hdK p.k p.hed); omega⟩
   clear h1 h2 hD hh hbx hsz hlt HH hx2 HX
   go_wp2_with fail
   exact by_5 p A c n0 n1 W1.heap.size S' X w P C5 HC5.out _ _ _ _ _ _ _ _ _ _ _ _ _ _ _ _ _ _ _ _ _ _ _ _ _ _ _ _ _ _ _ _ _ _ _ _ _ _ _ _ _ _ _ _ _ _ _ _ _ _ _ _ _ _ _ _ _ _ _ _ _ _ _ _ _ _ _ _ _ _ _ _ _ _ _ _ _ _ _ _ _ HD.out HK.out.1 HK.out.2.1 HS2.out HK.out.2.2.2 HX2.out
 case stop => exact fun _ _ _ _ _ h => h.elim
set_option maxHeartbeats 4000000 in
set_option maxRecDepth 100000 in
theorem by_3_f (p : Prt) (A : Option Addr) (c n0 n1 : Nat) (S X : ByteArray) (w W : World) (C : Code) (hC : (match Try.f12.body with | some (.seq _ (.seq _ (.seq _ c))) => c | _ => .skip) = C) (u0 u5 u6 u7 u8 u9 u10 u11 u12 u13 u14 u15 u16 u17 u18 u19 u20 u21 u22 u23 u24 u25 u26 u27 u28 u29 u30 u31 u32 u33 u34 u35 u36 u37 u38 u39 u40 u41 u42 u43 u44 u45 u46 u47 u48 u49 u50 u51 u52 u53 u54 u55 u56 u57 u58 u59 u60 u61 u62 u63 u64 u65 u66 u67 u68 u69 u70 u71 u72 u73 u74 u75 u76 u77 u78 u79 u80 u81 u82 u83 u84 : Value) (hh : BCt p A c n0 n1 S w W) (hlen : p.l.length ≤ 6) (hent : ∀ i, i < p.l.length → isE (el p.l i) = true) (hnum : ∀ o, 0 ≤ getA p o ∧ getA p o ≤ 1099511627776) (hpos : p.k = 1 → 0 < p.l.length) (hsz : S.size ≤ 30) (hX : entsB (p.k == 6) p.l (lenB p (midB p (flagB p S))) = X) (h6 : p.k ≠ 6) :
  C.wp Try.prog (bodyPostR Fence.wide 0 Try.prog Try.f12 (fun r w' => r = .returned (.tuple #[.string X, .int .i64 ((0 : Nat) : Int)]) ∧ Below w.heap.size w w')) { tmps := #[u0, .pointer (some ⟨n0, 0, none⟩), .string ⟨#[]⟩, .int .i64 0, .pointer (some ⟨n1, 0, none⟩), u5, u6, u7, u8, u9, u10, u11, u12, u13, u14, u15, u16, u17, u18, u19, u20, u21, u22, u23, u24, u25, u26, u27, u28, u29, u30, u31, u32, u33, u34, u35, u36, u37, u38, u39, u40, u41, u42, u43, u44, u45, u46, u47, u48, u49, u50, u51, u52, u53, u54, u55, u56, u57, u58, u59, u60, u61, u62, u63, u64, u65, u66, u67, u68, u69, u70, u71, u72, u73, u74, u75, u76, u77, u78, u79, u80, u81, u82, u83, u84], defers := [] } W := by
 have HH := Aside0.mk hh
 clear hh
 simp only [Try.f12] at hC
 subst hC
 have HK := Aside0.mk (And.intro hlen (And.intro hent (And.intro hnum hpos)))
 have HZ := Aside0.mk hsz
 obtain ⟨C4, hC4⟩ : ∃ C, (match Try.f12.body with | some (.seq _ (.seq _ (.seq _ (.seq _ c)))) => c | _ => .skip) = C := ⟨_, rfl⟩
 have HC4 := Aside0.mk hC4
 simp only [Try.f12] at hC4
 rw [hC4]
 clear hC4
 have k6 : (p.k == 6) = false := beq_eq_false_iff_ne.2 h6
 have HL : Aside0 (flagB p S = S) := ⟨by unfold flagB; rw [if_neg h6]⟩
 rw [HL.out] at hX
 have HX := Aside0.mk hX
 clear hX h6 hlen hent hnum hpos hsz
 obtain ⟨y0, y1, y2, y3, y4, y5, y6, y7, y8, y9⟩ := HH.out.hp.box
 have x0 := HH.out.hx.cell
 have xf := HH.out.hx.frozen
 go_wp2_with fail
 exact by_4 p A c n0 n1 S X w W C4 HC4.out _ _ _ _ _ _ _ _ _ _ _ _ _ _ _ _ _ _ _ _ _ _ _ _ _ _ _ _ _ _ _ _ _ _ _ _ _ _ _ _ _ _ _ _ _ _ _ _ _ _ _ _ _ _ _ _ _ _ _ _ _ _ _ _ _ _ _ _ _ _ _ _ _ _ _ _ _ _ _ _ _ HH.out HK.out.1 HK.out.2.1 HK.out.2.2.1 HK.out.2.2.2 (by have := HZ.out; omega) HX.out
set_option maxHeartbeats 4000000 in
set_option maxRecDepth 100000 in
theorem by_3_t (p : Prt) (A : Option Addr) (c n0 n1 : Nat) (S X : ByteArray) (w W : World) (C : Code) (hC : (match Try.f12.body with | some (.seq _ (.seq _ (.seq _ c))) => c | _ => .skip) = C) (u0 u5 u6 u7 u8 u9 u10 u11 u12 u13 u14 u15 u16 u17 u18 u19 u20 u21 u22 u23 u24 u25 u26 u27 u28 u29 u30 u31 u32 u33 u34 u35 u36 u37 u38 u39 u40 u41 u42 u43 u44 u45 u46 u47 u48 u49 u50 u51 u52 u53 u54 u55 u56 u57 u58 u59 u60 u61 u62 u63 u64 u65 u66 u67 u68 u69 u70 u71 u72 u73 u74 u75 u76 u77 u78 u79 u80 u81 u82 u83 u84 : Value) (hh : BCt p A c n0 n1 S w W) (hlen : p.l.length ≤ 6) (hent : ∀ i, i < p.l.length → isE (el p.l i) = true) (hnum : ∀ o, 0 ≤ getA p o ∧ getA p o ≤ 1099511627776) (hpos : p.k = 1 → 0 < p.l.length) (hsz : S.size ≤ 30) (hX : entsB (p.k == 6) p.l (lenB p (midB p (flagB p S))) = X) (h6 : p.k = 6) :
  C.wp Try.prog (bodyPostR Fence.wide 0 Try.prog Try.f12 (fun r w' => r = .returned (.tuple #[.string X, .int .i64 ((0 : Nat) : Int)]) ∧ Below w.heap.size w w')) { tmps := #[u0, .pointer (some ⟨n0, 0, none⟩), .string ⟨#[]⟩, .int .i64 0, .pointer (some ⟨n1, 0, none⟩), u5, u6, u7, u8, u9, u10, u11, u12, u13, u14, u15, u16, u17, u18, u19, u20, u21, u22, u23, u24, u25, u26, u27, u28, u29, u30, u31, u32, u33, u34, u35, u36, u37, u38, u39, u40, u41, u42, u43, u44, u45, u46, u47, u48, u49, u50, u51, u52, u53, u54, u55, u56, u57, u58, u59, u60, u61, u62, u63, u64, u65, u66, u67, u68, u69, u70, u71, u72, u73, u74, u75, u76, u77, u78, u79, u80, u81, u82, u83, u84], defers := [] } W := by
 have HH := Aside0.mk hh
 clear hh
 simp only [Try.f12] at hC
 subst hC
 have HK := Aside0.mk (And.intro hlen (And.intro hent (And.intro hnum hpos)))
 have HZ := Aside0.mk hsz
 obtain ⟨C4, hC4⟩ : ∃ C, (match Try.f12.body with | some (.seq _ (.seq _ (.seq _ (.seq _ c)))) => c | _ => .skip) = C := ⟨_, rfl⟩
 have HC4 := Aside0.mk hC4
 simp only [Try.f12] at hC4
 rw [hC4]
 clear hC4
 have k6 : (p.k == 6) = true := beq_iff_eq.2 h6
 obtain ⟨fn, hfn⟩ : ∃ n, flagN p = n := ⟨_, rfl⟩
 have EF := Aside0.mk hfn
 have HF3 : Aside0 ((0 : Int) ≤ (fn : Int) ∧ (fn : Int) ≤ 1099511627776) := ⟨by rw [← hfn]; unfold flagN; cases p.mrk <;> cases p.hed <;> decide⟩
 obtain ⟨X1, hX1⟩ : ∃ Y, putS ((fn : Int)).toNat = Y := ⟨_, rfl⟩
 have EX1 := Aside0.mk hX1
 have HZ1 : Aside0 (X1.size ≤ 9) := ⟨by rw [← hX1]; exact putS_le HF3.out⟩
 have HL : Aside0 (flagB p S = S ++ X1) := ⟨by unfold flagB; rw [if_pos h6, hfn, ← hX1, Int.toNat_natCast]⟩
 rw [HL.out] at hX
 have HX := Aside0.mk hX
 have hs1 : (9223372036854775807 < S.size + X1.size) = False := eq_false (by have := HZ1.out; omega)
 clear hX hX1 hfn h6 hlen hent hnum hpos hsz
 obtain ⟨y0, y1, y2, y3, y4, y5, y6, y7, y8, y9⟩ := HH.out.hp.box
 have x0 := HH.out.hx.cell
 have xf := HH.out.hx.frozen
 go_wp2_with fail
 clear y0 y1 y2 y3 y4 y5 y6 y7 y8 y9 x0 xf
 replace HH := Aside0.mk HH.out.drew
 refine start_ (n := 6) (S := (fun w' => w'.cell? ⟨n1, 0, none⟩ = some (.string S) ∧ w'.cell? ⟨n0, 0, none⟩ = some (.int .i64 p.g) ∧ w'.cell? ⟨n0, 1, none⟩ = some (.int .i64 p.k) ∧ w'.cell? ⟨n0, 2, none⟩ = some (.slice A p.l.length c) ∧ w'.cell? ⟨n0, 3, none⟩ = some (.int .i64 p.ht) ∧ w'.cell? ⟨n0, 4, none⟩ = some (.int .i64 p.hv) ∧ w'.cell? ⟨n0, 5, none⟩ = some (.int .i64 p.hc) ∧ w'.cell? ⟨n0, 6, none⟩ = some (.int .i64 p.ix) ∧ w'.cell? ⟨n0, 7, none⟩ = some (.int .i64 p.tm) ∧ w'.cell? ⟨n0, 8, none⟩ = some (.bool p.mrk) ∧ w'.cell? ⟨n0, 9, none⟩ = some (.bool p.hed))) (ds := [5]) #[false,false,false,false,false,false] (by kernel_rfl) rfl rfl ⟨HH.out.hx.cell, HH.out.hp.box⟩ (fun hHeld => ?_)
 obtain ⟨W9, hW⟩ : ∃ X, W.drew = X := ⟨_, rfl⟩
 rw [hW] at hHeld HH ⊢
 clear hW
 refine take_ (i := 0) (N := some 21) (v := ?_) (a' := ?_) #[true,false,false,false,false,false] rfl rfl (by kernel_rfl) (fun _ _ _ h => h) (Or.inl ⟨by rfl, ?_⟩) hHeld ?_ ?_
 rotate_left
 · rintro w' ⟨x0, y0, y1, y2, y3, y4, y5, y6, y7, y8, y9⟩
   go_simp
   try with_reducible rfl
 rotate_left
 · simp only [Act.put, sA, sB, sC]
   rfl
 refine take_ (i := 1) (N := some 22) (v := ?_) (a' := ?_) #[true,true,false,false,false,false] rfl rfl (by kernel_rfl) (fun _ _ _ h => h) (Or.inl ⟨by rfl, ?_⟩) hHeld ?_ ?_
 rotate_left
 · rintro w' ⟨x0, y0, y1, y2, y3, y4, y5, y6, y7, y8, y9⟩
   go_simp
   try with_reducible rfl
 rotate_left
 · simp only [Act.put, sA, sB, sC]
   rfl
 refine one_ (i := 2) (N := some 23) #[true,true,true,false,false,false] rfl rfl (by kernel_rfl) (by decide) (fun K hK => ?_)
 go_simp
 refine (flagc p A c _ HH.out.hr EF.out).mono ?_; rintro r w6 ⟨rfl, hw⟩; replace HH := Aside0.mk (HH.out.below hw); clear hw
 refine hK.out _ _ ?_ (fun hHeld => ?_)
 · exact ⟨HH.out.hx.cell, HH.out.hp.box⟩
 clear hK K
 try simp only [Act.put, sA, sB, sC]
 refine one_ (i := 3) (N := some 24) #[true,true,true,true,false,false] rfl rfl (by kernel_rfl) (by decide) (fun K hK => ?_)
 go_simp
 refine (putc (fn : Int) HF3.out _ EX1.out).mono ?_; rintro r w7 ⟨rfl, hw⟩; replace HH := Aside0.mk (HH.out.below hw); clear hw
 refine hK.out _ _ ?_ (fun hHeld => ?_)
 · exact ⟨HH.out.hx.cell, HH.out.hp.box⟩
 clear hK K
 try simp only [Act.put, sA, sB, sC]
 have x0 := HH.out.hx.cell
 have xf := HH.out.hx.frozen
 refine pure_ (i := 4) (N := some 25) (v := ?_) (a' := ?_) #[true,true,true,true,true,false] rfl rfl (by kernel_rfl) (fun _ _ _ h => h) (Or.inl ⟨by rfl, ?_⟩) ?_ ?_
 rotate_left
 · intro w'
   go_simp
   try with_reducible rfl
 rotate_left
 · simp only [Act.put, sA, sB, sC]
   rfl
 refine last_ (i := 5) (N := none) #[true,true,true,true,true,true] rfl rfl (by kernel_rfl) (by decide) (fun K hK => ?_)
 go_simp
 refine hK.out _ _ ?_
 clear hK K
 try simp only [Act.put, sA, sB, sC]
 refine done_ (by kernel_rfl) ?_
 clear x0 xf
 have h9 := HH.out.put (S ++ X1)
 have HQ9 := Aside0.mk h9
 clear h9
 go_wp2_with fail
 exact by_4 p A c n0 n1 (S ++ X1) X w _ C4 HC4.out _ _ _ _ _ _ _ _ _ _ _ _ _ _ _ _ _ _ _ _ _ _ _ _ _ _ _ _ _ _ _ _ _ _ _ _ _ _ _ _ _ _ _ _ _ _ _ _ _ _ _ _ _ _ _ _ _ _ _ _ _ _ _ _ _ _ _ _ _ _ _ _ _ _ _ _ _ _ _ _ _ HQ9.out HK.out.1 HK.out.2.1 HK.out.2.2.1 HK.out.2.2.2 (by rw [app_size]; have := HZ.out; have := HZ1.out; omega) HX.out
theorem by_3 (p : Prt) (A : Option Addr) (c n0 n1 : Nat) (S X : ByteArray) (w W : World) (C : Code) (hC : (match Try.f12.body with | some (.seq _ (.seq _ (.seq _ c))) => c | _ => .skip) = C) (u0 u5 u6 u7 u8 u9 u10 u11 u12 u13 u14 u15 u16 u17 u18 u19 u20 u21 u22 u23 u24 u25 u26 u27 u28 u29 u30 u31 u32 u33 u34 u35 u36 u37 u38 u39 u40 u41 u42 u43 u44 u45 u46 u47 u48 u49 u50 u51 u52 u53 u54 u55 u56 u57 u58 u59 u60 u61 u62 u63 u64 u65 u66 u67 u68 u69 u70 u71 u72 u73 u74 u75 u76 u77 u78 u79 u80 u81 u82 u83 u84 : Value) (hh : BCt p A c n0 n1 S w W) (hlen : p.l.length ≤ 6) (hent : ∀ i, i < p.l.length → isE (el p.l i) = true) (hnum : ∀ o, 0 ≤ getA p o ∧ getA p o ≤ 1099511627776) (hpos : p.k = 1 → 0 < p.l.length) (hsz : S.size ≤ 30) (hX : entsB (p.k == 6) p.l (lenB p (midB p (flagB p S))) = X) : C.wp Try.prog (bodyPostR Fence.wide 0 Try.prog Try.f12 (fun r w' => r = .returned (.tuple #[.string X, .int .i64 ((0 : Nat) : Int)]) ∧ Below w.heap.size w w')) { tmps := #[u0, .pointer (some ⟨n0, 0, none⟩), .string ⟨#[]⟩, .int .i64 0, .pointer (some ⟨n1, 0, none⟩), u5, u6, u7, u8, u9, u10, u11, u12, u13, u14, u15, u16, u17, u18, u19, u20, u21, u22, u23, u24, u25, u26, u27, u28, u29, u30, u31, u32, u33, u34, u35, u36, u37, u38, u39, u40, u41, u42, u43, u44, u45, u46, u47, u48, u49, u50, u51, u52, u53, u54, u55, u56, u57, u58, u59, u60, u61, u62, u63, u64, u65, u66, u67, u68, u69, u70, u71, u72, u73, u74, u75, u76, u77, u78, u79, u80, u81, u82, u83, u84], defers := [] } W := by
  by_cases h6 : p.k = 6
  · exact by_3_t p A c n0 n1 S X w W C hC u0 u5 u6 u7 u8 u9 u10 u11 u12 u13 u14 u15 u16 u17 u18 u19 u20 u21 u22 u23 u24 u25 u26 u27 u28 u29 u30 u31 u32 u33 u34 u35 u36 u37 u38 u39 u40 u41 u42 u43 u44 u45 u46 u47 u48 u49 u50 u51 u52 u53 u54 u55 u56 u57 u58 u59 u60 u61 u62 u63 u64 u65 u66 u67 u68 u69 u70 u71 u72 u73 u74 u75 u76 u77 u78 u79 u80 u81 u82 u83 u84 hh hlen hent hnum hpos hsz hX h6
  · exact by_3_f p A c n0 n1 S X w W C hC u0 u5 u6 u7 u8 u9 u10 u11 u12 u13 u14 u15 u16 u17 u18 u19 u20 u21 u22 u23 u24 u25 u26 u27 u28 u29 u30 u31 u32 u33 u34 u35 u36 u37 u38 u39 u40 u41 u42 u43 u44 u45 u46 u47 u48 u49 u50 u51 u52 u53 u54 u55 u56 u57 u58 u59 u60 u61 u62 u63 u64 u65 u66 u67 u68 u69 u70 u71 u72 u73 u74 u75 u76 u77 u78 u79 u80 u81 u82 u83 u84 hh hlen hent hnum hpos hsz hX h6
set_option maxHeartbeats 4000000 in
set_option maxRecDepth 100000 in
theorem by_2 (p : Prt) (A : Option Addr) (c n0 : Nat) (w W : World) (C : Code) (hC : (match Try.f12.body with | some (.seq _ (.seq _ c)) => c | _ => .skip) = C) (u0 u4 u5 u6 u7 u8 u9 u10 u11 u12 u13 u14 u15 u16 u17 u18 u19 u20 u21 u22 u23 u24 u25 u26 u27 u28 u29 u30 u31 u32 u33 u34 u35 u36 u37 u38 u39 u40 u41 u42 u43 u44 u45 u46 u47 u48 u49 u50 u51 u52 u53 u54 u55 u56 u57 u58 u59 u60 u61 u62 u63 u64 u65 u66 u67 u68 u69 u70 u71 u72 u73 u74 u75 u76 u77 u78 u79 u80 u81 u82 u83 u84 : Value) (hh : BCz p A c n0 w W) (hp : isP p = true) :
  C.wp Try.prog (bodyPostR Fence.wide 0 Try.prog Try.f12 (fun r w' => r = .returned (.tuple #[.string (bytesP p), .int .i64 ((0 : Nat) : Int)]) ∧ Below w.heap.size w w')) { tmps := #[u0, .pointer (some ⟨n0, 0, none⟩), .string ⟨#[]⟩, .int .i64 0, u4, u5, u6, u7, u8, u9, u10, u11, u12, u13, u14, u15, u16, u17, u18, u19, u20, u21, u22, u23, u24, u25, u26, u27, u28, u29, u30, u31, u32, u33, u34, u35, u36, u37, u38, u39, u40, u41, u42, u43, u44, u45, u46, u47, u48, u49, u50, u51, u52, u53, u54, u55, u56, u57, u58, u59, u60, u61, u62, u63, u64, u65, u66, u67, u68, u69, u70, u71, u72, u73, u74, u75, u76, u77, u78, u79, u80, u81, u82, u83, u84], defers := [] } W := by
 have HH := Aside0.mk hh
 clear hh
 simp only [Try.f12] at hC
 subst hC
 have HP := Aside0.mk (isP_rng hp)
 have HK := Aside0.mk (And.intro HP.out.1 HP.out.2.1)
 obtain ⟨X, hX⟩ : ∃ X, bytesP p = X := ⟨_, rfl⟩
 obtain ⟨X1, hX1⟩ : ∃ Y, putS p.g.toNat = Y := ⟨_, rfl⟩
 have EX1 := Aside0.mk hX1
 have HZ1 : Aside0 (X1.size ≤ 9) := ⟨by rw [← hX1]; exact putS_le (by have := HK.out; omega)⟩
 obtain ⟨X2, hX2⟩ : ∃ Y, putS p.k.toNat = Y := ⟨_, rfl⟩
 have EX2 := Aside0.mk hX2
 have HZ2 : Aside0 (X2.size ≤ 9) := ⟨by rw [← hX2]; exact putS_le (by have := HK.out; omega)⟩
 have HX : Aside0 (entsB (p.k == 6) p.l (lenB p (midB p (flagB p (X1 ++ X2)))) = X) := ⟨by rw [← hX1, ← hX2]; exact hX⟩
 rw [hX]
 have hs1 : (9223372036854775807 < X1.size + X2.size) = False := eq_false (by have := HZ1.out; have := HZ2.out; omega)
 clear hX hX1 hX2 hp
 obtain ⟨C3, hC3⟩ : ∃ C, (match Try.f12.body with | some (.seq _ (.seq _ (.seq _ c))) => c | _ => .skip) = C := ⟨_, rfl⟩
 have HC3 := Aside0.mk hC3
 simp only [Try.f12] at hC3
 rw [hC3]
 clear hC3
 go_wp2_with fail
 replace HH := Aside0.mk HH.out.drew
 refine start_ (n := 9) (S := (fun w' => w'.cell? ⟨n0, 0, none⟩ = some (.int .i64 p.g) ∧ w'.cell? ⟨n0, 1, none⟩ = some (.int .i64 p.k))) (ds := [8]) #[false,false,false,false,false,false,false,false,false] (by kernel_rfl) rfl rfl ⟨HH.out.hp.box.1, HH.out.hp.box.2.1⟩ (fun hHeld => ?_)
 obtain ⟨W9, hW⟩ : ∃ X, W.drew = X := ⟨_, rfl⟩
 rw [hW] at hHeld HH ⊢
 clear hW
 refine pure_ (i := 0) (N := some 11) (v := ?_) (a' := ?_) #[true,false,false,false,false,false,false,false,false] rfl rfl (by kernel_rfl) (fun _ _ _ h => h) (Or.inl ⟨by rfl, ?_⟩) ?_ ?_
 rotate_left
 · intro w'
   go_simp
   try with_reducible rfl
 rotate_left
 · simp only [Act.put, sA, sB, sC]
   rfl
 refine take_ (i := 1) (N := some 12) (v := ?_) (a' := ?_) #[true,true,false,false,false,false,false,false,false] rfl rfl (by kernel_rfl) (fun _ _ _ h => h) (Or.inl ⟨by rfl, ?_⟩) hHeld ?_ ?_
 rotate_left
 · rintro w' ⟨y0, y1⟩
   go_simp
   try with_reducible rfl
 rotate_left
 · simp only [Act.put, sA, sB, sC]
   rfl
 refine pure_ (i := 3) (N := some 14) (v := ?_) (a' := ?_) #[true,true,false,true,false,false,false,false,false] rfl rfl (by kernel_rfl) (fun _ _ _ h => h) (Or.inl ⟨by rfl, ?_⟩) ?_ ?_
 rotate_left
 · intro w'
   go_simp
   try with_reducible rfl
 rotate_left
 · simp only [Act.put, sA, sB, sC]
   rfl
 refine take_ (i := 4) (N := some 15) (v := ?_) (a' := ?_) #[true,true,false,true,true,false,false,false,false] rfl rfl (by kernel_rfl) (fun _ _ _ h => h) (Or.inl ⟨by rfl, ?_⟩) hHeld ?_ ?_
 rotate_left
 · rintro w' ⟨y0, y1⟩
   go_simp
   try with_reducible rfl
 rotate_left
 · simp only [Act.put, sA, sB, sC]
   rfl
 refine two_ (i := 2) (j := 7) (Ni := some 13) (Nj := some 4) #[true,true,true,true,true,false,false,false,false] #[true,true,false,true,true,false,false,true,false] rfl rfl rfl rfl (by kernel_rfl) (by decide) (by decide) (fun K hK => ?_) (fun K hK => ?_)
 · go_simp
   refine (putc p.g (by have := HK.out; omega) _ EX1.out).mono ?_; rintro r w20 ⟨rfl, hw⟩; replace HH := Aside0.mk (HH.out.below hw); clear hw
   refine hK.out _ _ ?_ (fun hHeld => ?_)
   · exact ⟨HH.out.hp.box.1, HH.out.hp.box.2.1⟩
   clear hK K
   try simp only [Act.put, sA, sB, sC]
   refine two_ (i := 5) (j := 7) (Ni := some 16) (Nj := some 4) #[true,true,true,true,true,true,false,false,false] #[true,true,true,true,true,false,false,true,false] rfl rfl rfl rfl (by kernel_rfl) (by decide) (by decide) (fun K hK => ?_) (fun K hK => ?_)
   · go_simp
     refine (putc p.k (by have := HK.out; omega) _ EX2.out).mono ?_; rintro r w21 ⟨rfl, hw⟩; replace HH := Aside0.mk (HH.out.below hw); clear hw
     refine hK.out _ _ ?_ (fun hHeld => ?_)
     · exact ⟨HH.out.hp.box.1, HH.out.hp.box.2.1⟩
     clear hK K
     try simp only [Act.put, sA, sB, sC]
     refine pure_ (i := 6) (N := some 17) (v := ?_) (a' := ?_) #[true,true,true,true,true,true,true,false,false] rfl rfl (by kernel_rfl) (fun _ _ _ h => h) (Or.inl ⟨by rfl, ?_⟩) ?_ ?_
     rotate_left
     · intro w'
       go_simp
       try with_reducible rfl
     rotate_left
     · simp only [Act.put, sA, sB, sC]
       rfl
     refine one_ (i := 7) (N := some 4) #[true,true,true,true,true,true,true,true,false] rfl rfl (by kernel_rfl) (by decide) (fun K hK => ?_)
     go_simp
     refine hK.out _ _ ?_ (fun hHeld => ?_)
     · exact ⟨((HH.out.alloc (.cells #[.string ⟨#[]⟩] 9)).hp.box).1, ((HH.out.alloc (.cells #[.string ⟨#[]⟩] 9)).hp.box).2.1⟩
     clear hK K
     try simp only [Act.put, sA, sB, sC]
     obtain ⟨n1, hn1⟩ : ∃ x, w21.heap.size = x := ⟨_, rfl⟩
     have hs9 := Boxed.new w21 9 (.string ⟨#[]⟩)
     rw [hn1] at hs9
     have HS := Aside0.mk hs9
     have HN1 : Aside0 (n0 < n1) := ⟨by rw [← hn1]; exact HH.out.hp.lt'⟩
     replace HH := Aside0.mk (HH.out.alloc (.cells #[.string ⟨#[]⟩] 9))
     try rw [hn1]
     obtain ⟨w30, hW⟩ : ∃ X, w21.alloc (.cells #[.string ⟨#[]⟩] 9) = X := ⟨_, rfl⟩
     rw [hW] at HH HS ⊢
     clear hW hs9 hn1
     have x0 := HS.out.cell
     have xf := HS.out.frozen
     refine last_ (i := 8) (N := none) #[true,true,true,true,true,true,true,true,true] rfl rfl (by kernel_rfl) (by decide) (fun K hK => ?_)
     go_simp
     refine hK.out _ _ ?_
     clear hK K
     try simp only [Act.put, sA, sB, sC]
     refine done_ (by kernel_rfl) ?_
     clear x0 xf
     have h9 := (HH.out.boxed HS.out HN1.out).put (X1 ++ X2)
     have HQ9 := Aside0.mk h9
     clear h9
     go_wp2_with fail
     exact by_3 p A c n0 n1 (X1 ++ X2) X w _ C3 HC3.out _ _ _ _ _ _ _ _ _ _ _ _ _ _ _ _ _ _ _ _ _ _ _ _ _ _ _ _ _ _ _ _ _ _ _ _ _ _ _ _ _ _ _ _ _ _ _ _ _ _ _ _ _ _ _ _ _ _ _ _ _ _ _ _ _ _ _ _ _ _ _ _ _ _ _ _ _ _ _ _ _ HQ9.out HP.out.2.2.2.1 HP.out.2.2.2.2.1 HP.out.2.2.1 HP.out.2.2.2.2.2 (by rw [app_size]; have := HZ1.out; have := HZ2.out; omega) HX.out
   · go_simp
     refine hK.out _ _ ?_ (fun hHeld => ?_)
     · exact ⟨((HH.out.alloc (.cells #[.string ⟨#[]⟩] 9)).hp.box).1, ((HH.out.alloc (.cells #[.string ⟨#[]⟩] 9)).hp.box).2.1⟩
     clear hK K
     try simp only [Act.put, sA, sB, sC]
     obtain ⟨n1, hn1⟩ : ∃ x, w20.heap.size = x := ⟨_, rfl⟩
     have hs9 := Boxed.new w20 9 (.string ⟨#[]⟩)
     rw [hn1] at hs9
     have HS := Aside0.mk hs9
     have HN1 : Aside0 (n0 < n1) := ⟨by rw [← hn1]; exact HH.out.hp.lt'⟩
     replace HH := Aside0.mk (HH.out.alloc (.cells #[.string ⟨#[]⟩] 9))
     try rw [hn1]
     obtain ⟨w30, hW⟩ : ∃ X, w20.alloc (.cells #[.string ⟨#[]⟩] 9) = X := ⟨_, rfl⟩
     rw [hW] at HH HS ⊢
     clear hW hs9 hn1
     refine one_ (i := 5) (N := some 16) #[true,true,true,true,true,true,false,true,false] rfl rfl (by kernel_rfl) (by decide) (fun K hK => ?_)
     go_simp
     refine (putc p.k (by have := HK.out; omega) _ EX2.out).mono ?_; rintro r w21 ⟨rfl, hw⟩; replace HH := Aside0.mk (HH.out.below hw); replace HS := Aside0.mk ((only_bel hw).boxed HS.out (fun h => h)); clear hw
     refine hK.out _ _ ?_ (fun hHeld => ?_)
     · exact ⟨HH.out.hp.box.1, HH.out.hp.box.2.1⟩
     clear hK K
     try simp only [Act.put, sA, sB, sC]
     have x0 := HS.out.cell
     have xf := HS.out.frozen
     refine pure_ (i := 6) (N := some 17) (v := ?_) (a' := ?_) #[true,true,true,true,true,true,true,true,false] rfl rfl (by kernel_rfl) (fun _ _ _ h => h) (Or.inl ⟨by rfl, ?_⟩) ?_ ?_
     rotate_left
     · intro w'
       go_simp
       try with_reducible rfl
     rotate_left
     · simp only [Act.put, sA, sB, sC]
       rfl
     refine last_ (i := 8) (N := none) #[true,true,true,true,true,true,true,true,true] rfl rfl (by kernel_rfl) (by decide) (fun K hK => ?_)
     go_simp
     refine hK.out _ _ ?_
     clear hK K
     try simp only [Act.put, sA, sB, sC]
     refine done_ (by kernel_rfl) ?_
     clear x0 xf
     have h9 := (HH.out.boxed HS.out HN1.out).put (X1 ++ X2)
     have HQ9 := Aside0.mk h9
     clear h9
     go_wp2_with fail
     exact by_3 p A c n0 n1 (X1 ++ X2) X w _ C3 HC3.out _ _ _ _ _ _ _ _ _ _ _ _ _ _ _ _ _ _ _ _ _ _ _ _ _ _ _ _ _ _ _ _ _ _ _ _ _ _ _ _ _ _ _ _ _ _ _ _ _ _ _ _ _ _ _ _ _ _ _ _ _ _ _ _ _ _ _ _ _ _ _ _ _ _ _ _ _ _ _ _ _ HQ9.out HP.out.2.2.2.1 HP.out.2.2.2.2.1 HP.out.2.2.1 HP.out.2.2.2.2.2 (by rw [app_size]; have := HZ1.out; have := HZ2.out; omega) HX.out
 · go_simp
   refine hK.out _ _ ?_ (fun hHeld => ?_)
   · exact ⟨((HH.out.alloc (.cells #[.string ⟨#[]⟩] 9)).hp.box).1, ((HH.out.alloc (.cells #[.string ⟨#[]⟩] 9)).hp.box).2.1⟩
   clear hK K
   try simp only [Act.put, sA, sB, sC]
   obtain ⟨n1, hn1⟩ : ∃ x, W9.heap.size = x := ⟨_, rfl⟩
   have hs9 := Boxed.new W9 9 (.string ⟨#[]⟩)
   rw [hn1] at hs9
   have HS := Aside0.mk hs9
   have HN1 : Aside0 (n0 < n1) := ⟨by rw [← hn1]; exact HH.out.hp.lt'⟩
   replace HH := Aside0.mk (HH.out.alloc (.cells #[.string ⟨#[]⟩] 9))
   try rw [hn1]
   obtain ⟨w30, hW⟩ : ∃ X, W9.alloc (.cells #[.string ⟨#[]⟩] 9) = X := ⟨_, rfl⟩
   rw [hW] at HH HS ⊢
   clear hW hs9 hn1
   refine one_ (i := 2) (N := some 13) #[true,true,true,true,true,false,false,true,false] rfl rfl (by kernel_rfl) (by decide) (fun K hK => ?_)
   go_simp
   refine (putc p.g (by have := HK.out; omega) _ EX1.out).mono ?_; rintro r w20 ⟨rfl, hw⟩; replace HH := Aside0.mk (HH.out.below hw); replace HS := Aside0.mk ((only_bel hw).boxed HS.out (fun h => h)); clear hw
   refine hK.out _ _ ?_ (fun hHeld => ?_)
   · exact ⟨HH.out.hp.box.1, HH.out.hp.box.2.1⟩
   clear hK K
   try simp only [Act.put, sA, sB, sC]
   refine one_ (i := 5) (N := some 16) #[true,true,true,true,true,true,false,true,false] rfl rfl (by kernel_rfl) (by decide) (fun K hK => ?_)
   go_simp
   refine (putc p.k (by have := HK.out; omega) _ EX2.out).mono ?_; rintro r w21 ⟨rfl, hw⟩; replace HH := Aside0.mk (HH.out.below hw); replace HS := Aside0.mk ((only_bel hw).boxed HS.out (fun h => h)); clear hw
   refine hK.out _ _ ?_ (fun hHeld => ?_)
   · exact ⟨HH.out.hp.box.1, HH.out.hp.box.2.1⟩
   clear hK K
   try simp only [Act.put, sA, sB, sC]
   have x0 := HS.out.cell
   have xf := HS.out.frozen
   refine pure_ (i := 6) (N := some 17) (v := ?_) (a' := ?_) #[true,true,true,true,true,true,true,true,false] rfl rfl (by kernel_rfl) (fun _ _ _ h => h) (Or.inl ⟨by rfl, ?_⟩) ?_ ?_
   rotate_left
   · intro w'
     go_simp
     try with_reducible rfl
   rotate_left
   · simp only [Act.put, sA, sB, sC]
     rfl
   refine last_ (i := 8) (N := none) #[true,true,true,true,true,true,true,true,true] rfl rfl (by kernel_rfl) (by decide) (fun K hK => ?_)
   go_simp
   refine hK.out _ _ ?_
   clear hK K
   try simp only [Act.put, sA, sB, sC]
   refine done_ (by kernel_rfl) ?_
   clear x0 xf
   have h9 := (HH.out.boxed HS.out HN1.out).put (X1 ++ X2)
   have HQ9 := Aside0.mk h9
   clear h9
   go_wp2_with fail
   exact by_3 p A c n0 n1 (X1 ++ X2) X w _ C3 HC3.out _ _ _ _ _ _ _ _ _ _ _ _ _ _ _ _ _ _ _ _ _ _ _ _ _ _ _ _ _ _ _ _ _ _ _ _ _ _ _ _ _ _ _ _ _ _ _ _ _ _ _ _ _ _ _ _ _ _ _ _ _ _ _ _ _ _ _ _ _ _ _ _ _ _ _ _ _ _ _ _ _ HQ9.out HP.out.2.2.2.1 HP.out.2.2.2.2.1 HP.out.2.2.1 HP.out.2.2.2.2.2 (by rw [app_size]; have := HZ1.out; have := HZ2.out; omega) HX.out
set_option maxHeartbeats 4000000 in
set_option maxRecDepth 100000 in
theorem by_1_t (p : Prt) (A : Option Addr) (c n0 : Nat) (w W : World) (C : Code) (hC : (match Try.f12.body with | some (.seq _ c) => c | _ => .skip) = C) (u0 u4 u5 u6 u7 u8 u9 u10 u11 u12 u13 u14 u15 u16 u17 u18 u19 u20 u21 u22 u23 u24 u25 u26 u27 u28 u29 u30 u31 u32 u33 u34 u35 u36 u37 u38 u39 u40 u41 u42 u43 u44 u45 u46 u47 u48 u49 u50 u51 u52 u53 u54 u55 u56 u57 u58 u59 u60 u61 u62 u63 u64 u65 u66 u67 u68 u69 u70 u71 u72 u73 u74 u75 u76 u77 u78 u79 u80 u81 u82 u83 u84 : Value) (hh : BCz p A c n0 w W) (hp : isP p = true) :
  C.wp Try.prog (bodyPostR Fence.wide 0 Try.prog Try.f12 (fun r w' => r = .returned (.tuple #[.string (bytesP p), .int .i64 ((0 : Nat) : Int)]) ∧ Below w.heap.size w w')) { tmps := #[u0, .pointer (some ⟨n0, 0, none⟩), .string ⟨#[]⟩, .int .i64 0, u4, u5, u6, u7, u8, u9, u10, u11, u12, u13, u14, u15, u16, u17, u18, u19, u20, u21, u22, u23, u24, u25, u26, u27, u28, u29, u30, u31, u32, u33, u34, u35, u36, u37, u38, u39, u40, u41, u42, u43, u44, u45, u46, u47, u48, u49, u50, u51, u52, u53, u54, u55, u56, u57, u58, u59, u60, u61, u62, u63, u64, u65, u66, u67, u68, u69, u70, u71, u72, u73, u74, u75, u76, u77, u78, u79, u80, u81, u82, u83, u84], defers := [] } W := by
 have HH := Aside0.mk hh
 clear hh
 simp only [Try.f12] at hC
 subst hC
 have HPB := Aside0.mk hp
 clear hp
 obtain ⟨C2, hC2⟩ : ∃ C, (match Try.f12.body with | some (.seq _ (.seq _ c)) => c | _ => .skip) = C := ⟨_, rfl⟩
 have HC2 := Aside0.mk hC2
 simp only [Try.f12] at hC2
 rw [hC2]
 clear hC2
 obtain ⟨y0, y1, y2, y3, y4, y5, y6, y7, y8, y9⟩ := HH.out.hp.box
 go_wp2_with fail
 go_at_call 15
 refine (isp4 p A c _ HH.out.hr HPB.out).mono ?_
 rintro r w1 ⟨rfl, hw⟩
 replace HH := Aside0.mk (HH.out.below hw)
 clear hw y0 y1 y2 y3 y4 y5 y6 y7 y8 y9
 go_wp2_with fail
 exact by_2 p A c n0 w w1 C2 HC2.out _ _ _ _ _ _ _ _ _ _ _ _ _ _ _ _ _ _ _ _ _ _ _ _ _ _ _ _ _ _ _ _ _ _ _ _ _ _ _ _ _ _ _ _ _ _ _ _ _ _ _ _ _ _ _ _ _ _ _ _ _ _ _ _ _ _ _ _ _ _ _ _ _ _ _ _ _ _ _ _ _ _ HH.out HPB.out
set_option maxHeartbeats 4000000 in
set_option maxRecDepth 100000 in
theorem by_1_f (p : Prt) (A : Option Addr) (c n0 : Nat) (w W : World) (C : Code) (hC : (match Try.f12.body with | some (.seq _ c) => c | _ => .skip) = C) (u0 u4 u5 u6 u7 u8 u9 u10 u11 u12 u13 u14 u15 u16 u17 u18 u19 u20 u21 u22 u23 u24 u25 u26 u27 u28 u29 u30 u31 u32 u33 u34 u35 u36 u37 u38 u39 u40 u41 u42 u43 u44 u45 u46 u47 u48 u49 u50 u51 u52 u53 u54 u55 u56 u57 u58 u59 u60 u61 u62 u63 u64 u65 u66 u67 u68 u69 u70 u71 u72 u73 u74 u75 u76 u77 u78 u79 u80 u81 u82 u83 u84 : Value) (hh : BCz p A c n0 w W) (hp : isP p = false) :
  C.wp Try.prog (bodyPostR Fence.wide 0 Try.prog Try.f12 (fun r w' => r = .returned (.tuple #[.string ⟨#[]⟩, .int .i64 ((11 : Nat) : Int)]) ∧ Below w.heap.size w w')) { tmps := #[u0, .pointer (some ⟨n0, 0, none⟩), .string ⟨#[]⟩, .int .i64 0, u4, u5, u6, u7, u8, u9, u10, u11, u12, u13, u14, u15, u16, u17, u18, u19, u20, u21, u22, u23, u24, u25, u26, u27, u28, u29, u30, u31, u32, u33, u34, u35, u36, u37, u38, u39, u40, u41, u42, u43, u44, u45, u46, u47, u48, u49, u50, u51, u52, u53, u54, u55, u56, u57, u58, u59, u60, u61, u62, u63, u64, u65, u66, u67, u68, u69, u70, u71, u72, u73, u74, u75, u76, u77, u78, u79, u80, u81, u82, u83, u84], defers := [] } W := by
 have HH := Aside0.mk hh
 clear hh
 simp only [Try.f12] at hC
 subst hC
 have HPB := Aside0.mk hp
 clear hp
 obtain ⟨C2, hC2⟩ : ∃ C, (match Try.f12.body with | some (.seq _ (.seq _ c)) => c | _ => .skip) = C := ⟨_, rfl⟩
 have HC2 := Aside0.mk hC2
 simp only [Try.f12] at hC2
 rw [hC2]
 clear hC2
 obtain ⟨y0, y1, y2, y3, y4, y5, y6, y7, y8, y9⟩ := HH.out.hp.box
 go_wp2_with fail
 go_at_call 15
 refine (isp4 p A c _ HH.out.hr HPB.out).mono ?_
 rintro r w1 ⟨rfl, hw⟩
 replace HH := Aside0.mk (HH.out.below hw)
 clear hw y0 y1 y2 y3 y4 y5 y6 y7 y8 y9
 go_wp2
 refine Marks.leaves (n₀ := w.heap.size) (show Marks w.heap.size [] _ from trivial) fun W' hW' => ?_
 refine ⟨.tuple #[.string ⟨#[]⟩, .int .i64 ((11 : Nat) : Int)], by simp [results, Try.results12, go_sem], rfl, HH.out.hb.trans (hW'.below HH.out.hb.size (fun q hq h => by have h1 := h.1; omega))⟩
set_option maxHeartbeats 4000000 in
set_option maxRecDepth 100000 in
theorem part_Bytes_t (p : Prt) (A : Option Addr) (c : Nat) (w : World) (h : Rd w A c p.l) (hp : isP p = true) :
  Calls Try.prog 12 #[vP p A c] w (fun r w' => r = .returned (.tuple #[.string (bytesP p), .int .i64 ((0 : Nat) : Int)]) ∧ Below w.heap.size w w') := by
 have HPB := Aside0.mk hp
 have HR := Aside0.mk h
 clear hp h
 unfold vP
 refine (callsIn_wide (n := 0)).1 ?_
 refine callsIn_of_wp_marks Try.func12 rfl trivial ?_
 refine wpIn_wide.2 ?_
 refine wp_mono ?_ (bodyPostR_M (F := Fence.wide) (n := 0))
 simp only [Try.ntmps12, List.size_toArray, List.length_cons, List.length_nil, Nat.reduceAdd, Nat.reduceSub, Array.replicate_succ, Array.replicate_zero, List.push_toArray, List.append_toArray, List.nil_append, List.cons_append]
 obtain ⟨C1, hC1⟩ : ∃ C, (match Try.f12.body with | some (.seq _ c) => c | _ => .skip) = C := ⟨_, rfl⟩
 have HC1 := Aside0.mk hC1
 simp only [Try.f12] at hC1
 rw [hC1]
 clear hC1
 go_wp2_with fail
 have h9 : BCz p A c w.heap.size w (w.alloc (.cells #[.int .i64 p.g, .int .i64 p.k, .slice A p.l.length c, .int .i64 p.ht, .int .i64 p.hv, .int .i64 p.hc, .int .i64 p.ix, .int .i64 p.tm, .bool p.mrk, .bool p.hed] 26)) := ⟨BlkP.new p A c w, HR.out.alloc _, fun q hq => HR.out.lt hq, (Below.refl _ w).alloc (Nat.le_refl _) _, Nat.le_refl _⟩
 exact by_1_t p A c w.heap.size w _ C1 HC1.out _ _ _ _ _ _ _ _ _ _ _ _ _ _ _ _ _ _ _ _ _ _ _ _ _ _ _ _ _ _ _ _ _ _ _ _ _ _ _ _ _ _ _ _ _ _ _ _ _ _ _ _ _ _ _ _ _ _ _ _ _ _ _ _ _ _ _ _ _ _ _ _ _ _ _ _ _ _ _ _ _ _ h9 HPB.out
set_option maxHeartbeats 4000000 in
set_option maxRecDepth 100000 in
theorem part_Bytes_f (p : Prt) (A : Option Addr) (c : Nat) (w : World) (h : Rd w A c p.l) (hp : isP p = false) :
  Calls Try.prog 12 #[vP p A c] w (fun r w' => r = .returned (.tuple #[.string ⟨#[]⟩, .int .i64 ((11 : Nat) : Int)]) ∧ Below w.heap.size w w') := by
 have HPB := Aside0.mk hp
 have HR := Aside0.mk h
 clear hp h
 unfold vP
 refine (callsIn_wide (n := 0)).1 ?_
 refine callsIn_of_wp_marks Try.func12 rfl trivial ?_
 refine wpIn_wide.2 ?_
 refine wp_mono ?_ (bodyPostR_M (F := Fence.wide) (n := 0))
 simp only [Try.ntmps12, List.size_toArray, List.length_cons, List.length_nil, Nat.reduceAdd, Nat.reduceSub, Array.replicate_succ, Array.replicate_zero, List.push_toArray, List.append_toArray, List.nil_append, List.cons_append]
 obtain ⟨C1, hC1⟩ : ∃ C, (match Try.f12.body with | some (.seq _ c) => c | _ => .skip) = C := ⟨_, rfl⟩
 have HC1 := Aside0.mk hC1
 simp only [Try.f12] at hC1
 rw [hC1]
 clear hC1
 go_wp2_with fail
 have h9 : BCz p A c w.heap.size w (w.alloc (.cells #[.int .i64 p.g, .int .i64 p.k, .slice A p.l.length c, .int .i64 p.ht, .int .i64 p.hv, .int .i64 p.hc, .int .i64 p.ix, .int .i64 p.tm, .bool p.mrk, .bool p.hed] 26)) := ⟨BlkP.new p A c w, HR.out.alloc _, fun q hq => HR.out.lt hq, (Below.refl _ w).alloc (Nat.le_refl _) _, Nat.le_refl _⟩
 exact by_1_f p A c w.heap.size w _ C1 HC1.out _ _ _ _ _ _ _ _ _ _ _ _ _ _ _ _ _ _ _ _ _ _ _ _ _ _ _ _ _ _ _ _ _ _ _ _ _ _ _ _ _ _ _ _ _ _ _ _ _ _ _ _ _ _ _ _ _ _ _ _ _ _ _ _ _ _ _ _ _ _ _ _ _ _ _ _ _ _ _ _ _ _ h9 HPB.out
theorem part_Bytes (p : Prt) (A : Option Addr) (c : Nat) (w : World) (h : Rd w A c p.l) {S : ByteArray} {x : Nat} (hS : bytesR p = (S, x)) : Calls Try.prog 12 #[vP p A c] w fun r w' => r = .returned (.tuple #[.string S, .int .i64 (x : Int)]) ∧ Below w.heap.size w w' := by
  unfold bytesR at hS
  cases hp : isP p
  · rw [hp, if_neg (by decide)] at hS; injection hS with h1 h2; subst h1; subst h2; exact part_Bytes_f p A c w h hp
  · rw [hp, if_pos rfl] at hS; injection hS with h1 h2; subst h1; subst h2; exact part_Bytes_t p A c w h hp
end Go.Proofs.Ytokjhocjemjfiaa.PartW
