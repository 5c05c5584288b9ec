/- The walk of ladelaw6.known. -/
import Derived.Test.YtlfdmlacadoolaaTermW
set_option linter.unusedVariables false
set_option linter.unusedSimpArgs false
namespace Go.Proofs.Ytlfdmlacadoolaa.Sp
open Go Go.RowKit Go.Proofs.Ytlfdmlacadoolaa.A Go.Proofs.Ytlfdmlacadoolaa.Seq Go.Proofs.YtlfdmlacadoolaaW.PrintWords Go.Proofs.YtlfdmlacadoolaaW.PrintLast Go.Proofs.YtlfdmlacadoolaaW.PrintMore
/-- entries in a block of their own -/
theorem Rd.made (w : World) (l : List Ent) (hl : l.length ≤ 4398046511104) : Rd (w.alloc (.cells (flatE l).toArray 55)) (some ⟨w.heap.size, 0, none⟩) l.length l := by
  refine ⟨⟨rfl, by omega, fun _ => ⟨_, rfl, fun j p hj => ?_⟩⟩, Nat.le_refl _, hl⟩
  refine ⟨cellsE p, rfl, k55_mk _ p, fun i u hu => ?_⟩
  have hi : i < 3 := by
    have := (List.getElem?_eq_some_iff.1 hu).1
    exact this
  have h1 := flatE_at l j p hj
  have h2 : (flatE l)[j * 3 + i]? = some u := by
    rw [← hu, ← h1, List.getElem?_take_of_lt hi, List.getElem?_drop]
  have h3 : (⟨w.heap.size, 0, none⟩ : Addr).add (j * k55.sz + i) = ⟨w.heap.size, j * 3 + i, none⟩ := by
    show (⟨w.heap.size, 0, none⟩ : Addr).add (j * 3 + i) = _
    unfold Addr.add
    dsimp only
    split
    · next h => rw [h]
    · rw [Nat.zero_add]
  rw [h3]
  exact (cell_of_row _ w.heap.size (j * 3 + i) _ _ _ (World.alloc_heap_new w _)).trans (by rw [List.getElem?_toArray]; exact h2)
theorem le42 {n : Nat} (h : n ≤ 1000) : n ≤ 4398046511104 := by omega
/-- what stays as it was since a world -/
structure Bel (w W : World) : Prop where
  b : Below w.heap.size w W
theorem Bel.below {w W W' : World} (h : Bel w W) (hb : Below W.heap.size W W') : Bel w W' := ⟨h.b.trans (hb.mono h.b.size)⟩
theorem Bel.alloc {w W : World} (h : Bel w W) (o : Obj) : Bel w (W.alloc o) := ⟨h.b.alloc h.b.size o⟩
theorem Bel.drew {w W : World} (h : Bel w W) : Bel w W.drew := h.below (below_drew (Below.refl _ _))
theorem Bel.only {U : Nat → Prop} {w W W' : World} (h : Bel w W) (ho : Only U W W') (hU : ∀ q, q < w.heap.size → ¬ U q) : Bel w W' := ⟨h.b.trans (ho.below h.b.size hU)⟩
theorem Bel.refl (w : World) : Bel w w := ⟨Below.refl _ _⟩
def k6g : Grp := ⟨7, 1, 0, 0, 0, 0, []⟩
def k6l : List Ent := [⟨1, 2, ⟨#[97]⟩⟩, ⟨2, 2, ⟨#[]⟩⟩]
def k6p : Prt := ⟨7, 1, k6l, 0, 0, 0, 0, 0, false, false⟩
def k6h : Grp := ⟨7, 1, 0, 0, 0, 0, k6l⟩
def k6m : List Ent := [⟨2, 2, ⟨#[]⟩⟩]
def k6q : Prt := ⟨7, 1, k6m, 0, 0, 0, 0, 0, false, false⟩
def k6r : Prt := ⟨7, 3, [], 0, 0, 0, 1, 0, false, false⟩
def k6i : Grp := ⟨7, 2, 2, 0, 0, 0, k6m⟩
theorem k6_a : chwG k6g k6p = 0 := by
  unfold chwG
  rw [if_pos ⟨by decide, by decide, by decide, rfl⟩]
  unfold chwK
  rw [if_pos (show k6p.k = 1 from rfl), if_neg (show ¬ (el k6p.l 0).f0 < k6g.fi by decide), if_neg (show ¬ lastG k6g < wrap64 ((el k6p.l 0).f0 - 1) by show ¬ wrap64 (1 - 1) < wrap64 (1 - 1); omega)]
theorem k6_b : chwG k6g k6q = 14 := by
  unfold chwG
  rw [if_pos ⟨by decide, by decide, by decide, rfl⟩]
  unfold chwK
  rw [if_pos (show k6q.k = 1 from rfl), if_neg (show ¬ (el k6q.l 0).f0 < k6g.fi by decide), if_pos (show lastG k6g < wrap64 ((el k6q.l 0).f0 - 1) by show wrap64 (1 - 1) < wrap64 (2 - 1); unfold wrap64; omega)]
theorem k6_1 : dwG k6g k6p = k6h ∧ chwG k6g k6p = 0 := ⟨by unfold dwG; rw [if_pos k6_a]; rfl, k6_a⟩
theorem k6_2 : dwG k6g k6q = k6g ∧ chwG k6g k6q = 14 := ⟨by unfold dwG; rw [if_neg (by rw [k6_b]; decide)], k6_b⟩
theorem k6_3 : dwG k6h k6r = k6i ∧ chwG k6h k6r = 0 := ⟨by rfl, by rfl⟩
theorem k6_4 : trm k6i 1 = (2, 0) ∧ trm k6i 0 = (0, 15) ∧ ents k6i 2 3 = (k6m, 0) := ⟨by rfl, by rfl, by rfl⟩
theorem k6_5 : isG true k6i = true ∧ chwG k6i k6p = 15 ∧ lastG k6h = 2 := by decide
end Go.Proofs.Ytlfdmlacadoolaa.Sp
namespace Go.Proofs.Ytlfdmlacadoolaa.PartW
open Go Go.RowKit Go.Shelf Go.Proofs.Ytlfdmlacadoolaa.A Go.Proofs.Ytlfdmlacadoolaa.Sp Go.Proofs.Ytlfdmlacadoolaa.Reg Go.Proofs.Ytlfdmlacadoolaa.Seq Go.Proofs.YtlfdmlacadoolaaW.PrintWords Go.Proofs.YtlfdmlacadoolaaW.PrintLast Go.Proofs.YtlfdmlacadoolaaW.PrintMore
theorem BlkG.drew {g : Grp} {A : Option Addr} {c B : Nat} {W : World} (h : BlkG g A c B W) : BlkG g A c B W.drew := h.below (below_drew (Below.refl _ _))
theorem BlkP.drew {p : Prt} {A : Option Addr} {c B : Nat} {W : World} (h : BlkP p A c B W) : BlkP p A c B W.drew := h.below (below_drew (Below.refl _ _))
theorem BlkE.drew {x : Ent} {B : Nat} {W : World} (h : BlkE x B W) : BlkE x B W.drew := h.below (below_drew (Below.refl _ _))
theorem lbR {w w' : World} {A : Option Addr} {c : Nat} {l : List Ent} (h : Aside0 (Rd w A c l)) (hb : Below w.heap.size w w') : Aside0 (Rd w' A c l) := ⟨h.out.below hb⟩
theorem lbG {g : Grp} {A : Option Addr} {c B : Nat} {w w' : World} (h : Aside0 (BlkG g A c B w)) (hb : Below w.heap.size w w') : Aside0 (BlkG g A c B w') := ⟨h.out.below hb⟩
theorem lbP {p : Prt} {A : Option Addr} {c B : Nat} {w w' : World} (h : Aside0 (BlkP p A c B w)) (hb : Below w.heap.size w w') : Aside0 (BlkP p A c B w') := ⟨h.out.below hb⟩
theorem lbE {x : Ent} {B : Nat} {w w' : World} (h : Aside0 (BlkE x B w)) (hb : Below w.heap.size w w') : Aside0 (BlkE x B w') := ⟨h.out.below hb⟩
theorem lbB {w0 w w' : World} (h : Aside0 (Bel w0 w)) (hb : Below w.heap.size w w') : Aside0 (Bel w0 w') := ⟨h.out.below hb⟩
theorem laR {w : World} {A : Option Addr} {c : Nat} {l : List Ent} (h : Aside0 (Rd w A c l)) (o : Obj) : Aside0 (Rd (w.alloc o) A c l) := ⟨h.out.alloc o⟩
theorem laG {g : Grp} {A : Option Addr} {c B : Nat} {w : World} (h : Aside0 (BlkG g A c B w)) (o : Obj) : Aside0 (BlkG g A c B (w.alloc o)) := ⟨h.out.alloc o⟩
theorem laP {p : Prt} {A : Option Addr} {c B : Nat} {w : World} (h : Aside0 (BlkP p A c B w)) (o : Obj) : Aside0 (BlkP p A c B (w.alloc o)) := ⟨h.out.alloc o⟩
theorem laE {x : Ent} {B : Nat} {w : World} (h : Aside0 (BlkE x B w)) (o : Obj) : Aside0 (BlkE x B (w.alloc o)) := ⟨h.out.alloc o⟩
theorem laB {w0 w : World} (h : Aside0 (Bel w0 w)) (o : Obj) : Aside0 (Bel w0 (w.alloc o)) := ⟨h.out.alloc o⟩
theorem ldR {w : World} {A : Option Addr} {c : Nat} {l : List Ent} (h : Aside0 (Rd w A c l)) : Aside0 (Rd w.drew A c l) := ⟨h.out.drew⟩
theorem ldG {g : Grp} {A : Option Addr} {c B : Nat} {w : World} (h : Aside0 (BlkG g A c B w)) : Aside0 (BlkG g A c B w.drew) := ⟨h.out.drew⟩
theorem ldP {p : Prt} {A : Option Addr} {c B : Nat} {w : World} (h : Aside0 (BlkP p A c B w)) : Aside0 (BlkP p A c B w.drew) := ⟨h.out.drew⟩
theorem ldE {x : Ent} {B : Nat} {w : World} (h : Aside0 (BlkE x B w)) : Aside0 (BlkE x B w.drew) := ⟨h.out.drew⟩
theorem ldB {w0 w : World} (h : Aside0 (Bel w0 w)) : Aside0 (Bel w0 w.drew) := ⟨h.out.drew⟩
theorem k6new (w : World) {G : Grp} (h : k6g = G) : Calls Try.prog 19 #[.int .i64 7] w (GotG w G) := by
  rw [← h]; exact group_New 7 w
theorem gis_calls (g : Grp) (A : Option Addr) (c : Nat) (w : World) (h : Rd w A c g.l) {b : Bool} (hb : isG true g = b) : Calls Try.prog 15 #[vG g A c] w fun e w' => e = .returned (.bool b) ∧ Below w.heap.size w w' := by
  rw [← hb]; exact group_Is g A c w h
theorem gsame_calls (a b : Grp) (A : Option Addr) (c : Nat) (A' : Option Addr) (c' : Nat) (w : World) (ha : Rd w A c a.l) (hb : Rd w A' c' b.l) {r : Bool} (hr : sameG a b = r) : Calls Try.prog 17 #[vG a A c, vG b A' c'] w fun e w' => e = .returned (.bool r) ∧ Below w.heap.size w w' := by
  rw [← hr]; exact group_Same a b A c A' c' w ha hb
theorem glast_calls (g : Grp) (A : Option Addr) (c : Nat) (w : World) (h : Rd w A c g.l) {v : Int} (hv : lastG g = v) : Calls Try.prog 25 #[vG g A c] w fun e w' => e = .returned (.int .i64 v) ∧ Below w.heap.size w w' := by
  rw [← hv]; exact group_Last' g A c w h
theorem gdo_calls (g : Grp) (A : Option Addr) (c : Nat) (p : Prt) (Ap : Option Addr) (cp : Nat) (w : World) (h : Rd w A c g.l) (hp : Rd w Ap cp p.l) (hl : g.l.length + p.l.length ≤ 4398046511104) {R : Grp} {x : Int} (hR : dwG g p = R) (hx : chwG g p = x) : Calls Try.prog 22 #[vG g A c, vP p Ap cp] w (GotT w R x) := by
  rw [← hR, ← hx]; exact group_Do g A c p Ap cp w h hp hl
theorem gterm_calls (g : Grp) (A : Option Addr) (c : Nat) (i : Int) (w : World) (h : Rd w A c g.l) (hD : isG true g = true) {t x : Int} (ht : trm g i = (t, x)) : Calls Try.prog 27 #[vG g A c, .int .i64 i] w fun e w' => e = .returned (.tuple #[.int .i64 t, .int .i64 x]) ∧ Below w.heap.size w w' := by
  have := group_Term g A c i w h hD
  rw [ht] at this; exact this
theorem gents_calls (g : Grp) (A : Option Addr) (c : Nat) (lo hi : Int) (w : World) (h : Rd w A c g.l) (hD : isG true g = true) (hh : hi ≤ 9223372036854775807) {l : List Ent} {x : Int} (ht : ents g lo hi = (l, x)) : Calls Try.prog 29 #[vG g A c, .int .i64 lo, .int .i64 hi] w (GotS w l x) := by
  have := group_Ents g A c lo hi w h hD hh
  rw [ht] at this; exact this
set_option maxHeartbeats 8000000 in
set_option maxRecDepth 100000 in
theorem known6 (w : World) : Calls Try.prog 12 #[] w fun e w' => e = .returned (.bool true) ∧ Below w.heap.size w w' := by
  obtain ⟨G, hG⟩ : ∃ x, k6g = x := ⟨_, rfl⟩
  have HG := Aside0.mk hG
  obtain ⟨H, hH⟩ : ∃ x, k6h = x := ⟨_, rfl⟩
  have HH := Aside0.mk hH
  obtain ⟨I, hI⟩ : ∃ x, k6i = x := ⟨_, rfl⟩
  have HI := Aside0.mk hI
  obtain ⟨M, hM⟩ : ∃ x, k6m = x := ⟨_, rfl⟩
  have HM := Aside0.mk hM
  obtain ⟨P, hP⟩ : ∃ x, k6p = x := ⟨_, rfl⟩
  have HP := Aside0.mk hP
  have D1 : Aside0 (dwG G P = H ∧ chwG G P = 0) := ⟨by subst hG hH hI hM hP; exact k6_1⟩
  have D2 : Aside0 (dwG G k6q = G ∧ chwG G k6q = 14) := ⟨by subst hG hH hI hM hP; exact k6_2⟩
  have D3 : Aside0 (dwG H k6r = I ∧ chwG H k6r = 0) := ⟨by subst hG hH hI hM hP; exact k6_3⟩
  have D4 : Aside0 (trm I 1 = (2, 0) ∧ trm I 0 = (0, 15) ∧ ents I 2 3 = (M, 0)) := ⟨by subst hG hH hI hM hP; exact k6_4⟩
  have D5 : Aside0 (isG true I = true ∧ chwG I P = 15 ∧ lastG H = 2) := ⟨by subst hG hH hI hM hP; exact k6_5⟩
  have D6 : Aside0 (sameG I I = true) := ⟨by subst hG hH hI hM hP; exact sameG_iff.2 rfl⟩
  have L1 : Aside0 (G.l.length + P.l.length ≤ 4398046511104) := ⟨by subst hG hH hI hM hP; exact le42 (by decide)⟩
  have L2 : Aside0 (G.l.length + k6q.l.length ≤ 4398046511104) := ⟨by subst hG hH hI hM hP; exact le42 (by decide)⟩
  have L3 : Aside0 (H.l.length + k6r.l.length ≤ 4398046511104) := ⟨by subst hG hH hI hM hP; exact le42 (by decide)⟩
  have f1 : (G.fi == 1) = true := by subst hG hH hI hM hP; decide
  have f2 : (G.id == 7) = true := by subst hG hH hI hM hP; decide
  have f3 : (I.fi == 2) = true := by subst hG hH hI hM hP; decide
  have f4 : (I.tm == 2) = true := by subst hG hH hI hM hP; decide
  have f5 : ((M.length : Int) == 1) = true := by subst hG hH hI hM hP; decide
  clear hG hH hI hM
  go_enter Try.func12, Try.ntmps12
  have HB := Aside0.mk (Bel.refl w)
  obtain ⟨C2, hC2⟩ : ∃ C, (match Try.f12.body with | some (.seq _ (.seq _ c)) => c | _ => .skip) = C := ⟨_, rfl⟩
  have HC2 := Aside0.mk hC2
  simp only [Try.f12] at hC2
  rw [hC2]
  clear hC2
  go_wp2_with fail
  go_at_call 19
  refine (k6new w HG.out).mono ?_
  rintro e w1 ⟨A1, c1, rfl, hrd, hw1⟩
  replace HB := lbB HB hw1
  have HR1 := Aside0.mk (hrd)
  clear hrd
  clear hw1
  obtain ⟨n1, hn1⟩ : ∃ n, w1.heap.size = n := ⟨_, rfl⟩
  have HSn1 := Aside0.mk hn1
  go_wp2_with fail
  replace HB := laB HB (.cells #[.int .i64 G.id, .int .i64 G.fi, .int .i64 G.tm, .int .i64 G.ht, .int .i64 G.hv, .int .i64 G.hc, .slice A1 G.l.length c1] 26)
  replace HR1 := laR HR1 (.cells #[.int .i64 G.id, .int .i64 G.fi, .int .i64 G.tm, .int .i64 G.ht, .int .i64 G.hv, .int .i64 G.hc, .slice A1 G.l.length c1] 26)
  have HG1 := Aside0.mk ((by have hq := BlkG.new G A1 c1 w1; rw [HSn1.out] at hq; exact hq : BlkG G A1 c1 n1 (w1.alloc (.cells #[.int .i64 G.id, .int .i64 G.fi, .int .i64 G.tm, .int .i64 G.ht, .int .i64 G.hv, .int .i64 G.hc, .slice A1 G.l.length c1] 26))))
  obtain ⟨W1, hW1⟩ : ∃ W, w1.alloc (.cells #[.int .i64 G.id, .int .i64 G.fi, .int .i64 G.tm, .int .i64 G.ht, .int .i64 G.hv, .int .i64 G.hc, .slice A1 G.l.length c1] 26) = W := ⟨_, rfl⟩
  rw [hW1] at HB HR1 HG1 ⊢
  clear hW1
  clear hn1
  obtain ⟨hg10, hg11, hg12, hg13, hg14, hg15, hg16⟩ := HG1.out.box
  have hC2 := HC2.out
  simp only [Try.f12] at hC2
  subst hC2
  clear HC2
  obtain ⟨C3, hC3⟩ : ∃ C, (match Try.f12.body with | some (.seq _ (.seq _ (.seq _ c))) => c | _ => .skip) = C := ⟨_, rfl⟩
  have HC3 := Aside0.mk hC3
  simp only [Try.f12] at hC3
  rw [hC3]
  clear hC3
  obtain ⟨n2, hn2⟩ : ∃ n, W1.heap.size = n := ⟨_, rfl⟩
  have HSn2 := Aside0.mk hn2
  go_wp2_with fail
  clear hg10 hg11 hg12 hg13 hg14 hg15 hg16
  replace HB := laB HB (.cells #[.int .i64 1, .int .i64 2, .string ⟨#[97]⟩, .int .i64 2, .int .i64 2, .string ⟨#[]⟩] 55)
  replace HR1 := laR HR1 (.cells #[.int .i64 1, .int .i64 2, .string ⟨#[97]⟩, .int .i64 2, .int .i64 2, .string ⟨#[]⟩] 55)
  replace HG1 := laG HG1 (.cells #[.int .i64 1, .int .i64 2, .string ⟨#[97]⟩, .int .i64 2, .int .i64 2, .string ⟨#[]⟩] 55)
  replace HB := laB HB (.cells #[.int .i64 7, .int .i64 1, .slice (some ⟨n2, 0, none⟩) 2 2, .int .i64 0, .int .i64 0, .int .i64 0, .int .i64 0, .int .i64 0, .bool false, .bool false] 28)
  replace HR1 := laR HR1 (.cells #[.int .i64 7, .int .i64 1, .slice (some ⟨n2, 0, none⟩) 2 2, .int .i64 0, .int .i64 0, .int .i64 0, .int .i64 0, .int .i64 0, .bool false, .bool false] 28)
  replace HG1 := laG HG1 (.cells #[.int .i64 7, .int .i64 1, .slice (some ⟨n2, 0, none⟩) 2 2, .int .i64 0, .int .i64 0, .int .i64 0, .int .i64 0, .int .i64 0, .bool false, .bool false] 28)
  have HP1 := Aside0.mk ((by have hq := BlkP.new k6p (some ⟨n2, 0, none⟩) 2 (W1.alloc (.cells #[.int .i64 1, .int .i64 2, .string ⟨#[97]⟩, .int .i64 2, .int .i64 2, .string ⟨#[]⟩] 55)); rw [World.size_alloc, HSn2.out] at hq; have hq2 : BlkP k6p (some ⟨n2, 0, none⟩) 2 (n2 + 1) ((W1.alloc (.cells #[.int .i64 1, .int .i64 2, .string ⟨#[97]⟩, .int .i64 2, .int .i64 2, .string ⟨#[]⟩] 55)).alloc (.cells #[.int .i64 7, .int .i64 1, .slice (some ⟨n2, 0, none⟩) 2 2, .int .i64 0, .int .i64 0, .int .i64 0, .int .i64 0, .int .i64 0, .bool false, .bool false] 28)) := hq; rw [HP.out] at hq2; exact hq2))
  have HR2 := Aside0.mk ((by have hq := Rd.made W1 k6l (le42 (by decide)); rw [HSn2.out] at hq; have hq2 : Rd (W1.alloc (.cells #[.int .i64 1, .int .i64 2, .string ⟨#[97]⟩, .int .i64 2, .int .i64 2, .string ⟨#[]⟩] 55)) (some ⟨n2, 0, none⟩) 2 k6p.l := hq; rw [HP.out] at hq2; exact hq2.alloc (.cells #[.int .i64 7, .int .i64 1, .slice (some ⟨n2, 0, none⟩) 2 2, .int .i64 0, .int .i64 0, .int .i64 0, .int .i64 0, .int .i64 0, .bool false, .bool false] 28)))
  obtain ⟨W2, hW2⟩ : ∃ W, (W1.alloc (.cells #[.int .i64 1, .int .i64 2, .string ⟨#[97]⟩, .int .i64 2, .int .i64 2, .string ⟨#[]⟩] 55)).alloc (.cells #[.int .i64 7, .int .i64 1, .slice (some ⟨n2, 0, none⟩) 2 2, .int .i64 0, .int .i64 0, .int .i64 0, .int .i64 0, .int .i64 0, .bool false, .bool false] 28) = W := ⟨_, rfl⟩
  rw [hW2] at HB HR1 HG1 HP1 HR2 ⊢
  clear hW2
  clear hn2
  obtain ⟨hg10, hg11, hg12, hg13, hg14, hg15, hg16⟩ := HG1.out.box
  obtain ⟨hp10, hp11, hp12, hp13, hp14, hp15, hp16, hp17, hp18, hp19⟩ := HP1.out.box
  have hC3 := HC3.out
  simp only [Try.f12] at hC3
  subst hC3
  clear HC3
  obtain ⟨C4, hC4⟩ : ∃ C, (match Try.f12.body with | some (.seq _ (.seq _ (.seq _ (.seq _ c)))) => c | _ => .skip) = C := ⟨_, rfl⟩
  have HC4 := Aside0.mk hC4
  simp only [Try.f12] at hC4
  rw [hC4]
  clear hC4
  go_wp2_with fail
  go_at_call 22
  refine (gdo_calls G A1 c1 P (some ⟨n2, 0, none⟩) 2 _ HR1.out HR2.out L1.out D1.out.1 D1.out.2).mono ?_
  rintro e w2 ⟨A2, c2, rfl, hrd, hw2⟩
  replace HB := lbB HB hw2
  replace HR1 := lbR HR1 hw2
  replace HG1 := lbG HG1 hw2
  replace HP1 := lbP HP1 hw2
  replace HR2 := lbR HR2 hw2
  have HR3 := Aside0.mk (hrd)
  clear hrd
  clear hw2
  clear hg10 hg11 hg12 hg13 hg14 hg15 hg16 hp10 hp11 hp12 hp13 hp14 hp15 hp16 hp17 hp18 hp19
  obtain ⟨hg10, hg11, hg12, hg13, hg14, hg15, hg16⟩ := HG1.out.box
  obtain ⟨hp10, hp11, hp12, hp13, hp14, hp15, hp16, hp17, hp18, hp19⟩ := HP1.out.box
  obtain ⟨n3, hn3⟩ : ∃ n, w2.heap.size = n := ⟨_, rfl⟩
  have HSn3 := Aside0.mk hn3
  go_wp2_with fail
  clear hg10 hg11 hg12 hg13 hg14 hg15 hg16 hp10 hp11 hp12 hp13 hp14 hp15 hp16 hp17 hp18 hp19
  replace HB := laB HB (.cells #[.int .i64 H.id, .int .i64 H.fi, .int .i64 H.tm, .int .i64 H.ht, .int .i64 H.hv, .int .i64 H.hc, .slice A2 H.l.length c2] 26)
  replace HR1 := laR HR1 (.cells #[.int .i64 H.id, .int .i64 H.fi, .int .i64 H.tm, .int .i64 H.ht, .int .i64 H.hv, .int .i64 H.hc, .slice A2 H.l.length c2] 26)
  replace HG1 := laG HG1 (.cells #[.int .i64 H.id, .int .i64 H.fi, .int .i64 H.tm, .int .i64 H.ht, .int .i64 H.hv, .int .i64 H.hc, .slice A2 H.l.length c2] 26)
  replace HP1 := laP HP1 (.cells #[.int .i64 H.id, .int .i64 H.fi, .int .i64 H.tm, .int .i64 H.ht, .int .i64 H.hv, .int .i64 H.hc, .slice A2 H.l.length c2] 26)
  replace HR2 := laR HR2 (.cells #[.int .i64 H.id, .int .i64 H.fi, .int .i64 H.tm, .int .i64 H.ht, .int .i64 H.hv, .int .i64 H.hc, .slice A2 H.l.length c2] 26)
  replace HR3 := laR HR3 (.cells #[.int .i64 H.id, .int .i64 H.fi, .int .i64 H.tm, .int .i64 H.ht, .int .i64 H.hv, .int .i64 H.hc, .slice A2 H.l.length c2] 26)
  have HH1 := Aside0.mk ((by have hq := BlkG.new H A2 c2 w2; rw [HSn3.out] at hq; exact hq : BlkG H A2 c2 n3 (w2.alloc (.cells #[.int .i64 H.id, .int .i64 H.fi, .int .i64 H.tm, .int .i64 H.ht, .int .i64 H.hv, .int .i64 H.hc, .slice A2 H.l.length c2] 26))))
  obtain ⟨W3, hW3⟩ : ∃ W, w2.alloc (.cells #[.int .i64 H.id, .int .i64 H.fi, .int .i64 H.tm, .int .i64 H.ht, .int .i64 H.hv, .int .i64 H.hc, .slice A2 H.l.length c2] 26) = W := ⟨_, rfl⟩
  rw [hW3] at HB HR1 HG1 HP1 HR2 HR3 HH1 ⊢
  clear hW3
  clear hn3
  obtain ⟨hg10, hg11, hg12, hg13, hg14, hg15, hg16⟩ := HG1.out.box
  obtain ⟨hp10, hp11, hp12, hp13, hp14, hp15, hp16, hp17, hp18, hp19⟩ := HP1.out.box
  obtain ⟨hh10, hh11, hh12, hh13, hh14, hh15, hh16⟩ := HH1.out.box
  have hC4 := HC4.out
  simp only [Try.f12] at hC4
  subst hC4
  clear HC4
  obtain ⟨C5, hC5⟩ : ∃ C, (match Try.f12.body with | some (.seq _ (.seq _ (.seq _ (.seq _ (.seq _ c))))) => c | _ => .skip) = C := ⟨_, rfl⟩
  have HC5 := Aside0.mk hC5
  simp only [Try.f12] at hC5
  rw [hC5]
  clear hC5
  obtain ⟨n4, hn4⟩ : ∃ n, W3.heap.size = n := ⟨_, rfl⟩
  have HSn4 := Aside0.mk hn4
  go_wp2_with fail
  replace HB := laB HB (.cells #[.int .i64 2, .int .i64 2, .string ⟨#[]⟩] 55)
  replace HR1 := laR HR1 (.cells #[.int .i64 2, .int .i64 2, .string ⟨#[]⟩] 55)
  replace HG1 := laG HG1 (.cells #[.int .i64 2, .int .i64 2, .string ⟨#[]⟩] 55)
  replace HP1 := laP HP1 (.cells #[.int .i64 2, .int .i64 2, .string ⟨#[]⟩] 55)
  replace HR2 := laR HR2 (.cells #[.int .i64 2, .int .i64 2, .string ⟨#[]⟩] 55)
  replace HR3 := laR HR3 (.cells #[.int .i64 2, .int .i64 2, .string ⟨#[]⟩] 55)
  replace HH1 := laG HH1 (.cells #[.int .i64 2, .int .i64 2, .string ⟨#[]⟩] 55)
  go_at_call 22
  refine (gdo_calls G A1 c1 k6q (some ⟨n4, 0, none⟩) 1 _ HR1.out (by have hq := Rd.made W3 k6m (le42 (by decide)); rw [HSn4.out] at hq; exact hq) L2.out D2.out.1 D2.out.2).mono ?_
  rintro e w3 ⟨A3, c3, rfl, hrd, hw3⟩
  replace HB := lbB HB hw3
  replace HR1 := lbR HR1 hw3
  replace HG1 := lbG HG1 hw3
  replace HP1 := lbP HP1 hw3
  replace HR2 := lbR HR2 hw3
  replace HR3 := lbR HR3 hw3
  replace HH1 := lbG HH1 hw3
  clear hrd hn4
  clear hw3
  clear hg10 hg11 hg12 hg13 hg14 hg15 hg16 hp10 hp11 hp12 hp13 hp14 hp15 hp16 hp17 hp18 hp19 hh10 hh11 hh12 hh13 hh14 hh15 hh16
  obtain ⟨hg10, hg11, hg12, hg13, hg14, hg15, hg16⟩ := HG1.out.box
  obtain ⟨hp10, hp11, hp12, hp13, hp14, hp15, hp16, hp17, hp18, hp19⟩ := HP1.out.box
  obtain ⟨hh10, hh11, hh12, hh13, hh14, hh15, hh16⟩ := HH1.out.box
  obtain ⟨n5, hn5⟩ : ∃ n, w3.heap.size = n := ⟨_, rfl⟩
  have HSn5 := Aside0.mk hn5
  go_wp2_with fail
  clear hg10 hg11 hg12 hg13 hg14 hg15 hg16 hp10 hp11 hp12 hp13 hp14 hp15 hp16 hp17 hp18 hp19 hh10 hh11 hh12 hh13 hh14 hh15 hh16
  replace HB := laB HB (.cells #[.int .i64 G.id, .int .i64 G.fi, .int .i64 G.tm, .int .i64 G.ht, .int .i64 G.hv, .int .i64 G.hc, .slice A3 G.l.length c3] 26)
  replace HR1 := laR HR1 (.cells #[.int .i64 G.id, .int .i64 G.fi, .int .i64 G.tm, .int .i64 G.ht, .int .i64 G.hv, .int .i64 G.hc, .slice A3 G.l.length c3] 26)
  replace HG1 := laG HG1 (.cells #[.int .i64 G.id, .int .i64 G.fi, .int .i64 G.tm, .int .i64 G.ht, .int .i64 G.hv, .int .i64 G.hc, .slice A3 G.l.length c3] 26)
  replace HP1 := laP HP1 (.cells #[.int .i64 G.id, .int .i64 G.fi, .int .i64 G.tm, .int .i64 G.ht, .int .i64 G.hv, .int .i64 G.hc, .slice A3 G.l.length c3] 26)
  replace HR2 := laR HR2 (.cells #[.int .i64 G.id, .int .i64 G.fi, .int .i64 G.tm, .int .i64 G.ht, .int .i64 G.hv, .int .i64 G.hc, .slice A3 G.l.length c3] 26)
  replace HR3 := laR HR3 (.cells #[.int .i64 G.id, .int .i64 G.fi, .int .i64 G.tm, .int .i64 G.ht, .int .i64 G.hv, .int .i64 G.hc, .slice A3 G.l.length c3] 26)
  replace HH1 := laG HH1 (.cells #[.int .i64 G.id, .int .i64 G.fi, .int .i64 G.tm, .int .i64 G.ht, .int .i64 G.hv, .int .i64 G.hc, .slice A3 G.l.length c3] 26)
  have HX1 := Aside0.mk ((by have hq := BlkG.new G A3 c3 w3; rw [HSn5.out] at hq; exact hq : BlkG G A3 c3 n5 (w3.alloc (.cells #[.int .i64 G.id, .int .i64 G.fi, .int .i64 G.tm, .int .i64 G.ht, .int .i64 G.hv, .int .i64 G.hc, .slice A3 G.l.length c3] 26))))
  obtain ⟨W4, hW4⟩ : ∃ W, w3.alloc (.cells #[.int .i64 G.id, .int .i64 G.fi, .int .i64 G.tm, .int .i64 G.ht, .int .i64 G.hv, .int .i64 G.hc, .slice A3 G.l.length c3] 26) = W := ⟨_, rfl⟩
  rw [hW4] at HB HR1 HG1 HP1 HR2 HR3 HH1 HX1 ⊢
  clear hW4
  clear hn5
  clear HX1
  obtain ⟨hg10, hg11, hg12, hg13, hg14, hg15, hg16⟩ := HG1.out.box
  obtain ⟨hp10, hp11, hp12, hp13, hp14, hp15, hp16, hp17, hp18, hp19⟩ := HP1.out.box
  obtain ⟨hh10, hh11, hh12, hh13, hh14, hh15, hh16⟩ := HH1.out.box
  have hC5 := HC5.out
  simp only [Try.f12] at hC5
  subst hC5
  clear HC5
  obtain ⟨C6, hC6⟩ : ∃ C, (match Try.f12.body with | some (.seq _ (.seq _ (.seq _ (.seq _ (.seq _ (.seq _ c)))))) => c | _ => .skip) = C := ⟨_, rfl⟩
  have HC6 := Aside0.mk hC6
  simp only [Try.f12] at hC6
  rw [hC6]
  clear hC6
  go_wp2_with fail
  go_at_call 22
  refine (gdo_calls H A2 c2 k6r none 0 _ HR3.out (Rd.nil _) L3.out D3.out.1 D3.out.2).mono ?_
  rintro e w4 ⟨A4, c4, rfl, hrd, hw4⟩
  replace HB := lbB HB hw4
  replace HR1 := lbR HR1 hw4
  replace HG1 := lbG HG1 hw4
  replace HP1 := lbP HP1 hw4
  replace HR2 := lbR HR2 hw4
  replace HR3 := lbR HR3 hw4
  replace HH1 := lbG HH1 hw4
  have HR4 := Aside0.mk (hrd)
  clear hrd
  clear hw4
  clear hg10 hg11 hg12 hg13 hg14 hg15 hg16 hp10 hp11 hp12 hp13 hp14 hp15 hp16 hp17 hp18 hp19 hh10 hh11 hh12 hh13 hh14 hh15 hh16
  obtain ⟨hg10, hg11, hg12, hg13, hg14, hg15, hg16⟩ := HG1.out.box
  obtain ⟨hp10, hp11, hp12, hp13, hp14, hp15, hp16, hp17, hp18, hp19⟩ := HP1.out.box
  obtain ⟨hh10, hh11, hh12, hh13, hh14, hh15, hh16⟩ := HH1.out.box
  obtain ⟨n6, hn6⟩ : ∃ n, w4.heap.size = n := ⟨_, rfl⟩
  have HSn6 := Aside0.mk hn6
  go_wp2_with fail
  clear hg10 hg11 hg12 hg13 hg14 hg15 hg16 hp10 hp11 hp12 hp13 hp14 hp15 hp16 hp17 hp18 hp19 hh10 hh11 hh12 hh13 hh14 hh15 hh16
  replace HB := laB HB (.cells #[.int .i64 I.id, .int .i64 I.fi, .int .i64 I.tm, .int .i64 I.ht, .int .i64 I.hv, .int .i64 I.hc, .slice A4 I.l.length c4] 26)
  replace HR1 := laR HR1 (.cells #[.int .i64 I.id, .int .i64 I.fi, .int .i64 I.tm, .int .i64 I.ht, .int .i64 I.hv, .int .i64 I.hc, .slice A4 I.l.length c4] 26)
  replace HG1 := laG HG1 (.cells #[.int .i64 I.id, .int .i64 I.fi, .int .i64 I.tm, .int .i64 I.ht, .int .i64 I.hv, .int .i64 I.hc, .slice A4 I.l.length c4] 26)
  replace HP1 := laP HP1 (.cells #[.int .i64 I.id, .int .i64 I.fi, .int .i64 I.tm, .int .i64 I.ht, .int .i64 I.hv, .int .i64 I.hc, .slice A4 I.l.length c4] 26)
  replace HR2 := laR HR2 (.cells #[.int .i64 I.id, .int .i64 I.fi, .int .i64 I.tm, .int .i64 I.ht, .int .i64 I.hv, .int .i64 I.hc, .slice A4 I.l.length c4] 26)
  replace HR3 := laR HR3 (.cells #[.int .i64 I.id, .int .i64 I.fi, .int .i64 I.tm, .int .i64 I.ht, .int .i64 I.hv, .int .i64 I.hc, .slice A4 I.l.length c4] 26)
  replace HH1 := laG HH1 (.cells #[.int .i64 I.id, .int .i64 I.fi, .int .i64 I.tm, .int .i64 I.ht, .int .i64 I.hv, .int .i64 I.hc, .slice A4 I.l.length c4] 26)
  replace HR4 := laR HR4 (.cells #[.int .i64 I.id, .int .i64 I.fi, .int .i64 I.tm, .int .i64 I.ht, .int .i64 I.hv, .int .i64 I.hc, .slice A4 I.l.length c4] 26)
  have HI1 := Aside0.mk ((by have hq := BlkG.new I A4 c4 w4; rw [HSn6.out] at hq; exact hq : BlkG I A4 c4 n6 (w4.alloc (.cells #[.int .i64 I.id, .int .i64 I.fi, .int .i64 I.tm, .int .i64 I.ht, .int .i64 I.hv, .int .i64 I.hc, .slice A4 I.l.length c4] 26))))
  obtain ⟨W5, hW5⟩ : ∃ W, w4.alloc (.cells #[.int .i64 I.id, .int .i64 I.fi, .int .i64 I.tm, .int .i64 I.ht, .int .i64 I.hv, .int .i64 I.hc, .slice A4 I.l.length c4] 26) = W := ⟨_, rfl⟩
  rw [hW5] at HB HR1 HG1 HP1 HR2 HR3 HH1 HR4 HI1 ⊢
  clear hW5
  clear hn6
  obtain ⟨hg10, hg11, hg12, hg13, hg14, hg15, hg16⟩ := HG1.out.box
  obtain ⟨hp10, hp11, hp12, hp13, hp14, hp15, hp16, hp17, hp18, hp19⟩ := HP1.out.box
  obtain ⟨hh10, hh11, hh12, hh13, hh14, hh15, hh16⟩ := HH1.out.box
  obtain ⟨hi10, hi11, hi12, hi13, hi14, hi15, hi16⟩ := HI1.out.box
  have hC6 := HC6.out
  simp only [Try.f12] at hC6
  subst hC6
  clear HC6
  go_wp2_with fail
  go_at_call 27
  refine (gterm_calls I A4 c4 1 _ HR4.out D5.out.1 D4.out.1).mono ?_
  rintro e w5 ⟨rfl, hw5⟩
  replace HB := lbB HB hw5
  replace HR1 := lbR HR1 hw5
  replace HG1 := lbG HG1 hw5
  replace HP1 := lbP HP1 hw5
  replace HR2 := lbR HR2 hw5
  replace HR3 := lbR HR3 hw5
  replace HH1 := lbG HH1 hw5
  replace HR4 := lbR HR4 hw5
  replace HI1 := lbG HI1 hw5
  clear hw5
  clear hg10 hg11 hg12 hg13 hg14 hg15 hg16 hp10 hp11 hp12 hp13 hp14 hp15 hp16 hp17 hp18 hp19 hh10 hh11 hh12 hh13 hh14 hh15 hh16 hi10 hi11 hi12 hi13 hi14 hi15 hi16
  obtain ⟨hg10, hg11, hg12, hg13, hg14, hg15, hg16⟩ := HG1.out.box
  obtain ⟨hp10, hp11, hp12, hp13, hp14, hp15, hp16, hp17, hp18, hp19⟩ := HP1.out.box
  obtain ⟨hh10, hh11, hh12, hh13, hh14, hh15, hh16⟩ := HH1.out.box
  obtain ⟨hi10, hi11, hi12, hi13, hi14, hi15, hi16⟩ := HI1.out.box
  go_wp2_with fail
  go_at_call 29
  refine (gents_calls I A4 c4 2 3 _ HR4.out D5.out.1 (by decide) D4.out.2.2).mono ?_
  rintro e w6 ⟨A5, c5, rfl, hrd, hw6⟩
  replace HB := lbB HB hw6
  replace HR1 := lbR HR1 hw6
  replace HG1 := lbG HG1 hw6
  replace HP1 := lbP HP1 hw6
  replace HR2 := lbR HR2 hw6
  replace HR3 := lbR HR3 hw6
  replace HH1 := lbG HH1 hw6
  replace HR4 := lbR HR4 hw6
  replace HI1 := lbG HI1 hw6
  clear hrd
  clear hw6
  clear hg10 hg11 hg12 hg13 hg14 hg15 hg16 hp10 hp11 hp12 hp13 hp14 hp15 hp16 hp17 hp18 hp19 hh10 hh11 hh12 hh13 hh14 hh15 hh16 hi10 hi11 hi12 hi13 hi14 hi15 hi16
  obtain ⟨hg10, hg11, hg12, hg13, hg14, hg15, hg16⟩ := HG1.out.box
  obtain ⟨hp10, hp11, hp12, hp13, hp14, hp15, hp16, hp17, hp18, hp19⟩ := HP1.out.box
  obtain ⟨hh10, hh11, hh12, hh13, hh14, hh15, hh16⟩ := HH1.out.box
  obtain ⟨hi10, hi11, hi12, hi13, hi14, hi15, hi16⟩ := HI1.out.box
  go_wp2_with fail
  go_at_call 27
  refine (gterm_calls I A4 c4 0 _ HR4.out D5.out.1 D4.out.2.1).mono ?_
  rintro e w7 ⟨rfl, hw7⟩
  replace HB := lbB HB hw7
  replace HR1 := lbR HR1 hw7
  replace HG1 := lbG HG1 hw7
  replace HP1 := lbP HP1 hw7
  replace HR2 := lbR HR2 hw7
  replace HR3 := lbR HR3 hw7
  replace HH1 := lbG HH1 hw7
  replace HR4 := lbR HR4 hw7
  replace HI1 := lbG HI1 hw7
  clear hw7
  clear hg10 hg11 hg12 hg13 hg14 hg15 hg16 hp10 hp11 hp12 hp13 hp14 hp15 hp16 hp17 hp18 hp19 hh10 hh11 hh12 hh13 hh14 hh15 hh16 hi10 hi11 hi12 hi13 hi14 hi15 hi16
  obtain ⟨hg10, hg11, hg12, hg13, hg14, hg15, hg16⟩ := HG1.out.box
  obtain ⟨hp10, hp11, hp12, hp13, hp14, hp15, hp16, hp17, hp18, hp19⟩ := HP1.out.box
  obtain ⟨hh10, hh11, hh12, hh13, hh14, hh15, hh16⟩ := HH1.out.box
  obtain ⟨hi10, hi11, hi12, hi13, hi14, hi15, hi16⟩ := HI1.out.box
  go_wp2_with fail
  go_at_call 25
  refine (glast_calls H A2 c2 _ HR3.out D5.out.2.2).mono ?_
  rintro e w8 ⟨rfl, hw8⟩
  replace HB := lbB HB hw8
  replace HR1 := lbR HR1 hw8
  replace HG1 := lbG HG1 hw8
  replace HP1 := lbP HP1 hw8
  replace HR2 := lbR HR2 hw8
  replace HR3 := lbR HR3 hw8
  replace HH1 := lbG HH1 hw8
  replace HR4 := lbR HR4 hw8
  replace HI1 := lbG HI1 hw8
  clear hw8
  clear hg10 hg11 hg12 hg13 hg14 hg15 hg16 hp10 hp11 hp12 hp13 hp14 hp15 hp16 hp17 hp18 hp19 hh10 hh11 hh12 hh13 hh14 hh15 hh16 hi10 hi11 hi12 hi13 hi14 hi15 hi16
  obtain ⟨hg10, hg11, hg12, hg13, hg14, hg15, hg16⟩ := HG1.out.box
  obtain ⟨hp10, hp11, hp12, hp13, hp14, hp15, hp16, hp17, hp18, hp19⟩ := HP1.out.box
  obtain ⟨hh10, hh11, hh12, hh13, hh14, hh15, hh16⟩ := HH1.out.box
  obtain ⟨hi10, hi11, hi12, hi13, hi14, hi15, hi16⟩ := HI1.out.box
  go_wp2_with fail
  go_at_call 15
  refine (gis_calls I A4 c4 _ HR4.out D5.out.1).mono ?_
  rintro e w9 ⟨rfl, hw9⟩
  replace HB := lbB HB hw9
  replace HR1 := lbR HR1 hw9
  replace HG1 := lbG HG1 hw9
  replace HP1 := lbP HP1 hw9
  replace HR2 := lbR HR2 hw9
  replace HR3 := lbR HR3 hw9
  replace HH1 := lbG HH1 hw9
  replace HR4 := lbR HR4 hw9
  replace HI1 := lbG HI1 hw9
  clear hw9
  clear hg10 hg11 hg12 hg13 hg14 hg15 hg16 hp10 hp11 hp12 hp13 hp14 hp15 hp16 hp17 hp18 hp19 hh10 hh11 hh12 hh13 hh14 hh15 hh16 hi10 hi11 hi12 hi13 hi14 hi15 hi16
  obtain ⟨hg10, hg11, hg12, hg13, hg14, hg15, hg16⟩ := HG1.out.box
  obtain ⟨hp10, hp11, hp12, hp13, hp14, hp15, hp16, hp17, hp18, hp19⟩ := HP1.out.box
  obtain ⟨hh10, hh11, hh12, hh13, hh14, hh15, hh16⟩ := HH1.out.box
  obtain ⟨hi10, hi11, hi12, hi13, hi14, hi15, hi16⟩ := HI1.out.box
  go_wp2_with fail
  go_at_call 17
  refine (gsame_calls I I A4 c4 A4 c4 _ HR4.out HR4.out D6.out).mono ?_
  rintro e w10 ⟨rfl, hw10⟩
  replace HB := lbB HB hw10
  replace HR1 := lbR HR1 hw10
  replace HG1 := lbG HG1 hw10
  replace HP1 := lbP HP1 hw10
  replace HR2 := lbR HR2 hw10
  replace HR3 := lbR HR3 hw10
  replace HH1 := lbG HH1 hw10
  replace HR4 := lbR HR4 hw10
  replace HI1 := lbG HI1 hw10
  clear hw10
  clear hg10 hg11 hg12 hg13 hg14 hg15 hg16 hp10 hp11 hp12 hp13 hp14 hp15 hp16 hp17 hp18 hp19 hh10 hh11 hh12 hh13 hh14 hh15 hh16 hi10 hi11 hi12 hi13 hi14 hi15 hi16
  obtain ⟨hg10, hg11, hg12, hg13, hg14, hg15, hg16⟩ := HG1.out.box
  obtain ⟨hp10, hp11, hp12, hp13, hp14, hp15, hp16, hp17, hp18, hp19⟩ := HP1.out.box
  obtain ⟨hh10, hh11, hh12, hh13, hh14, hh15, hh16⟩ := HH1.out.box
  obtain ⟨hi10, hi11, hi12, hi13, hi14, hi15, hi16⟩ := HI1.out.box
  go_wp2_with fail
  go_at_call 24
  refine (gchk_calls I A4 c4 P (some ⟨n2, 0, none⟩) 2 _ HR4.out HR2.out D5.out.2.1).mono ?_
  rintro e w11 ⟨rfl, hw11⟩
  replace HB := lbB HB hw11
  replace HR1 := lbR HR1 hw11
  replace HG1 := lbG HG1 hw11
  replace HP1 := lbP HP1 hw11
  replace HR2 := lbR HR2 hw11
  replace HR3 := lbR HR3 hw11
  replace HH1 := lbG HH1 hw11
  replace HR4 := lbR HR4 hw11
  replace HI1 := lbG HI1 hw11
  clear hw11
  clear hg10 hg11 hg12 hg13 hg14 hg15 hg16 hp10 hp11 hp12 hp13 hp14 hp15 hp16 hp17 hp18 hp19 hh10 hh11 hh12 hh13 hh14 hh15 hh16 hi10 hi11 hi12 hi13 hi14 hi15 hi16
  obtain ⟨hg10, hg11, hg12, hg13, hg14, hg15, hg16⟩ := HG1.out.box
  obtain ⟨hp10, hp11, hp12, hp13, hp14, hp15, hp16, hp17, hp18, hp19⟩ := HP1.out.box
  obtain ⟨hh10, hh11, hh12, hh13, hh14, hh15, hh16⟩ := HH1.out.box
  obtain ⟨hi10, hi11, hi12, hi13, hi14, hi15, hi16⟩ := HI1.out.box
  go_wp2_with fail
  go_ret
  exact ⟨rfl, HB.out.b⟩
end Go.Proofs.Ytlfdmlacadoolaa.PartW
