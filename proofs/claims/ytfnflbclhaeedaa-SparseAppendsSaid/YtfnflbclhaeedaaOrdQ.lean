/- What SparseOrders needs: entries that are written anew, one by one; blocks' facts lifted. -/
import Derived.Test.YtfnflbclhaeedaaKnown
import Derived.Test.YtfnflbclhaeedaaLoose
set_option linter.unusedVariables false
set_option linter.unusedSimpArgs false
namespace Go.Proofs.Ytfnflbclhaeedaa.Sp
open Go Go.RowKit Go.Shelf Go.Proofs.Ytfnflbclhaeedaa.A Go.Proofs.Ytfnflbclhaeedaa.Seq Go.Proofs.YtfnflbclhaeedaaW.PrintWords Go.Proofs.YtfnflbclhaeedaaW.PrintLast Go.Proofs.YtfnflbclhaeedaaW.PrintMore
def entO (m : Nat) : Ent := ⟨(m : Int), (m : Int), ⟨#[]⟩⟩
/-- the entries 1 to k -/
def ordL (k : Nat) : List Ent := (List.range k).map fun j => entO (j + 1)
theorem ordL_succ (k : Nat) : ordL (k + 1) = ordL k ++ [entO (k + 1)] := by
  unfold ordL
  rw [List.range_succ, List.map_append]; rfl
theorem ordL_len (k : Nat) : (ordL k).length = k := by unfold ordL; simp
/-- some of the entries 1 to N, rising -/
def OrdOk (N : Nat) (L : List Ent) : Prop := L.Pairwise (fun a b => a.f0 < b.f0) ∧ ∀ e ∈ L, ∃ m : Nat, 1 ≤ m ∧ m ≤ N ∧ e = entO m
theorem OrdOk.nil (N : Nat) : OrdOk N [] := ⟨List.Pairwise.nil, fun e he => (by cases he)⟩
theorem isE_ent {m : Nat} (h1 : 1 ≤ m) (h2 : m ≤ 1000) : isE (entO m) = true := by
  unfold isE entO
  apply decide_eq_true
  refine ⟨by show (1 : Int) ≤ m; omega, by show (m : Int) ≤ _; omega, by show (1 : Int) ≤ m; omega, by show (m : Int) ≤ _; omega, by show (0 : Nat) ≤ 40; omega⟩
theorem OrdOk.good {N : Nat} {L : List Ent} (h : OrdOk N L) (hN : N ≤ 1000) : GoodL 1 L := by
  refine ⟨fun e he => ?_, h.1⟩
  obtain ⟨m, h1, h2, rfl⟩ := h.2 e he
  exact ⟨isE_ent h1 (by omega), by show (1 : Int) ≤ (m : Int); omega⟩
theorem OrdOk.isG {N : Nat} {L : List Ent} {id : Int} (h : OrdOk N L) (hN : N ≤ 1000) (hi : 0 ≤ id ∧ id < 256) : isG false ⟨id, 1, 0, 0, 0, 0, L⟩ = true := by
  have hg := h.good hN
  unfold Sp.isG headG isH
  rw [Bool.and_eq_true]
  refine ⟨by rw [decide_eq_true (by dsimp only; omega), decide_eq_true (by dsimp only; omega)]; rfl, List.all_eq_true.2 (fun i hi => ?_)⟩
  have hi := List.mem_range.1 hi
  dsimp only at hi
  unfold okG
  have he := hg.1 L[i] (List.getElem_mem hi)
  rw [el_get hi, he.1, Bool.true_and, Bool.not_false, Bool.true_or, Bool.and_true]
  refine decide_eq_true ?_
  dsimp only
  unfold nxt
  split
  · exact he.2
  · rw [el_get (by omega)]
    have := List.pairwise_iff_getElem.1 h.1 (i - 1) i (by omega) hi (by omega)
    omega
theorem at_idx {l : List Ent} {i : Int} (h : 0 ≤ atL l i) : (el l (atL l i).toNat).f0 = i := by
  unfold atL at h ⊢
  split at h
  · next k hk =>
    obtain ⟨hk1, hk2, _⟩ := List.findIdx?_eq_some_iff_getElem.1 hk
    rw [show ((k : Int)).toNat = k from Int.toNat_natCast k, el_get hk1]
    exact of_decide_eq_true hk2
  · omega
theorem step_mem {N m : Nat} {L : List Ent} (h : OrdOk N L) (h1 : 1 ≤ m) (h2 : m ≤ N) (e : Ent) : e ∈ stepE 1 L (entO m) ↔ e ∈ L ∨ e = entO m := by
  unfold stepE
  split
  · next hc =>
    rcases hc with hc | hc
    · exfalso
      have : ((m : Nat) : Int) < 1 := hc
      omega
    · refine ⟨.inl, fun h3 => h3.elim id (fun h3 => ?_)⟩
      have h4 := at_some hc
      have h5 : el L (atL L (entO m).f0).toNat ∈ L := by rw [el_get h4.1]; exact List.getElem_mem h4.1
      obtain ⟨q, _, _, h6⟩ := h.2 _ h5
      have h7 : (el L (atL L (entO m).f0).toNat).f0 = (m : Int) := at_idx hc
      rw [h6] at h7
      have h8 : q = m := by have : ((q : Nat) : Int) = m := h7; omega
      subst h8
      rw [h3, ← h6]; exact h5
  · unfold belowL fromL
    simp only [List.mem_append, List.mem_singleton, List.mem_filter, decide_eq_true_eq]
    constructor
    · rintro ((h3 | h3) | h3)
      · exact .inl h3.1
      · exact .inr h3
      · exact .inl h3.1
    · rintro (h3 | h3)
      · by_cases h4 : e.f0 < (entO m).f0
        · exact .inl (.inl ⟨h3, h4⟩)
        · exact .inr ⟨h3, by omega⟩
      · exact .inl (.inr h3)
theorem OrdOk.step {N m : Nat} {L : List Ent} (h : OrdOk N L) (hN : N ≤ 1000) (h1 : 1 ≤ m) (h2 : m ≤ N) : OrdOk N (stepE 1 L (entO m)) := by
  refine ⟨((h.good hN).step (isE_ent h1 (by omega))).2, fun e he => ?_⟩
  rcases (step_mem h h1 h2 e).1 he with h3 | h3
  · exact h.2 e h3
  · exact ⟨m, h1, h2, h3⟩
theorem OrdOk.len {N : Nat} : ∀ {L : List Ent}, OrdOk N L → L.length ≤ N := by
  intro L h
  have h1 : ∀ (M : Nat) (l : List Ent), l.Pairwise (fun a b => a.f0 < b.f0) → (∀ e ∈ l, ∃ m : Nat, M < m ∧ m ≤ N ∧ e = entO m) → l.length ≤ N - M := by
    intro M l
    induction l generalizing M with
    | nil => intro _ _; exact Nat.zero_le _
    | cons e l ih =>
      intro hp hm
      obtain ⟨m, h2, h3, rfl⟩ := hm _ (List.mem_cons_self ..)
      have hp' := List.pairwise_cons.1 hp
      have h4 := ih m hp'.2 (fun x hx => by
        obtain ⟨q, _, h6, rfl⟩ := hm x (List.mem_cons_of_mem _ hx)
        refine ⟨q, ?_, h6, rfl⟩
        have : ((m : Nat) : Int) < q := hp'.1 _ hx
        omega)
      rw [List.length_cons]; omega
  have := h1 0 L h.1 (fun e he => by obtain ⟨m, a, b, c⟩ := h.2 e he; exact ⟨m, by omega, b, c⟩)
  omega
theorem ord_all {N : Nat} {L : List Ent} (h : OrdOk N L) (ha : ∀ m, 1 ≤ m → m ≤ N → entO m ∈ L) : L = ordL N := by
  have h1 : ∀ (M : Nat) (l : List Ent) (d : Nat), M + d = N → l.Pairwise (fun a b => a.f0 < b.f0) → (∀ e ∈ l, ∃ m : Nat, M < m ∧ m ≤ N ∧ e = entO m) → (∀ m, M < m → m ≤ N → entO m ∈ l) → l = (List.range' (M + 1) d).map entO := by
    intro M l d
    induction d generalizing M l with
    | zero =>
      intro hd _ hm _
      cases l with
      | nil => rfl
      | cons e l =>
        obtain ⟨m, h2, h3, _⟩ := hm e (List.mem_cons_self ..)
        omega
    | succ d ih =>
      intro hd hp hm hall
      have hin := hall (M + 1) (by omega) (by omega)
      cases l with
      | nil => cases hin
      | cons e l =>
        obtain ⟨m, h2, h3, rfl⟩ := hm e (List.mem_cons_self ..)
        have hp' := List.pairwise_cons.1 hp
        have hm1 : m = M + 1 := by
          rcases List.mem_cons.1 hin with h4 | h4
          · have : ((M + 1 : Nat) : Int) = m := congrArg (fun e : Ent => e.f0) h4
            omega
          · have : ((m : Nat) : Int) < ((M + 1 : Nat) : Int) := hp'.1 _ h4
            omega
        subst hm1
        rw [List.range'_succ, List.map_cons]
        congr 1
        refine ih (M + 1) l (by omega) hp'.2 (fun x hx => ?_) (fun q hq1 hq2 => ?_)
        · obtain ⟨q, _, h6, rfl⟩ := hm x (List.mem_cons_of_mem _ hx)
          have : ((M + 1 : Nat) : Int) < q := hp'.1 _ hx
          exact ⟨q, by omega, h6, rfl⟩
        · rcases List.mem_cons.1 (hall q (by omega) hq2) with h4 | h4
          · have : ((q : Nat) : Int) = ((M + 1 : Nat) : Int) := congrArg (fun e : Ent => e.f0) h4
            omega
          · exact h4
  rw [h1 0 L N (by omega) h.1 (fun e he => by obtain ⟨m, a, b, c⟩ := h.2 e he; exact ⟨m, by omega, b, c⟩) (fun m a b => ha m (by omega) b)]
  unfold ordL
  rw [Nat.zero_add, List.range'_eq_map_range, List.map_map]
  exact List.map_congr_left fun j _ => by show entO (1 + j) = entO (j + 1); rw [Nat.add_comm]
theorem ord_dense {N : Nat} (hN : N ≤ 1000) {id : Int} (hi : 0 ≤ id ∧ id < 256) : isG true ⟨id, 1, 0, 0, 0, 0, ordL N⟩ = true := by
  unfold isG headG isH
  rw [Bool.and_eq_true]
  refine ⟨by rw [decide_eq_true (by dsimp only; omega), decide_eq_true (by dsimp only; omega)]; rfl, List.all_eq_true.2 (fun i hi => ?_)⟩
  have hi := List.mem_range.1 hi
  dsimp only at hi
  have hi2 := hi
  rw [ordL_len] at hi2
  have hel : ∀ j, j < N → el (ordL N) j = entO (j + 1) := fun j hj => by
    rw [el_get (by rw [ordL_len]; exact hj)]
    unfold ordL
    simp
  unfold okG
  dsimp only
  rw [hel i hi2, isE_ent (by omega) (by omega)]
  have h1 : nxt 1 (ordL N) i = ((i + 1 : Nat) : Int) := by
    unfold nxt
    split
    · next h => subst h; rfl
    · next h => rw [hel (i - 1) (by omega)]; show ((i - 1 + 1 : Nat) : Int) + 1 = _; omega
  rw [h1]
  show (true && (decide (((i + 1 : Nat) : Int) ≤ ((i + 1 : Nat) : Int)) && (!true || decide (((i + 1 : Nat) : Int) = ((i + 1 : Nat) : Int))))) = true
  rw [decide_eq_true (Int.le_refl _), decide_eq_true rfl]; rfl
theorem ord_do {N m : Nat} {L : List Ent} {id : Int} (h : OrdOk N L) (hN : N ≤ 1000) (hi : 0 ≤ id ∧ id < 256) (h1 : 1 ≤ m) (h2 : m ≤ N) :
    doG ⟨id, 1, 0, 0, 0, 0, L⟩ ⟨id, 6, [entO m], 0, 0, 0, 0, 0, false, false⟩ = ⟨id, 1, 0, 0, 0, 0, stepE 1 L (entO m)⟩ := by
  have hE := isE_ent h1 (by omega)
  rw [do_loose]
  unfold looseG
  rw [if_pos ⟨h.isG hN hi, by
    unfold isP risB
    simp [okR, el, hE, noL, noH, noM]
    omega, rfl⟩]
  unfold looseK
  rw [if_neg (by show ¬ (6 : Int) = 1; decide), if_neg (by show ¬ (6 : Int) = 2; decide), if_neg (by show ¬ (6 : Int) = 3; decide), if_neg (by show ¬ (6 : Int) = 4; decide), if_pos rfl]
  rfl
/-- what stays as it was since a world -/
structure Bel (w W : World) : Prop where
  b : Below w.heap.size w W
theorem Bel.below {w W W' : World} (h : Bel w W) (hb : Below W.heap.size W W') : Bel w W' := ⟨h.b.trans (hb.mono h.b.size)⟩
theorem Bel.alloc {w W : World} (h : Bel w W) (o : Obj) : Bel w (W.alloc o) := ⟨h.b.alloc h.b.size o⟩
theorem Bel.drew {w W : World} (h : Bel w W) : Bel w W.drew := h.below (below_drew (Below.refl _ _))
theorem Bel.only {U : Nat → Prop} {w W W' : World} (h : Bel w W) (ho : Only U W W') (hU : ∀ q, q < w.heap.size → ¬ U q) : Bel w W' := ⟨h.b.trans (ho.below h.b.size hU)⟩
theorem Bel.refl (w : World) : Bel w w := ⟨Below.refl _ _⟩
end Go.Proofs.Ytfnflbclhaeedaa.Sp
namespace Go.Proofs.Ytfnflbclhaeedaa.PartW
open Go Go.RowKit Go.Shelf Go.Proofs.Ytfnflbclhaeedaa.A Go.Proofs.Ytfnflbclhaeedaa.Sp Go.Proofs.Ytfnflbclhaeedaa.Reg Go.Proofs.Ytfnflbclhaeedaa.Seq Go.Proofs.YtfnflbclhaeedaaW.PrintWords Go.Proofs.YtfnflbclhaeedaaW.PrintLast Go.Proofs.YtfnflbclhaeedaaW.PrintMore
theorem BlkG.drew {g : Grp} {A : Option Addr} {c B : Nat} {W : World} (h : BlkG g A c B W) : BlkG g A c B W.drew := h.below (below_drew (Below.refl _ _))
theorem BlkP.drew {p : Prt} {A : Option Addr} {c B : Nat} {W : World} (h : BlkP p A c B W) : BlkP p A c B W.drew := h.below (below_drew (Below.refl _ _))
theorem lbR {w w' : World} {A : Option Addr} {c : Nat} {l : List Ent} (h : Aside0 (Rd w A c l)) (hb : Below w.heap.size w w') : Aside0 (Rd w' A c l) := ⟨h.out.below hb⟩
theorem lbG {g : Grp} {A : Option Addr} {c B : Nat} {w w' : World} (h : Aside0 (BlkG g A c B w)) (hb : Below w.heap.size w w') : Aside0 (BlkG g A c B w') := ⟨h.out.below hb⟩
theorem lbP {p : Prt} {A : Option Addr} {c B : Nat} {w w' : World} (h : Aside0 (BlkP p A c B w)) (hb : Below w.heap.size w w') : Aside0 (BlkP p A c B w') := ⟨h.out.below hb⟩
theorem lbB {w0 w w' : World} (h : Aside0 (Bel w0 w)) (hb : Below w.heap.size w w') : Aside0 (Bel w0 w') := ⟨h.out.below hb⟩
theorem laR {w : World} {A : Option Addr} {c : Nat} {l : List Ent} (h : Aside0 (Rd w A c l)) (o : Obj) : Aside0 (Rd (w.alloc o) A c l) := ⟨h.out.alloc o⟩
theorem laG {g : Grp} {A : Option Addr} {c B : Nat} {w : World} (h : Aside0 (BlkG g A c B w)) (o : Obj) : Aside0 (BlkG g A c B (w.alloc o)) := ⟨h.out.alloc o⟩
theorem laP {p : Prt} {A : Option Addr} {c B : Nat} {w : World} (h : Aside0 (BlkP p A c B w)) (o : Obj) : Aside0 (BlkP p A c B (w.alloc o)) := ⟨h.out.alloc o⟩
theorem laB {w0 w : World} (h : Aside0 (Bel w0 w)) (o : Obj) : Aside0 (Bel w0 (w.alloc o)) := ⟨h.out.alloc o⟩
theorem ldR {w : World} {A : Option Addr} {c : Nat} {l : List Ent} (h : Aside0 (Rd w A c l)) : Aside0 (Rd w.drew A c l) := ⟨h.out.drew⟩
theorem ldG {g : Grp} {A : Option Addr} {c B : Nat} {w : World} (h : Aside0 (BlkG g A c B w)) : Aside0 (BlkG g A c B w.drew) := ⟨h.out.drew⟩
theorem ldP {p : Prt} {A : Option Addr} {c B : Nat} {w : World} (h : Aside0 (BlkP p A c B w)) : Aside0 (BlkP p A c B w.drew) := ⟨h.out.drew⟩
theorem ldB {w0 w : World} (h : Aside0 (Bel w0 w)) : Aside0 (Bel w0 w.drew) := ⟨h.out.drew⟩
theorem sdo_c (g : Grp) (A : Option Addr) (c : Nat) (p : Prt) (Ap : Option Addr) (cp : Nat) (w : World) (h : Rd w A c g.l) (hp : Rd w Ap cp p.l) (hl : g.l.length + p.l.length ≤ 4398046511104) {R : Grp} (hR : doG g p = R) : Calls Try.prog 12 #[vG g A c, vP p Ap cp] w (GotG w R) := by
  rw [← hR]; exact sparse_Do g A c p Ap cp w h hp hl
theorem sdense_c (g : Grp) (A : Option Addr) (c : Nat) (w : World) (h : Rd w A c g.l) {b : Bool} (hb : isG true g = b) : Calls Try.prog 15 #[vG g A c] w fun e w' => e = .returned (.bool b) ∧ Below w.heap.size w w' := by
  rw [← hb]; exact sparse_Dense g A c w h
theorem ssame_c (a b : Grp) (A : Option Addr) (c : Nat) (A' : Option Addr) (c' : Nat) (w : World) (ha : Rd w A c a.l) (hb : Rd w A' c' b.l) {r : Bool} (hr : sameG a b = r) : Calls Try.prog 17 #[vG a A c, vG b A' c'] w fun e w' => e = .returned (.bool r) ∧ Below w.heap.size w w' := by
  rw [← hr]; exact ref_SameG a b A c A' c' w ha hb
end Go.Proofs.Ytfnflbclhaeedaa.PartW
