/- What entries, parts, groups are: plain functions. The small functions' contracts in these words. -/
/- What the small loops tell, in the words of XSp. -/
/- The walks of package part and of the reference's parts. -/
/- The walk of part.core. -/
import Derived.Test.YtokjhocjemjfiaaAx2
import Derived.Test.YtokjhocjemjfiaaAx3
import Derived.Test.YtokjhocjemjfiaaMa
import Derived.Test.YtokjhocjemjfiaaAx1
import Derived.BigRegion
set_option linter.unusedVariables false
set_option linter.unusedSimpArgs false
namespace Go.Proofs.Ytokjhocjemjfiaa.Sp
open Go Go.RowKit Go.Proofs.Ytokjhocjemjfiaa.A Go.Proofs.YtokjhocjemjfiaaW.PrintWords Go.Proofs.YtokjhocjemjfiaaW.PrintLast Go.Proofs.YtokjhocjemjfiaaW.PrintMore
theorem bs {α β : Type} (a : α) (f : α → Option β) : (some a).bind f = f a := by cases h : f a <;> simp [h]
theorem it {α : Type} (a b : α) : (if true = true then a else b) = a := if_pos (of_decide_eq_true (by decide))
theorem iff_ {α : Type} (a b : α) : (if false = true then a else b) = b := if_neg (by decide)
abbrev Ent := S28
/-- What a slice of entries reads as. -/
structure Rd (w : World) (A : Option Addr) (c : Nat) (l : List Ent) : Prop where
  rd : Kd.C k28 w A l.length l
  le : l.length ≤ c
  bd : l.length ≤ 4398046511104
theorem Rd.below {w w' : World} {A : Option Addr} {c : Nat} {l : List Ent} (h : Rd w A c l) (hb : Below w.heap.size w w') : Rd w' A c l := ⟨Kd.C_below h.rd hb, h.le, h.bd⟩
theorem Rd.nil (w : World) : Rd w none 0 [] := ⟨Kd.C_nil _ _, Nat.le_refl _, by simp⟩
structure Prt where
  g : Int
  k : Int
  l : List Ent
  ht : Int
  hv : Int
  hc : Int
  ix : Int
  tm : Int
  mrk : Bool
  hed : Bool
structure Grp where
  id : Int
  fi : Int
  tm : Int
  ht : Int
  hv : Int
  hc : Int
  l : List Ent
def isE (e : Ent) : Bool := decide (1 ≤ e.f0 ∧ e.f0 ≤ 1099511627776 ∧ 1 ≤ e.f1 ∧ e.f1 ≤ 1099511627776 ∧ e.f2.size ≤ 40)
def isH (t v c : Int) : Bool := decide (0 ≤ t ∧ t ≤ 1099511627776 ∧ 0 ≤ v ∧ v ≤ 1000 ∧ 0 ≤ c ∧ c ≤ 1099511627776)
def isM (ix tm least : Int) : Bool := decide (1 ≤ ix ∧ ix ≤ 1099511627776 ∧ least ≤ tm ∧ tm ≤ 1099511627776)
def headG (g : Grp) : Bool := decide (0 ≤ g.id ∧ g.id ≤ 999 ∧ 1 ≤ g.fi ∧ g.fi ≤ 1099511627777 ∧ 0 ≤ g.tm ∧ g.tm ≤ 1099511627776) && isH g.ht g.hv g.hc
def eqE (a b : Ent) : Bool := a.f0 == b.f0 && (a.f1 == b.f1 && a.f2.toList == b.f2.toList)
def el (l : List Ent) (i : Nat) : Ent := l.getD i z28
def sameL (a b : List Ent) : Bool := decide (a.length = b.length) && (List.range a.length).all fun i => eqE (el a i) (el b i)
def okR (dense : Bool) (l : List Ent) (i : Nat) : Bool := isE (el l i) && (decide (i = 0) || (decide ((el l (i - 1)).f0 < (el l i).f0) && (!dense || decide ((el l i).f0 = (el l (i - 1)).f0 + 1))))
def risB (dense : Bool) (l : List Ent) : Bool := (List.range l.length).all (okR dense l) && decide (l.length ≤ 6)
/-- which index may come next -/
def nxt (fi : Int) (l : List Ent) (i : Nat) : Int := if i = 0 then fi else (el l (i - 1)).f0 + 1
def okG (dense : Bool) (fi : Int) (l : List Ent) (i : Nat) : Bool := isE (el l i) && (decide (nxt fi l i ≤ (el l i).f0) && (!dense || decide ((el l i).f0 = nxt fi l i)))
def isG (dense : Bool) (g : Grp) : Bool := headG g && (List.range g.l.length).all (okG dense g.fi g.l)
def sameG (a b : Grp) : Bool := decide (a.id = b.id ∧ a.fi = b.fi ∧ a.tm = b.tm ∧ a.ht = b.ht ∧ a.hv = b.hv ∧ a.hc = b.hc) && sameL a.l b.l
def sameP (a b : Prt) : Bool := decide (a.g = b.g ∧ a.k = b.k ∧ a.ht = b.ht ∧ a.hv = b.hv ∧ a.hc = b.hc ∧ a.ix = b.ix ∧ a.tm = b.tm) && (a.mrk == b.mrk && (a.hed == b.hed && sameL a.l b.l))
def noL (p : Prt) : Bool := decide (p.l.length = 0)
def noH (p : Prt) : Bool := decide (p.ht = 0 ∧ p.hv = 0 ∧ p.hc = 0)
def noM (p : Prt) : Bool := decide (p.ix = 0 ∧ p.tm = 0)
/-- may it be a part -/
def isP (p : Prt) : Bool := decide (0 ≤ p.g ∧ p.g ≤ 999) &&
  if p.k = 1 then (!p.mrk && !p.hed) && (noH p && noM p && (!noL p && risB true p.l))
  else if p.k = 2 then (!p.mrk && !p.hed) && (noL p && noM p && isH p.ht p.hv p.hc)
  else if p.k = 3 then (!p.mrk && !p.hed) && (noL p && noH p && isM p.ix p.tm 0)
  else if p.k = 4 then (!p.mrk && !p.hed) && (noL p && noH p && isM p.ix p.tm 1)
  else if p.k = 5 then (!p.mrk && !p.hed) && (noL p && noH p && noM p)
  else if p.k = 6 then risB false p.l && (p.mrk || p.hed || !noL p) && (if p.mrk then isM p.ix p.tm 1 else noM p) && (if p.hed then isH p.ht p.hv p.hc else noH p)
  else false
theorem toList_eq {a b : ByteArray} : (a.toList == b.toList) = true ↔ a = b := by
  rw [beq_iff_eq]
  refine ⟨fun h => ?_, fun h => by rw [h]⟩
  rw [ByteArray.toList_eq, ByteArray.toList_eq] at h
  cases a; cases b; congr 1; exact Array.toList_inj.1 h
theorem eqE_iff {a b : Ent} : eqE a b = true ↔ a = b := by
  unfold eqE
  rw [Bool.and_eq_true, Bool.and_eq_true, toList_eq, beq_iff_eq, beq_iff_eq]
  cases a; cases b
  simp only [S28.mk.injEq]
theorem el_get {l : List Ent} {i : Nat} (h : i < l.length) : el l i = l[i] := by
  unfold el; rw [List.getD, List.getElem?_eq_getElem h]; rfl
theorem sameL_iff {a b : List Ent} : sameL a b = true ↔ a = b := by
  unfold sameL
  rw [Bool.and_eq_true, decide_eq_true_eq, List.all_eq_true]
  constructor
  · rintro ⟨h1, h2⟩
    apply List.ext_getElem h1
    intro i h3 h4
    have := eqE_iff.1 (h2 i (List.mem_range.2 h3))
    rwa [el_get h3, el_get h4] at this
  · rintro rfl; exact ⟨rfl, fun i _ => eqE_iff.2 rfl⟩
theorem sameG_iff {a b : Grp} : sameG a b = true ↔ a = b := by
  unfold sameG
  rw [Bool.and_eq_true, decide_eq_true_eq, sameL_iff]
  cases a; cases b
  simp only [Grp.mk.injEq]
  constructor
  · rintro ⟨⟨h1, h2, h3, h4, h5, h6⟩, h7⟩; exact ⟨h1, h2, h3, h4, h5, h6, h7⟩
  · rintro ⟨h1, h2, h3, h4, h5, h6, h7⟩; exact ⟨⟨h1, h2, h3, h4, h5, h6⟩, h7⟩
theorem sameP_iff {a b : Prt} : sameP a b = true ↔ a = b := by
  unfold sameP
  rw [Bool.and_eq_true, decide_eq_true_eq, Bool.and_eq_true, Bool.and_eq_true, sameL_iff, beq_iff_eq, beq_iff_eq]
  cases a; cases b
  simp only [Prt.mk.injEq]
  constructor
  · rintro ⟨⟨h1, h2, h3, h4, h5, h6, h7⟩, h8, h9, h10⟩; exact ⟨h1, h2, h10, h3, h4, h5, h6, h7, h8, h9⟩
  · rintro ⟨h1, h2, h3, h4, h5, h6, h7, h8, h9, h10⟩; exact ⟨⟨h1, h2, h4, h5, h6, h7, h8⟩, h9, h10, h3⟩
/-! ### the small functions -/
theorem between_q (a b c : Int) : part_between.f a b c = some (decide (b ≤ a ∧ a ≤ c)) := by
  unfold part_between.f
  by_cases h1 : a ≥ b
  · rw [if_pos h1]; congr 1; exact decide_eq_decide.2 ⟨fun h => ⟨h1, h⟩, fun h => h.2⟩
  · rw [if_neg h1, decide_eq_false (fun h => h1 h.1)]
theorem within_q (a b c : Int) : laderef4_within.f a b c = some (decide (b ≤ a ∧ a ≤ c)) := between_q a b c
theorem isE_q (e : Ent) : part_IsEntry.f e.f0 e.f1 e.f2 = some (isE e) := by
  unfold part_IsEntry.f isE
  rw [between_q, bs, between_q]
  by_cases h1 : 1 ≤ e.f0 ∧ e.f0 ≤ 1099511627776
  · rw [decide_eq_true h1, it, bs]
    by_cases h2 : 1 ≤ e.f1 ∧ e.f1 ≤ 1099511627776
    · rw [decide_eq_true h2, it]; congr 1; exact decide_eq_decide.2 (by omega)
    · rw [decide_eq_false h2, iff_, decide_eq_false (by omega)]
  · rw [decide_eq_false h1, iff_, decide_eq_false (by omega)]
theorem isE_q4 (e : Ent) : laderef4_IsEntry.f e.f0 e.f1 e.f2 = some (isE e) := isE_q e
theorem isH_q (t v c : Int) : part_IsHard.f t v c = some (isH t v c) := by
  unfold part_IsHard.f isH
  rw [between_q, bs, between_q, bs, between_q, bs]
  by_cases h1 : 0 ≤ t ∧ t ≤ 1099511627776
  · rw [decide_eq_true h1, it]
    by_cases h2 : 0 ≤ v ∧ v ≤ 1000
    · rw [decide_eq_true h2, it]; congr 1; exact decide_eq_decide.2 (by omega)
    · rw [decide_eq_false h2, iff_, decide_eq_false (by omega)]
  · rw [decide_eq_false h1, iff_, decide_eq_false (by omega)]
theorem isH_q4 (t v c : Int) : laderef4_IsHard.f t v c = some (isH t v c) := by
  unfold laderef4_IsHard.f isH
  rw [within_q, bs, within_q, bs, within_q, bs]
  by_cases h1 : 0 ≤ t ∧ t ≤ 1099511627776
  · rw [decide_eq_true h1, it]
    by_cases h2 : 0 ≤ c ∧ c ≤ 1099511627776
    · rw [decide_eq_true h2, it]; congr 1; exact decide_eq_decide.2 (by omega)
    · rw [decide_eq_false h2, iff_, decide_eq_false (by omega)]
  · rw [decide_eq_false h1, iff_, decide_eq_false (by omega)]
theorem isM_q (ix tm least : Int) : part_isMark.f ix tm least = some (isM ix tm least) := by
  unfold part_isMark.f isM
  rw [between_q, bs, between_q, bs]
  by_cases h1 : 1 ≤ ix ∧ ix ≤ 1099511627776
  · rw [decide_eq_true h1, it]; congr 1; exact decide_eq_decide.2 (by omega)
  · rw [decide_eq_false h1, iff_, decide_eq_false (by omega)]
end Go.Proofs.Ytokjhocjemjfiaa.Sp
namespace Go.Proofs.Ytokjhocjemjfiaa.Sp
open Go Go.RowKit Go.Proofs.Ytokjhocjemjfiaa.A Go.Proofs.YtokjhocjemjfiaaW.PrintWords Go.Proofs.YtokjhocjemjfiaaW.PrintLast Go.Proofs.YtokjhocjemjfiaaW.PrintMore
theorem rd_el (l : List Ent) (i : Nat) : rd_T28 l (i : Int) = el l i := rfl
theorem wr1 {i n : Nat} (h : i < n) (hn : n ≤ 4398046511104) : wrap64 ((i : Int) + 1) = ((i + 1 : Nat) : Int) := by unfold wrap64; omega
theorem ne_q (a b : Ent) : (!(a.f0 == b.f0) || (!(a.f1 == b.f1) || (!(a.f2.toList == b.f2.toList)))) = !eqE a b := by
  unfold eqE
  cases (a.f0 == b.f0) <;> cases (a.f1 == b.f1) <;> cases (a.f2.toList == b.f2.toList) <;> rfl
theorem all_step (p : Nat → Bool) (i d : Nat) : (List.range' i (d + 1)).all p = (p i && (List.range' (i + 1) d).all p) := by
  rw [List.range'_succ, List.all_cons]
theorem same_l (a b : List Ent) (h : a.length = b.length) (hl : a.length ≤ 4398046511104) : ∀ (d k i : Nat), i + d = a.length →
    api_Entry.l0 (k + d + 1) a b (a.length : Int) (i : Int) = some ((List.range' i d).all fun j => eqE (el a j) (el b j))
  | 0, k, i, hi => by
    rw [show k + 0 + 1 = k + 1 from rfl, api_Entry.l0, if_neg (by omega)]; rfl
  | d + 1, k, i, hi => by
    rw [show k + (d + 1) + 1 = (k + d + 1) + 1 from by omega, api_Entry.l0, if_pos (by omega), if_pos (by omega), if_pos (by omega), if_pos (by omega), rd_el, rd_el, ne_q, all_step]
    cases hc : eqE (el a i) (el b i) with
    | true => rw [Bool.not_true, iff_, wr1 (by omega) hl, same_l a b h hl d k (i + 1) (by omega), Bool.true_and]
    | false => rw [Bool.not_false, it, Bool.false_and]
theorem Equal_q (a b : List Ent) (hl : a.length ≤ 4398046511104) : api_Entry.f (a.length + 1) a b = some (sameL a b) := by
  unfold api_Entry.f sameL
  by_cases h : a.length = b.length
  · have e := same_l a b h hl a.length 0 0 (by omega)
    rw [Nat.zero_add] at e
    rw [if_pos (by omega), decide_eq_true h, Bool.true_and, List.range_eq_range']
    exact e
  · rw [if_neg (by omega), decide_eq_false h, Bool.false_and]
theorem same_l4 (a b : List Ent) (h : a.length = b.length) (hl : a.length ≤ 4398046511104) : ∀ (d k i : Nat), i + d = a.length →
    laderef4_sameEntries.l0 (k + d + 1) a b (i : Int) = some ((List.range' i d).all fun j => eqE (el a j) (el b j))
  | 0, k, i, hi => by
    rw [show k + 0 + 1 = k + 1 from rfl, laderef4_sameEntries.l0, if_neg (by omega)]; rfl
  | d + 1, k, i, hi => by
    rw [show k + (d + 1) + 1 = (k + d + 1) + 1 from by omega, laderef4_sameEntries.l0, if_pos (by omega), if_pos (by omega), if_pos (by omega), rd_el, rd_el, ne_q, all_step]
    cases hc : eqE (el a i) (el b i) with
    | true => rw [Bool.not_true, iff_, wr1 (by omega) hl, same_l4 a b h hl d k (i + 1) (by omega), Bool.true_and]
    | false => rw [Bool.not_false, it, Bool.false_and]
theorem Equal_q4 (a b : List Ent) (hl : a.length ≤ 4398046511104) : laderef4_sameEntries.f (a.length + 1) a b = some (sameL a b) := by
  unfold laderef4_sameEntries.f sameL
  by_cases h : a.length = b.length
  · have e := same_l4 a b h hl a.length 0 0 (by omega)
    rw [Nat.zero_add] at e
    rw [if_pos (by omega), decide_eq_true h, Bool.true_and, List.range_eq_range']
    exact e
  · rw [if_neg (by omega), decide_eq_false h, Bool.false_and]
/-- entries below an index; from one on -/
def belowL (l : List Ent) (i : Int) : List Ent := l.filter fun e => decide (e.f0 < i)
def fromL (l : List Ent) (i : Int) : List Ent := l.filter fun e => decide (i ≤ e.f0)
theorem drop_el {l : List Ent} {i : Nat} (h : i < l.length) : l.drop i = el l i :: l.drop (i + 1) := by
  rw [el_get h]; exact List.drop_eq_getElem_cons h
def atL (l : List Ent) (x : Int) : Int := match l.findIdx? (fun e => decide (e.f0 = x)) with
  | some i => (i : Int)
  | none => -1
end Go.Proofs.Ytokjhocjemjfiaa.Sp
namespace Go.Proofs.Ytokjhocjemjfiaa.Sp
open Go Go.RowKit Go.Proofs.Ytokjhocjemjfiaa.A Go.Proofs.YtokjhocjemjfiaaW.PrintWords Go.Proofs.YtokjhocjemjfiaaW.PrintLast Go.Proofs.YtokjhocjemjfiaaW.PrintMore
theorem Rd.drewN {w : World} {A : Option Addr} {c : Nat} {l : List Ent} (h : Rd w A c l) (n : Nat) : Rd (w.drewN n) A c l := ⟨Kd.C_drewN h.rd n, h.le, h.bd⟩
theorem Rd.drew {w : World} {A : Option Addr} {c : Nat} {l : List Ent} (h : Rd w A c l) : Rd w.drew A c l := ⟨Kd.C_drew h.rd, h.le, h.bd⟩
theorem Rd.alloc {w : World} {A : Option Addr} {c : Nat} {l : List Ent} (h : Rd w A c l) (o : Obj) : Rd (w.alloc o) A c l := ⟨Kd.C_alloc h.rd o, h.le, h.bd⟩
end Go.Proofs.Ytokjhocjemjfiaa.Sp
namespace Go.Proofs.Ytokjhocjemjfiaa.PartW
open Go Go.RowKit Go.Proofs.Ytokjhocjemjfiaa.A Go.Proofs.Ytokjhocjemjfiaa.Sp Go.Proofs.Ytokjhocjemjfiaa.Reg Go.Proofs.YtokjhocjemjfiaaW.PrintWords Go.Proofs.YtokjhocjemjfiaaW.PrintLast Go.Proofs.YtokjhocjemjfiaaW.PrintMore
theorem eqA24 (d : Nat) (w : World) (x0 y0 : Int) (x1 y1 : Int) (x2 y2 : Int) :
    (Op.equalIn (d + 2) 24 (.agg #[.int .i64 x0, .int .i64 x1, .int .i64 x2]) (.agg #[.int .i64 y0, .int .i64 y1, .int .i64 y2])).run Try.prog w = .ok (x0 == y0 && (x1 == y1 && (x2 == y2))) w := by
  refine eqA_of Try.underlying24 (by kernel_rfl) ?_
  refine eqf_cons (by rfl) (by go_simp; rfl) (by go_simp; rfl) (by go_simp) ?_
  refine eqf_cons (by rfl) (by go_simp; rfl) (by go_simp; rfl) (by go_simp) ?_
  exact eqf_last (by rfl) (by go_simp; rfl) (by go_simp; rfl) (by go_simp)
attribute [local go_sem high] eqA24 eqA28
abbrev vP (p : Prt) (A : Option Addr) (c : Nat) : Value := .agg #[.int .i64 p.g, .int .i64 p.k, .slice A p.l.length c, .int .i64 p.ht, .int .i64 p.hv, .int .i64 p.hc, .int .i64 p.ix, .int .i64 p.tm, .bool p.mrk, .bool p.hed]
abbrev vG (g : Grp) (A : Option Addr) (c : Nat) : Value := .agg #[.int .i64 g.id, .int .i64 g.fi, .int .i64 g.tm, .int .i64 g.ht, .int .i64 g.hv, .int .i64 g.hc, .slice A g.l.length c]
theorem equal_calls (a b : List Ent) (A : Option Addr) (c : Nat) (A' : Option Addr) (c' : Nat) (w : World) (ha : Rd w A c a) (hb : Rd w A' c' b) :
    Calls Try.prog 39 #[.slice A a.length c, .slice A' b.length c'] w fun e w' => e = .returned (.bool (sameL a b)) ∧ Drawn0 w w' :=
  api_Entry.calls _ A c a A' c' b _ w ha.rd ha.le hb.rd hb.le (Equal_q a b ha.bd)
theorem equal4_calls (a b : List Ent) (A : Option Addr) (c : Nat) (A' : Option Addr) (c' : Nat) (w : World) (ha : Rd w A c a) (hb : Rd w A' c' b) :
    Calls Try.prog 40 #[.slice A a.length c, .slice A' b.length c'] w fun e w' => e = .returned (.bool (sameL a b)) ∧ Drawn0 w w' :=
  laderef4_sameEntries.calls _ A c a A' c' b _ w ha.rd ha.le hb.rd hb.le (Equal_q4 a b ha.bd)
theorem ret_bool {a b : Bool} (h : a = b) : Ending.returned (.bool a) = Ending.returned (.bool b) := by rw [h]
theorem same_bits (a b : Prt) : sameP a b = ((a.g == b.g) && ((a.k == b.k) && (sameL a.l b.l && (((a.ht == b.ht) && ((a.hv == b.hv) && (a.hc == b.hc))) && ((a.ix == b.ix) && ((a.tm == b.tm) && ((a.mrk == b.mrk) && (a.hed == b.hed)))))))) := by
  apply Bool.eq_iff_iff.2
  unfold sameP
  simp only [Bool.and_eq_true, decide_eq_true_eq, beq_iff_eq]
  constructor
  · rintro ⟨⟨h1, h2, h3, h4, h5, h6, h7⟩, h8, h9, h10⟩; exact ⟨h1, h2, h10, ⟨h3, h4, h5⟩, h6, h7, h8, h9⟩
  · rintro ⟨h1, h2, h10, ⟨h3, h4, h5⟩, h6, h7, h8, h9⟩; exact ⟨⟨h1, h2, h3, h4, h5, h6, h7⟩, h8, h9, h10⟩
set_option maxHeartbeats 4000000 in
set_option maxRecDepth 100000 in
theorem part_Same (a b : Prt) (A : Option Addr) (c : Nat) (A' : Option Addr) (c' : Nat) (w : World) (ha : Rd w A c a.l) (hb : Rd w A' c' b.l) :
    Calls Try.prog 18 #[vP a A c, vP b A' c'] w fun e w' => e = .returned (.bool (sameP a b)) ∧ Below w.heap.size w w' := by
  have HS := Aside0.mk (same_bits a b)
  have HA := Aside0.mk ha
  have HB := Aside0.mk hb
  clear ha hb
  unfold vP
  go_enter Try.func18, Try.ntmps18
  go_wp2_with (go_at_call 39; refine (equal_calls a.l b.l _ _ _ _ _ ((HA.out.alloc _).alloc _) ((HB.out.alloc _).alloc _)).mono ?_; rintro e w' ⟨rfl, ⟨n, rfl⟩⟩)
  all_goals
   (go_ret
    exact ⟨ret_bool (by rw [HS.out]; simp [*]), by repeat (first | exact Below.refl _ _ | apply below_alloc | apply pw_below_drewN | apply below_drew1)⟩)
set_option maxHeartbeats 4000000 in
set_option maxRecDepth 100000 in
theorem ref_SamePart (a b : Prt) (A : Option Addr) (c : Nat) (A' : Option Addr) (c' : Nat) (w : World) (ha : Rd w A c a.l) (hb : Rd w A' c' b.l) :
    Calls Try.prog 19 #[vP a A c, vP b A' c'] w fun e w' => e = .returned (.bool (sameP a b)) ∧ Below w.heap.size w w' := by
  have HS := Aside0.mk (same_bits a b)
  have HA := Aside0.mk ha
  have HB := Aside0.mk hb
  clear ha hb
  unfold vP
  go_enter Try.func19, Try.ntmps19
  go_wp2_with (go_at_call 40; refine (equal4_calls a.l b.l _ _ _ _ _ ((HA.out.alloc _).alloc _) ((HB.out.alloc _).alloc _)).mono ?_; rintro e w' ⟨rfl, ⟨n, rfl⟩⟩)
  all_goals
   (go_ret
    exact ⟨ret_bool (by rw [HS.out]; simp [*]), by repeat (first | exact Below.refl _ _ | apply below_alloc | apply pw_below_drewN | apply below_drew1)⟩)
end Go.Proofs.Ytokjhocjemjfiaa.PartW
namespace Go.Proofs.Ytokjhocjemjfiaa.PartW
open Go Go.RowKit Go.Proofs.Ytokjhocjemjfiaa.A Go.Proofs.Ytokjhocjemjfiaa.Sp Go.Proofs.Ytokjhocjemjfiaa.Reg Go.Proofs.YtokjhocjemjfiaaW.PrintWords Go.Proofs.YtokjhocjemjfiaaW.PrintLast Go.Proofs.YtokjhocjemjfiaaW.PrintMore
def hasL (p : Prt) : Bool := decide (p.k = 1) || decide (p.k = 6)
def hasH (p : Prt) : Bool := decide (p.k = 2) || (decide (p.k = 6) && p.hed)
def hasM (p : Prt) : Bool := decide (p.k = 3) || decide (p.k = 4) || (decide (p.k = 6) && p.mrk)
/-- what a part's kind has, and nothing else -/
def coreP (p : Prt) : Prt := ⟨p.g, p.k, if hasL p then p.l else [], if hasH p then p.ht else 0, if hasH p then p.hv else 0, if hasH p then p.hc else 0, if hasM p then p.ix else 0, if hasM p then p.tm else 0, decide (p.k = 6) && p.mrk, decide (p.k = 6) && p.hed⟩
def coreA (p : Prt) (A : Option Addr) : Option Addr := if hasL p then A else none
def coreC (p : Prt) (c : Nat) : Nat := if hasL p then c else 0
set_option maxHeartbeats 4000000 in
set_option maxRecDepth 100000 in
theorem part_core (p : Prt) (A : Option Addr) (c : Nat) (w : World) :
    Calls Try.prog 35 #[vP p A c] w fun e w' => e = .returned (vP (coreP p) (coreA p A) (coreC p c)) ∧ Below w.heap.size w w' := by
  obtain ⟨g, k, l, ht, hv, hc, ix, tm, mrk, hed⟩ := p
  obtain ⟨R, hR⟩ : ∃ R, vP (coreP ⟨g, k, l, ht, hv, hc, ix, tm, mrk, hed⟩) (coreA ⟨g, k, l, ht, hv, hc, ix, tm, mrk, hed⟩ A) (coreC ⟨g, k, l, ht, hv, hc, ix, tm, mrk, hed⟩ c) = R := ⟨_, rfl⟩
  rw [hR]
  have HR := Aside0.mk hR
  clear hR
  unfold vP
  dsimp only
  go_enter Try.func35, Try.ntmps35
  go_wp2
  all_goals (try (go_region; all_goals go_wp2))
  all_goals (try (go_region; all_goals go_wp2))
  all_goals (try (go_region; all_goals go_wp2))
  all_goals
   (refine bodyPost_ret (v := R) ?_ rfl ⟨rfl, ?_⟩
    · rw [← HR.out]
      clear HR
      simp only [beq_iff_eq, beq_eq_false_iff_ne, ne_eq] at *
      simp [results, Try.results35, go_sem, vP, coreP, coreA, coreC, hasL, hasH, hasM, *]
    · repeat (first | exact Below.refl _ _ | apply below_alloc | apply pw_below_drewN | apply below_drew1 | apply Below.setCell))
end Go.Proofs.Ytokjhocjemjfiaa.PartW
