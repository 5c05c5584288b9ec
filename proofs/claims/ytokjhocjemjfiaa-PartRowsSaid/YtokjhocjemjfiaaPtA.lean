/- The program's reader of a part. -/
import Derived.Test.YtokjhocjemjfiaaNmA
set_option linter.unusedVariables false
set_option linter.unusedSimpArgs false
namespace Go.Proofs.Ytokjhocjemjfiaa.Sp
open Go Go.RowKit Go.Proofs.Ytokjhocjemjfiaa.A Go.Proofs.Ytokjhocjemjfiaa.PartW Go.Proofs.Ytokjhocjemjfiaa.Seq Go.Proofs.Ytokjhocjemjfiaa.CodeW Go.Proofs.Ytokjhocjemjfiaa.CodeM Go.Proofs.Ytokjhocjemjfiaa.CodeQ Go.Proofs.Ytokjhocjemjfiaa.Given Go.Proofs.YtokjhocjemjfiaaW.PrintWords Go.Proofs.YtokjhocjemjfiaaW.PrintLast Go.Proofs.YtokjhocjemjfiaaW.PrintMore
/-- a number of a part is another one -/
def setA (p : Prt) (o : Nat) (v : Int) : Prt :=
  match o with
  | 3 => ⟨p.g, p.k, p.l, v, p.hv, p.hc, p.ix, p.tm, p.mrk, p.hed⟩
  | 4 => ⟨p.g, p.k, p.l, p.ht, v, p.hc, p.ix, p.tm, p.mrk, p.hed⟩
  | 5 => ⟨p.g, p.k, p.l, p.ht, p.hv, v, p.ix, p.tm, p.mrk, p.hed⟩
  | 6 => ⟨p.g, p.k, p.l, p.ht, p.hv, p.hc, v, p.tm, p.mrk, p.hed⟩
  | _ => ⟨p.g, p.k, p.l, p.ht, p.hv, p.hc, p.ix, v, p.mrk, p.hed⟩
/-- a part's numbers are read -/
def numsR (s : ByteArray) : List Addr → Prt → (Nat × Nat) → Prt × (Nat × Nat)
  | [], p, st => (p, st)
  | a :: l, p, st => numsR s l (setA p a.off ((numR s st).1 : Int)) (numR s st).2
theorem numsR_drop (s : ByteArray) {xs : List Addr} {k : Nat} {x : Addr} (h : xs[k]? = some x) (p : Prt) (st : Nat × Nat) : numsR s (xs.drop k) p st = numsR s (xs.drop (k + 1)) (setA p x.off ((numR s st).1 : Int)) (numR s st).2 := by
  obtain ⟨hk, rfl⟩ := List.getElem?_eq_some_iff.1 h
  rw [List.drop_eq_getElem_cons hk]; rfl
theorem setA_k (p : Prt) (o : Nat) (v : Int) : (setA p o v).k = p.k ∧ (setA p o v).mrk = p.mrk ∧ (setA p o v).hed = p.hed ∧ (setA p o v).l = p.l ∧ (setA p o v).g = p.g := by
  unfold setA; split <;> exact ⟨rfl, rfl, rfl, rfl, rfl⟩
theorem numA_mem {nP : Nat} {a h : Bool} {k : Nat} {x : Addr} (hx : (numA nP a h)[k]? = some x) : ∃ o, x = ⟨nP, o, none⟩ ∧ 3 ≤ o ∧ o ≤ 7 := by
  have hm := List.mem_of_getElem? hx
  unfold numA at hm
  cases a <;> cases h <;> simp at hm
  · rcases hm with rfl | rfl | rfl <;> exact ⟨_, rfl, by omega, by omega⟩
  · rcases hm with rfl | rfl <;> exact ⟨_, rfl, by omega, by omega⟩
  · rcases hm with rfl | rfl | rfl | rfl | rfl <;> exact ⟨_, rfl, by omega, by omega⟩
/-- a part's entries are read -/
def lastR (s : ByteArray) (p : Prt) (st : Nat × Nat) : Prt × (Nat × Nat) :=
  if p.k = 1 then
    let n := upR s 6 st
    let f := numR s n.2
    let L := entsR s false (if 1099511627777 < (f.1 : Int) then 1099511627777 else (f.1 : Int)) n.1 0 f.2 []
    (Prt.ents p L.1, L.2)
  else if p.k = 6 then
    let n := upR s 6 st
    let L := entsR s true 0 n.1 0 n.2 []
    (Prt.ents p L.1, L.2)
  else (p, st)
/-- what has a mark, a hard state: read of what is written anew -/
def flagR (s : ByteArray) (p : Prt) (st : Nat × Nat) : Prt × (Nat × Nat) :=
  if p.k = 6 then (⟨p.g, p.k, p.l, p.ht, p.hv, p.hc, p.ix, p.tm, bit1 (upR s 3 st).1, bit2 (upR s 3 st).1⟩, (upR s 3 st).2) else (p, st)
def midR (s : ByteArray) (p : Prt) (st : Nat × Nat) : Prt × (Nat × Nat) := numsR s (numA 0 (atK p.k p.mrk) (hdK p.k p.hed)) p st
/-- the program's reader of a part -/
def partR (s : ByteArray) (st : Nat × Nat) : Prt × (Nat × Nat) :=
  let g := numR s st
  let k := numR s g.2
  let a := mustR (decide (1 ≤ (k.1 : Int) ∧ (k.1 : Int) ≤ 6)) k.2
  let x := flagR s ⟨(g.1 : Int), (k.1 : Int), [], 0, 0, 0, 0, 0, false, false⟩ a
  let y := midR s x.1 x.2
  lastR s y.1 y.2
theorem numsR_any (s : ByteArray) (n : Nat) (a h : Bool) (p : Prt) (st : Nat × Nat) : numsR s (numA n a h) p st = numsR s (numA 0 a h) p st := by
  cases a <;> cases h <;> rfl
end Go.Proofs.Ytokjhocjemjfiaa.Sp
namespace Go.Proofs.Ytokjhocjemjfiaa.PartW
open Go Go.RowKit Go.Shelf Go.Proofs.Ytokjhocjemjfiaa.A Go.Proofs.Ytokjhocjemjfiaa.Sp Go.Proofs.Ytokjhocjemjfiaa.Reg Go.Proofs.Ytokjhocjemjfiaa.Seq Go.Proofs.Ytokjhocjemjfiaa.CodeW Go.Proofs.Ytokjhocjemjfiaa.CodeM Go.Proofs.Ytokjhocjemjfiaa.CodeQ Go.Proofs.Ytokjhocjemjfiaa.Given Go.Proofs.YtokjhocjemjfiaaW.PrintWords Go.Proofs.YtokjhocjemjfiaaW.PrintLast Go.Proofs.YtokjhocjemjfiaaW.PrintMore
/-- how a function with loops over functions ends: it does not panic -/
def bodyPostR (F : Fence) (n : Nat) (P : Program) (fn : Func) (R : Ending → World → Prop) : Exit → Act → World → Prop
  | .normal, a, w | .ret, a, w => LeavesInM F n P fn a.tmps R a.defers .returning w
  | _, _, _ => False
theorem bodyPostR_M {F : Fence} {n : Nat} {P : Program} {fn : Func} {R : Ending → World → Prop} : ∀ e a w, bodyPostR F n P fn R e a w → bodyPostM F n P fn R e a w
  | .normal, _, _, h => h
  | .ret, _, _, h => h
  | .panic _, _, _, h => h.elim
  | .outgrown, _, _, h => h.elim
  | .exit _, _, _, h => h.elim
  | .goto _, _, _, h => h.elim
def ZP : Prt := ⟨0, 0, [], 0, 0, 0, 0, 0, false, false⟩
theorem BlkP.setA {p : Prt} {A : Option Addr} {c B : Nat} {W : World} (h : BlkP p A c B W) {o : Nat} (ho : 3 ≤ o ∧ o ≤ 7) (v : Int) : BlkP (setA p o v) A c B (W.setCell ⟨B, o, none⟩ (.int .i64 v)) := by
  unfold BlkP at h ⊢
  obtain rfl | rfl | rfl | rfl | rfl : o = 3 ∨ o = 4 ∨ o = 5 ∨ o = 6 ∨ o = 7 := by omega
  all_goals (unfold Sp.setA; simp [World.setCell, Array.getElem?_modify, h])
theorem BlkP.cellA {p : Prt} {A : Option Addr} {c B : Nat} {W : World} (h : BlkP p A c B W) {o : Nat} (ho : 3 ≤ o ∧ o ≤ 7) : ∃ v, W.cell? ⟨B, o, none⟩ = some (.int .i64 v) := by
  obtain ⟨h0, h1, h2, h3, h4, h5, h6, h7, h8, h9⟩ := h.box
  obtain rfl | rfl | rfl | rfl | rfl : o = 3 ∨ o = 4 ∨ o = 5 ∨ o = 6 ∨ o = 7 := by omega
  · exact ⟨_, h3⟩
  · exact ⟨_, h4⟩
  · exact ⟨_, h5⟩
  · exact ⟨_, h6⟩
  · exact ⟨_, h7⟩
/-- a part is stored -/
def putP (W : World) (B : Nat) (p : Prt) (A : Option Addr) (c : Nat) : World := ((((((((((W.setCell ⟨B, 0, none⟩ (.int .i64 p.g)).setCell ⟨B, 1, none⟩ (.int .i64 p.k)).setCell ⟨B, 2, none⟩ (.slice A p.l.length c)).setCell ⟨B, 3, none⟩ (.int .i64 p.ht)).setCell ⟨B, 4, none⟩ (.int .i64 p.hv)).setCell ⟨B, 5, none⟩ (.int .i64 p.hc)).setCell ⟨B, 6, none⟩ (.int .i64 p.ix)).setCell ⟨B, 7, none⟩ (.int .i64 p.tm)).setCell ⟨B, 8, none⟩ (.bool p.mrk)).setCell ⟨B, 9, none⟩ (.bool p.hed))
theorem only_putP (W : World) (B : Nat) (p : Prt) (A : Option Addr) (c : Nat) : Only (fun q => q = B) W (putP W B p A c) := by
  unfold putP
  iterate 10 (refine Only.setCell (U := fun q => q = B) ?_ rfl _)
  exact Only.refl _ _
theorem BlkP.put {q : Prt} {A' : Option Addr} {c' B : Nat} {W : World} (h : BlkP q A' c' B W) (p : Prt) (A : Option Addr) (c : Nat) : BlkP p A c B (putP W B p A c) := by
  unfold BlkP putP at *
  simp [World.setCell, Array.getElem?_modify, h]
theorem BlkP.marks {x : Prt} {A : Option Addr} {c B n₀ : Nat} {W W' : World} (h : BlkP x A c B W) (ho : Only (fun k => n₀ ≤ k ∧ ∃ o, W.heap[k]? = some o ∧ o.isCells = false) W W') : BlkP x A c B W' :=
  h.only ho fun h2 => by
    obtain ⟨_, o, ho, hc⟩ := h2
    unfold BlkP at h
    rw [h] at ho
    cases ho
    cases hc
theorem BlkC.marks {T : TypeId} {s : ByteArray} {i e B n₀ : Nat} {W W' : World} (h : BlkC T s i e B W) (ho : Only (fun k => n₀ ≤ k ∧ ∃ o, W.heap[k]? = some o ∧ o.isCells = false) W W') : BlkC T s i e B W' :=
  h.only ho fun h2 => by
    obtain ⟨_, o, ho, hc⟩ := h2
    unfold BlkC at h
    rw [h] at ho
    cases ho
    cases hc
/-- what lies while a part is read: the reader, its box, the result, the part -/
structure PCt (s : ByteArray) (i e B n0 : Nat) (p : Prt) (A : Option Addr) (c nP : Nat) (w W : World) : Prop where
  hc : BlkC 68 s i e B W
  hp : BlkP p A c nP W
  hx : Boxed W n0 66 (.pointer (some ⟨B, 0, none⟩))
  hr : BlkP ZP none 0 (n0 + 1) W
  ho : Only (fun q => q = B) w W
  hi : i ≤ s.size
  hs : s.size ≤ 140737488351232
  lt : B < n0 ∧ w.heap.size ≤ n0 ∧ n0 + 1 < nP ∧ B < w.heap.size
section
variable {s : ByteArray} {i e B n0 c nP n2 : Nat} {p : Prt} {A : Option Addr} {w W W' : World}
theorem PCt.only {U : Nat → Prop} (h : PCt s i e B n0 p A c nP w W) (ho : Only U W W') (hU : ∀ q, U q → nP < q) : PCt s i e B n0 p A c nP w W' := by
  have hl := h.lt
  exact ⟨h.hc.only ho (fun h' => by have := hU _ h'; omega), h.hp.only ho (fun h' => by have := hU _ h'; omega), ho.boxed h.hx (fun h' => by have := hU _ h'; omega), h.hr.only ho (fun h' => by have := hU _ h'; omega), only_news h.ho ho (fun q hq => by have := hU _ hq; omega), h.hi, h.hs, hl⟩
theorem PCt.alloc (h : PCt s i e B n0 p A c nP w W) (o : Obj) : PCt s i e B n0 p A c nP w (W.alloc o) := h.only ((Only.refl (fun _ => False) W).alloc o) (fun q hq => hq.elim)
theorem PCt.drew (h : PCt s i e B n0 p A c nP w W) : PCt s i e B n0 p A c nP w W.drew := h.only ((Only.refl (fun _ => False) W).drew) (fun q hq => hq.elim)
theorem PCt.call {i' e' : Nat} (h : PCt s i e B n0 p A c nP w W) (hc' : BlkC 68 s i' e' B W') (ho : Only (fun q => q = B) W W') (hi' : i' ≤ s.size) : PCt s i' e' B n0 p A c nP w W' := by
  have hl := h.lt
  exact ⟨hc', h.hp.only ho (fun h' => by have h2 : nP = B := h'; omega), ho.boxed h.hx (fun h' => by have h2 : n0 = B := h'; omega), h.hr.only ho (fun h' => by have h2 : n0 + 1 = B := h'; omega), h.ho.trans ho, hi', h.hs, hl⟩
theorem PCt.upd {p' : Prt} {A' : Option Addr} {c' : Nat} (h : PCt s i e B n0 p A c nP w W) (hp' : BlkP p' A' c' nP W') (ho : Only (fun q => q = nP) W W') : PCt s i e B n0 p' A' c' nP w W' := by
  have hl := h.lt
  exact ⟨h.hc.only ho (fun h' => by have h2 : B = nP := h'; omega), hp', ho.boxed h.hx (fun h' => by have h2 : n0 = nP := h'; omega), h.hr.only ho (fun h' => by have h2 : n0 + 1 = nP := h'; omega), only_new h.ho ho (by omega), h.hi, h.hs, hl⟩
theorem PCt.setA (h : PCt s i e B n0 p A c nP w W) {o : Nat} (ho : 3 ≤ o ∧ o ≤ 7) (v : Int) : PCt s i e B n0 (setA p o v) A c nP w (W.setCell ⟨nP, o, none⟩ (.int .i64 v)) :=
  h.upd (h.hp.setA ho v) ((Only.refl (fun q => q = nP) W).setCell (p := ⟨nP, o, none⟩) rfl _)
/-- with the mark of a loop that is done -/
structure PCd (s : ByteArray) (i e B n0 : Nat) (p : Prt) (A : Option Addr) (c nP n2 : Nat) (w W : World) : Prop where
  h : PCt s i e B n0 p A c nP w W
  d : W.heap[n2]? = some (.deferred (some []))
  n : nP < n2
theorem PCd.drew (h : PCd s i e B n0 p A c nP n2 w W) : PCd s i e B n0 p A c nP n2 w W.drew := ⟨h.h.drew, h.d, h.n⟩
theorem PCd.call {i' e' : Nat} (h : PCd s i e B n0 p A c nP n2 w W) (hc' : BlkC 68 s i' e' B W') (ho : Only (fun q => q = B) W W') (hi' : i' ≤ s.size) : PCd s i' e' B n0 p A c nP n2 w W' :=
  ⟨h.h.call hc' ho hi', (ho.block _ (Array.getElem?_eq_some_iff.1 h.d).1 (fun h' => by have h2 : n2 = B := h'; have := h.h.lt; have := h.n; omega)).trans h.d, h.n⟩
theorem PCd.upd {p' : Prt} {A' : Option Addr} {c' : Nat} (h : PCd s i e B n0 p A c nP n2 w W) (hp' : BlkP p' A' c' nP W') (ho : Only (fun q => q = nP) W W') : PCd s i e B n0 p' A' c' nP n2 w W' :=
  ⟨h.h.upd hp' ho, (ho.block _ (Array.getElem?_eq_some_iff.1 h.d).1 (fun h' => by have h2 : n2 = nP := h'; have := h.n; omega)).trans h.d, h.n⟩
end
theorem rdup (s : ByteArray) (i e B : Nat) (w : World) (hb : BlkC 68 s i e B w) (hs : s.size ≤ 140737488351232) (hi : i ≤ s.size) (most : Int) {a b c : Nat} (h : upR s most (i, e) = (a, (b, c))) : Calls Try.prog 50 #[.pointer (some ⟨B, 0, none⟩), .int .i64 most] w fun r w' => r = .returned (.int .i64 (a : Int)) ∧ BlkC 68 s b c B w' ∧ Only (fun q => q = B) w w' ∧ b ≤ s.size := by
  have := rd_upTo s i e B w hb hs hi most
  rw [h] at this; exact this
theorem upR_le {s : ByteArray} {most : Int} {st : Nat × Nat} {a b c : Nat} (h : upR s most st = (a, (b, c))) : c = 0 → (a : Int) ≤ most := by
  intro hc
  unfold upR at h
  injection h with h1 h2
  unfold mustR at h2
  split at h2
  · injection h2 with h3 h4; omega
  · next h5 =>
    apply Classical.byContradiction
    intro h6
    rw [h2] at h5
    exact h5 ⟨hc, decide_eq_false (by rw [h1]; exact h6)⟩
theorem upR_ok (s : ByteArray) {i e : Nat} {most : Int} (hi : i ≤ s.size) : (upR s most (i, e)).2.1 ≤ s.size := by
  have h := (numR_ok s (st := (i, e)) hi).2
  unfold upR mustR
  dsimp only
  split
  · exact h
  · exact h
theorem rdents (s : ByteArray) (i e B : Nat) (w : World) (hb : BlkC 68 s i e B w) (hs : s.size ≤ 140737488351232) (hi : i ≤ s.size) (n : Nat) (f : Int) (own : Bool) (hf : -9223372036854775808 ≤ f ∧ f < 9223372036854775808) (hn : e = 0 → n ≤ 6) {L : List Ent} {b c : Nat} (h : entsR s own f n 0 (i, e) [] = (L, (b, c))) :
    Calls Try.prog 51 #[.pointer (some ⟨B, 0, none⟩), .int .i64 (n : Int), .int .i64 f, .bool own] w fun r w' => ∃ A c1, r = .returned (.slice A L.length c1) ∧ Rd w' A c1 L ∧ BlkC 68 s b c B w' ∧ Only (fun q => q = B) w w' ∧ b ≤ s.size := by
  cases own
  · have := rd_entries_false s i e B w hb hs hi n f hf hn
    rw [h] at this; exact this
  · have := rd_entries_true s i e B w hb hs hi n f hf hn
    rw [h] at this; exact this
theorem mnI {a : Nat} (h : a < 9223372036854775808) : -9223372036854775808 ≤ (if 1099511627777 < (a : Int) then 1099511627777 else (a : Int)) ∧ (if 1099511627777 < (a : Int) then 1099511627777 else (a : Int)) < 9223372036854775808 := by split <;> omega
set_option maxHeartbeats 4000000 in
set_option maxRecDepth 100000 in
theorem part_t4_1 (s : ByteArray) (i e B n0 nP n2 : Nat) (g ht hv hc ix tm : Int) (m d : Bool) (w W : World) (C : Code) (hC : (match Try.f41.body with | some (.seq _ (.seq _ (.seq _ (.seq _ (.seq _ c))))) => c | _ => .skip) = C) (u4 u5 u6 u7 u8 u9 u10 u11 u12 u13 u14 u15 u16 u17 u18 u19 u20 u21 u22 u23 u24 u25 u26 u27 u28 u29 u30 u31 u32 u33 u34 u35 u36 u37 u38 u39 u40 u41 u42 u43 u44 u45 u46 u47 u48 u49 u50 u51 u52 u53 u54 u55 u56 u57 u58 u59 u60 u61 u62 u63 u64 u65 u66 u67 u68 u69 : Value) (hh : PCd s i e B n0 ⟨g, 1, [], ht, hv, hc, ix, tm, m, d⟩ none 0 nP n2 w W) :
  C.wp Try.prog (bodyPostR Fence.wide 0 Try.prog Try.f41 (fun r w' => ∃ A c, r = .returned (vP (lastR s ⟨g, 1, [], ht, hv, hc, ix, tm, m, d⟩ (i, e)).1 A c) ∧ Rd w' A c (lastR s ⟨g, 1, [], ht, hv, hc, ix, tm, m, d⟩ (i, e)).1.l ∧ BlkC 68 s (lastR s ⟨g, 1, [], ht, hv, hc, ix, tm, m, d⟩ (i, e)).2.1 (lastR s ⟨g, 1, [], ht, hv, hc, ix, tm, m, d⟩ (i, e)).2.2 B w' ∧ Only (fun q => q = B) w w' ∧ (lastR s ⟨g, 1, [], ht, hv, hc, ix, tm, m, d⟩ (i, e)).2.1 ≤ s.size)) { tmps := #[.pointer (some ⟨B, 0, none⟩), .pointer (some ⟨n0, 0, none⟩), .pointer (some ⟨n0 + 1, 0, none⟩), .pointer (some ⟨nP, 0, none⟩), u4, u5, u6, u7, u8, u9, u10, u11, u12, u13, u14, u15, u16, u17, u18, u19, u20, u21, u22, u23, u24, u25, u26, u27, u28, u29, u30, u31, u32, u33, u34, u35, u36, u37, u38, u39, u40, u41, u42, u43, u44, u45, u46, u47, u48, u49, u50, u51, u52, u53, u54, u55, u56, u57, u58, u59, u60, u61, u62, u63, u64, u65, u66, u67, u68, u69], defers := [{ target := .collected n2, args := #[] }] } W := by
 have HH := Aside0.mk hh
 clear hh
 simp only [Try.f41] at hC
 subst hC
 obtain ⟨a1, b1, c1, h1⟩ : ∃ a b c, upR s 6 (i, e) = (a, (b, c)) := ⟨_, _, _, rfl⟩
 have E1 := Aside0.mk h1
 have HN6 := Aside0.mk (upR_le h1)
 obtain ⟨a2, b2, c2, h2⟩ : ∃ a b c, numR s (b1, c1) = (a, (b, c)) := ⟨_, _, _, rfl⟩
 have E2 := Aside0.mk h2
 have HA2 : Aside0 (a2 < 9223372036854775808) := ⟨by have hb1 : b1 ≤ s.size := by { have := upR_ok s HH.out.h.hi (most := 6) (e := e); rw [h1] at this; exact this }; have := (numR_ok s (st := (b1, c1)) hb1).1; rw [h2] at this; exact this⟩
 obtain ⟨mn, hmn⟩ : ∃ x, (if 1099511627777 < (a2 : Int) then 1099511627777 else (a2 : Int)) = x := ⟨_, rfl⟩
 have HMN := Aside0.mk hmn
 have HMI : Aside0 (-9223372036854775808 ≤ mn ∧ mn < 9223372036854775808) := ⟨by rw [← hmn]; exact mnI HA2.out⟩
 obtain ⟨L, b3, c3, h3⟩ : ∃ L b c, entsR s false mn a1 0 (b2, c2) [] = (L, (b, c)) := ⟨_, _, _, rfl⟩
 have E3 := Aside0.mk h3
 have HR : Aside0 (lastR s ⟨g, 1, [], ht, hv, hc, ix, tm, m, d⟩ (i, e) = (⟨g, 1, L, ht, hv, hc, ix, tm, m, d⟩, (b3, c3))) := ⟨by unfold lastR; rw [if_pos rfl]; dsimp only; rw [h1]; dsimp only; rw [h2]; dsimp only; rw [hmn, h3]; rfl⟩
 clear h1 h2 h3 hmn
 obtain ⟨y0, y1, y2, y3, y4, y5, y6, y7, y8, y9⟩ := HH.out.h.hp.box
 have x0 := HH.out.h.hx.cell
 have yf := HH.out.h.hp.free'
 dsimp only at y0 y1 y2 y3 y4 y5 y6 y7 y8 y9
 go_wp2_with fail
 go_at_call 50
 refine (rdup s i e B _ HH.out.h.hc HH.out.h.hs HH.out.h.hi 6 E1.out).mono ?_
 rintro r w1 ⟨rfl, hc', ho, hi⟩
 replace HH := Aside0.mk (HH.out.call hc' ho hi)
 clear hc' ho hi
 clear y0 y1 y2 y3 y4 y5 y6 y7 y8 y9 x0 yf
 have x0 := HH.out.h.hx.cell
 go_wp2_with fail
 clear x0
 replace HH := Aside0.mk HH.out.drew
 refine start_ (n := 8) (S := (fun w' => w'.cell? ⟨n0, 0, none⟩ = some (.pointer (some ⟨B, 0, none⟩)))) (ds := [7]) #[false,false,false,false,false,false,false,false] (by kernel_rfl) rfl rfl HH.out.h.hx.cell (fun hHeld => ?_)
 refine take_ (i := 0) (N := some 55) (v := ?_) (a' := ?_) #[true,false,false,false,false,false,false,false] rfl rfl (by kernel_rfl) (fun _ _ _ h => h) (Or.inl ⟨by rfl, ?_⟩) hHeld ?_ ?_
 rotate_left
 · rintro w' x0
   go_simp
   try with_reducible rfl
 rotate_left
 · simp only [Act.put, sA, sB, sC]
   rfl
 refine pure_ (i := 1) (N := some 56) (v := ?_) (a' := ?_) #[true,true,false,false,false,false,false,false] rfl rfl (by kernel_rfl) (fun _ _ _ h => h) (Or.inl ⟨by rfl, ?_⟩) ?_ ?_
 rotate_left
 · intro w'
   go_simp
   try with_reducible rfl
 rotate_left
 · simp only [Act.put, sA, sB, sC]
   rfl
 refine take_ (i := 2) (N := some 57) (v := ?_) (a' := ?_) #[true,true,true,false,false,false,false,false] rfl rfl (by kernel_rfl) (fun _ _ _ h => h) (Or.inl ⟨by rfl, ?_⟩) hHeld ?_ ?_
 rotate_left
 · rintro w' x0
   go_simp
   try with_reducible rfl
 rotate_left
 · simp only [Act.put, sA, sB, sC]
   rfl
 refine one_ (i := 3) (N := some 58) #[true,true,true,true,false,false,false,false] rfl rfl (by kernel_rfl) (by decide) (fun K hK => ?_)
 go_simp
 refine (rdn s b1 c1 B _ HH.out.h.hc HH.out.h.hs HH.out.h.hi E2.out).mono ?_; rintro r w20 ⟨rfl, hc', ho, hi⟩; replace HH := Aside0.mk (HH.out.call hc' ho hi); clear hc' ho hi
 refine hK.out _ _ ?_ (fun hHeld => ?_)
 · exact HH.out.h.hx.cell
 clear hK K
 try simp only [Act.put, sA, sB, sC]
 refine one_ (i := 4) (N := some 59) #[true,true,true,true,true,false,false,false] rfl rfl (by kernel_rfl) (by decide) (fun K hK => ?_)
 go_simp
 refine hK.out _ _ ?_ (fun hHeld => ?_)
 · exact HH.out.h.hx.cell
 clear hK K
 try simp only [Act.put, sA, sB, sC]
 try rw [HMN.out]
 refine one_ (i := 5) (N := some 60) #[true,true,true,true,true,true,false,false] rfl rfl (by kernel_rfl) (by decide) (fun K hK => ?_)
 go_simp
 refine (rdents s b2 c2 B _ HH.out.h.hc HH.out.h.hs HH.out.h.hi a1 mn false HMI.out (fun h => by have h5 := HN6.out (numR_e (s := s) (st := (b1, c1)) (by rw [E2.out]; exact h)); omega) E3.out).mono ?_; rintro r w21 ⟨A6, c6, rfl, hrd, hc', ho, hi⟩; replace HH := Aside0.mk (HH.out.call hc' ho hi); have HRD := Aside0.mk hrd; clear hc' ho hi hrd
 refine hK.out _ _ ?_ (fun hHeld => ?_)
 · exact HH.out.h.hx.cell
 clear hK K
 try simp only [Act.put, sA, sB, sC]
 obtain ⟨y0, y1, y2, y3, y4, y5, y6, y7, y8, y9⟩ := HH.out.h.hp.box
 have x0 := HH.out.h.hx.cell
 have yf := HH.out.h.hp.free'
 dsimp only at y0 y1 y2 y3 y4 y5 y6 y7 y8 y9
 refine pure_ (i := 6) (N := some 61) (v := ?_) (a' := ?_) #[true,true,true,true,true,true,true,false] rfl rfl (by kernel_rfl) (fun _ _ _ h => h) (Or.inl ⟨by rfl, ?_⟩) ?_ ?_
 rotate_left
 · intro w'
   go_simp
   try with_reducible rfl
 rotate_left
 · simp only [Act.put, sA, sB, sC]
   rfl
 refine last_ (i := 7) (N := none) #[true,true,true,true,true,true,true,true] rfl rfl (by kernel_rfl) (by decide) (fun K hK => ?_)
 go_simp
 refine hK.out _ _ ?_
 clear hK K
 try simp only [Act.put, sA, sB, sC]
 refine done_ (by kernel_rfl) ?_
 clear y0 y1 y2 y3 y4 y5 y6 y7 y8 y9 x0 yf
 have hx := (Only.refl (fun q => q = nP) w21).setCell (p := ⟨nP, 2, none⟩) rfl (.slice A6 L.length c6)
 have hgl := BlkP.setL' HH.out.h.hp L A6 c6
 have hr6 := Rd.only HRD.out hx (fun q hq h => by have h3 : q = nP := h; subst h3; exact Rd.apartP HRD.out HH.out.h.hp hq)
 replace HH := Aside0.mk (HH.out.upd hgl hx)
 replace HRD := Aside0.mk hr6
 clear hx hgl hr6
 obtain ⟨W6, hW⟩ : ∃ W, w21.setCell ⟨nP, 2, none⟩ (.slice A6 L.length c6) = W := ⟨_, rfl⟩
 rw [hW] at HH HRD ⊢
 clear hW
 obtain ⟨y0, y1, y2, y3, y4, y5, y6, y7, y8, y9⟩ := HH.out.h.hp.box
 have x0 := HH.out.h.hx.cell
 have yf := HH.out.h.hp.free'
 dsimp only at y0 y1 y2 y3 y4 y5 y6 y7 y8 y9
 obtain ⟨z0, z1, z2, z3, z4, z5, z6, z7, z8, z9⟩ := HH.out.h.hr.box
 have zf := HH.out.h.hr.free'
 go_wp2
 clear y0 y1 y2 y3 y4 y5 y6 y7 y8 y9 x0 yf z0 z1 z2 z3 z4 z5 z6 z7 z8 z9 zf
 have hx := only_putP W6 (n0 + 1) ⟨g, 1, L, ht, hv, hc, ix, tm, m, d⟩ A6 c6
 have hb := HH.out.h.hr.put ⟨g, 1, L, ht, hv, hc, ix, tm, m, d⟩ A6 c6
 have hr6 := Rd.only HRD.out hx (fun q hq h => by have h3 : q = n0 + 1 := h; subst h3; exact Rd.apartP HRD.out HH.out.h.hr hq)
 have hc6 := HH.out.h.hc.only hx (fun h => by have h3 : B = n0 + 1 := h; have := HH.out.h.lt; omega)
 have ho6 := only_new HH.out.h.ho hx (by have := HH.out.h.lt; omega)
 have hd6 := (hx.block _ (Array.getElem?_eq_some_iff.1 HH.out.d).1 (fun h => by have h3 : n2 = n0 + 1 := h; have := HH.out.h.lt; have := HH.out.n; omega)).trans HH.out.d
 clear hx
 refine Marks.leaves (n₀ := n2) ((show Marks n2 [] _ from trivial).cons hd6 (Nat.le_refl _) (by simp)) fun W' hW' => ?_
 obtain ⟨y0, y1, y2, y3, y4, y5, y6, y7, y8, y9⟩ := (hb.marks hW').box
 dsimp only at y0 y1 y2 y3 y4 y5 y6 y7 y8 y9
 refine ⟨vP ⟨g, 1, L, ht, hv, hc, ix, tm, m, d⟩ A6 c6, by simp [results, Try.results41, go_sem, vP, y0, y1, y2, y3, y4, y5, y6, y7, y8, y9], ?_⟩
 rw [HR.out]
 exact ⟨A6, c6, rfl, hr6.marks hW', hc6.marks hW', only_news ho6 hW' (fun q hq => by have := HH.out.h.lt; have := HH.out.n; have := hq.1; omega), HH.out.h.hi⟩
set_option maxHeartbeats 4000000 in
set_option maxRecDepth 100000 in
theorem part_t4_6 (s : ByteArray) (i e B n0 nP n2 : Nat) (g ht hv hc ix tm : Int) (m d : Bool) (w W : World) (C : Code) (hC : (match Try.f41.body with | some (.seq _ (.seq _ (.seq _ (.seq _ (.seq _ c))))) => c | _ => .skip) = C) (u4 u5 u6 u7 u8 u9 u10 u11 u12 u13 u14 u15 u16 u17 u18 u19 u20 u21 u22 u23 u24 u25 u26 u27 u28 u29 u30 u31 u32 u33 u34 u35 u36 u37 u38 u39 u40 u41 u42 u43 u44 u45 u46 u47 u48 u49 u50 u51 u52 u53 u54 u55 u56 u57 u58 u59 u60 u61 u62 u63 u64 u65 u66 u67 u68 u69 : Value) (hh : PCd s i e B n0 ⟨g, 6, [], ht, hv, hc, ix, tm, m, d⟩ none 0 nP n2 w W) :
  C.wp Try.prog (bodyPostR Fence.wide 0 Try.prog Try.f41 (fun r w' => ∃ A c, r = .returned (vP (lastR s ⟨g, 6, [], ht, hv, hc, ix, tm, m, d⟩ (i, e)).1 A c) ∧ Rd w' A c (lastR s ⟨g, 6, [], ht, hv, hc, ix, tm, m, d⟩ (i, e)).1.l ∧ BlkC 68 s (lastR s ⟨g, 6, [], ht, hv, hc, ix, tm, m, d⟩ (i, e)).2.1 (lastR s ⟨g, 6, [], ht, hv, hc, ix, tm, m, d⟩ (i, e)).2.2 B w' ∧ Only (fun q => q = B) w w' ∧ (lastR s ⟨g, 6, [], ht, hv, hc, ix, tm, m, d⟩ (i, e)).2.1 ≤ s.size)) { tmps := #[.pointer (some ⟨B, 0, none⟩), .pointer (some ⟨n0, 0, none⟩), .pointer (some ⟨n0 + 1, 0, none⟩), .pointer (some ⟨nP, 0, none⟩), u4, u5, u6, u7, u8, u9, u10, u11, u12, u13, u14, u15, u16, u17, u18, u19, u20, u21, u22, u23, u24, u25, u26, u27, u28, u29, u30, u31, u32, u33, u34, u35, u36, u37, u38, u39, u40, u41, u42, u43, u44, u45, u46, u47, u48, u49, u50, u51, u52, u53, u54, u55, u56, u57, u58, u59, u60, u61, u62, u63, u64, u65, u66, u67, u68, u69], defers := [{ target := .collected n2, args := #[] }] } W := by
 have HH := Aside0.mk hh
 clear hh
 simp only [Try.f41] at hC
 subst hC
 obtain ⟨a1, b1, c1, h1⟩ : ∃ a b c, upR s 6 (i, e) = (a, (b, c)) := ⟨_, _, _, rfl⟩
 have E1 := Aside0.mk h1
 have HN6 := Aside0.mk (upR_le h1)
 obtain ⟨L, b3, c3, h3⟩ : ∃ L b c, entsR s true 0 a1 0 (b1, c1) [] = (L, (b, c)) := ⟨_, _, _, rfl⟩
 have E3 := Aside0.mk h3
 have HR : Aside0 (lastR s ⟨g, 6, [], ht, hv, hc, ix, tm, m, d⟩ (i, e) = (⟨g, 6, L, ht, hv, hc, ix, tm, m, d⟩, (b3, c3))) := ⟨by unfold lastR; rw [if_neg (show ¬ (6 : Int) = 1 by decide), if_pos rfl]; dsimp only; rw [h1]; dsimp only; rw [h3]; rfl⟩
 clear h1 h3
 obtain ⟨y0, y1, y2, y3, y4, y5, y6, y7, y8, y9⟩ := HH.out.h.hp.box
 have x0 := HH.out.h.hx.cell
 have yf := HH.out.h.hp.free'
 dsimp only at y0 y1 y2 y3 y4 y5 y6 y7 y8 y9
 go_wp2_with fail
 clear y0 y1 y2 y3 y4 y5 y6 y7 y8 y9 x0 yf
 replace HH := Aside0.mk HH.out.drew
 refine start_ (n := 6) (S := (fun w' => w'.cell? ⟨n0, 0, none⟩ = some (.pointer (some ⟨B, 0, none⟩)))) (ds := [5]) #[false,false,false,false,false,false] (by kernel_rfl) rfl rfl HH.out.h.hx.cell (fun hHeld => ?_)
 refine take_ (i := 0) (N := some 64) (v := ?_) (a' := ?_) #[true,false,false,false,false,false] rfl rfl (by kernel_rfl) (fun _ _ _ h => h) (Or.inl ⟨by rfl, ?_⟩) hHeld ?_ ?_
 rotate_left
 · rintro w' x0
   go_simp
   try with_reducible rfl
 rotate_left
 · simp only [Act.put, sA, sB, sC]
   rfl
 refine take_ (i := 1) (N := some 65) (v := ?_) (a' := ?_) #[true,true,false,false,false,false] rfl rfl (by kernel_rfl) (fun _ _ _ h => h) (Or.inl ⟨by rfl, ?_⟩) hHeld ?_ ?_
 rotate_left
 · rintro w' x0
   go_simp
   try with_reducible rfl
 rotate_left
 · simp only [Act.put, sA, sB, sC]
   rfl
 refine one_ (i := 2) (N := some 66) #[true,true,true,false,false,false] rfl rfl (by kernel_rfl) (by decide) (fun K hK => ?_)
 go_simp
 refine (rdup s i e B _ HH.out.h.hc HH.out.h.hs HH.out.h.hi 6 E1.out).mono ?_; rintro r w20 ⟨rfl, hc', ho, hi⟩; replace HH := Aside0.mk (HH.out.call hc' ho hi); clear hc' ho hi
 refine hK.out _ _ ?_ (fun hHeld => ?_)
 · exact HH.out.h.hx.cell
 clear hK K
 try simp only [Act.put, sA, sB, sC]
 refine one_ (i := 3) (N := some 67) #[true,true,true,true,false,false] rfl rfl (by kernel_rfl) (by decide) (fun K hK => ?_)
 go_simp
 refine (rdents s b1 c1 B _ HH.out.h.hc HH.out.h.hs HH.out.h.hi a1 0 true (by omega) (fun h => by have h5 := HN6.out h; omega) E3.out).mono ?_; rintro r w21 ⟨A6, c6, rfl, hrd, hc', ho, hi⟩; replace HH := Aside0.mk (HH.out.call hc' ho hi); have HRD := Aside0.mk hrd; clear hc' ho hi hrd
 refine hK.out _ _ ?_ (fun hHeld => ?_)
 · exact HH.out.h.hx.cell
 clear hK K
 try simp only [Act.put, sA, sB, sC]
 obtain ⟨y0, y1, y2, y3, y4, y5, y6, y7, y8, y9⟩ := HH.out.h.hp.box
 have x0 := HH.out.h.hx.cell
 have yf := HH.out.h.hp.free'
 dsimp only at y0 y1 y2 y3 y4 y5 y6 y7 y8 y9
 refine pure_ (i := 4) (N := some 68) (v := ?_) (a' := ?_) #[true,true,true,true,true,false] rfl rfl (by kernel_rfl) (fun _ _ _ h => h) (Or.inl ⟨by rfl, ?_⟩) ?_ ?_
 rotate_left
 · intro w'
   go_simp
   try with_reducible rfl
 rotate_left
 · simp only [Act.put, sA, sB, sC]
   rfl
 refine last_ (i := 5) (N := none) #[true,true,true,true,true,true] rfl rfl (by kernel_rfl) (by decide) (fun K hK => ?_)
 go_simp
 refine hK.out _ _ ?_
 clear hK K
 try simp only [Act.put, sA, sB, sC]
 refine done_ (by kernel_rfl) ?_
 clear y0 y1 y2 y3 y4 y5 y6 y7 y8 y9 x0 yf
 have hx := (Only.refl (fun q => q = nP) w21).setCell (p := ⟨nP, 2, none⟩) rfl (.slice A6 L.length c6)
 have hgl := BlkP.setL' HH.out.h.hp L A6 c6
 have hr6 := Rd.only HRD.out hx (fun q hq h => by have h3 : q = nP := h; subst h3; exact Rd.apartP HRD.out HH.out.h.hp hq)
 replace HH := Aside0.mk (HH.out.upd hgl hx)
 replace HRD := Aside0.mk hr6
 clear hx hgl hr6
 obtain ⟨W6, hW⟩ : ∃ W, w21.setCell ⟨nP, 2, none⟩ (.slice A6 L.length c6) = W := ⟨_, rfl⟩
 rw [hW] at HH HRD ⊢
 clear hW
 obtain ⟨y0, y1, y2, y3, y4, y5, y6, y7, y8, y9⟩ := HH.out.h.hp.box
 have x0 := HH.out.h.hx.cell
 have yf := HH.out.h.hp.free'
 dsimp only at y0 y1 y2 y3 y4 y5 y6 y7 y8 y9
 obtain ⟨z0, z1, z2, z3, z4, z5, z6, z7, z8, z9⟩ := HH.out.h.hr.box
 have zf := HH.out.h.hr.free'
 go_wp2
 clear y0 y1 y2 y3 y4 y5 y6 y7 y8 y9 x0 yf z0 z1 z2 z3 z4 z5 z6 z7 z8 z9 zf
 have hx := only_putP W6 (n0 + 1) ⟨g, 6, L, ht, hv, hc, ix, tm, m, d⟩ A6 c6
 have hb := HH.out.h.hr.put ⟨g, 6, L, ht, hv, hc, ix, tm, m, d⟩ A6 c6
 have hr6 := Rd.only HRD.out hx (fun q hq h => by have h3 : q = n0 + 1 := h; subst h3; exact Rd.apartP HRD.out HH.out.h.hr hq)
 have hc6 := HH.out.h.hc.only hx (fun h => by have h3 : B = n0 + 1 := h; have := HH.out.h.lt; omega)
 have ho6 := only_new HH.out.h.ho hx (by have := HH.out.h.lt; omega)
 have hd6 := (hx.block _ (Array.getElem?_eq_some_iff.1 HH.out.d).1 (fun h => by have h3 : n2 = n0 + 1 := h; have := HH.out.h.lt; have := HH.out.n; omega)).trans HH.out.d
 clear hx
 refine Marks.leaves (n₀ := n2) ((show Marks n2 [] _ from trivial).cons hd6 (Nat.le_refl _) (by simp)) fun W' hW' => ?_
 obtain ⟨y0, y1, y2, y3, y4, y5, y6, y7, y8, y9⟩ := (hb.marks hW').box
 dsimp only at y0 y1 y2 y3 y4 y5 y6 y7 y8 y9
 refine ⟨vP ⟨g, 6, L, ht, hv, hc, ix, tm, m, d⟩ A6 c6, by simp [results, Try.results41, go_sem, vP, y0, y1, y2, y3, y4, y5, y6, y7, y8, y9], ?_⟩
 rw [HR.out]
 exact ⟨A6, c6, rfl, hr6.marks hW', hc6.marks hW', only_news ho6 hW' (fun q hq => by have := HH.out.h.lt; have := HH.out.n; have := hq.1; omega), HH.out.h.hi⟩
set_option maxHeartbeats 4000000 in
set_option maxRecDepth 100000 in
theorem part_t4_0 (s : ByteArray) (i e B n0 nP n2 : Nat) (g kd ht hv hc ix tm : Int) (m d : Bool) (w W : World) (C : Code) (hC : (match Try.f41.body with | some (.seq _ (.seq _ (.seq _ (.seq _ (.seq _ c))))) => c | _ => .skip) = C) (u4 u5 u6 u7 u8 u9 u10 u11 u12 u13 u14 u15 u16 u17 u18 u19 u20 u21 u22 u23 u24 u25 u26 u27 u28 u29 u30 u31 u32 u33 u34 u35 u36 u37 u38 u39 u40 u41 u42 u43 u44 u45 u46 u47 u48 u49 u50 u51 u52 u53 u54 u55 u56 u57 u58 u59 u60 u61 u62 u63 u64 u65 u66 u67 u68 u69 : Value) (hh : PCd s i e B n0 ⟨g, kd, [], ht, hv, hc, ix, tm, m, d⟩ none 0 nP n2 w W) (hk1 : kd ≠ 1) (hk6 : kd ≠ 6) :
  C.wp Try.prog (bodyPostR Fence.wide 0 Try.prog Try.f41 (fun r w' => ∃ A c, r = .returned (vP (lastR s ⟨g, kd, [], ht, hv, hc, ix, tm, m, d⟩ (i, e)).1 A c) ∧ Rd w' A c (lastR s ⟨g, kd, [], ht, hv, hc, ix, tm, m, d⟩ (i, e)).1.l ∧ BlkC 68 s (lastR s ⟨g, kd, [], ht, hv, hc, ix, tm, m, d⟩ (i, e)).2.1 (lastR s ⟨g, kd, [], ht, hv, hc, ix, tm, m, d⟩ (i, e)).2.2 B w' ∧ Only (fun q => q = B) w w' ∧ (lastR s ⟨g, kd, [], ht, hv, hc, ix, tm, m, d⟩ (i, e)).2.1 ≤ s.size)) { tmps := #[.pointer (some ⟨B, 0, none⟩), .pointer (some ⟨n0, 0, none⟩), .pointer (some ⟨n0 + 1, 0, none⟩), .pointer (some ⟨nP, 0, none⟩), u4, u5, u6, u7, u8, u9, u10, u11, u12, u13, u14, u15, u16, u17, u18, u19, u20, u21, u22, u23, u24, u25, u26, u27, u28, u29, u30, u31, u32, u33, u34, u35, u36, u37, u38, u39, u40, u41, u42, u43, u44, u45, u46, u47, u48, u49, u50, u51, u52, u53, u54, u55, u56, u57, u58, u59, u60, u61, u62, u63, u64, u65, u66, u67, u68, u69], defers := [{ target := .collected n2, args := #[] }] } W := by
 have HH := Aside0.mk hh
 clear hh
 simp only [Try.f41] at hC
 subst hC
 have k1 : (kd == 1) = false := beq_eq_false_iff_ne.2 hk1
 have k6 : (kd == 6) = false := beq_eq_false_iff_ne.2 hk6
 have HR : Aside0 (lastR s ⟨g, kd, [], ht, hv, hc, ix, tm, m, d⟩ (i, e) = (⟨g, kd, [], ht, hv, hc, ix, tm, m, d⟩, (i, e))) := ⟨by unfold lastR; rw [if_neg hk1, if_neg hk6]⟩
 clear hk1 hk6
 have HRD : Aside0 (Rd W none 0 []) := ⟨Rd.nil _⟩
 obtain ⟨y0, y1, y2, y3, y4, y5, y6, y7, y8, y9⟩ := HH.out.h.hp.box
 have x0 := HH.out.h.hx.cell
 have yf := HH.out.h.hp.free'
 dsimp only at y0 y1 y2 y3 y4 y5 y6 y7 y8 y9
 obtain ⟨z0, z1, z2, z3, z4, z5, z6, z7, z8, z9⟩ := HH.out.h.hr.box
 have zf := HH.out.h.hr.free'
 go_wp2
 clear y0 y1 y2 y3 y4 y5 y6 y7 y8 y9 x0 yf z0 z1 z2 z3 z4 z5 z6 z7 z8 z9 zf
 have hx := only_putP W (n0 + 1) ⟨g, kd, [], ht, hv, hc, ix, tm, m, d⟩ none 0
 have hb := HH.out.h.hr.put ⟨g, kd, [], ht, hv, hc, ix, tm, m, d⟩ none 0
 have hr6 := Rd.only HRD.out hx (fun q hq h => by have h3 : q = n0 + 1 := h; subst h3; exact Rd.apartP HRD.out HH.out.h.hr hq)
 have hc6 := HH.out.h.hc.only hx (fun h => by have h3 : B = n0 + 1 := h; have := HH.out.h.lt; omega)
 have ho6 := only_new HH.out.h.ho hx (by have := HH.out.h.lt; omega)
 have hd6 := (hx.block _ (Array.getElem?_eq_some_iff.1 HH.out.d).1 (fun h => by have h3 : n2 = n0 + 1 := h; have := HH.out.h.lt; have := HH.out.n; omega)).trans HH.out.d
 clear hx
 refine Marks.leaves (n₀ := n2) ((show Marks n2 [] _ from trivial).cons hd6 (Nat.le_refl _) (by simp)) fun W' hW' => ?_
 obtain ⟨y0, y1, y2, y3, y4, y5, y6, y7, y8, y9⟩ := (hb.marks hW').box
 dsimp only at y0 y1 y2 y3 y4 y5 y6 y7 y8 y9
 refine ⟨vP ⟨g, kd, [], ht, hv, hc, ix, tm, m, d⟩ none 0, by simp [results, Try.results41, go_sem, vP, y0, y1, y2, y3, y4, y5, y6, y7, y8, y9], ?_⟩
 rw [HR.out]
 exact ⟨none, 0, rfl, hr6.marks hW', hc6.marks hW', only_news ho6 hW' (fun q hq => by have := HH.out.h.lt; have := HH.out.n; have := hq.1; omega), HH.out.h.hi⟩
attribute [local go_sem] Oper.semAt_some
theorem BlkP.onlyPut {q : Prt} {A' : Option Addr} {c' B : Nat} {W : World} (_ : BlkP q A' c' B W) (p : Prt) (A : Option Addr) (c : Nat) : Only (fun q => q = B) W (putP W B p A c) := only_putP W B p A c
theorem and1i {n : Nat} (h : n < 9223372036854775808) : Go.bits .and .i64 (n : Int) 1 = ((n % 2 : Nat) : Int) := by
  have := bits_mask .i64 63 (by decide) (fun m h0 h1 => by rw [IntKind.wrap_i64]; omega) 1 (by omega) (n : Int) (by omega) (by omega)
  exact this
theorem and2i {n : Nat} (h : n < 9223372036854775808) : Go.bits .and .i64 (n : Int) 2 = ((n &&& 2 : Nat) : Int) :=
  (bits_nat .i64 63 (by decide) (fun m h0 h1 => by rw [IntKind.wrap_i64]; omega) n 2 (by omega) (by omega)).1
theorem and2_le (n : Nat) : n &&& 2 = 0 ∨ n &&& 2 = 2 := by
  have h : (n &&& 2) = ((n / 2) % 2) * 2 := by
    apply Nat.eq_of_testBit_eq
    intro i
    rw [Nat.testBit_and]
    rcases i with _ | _ | i
    · simp [Nat.testBit_zero]
    · simp [Nat.testBit_succ, Nat.testBit_zero]
    · simp [Nat.testBit_succ]
  rcases Nat.mod_two_eq_zero_or_one (n / 2) with h1 | h1 <;> rw [h1] at h <;> simp at h <;> omega
theorem flag1 {n : Nat} (h : n < 9223372036854775808) : (Go.bits .and .i64 (n : Int) 1 != 0) = bit1 n := by
  unfold bit1
  rw [and1i h]
  rcases Nat.mod_two_eq_zero_or_one n with h1 | h1 <;> rw [h1] <;> rfl
theorem flag2 {n : Nat} (h : n < 9223372036854775808) : (Go.bits .and .i64 (n : Int) 2 != 0) = bit2 n := by
  have h1 := and2i h
  unfold bit2
  rw [h1]
  rcases and2_le n with h2 | h2 <;> rw [h2] <;> rfl
theorem part_t4 (s : ByteArray) (i e B n0 nP n2 : Nat) (g kd ht hv hc ix tm : Int) (m d : Bool) (w W : World) (C : Code) (hC : (match Try.f41.body with | some (.seq _ (.seq _ (.seq _ (.seq _ (.seq _ c))))) => c | _ => .skip) = C) (u4 u5 u6 u7 u8 u9 u10 u11 u12 u13 u14 u15 u16 u17 u18 u19 u20 u21 u22 u23 u24 u25 u26 u27 u28 u29 u30 u31 u32 u33 u34 u35 u36 u37 u38 u39 u40 u41 u42 u43 u44 u45 u46 u47 u48 u49 u50 u51 u52 u53 u54 u55 u56 u57 u58 u59 u60 u61 u62 u63 u64 u65 u66 u67 u68 u69 : Value) (hh : PCd s i e B n0 ⟨g, kd, [], ht, hv, hc, ix, tm, m, d⟩ none 0 nP n2 w W) : C.wp Try.prog (bodyPostR Fence.wide 0 Try.prog Try.f41 (fun r w' => ∃ A c, r = .returned (vP (lastR s ⟨g, kd, [], ht, hv, hc, ix, tm, m, d⟩ (i, e)).1 A c) ∧ Rd w' A c (lastR s ⟨g, kd, [], ht, hv, hc, ix, tm, m, d⟩ (i, e)).1.l ∧ BlkC 68 s (lastR s ⟨g, kd, [], ht, hv, hc, ix, tm, m, d⟩ (i, e)).2.1 (lastR s ⟨g, kd, [], ht, hv, hc, ix, tm, m, d⟩ (i, e)).2.2 B w' ∧ Only (fun q => q = B) w w' ∧ (lastR s ⟨g, kd, [], ht, hv, hc, ix, tm, m, d⟩ (i, e)).2.1 ≤ s.size)) { tmps := #[.pointer (some ⟨B, 0, none⟩), .pointer (some ⟨n0, 0, none⟩), .pointer (some ⟨n0 + 1, 0, none⟩), .pointer (some ⟨nP, 0, none⟩), u4, u5, u6, u7, u8, u9, u10, u11, u12, u13, u14, u15, u16, u17, u18, u19, u20, u21, u22, u23, u24, u25, u26, u27, u28, u29, u30, u31, u32, u33, u34, u35, u36, u37, u38, u39, u40, u41, u42, u43, u44, u45, u46, u47, u48, u49, u50, u51, u52, u53, u54, u55, u56, u57, u58, u59, u60, u61, u62, u63, u64, u65, u66, u67, u68, u69], defers := [{ target := .collected n2, args := #[] }] } W := by
  by_cases h1 : kd = 1
  · subst h1; exact part_t4_1 s i e B n0 nP n2 g ht hv hc ix tm m d w W C hC u4 u5 u6 u7 u8 u9 u10 u11 u12 u13 u14 u15 u16 u17 u18 u19 u20 u21 u22 u23 u24 u25 u26 u27 u28 u29 u30 u31 u32 u33 u34 u35 u36 u37 u38 u39 u40 u41 u42 u43 u44 u45 u46 u47 u48 u49 u50 u51 u52 u53 u54 u55 u56 u57 u58 u59 u60 u61 u62 u63 u64 u65 u66 u67 u68 u69 hh
  · by_cases h6 : kd = 6
    · subst h6; exact part_t4_6 s i e B n0 nP n2 g ht hv hc ix tm m d w W C hC u4 u5 u6 u7 u8 u9 u10 u11 u12 u13 u14 u15 u16 u17 u18 u19 u20 u21 u22 u23 u24 u25 u26 u27 u28 u29 u30 u31 u32 u33 u34 u35 u36 u37 u38 u39 u40 u41 u42 u43 u44 u45 u46 u47 u48 u49 u50 u51 u52 u53 u54 u55 u56 u57 u58 u59 u60 u61 u62 u63 u64 u65 u66 u67 u68 u69 hh
    · exact part_t4_0 s i e B n0 nP n2 g kd ht hv hc ix tm m d w W C hC u4 u5 u6 u7 u8 u9 u10 u11 u12 u13 u14 u15 u16 u17 u18 u19 u20 u21 u22 u23 u24 u25 u26 u27 u28 u29 u30 u31 u32 u33 u34 u35 u36 u37 u38 u39 u40 u41 u42 u43 u44 u45 u46 u47 u48 u49 u50 u51 u52 u53 u54 u55 u56 u57 u58 u59 u60 u61 u62 u63 u64 u65 u66 u67 u68 u69 hh h1 h6
set_option maxHeartbeats 4000000 in
set_option maxRecDepth 100000 in
theorem part_t3 (s : ByteArray) (i e B n0 nP : Nat) (g kd ht hv hc ix tm : Int) (m d : Bool) (w W : World) (C : Code) (hC : (match Try.f41.body with | some (.seq _ (.seq _ (.seq _ (.seq _ c)))) => c | _ => .skip) = C) (u4 u5 u6 u7 u8 u9 u10 u11 u12 u13 u14 u15 u16 u17 u18 u19 u20 u21 u22 u23 u24 u25 u26 u27 u28 u29 u30 u31 u32 u33 u34 u35 u36 u37 u38 u39 u40 u41 u42 u43 u44 u45 u46 u47 u48 u49 u50 u51 u52 u53 u54 u55 u56 u57 u58 u59 u60 u61 u62 u63 u64 u65 u66 u67 u68 u69 : Value) (hh : PCt s i e B n0 ⟨g, kd, [], ht, hv, hc, ix, tm, m, d⟩ none 0 nP w W) :
  C.wp Try.prog (bodyPostR Fence.wide 0 Try.prog Try.f41 (fun r w' => ∃ A c, r = .returned (vP (lastR s (midR s ⟨g, kd, [], ht, hv, hc, ix, tm, m, d⟩ (i, e)).1 (midR s ⟨g, kd, [], ht, hv, hc, ix, tm, m, d⟩ (i, e)).2).1 A c) ∧ Rd w' A c (lastR s (midR s ⟨g, kd, [], ht, hv, hc, ix, tm, m, d⟩ (i, e)).1 (midR s ⟨g, kd, [], ht, hv, hc, ix, tm, m, d⟩ (i, e)).2).1.l ∧ BlkC 68 s (lastR s (midR s ⟨g, kd, [], ht, hv, hc, ix, tm, m, d⟩ (i, e)).1 (midR s ⟨g, kd, [], ht, hv, hc, ix, tm, m, d⟩ (i, e)).2).2.1 (lastR s (midR s ⟨g, kd, [], ht, hv, hc, ix, tm, m, d⟩ (i, e)).1 (midR s ⟨g, kd, [], ht, hv, hc, ix, tm, m, d⟩ (i, e)).2).2.2 B w' ∧ Only (fun q => q = B) w w' ∧ (lastR s (midR s ⟨g, kd, [], ht, hv, hc, ix, tm, m, d⟩ (i, e)).1 (midR s ⟨g, kd, [], ht, hv, hc, ix, tm, m, d⟩ (i, e)).2).2.1 ≤ s.size)) { tmps := #[.pointer (some ⟨B, 0, none⟩), .pointer (some ⟨n0, 0, none⟩), .pointer (some ⟨n0 + 1, 0, none⟩), .pointer (some ⟨nP, 0, none⟩), u4, u5, u6, u7, u8, u9, u10, u11, u12, u13, u14, u15, u16, u17, u18, u19, u20, u21, u22, u23, u24, u25, u26, u27, u28, u29, u30, u31, u32, u33, u34, u35, u36, u37, u38, u39, u40, u41, u42, u43, u44, u45, u46, u47, u48, u49, u50, u51, u52, u53, u54, u55, u56, u57, u58, u59, u60, u61, u62, u63, u64, u65, u66, u67, u68, u69], defers := [] } W := by
 have HH := Aside0.mk hh
 clear hh
 simp only [Try.f41] at hC
 subst hC
 obtain ⟨C5, hC5⟩ : ∃ C, (match Try.f41.body with | some (.seq _ (.seq _ (.seq _ (.seq _ (.seq _ c))))) => c | _ => .skip) = C := ⟨_, rfl⟩
 have HC5 := Aside0.mk hC5
 simp only [Try.f41] at hC5
 rw [hC5]
 clear hC5
 go_wp2_with fail
 go_at_call 24
 refine ((callsIn_wide (n := 0)).1 (numbers_calls ⟨nP, 0, none⟩ _)).mono ?_
 rintro r w1 ⟨rfl, rfl⟩
 obtain ⟨Bp, hBp⟩ : ∃ x, W.heap.size = x := ⟨_, rfl⟩
 have hbx := Boxed.new W 57 (.pointer (some ⟨nP, 0, none⟩))
 rw [hBp] at hbx ⊢
 have hlt : nP < Bp := by rw [← hBp]; exact HH.out.hp.lt'
 replace HH := Aside0.mk (HH.out.alloc (.cells #[.pointer (some ⟨nP, 0, none⟩)] 57))
 have hsz : (W.alloc (.cells #[.pointer (some ⟨nP, 0, none⟩)] 57)).heap.size = Bp + 1 := by rw [World.size_alloc, hBp]
 obtain ⟨W1, hW⟩ : ∃ X, W.alloc (.cells #[.pointer (some ⟨nP, 0, none⟩)] 57) = X := ⟨_, rfl⟩
 rw [hW] at hbx HH hsz ⊢
 clear hW hBp
 go_wp2_with fail
 refine (wpIn_wide (n := 0)).1 ?_
 refine range_outer3 (gf := 48) (lb := #[.pointer (some ⟨Bp, 0, none⟩)]) rfl (enters_of Try.func48 (by kernel_rfl) rfl) (numbers_iter nP Bp kd m d W1 hbx) (fun q h => h.elim) (fun q h => by rw [hsz]; have h2 : q = Bp := h; omega) (fun _ => rfl)
   (fun k X => ∃ p' i' e', (midR s ⟨g, kd, [], ht, hv, hc, ix, tm, m, d⟩ (i, e)) = numsR s ((numA nP (atK kd m) (hdK kd d)).drop k) p' (i', e') ∧ p'.k = kd ∧ p'.mrk = m ∧ p'.hed = d ∧ p'.l = [] ∧ p'.g = g ∧ PCt s i' e' B n0 p' none 0 nP w X)
   (fun _ _ _ => False) ?hI (fun _ _ _ _ h _ => h) ?hC ?h0
   (fun x a' _ => a' = { tmps := #[.pointer (some ⟨B, 0, none⟩), .pointer (some ⟨n0, 0, none⟩), .pointer (some ⟨n0 + 1, 0, none⟩), .pointer (some ⟨nP, 0, none⟩), u4, .pointer (some x), u6, u7, u8, u9, u10, u11, u12, u13, u14, u15, u16, u17, u18, u19, u20, u21, u22, u23, u24, u25, u26, u27, u28, u29, u30, u31, u32, u33, u34, u35, u36, u37, u38, u39, u40, u41, u42, .func (.func 48) #[] #[.pointer (some ⟨Bp, 0, none⟩)], .pointer (some x), u45, u46, u47, u48, u49, u50, u51, u52, u53, u54, u55, u56, u57, u58, u59, u60, u61, u62, u63, u64, u65, u66, u67, u68, u69], defers := [] }) (fun _ _ _ _ h _ => h) ?assign ?body ?done ?stop
 case hI =>
   rintro k X Y ⟨p', i', e', h1, h2, h3, h4, h5, h6, hh⟩ ho
   exact ⟨p', i', e', h1, h2, h3, h4, h5, h6, hh.only ho (fun q hq => by rw [hsz] at hq; rcases hq with h | h | h; exact h.elim; omega; omega)⟩
 case hC =>
   rintro k X ⟨p', i', e', h1, h2, h3, h4, h5, h6, hh⟩
   obtain ⟨y0, y1, y2, y3, y4, y5, y6, y7, y8, y9⟩ := hh.hp.box
   exact ⟨by rw [← h2]; exact y1, by rw [← h3]; exact y8, by rw [← h4]; exact y9⟩
 case h0 => exact ⟨_, i, e, by unfold midR; rw [List.drop_zero]; exact (numsR_any s nP _ _ _ _).symm, rfl, rfl, rfl, rfl, rfl, HH.out⟩
 case assign =>
   rintro l j x W' K hx hi' hsz' hK
   gi_wp2
   exact hK _ _ (Keeps.refl _ _) hi' rfl
 case body =>
   rintro l k x a' X hx rfl ⟨q, hq⟩ ⟨p', i', e', h1, h2, h3, h4, h5, h6, hh⟩ rfl
   rw [numsR_drop s hx] at h1
   obtain ⟨o, rfl, ho3, ho7⟩ := numA_mem hx
   obtain ⟨a1, b1, c1, hn⟩ : ∃ a b c, numR s (i', e') = (a, (b, c)) := ⟨_, _, _, rfl⟩
   rw [hn] at h1
   have EN := Aside0.mk hn
   have H1 := Aside0.mk (And.intro h1 (And.intro h2 (And.intro h3 (And.intro h4 (And.intro h5 h6)))))
   have HX := Aside0.mk hh
   have HSZ := Aside0.mk hsz
   have HLT := Aside0.mk hlt
   have HOO := Aside0.mk (And.intro ho3 ho7)
   obtain ⟨v0, hv0⟩ := hh.hp.cellA ⟨ho3, ho7⟩
   have x0 := hh.hx.cell
   clear hn h1 h2 h3 h4 h5 h6 hh hx hq hbx hsz hlt HH ho3 ho7 hv0
   gi_wp2_with (refine ⟨trivial, rfl, ?_⟩; gi_at_call 49; refine (CallsIn.inRound _ ((callsIn_wide (n := 0)).2 (rdn s i' e' B _ HX.out.hc HX.out.hs HX.out.hi EN.out))).mono ?_; rintro r w2 ⟨rfl, hc', ho, hi⟩; have HK := Aside0.mk (ho.keeps (V := fun q => q = B) (U := fun q => q = Bp ∨ q = W1.heap.size ∨ q = W1.heap.size + 1) (fun q _ hv h => by have h3 : q = B := h; have h4 := HX.out.lt; have h5 := HLT.out; have h6 := HSZ.out; omega)); replace HX := Aside0.mk (HX.out.call hc' ho hi); clear hc' ho hi; obtain ⟨v1, hv1⟩ := HX.out.hp.cellA HOO.out; have yf := HX.out.hp.free')
   obtain ⟨g1, g2, g3, g4, g5, g6⟩ := H1.out
   have hk := setA_k p' o (a1 : Int)
   refine ⟨HK.out.trans (Keeps.setCell _ _ (fun h => by have h3 : nP = Bp ∨ nP = W1.heap.size ∨ nP = W1.heap.size + 1 := h; have h5 := HLT.out; have h6 := HSZ.out; omega) _), _, b1, c1, g1, hk.1.trans g2, hk.2.1.trans g3, hk.2.2.1.trans g4, hk.2.2.2.1.trans g5, hk.2.2.2.2.trans g6, HX.out.setA HOO.out _⟩
 case done =>
   rintro X ⟨p', i', e', h1, h2, h3, h4, h5, h6, hh⟩ hD
   rw [List.drop_of_length_le (Nat.le_refl _)] at h1
   obtain ⟨g', k', l', ht', hv', hc', ix', tm', m', d'⟩ := p'
   dsimp only at h2 h3 h4 h5 h6
   subst h2
   subst h3
   subst h4
   subst h5
   subst h6
   have HD : Aside0 (PCd s i' e' B n0 ⟨g', k', [], ht', hv', hc', ix', tm', m', d'⟩ none 0 nP W1.heap.size w X) := ⟨hh, hD, by rw [hsz]; omega⟩
   unfold numsR at h1
   have HE : Aside0 ((lastR s (midR s ⟨g', k', [], ht, hv, hc, ix, tm, m', d'⟩ (i, e)).1 (midR s ⟨g', k', [], ht, hv, hc, ix, tm, m', d'⟩ (i, e)).2) = lastR s ⟨g', k', [], ht', hv', hc', ix', tm', m', d'⟩ (i', e')) := ⟨by rw [h1]⟩
   clear h1 hD hh hbx hsz hlt HH
   go_wp2_with fail
   have h9 := part_t4 s i' e' B n0 nP W1.heap.size g' k' ht' hv' hc' ix' tm' m' d' w X C5 HC5.out u4 u5 u6 u7 u8 u9 u10 u11 u12 u13 u14 u15 u16 u17 u18 u19 u20 u21 u22 u23 u24 u25 u26 u27 u28 u29 u30 u31 u32 u33 u34 u35 u36 u37 u38 u39 u40 u41 u42 (.func (.func 48) #[] #[.pointer (some ⟨Bp, 0, none⟩)]) u44 u45 u46 u47 u48 u49 u50 u51 u52 u53 u54 u55 u56 u57 u58 u59 u60 u61 u62 u63 u64 u65 u66 u67 u68 u69 HD.out
   rw [← HE.out] at h9
   exact h9
 case stop => exact fun _ _ _ _ _ h => h.elim
set_option maxHeartbeats 4000000 in
set_option maxRecDepth 100000 in
theorem part_t2_0 (s : ByteArray) (i e B n0 nP : Nat) (g kd : Int) (w W : World) (C : Code) (hC : (match Try.f41.body with | some (.seq _ (.seq _ (.seq _ c))) => c | _ => .skip) = C) (u4 u5 u6 u7 u8 u9 u10 u11 u12 u13 u14 u15 u16 u17 u18 u19 u20 u21 u22 u23 u24 u25 u26 u27 u28 u29 u30 u31 u32 u33 u34 u35 u36 u37 u38 u39 u40 u41 u42 u43 u44 u45 u46 u47 u48 u49 u50 u51 u52 u53 u54 u55 u56 u57 u58 u59 u60 u61 u62 u63 u64 u65 u66 u67 u68 u69 : Value) (hh : PCt s i e B n0 ⟨g, kd, [], 0, 0, 0, 0, 0, false, false⟩ none 0 nP w W) (hk : kd ≠ 6) :
  C.wp Try.prog (bodyPostR Fence.wide 0 Try.prog Try.f41 (fun r w' => ∃ A c, r = .returned (vP (lastR s (midR s (flagR s ⟨g, kd, [], 0, 0, 0, 0, 0, false, false⟩ (i, e)).1 (flagR s ⟨g, kd, [], 0, 0, 0, 0, 0, false, false⟩ (i, e)).2).1 (midR s (flagR s ⟨g, kd, [], 0, 0, 0, 0, 0, false, false⟩ (i, e)).1 (flagR s ⟨g, kd, [], 0, 0, 0, 0, 0, false, false⟩ (i, e)).2).2).1 A c) ∧ Rd w' A c (lastR s (midR s (flagR s ⟨g, kd, [], 0, 0, 0, 0, 0, false, false⟩ (i, e)).1 (flagR s ⟨g, kd, [], 0, 0, 0, 0, 0, false, false⟩ (i, e)).2).1 (midR s (flagR s ⟨g, kd, [], 0, 0, 0, 0, 0, false, false⟩ (i, e)).1 (flagR s ⟨g, kd, [], 0, 0, 0, 0, 0, false, false⟩ (i, e)).2).2).1.l ∧ BlkC 68 s (lastR s (midR s (flagR s ⟨g, kd, [], 0, 0, 0, 0, 0, false, false⟩ (i, e)).1 (flagR s ⟨g, kd, [], 0, 0, 0, 0, 0, false, false⟩ (i, e)).2).1 (midR s (flagR s ⟨g, kd, [], 0, 0, 0, 0, 0, false, false⟩ (i, e)).1 (flagR s ⟨g, kd, [], 0, 0, 0, 0, 0, false, false⟩ (i, e)).2).2).2.1 (lastR s (midR s (flagR s ⟨g, kd, [], 0, 0, 0, 0, 0, false, false⟩ (i, e)).1 (flagR s ⟨g, kd, [], 0, 0, 0, 0, 0, false, false⟩ (i, e)).2).1 (midR s (flagR s ⟨g, kd, [], 0, 0, 0, 0, 0, false, false⟩ (i, e)).1 (flagR s ⟨g, kd, [], 0, 0, 0, 0, 0, false, false⟩ (i, e)).2).2).2.2 B w' ∧ Only (fun q => q = B) w w' ∧ (lastR s (midR s (flagR s ⟨g, kd, [], 0, 0, 0, 0, 0, false, false⟩ (i, e)).1 (flagR s ⟨g, kd, [], 0, 0, 0, 0, 0, false, false⟩ (i, e)).2).1 (midR s (flagR s ⟨g, kd, [], 0, 0, 0, 0, 0, false, false⟩ (i, e)).1 (flagR s ⟨g, kd, [], 0, 0, 0, 0, 0, false, false⟩ (i, e)).2).2).2.1 ≤ s.size)) { tmps := #[.pointer (some ⟨B, 0, none⟩), .pointer (some ⟨n0, 0, none⟩), .pointer (some ⟨n0 + 1, 0, none⟩), .pointer (some ⟨nP, 0, none⟩), u4, u5, u6, u7, u8, u9, u10, u11, u12, u13, u14, u15, u16, u17, u18, u19, u20, u21, u22, u23, u24, u25, u26, u27, u28, u29, u30, u31, u32, u33, u34, u35, u36, u37, u38, u39, u40, u41, u42, u43, u44, u45, u46, u47, u48, u49, u50, u51, u52, u53, u54, u55, u56, u57, u58, u59, u60, u61, u62, u63, u64, u65, u66, u67, u68, u69], defers := [] } W := by
 have HH := Aside0.mk hh
 clear hh
 simp only [Try.f41] at hC
 subst hC
 obtain ⟨C4, hC4⟩ : ∃ C, (match Try.f41.body with | some (.seq _ (.seq _ (.seq _ (.seq _ c)))) => c | _ => .skip) = C := ⟨_, rfl⟩
 have HC4 := Aside0.mk hC4
 simp only [Try.f41] at hC4
 rw [hC4]
 clear hC4
 have k6 : (kd == 6) = false := beq_eq_false_iff_ne.2 hk
 have HR : Aside0 (flagR s ⟨g, kd, [], 0, 0, 0, 0, 0, false, false⟩ (i, e) = (⟨g, kd, [], 0, 0, 0, 0, 0, false, false⟩, (i, e))) := ⟨by unfold flagR; rw [if_neg hk]⟩
 clear hk
 rw [HR.out]
 obtain ⟨y0, y1, y2, y3, y4, y5, y6, y7, y8, y9⟩ := HH.out.hp.box
 have x0 := HH.out.hx.cell
 have yf := HH.out.hp.free'
 dsimp only at y0 y1 y2 y3 y4 y5 y6 y7 y8 y9
 go_wp2_with fail
 exact part_t3 s i e B n0 nP g kd 0 0 0 0 0 false false w W C4 HC4.out _ _ _ _ _ _ _ _ _ _ _ _ _ _ _ _ _ _ _ _ _ _ _ _ _ _ _ _ _ _ _ _ _ _ _ _ _ _ _ _ _ _ _ _ _ _ _ _ _ _ _ _ _ _ _ _ _ _ _ _ _ _ _ _ _ _ HH.out
set_option maxHeartbeats 4000000 in
set_option maxRecDepth 100000 in
theorem part_t2_6 (s : ByteArray) (i e B n0 nP : Nat) (g : Int) (w W : World) (C : Code) (hC : (match Try.f41.body with | some (.seq _ (.seq _ (.seq _ c))) => c | _ => .skip) = C) (u4 u5 u6 u7 u8 u9 u10 u11 u12 u13 u14 u15 u16 u17 u18 u19 u20 u21 u22 u23 u24 u25 u26 u27 u28 u29 u30 u31 u32 u33 u34 u35 u36 u37 u38 u39 u40 u41 u42 u43 u44 u45 u46 u47 u48 u49 u50 u51 u52 u53 u54 u55 u56 u57 u58 u59 u60 u61 u62 u63 u64 u65 u66 u67 u68 u69 : Value) (hh : PCt s i e B n0 ⟨g, 6, [], 0, 0, 0, 0, 0, false, false⟩ none 0 nP w W) :
  C.wp Try.prog (bodyPostR Fence.wide 0 Try.prog Try.f41 (fun r w' => ∃ A c, r = .returned (vP (lastR s (midR s (flagR s ⟨g, 6, [], 0, 0, 0, 0, 0, false, false⟩ (i, e)).1 (flagR s ⟨g, 6, [], 0, 0, 0, 0, 0, false, false⟩ (i, e)).2).1 (midR s (flagR s ⟨g, 6, [], 0, 0, 0, 0, 0, false, false⟩ (i, e)).1 (flagR s ⟨g, 6, [], 0, 0, 0, 0, 0, false, false⟩ (i, e)).2).2).1 A c) ∧ Rd w' A c (lastR s (midR s (flagR s ⟨g, 6, [], 0, 0, 0, 0, 0, false, false⟩ (i, e)).1 (flagR s ⟨g, 6, [], 0, 0, 0, 0, 0, false, false⟩ (i, e)).2).1 (midR s (flagR s ⟨g, 6, [], 0, 0, 0, 0, 0, false, false⟩ (i, e)).1 (flagR s ⟨g, 6, [], 0, 0, 0, 0, 0, false, false⟩ (i, e)).2).2).1.l ∧ BlkC 68 s (lastR s (midR s (flagR s ⟨g, 6, [], 0, 0, 0, 0, 0, false, false⟩ (i, e)).1 (flagR s ⟨g, 6, [], 0, 0, 0, 0, 0, false, false⟩ (i, e)).2).1 (midR s (flagR s ⟨g, 6, [], 0, 0, 0, 0, 0, false, false⟩ (i, e)).1 (flagR s ⟨g, 6, [], 0, 0, 0, 0, 0, false, false⟩ (i, e)).2).2).2.1 (lastR s (midR s (flagR s ⟨g, 6, [], 0, 0, 0, 0, 0, false, false⟩ (i, e)).1 (flagR s ⟨g, 6, [], 0, 0, 0, 0, 0, false, false⟩ (i, e)).2).1 (midR s (flagR s ⟨g, 6, [], 0, 0, 0, 0, 0, false, false⟩ (i, e)).1 (flagR s ⟨g, 6, [], 0, 0, 0, 0, 0, false, false⟩ (i, e)).2).2).2.2 B w' ∧ Only (fun q => q = B) w w' ∧ (lastR s (midR s (flagR s ⟨g, 6, [], 0, 0, 0, 0, 0, false, false⟩ (i, e)).1 (flagR s ⟨g, 6, [], 0, 0, 0, 0, 0, false, false⟩ (i, e)).2).1 (midR s (flagR s ⟨g, 6, [], 0, 0, 0, 0, 0, false, false⟩ (i, e)).1 (flagR s ⟨g, 6, [], 0, 0, 0, 0, 0, false, false⟩ (i, e)).2).2).2.1 ≤ s.size)) { tmps := #[.pointer (some ⟨B, 0, none⟩), .pointer (some ⟨n0, 0, none⟩), .pointer (some ⟨n0 + 1, 0, none⟩), .pointer (some ⟨nP, 0, none⟩), u4, u5, u6, u7, u8, u9, u10, u11, u12, u13, u14, u15, u16, u17, u18, u19, u20, u21, u22, u23, u24, u25, u26, u27, u28, u29, u30, u31, u32, u33, u34, u35, u36, u37, u38, u39, u40, u41, u42, u43, u44, u45, u46, u47, u48, u49, u50, u51, u52, u53, u54, u55, u56, u57, u58, u59, u60, u61, u62, u63, u64, u65, u66, u67, u68, u69], defers := [] } W := by
 have HH := Aside0.mk hh
 clear hh
 simp only [Try.f41] at hC
 subst hC
 obtain ⟨C4, hC4⟩ : ∃ C, (match Try.f41.body with | some (.seq _ (.seq _ (.seq _ (.seq _ c)))) => c | _ => .skip) = C := ⟨_, rfl⟩
 have HC4 := Aside0.mk hC4
 simp only [Try.f41] at hC4
 rw [hC4]
 clear hC4
 obtain ⟨a1, b1, c1, h1⟩ : ∃ a b c, upR s 3 (i, e) = (a, (b, c)) := ⟨_, _, _, rfl⟩
 have E1 := Aside0.mk h1
 have ha : a1 < 9223372036854775808 := by have h2 := (numR_ok s (st := (i, e)) HH.out.hi).1; have h3 : (upR s 3 (i, e)).1 = (numR s (i, e)).1 := rfl; rw [h1] at h3; rw [← h3] at h2; exact h2
 have m1 := flag1 ha
 have m2 := flag2 ha
 obtain ⟨bm, hbm⟩ : ∃ b, bit1 a1 = b := ⟨_, rfl⟩
 obtain ⟨bh, hbh⟩ : ∃ b, bit2 a1 = b := ⟨_, rfl⟩
 rw [hbm] at m1
 rw [hbh] at m2
 have HR : Aside0 (flagR s ⟨g, 6, [], 0, 0, 0, 0, 0, false, false⟩ (i, e) = (⟨g, 6, [], 0, 0, 0, 0, 0, bm, bh⟩, (b1, c1))) := ⟨by unfold flagR; rw [if_pos rfl]; dsimp only; rw [h1]; dsimp only; rw [hbm, hbh]⟩
 clear h1 ha hbm hbh
 rw [HR.out]
 obtain ⟨y0, y1, y2, y3, y4, y5, y6, y7, y8, y9⟩ := HH.out.hp.box
 have x0 := HH.out.hx.cell
 have yf := HH.out.hp.free'
 dsimp only at y0 y1 y2 y3 y4 y5 y6 y7 y8 y9
 go_wp2_with fail
 go_at_call 50
 refine (rdup s i e B _ HH.out.hc HH.out.hs HH.out.hi 3 E1.out).mono ?_
 rintro r w1 ⟨rfl, hc', ho, hi⟩
 replace HH := Aside0.mk (HH.out.call hc' ho hi)
 clear hc' ho hi
 clear y0 y1 y2 y3 y4 y5 y6 y7 y8 y9 x0 yf
 obtain ⟨y0, y1, y2, y3, y4, y5, y6, y7, y8, y9⟩ := HH.out.hp.box
 have x0 := HH.out.hx.cell
 have yf := HH.out.hp.free'
 dsimp only at y0 y1 y2 y3 y4 y5 y6 y7 y8 y9
 go_wp2_with fail
 clear y0 y1 y2 y3 y4 y5 y6 y7 y8 y9 x0 yf
 have hx : Only (fun q => q = nP) w1 ((w1.setCell ⟨nP, 8, none⟩ (.bool bm)).setCell ⟨nP, 9, none⟩ (.bool bh)) := ((Only.refl (fun q => q = nP) w1).setCell (p := ⟨nP, 8, none⟩) rfl _).setCell (p := ⟨nP, 9, none⟩) rfl _
 have hq := BlkP.set89 HH.out.hp bm bh
 have h9 := HH.out.upd hq hx
 exact part_t3 s b1 c1 B n0 nP g 6 0 0 0 0 0 bm bh w _ C4 HC4.out _ _ _ _ _ _ _ _ _ _ _ _ _ _ _ _ _ _ _ _ _ _ _ _ _ _ _ _ _ _ _ _ _ _ _ _ _ _ _ _ _ _ _ _ _ _ _ _ _ _ _ _ _ _ _ _ _ _ _ _ _ _ _ _ _ _ h9
theorem part_t2 (s : ByteArray) (i e B n0 nP : Nat) (g kd : Int) (w W : World) (C : Code) (hC : (match Try.f41.body with | some (.seq _ (.seq _ (.seq _ c))) => c | _ => .skip) = C) (u4 u5 u6 u7 u8 u9 u10 u11 u12 u13 u14 u15 u16 u17 u18 u19 u20 u21 u22 u23 u24 u25 u26 u27 u28 u29 u30 u31 u32 u33 u34 u35 u36 u37 u38 u39 u40 u41 u42 u43 u44 u45 u46 u47 u48 u49 u50 u51 u52 u53 u54 u55 u56 u57 u58 u59 u60 u61 u62 u63 u64 u65 u66 u67 u68 u69 : Value) (hh : PCt s i e B n0 ⟨g, kd, [], 0, 0, 0, 0, 0, false, false⟩ none 0 nP w W) : C.wp Try.prog (bodyPostR Fence.wide 0 Try.prog Try.f41 (fun r w' => ∃ A c, r = .returned (vP (lastR s (midR s (flagR s ⟨g, kd, [], 0, 0, 0, 0, 0, false, false⟩ (i, e)).1 (flagR s ⟨g, kd, [], 0, 0, 0, 0, 0, false, false⟩ (i, e)).2).1 (midR s (flagR s ⟨g, kd, [], 0, 0, 0, 0, 0, false, false⟩ (i, e)).1 (flagR s ⟨g, kd, [], 0, 0, 0, 0, 0, false, false⟩ (i, e)).2).2).1 A c) ∧ Rd w' A c (lastR s (midR s (flagR s ⟨g, kd, [], 0, 0, 0, 0, 0, false, false⟩ (i, e)).1 (flagR s ⟨g, kd, [], 0, 0, 0, 0, 0, false, false⟩ (i, e)).2).1 (midR s (flagR s ⟨g, kd, [], 0, 0, 0, 0, 0, false, false⟩ (i, e)).1 (flagR s ⟨g, kd, [], 0, 0, 0, 0, 0, false, false⟩ (i, e)).2).2).1.l ∧ BlkC 68 s (lastR s (midR s (flagR s ⟨g, kd, [], 0, 0, 0, 0, 0, false, false⟩ (i, e)).1 (flagR s ⟨g, kd, [], 0, 0, 0, 0, 0, false, false⟩ (i, e)).2).1 (midR s (flagR s ⟨g, kd, [], 0, 0, 0, 0, 0, false, false⟩ (i, e)).1 (flagR s ⟨g, kd, [], 0, 0, 0, 0, 0, false, false⟩ (i, e)).2).2).2.1 (lastR s (midR s (flagR s ⟨g, kd, [], 0, 0, 0, 0, 0, false, false⟩ (i, e)).1 (flagR s ⟨g, kd, [], 0, 0, 0, 0, 0, false, false⟩ (i, e)).2).1 (midR s (flagR s ⟨g, kd, [], 0, 0, 0, 0, 0, false, false⟩ (i, e)).1 (flagR s ⟨g, kd, [], 0, 0, 0, 0, 0, false, false⟩ (i, e)).2).2).2.2 B w' ∧ Only (fun q => q = B) w w' ∧ (lastR s (midR s (flagR s ⟨g, kd, [], 0, 0, 0, 0, 0, false, false⟩ (i, e)).1 (flagR s ⟨g, kd, [], 0, 0, 0, 0, 0, false, false⟩ (i, e)).2).1 (midR s (flagR s ⟨g, kd, [], 0, 0, 0, 0, 0, false, false⟩ (i, e)).1 (flagR s ⟨g, kd, [], 0, 0, 0, 0, 0, false, false⟩ (i, e)).2).2).2.1 ≤ s.size)) { tmps := #[.pointer (some ⟨B, 0, none⟩), .pointer (some ⟨n0, 0, none⟩), .pointer (some ⟨n0 + 1, 0, none⟩), .pointer (some ⟨nP, 0, none⟩), u4, u5, u6, u7, u8, u9, u10, u11, u12, u13, u14, u15, u16, u17, u18, u19, u20, u21, u22, u23, u24, u25, u26, u27, u28, u29, u30, u31, u32, u33, u34, u35, u36, u37, u38, u39, u40, u41, u42, u43, u44, u45, u46, u47, u48, u49, u50, u51, u52, u53, u54, u55, u56, u57, u58, u59, u60, u61, u62, u63, u64, u65, u66, u67, u68, u69], defers := [] } W := by
  by_cases h6 : kd = 6
  · subst h6; exact part_t2_6 s i e B n0 nP g w W C hC u4 u5 u6 u7 u8 u9 u10 u11 u12 u13 u14 u15 u16 u17 u18 u19 u20 u21 u22 u23 u24 u25 u26 u27 u28 u29 u30 u31 u32 u33 u34 u35 u36 u37 u38 u39 u40 u41 u42 u43 u44 u45 u46 u47 u48 u49 u50 u51 u52 u53 u54 u55 u56 u57 u58 u59 u60 u61 u62 u63 u64 u65 u66 u67 u68 u69 hh
  · exact part_t2_0 s i e B n0 nP g kd w W C hC u4 u5 u6 u7 u8 u9 u10 u11 u12 u13 u14 u15 u16 u17 u18 u19 u20 u21 u22 u23 u24 u25 u26 u27 u28 u29 u30 u31 u32 u33 u34 u35 u36 u37 u38 u39 u40 u41 u42 u43 u44 u45 u46 u47 u48 u49 u50 u51 u52 u53 u54 u55 u56 u57 u58 u59 u60 u61 u62 u63 u64 u65 u66 u67 u68 u69 hh h6
set_option maxHeartbeats 4000000 in
set_option maxRecDepth 100000 in
theorem part_t1_e (s : ByteArray) (i e B n0 nP : Nat) (g kd : Int) (w W : World) (C : Code) (hC : (match Try.f41.body with | some (.seq _ (.seq _ c)) => c | _ => .skip) = C) (u4 u5 u6 u7 u8 u9 u10 u11 u12 u13 u14 u15 u16 u17 u18 u19 u20 u21 u22 u23 u24 u25 u26 u27 u28 u29 u30 u31 u32 u33 u34 u35 u36 u37 u38 u39 u40 u41 u42 u43 u44 u45 u46 u47 u48 u49 u50 u51 u52 u53 u54 u55 u56 u57 u58 u59 u60 u61 u62 u63 u64 u65 u66 u67 u68 u69 : Value) (hh : PCt s i e B n0 ⟨g, kd, [], 0, 0, 0, 0, 0, false, false⟩ none 0 nP w W) (he : e ≠ 0) :
  C.wp Try.prog (bodyPostR Fence.wide 0 Try.prog Try.f41 (fun r w' => ∃ A c, r = .returned (vP (lastR s (midR s (flagR s ⟨g, kd, [], 0, 0, 0, 0, 0, false, false⟩ (mustR (decide (1 ≤ kd ∧ kd ≤ 6)) (i, e))).1 (flagR s ⟨g, kd, [], 0, 0, 0, 0, 0, false, false⟩ (mustR (decide (1 ≤ kd ∧ kd ≤ 6)) (i, e))).2).1 (midR s (flagR s ⟨g, kd, [], 0, 0, 0, 0, 0, false, false⟩ (mustR (decide (1 ≤ kd ∧ kd ≤ 6)) (i, e))).1 (flagR s ⟨g, kd, [], 0, 0, 0, 0, 0, false, false⟩ (mustR (decide (1 ≤ kd ∧ kd ≤ 6)) (i, e))).2).2).1 A c) ∧ Rd w' A c (lastR s (midR s (flagR s ⟨g, kd, [], 0, 0, 0, 0, 0, false, false⟩ (mustR (decide (1 ≤ kd ∧ kd ≤ 6)) (i, e))).1 (flagR s ⟨g, kd, [], 0, 0, 0, 0, 0, false, false⟩ (mustR (decide (1 ≤ kd ∧ kd ≤ 6)) (i, e))).2).1 (midR s (flagR s ⟨g, kd, [], 0, 0, 0, 0, 0, false, false⟩ (mustR (decide (1 ≤ kd ∧ kd ≤ 6)) (i, e))).1 (flagR s ⟨g, kd, [], 0, 0, 0, 0, 0, false, false⟩ (mustR (decide (1 ≤ kd ∧ kd ≤ 6)) (i, e))).2).2).1.l ∧ BlkC 68 s (lastR s (midR s (flagR s ⟨g, kd, [], 0, 0, 0, 0, 0, false, false⟩ (mustR (decide (1 ≤ kd ∧ kd ≤ 6)) (i, e))).1 (flagR s ⟨g, kd, [], 0, 0, 0, 0, 0, false, false⟩ (mustR (decide (1 ≤ kd ∧ kd ≤ 6)) (i, e))).2).1 (midR s (flagR s ⟨g, kd, [], 0, 0, 0, 0, 0, false, false⟩ (mustR (decide (1 ≤ kd ∧ kd ≤ 6)) (i, e))).1 (flagR s ⟨g, kd, [], 0, 0, 0, 0, 0, false, false⟩ (mustR (decide (1 ≤ kd ∧ kd ≤ 6)) (i, e))).2).2).2.1 (lastR s (midR s (flagR s ⟨g, kd, [], 0, 0, 0, 0, 0, false, false⟩ (mustR (decide (1 ≤ kd ∧ kd ≤ 6)) (i, e))).1 (flagR s ⟨g, kd, [], 0, 0, 0, 0, 0, false, false⟩ (mustR (decide (1 ≤ kd ∧ kd ≤ 6)) (i, e))).2).1 (midR s (flagR s ⟨g, kd, [], 0, 0, 0, 0, 0, false, false⟩ (mustR (decide (1 ≤ kd ∧ kd ≤ 6)) (i, e))).1 (flagR s ⟨g, kd, [], 0, 0, 0, 0, 0, false, false⟩ (mustR (decide (1 ≤ kd ∧ kd ≤ 6)) (i, e))).2).2).2.2 B w' ∧ Only (fun q => q = B) w w' ∧ (lastR s (midR s (flagR s ⟨g, kd, [], 0, 0, 0, 0, 0, false, false⟩ (mustR (decide (1 ≤ kd ∧ kd ≤ 6)) (i, e))).1 (flagR s ⟨g, kd, [], 0, 0, 0, 0, 0, false, false⟩ (mustR (decide (1 ≤ kd ∧ kd ≤ 6)) (i, e))).2).1 (midR s (flagR s ⟨g, kd, [], 0, 0, 0, 0, 0, false, false⟩ (mustR (decide (1 ≤ kd ∧ kd ≤ 6)) (i, e))).1 (flagR s ⟨g, kd, [], 0, 0, 0, 0, 0, false, false⟩ (mustR (decide (1 ≤ kd ∧ kd ≤ 6)) (i, e))).2).2).2.1 ≤ s.size)) { tmps := #[.pointer (some ⟨B, 0, none⟩), .pointer (some ⟨n0, 0, none⟩), .pointer (some ⟨n0 + 1, 0, none⟩), .pointer (some ⟨nP, 0, none⟩), u4, u5, u6, u7, u8, u9, u10, u11, u12, u13, u14, u15, u16, u17, u18, u19, u20, u21, u22, u23, u24, u25, u26, u27, u28, u29, u30, u31, u32, u33, u34, u35, u36, u37, u38, u39, u40, u41, u42, u43, u44, u45, u46, u47, u48, u49, u50, u51, u52, u53, u54, u55, u56, u57, u58, u59, u60, u61, u62, u63, u64, u65, u66, u67, u68, u69], defers := [] } W := by
 have HH := Aside0.mk hh
 clear hh
 simp only [Try.f41] at hC
 subst hC
 obtain ⟨C3, hC3⟩ : ∃ C, (match Try.f41.body with | some (.seq _ (.seq _ (.seq _ c))) => c | _ => .skip) = C := ⟨_, rfl⟩
 have HC3 := Aside0.mk hC3
 simp only [Try.f41] at hC3
 rw [hC3]
 clear hC3
 have j1 : ((e : Int) == 0) = false := beq_eq_false_iff_ne.2 (by omega)
 have j2 : (e == 0) = false := beq_eq_false_iff_ne.2 he
 have HR : Aside0 (mustR (decide (1 ≤ kd ∧ kd ≤ 6)) (i, e) = (i, e)) := ⟨by unfold mustR; rw [if_neg (fun h => he h.1)]⟩
 clear he
 rw [HR.out]
 obtain ⟨y0, y1, y2, y3, y4, y5, y6, y7, y8, y9⟩ := HH.out.hp.box
 have x0 := HH.out.hx.cell
 have yf := HH.out.hp.free'
 dsimp only at y0 y1 y2 y3 y4 y5 y6 y7 y8 y9
 obtain ⟨q0, q1, q2⟩ := HH.out.hc.box
 have qf := HH.out.hc.free
 go_wp2_with fail
 clear y0 y1 y2 y3 y4 y5 y6 y7 y8 y9 x0 yf
 clear q0 q1 q2 qf
 exact part_t2 s i e B n0 nP g kd w W C3 HC3.out _ _ _ _ _ _ _ _ _ _ _ _ _ _ _ _ _ _ _ _ _ _ _ _ _ _ _ _ _ _ _ _ _ _ _ _ _ _ _ _ _ _ _ _ _ _ _ _ _ _ _ _ _ _ _ _ _ _ _ _ _ _ _ _ _ _ HH.out
set_option maxHeartbeats 4000000 in
set_option maxRecDepth 100000 in
theorem part_t1_lo (s : ByteArray) (i e B n0 nP : Nat) (g kd : Int) (w W : World) (C : Code) (hC : (match Try.f41.body with | some (.seq _ (.seq _ c)) => c | _ => .skip) = C) (u4 u5 u6 u7 u8 u9 u10 u11 u12 u13 u14 u15 u16 u17 u18 u19 u20 u21 u22 u23 u24 u25 u26 u27 u28 u29 u30 u31 u32 u33 u34 u35 u36 u37 u38 u39 u40 u41 u42 u43 u44 u45 u46 u47 u48 u49 u50 u51 u52 u53 u54 u55 u56 u57 u58 u59 u60 u61 u62 u63 u64 u65 u66 u67 u68 u69 : Value) (hh : PCt s i e B n0 ⟨g, kd, [], 0, 0, 0, 0, 0, false, false⟩ none 0 nP w W) (he : e = 0) (hk : kd < 1) :
  C.wp Try.prog (bodyPostR Fence.wide 0 Try.prog Try.f41 (fun r w' => ∃ A c, r = .returned (vP (lastR s (midR s (flagR s ⟨g, kd, [], 0, 0, 0, 0, 0, false, false⟩ (mustR (decide (1 ≤ kd ∧ kd ≤ 6)) (i, e))).1 (flagR s ⟨g, kd, [], 0, 0, 0, 0, 0, false, false⟩ (mustR (decide (1 ≤ kd ∧ kd ≤ 6)) (i, e))).2).1 (midR s (flagR s ⟨g, kd, [], 0, 0, 0, 0, 0, false, false⟩ (mustR (decide (1 ≤ kd ∧ kd ≤ 6)) (i, e))).1 (flagR s ⟨g, kd, [], 0, 0, 0, 0, 0, false, false⟩ (mustR (decide (1 ≤ kd ∧ kd ≤ 6)) (i, e))).2).2).1 A c) ∧ Rd w' A c (lastR s (midR s (flagR s ⟨g, kd, [], 0, 0, 0, 0, 0, false, false⟩ (mustR (decide (1 ≤ kd ∧ kd ≤ 6)) (i, e))).1 (flagR s ⟨g, kd, [], 0, 0, 0, 0, 0, false, false⟩ (mustR (decide (1 ≤ kd ∧ kd ≤ 6)) (i, e))).2).1 (midR s (flagR s ⟨g, kd, [], 0, 0, 0, 0, 0, false, false⟩ (mustR (decide (1 ≤ kd ∧ kd ≤ 6)) (i, e))).1 (flagR s ⟨g, kd, [], 0, 0, 0, 0, 0, false, false⟩ (mustR (decide (1 ≤ kd ∧ kd ≤ 6)) (i, e))).2).2).1.l ∧ BlkC 68 s (lastR s (midR s (flagR s ⟨g, kd, [], 0, 0, 0, 0, 0, false, false⟩ (mustR (decide (1 ≤ kd ∧ kd ≤ 6)) (i, e))).1 (flagR s ⟨g, kd, [], 0, 0, 0, 0, 0, false, false⟩ (mustR (decide (1 ≤ kd ∧ kd ≤ 6)) (i, e))).2).1 (midR s (flagR s ⟨g, kd, [], 0, 0, 0, 0, 0, false, false⟩ (mustR (decide (1 ≤ kd ∧ kd ≤ 6)) (i, e))).1 (flagR s ⟨g, kd, [], 0, 0, 0, 0, 0, false, false⟩ (mustR (decide (1 ≤ kd ∧ kd ≤ 6)) (i, e))).2).2).2.1 (lastR s (midR s (flagR s ⟨g, kd, [], 0, 0, 0, 0, 0, false, false⟩ (mustR (decide (1 ≤ kd ∧ kd ≤ 6)) (i, e))).1 (flagR s ⟨g, kd, [], 0, 0, 0, 0, 0, false, false⟩ (mustR (decide (1 ≤ kd ∧ kd ≤ 6)) (i, e))).2).1 (midR s (flagR s ⟨g, kd, [], 0, 0, 0, 0, 0, false, false⟩ (mustR (decide (1 ≤ kd ∧ kd ≤ 6)) (i, e))).1 (flagR s ⟨g, kd, [], 0, 0, 0, 0, 0, false, false⟩ (mustR (decide (1 ≤ kd ∧ kd ≤ 6)) (i, e))).2).2).2.2 B w' ∧ Only (fun q => q = B) w w' ∧ (lastR s (midR s (flagR s ⟨g, kd, [], 0, 0, 0, 0, 0, false, false⟩ (mustR (decide (1 ≤ kd ∧ kd ≤ 6)) (i, e))).1 (flagR s ⟨g, kd, [], 0, 0, 0, 0, 0, false, false⟩ (mustR (decide (1 ≤ kd ∧ kd ≤ 6)) (i, e))).2).1 (midR s (flagR s ⟨g, kd, [], 0, 0, 0, 0, 0, false, false⟩ (mustR (decide (1 ≤ kd ∧ kd ≤ 6)) (i, e))).1 (flagR s ⟨g, kd, [], 0, 0, 0, 0, 0, false, false⟩ (mustR (decide (1 ≤ kd ∧ kd ≤ 6)) (i, e))).2).2).2.1 ≤ s.size)) { tmps := #[.pointer (some ⟨B, 0, none⟩), .pointer (some ⟨n0, 0, none⟩), .pointer (some ⟨n0 + 1, 0, none⟩), .pointer (some ⟨nP, 0, none⟩), u4, u5, u6, u7, u8, u9, u10, u11, u12, u13, u14, u15, u16, u17, u18, u19, u20, u21, u22, u23, u24, u25, u26, u27, u28, u29, u30, u31, u32, u33, u34, u35, u36, u37, u38, u39, u40, u41, u42, u43, u44, u45, u46, u47, u48, u49, u50, u51, u52, u53, u54, u55, u56, u57, u58, u59, u60, u61, u62, u63, u64, u65, u66, u67, u68, u69], defers := [] } W := by
 have HH := Aside0.mk hh
 clear hh
 simp only [Try.f41] at hC
 subst hC
 obtain ⟨C3, hC3⟩ : ∃ C, (match Try.f41.body with | some (.seq _ (.seq _ (.seq _ c))) => c | _ => .skip) = C := ⟨_, rfl⟩
 have HC3 := Aside0.mk hC3
 simp only [Try.f41] at hC3
 rw [hC3]
 clear hC3
 have d1 : decide (kd < 1) = true := decide_eq_true hk
 subst he
 have j1 : (((0 : Nat) : Int) == 0) = true := rfl
 have HR : Aside0 (mustR (decide (1 ≤ kd ∧ kd ≤ 6)) (i, 0) = (i, 11)) := ⟨by unfold mustR; rw [if_pos ⟨rfl, decide_eq_false (by omega)⟩]⟩
 clear hk
 rw [HR.out]
 obtain ⟨y0, y1, y2, y3, y4, y5, y6, y7, y8, y9⟩ := HH.out.hp.box
 have x0 := HH.out.hx.cell
 have yf := HH.out.hp.free'
 dsimp only at y0 y1 y2 y3 y4 y5 y6 y7 y8 y9
 obtain ⟨q0, q1, q2⟩ := HH.out.hc.box
 have qf := HH.out.hc.free
 go_wp2_with fail
 clear y0 y1 y2 y3 y4 y5 y6 y7 y8 y9 x0 yf
 clear q0 q1 q2 qf
 have hx : Only (fun q => q = B) W (W.setCell ⟨B, 2, none⟩ (.int .i64 ((11 : Nat) : Int))) := (Only.refl (fun q => q = B) W).setCell (p := ⟨B, 2, none⟩) rfl _
 have h9 := HH.out.call (HH.out.hc.set2 11) hx HH.out.hi
 exact part_t2 s i 11 B n0 nP g kd w _ C3 HC3.out _ _ _ _ _ _ _ _ _ _ _ _ _ _ _ _ _ _ _ _ _ _ _ _ _ _ _ _ _ _ _ _ _ _ _ _ _ _ _ _ _ _ _ _ _ _ _ _ _ _ _ _ _ _ _ _ _ _ _ _ _ _ _ _ _ _ h9
set_option maxHeartbeats 4000000 in
set_option maxRecDepth 100000 in
theorem part_t1_hi (s : ByteArray) (i e B n0 nP : Nat) (g kd : Int) (w W : World) (C : Code) (hC : (match Try.f41.body with | some (.seq _ (.seq _ c)) => c | _ => .skip) = C) (u4 u5 u6 u7 u8 u9 u10 u11 u12 u13 u14 u15 u16 u17 u18 u19 u20 u21 u22 u23 u24 u25 u26 u27 u28 u29 u30 u31 u32 u33 u34 u35 u36 u37 u38 u39 u40 u41 u42 u43 u44 u45 u46 u47 u48 u49 u50 u51 u52 u53 u54 u55 u56 u57 u58 u59 u60 u61 u62 u63 u64 u65 u66 u67 u68 u69 : Value) (hh : PCt s i e B n0 ⟨g, kd, [], 0, 0, 0, 0, 0, false, false⟩ none 0 nP w W) (he : e = 0) (hk : 6 < kd) :
  C.wp Try.prog (bodyPostR Fence.wide 0 Try.prog Try.f41 (fun r w' => ∃ A c, r = .returned (vP (lastR s (midR s (flagR s ⟨g, kd, [], 0, 0, 0, 0, 0, false, false⟩ (mustR (decide (1 ≤ kd ∧ kd ≤ 6)) (i, e))).1 (flagR s ⟨g, kd, [], 0, 0, 0, 0, 0, false, false⟩ (mustR (decide (1 ≤ kd ∧ kd ≤ 6)) (i, e))).2).1 (midR s (flagR s ⟨g, kd, [], 0, 0, 0, 0, 0, false, false⟩ (mustR (decide (1 ≤ kd ∧ kd ≤ 6)) (i, e))).1 (flagR s ⟨g, kd, [], 0, 0, 0, 0, 0, false, false⟩ (mustR (decide (1 ≤ kd ∧ kd ≤ 6)) (i, e))).2).2).1 A c) ∧ Rd w' A c (lastR s (midR s (flagR s ⟨g, kd, [], 0, 0, 0, 0, 0, false, false⟩ (mustR (decide (1 ≤ kd ∧ kd ≤ 6)) (i, e))).1 (flagR s ⟨g, kd, [], 0, 0, 0, 0, 0, false, false⟩ (mustR (decide (1 ≤ kd ∧ kd ≤ 6)) (i, e))).2).1 (midR s (flagR s ⟨g, kd, [], 0, 0, 0, 0, 0, false, false⟩ (mustR (decide (1 ≤ kd ∧ kd ≤ 6)) (i, e))).1 (flagR s ⟨g, kd, [], 0, 0, 0, 0, 0, false, false⟩ (mustR (decide (1 ≤ kd ∧ kd ≤ 6)) (i, e))).2).2).1.l ∧ BlkC 68 s (lastR s (midR s (flagR s ⟨g, kd, [], 0, 0, 0, 0, 0, false, false⟩ (mustR (decide (1 ≤ kd ∧ kd ≤ 6)) (i, e))).1 (flagR s ⟨g, kd, [], 0, 0, 0, 0, 0, false, false⟩ (mustR (decide (1 ≤ kd ∧ kd ≤ 6)) (i, e))).2).1 (midR s (flagR s ⟨g, kd, [], 0, 0, 0, 0, 0, false, false⟩ (mustR (decide (1 ≤ kd ∧ kd ≤ 6)) (i, e))).1 (flagR s ⟨g, kd, [], 0, 0, 0, 0, 0, false, false⟩ (mustR (decide (1 ≤ kd ∧ kd ≤ 6)) (i, e))).2).2).2.1 (lastR s (midR s (flagR s ⟨g, kd, [], 0, 0, 0, 0, 0, false, false⟩ (mustR (decide (1 ≤ kd ∧ kd ≤ 6)) (i, e))).1 (flagR s ⟨g, kd, [], 0, 0, 0, 0, 0, false, false⟩ (mustR (decide (1 ≤ kd ∧ kd ≤ 6)) (i, e))).2).1 (midR s (flagR s ⟨g, kd, [], 0, 0, 0, 0, 0, false, false⟩ (mustR (decide (1 ≤ kd ∧ kd ≤ 6)) (i, e))).1 (flagR s ⟨g, kd, [], 0, 0, 0, 0, 0, false, false⟩ (mustR (decide (1 ≤ kd ∧ kd ≤ 6)) (i, e))).2).2).2.2 B w' ∧ Only (fun q => q = B) w w' ∧ (lastR s (midR s (flagR s ⟨g, kd, [], 0, 0, 0, 0, 0, false, false⟩ (mustR (decide (1 ≤ kd ∧ kd ≤ 6)) (i, e))).1 (flagR s ⟨g, kd, [], 0, 0, 0, 0, 0, false, false⟩ (mustR (decide (1 ≤ kd ∧ kd ≤ 6)) (i, e))).2).1 (midR s (flagR s ⟨g, kd, [], 0, 0, 0, 0, 0, false, false⟩ (mustR (decide (1 ≤ kd ∧ kd ≤ 6)) (i, e))).1 (flagR s ⟨g, kd, [], 0, 0, 0, 0, 0, false, false⟩ (mustR (decide (1 ≤ kd ∧ kd ≤ 6)) (i, e))).2).2).2.1 ≤ s.size)) { tmps := #[.pointer (some ⟨B, 0, none⟩), .pointer (some ⟨n0, 0, none⟩), .pointer (some ⟨n0 + 1, 0, none⟩), .pointer (some ⟨nP, 0, none⟩), u4, u5, u6, u7, u8, u9, u10, u11, u12, u13, u14, u15, u16, u17, u18, u19, u20, u21, u22, u23, u24, u25, u26, u27, u28, u29, u30, u31, u32, u33, u34, u35, u36, u37, u38, u39, u40, u41, u42, u43, u44, u45, u46, u47, u48, u49, u50, u51, u52, u53, u54, u55, u56, u57, u58, u59, u60, u61, u62, u63, u64, u65, u66, u67, u68, u69], defers := [] } W := by
 have HH := Aside0.mk hh
 clear hh
 simp only [Try.f41] at hC
 subst hC
 obtain ⟨C3, hC3⟩ : ∃ C, (match Try.f41.body with | some (.seq _ (.seq _ (.seq _ c))) => c | _ => .skip) = C := ⟨_, rfl⟩
 have HC3 := Aside0.mk hC3
 simp only [Try.f41] at hC3
 rw [hC3]
 clear hC3
 have d1 : decide (kd < 1) = false := decide_eq_false (by omega)
 have d2 : decide (6 < kd) = true := decide_eq_true hk
 have d3 : decide (kd > 6) = true := d2
 subst he
 have j1 : (((0 : Nat) : Int) == 0) = true := rfl
 have HR : Aside0 (mustR (decide (1 ≤ kd ∧ kd ≤ 6)) (i, 0) = (i, 11)) := ⟨by unfold mustR; rw [if_pos ⟨rfl, decide_eq_false (by omega)⟩]⟩
 clear hk
 rw [HR.out]
 obtain ⟨y0, y1, y2, y3, y4, y5, y6, y7, y8, y9⟩ := HH.out.hp.box
 have x0 := HH.out.hx.cell
 have yf := HH.out.hp.free'
 dsimp only at y0 y1 y2 y3 y4 y5 y6 y7 y8 y9
 obtain ⟨q0, q1, q2⟩ := HH.out.hc.box
 have qf := HH.out.hc.free
 go_wp2_with fail
 clear y0 y1 y2 y3 y4 y5 y6 y7 y8 y9 x0 yf
 clear q0 q1 q2 qf
 have hx : Only (fun q => q = B) W (W.setCell ⟨B, 2, none⟩ (.int .i64 ((11 : Nat) : Int))) := (Only.refl (fun q => q = B) W).setCell (p := ⟨B, 2, none⟩) rfl _
 have h9 := HH.out.call (HH.out.hc.set2 11) hx HH.out.hi
 exact part_t2 s i 11 B n0 nP g kd w _ C3 HC3.out _ _ _ _ _ _ _ _ _ _ _ _ _ _ _ _ _ _ _ _ _ _ _ _ _ _ _ _ _ _ _ _ _ _ _ _ _ _ _ _ _ _ _ _ _ _ _ _ _ _ _ _ _ _ _ _ _ _ _ _ _ _ _ _ _ _ h9
set_option maxHeartbeats 4000000 in
set_option maxRecDepth 100000 in
theorem part_t1_ok (s : ByteArray) (i e B n0 nP : Nat) (g kd : Int) (w W : World) (C : Code) (hC : (match Try.f41.body with | some (.seq _ (.seq _ c)) => c | _ => .skip) = C) (u4 u5 u6 u7 u8 u9 u10 u11 u12 u13 u14 u15 u16 u17 u18 u19 u20 u21 u22 u23 u24 u25 u26 u27 u28 u29 u30 u31 u32 u33 u34 u35 u36 u37 u38 u39 u40 u41 u42 u43 u44 u45 u46 u47 u48 u49 u50 u51 u52 u53 u54 u55 u56 u57 u58 u59 u60 u61 u62 u63 u64 u65 u66 u67 u68 u69 : Value) (hh : PCt s i e B n0 ⟨g, kd, [], 0, 0, 0, 0, 0, false, false⟩ none 0 nP w W) (he : e = 0) (hk : 1 ≤ kd ∧ kd ≤ 6) :
  C.wp Try.prog (bodyPostR Fence.wide 0 Try.prog Try.f41 (fun r w' => ∃ A c, r = .returned (vP (lastR s (midR s (flagR s ⟨g, kd, [], 0, 0, 0, 0, 0, false, false⟩ (mustR (decide (1 ≤ kd ∧ kd ≤ 6)) (i, e))).1 (flagR s ⟨g, kd, [], 0, 0, 0, 0, 0, false, false⟩ (mustR (decide (1 ≤ kd ∧ kd ≤ 6)) (i, e))).2).1 (midR s (flagR s ⟨g, kd, [], 0, 0, 0, 0, 0, false, false⟩ (mustR (decide (1 ≤ kd ∧ kd ≤ 6)) (i, e))).1 (flagR s ⟨g, kd, [], 0, 0, 0, 0, 0, false, false⟩ (mustR (decide (1 ≤ kd ∧ kd ≤ 6)) (i, e))).2).2).1 A c) ∧ Rd w' A c (lastR s (midR s (flagR s ⟨g, kd, [], 0, 0, 0, 0, 0, false, false⟩ (mustR (decide (1 ≤ kd ∧ kd ≤ 6)) (i, e))).1 (flagR s ⟨g, kd, [], 0, 0, 0, 0, 0, false, false⟩ (mustR (decide (1 ≤ kd ∧ kd ≤ 6)) (i, e))).2).1 (midR s (flagR s ⟨g, kd, [], 0, 0, 0, 0, 0, false, false⟩ (mustR (decide (1 ≤ kd ∧ kd ≤ 6)) (i, e))).1 (flagR s ⟨g, kd, [], 0, 0, 0, 0, 0, false, false⟩ (mustR (decide (1 ≤ kd ∧ kd ≤ 6)) (i, e))).2).2).1.l ∧ BlkC 68 s (lastR s (midR s (flagR s ⟨g, kd, [], 0, 0, 0, 0, 0, false, false⟩ (mustR (decide (1 ≤ kd ∧ kd ≤ 6)) (i, e))).1 (flagR s ⟨g, kd, [], 0, 0, 0, 0, 0, false, false⟩ (mustR (decide (1 ≤ kd ∧ kd ≤ 6)) (i, e))).2).1 (midR s (flagR s ⟨g, kd, [], 0, 0, 0, 0, 0, false, false⟩ (mustR (decide (1 ≤ kd ∧ kd ≤ 6)) (i, e))).1 (flagR s ⟨g, kd, [], 0, 0, 0, 0, 0, false, false⟩ (mustR (decide (1 ≤ kd ∧ kd ≤ 6)) (i, e))).2).2).2.1 (lastR s (midR s (flagR s ⟨g, kd, [], 0, 0, 0, 0, 0, false, false⟩ (mustR (decide (1 ≤ kd ∧ kd ≤ 6)) (i, e))).1 (flagR s ⟨g, kd, [], 0, 0, 0, 0, 0, false, false⟩ (mustR (decide (1 ≤ kd ∧ kd ≤ 6)) (i, e))).2).1 (midR s (flagR s ⟨g, kd, [], 0, 0, 0, 0, 0, false, false⟩ (mustR (decide (1 ≤ kd ∧ kd ≤ 6)) (i, e))).1 (flagR s ⟨g, kd, [], 0, 0, 0, 0, 0, false, false⟩ (mustR (decide (1 ≤ kd ∧ kd ≤ 6)) (i, e))).2).2).2.2 B w' ∧ Only (fun q => q = B) w w' ∧ (lastR s (midR s (flagR s ⟨g, kd, [], 0, 0, 0, 0, 0, false, false⟩ (mustR (decide (1 ≤ kd ∧ kd ≤ 6)) (i, e))).1 (flagR s ⟨g, kd, [], 0, 0, 0, 0, 0, false, false⟩ (mustR (decide (1 ≤ kd ∧ kd ≤ 6)) (i, e))).2).1 (midR s (flagR s ⟨g, kd, [], 0, 0, 0, 0, 0, false, false⟩ (mustR (decide (1 ≤ kd ∧ kd ≤ 6)) (i, e))).1 (flagR s ⟨g, kd, [], 0, 0, 0, 0, 0, false, false⟩ (mustR (decide (1 ≤ kd ∧ kd ≤ 6)) (i, e))).2).2).2.1 ≤ s.size)) { tmps := #[.pointer (some ⟨B, 0, none⟩), .pointer (some ⟨n0, 0, none⟩), .pointer (some ⟨n0 + 1, 0, none⟩), .pointer (some ⟨nP, 0, none⟩), u4, u5, u6, u7, u8, u9, u10, u11, u12, u13, u14, u15, u16, u17, u18, u19, u20, u21, u22, u23, u24, u25, u26, u27, u28, u29, u30, u31, u32, u33, u34, u35, u36, u37, u38, u39, u40, u41, u42, u43, u44, u45, u46, u47, u48, u49, u50, u51, u52, u53, u54, u55, u56, u57, u58, u59, u60, u61, u62, u63, u64, u65, u66, u67, u68, u69], defers := [] } W := by
 have HH := Aside0.mk hh
 clear hh
 simp only [Try.f41] at hC
 subst hC
 obtain ⟨C3, hC3⟩ : ∃ C, (match Try.f41.body with | some (.seq _ (.seq _ (.seq _ c))) => c | _ => .skip) = C := ⟨_, rfl⟩
 have HC3 := Aside0.mk hC3
 simp only [Try.f41] at hC3
 rw [hC3]
 clear hC3
 have d1 : decide (kd < 1) = false := decide_eq_false (by omega)
 have d2 : decide (6 < kd) = false := decide_eq_false (by omega)
 have d3 : decide (kd > 6) = false := d2
 subst he
 have j1 : (((0 : Nat) : Int) == 0) = true := rfl
 have HR : Aside0 (mustR (decide (1 ≤ kd ∧ kd ≤ 6)) (i, 0) = (i, 0)) := ⟨by unfold mustR; rw [if_neg (fun h => absurd (of_decide_eq_false h.2) (by omega))]⟩
 clear hk
 rw [HR.out]
 obtain ⟨y0, y1, y2, y3, y4, y5, y6, y7, y8, y9⟩ := HH.out.hp.box
 have x0 := HH.out.hx.cell
 have yf := HH.out.hp.free'
 dsimp only at y0 y1 y2 y3 y4 y5 y6 y7 y8 y9
 obtain ⟨q0, q1, q2⟩ := HH.out.hc.box
 have qf := HH.out.hc.free
 go_wp2_with fail
 clear y0 y1 y2 y3 y4 y5 y6 y7 y8 y9 x0 yf
 clear q0 q1 q2 qf
 exact part_t2 s i 0 B n0 nP g kd w W C3 HC3.out _ _ _ _ _ _ _ _ _ _ _ _ _ _ _ _ _ _ _ _ _ _ _ _ _ _ _ _ _ _ _ _ _ _ _ _ _ _ _ _ _ _ _ _ _ _ _ _ _ _ _ _ _ _ _ _ _ _ _ _ _ _ _ _ _ _ HH.out
theorem part_t1 (s : ByteArray) (i e B n0 nP : Nat) (g kd : Int) (w W : World) (C : Code) (hC : (match Try.f41.body with | some (.seq _ (.seq _ c)) => c | _ => .skip) = C) (u4 u5 u6 u7 u8 u9 u10 u11 u12 u13 u14 u15 u16 u17 u18 u19 u20 u21 u22 u23 u24 u25 u26 u27 u28 u29 u30 u31 u32 u33 u34 u35 u36 u37 u38 u39 u40 u41 u42 u43 u44 u45 u46 u47 u48 u49 u50 u51 u52 u53 u54 u55 u56 u57 u58 u59 u60 u61 u62 u63 u64 u65 u66 u67 u68 u69 : Value) (hh : PCt s i e B n0 ⟨g, kd, [], 0, 0, 0, 0, 0, false, false⟩ none 0 nP w W) : C.wp Try.prog (bodyPostR Fence.wide 0 Try.prog Try.f41 (fun r w' => ∃ A c, r = .returned (vP (lastR s (midR s (flagR s ⟨g, kd, [], 0, 0, 0, 0, 0, false, false⟩ (mustR (decide (1 ≤ kd ∧ kd ≤ 6)) (i, e))).1 (flagR s ⟨g, kd, [], 0, 0, 0, 0, 0, false, false⟩ (mustR (decide (1 ≤ kd ∧ kd ≤ 6)) (i, e))).2).1 (midR s (flagR s ⟨g, kd, [], 0, 0, 0, 0, 0, false, false⟩ (mustR (decide (1 ≤ kd ∧ kd ≤ 6)) (i, e))).1 (flagR s ⟨g, kd, [], 0, 0, 0, 0, 0, false, false⟩ (mustR (decide (1 ≤ kd ∧ kd ≤ 6)) (i, e))).2).2).1 A c) ∧ Rd w' A c (lastR s (midR s (flagR s ⟨g, kd, [], 0, 0, 0, 0, 0, false, false⟩ (mustR (decide (1 ≤ kd ∧ kd ≤ 6)) (i, e))).1 (flagR s ⟨g, kd, [], 0, 0, 0, 0, 0, false, false⟩ (mustR (decide (1 ≤ kd ∧ kd ≤ 6)) (i, e))).2).1 (midR s (flagR s ⟨g, kd, [], 0, 0, 0, 0, 0, false, false⟩ (mustR (decide (1 ≤ kd ∧ kd ≤ 6)) (i, e))).1 (flagR s ⟨g, kd, [], 0, 0, 0, 0, 0, false, false⟩ (mustR (decide (1 ≤ kd ∧ kd ≤ 6)) (i, e))).2).2).1.l ∧ BlkC 68 s (lastR s (midR s (flagR s ⟨g, kd, [], 0, 0, 0, 0, 0, false, false⟩ (mustR (decide (1 ≤ kd ∧ kd ≤ 6)) (i, e))).1 (flagR s ⟨g, kd, [], 0, 0, 0, 0, 0, false, false⟩ (mustR (decide (1 ≤ kd ∧ kd ≤ 6)) (i, e))).2).1 (midR s (flagR s ⟨g, kd, [], 0, 0, 0, 0, 0, false, false⟩ (mustR (decide (1 ≤ kd ∧ kd ≤ 6)) (i, e))).1 (flagR s ⟨g, kd, [], 0, 0, 0, 0, 0, false, false⟩ (mustR (decide (1 ≤ kd ∧ kd ≤ 6)) (i, e))).2).2).2.1 (lastR s (midR s (flagR s ⟨g, kd, [], 0, 0, 0, 0, 0, false, false⟩ (mustR (decide (1 ≤ kd ∧ kd ≤ 6)) (i, e))).1 (flagR s ⟨g, kd, [], 0, 0, 0, 0, 0, false, false⟩ (mustR (decide (1 ≤ kd ∧ kd ≤ 6)) (i, e))).2).1 (midR s (flagR s ⟨g, kd, [], 0, 0, 0, 0, 0, false, false⟩ (mustR (decide (1 ≤ kd ∧ kd ≤ 6)) (i, e))).1 (flagR s ⟨g, kd, [], 0, 0, 0, 0, 0, false, false⟩ (mustR (decide (1 ≤ kd ∧ kd ≤ 6)) (i, e))).2).2).2.2 B w' ∧ Only (fun q => q = B) w w' ∧ (lastR s (midR s (flagR s ⟨g, kd, [], 0, 0, 0, 0, 0, false, false⟩ (mustR (decide (1 ≤ kd ∧ kd ≤ 6)) (i, e))).1 (flagR s ⟨g, kd, [], 0, 0, 0, 0, 0, false, false⟩ (mustR (decide (1 ≤ kd ∧ kd ≤ 6)) (i, e))).2).1 (midR s (flagR s ⟨g, kd, [], 0, 0, 0, 0, 0, false, false⟩ (mustR (decide (1 ≤ kd ∧ kd ≤ 6)) (i, e))).1 (flagR s ⟨g, kd, [], 0, 0, 0, 0, 0, false, false⟩ (mustR (decide (1 ≤ kd ∧ kd ≤ 6)) (i, e))).2).2).2.1 ≤ s.size)) { tmps := #[.pointer (some ⟨B, 0, none⟩), .pointer (some ⟨n0, 0, none⟩), .pointer (some ⟨n0 + 1, 0, none⟩), .pointer (some ⟨nP, 0, none⟩), u4, u5, u6, u7, u8, u9, u10, u11, u12, u13, u14, u15, u16, u17, u18, u19, u20, u21, u22, u23, u24, u25, u26, u27, u28, u29, u30, u31, u32, u33, u34, u35, u36, u37, u38, u39, u40, u41, u42, u43, u44, u45, u46, u47, u48, u49, u50, u51, u52, u53, u54, u55, u56, u57, u58, u59, u60, u61, u62, u63, u64, u65, u66, u67, u68, u69], defers := [] } W := by
  by_cases he : e = 0
  · by_cases h1 : kd < 1
    · exact part_t1_lo s i e B n0 nP g kd w W C hC u4 u5 u6 u7 u8 u9 u10 u11 u12 u13 u14 u15 u16 u17 u18 u19 u20 u21 u22 u23 u24 u25 u26 u27 u28 u29 u30 u31 u32 u33 u34 u35 u36 u37 u38 u39 u40 u41 u42 u43 u44 u45 u46 u47 u48 u49 u50 u51 u52 u53 u54 u55 u56 u57 u58 u59 u60 u61 u62 u63 u64 u65 u66 u67 u68 u69 hh he h1
    · by_cases h6 : 6 < kd
      · exact part_t1_hi s i e B n0 nP g kd w W C hC u4 u5 u6 u7 u8 u9 u10 u11 u12 u13 u14 u15 u16 u17 u18 u19 u20 u21 u22 u23 u24 u25 u26 u27 u28 u29 u30 u31 u32 u33 u34 u35 u36 u37 u38 u39 u40 u41 u42 u43 u44 u45 u46 u47 u48 u49 u50 u51 u52 u53 u54 u55 u56 u57 u58 u59 u60 u61 u62 u63 u64 u65 u66 u67 u68 u69 hh he h6
      · exact part_t1_ok s i e B n0 nP g kd w W C hC u4 u5 u6 u7 u8 u9 u10 u11 u12 u13 u14 u15 u16 u17 u18 u19 u20 u21 u22 u23 u24 u25 u26 u27 u28 u29 u30 u31 u32 u33 u34 u35 u36 u37 u38 u39 u40 u41 u42 u43 u44 u45 u46 u47 u48 u49 u50 u51 u52 u53 u54 u55 u56 u57 u58 u59 u60 u61 u62 u63 u64 u65 u66 u67 u68 u69 hh he ⟨by omega, by omega⟩
  · exact part_t1_e s i e B n0 nP g kd w W C hC u4 u5 u6 u7 u8 u9 u10 u11 u12 u13 u14 u15 u16 u17 u18 u19 u20 u21 u22 u23 u24 u25 u26 u27 u28 u29 u30 u31 u32 u33 u34 u35 u36 u37 u38 u39 u40 u41 u42 u43 u44 u45 u46 u47 u48 u49 u50 u51 u52 u53 u54 u55 u56 u57 u58 u59 u60 u61 u62 u63 u64 u65 u66 u67 u68 u69 hh he
set_option maxHeartbeats 4000000 in
set_option maxRecDepth 100000 in
theorem rd_part (s : ByteArray) (i e B : Nat) (w : World) (hb : BlkC 68 s i e B w) (hs : s.size ≤ 140737488351232) (hi : i ≤ s.size) :
  Calls Try.prog 41 #[.pointer (some ⟨B, 0, none⟩)] w (fun r w' => ∃ A c, r = .returned (vP (partR s (i, e)).1 A c) ∧ Rd w' A c (partR s (i, e)).1.l ∧ BlkC 68 s (partR s (i, e)).2.1 (partR s (i, e)).2.2 B w' ∧ Only (fun q => q = B) w w' ∧ (partR s (i, e)).2.1 ≤ s.size) := by
 have hBw := hb.lt
 have HC := Aside0.mk hb
 have HS := Aside0.mk hs
 have HI := Aside0.mk hi
 obtain ⟨a1, b1, c1, h1⟩ : ∃ a b c, numR s (i, e) = (a, (b, c)) := ⟨_, _, _, rfl⟩
 have E1 := Aside0.mk h1
 obtain ⟨a2, b2, c2, h2⟩ : ∃ a b c, numR s (b1, c1) = (a, (b, c)) := ⟨_, _, _, rfl⟩
 have E2 := Aside0.mk h2
 have HR : Aside0 (partR s (i, e) = (lastR s (midR s (flagR s ⟨(a1 : Int), (a2 : Int), [], 0, 0, 0, 0, 0, false, false⟩ (mustR (decide (1 ≤ (a2 : Int) ∧ (a2 : Int) ≤ 6)) (b2, c2))).1 (flagR s ⟨(a1 : Int), (a2 : Int), [], 0, 0, 0, 0, 0, false, false⟩ (mustR (decide (1 ≤ (a2 : Int) ∧ (a2 : Int) ≤ 6)) (b2, c2))).2).1 (midR s (flagR s ⟨(a1 : Int), (a2 : Int), [], 0, 0, 0, 0, 0, false, false⟩ (mustR (decide (1 ≤ (a2 : Int) ∧ (a2 : Int) ≤ 6)) (b2, c2))).1 (flagR s ⟨(a1 : Int), (a2 : Int), [], 0, 0, 0, 0, 0, false, false⟩ (mustR (decide (1 ≤ (a2 : Int) ∧ (a2 : Int) ≤ 6)) (b2, c2))).2).2)) := ⟨by unfold partR; rw [h1]; dsimp only; rw [h2]⟩
 clear h1 h2 hb hs hi
 rw [HR.out]
 obtain ⟨n0, hn0⟩ : ∃ x, w.heap.size = x := ⟨_, rfl⟩
 have HN0 := Aside0.mk hn0
 refine (callsIn_wide (n := 0)).1 ?_
 refine callsIn_of_wp_marks Try.func41 rfl trivial ?_
 refine wpIn_wide.2 ?_
 refine wp_mono ?_ (bodyPostR_M (F := Fence.wide) (n := 0))
 simp only [Try.ntmps41, List.size_toArray, List.length_cons, List.length_nil, Nat.reduceAdd, Nat.reduceSub, Array.replicate_succ, Array.replicate_zero, List.push_toArray, List.append_toArray, List.nil_append, List.cons_append]
 obtain ⟨C2, hC2⟩ : ∃ C, (match Try.f41.body with | some (.seq _ (.seq _ c)) => c | _ => .skip) = C := ⟨_, rfl⟩
 have HC2 := Aside0.mk hC2
 simp only [Try.f41] at hC2
 rw [hC2]
 clear hC2
 go_wp2_with fail
 have hbx := Boxed.new w 66 (.pointer (some ⟨B, 0, none⟩))
 have hz := BlkP.new ZP none 0 (w.alloc (.cells #[.pointer (some ⟨B, 0, none⟩)] 66))
 rw [World.size_alloc, hn0] at hz
 rw [hn0] at hbx
 have HX : Aside0 (Boxed ((w.alloc (.cells #[.pointer (some ⟨B, 0, none⟩)] 66)).alloc (.cells #[.int .i64 0, .int .i64 0, .slice none 0 0, .int .i64 0, .int .i64 0, .int .i64 0, .int .i64 0, .int .i64 0, .bool false, .bool false] 26)) n0 66 (.pointer (some ⟨B, 0, none⟩))) := ⟨((Only.refl (fun _ => False) _).alloc _).boxed hbx (fun h => h)⟩
 have HZ : Aside0 (BlkP ZP none 0 (n0 + 1) ((w.alloc (.cells #[.pointer (some ⟨B, 0, none⟩)] 66)).alloc (.cells #[.int .i64 0, .int .i64 0, .slice none 0 0, .int .i64 0, .int .i64 0, .int .i64 0, .int .i64 0, .int .i64 0, .bool false, .bool false] 26))) := ⟨hz⟩
 have HO : Aside0 (Only (fun q => q = B) w ((w.alloc (.cells #[.pointer (some ⟨B, 0, none⟩)] 66)).alloc (.cells #[.int .i64 0, .int .i64 0, .slice none 0 0, .int .i64 0, .int .i64 0, .int .i64 0, .int .i64 0, .int .i64 0, .bool false, .bool false] 26))) := ⟨((Only.refl _ w).alloc _).alloc _⟩
 replace HC : Aside0 (BlkC 68 s i e B ((w.alloc (.cells #[.pointer (some ⟨B, 0, none⟩)] 66)).alloc (.cells #[.int .i64 0, .int .i64 0, .slice none 0 0, .int .i64 0, .int .i64 0, .int .i64 0, .int .i64 0, .int .i64 0, .bool false, .bool false] 26))) := ⟨(HC.out.alloc _).alloc _⟩
 have HB : Aside0 (B < n0) := ⟨by rw [← hn0]; have := HC.out.lt; exact hBw⟩
 try rw [World.size_alloc, hn0]
 have hsz : ((w.alloc (.cells #[.pointer (some ⟨B, 0, none⟩)] 66)).alloc (.cells #[.int .i64 0, .int .i64 0, .slice none 0 0, .int .i64 0, .int .i64 0, .int .i64 0, .int .i64 0, .int .i64 0, .bool false, .bool false] 26)).heap.size = n0 + 2 := by rw [World.size_alloc, World.size_alloc, hn0]
 obtain ⟨W0, hW⟩ : ∃ X, (w.alloc (.cells #[.pointer (some ⟨B, 0, none⟩)] 66)).alloc (.cells #[.int .i64 0, .int .i64 0, .slice none 0 0, .int .i64 0, .int .i64 0, .int .i64 0, .int .i64 0, .int .i64 0, .bool false, .bool false] 26) = X := ⟨_, rfl⟩
 rw [hW] at HC HX HZ HO hsz ⊢
 clear hW hbx hz hn0
 have HSZ : Aside0 (n0 + 2 ≤ W0.heap.size) := ⟨by omega⟩
 clear hsz
 replace HC := ldC HC
 replace HX : Aside0 (Boxed W0.drew n0 66 (.pointer (some ⟨B, 0, none⟩))) := ⟨HX.out⟩
 replace HZ := ldP HZ
 replace HO := ldO HO
 replace HSZ : Aside0 (n0 + 2 ≤ W0.drew.heap.size) := ⟨HSZ.out⟩
 refine start_ (n := 7) (S := (fun w' => w'.cell? ⟨n0, 0, none⟩ = some (.pointer (some ⟨B, 0, none⟩)))) (ds := [6]) #[false,false,false,false,false,false,false] (by kernel_rfl) rfl rfl HX.out.cell (fun hHeld => ?_)
 obtain ⟨W9, hW9⟩ : ∃ X, W0.drew = X := ⟨_, rfl⟩
 rw [hW9] at hHeld HC HX HZ HO HSZ ⊢
 clear hW9
 refine take_ (i := 0) (N := some 7) (v := ?_) (a' := ?_) #[true,false,false,false,false,false,false] rfl rfl (by kernel_rfl) (fun _ _ _ h => h) (Or.inl ⟨by rfl, ?_⟩) hHeld ?_ ?_
 rotate_left
 · rintro w' x0
   go_simp
   try with_reducible rfl
 rotate_left
 · simp only [Act.put, sA, sB, sC]
   rfl
 refine take_ (i := 2) (N := some 9) (v := ?_) (a' := ?_) #[true,false,true,false,false,false,false] rfl rfl (by kernel_rfl) (fun _ _ _ h => h) (Or.inl ⟨by rfl, ?_⟩) hHeld ?_ ?_
 rotate_left
 · rintro w' x0
   go_simp
   try with_reducible rfl
 rotate_left
 · simp only [Act.put, sA, sB, sC]
   rfl
 refine two_ (i := 1) (j := 5) (Ni := some 8) (Nj := some 3) #[true,true,true,false,false,false,false] #[true,false,true,false,false,true,false] rfl rfl rfl rfl (by kernel_rfl) (by decide) (by decide) (fun K hK => ?_) (fun K hK => ?_)
 · go_simp
   refine (rdn s i e B _ HC.out HS.out HI.out E1.out).mono ?_; rintro r w20 ⟨rfl, hc', ho, hi⟩; replace HC := Aside0.mk hc'; replace HI := Aside0.mk hi; replace HX := Aside0.mk (ho.boxed HX.out (fun h => by have h2 : n0 = B := h; have := HB.out; omega)); replace HZ := Aside0.mk (BlkP.only HZ.out ho (fun h => by have h2 : n0 + 1 = B := h; have := HB.out; omega)); replace HO := Aside0.mk (HO.out.trans ho); have hs9 := ho.size; replace HSZ : Aside0 (n0 + 2 ≤ w20.heap.size) := ⟨by have := HSZ.out; omega⟩; clear hs9; clear hc' ho hi
   refine hK.out _ _ ?_ (fun hHeld => ?_)
   · exact HX.out.cell
   clear hK K
   try simp only [Act.put, sA, sB, sC]
   refine two_ (i := 3) (j := 5) (Ni := some 10) (Nj := some 3) #[true,true,true,true,false,false,false] #[true,true,true,false,false,true,false] rfl rfl rfl rfl (by kernel_rfl) (by decide) (by decide) (fun K hK => ?_) (fun K hK => ?_)
   · go_simp
     refine (rdn s b1 c1 B _ HC.out HS.out HI.out E2.out).mono ?_; rintro r w21 ⟨rfl, hc', ho, hi⟩; replace HC := Aside0.mk hc'; replace HI := Aside0.mk hi; replace HX := Aside0.mk (ho.boxed HX.out (fun h => by have h2 : n0 = B := h; have := HB.out; omega)); replace HZ := Aside0.mk (BlkP.only HZ.out ho (fun h => by have h2 : n0 + 1 = B := h; have := HB.out; omega)); replace HO := Aside0.mk (HO.out.trans ho); have hs9 := ho.size; replace HSZ : Aside0 (n0 + 2 ≤ w21.heap.size) := ⟨by have := HSZ.out; omega⟩; clear hs9; clear hc' ho hi
     refine hK.out _ _ ?_ (fun hHeld => ?_)
     · exact HX.out.cell
     clear hK K
     try simp only [Act.put, sA, sB, sC]
     refine pure_ (i := 4) (N := some 11) (v := ?_) (a' := ?_) #[true,true,true,true,true,false,false] rfl rfl (by kernel_rfl) (fun _ _ _ h => h) (Or.inl ⟨by rfl, ?_⟩) ?_ ?_
     rotate_left
     · intro w'
       go_simp
       try with_reducible rfl
     rotate_left
     · simp only [Act.put, sA, sB, sC]
       rfl
     refine one_ (i := 5) (N := some 3) #[true,true,true,true,true,true,false] rfl rfl (by kernel_rfl) (by decide) (fun K hK => ?_)
     go_simp
     refine hK.out _ _ ?_ (fun hHeld => ?_)
     · exact (((Only.refl (fun _ => False) _).alloc (.cells #[.int .i64 0, .int .i64 0, .slice none 0 0, .int .i64 0, .int .i64 0, .int .i64 0, .int .i64 0, .int .i64 0, .bool false, .bool false] 26)).boxed HX.out (fun h => h)).cell
     clear hK K
     try simp only [Act.put, sA, sB, sC]
     obtain ⟨nP, hnP⟩ : ∃ x, w21.heap.size = x := ⟨_, rfl⟩
     have hp := BlkP.new ZP none 0 w21
     rw [hnP] at hp
     have HP : Aside0 (BlkP ZP none 0 nP (w21.alloc (.cells #[.int .i64 0, .int .i64 0, .slice none 0 0, .int .i64 0, .int .i64 0, .int .i64 0, .int .i64 0, .int .i64 0, .bool false, .bool false] 26))) := ⟨hp⟩
     have HNP : Aside0 (n0 + 1 < nP) := ⟨by rw [← hnP]; have := HSZ.out; omega⟩
     replace HC := laC HC (.cells #[.int .i64 0, .int .i64 0, .slice none 0 0, .int .i64 0, .int .i64 0, .int .i64 0, .int .i64 0, .int .i64 0, .bool false, .bool false] 26)
     replace HX : Aside0 (Boxed (w21.alloc (.cells #[.int .i64 0, .int .i64 0, .slice none 0 0, .int .i64 0, .int .i64 0, .int .i64 0, .int .i64 0, .int .i64 0, .bool false, .bool false] 26)) n0 66 (.pointer (some ⟨B, 0, none⟩))) := ⟨((Only.refl (fun _ => False) _).alloc _).boxed HX.out (fun h => h)⟩
     replace HZ := laP HZ (.cells #[.int .i64 0, .int .i64 0, .slice none 0 0, .int .i64 0, .int .i64 0, .int .i64 0, .int .i64 0, .int .i64 0, .bool false, .bool false] 26)
     replace HO := laO HO (.cells #[.int .i64 0, .int .i64 0, .slice none 0 0, .int .i64 0, .int .i64 0, .int .i64 0, .int .i64 0, .int .i64 0, .bool false, .bool false] 26)
     try rw [hnP]
     obtain ⟨w30, hW⟩ : ∃ X, w21.alloc (.cells #[.int .i64 0, .int .i64 0, .slice none 0 0, .int .i64 0, .int .i64 0, .int .i64 0, .int .i64 0, .int .i64 0, .bool false, .bool false] 26) = X := ⟨_, rfl⟩
     rw [hW] at HC HX HZ HO HP ⊢
     clear hW hp hnP
     obtain ⟨y0, y1, y2, y3, y4, y5, y6, y7, y8, y9⟩ := HP.out.box
     have yf := HP.out.free'
     refine last_ (i := 6) (N := none) #[true,true,true,true,true,true,true] rfl rfl (by kernel_rfl) (by decide) (fun K hK => ?_)
     go_simp
     refine hK.out _ _ ?_
     clear hK K
     try simp only [Act.put, sA, sB, sC]
     refine done_ (by kernel_rfl) ?_
     clear y0 y1 y2 y3 y4 y5 y6 y7 y8 y9 yf
     go_wp2_with fail
     refine part_t1 s b2 c2 B n0 nP (a1 : Int) (a2 : Int) w _ C2 HC2.out _ _ _ _ _ _ _ _ _ _ _ _ _ _ _ _ _ _ _ _ _ _ _ _ _ _ _ _ _ _ _ _ _ _ _ _ _ _ _ _ _ _ _ _ _ _ _ _ _ _ _ _ _ _ _ _ _ _ _ _ _ _ _ _ _ _ ?_
     have hx := BlkP.onlyPut HP.out ⟨(a1 : Int), (a2 : Int), [], 0, 0, 0, 0, 0, false, false⟩ none 0
     have hb := HP.out.put ⟨(a1 : Int), (a2 : Int), [], 0, 0, 0, 0, 0, false, false⟩ none 0
     unfold putP at hx hb
     exact ⟨HC.out.only hx (fun h => by have h2 : B = nP := h; have := HB.out; have := HNP.out; omega), hb, hx.boxed HX.out (fun h => by have h2 : n0 = nP := h; have := HNP.out; omega), HZ.out.only hx (fun h => by have h2 : n0 + 1 = nP := h; have := HNP.out; omega), only_new HO.out hx (by have := HNP.out; rw [HN0.out]; omega), HI.out, HS.out, by have := HB.out; have := HNP.out; rw [HN0.out]; omega⟩
   · go_simp
     refine hK.out _ _ ?_ (fun hHeld => ?_)
     · exact (((Only.refl (fun _ => False) _).alloc (.cells #[.int .i64 0, .int .i64 0, .slice none 0 0, .int .i64 0, .int .i64 0, .int .i64 0, .int .i64 0, .int .i64 0, .bool false, .bool false] 26)).boxed HX.out (fun h => h)).cell
     clear hK K
     try simp only [Act.put, sA, sB, sC]
     obtain ⟨nP, hnP⟩ : ∃ x, w20.heap.size = x := ⟨_, rfl⟩
     have hp := BlkP.new ZP none 0 w20
     rw [hnP] at hp
     have HP : Aside0 (BlkP ZP none 0 nP (w20.alloc (.cells #[.int .i64 0, .int .i64 0, .slice none 0 0, .int .i64 0, .int .i64 0, .int .i64 0, .int .i64 0, .int .i64 0, .bool false, .bool false] 26))) := ⟨hp⟩
     have HNP : Aside0 (n0 + 1 < nP) := ⟨by rw [← hnP]; have := HSZ.out; omega⟩
     replace HC := laC HC (.cells #[.int .i64 0, .int .i64 0, .slice none 0 0, .int .i64 0, .int .i64 0, .int .i64 0, .int .i64 0, .int .i64 0, .bool false, .bool false] 26)
     replace HX : Aside0 (Boxed (w20.alloc (.cells #[.int .i64 0, .int .i64 0, .slice none 0 0, .int .i64 0, .int .i64 0, .int .i64 0, .int .i64 0, .int .i64 0, .bool false, .bool false] 26)) n0 66 (.pointer (some ⟨B, 0, none⟩))) := ⟨((Only.refl (fun _ => False) _).alloc _).boxed HX.out (fun h => h)⟩
     replace HZ := laP HZ (.cells #[.int .i64 0, .int .i64 0, .slice none 0 0, .int .i64 0, .int .i64 0, .int .i64 0, .int .i64 0, .int .i64 0, .bool false, .bool false] 26)
     replace HO := laO HO (.cells #[.int .i64 0, .int .i64 0, .slice none 0 0, .int .i64 0, .int .i64 0, .int .i64 0, .int .i64 0, .int .i64 0, .bool false, .bool false] 26)
     try rw [hnP]
     obtain ⟨w30, hW⟩ : ∃ X, w20.alloc (.cells #[.int .i64 0, .int .i64 0, .slice none 0 0, .int .i64 0, .int .i64 0, .int .i64 0, .int .i64 0, .int .i64 0, .bool false, .bool false] 26) = X := ⟨_, rfl⟩
     rw [hW] at HC HX HZ HO HP ⊢
     clear hW hp hnP
     refine one_ (i := 3) (N := some 10) #[true,true,true,true,false,true,false] rfl rfl (by kernel_rfl) (by decide) (fun K hK => ?_)
     go_simp
     refine (rdn s b1 c1 B _ HC.out HS.out HI.out E2.out).mono ?_; rintro r w21 ⟨rfl, hc', ho, hi⟩; replace HC := Aside0.mk hc'; replace HI := Aside0.mk hi; replace HX := Aside0.mk (ho.boxed HX.out (fun h => by have h2 : n0 = B := h; have := HB.out; omega)); replace HZ := Aside0.mk (BlkP.only HZ.out ho (fun h => by have h2 : n0 + 1 = B := h; have := HB.out; omega)); replace HO := Aside0.mk (HO.out.trans ho); replace HP := Aside0.mk (BlkP.only HP.out ho (fun h => by have h2 : nP = B := h; have := HB.out; have := HNP.out; omega)); clear hc' ho hi
     refine hK.out _ _ ?_ (fun hHeld => ?_)
     · exact HX.out.cell
     clear hK K
     try simp only [Act.put, sA, sB, sC]
     obtain ⟨y0, y1, y2, y3, y4, y5, y6, y7, y8, y9⟩ := HP.out.box
     have yf := HP.out.free'
     refine pure_ (i := 4) (N := some 11) (v := ?_) (a' := ?_) #[true,true,true,true,true,true,false] rfl rfl (by kernel_rfl) (fun _ _ _ h => h) (Or.inl ⟨by rfl, ?_⟩) ?_ ?_
     rotate_left
     · intro w'
       go_simp
       try with_reducible rfl
     rotate_left
     · simp only [Act.put, sA, sB, sC]
       rfl
     refine last_ (i := 6) (N := none) #[true,true,true,true,true,true,true] rfl rfl (by kernel_rfl) (by decide) (fun K hK => ?_)
     go_simp
     refine hK.out _ _ ?_
     clear hK K
     try simp only [Act.put, sA, sB, sC]
     refine done_ (by kernel_rfl) ?_
     clear y0 y1 y2 y3 y4 y5 y6 y7 y8 y9 yf
     go_wp2_with fail
     refine part_t1 s b2 c2 B n0 nP (a1 : Int) (a2 : Int) w _ C2 HC2.out _ _ _ _ _ _ _ _ _ _ _ _ _ _ _ _ _ _ _ _ _ _ _ _ _ _ _ _ _ _ _ _ _ _ _ _ _ _ _ _ _ _ _ _ _ _ _ _ _ _ _ _ _ _ _ _ _ _ _ _ _ _ _ _ _ _ ?_
     have hx := BlkP.onlyPut HP.out ⟨(a1 : Int), (a2 : Int), [], 0, 0, 0, 0, 0, false, false⟩ none 0
     have hb := HP.out.put ⟨(a1 : Int), (a2 : Int), [], 0, 0, 0, 0, 0, false, false⟩ none 0
     unfold putP at hx hb
     exact ⟨HC.out.only hx (fun h => by have h2 : B = nP := h; have := HB.out; have := HNP.out; omega), hb, hx.boxed HX.out (fun h => by have h2 : n0 = nP := h; have := HNP.out; omega), HZ.out.only hx (fun h => by have h2 : n0 + 1 = nP := h; have := HNP.out; omega), only_new HO.out hx (by have := HNP.out; rw [HN0.out]; omega), HI.out, HS.out, by have := HB.out; have := HNP.out; rw [HN0.out]; omega⟩
 · go_simp
   refine hK.out _ _ ?_ (fun hHeld => ?_)
   · exact (((Only.refl (fun _ => False) _).alloc (.cells #[.int .i64 0, .int .i64 0, .slice none 0 0, .int .i64 0, .int .i64 0, .int .i64 0, .int .i64 0, .int .i64 0, .bool false, .bool false] 26)).boxed HX.out (fun h => h)).cell
   clear hK K
   try simp only [Act.put, sA, sB, sC]
   obtain ⟨nP, hnP⟩ : ∃ x, W9.heap.size = x := ⟨_, rfl⟩
   have hp := BlkP.new ZP none 0 W9
   rw [hnP] at hp
   have HP : Aside0 (BlkP ZP none 0 nP (W9.alloc (.cells #[.int .i64 0, .int .i64 0, .slice none 0 0, .int .i64 0, .int .i64 0, .int .i64 0, .int .i64 0, .int .i64 0, .bool false, .bool false] 26))) := ⟨hp⟩
   have HNP : Aside0 (n0 + 1 < nP) := ⟨by rw [← hnP]; have := HSZ.out; omega⟩
   replace HC := laC HC (.cells #[.int .i64 0, .int .i64 0, .slice none 0 0, .int .i64 0, .int .i64 0, .int .i64 0, .int .i64 0, .int .i64 0, .bool false, .bool false] 26)
   replace HX : Aside0 (Boxed (W9.alloc (.cells #[.int .i64 0, .int .i64 0, .slice none 0 0, .int .i64 0, .int .i64 0, .int .i64 0, .int .i64 0, .int .i64 0, .bool false, .bool false] 26)) n0 66 (.pointer (some ⟨B, 0, none⟩))) := ⟨((Only.refl (fun _ => False) _).alloc _).boxed HX.out (fun h => h)⟩
   replace HZ := laP HZ (.cells #[.int .i64 0, .int .i64 0, .slice none 0 0, .int .i64 0, .int .i64 0, .int .i64 0, .int .i64 0, .int .i64 0, .bool false, .bool false] 26)
   replace HO := laO HO (.cells #[.int .i64 0, .int .i64 0, .slice none 0 0, .int .i64 0, .int .i64 0, .int .i64 0, .int .i64 0, .int .i64 0, .bool false, .bool false] 26)
   try rw [hnP]
   obtain ⟨w30, hW⟩ : ∃ X, W9.alloc (.cells #[.int .i64 0, .int .i64 0, .slice none 0 0, .int .i64 0, .int .i64 0, .int .i64 0, .int .i64 0, .int .i64 0, .bool false, .bool false] 26) = X := ⟨_, rfl⟩
   rw [hW] at HC HX HZ HO HP ⊢
   clear hW hp hnP
   refine one_ (i := 1) (N := some 8) #[true,true,true,false,false,true,false] rfl rfl (by kernel_rfl) (by decide) (fun K hK => ?_)
   go_simp
   refine (rdn s i e B _ HC.out HS.out HI.out E1.out).mono ?_; rintro r w20 ⟨rfl, hc', ho, hi⟩; replace HC := Aside0.mk hc'; replace HI := Aside0.mk hi; replace HX := Aside0.mk (ho.boxed HX.out (fun h => by have h2 : n0 = B := h; have := HB.out; omega)); replace HZ := Aside0.mk (BlkP.only HZ.out ho (fun h => by have h2 : n0 + 1 = B := h; have := HB.out; omega)); replace HO := Aside0.mk (HO.out.trans ho); replace HP := Aside0.mk (BlkP.only HP.out ho (fun h => by have h2 : nP = B := h; have := HB.out; have := HNP.out; omega)); clear hc' ho hi
   refine hK.out _ _ ?_ (fun hHeld => ?_)
   · exact HX.out.cell
   clear hK K
   try simp only [Act.put, sA, sB, sC]
   refine one_ (i := 3) (N := some 10) #[true,true,true,true,false,true,false] rfl rfl (by kernel_rfl) (by decide) (fun K hK => ?_)
   go_simp
   refine (rdn s b1 c1 B _ HC.out HS.out HI.out E2.out).mono ?_; rintro r w21 ⟨rfl, hc', ho, hi⟩; replace HC := Aside0.mk hc'; replace HI := Aside0.mk hi; replace HX := Aside0.mk (ho.boxed HX.out (fun h => by have h2 : n0 = B := h; have := HB.out; omega)); replace HZ := Aside0.mk (BlkP.only HZ.out ho (fun h => by have h2 : n0 + 1 = B := h; have := HB.out; omega)); replace HO := Aside0.mk (HO.out.trans ho); replace HP := Aside0.mk (BlkP.only HP.out ho (fun h => by have h2 : nP = B := h; have := HB.out; have := HNP.out; omega)); clear hc' ho hi
   refine hK.out _ _ ?_ (fun hHeld => ?_)
   · exact HX.out.cell
   clear hK K
   try simp only [Act.put, sA, sB, sC]
   obtain ⟨y0, y1, y2, y3, y4, y5, y6, y7, y8, y9⟩ := HP.out.box
   have yf := HP.out.free'
   refine pure_ (i := 4) (N := some 11) (v := ?_) (a' := ?_) #[true,true,true,true,true,true,false] rfl rfl (by kernel_rfl) (fun _ _ _ h => h) (Or.inl ⟨by rfl, ?_⟩) ?_ ?_
   rotate_left
   · intro w'
     go_simp
     try with_reducible rfl
   rotate_left
   · simp only [Act.put, sA, sB, sC]
     rfl
   refine last_ (i := 6) (N := none) #[true,true,true,true,true,true,true] rfl rfl (by kernel_rfl) (by decide) (fun K hK => ?_)
   go_simp
   refine hK.out _ _ ?_
   clear hK K
   try simp only [Act.put, sA, sB, sC]
   refine done_ (by kernel_rfl) ?_
   clear y0 y1 y2 y3 y4 y5 y6 y7 y8 y9 yf
   go_wp2_with fail
   refine part_t1 s b2 c2 B n0 nP (a1 : Int) (a2 : Int) w _ C2 HC2.out _ _ _ _ _ _ _ _ _ _ _ _ _ _ _ _ _ _ _ _ _ _ _ _ _ _ _ _ _ _ _ _ _ _ _ _ _ _ _ _ _ _ _ _ _ _ _ _ _ _ _ _ _ _ _ _ _ _ _ _ _ _ _ _ _ _ ?_
   have hx := BlkP.onlyPut HP.out ⟨(a1 : Int), (a2 : Int), [], 0, 0, 0, 0, 0, false, false⟩ none 0
   have hb := HP.out.put ⟨(a1 : Int), (a2 : Int), [], 0, 0, 0, 0, 0, false, false⟩ none 0
   unfold putP at hx hb
   exact ⟨HC.out.only hx (fun h => by have h2 : B = nP := h; have := HB.out; have := HNP.out; omega), hb, hx.boxed HX.out (fun h => by have h2 : n0 = nP := h; have := HNP.out; omega), HZ.out.only hx (fun h => by have h2 : n0 + 1 = nP := h; have := HNP.out; omega), only_new HO.out hx (by have := HNP.out; rw [HN0.out]; omega), HI.out, HS.out, by have := HB.out; have := HNP.out; rw [HN0.out]; omega⟩
end Go.Proofs.Ytokjhocjemjfiaa.PartW
