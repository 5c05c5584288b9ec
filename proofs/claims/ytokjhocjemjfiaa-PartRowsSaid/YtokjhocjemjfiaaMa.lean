/- A law for a range over a function whose iterator keeps state of its own in cells: what the iterator writes (the blocks U) the caller's invariant does not mind; what the round writes lies outside U. -/
/- The law of XSeq for an iterator that writes other blocks (U) than it relies on (R). -/
/- A region that draws its order, whose calls lay blocks of their own and each hand back one value: walked once, in the order of the text. -/
/- A region that draws its order inside a range-over-func round, by a class of worlds: no operation of it is a defer. -/
/- A region that draws its order inside a range-over-func round, walked by the steps of a region outside of it: what is shown outside of a round holds in it, where no operation is a defer. -/
import Derived.RangeFuncNested
import Derived.RangeFuncBound
import Derived.RangeFuncCalls
import Derived.RangeFuncLeaves
import Derived.Shelf.Abstract
import Derived.Shelf.RegionOpen
import Derived.WalkKit
import Derived.OwnWalkIn
import Derived.TacticsInMore
import Derived.LoopNIn
import Derived.LoopIn
import Derived.Lib.ConvBytes
import Derived.Test.YtokjhocjemjfiaaWMore
import Derived.BigQuiet
import Derived.Sort.QuietThIn
set_option linter.unusedVariables false
set_option linter.unusedSimpArgs false
namespace Go.Proofs.Ytokjhocjemjfiaa.Seq
open Go Go.RowKit

/-- Of what lay, only blocks in U may have turned. -/
structure Only (U : Nat → Prop) (w w' : World) : Prop where
  os : w'.os = w.os
  tape : w'.tape = w.tape
  output : w'.output = w.output
  size : w.heap.size ≤ w'.heap.size
  block : ∀ k, k < w.heap.size → ¬ U k → w'.heap[k]? = w.heap[k]?

theorem Only.refl (U : Nat → Prop) (w : World) : Only U w w := ⟨rfl, rfl, rfl, Nat.le_refl _, fun _ _ _ => rfl⟩
theorem Only.trans {U : Nat → Prop} {a b c : World} (h : Only U a b) (k : Only U b c) : Only U a c :=
  ⟨k.os.trans h.os, k.tape.trans h.tape, k.output.trans h.output, Nat.le_trans h.size k.size, fun i hi hu => (k.block i (Nat.lt_of_lt_of_le hi h.size) hu).trans (h.block i hi hu)⟩
theorem Only.mono {U V : Nat → Prop} {a b : World} (h : Only U a b) (hv : ∀ k, k < a.heap.size → U k → V k) : Only V a b :=
  ⟨h.os, h.tape, h.output, h.size, fun i hi hu => h.block i hi (fun hU => hu (hv i hi hU))⟩
theorem Only.drew {U : Nat → Prop} {a b : World} (h : Only U a b) : Only U a b.drew := ⟨h.os, h.tape, h.output, h.size, h.block⟩
theorem Only.alloc {U : Nat → Prop} {a b : World} (h : Only U a b) (o : Obj) : Only U a (b.alloc o) :=
  h.trans ⟨rfl, rfl, rfl, by simp, fun k hk _ => Below.heap_alloc _ _ _ hk⟩
theorem Only.setCell {U : Nat → Prop} {a b : World} (h : Only U a b) {p : Addr} (hp : U p.block) (v : Value) : Only U a (b.setCell p v) :=
  h.trans ⟨rfl, rfl, rfl, by simp [World.setCell], fun k _ hu => Below.heap_setCell _ _ _ _ (fun e => hu (e ▸ hp))⟩
theorem Only.putObj {U : Nat → Prop} {a b : World} (h : Only U a b) {r : Nat} (hr : U r) (o : Obj) : Only U a (b.putObj r o) :=
  h.trans ⟨rfl, rfl, rfl, by simp, fun k _ hu => World.putObj_heap_other (fun e => hu (e ▸ hr))⟩
theorem Only.of_grown {U : Nat → Prop} {a b c : World} {row : Option Nat} (h : Only U a b) (hg : b.grownBy c row) (hr : ∀ k, row = some k → k < b.heap.size → U k) : Only U a c :=
  h.trans ⟨hg.os, hg.tape, hg.output, hg.size, fun k hk hu => hg.block k hk (fun e => hu (hr k e.symm hk))⟩
theorem Only.of_below {U : Nat → Prop} {a b c : World} {B : Nat} (h : Only U a b) (hb : Below B b c) (hB : ∀ k, k < b.heap.size → B ≤ k → U k) : Only U a c :=
  h.trans ⟨hb.os, hb.tape, hb.output, hb.size, fun k hk hu => hb.block k (by apply Classical.byContradiction; intro hn; exact hu (hB k hk (by omega)))⟩
theorem Only.below {U : Nat → Prop} {a b : World} {B : Nat} (h : Only U a b) (hB : B ≤ a.heap.size) (hU : ∀ k, k < B → ¬ U k) : Below B a b :=
  ⟨h.os, h.tape, h.output, h.size, fun k hk => h.block k (by omega) (hU k hk)⟩
theorem Only.cell {U : Nat → Prop} {a b : World} (h : Only U a b) {p : Addr} {v : Value} (hc : a.cell? p = some v) (hp : ¬ U p.block) : b.cell? p = some v :=
  (World.cell?_of_block (h.block p.block (World.block_lt_of_cell? a p hc) hp)).trans hc
theorem Only.boxed {U : Nat → Prop} {a b : World} (h : Only U a b) {B : Nat} {t : TypeId} {v : Value} (hc : Boxed a B t v) (hp : ¬ U B) : Boxed b B t v :=
  (h.block B hc.lt hp).trans hc

/-- What is kept: the blocks in U lie as they lay. -/
structure Keeps (U : Nat → Prop) (w w' : World) : Prop where
  size : w.heap.size ≤ w'.heap.size
  block : ∀ k, k < w.heap.size → U k → w'.heap[k]? = w.heap[k]?
theorem Keeps.refl (U : Nat → Prop) (w : World) : Keeps U w w := ⟨Nat.le_refl _, fun _ _ _ => rfl⟩
theorem Keeps.trans {U : Nat → Prop} {a b c : World} (h : Keeps U a b) (k : Keeps U b c) : Keeps U a c :=
  ⟨Nat.le_trans h.size k.size, fun i hi hu => (k.block i (Nat.lt_of_lt_of_le hi h.size) hu).trans (h.block i hi hu)⟩
theorem Keeps.mono {U V : Nat → Prop} {a b : World} (h : Keeps U a b) (hv : ∀ k, V k → U k) : Keeps V a b := ⟨h.size, fun i hi hu => h.block i hi (hv i hu)⟩
theorem Only.keeps {U V : Nat → Prop} {a b : World} (h : Only V a b) (hUV : ∀ k, k < a.heap.size → U k → ¬ V k) : Keeps U a b := ⟨h.size, fun k hk hu => h.block k hk (hUV k hk hu)⟩
theorem Keeps.setCell (U : Nat → Prop) (a : World) {p : Addr} (hp : ¬ U p.block) (v : Value) : Keeps U a (a.setCell p v) :=
  ((Only.refl (fun k => ¬ U k) a).setCell hp v).keeps (fun _ _ h h' => h' h)
theorem Keeps.alloc (U : Nat → Prop) (a : World) (o : Obj) : Keeps U a (a.alloc o) := ((Only.refl (fun k => ¬ U k) a).alloc o).keeps (fun _ _ h h' => h' h)
theorem Keeps.drew (U : Nat → Prop) (a : World) : Keeps U a a.drew := ⟨Nat.le_refl _, fun _ _ _ => rfl⟩
theorem Keeps.cell {U : Nat → Prop} {a b : World} (h : Keeps U a b) {p : Addr} {v : Value} (hc : a.cell? p = some v) (hp : U p.block) : b.cell? p = some v :=
  (World.cell?_of_block (h.block p.block (World.block_lt_of_cell? a p hc) hp)).trans hc
theorem Keeps.boxed {U : Nat → Prop} {a b : World} (h : Keeps U a b) {B : Nat} {t : TypeId} {v : Value} (hc : Boxed a B t v) (hp : U B) : Boxed b B t v :=
  (h.block B hc.lt hp).trans hc

theorem only1 (B : Nat) (w : World) (v : Value) : Only (fun b => b = B) w (w.setCell ⟨B, 0, none⟩ v) := by
  have h : (fun b => b = B) (⟨B, 0, none⟩ : Addr).block := rfl
  exact (Only.refl (fun b => b = B) w).setCell h v
theorem only2 (B : Nat) (w : World) (v v' : Value) : Only (fun b => b = B) w ((w.setCell ⟨B, 0, none⟩ v).setCell ⟨B, 0, none⟩ v') := (only1 B w v).trans (only1 B _ v')
/-- a call of yield that the iterator makes: the round, and what is left behind it -/
theorem yield_at {P : Program} {l : Nat} {o : Oper} {a : Act} {next : Act → World → Prop} {Q : Exit → Act → World → Prop} {args : Array Value} {W : World} {R : Ending → World → Prop} (h : YieldAt Fence.wide 0 P l args W R)
    (hr : ∀ e w', R e w' → match e with | .returned v => next (a.put o.dst v) w' | _ => False) : o.uponIn Fence.wide 0 P a next Q (Sem.run P (Instr.yield l args) W) := by
  obtain ⟨fn, tmps, assign, body, hy, hR⟩ := h
  rw [hy]
  refine ⟨fun h => by simp [Fence.wide] at h, hR.mono ?_⟩
  intro e w' h
  have := hr e w' h
  cases e with
  | returned v => exact this
  | panicked c => exact this.elim
  | outgrown => exact this.elim

/-- THE CONTRACT OF AN ITERATOR VALUE (closure gf with what it has captured, lb), made in w: it hands xs over, one by one; it writes blocks in U alone, and relies on these alone. -/
def Iter {α : Type} (P : Program) (gf : Nat) (lb : Array Value) (encs : α → Array Value) (xs : List α) (U : Nat → Prop) (w : World) : Prop :=
  ∀ (l : Nat) (J Jx : Nat → World → Prop) (W : World), Keeps U w W →
    (∀ k A B, J k A → Only U A B → J k B) → (∀ k A B, Jx k A → Only U A B → Jx k B) →
    (∀ k x A, xs[k]? = some x → J k A → YieldAt Fence.wide 0 P l (encs x) A fun e A' =>
      (e = .returned (.bool true) ∧ J (k + 1) A' ∧ Keeps U A A') ∨ (e = .returned (.bool false) ∧ Jx k A')) →
    J 0 W →
    CallsIn Fence.wide 0 P gf (#[.func (.yield l) #[] #[]] ++ lb) W fun e W' => (∃ v, e = .returned v) ∧ (J xs.length W' ∨ ∃ k x, xs[k]? = some x ∧ Jx k W')

/-- How a round's body may be left. V: the blocks that it must keep. -/
def outs (V : Nat → Prop) (I : Nat → World → Prop) (Ix : Code → Nat → World → Prop) (k : Nat) (W : World) : Exit → Act → World → Prop
  | .normal, _, W' => Keeps V W W' ∧ I (k + 1) W'
  | .ret, _, W' => Keeps V W W' ∧ Ix .ret k W'
  | .exit id, _, W' => Keeps V W W' ∧ Ix (.exit id) k W'
  | .goto t, _, W' => Keeps V W W' ∧ Ix (.goto t) k W'
  | .panic _, _, _ => False
  | .outgrown, _, _ => False

section
variable {P : Program}

/-- An outermost loop. -/
theorem range_outer {α : Type} {g : Operand} {ps : Array Tmp} {assign body : Code} {Q : Exit → Act → World → Prop} {a : Act} {w : World}
    {gf : Nat} {lb : Array Value} (hg : a.eval g = .func (.func gf) #[] lb) (eg : ∀ args w, (callFunc gf args).run P w = .ok (.enter gf args) w)
    {encs : α → Array Value} {xs : List α} {U : Nat → Prop} (hseq : Iter P gf lb encs xs U w) (hU : ∀ k, U k → k < w.heap.size) (hps : ∀ x, (encs x).size = ps.size)
    (I : Nat → World → Prop) (Ix : Code → Nat → World → Prop)
    (hI : ∀ k A B, I k A → Only (fun b => U b ∨ b = w.heap.size ∨ b = w.heap.size + 1) A B → I k B)
    (hIx : ∀ c k A B, Ix c k A → Only (fun b => U b ∨ b = w.heap.size ∨ b = w.heap.size + 1) A B → Ix c k B)
    (h0 : I 0 w) (Ax : α → Act → World → Prop) (hAx : ∀ x a' A B, Ax x a' A → Only (fun b => U b ∨ b = w.heap.size ∨ b = w.heap.size + 1) A B → Ax x a' B)
    (hassign : ∀ (l k : Nat) (x : α) (W : World) (K : Act → World → Prop), xs[k]? = some x → I k W → w.heap.size + 1 < W.heap.size →
      (∀ a' W', Keeps (fun b => U b ∨ b = w.heap.size ∨ b = w.heap.size + 1) W W' → I k W' → Ax x a' W' → K a' W') →
      assign.wpIn (Fence.wide.inRound l) 0 P (Exit.then K (fun _ _ _ => False)) { tmps := (ps.zip (encs x)).foldl (fun t (p, v) => t.setIfInBounds p v) a.tmps, defers := [] } W)
    (hbody : ∀ (l k : Nat) (x : α) (a' : Act) (W : World), xs[k]? = some x → l = w.heap.size + 1 → (∃ r, W.heap[l]? = some (.loop r)) → I k W → Ax x a' W →
      body.wpIn (Fence.wide.inRound l) 0 P (outs (fun b => U b ∨ b = w.heap.size ∨ b = w.heap.size + 1) I Ix k W) a' W)
    (hdone : ∀ (W : World), I xs.length W → W.heap[w.heap.size]? = some (.deferred (some [])) → Q .normal { a with defers := { target := .collected w.heap.size, args := #[] } :: a.defers } W)
    (hstop : ∀ (c : Code) (k : Nat) (x : α) (W : World), xs[k]? = some x → Ix c k W → W.heap[w.heap.size]? = some (.deferred (some [])) → c.wpIn Fence.wide 0 P Q { a with defers := { target := .collected w.heap.size, args := #[] } :: a.defers } W) :
    (Code.rangeFunc g ps assign body).wpIn Fence.wide 0 P Q a w := by
  have hd : Fence.wide.depth.isSome = true → 1 ≤ 0 := fun h => by simp [Fence.wide] at h
  refine wpIn_rangeFunc ?_
  intro fn _
  rw [show Fence.wide.round = none from rfl]
  obtain ⟨V, hV⟩ : ∃ V : Nat → Prop, V = fun b => U b ∨ b = w.heap.size ∨ b = w.heap.size + 1 := ⟨_, rfl⟩
  rw [← hV] at hI hIx hAx hassign hbody
  obtain ⟨rec, hrec⟩ : ∃ rec : LoopState → Option Code → Loop, rec = fun st pe => { state := st, pending := pe, fn, tmps := a.tmps, params := ps, assign, body, defers := w.heap.size } := ⟨_, rfl⟩
  obtain ⟨W1, hW1⟩ : ∃ W1, (w.alloc (.deferred (some []))).alloc (.loop (rec .ready none)) = W1 := ⟨_, rfl⟩
  have hL1 : W1.heap[w.heap.size + 1]? = some (.loop (rec .ready none)) := by
    rw [← hW1]; have := World.alloc_heap_new (w.alloc (.deferred (some []))) (.loop (rec .ready none)); rwa [World.size_alloc] at this
  have hK1 : W1.heap[w.heap.size]? = some (.deferred (some [])) := by
    rw [← hW1]; exact (Below.heap_alloc _ _ _ (by simp)).trans (World.alloc_heap_new w _)
  have hon1 : ∀ S : Nat → Prop, Only S w W1 := fun S => by rw [← hW1]; exact ((Only.refl S w).alloc _).alloc _
  have hI1 : I 0 W1 := hI 0 w W1 h0 (hon1 V)
  have hVd : V w.heap.size := by rw [hV]; exact .inr (.inl rfl)
  have hVl : V (w.heap.size + 1) := by rw [hV]; exact .inr (.inr rfl)
  have hUV : ∀ k, U k → V k := fun k h => by rw [hV]; exact .inl h
  have hUd : ¬ U w.heap.size := fun h => by have := hU _ h; omega
  have hUl : ¬ U (w.heap.size + 1) := fun h => by have := hU _ h; omega
  have onV : ∀ {A B : World}, Only U A B → Only V A B := fun h => h.mono (fun k _ hk => hUV k hk)
  have keepB : ∀ {A B : World} {r : Nat} {o : Obj}, Only U A B → ¬ U r → A.heap[r]? = some o → B.heap[r]? = some o := fun h hr ho => (h.block _ (Array.getElem?_eq_some_iff.1 ho).1 hr).trans ho
  have keepV : ∀ {A B : World} {r : Nat} {o : Obj}, Keeps V A B → V r → A.heap[r]? = some o → B.heap[r]? = some o := fun h hr ho => (h.block _ (Array.getElem?_eq_some_iff.1 ho).1 hr).trans ho
  refine ⟨w.heap.size + 1, [{ target := .collected w.heap.size, args := #[] }], W1, { target := .fn (.func gf) lb, args := #[.func (.yield (w.heap.size + 1)) #[] #[]] }, W1, gf,
    #[.func (.yield (w.heap.size + 1)) #[] #[]] ++ lb, W1, ?_, ?_, ?_, ?_, hd, ?_⟩
  · rw [← hW1, hrec]; exact run_enterLoop_outer _ _ _ _ _
  · simp only [resolve, hg]
    simp [go_sem]
  · intro f' _; trivial
  · simp [invoke, go_sem, eg]
  · refine (hseq (w.heap.size + 1)
      (fun k W => I k W ∧ W.heap[w.heap.size + 1]? = some (.loop (rec .ready none)) ∧ W.heap[w.heap.size]? = some (.deferred (some [])))
      (fun k W => ∃ c, Ix c k W ∧ W.heap[w.heap.size + 1]? = some (.loop (rec .done (some c))) ∧ W.heap[w.heap.size]? = some (.deferred (some [])))
      W1 ((hon1 (fun k => ¬ U k)).keeps (fun _ _ h h' => h' h))
      (fun k A B hs h => ⟨hI k A B hs.1 (onV h), keepB h hUl hs.2.1, keepB h hUd hs.2.2⟩)
      (fun k A B hs h => by
        obtain ⟨c, hc, hl, hk⟩ := hs
        exact ⟨c, hIx c k A B hc (onV h), keepB h hUl hl, keepB h hUd hk⟩)
      ?_ ⟨hI1, hL1, hK1⟩).mono ?_
    · rintro k x W hx ⟨hi, hl, hk⟩
      have hlt : w.heap.size + 1 < W.heap.size := (Array.getElem?_eq_some_iff.1 hl).1
      have hy := run_yield (P := P) (args := encs x) hl (by rw [hrec]; exact hps x)
      rw [hrec] at hy
      refine ⟨fn, _, assign, body, hy, roundIn_of_wpIn trivial (hassign _ k x W _ hx hi hlt ?_)⟩
      clear hy
      intro a' Wa hkfa hia hax
      have hl' := keepV hkfa hVl hl
      have hk' := keepV hkfa hVd hk
      have hlt' : w.heap.size + 1 < Wa.heap.size := (Array.getElem?_eq_some_iff.1 hl').1
      refine ⟨_, run_beginRound hl' (by rw [hrec]), ?_⟩
      have on2 : Only V Wa (Wa.putObj (w.heap.size + 1) (.loop { rec .ready none with state := .busy })) := (Only.refl V Wa).putObj hVl _
      have hl2 : (Wa.putObj (w.heap.size + 1) (.loop { rec .ready none with state := .busy })).heap[w.heap.size + 1]? = some (.loop { rec .ready none with state := .busy }) := World.putObj_heap_same hlt'
      have hk2 : (Wa.putObj (w.heap.size + 1) (.loop { rec .ready none with state := .busy })).heap[w.heap.size]? = some (.deferred (some [])) := (World.putObj_heap_other (by omega)).trans hk'
      have hu2 : Keeps U Wa (Wa.putObj (w.heap.size + 1) (.loop { rec .ready none with state := .busy })) :=
        ((Only.refl (fun k => ¬ U k) Wa).putObj hUl _).keeps (fun _ _ h h' => h' h)
      refine wpIn_mono (hbody _ k x a' _ hx rfl ⟨_, hl2⟩ (hI k _ _ hia on2) (hAx x a' _ _ hax on2)) ?_
      have fin : ∀ (jump : Option Code) (W3 : World), Keeps V (Wa.putObj (w.heap.size + 1) (.loop { rec .ready none with state := .busy })) W3 →
          (Instr.endRound (w.heap.size + 1) jump).run P W3 = .ok (.bool jump.isNone) (W3.putObj (w.heap.size + 1) (.loop (rec (if jump.isNone then .ready else .done) jump))) ∧
          Only V W3 (W3.putObj (w.heap.size + 1) (.loop (rec (if jump.isNone then .ready else .done) jump))) ∧
          (W3.putObj (w.heap.size + 1) (.loop (rec (if jump.isNone then .ready else .done) jump))).heap[w.heap.size + 1]? = some (.loop (rec (if jump.isNone then .ready else .done) jump)) ∧
          (W3.putObj (w.heap.size + 1) (.loop (rec (if jump.isNone then .ready else .done) jump))).heap[w.heap.size]? = some (.deferred (some [])) ∧
          Keeps U W (W3.putObj (w.heap.size + 1) (.loop (rec (if jump.isNone then .ready else .done) jump))) := fun jump W3 hk3 => by
        have hl3 := keepV hk3 hVl hl2
        have := run_endRound (P := P) jump hl3
        rw [hrec] at this ⊢
        exact ⟨this, (Only.refl V W3).putObj hVl _, World.putObj_heap_same (Array.getElem?_eq_some_iff.1 hl3).1, (World.putObj_heap_other (by omega)).trans (keepV hk3 hVd hk2),
          (((hkfa.mono hUV).trans (by rw [hrec] at hu2; exact hu2)).trans (by rw [hrec] at hk3; exact hk3.mono hUV)).trans (((Only.refl (fun k => ¬ U k) W3).putObj hUl _).keeps (fun _ _ h h' => h' h))⟩
      rintro e a3 W3 hp
      cases e with
      | normal =>
        obtain ⟨hk3, hi3⟩ := hp
        obtain ⟨hr, ho3, hl4, hk4, hu4⟩ := fin none W3 hk3
        exact ⟨_, _, hr, .inl ⟨rfl, ⟨hI _ _ _ hi3 ho3, hl4, hk4⟩, hu4⟩⟩
      | ret =>
        obtain ⟨hk3, hi3⟩ := hp
        obtain ⟨hr, ho3, hl4, hk4, hu4⟩ := fin (some .ret) W3 hk3
        exact ⟨_, _, hr, .inr ⟨rfl, .ret, hIx _ _ _ _ hi3 ho3, hl4, hk4⟩⟩
      | exit id =>
        obtain ⟨hk3, hi3⟩ := hp
        obtain ⟨hr, ho3, hl4, hk4, hu4⟩ := fin (some (.exit id)) W3 hk3
        exact ⟨_, _, hr, .inr ⟨rfl, .exit id, hIx _ _ _ _ hi3 ho3, hl4, hk4⟩⟩
      | goto t =>
        obtain ⟨hk3, hi3⟩ := hp
        obtain ⟨hr, ho3, hl4, hk4, hu4⟩ := fin (some (.goto t)) W3 hk3
        exact ⟨_, _, hr, .inr ⟨rfl, .goto t, hIx _ _ _ _ hi3 ho3, hl4, hk4⟩⟩
      | panic ch => exact hp.elim
      | outgrown => exact hp.elim
    · rintro e W2 ⟨⟨v, rfl⟩, (⟨hi, hl, hk⟩ | ⟨k, x, hx, c, hi, hl, hk⟩)⟩
      · exact ⟨none, _, by have := run_endLoop (P := P) hl (by rw [hrec]; simp); rw [hrec] at this; exact this, hdone _ (hI _ _ _ hi ((Only.refl V W2).putObj hVl _)) ((World.putObj_heap_other (by omega)).trans hk)⟩
      · exact ⟨some c, _, by have := run_endLoop (P := P) hl (by rw [hrec]; simp); rw [hrec] at this; exact this, hstop c k x _ hx (hIx _ _ _ _ hi ((Only.refl V W2).putObj hVl _)) ((World.putObj_heap_other (by omega)).trans hk)⟩

/-- A loop in the round of another. -/
theorem range_inner {α : Type} {g : Operand} {ps : Array Tmp} {assign body : Code} {Q : Exit → Act → World → Prop} {a : Act} {w : World} {l₀ : Nat} {r₀ : Loop} (hl₀ : w.heap[l₀]? = some (.loop r₀))
    {gf : Nat} {lb : Array Value} (hg : a.eval g = .func (.func gf) #[] lb) (eg : ∀ args w, (callFunc gf args).run P w = .ok (.enter gf args) w)
    {encs : α → Array Value} {xs : List α} {U : Nat → Prop} (hseq : Iter P gf lb encs xs U w) (hU : ∀ k, U k → k < w.heap.size) (hps : ∀ x, (encs x).size = ps.size)
    (I : Nat → World → Prop) (Ix : Code → Nat → World → Prop)
    (hI : ∀ k A B, I k A → Only (fun b => U b ∨ b = w.heap.size) A B → I k B)
    (hIx : ∀ c k A B, Ix c k A → Only (fun b => U b ∨ b = w.heap.size) A B → Ix c k B)
    (h0 : I 0 w) (Ax : α → Act → World → Prop) (hAx : ∀ x a' A B, Ax x a' A → Only (fun b => U b ∨ b = w.heap.size) A B → Ax x a' B)
    (hassign : ∀ (l k : Nat) (x : α) (W : World) (K : Act → World → Prop), xs[k]? = some x → I k W → w.heap.size < W.heap.size →
      (∀ a' W', Keeps (fun b => U b ∨ b = w.heap.size) W W' → I k W' → Ax x a' W' → K a' W') →
      assign.wpIn (Fence.wide.inRound l) 0 P (Exit.then K (fun _ _ _ => False)) { tmps := (ps.zip (encs x)).foldl (fun t (p, v) => t.setIfInBounds p v) a.tmps, defers := [] } W)
    (hbody : ∀ (l k : Nat) (x : α) (a' : Act) (W : World), xs[k]? = some x → l = w.heap.size → (∃ r, W.heap[l]? = some (.loop r)) → I k W → Ax x a' W →
      body.wpIn (Fence.wide.inRound l) 0 P (outs (fun b => U b ∨ b = w.heap.size) I Ix k W) a' W)
    (hdone : ∀ (W : World), I xs.length W → Q .normal a W)
    (hstop : ∀ (c : Code) (k : Nat) (x : α) (W : World), xs[k]? = some x → Ix c k W → c.wpIn (Fence.wide.inRound l₀) 0 P Q a W) :
    (Code.rangeFunc g ps assign body).wpIn (Fence.wide.inRound l₀) 0 P Q a w := by
  have hd : (Fence.wide.inRound l₀).depth.isSome = true → 1 ≤ 0 := fun h => by simp [Fence.wide] at h
  refine wpIn_rangeFunc ?_
  intro fn _
  rw [show (Fence.wide.inRound l₀).round = some l₀ from rfl]
  obtain ⟨V, hV⟩ : ∃ V : Nat → Prop, V = fun b => U b ∨ b = w.heap.size := ⟨_, rfl⟩
  rw [← hV] at hI hIx hAx hassign hbody
  obtain ⟨rec, hrec⟩ : ∃ rec : LoopState → Option Code → Loop, rec = fun st pe => { state := st, pending := pe, fn, tmps := a.tmps, params := ps, assign, body, defers := r₀.defers } := ⟨_, rfl⟩
  obtain ⟨W1, hW1⟩ : ∃ W1, w.alloc (.loop (rec .ready none)) = W1 := ⟨_, rfl⟩
  have hL1 : W1.heap[w.heap.size]? = some (.loop (rec .ready none)) := by rw [← hW1]; exact World.alloc_heap_new w _
  have hon1 : ∀ S : Nat → Prop, Only S w W1 := fun S => by rw [← hW1]; exact (Only.refl S w).alloc _
  have hI1 : I 0 W1 := hI 0 w W1 h0 (hon1 V)
  have hVl : V w.heap.size := by rw [hV]; exact .inr rfl
  have hUV : ∀ k, U k → V k := fun k h => by rw [hV]; exact .inl h
  have hUl : ¬ U w.heap.size := fun h => by have := hU _ h; omega
  have onV : ∀ {A B : World}, Only U A B → Only V A B := fun h => h.mono (fun k _ hk => hUV k hk)
  have keepB : ∀ {A B : World} {r : Nat} {o : Obj}, Only U A B → ¬ U r → A.heap[r]? = some o → B.heap[r]? = some o := fun h hr ho => (h.block _ (Array.getElem?_eq_some_iff.1 ho).1 hr).trans ho
  have keepV : ∀ {A B : World} {r : Nat} {o : Obj}, Keeps V A B → V r → A.heap[r]? = some o → B.heap[r]? = some o := fun h hr ho => (h.block _ (Array.getElem?_eq_some_iff.1 ho).1 hr).trans ho
  refine ⟨w.heap.size, [], W1, { target := .fn (.func gf) lb, args := #[.func (.yield w.heap.size) #[] #[]] }, W1, gf,
    #[.func (.yield w.heap.size) #[] #[]] ++ lb, W1, ?_, ?_, ?_, ?_, hd, ?_⟩
  · rw [← hW1, hrec]; exact run_enterLoop_inner hl₀ _ _ _ _ _
  · simp only [resolve, hg]
    simp [go_sem]
  · intro f' _; trivial
  · simp [invoke, go_sem, eg]
  · refine (CallsIn.inRound l₀ (hseq w.heap.size
      (fun k W => I k W ∧ W.heap[w.heap.size]? = some (.loop (rec .ready none)))
      (fun k W => ∃ c, Ix c k W ∧ W.heap[w.heap.size]? = some (.loop (rec .done (some c))))
      W1 ((hon1 (fun k => ¬ U k)).keeps (fun _ _ h h' => h' h))
      (fun k A B hs h => ⟨hI k A B hs.1 (onV h), keepB h hUl hs.2⟩)
      (fun k A B hs h => by
        obtain ⟨c, hc, hl⟩ := hs
        exact ⟨c, hIx c k A B hc (onV h), keepB h hUl hl⟩)
      ?_ ⟨hI1, hL1⟩)).mono ?_
    · rintro k x W hx ⟨hi, hl⟩
      have hlt : w.heap.size < W.heap.size := (Array.getElem?_eq_some_iff.1 hl).1
      have hy := run_yield (P := P) (args := encs x) hl (by rw [hrec]; exact hps x)
      rw [hrec] at hy
      refine ⟨fn, _, assign, body, hy, roundIn_of_wpIn trivial (hassign _ k x W _ hx hi hlt ?_)⟩
      clear hy
      intro a' Wa hkfa hia hax
      have hl' := keepV hkfa hVl hl
      have hlt' : w.heap.size < Wa.heap.size := (Array.getElem?_eq_some_iff.1 hl').1
      refine ⟨_, run_beginRound hl' (by rw [hrec]), ?_⟩
      have on2 : Only V Wa (Wa.putObj w.heap.size (.loop { rec .ready none with state := .busy })) := (Only.refl V Wa).putObj hVl _
      have hl2 : (Wa.putObj w.heap.size (.loop { rec .ready none with state := .busy })).heap[w.heap.size]? = some (.loop { rec .ready none with state := .busy }) := World.putObj_heap_same hlt'
      have hu2 : Keeps U Wa (Wa.putObj w.heap.size (.loop { rec .ready none with state := .busy })) :=
        ((Only.refl (fun k => ¬ U k) Wa).putObj hUl _).keeps (fun _ _ h h' => h' h)
      refine wpIn_mono (hbody _ k x a' _ hx rfl ⟨_, hl2⟩ (hI k _ _ hia on2) (hAx x a' _ _ hax on2)) ?_
      have fin : ∀ (jump : Option Code) (W3 : World), Keeps V (Wa.putObj w.heap.size (.loop { rec .ready none with state := .busy })) W3 →
          (Instr.endRound w.heap.size jump).run P W3 = .ok (.bool jump.isNone) (W3.putObj w.heap.size (.loop (rec (if jump.isNone then .ready else .done) jump))) ∧
          Only V W3 (W3.putObj w.heap.size (.loop (rec (if jump.isNone then .ready else .done) jump))) ∧
          (W3.putObj w.heap.size (.loop (rec (if jump.isNone then .ready else .done) jump))).heap[w.heap.size]? = some (.loop (rec (if jump.isNone then .ready else .done) jump)) ∧
          Keeps U W (W3.putObj w.heap.size (.loop (rec (if jump.isNone then .ready else .done) jump))) := fun jump W3 hk3 => by
        have hl3 := keepV hk3 hVl hl2
        have := run_endRound (P := P) jump hl3
        rw [hrec] at this ⊢
        exact ⟨this, (Only.refl V W3).putObj hVl _, World.putObj_heap_same (Array.getElem?_eq_some_iff.1 hl3).1,
          (((hkfa.mono hUV).trans (by rw [hrec] at hu2; exact hu2)).trans (by rw [hrec] at hk3; exact hk3.mono hUV)).trans (((Only.refl (fun k => ¬ U k) W3).putObj hUl _).keeps (fun _ _ h h' => h' h))⟩
      rintro e a3 W3 hp
      cases e with
      | normal =>
        obtain ⟨hk3, hi3⟩ := hp
        obtain ⟨hr, ho3, hl4, hu4⟩ := fin none W3 hk3
        exact ⟨_, _, hr, .inl ⟨rfl, ⟨hI _ _ _ hi3 ho3, hl4⟩, hu4⟩⟩
      | ret =>
        obtain ⟨hk3, hi3⟩ := hp
        obtain ⟨hr, ho3, hl4, hu4⟩ := fin (some .ret) W3 hk3
        exact ⟨_, _, hr, .inr ⟨rfl, .ret, hIx _ _ _ _ hi3 ho3, hl4⟩⟩
      | exit id =>
        obtain ⟨hk3, hi3⟩ := hp
        obtain ⟨hr, ho3, hl4, hu4⟩ := fin (some (.exit id)) W3 hk3
        exact ⟨_, _, hr, .inr ⟨rfl, .exit id, hIx _ _ _ _ hi3 ho3, hl4⟩⟩
      | goto t =>
        obtain ⟨hk3, hi3⟩ := hp
        obtain ⟨hr, ho3, hl4, hu4⟩ := fin (some (.goto t)) W3 hk3
        exact ⟨_, _, hr, .inr ⟨rfl, .goto t, hIx _ _ _ _ hi3 ho3, hl4⟩⟩
      | panic ch => exact hp.elim
      | outgrown => exact hp.elim
    · rintro e W2 ⟨⟨v, rfl⟩, (⟨hi, hl⟩ | ⟨k, x, hx, c, hi, hl⟩)⟩
      · exact ⟨none, _, by have := run_endLoop (P := P) hl (by rw [hrec]; simp); rw [hrec] at this; exact this, hdone _ (hI _ _ _ hi ((Only.refl V W2).putObj hVl _))⟩
      · exact ⟨some c, _, by have := run_endLoop (P := P) hl (by rw [hrec]; simp); rw [hrec] at this; exact this, hstop c k x _ hx (hIx _ _ _ _ hi ((Only.refl V W2).putObj hVl _))⟩
end

/-- The marks that ranges over functions have left on an activation: each names a block for deferred calls that holds none; the later, the higher. -/
def Marks (n₀ : Nat) : List Deferred → World → Prop
  | [], _ => True
  | d :: ds, W => ∃ r, d = { target := .collected r, args := #[] } ∧ n₀ ≤ r ∧ W.heap[r]? = some (.deferred (some [])) ∧ (∀ d' ∈ ds, ∀ r', d' = { target := .collected r', args := #[] } → r' < r) ∧ Marks n₀ ds W
theorem Marks.lt {n₀ : Nat} : ∀ {ds : List Deferred} {W : World}, Marks n₀ ds W → ∀ d' ∈ ds, ∀ r', d' = { target := .collected r', args := #[] } → r' < W.heap.size
  | [], _, _ => fun d' h => by cases h
  | d :: ds, W, ⟨r, hd, _, ho, _, hm⟩ => fun d' h r' e => by
    rcases List.mem_cons.1 h with rfl | h
    · rw [hd] at e; cases e; exact (Array.getElem?_eq_some_iff.1 ho).1
    · exact hm.lt d' h r' e
theorem Marks.only {n₀ : Nat} {U : Nat → Prop} : ∀ {ds : List Deferred} {W W' : World}, Marks n₀ ds W → Only U W W' → (∀ k, n₀ ≤ k → k < W.heap.size → ¬ U k) → Marks n₀ ds W'
  | [], _, _, _, _, _ => trivial
  | d :: ds, W, W', ⟨r, hd, hn, ho, hl, hm⟩, h, hU => by
    have hlt := (Array.getElem?_eq_some_iff.1 ho).1
    exact ⟨r, hd, hn, (h.block r hlt (hU r hn hlt)).trans ho, hl, hm.only h hU⟩
theorem Marks.cons {n₀ : Nat} {ds : List Deferred} {W : World} {r : Nat} (h : Marks n₀ ds W) (hr : W.heap[r]? = some (.deferred (some []))) (hn : n₀ ≤ r) (hl : ∀ d' ∈ ds, ∀ r', d' = { target := .collected r', args := #[] } → r' < r) : Marks n₀ ({ target := .collected r, args := #[] } :: ds) W :=
  ⟨r, rfl, hn, hr, hl, h⟩
theorem Marks.leaves {n₀ : Nat} {F : Fence} {n : Nat} {P : Program} {fn : Func} {tmps : Array Value} {R : Ending → World → Prop} : ∀ {ds : List Deferred} {W : World}, Marks n₀ ds W →
    (∀ W', Only (fun k => n₀ ≤ k ∧ ∃ o, W.heap[k]? = some o ∧ o.isCells = false) W W' → LeavesIn F n P fn tmps R [] .returning W') → LeavesInM F n P fn tmps R ds .returning W
  | [], W, _, h => h W (Only.refl _ _)
  | d :: ds, W, ⟨r, hd, hn, ho, hl, hm⟩, h => by
    subst hd
    refine ⟨by simp, .inl ⟨r, _, rfl, run_takeDeferred ho, ?_⟩⟩
    have h1 : Only (fun k => k = r) W (W.putObj r (.deferred none)) := (Only.refl (fun k => k = r) W).putObj (show (fun k => k = r) r from rfl) _
    have hm' : Marks n₀ ds (W.putObj r (.deferred none)) := by
      clear h ho
      revert hm hl h1
      induction ds with
      | nil => intros; trivial
      | cons d ds ih =>
        rintro hl ⟨r', hd', hn', ho', hl', hm'⟩ h1
        have hne : r' < r := hl d (by simp) r' hd'
        exact ⟨r', hd', hn', (World.putObj_heap_other (by omega)).trans ho', hl', ih (fun d' hm r'' e => hl d' (by simp [hm]) r'' e) hm' h1⟩
    refine hm'.leaves fun W' hW' => h W' ((h1.mono (fun k _ e => ?_)).trans (hW'.mono (fun k hk e => ?_)))
    · subst e; exact ⟨hn, _, ho, rfl⟩
    · obtain ⟨hk0, o, ho2, hc⟩ := e
      refine ⟨hk0, ?_⟩
      by_cases hkr : k = r
      · subst hkr; exact ⟨_, ho, rfl⟩
      · rw [World.putObj_heap_other hkr] at ho2; exact ⟨o, ho2, hc⟩

theorem Only.row {U : Nat → Prop} {w w' : World} {base : Nat} {e : TypeId} {size n : Nat} {v : Value} {xs : List Value} (h : w.ownsRow base e size v n xs) (ho : Only U w w') (hU : ∀ k, base ≤ k → ¬ U k) : w'.ownsRow base e size v n xs := by
  obtain ⟨h1, h2⟩ := h
  refine ⟨h1, ?_⟩
  rcases h2 with h2 | ⟨g, cap, cur, hv, hb, hg, rest⟩
  · exact .inl h2
  · exact .inr ⟨g, cap, cur, hv, hb, (ho.block g (Array.getElem?_eq_some_iff.1 hg).1 (hU g hb)).trans hg, rest⟩
/-- 'out = append(out, ..)', out in a box: behind the append's law. -/
theorem append_step {W w1 : World} {B base : Nat} {t e : TypeId} {size : Nat} {v v' : Value} {k m : Nat} {xs ys : List Value} {tmp : Obj}
    (hv : Boxed W B t v) (hte : t ≠ e) (hrow : W.ownsRow base e size v k xs) (hown' : w1.ownsRow base e size v' m ys) (hgrow : (W.alloc tmp).grownBy w1 v.ownBlock) :
    Boxed w1 B t v ∧ Boxed (w1.setCell ⟨B, 0, none⟩ v') B t v' ∧ (w1.setCell ⟨B, 0, none⟩ v').ownsRow base e size v' m ys ∧ Only (fun q => q = B ∨ base ≤ q) W (w1.setCell ⟨B, 0, none⟩ v') := by
  have hv1 : Boxed w1 B t v := (hv.alloc tmp).kept hgrow (hv.not_row hte hrow)
  refine ⟨hv1, hv1.set v', hown'.kept (grownBy_setCell' w1 B v') (.inr (hv1.not_row hte hown').symm), ?_⟩
  have h1 : Only (fun q => q = B ∨ base ≤ q) W w1 := ((Only.refl _ W).alloc tmp).of_grown hgrow fun k ek _ => by
    rcases hrow.2 with ⟨rfl, _⟩ | ⟨g, cap, cur, rfl, hb, _⟩
    · simp [Value.ownBlock] at ek
    · obtain rfl : g = k := by simpa [Value.ownBlock] using ek
      exact .inr hb
  have hB : (fun q => q = B ∨ base ≤ q) (⟨B, 0, none⟩ : Addr).block := .inl rfl
  exact h1.setCell hB v'

/-- '[]byte(s)' of a string that is no constant. -/
theorem Only.bytesWorld {U : Nat → Prop} (w : World) (e : TypeId) (s : ByteArray) : Only U w (Lib.bytesWorld w e s) :=
  ⟨rfl, rfl, rfl, by rw [Lib.bytesWorld_size]; omega, fun k hk _ => Lib.bytesWorld_at_old w e s k hk⟩
theorem bytes_free (w : World) (e : TypeId) (s : ByteArray) (j : Nat) (hj : j < s.size) : (Lib.bytesWorld w e s).frozen? ⟨w.heap.size, j, none⟩ = false := by
  have h : s.size ≤ (Lib.bytesCells w e s).size := by simp [Lib.bytesCells]
  simp [World.frozen?, Lib.bytesWorld_at_new]
  omega
theorem wpListIn_bytes {F : Fence} {n : Nat} {P : Program} (w : World) {ops : Array Oper} {rest : List Oper} {o : Oper} {a : Act} {Q : Exit → Act → World → Prop}
    (hg : o.guard = none) (src dst : TypeId) (x : Operand) (hop : o.op = Op.convert src dst x) (e : TypeId) (s : ByteArray) (hx : a.eval x = .string s)
    (hs : P.underlying src = some .string) (hd : P.underlying dst = some (.slice e)) (he : P.underlying e = some (.int .u8))
    (hK : ∀ cap w', (∀ U, Only U w w') → w'.heap.size = w.heap.size + 1 → (∀ j, j < s.size → w'.cell? ⟨w.heap.size, j, none⟩ = some (.int .u8 (s.data.toList.getD j 0).toNat)) → (∀ j, j < s.size → w'.frozen? ⟨w.heap.size, j, none⟩ = false) →
      wpListIn F n P ops Q rest (a.put o.dst (.slice (some ⟨w.heap.size, 0, none⟩) s.size cap)) w') :
    wpListIn F n P ops Q (o :: rest) a w := by
  refine wpListIn_plain hg fun K hK' => ?_
  unfold Oper.wpIn
  refine ⟨?_, ?_⟩
  · simp [Oper.about, hop]
  · rw [Oper.semAt_plain F _ _ (by rw [hop]; intro c hc'; cases hc')]
    simp [execOp, hop, hx, Lib.run_convert_string_bytes (P := P) w src dst e s hs hd he, Result.andThen]
    exact hK' _ _ (hK _ _ (fun U => Only.bytesWorld w e s) (Lib.bytesWorld_size w e s) (fun j hj => Lib.bytesWorld_cell w e s j hj) (fun j hj => bytes_free w e s j hj))
theorem wpList_bytes {P : Program} (w : World) {ops : Array Oper} {rest : List Oper} {o : Oper} {a : Act} {Q : Exit → Act → World → Prop}
    (hg : o.guard = none) (src dst : TypeId) (x : Operand) (hop : o.op = Op.convert src dst x) (e : TypeId) (s : ByteArray) (hx : a.eval x = .string s)
    (hs : P.underlying src = some .string) (hd : P.underlying dst = some (.slice e)) (he : P.underlying e = some (.int .u8))
    (hK : ∀ cap w', (∀ U, Only U w w') → w'.heap.size = w.heap.size + 1 → (∀ j, j < s.size → w'.cell? ⟨w.heap.size, j, none⟩ = some (.int .u8 (s.data.toList.getD j 0).toNat)) → (∀ j, j < s.size → w'.frozen? ⟨w.heap.size, j, none⟩ = false) →
      wpList P ops Q rest (a.put o.dst (.slice (some ⟨w.heap.size, 0, none⟩) s.size cap)) w') :
    wpList P ops Q (o :: rest) a w := by
  refine wpList_plain hg fun K hK' => ?_
  unfold Oper.wp
  simp [execOp, hop, hx, Lib.run_convert_string_bytes (P := P) w src dst e s hs hd he, Result.andThen]
  exact hK' _ _ (hK _ _ (fun U => Only.bytesWorld w e s) (Lib.bytesWorld_size w e s) (fun j hj => Lib.bytesWorld_cell w e s j hj) (fun j hj => bytes_free w e s j hj))
end Go.Proofs.Ytokjhocjemjfiaa.Seq
namespace Go.Proofs.Ytokjhocjemjfiaa.Seq
open Go Go.RowKit
/-- THE CONTRACT OF AN ITERATOR VALUE: it hands xs over, one by one; of what lay it writes blocks in U alone; it relies on blocks in R. -/
def Iter2 {α : Type} (P : Program) (gf : Nat) (lb : Array Value) (encs : α → Array Value) (xs : List α) (U R : Nat → Prop) (w : World) : Prop :=
  ∀ (l : Nat) (J Jx : Nat → World → Prop) (W : World), Keeps R w W →
    (∀ k A B, J k A → Only U A B → J k B) → (∀ k A B, Jx k A → Only U A B → Jx k B) →
    (∀ k x A, xs[k]? = some x → J k A → YieldAt Fence.wide 0 P l (encs x) A fun e A' =>
      (e = .returned (.bool true) ∧ J (k + 1) A' ∧ Keeps R A A') ∨ (e = .returned (.bool false) ∧ Jx k A')) →
    J 0 W →
    CallsIn Fence.wide 0 P gf (#[.func (.yield l) #[] #[]] ++ lb) W fun e W' => (∃ v, e = .returned v) ∧ (J xs.length W' ∨ ∃ k x, xs[k]? = some x ∧ Jx k W')
section
variable {P : Program}
/-- An outermost loop. -/
theorem range_outer2 {α : Type} {g : Operand} {ps : Array Tmp} {assign body : Code} {Q : Exit → Act → World → Prop} {a : Act} {w : World}
    {gf : Nat} {lb : Array Value} (hg : a.eval g = .func (.func gf) #[] lb) (eg : ∀ args w, (callFunc gf args).run P w = .ok (.enter gf args) w)
    {encs : α → Array Value} {xs : List α} {U R : Nat → Prop} (hseq : Iter2 P gf lb encs xs U R w) (hU : ∀ k, U k → k < w.heap.size) (hR : ∀ k, R k → k < w.heap.size) (hps : ∀ x, (encs x).size = ps.size)
    (I : Nat → World → Prop) (Ix : Code → Nat → World → Prop)
    (hI : ∀ k A B, I k A → Only (fun b => U b ∨ b = w.heap.size ∨ b = w.heap.size + 1) A B → I k B)
    (hIx : ∀ c k A B, Ix c k A → Only (fun b => U b ∨ b = w.heap.size ∨ b = w.heap.size + 1) A B → Ix c k B)
    (h0 : I 0 w) (Ax : α → Act → World → Prop) (hAx : ∀ x a' A B, Ax x a' A → Only (fun b => U b ∨ b = w.heap.size ∨ b = w.heap.size + 1) A B → Ax x a' B)
    (hassign : ∀ (l k : Nat) (x : α) (W : World) (K : Act → World → Prop), xs[k]? = some x → I k W → w.heap.size + 1 < W.heap.size →
      (∀ a' W', Keeps (fun b => R b ∨ b = w.heap.size ∨ b = w.heap.size + 1) W W' → I k W' → Ax x a' W' → K a' W') →
      assign.wpIn (Fence.wide.inRound l) 0 P (Exit.then K (fun _ _ _ => False)) { tmps := (ps.zip (encs x)).foldl (fun t (p, v) => t.setIfInBounds p v) a.tmps, defers := [] } W)
    (hbody : ∀ (l k : Nat) (x : α) (a' : Act) (W : World), xs[k]? = some x → l = w.heap.size + 1 → (∃ r, W.heap[l]? = some (.loop r)) → I k W → Ax x a' W →
      body.wpIn (Fence.wide.inRound l) 0 P (outs (fun b => R b ∨ b = w.heap.size ∨ b = w.heap.size + 1) I Ix k W) a' W)
    (hdone : ∀ (W : World), I xs.length W → W.heap[w.heap.size]? = some (.deferred (some [])) → Q .normal { a with defers := { target := .collected w.heap.size, args := #[] } :: a.defers } W)
    (hstop : ∀ (c : Code) (k : Nat) (x : α) (W : World), xs[k]? = some x → Ix c k W → W.heap[w.heap.size]? = some (.deferred (some [])) → c.wpIn Fence.wide 0 P Q { a with defers := { target := .collected w.heap.size, args := #[] } :: a.defers } W) :
    (Code.rangeFunc g ps assign body).wpIn Fence.wide 0 P Q a w := by
  have hd : Fence.wide.depth.isSome = true → 1 ≤ 0 := fun h => by simp [Fence.wide] at h
  refine wpIn_rangeFunc ?_
  intro fn _
  rw [show Fence.wide.round = none from rfl]
  obtain ⟨V, hV⟩ : ∃ V : Nat → Prop, V = fun b => U b ∨ b = w.heap.size ∨ b = w.heap.size + 1 := ⟨_, rfl⟩
  obtain ⟨Vr, hVr⟩ : ∃ V : Nat → Prop, V = fun b => R b ∨ b = w.heap.size ∨ b = w.heap.size + 1 := ⟨_, rfl⟩
  rw [← hV] at hI hIx hAx
  rw [← hVr] at hassign hbody
  obtain ⟨rec, hrec⟩ : ∃ rec : LoopState → Option Code → Loop, rec = fun st pe => { state := st, pending := pe, fn, tmps := a.tmps, params := ps, assign, body, defers := w.heap.size } := ⟨_, rfl⟩
  obtain ⟨W1, hW1⟩ : ∃ W1, (w.alloc (.deferred (some []))).alloc (.loop (rec .ready none)) = W1 := ⟨_, rfl⟩
  have hL1 : W1.heap[w.heap.size + 1]? = some (.loop (rec .ready none)) := by
    rw [← hW1]; have := World.alloc_heap_new (w.alloc (.deferred (some []))) (.loop (rec .ready none)); rwa [World.size_alloc] at this
  have hK1 : W1.heap[w.heap.size]? = some (.deferred (some [])) := by
    rw [← hW1]; exact (Below.heap_alloc _ _ _ (by simp)).trans (World.alloc_heap_new w _)
  have hon1 : ∀ S : Nat → Prop, Only S w W1 := fun S => by rw [← hW1]; exact ((Only.refl S w).alloc _).alloc _
  have hI1 : I 0 W1 := hI 0 w W1 h0 (hon1 V)
  have hVd : V w.heap.size := by rw [hV]; exact .inr (.inl rfl)
  have hVl : V (w.heap.size + 1) := by rw [hV]; exact .inr (.inr rfl)
  have hRd : Vr w.heap.size := by rw [hVr]; exact .inr (.inl rfl)
  have hRl : Vr (w.heap.size + 1) := by rw [hVr]; exact .inr (.inr rfl)
  have hRV : ∀ k, R k → Vr k := fun k h => by rw [hVr]; exact .inl h
  have hRd2 : ¬ R w.heap.size := fun h => by have := hR _ h; omega
  have hRl2 : ¬ R (w.heap.size + 1) := fun h => by have := hR _ h; omega
  have hUV : ∀ k, U k → V k := fun k h => by rw [hV]; exact .inl h
  have hUd : ¬ U w.heap.size := fun h => by have := hU _ h; omega
  have hUl : ¬ U (w.heap.size + 1) := fun h => by have := hU _ h; omega
  have onV : ∀ {A B : World}, Only U A B → Only V A B := fun h => h.mono (fun k _ hk => hUV k hk)
  have keepB : ∀ {A B : World} {r : Nat} {o : Obj}, Only U A B → ¬ U r → A.heap[r]? = some o → B.heap[r]? = some o := fun h hr ho => (h.block _ (Array.getElem?_eq_some_iff.1 ho).1 hr).trans ho
  have keepV : ∀ {A B : World} {r : Nat} {o : Obj}, Keeps Vr A B → Vr r → A.heap[r]? = some o → B.heap[r]? = some o := fun h hr ho => (h.block _ (Array.getElem?_eq_some_iff.1 ho).1 hr).trans ho
  refine ⟨w.heap.size + 1, [{ target := .collected w.heap.size, args := #[] }], W1, { target := .fn (.func gf) lb, args := #[.func (.yield (w.heap.size + 1)) #[] #[]] }, W1, gf,
    #[.func (.yield (w.heap.size + 1)) #[] #[]] ++ lb, W1, ?_, ?_, ?_, ?_, hd, ?_⟩
  · rw [← hW1, hrec]; exact run_enterLoop_outer _ _ _ _ _
  · simp only [resolve, hg]
    simp [go_sem]
  · intro f' _; trivial
  · simp [invoke, go_sem, eg]
  · refine (hseq (w.heap.size + 1)
      (fun k W => I k W ∧ W.heap[w.heap.size + 1]? = some (.loop (rec .ready none)) ∧ W.heap[w.heap.size]? = some (.deferred (some [])))
      (fun k W => ∃ c, Ix c k W ∧ W.heap[w.heap.size + 1]? = some (.loop (rec .done (some c))) ∧ W.heap[w.heap.size]? = some (.deferred (some [])))
      W1 ((hon1 (fun k => ¬ R k)).keeps (fun _ _ h h' => h' h))
      (fun k A B hs h => ⟨hI k A B hs.1 (onV h), keepB h hUl hs.2.1, keepB h hUd hs.2.2⟩)
      (fun k A B hs h => by
        obtain ⟨c, hc, hl, hk⟩ := hs
        exact ⟨c, hIx c k A B hc (onV h), keepB h hUl hl, keepB h hUd hk⟩)
      ?_ ⟨hI1, hL1, hK1⟩).mono ?_
    · rintro k x W hx ⟨hi, hl, hk⟩
      have hlt : w.heap.size + 1 < W.heap.size := (Array.getElem?_eq_some_iff.1 hl).1
      have hy := run_yield (P := P) (args := encs x) hl (by rw [hrec]; exact hps x)
      rw [hrec] at hy
      refine ⟨fn, _, assign, body, hy, roundIn_of_wpIn trivial (hassign _ k x W _ hx hi hlt ?_)⟩
      clear hy
      intro a' Wa hkfa hia hax
      have hl' := keepV hkfa hRl hl
      have hk' := keepV hkfa hRd hk
      have hlt' : w.heap.size + 1 < Wa.heap.size := (Array.getElem?_eq_some_iff.1 hl').1
      refine ⟨_, run_beginRound hl' (by rw [hrec]), ?_⟩
      have on2 : Only V Wa (Wa.putObj (w.heap.size + 1) (.loop { rec .ready none with state := .busy })) := (Only.refl V Wa).putObj hVl _
      have hl2 : (Wa.putObj (w.heap.size + 1) (.loop { rec .ready none with state := .busy })).heap[w.heap.size + 1]? = some (.loop { rec .ready none with state := .busy }) := World.putObj_heap_same hlt'
      have hk2 : (Wa.putObj (w.heap.size + 1) (.loop { rec .ready none with state := .busy })).heap[w.heap.size]? = some (.deferred (some [])) := (World.putObj_heap_other (by omega)).trans hk'
      have hu2 : Keeps R Wa (Wa.putObj (w.heap.size + 1) (.loop { rec .ready none with state := .busy })) :=
        ((Only.refl (fun k => ¬ R k) Wa).putObj hRl2 _).keeps (fun _ _ h h' => h' h)
      refine wpIn_mono (hbody _ k x a' _ hx rfl ⟨_, hl2⟩ (hI k _ _ hia on2) (hAx x a' _ _ hax on2)) ?_
      have fin : ∀ (jump : Option Code) (W3 : World), Keeps Vr (Wa.putObj (w.heap.size + 1) (.loop { rec .ready none with state := .busy })) W3 →
          (Instr.endRound (w.heap.size + 1) jump).run P W3 = .ok (.bool jump.isNone) (W3.putObj (w.heap.size + 1) (.loop (rec (if jump.isNone then .ready else .done) jump))) ∧
          Only V W3 (W3.putObj (w.heap.size + 1) (.loop (rec (if jump.isNone then .ready else .done) jump))) ∧
          (W3.putObj (w.heap.size + 1) (.loop (rec (if jump.isNone then .ready else .done) jump))).heap[w.heap.size + 1]? = some (.loop (rec (if jump.isNone then .ready else .done) jump)) ∧
          (W3.putObj (w.heap.size + 1) (.loop (rec (if jump.isNone then .ready else .done) jump))).heap[w.heap.size]? = some (.deferred (some [])) ∧
          Keeps R W (W3.putObj (w.heap.size + 1) (.loop (rec (if jump.isNone then .ready else .done) jump))) := fun jump W3 hk3 => by
        have hl3 := keepV hk3 hRl hl2
        have := run_endRound (P := P) jump hl3
        rw [hrec] at this ⊢
        exact ⟨this, (Only.refl V W3).putObj hVl _, World.putObj_heap_same (Array.getElem?_eq_some_iff.1 hl3).1, (World.putObj_heap_other (by omega)).trans (keepV hk3 hRd hk2),
          (((hkfa.mono hRV).trans (by rw [hrec] at hu2; exact hu2)).trans (by rw [hrec] at hk3; exact hk3.mono hRV)).trans (((Only.refl (fun k => ¬ R k) W3).putObj hRl2 _).keeps (fun _ _ h h' => h' h))⟩
      rintro e a3 W3 hp
      cases e with
      | normal =>
        obtain ⟨hk3, hi3⟩ := hp
        obtain ⟨hr, ho3, hl4, hk4, hu4⟩ := fin none W3 hk3
        exact ⟨_, _, hr, .inl ⟨rfl, ⟨hI _ _ _ hi3 ho3, hl4, hk4⟩, hu4⟩⟩
      | ret =>
        obtain ⟨hk3, hi3⟩ := hp
        obtain ⟨hr, ho3, hl4, hk4, hu4⟩ := fin (some .ret) W3 hk3
        exact ⟨_, _, hr, .inr ⟨rfl, .ret, hIx _ _ _ _ hi3 ho3, hl4, hk4⟩⟩
      | exit id =>
        obtain ⟨hk3, hi3⟩ := hp
        obtain ⟨hr, ho3, hl4, hk4, hu4⟩ := fin (some (.exit id)) W3 hk3
        exact ⟨_, _, hr, .inr ⟨rfl, .exit id, hIx _ _ _ _ hi3 ho3, hl4, hk4⟩⟩
      | goto t =>
        obtain ⟨hk3, hi3⟩ := hp
        obtain ⟨hr, ho3, hl4, hk4, hu4⟩ := fin (some (.goto t)) W3 hk3
        exact ⟨_, _, hr, .inr ⟨rfl, .goto t, hIx _ _ _ _ hi3 ho3, hl4, hk4⟩⟩
      | panic ch => exact hp.elim
      | outgrown => exact hp.elim
    · rintro e W2 ⟨⟨v, rfl⟩, (⟨hi, hl, hk⟩ | ⟨k, x, hx, c, hi, hl, hk⟩)⟩
      · exact ⟨none, _, by have := run_endLoop (P := P) hl (by rw [hrec]; simp); rw [hrec] at this; exact this, hdone _ (hI _ _ _ hi ((Only.refl V W2).putObj hVl _)) ((World.putObj_heap_other (by omega)).trans hk)⟩
      · exact ⟨some c, _, by have := run_endLoop (P := P) hl (by rw [hrec]; simp); rw [hrec] at this; exact this, hstop c k x _ hx (hIx _ _ _ _ hi ((Only.refl V W2).putObj hVl _)) ((World.putObj_heap_other (by omega)).trans hk)⟩

/-- A loop in the round of another. -/
theorem range_inner2 {α : Type} {g : Operand} {ps : Array Tmp} {assign body : Code} {Q : Exit → Act → World → Prop} {a : Act} {w : World} {l₀ : Nat} {r₀ : Loop} (hl₀ : w.heap[l₀]? = some (.loop r₀))
    {gf : Nat} {lb : Array Value} (hg : a.eval g = .func (.func gf) #[] lb) (eg : ∀ args w, (callFunc gf args).run P w = .ok (.enter gf args) w)
    {encs : α → Array Value} {xs : List α} {U R : Nat → Prop} (hseq : Iter2 P gf lb encs xs U R w) (hU : ∀ k, U k → k < w.heap.size) (hR : ∀ k, R k → k < w.heap.size) (hps : ∀ x, (encs x).size = ps.size)
    (I : Nat → World → Prop) (Ix : Code → Nat → World → Prop)
    (hI : ∀ k A B, I k A → Only (fun b => U b ∨ b = w.heap.size) A B → I k B)
    (hIx : ∀ c k A B, Ix c k A → Only (fun b => U b ∨ b = w.heap.size) A B → Ix c k B)
    (h0 : I 0 w) (Ax : α → Act → World → Prop) (hAx : ∀ x a' A B, Ax x a' A → Only (fun b => U b ∨ b = w.heap.size) A B → Ax x a' B)
    (hassign : ∀ (l k : Nat) (x : α) (W : World) (K : Act → World → Prop), xs[k]? = some x → I k W → w.heap.size < W.heap.size →
      (∀ a' W', Keeps (fun b => R b ∨ b = w.heap.size) W W' → I k W' → Ax x a' W' → K a' W') →
      assign.wpIn (Fence.wide.inRound l) 0 P (Exit.then K (fun _ _ _ => False)) { tmps := (ps.zip (encs x)).foldl (fun t (p, v) => t.setIfInBounds p v) a.tmps, defers := [] } W)
    (hbody : ∀ (l k : Nat) (x : α) (a' : Act) (W : World), xs[k]? = some x → l = w.heap.size → (∃ r, W.heap[l]? = some (.loop r)) → I k W → Ax x a' W →
      body.wpIn (Fence.wide.inRound l) 0 P (outs (fun b => R b ∨ b = w.heap.size) I Ix k W) a' W)
    (hdone : ∀ (W : World), I xs.length W → Q .normal a W)
    (hstop : ∀ (c : Code) (k : Nat) (x : α) (W : World), xs[k]? = some x → Ix c k W → c.wpIn (Fence.wide.inRound l₀) 0 P Q a W) :
    (Code.rangeFunc g ps assign body).wpIn (Fence.wide.inRound l₀) 0 P Q a w := by
  have hd : (Fence.wide.inRound l₀).depth.isSome = true → 1 ≤ 0 := fun h => by simp [Fence.wide] at h
  refine wpIn_rangeFunc ?_
  intro fn _
  rw [show (Fence.wide.inRound l₀).round = some l₀ from rfl]
  obtain ⟨V, hV⟩ : ∃ V : Nat → Prop, V = fun b => U b ∨ b = w.heap.size := ⟨_, rfl⟩
  obtain ⟨Vr, hVr⟩ : ∃ V : Nat → Prop, V = fun b => R b ∨ b = w.heap.size := ⟨_, rfl⟩
  rw [← hV] at hI hIx hAx
  rw [← hVr] at hassign hbody
  obtain ⟨rec, hrec⟩ : ∃ rec : LoopState → Option Code → Loop, rec = fun st pe => { state := st, pending := pe, fn, tmps := a.tmps, params := ps, assign, body, defers := r₀.defers } := ⟨_, rfl⟩
  obtain ⟨W1, hW1⟩ : ∃ W1, w.alloc (.loop (rec .ready none)) = W1 := ⟨_, rfl⟩
  have hL1 : W1.heap[w.heap.size]? = some (.loop (rec .ready none)) := by rw [← hW1]; exact World.alloc_heap_new w _
  have hon1 : ∀ S : Nat → Prop, Only S w W1 := fun S => by rw [← hW1]; exact (Only.refl S w).alloc _
  have hI1 : I 0 W1 := hI 0 w W1 h0 (hon1 V)
  have hVl : V w.heap.size := by rw [hV]; exact .inr rfl
  have hRl : Vr w.heap.size := by rw [hVr]; exact .inr rfl
  have hRV : ∀ k, R k → Vr k := fun k h => by rw [hVr]; exact .inl h
  have hRl2 : ¬ R w.heap.size := fun h => by have := hR _ h; omega
  have hUV : ∀ k, U k → V k := fun k h => by rw [hV]; exact .inl h
  have hUl : ¬ U w.heap.size := fun h => by have := hU _ h; omega
  have onV : ∀ {A B : World}, Only U A B → Only V A B := fun h => h.mono (fun k _ hk => hUV k hk)
  have keepB : ∀ {A B : World} {r : Nat} {o : Obj}, Only U A B → ¬ U r → A.heap[r]? = some o → B.heap[r]? = some o := fun h hr ho => (h.block _ (Array.getElem?_eq_some_iff.1 ho).1 hr).trans ho
  have keepV : ∀ {A B : World} {r : Nat} {o : Obj}, Keeps Vr A B → Vr r → A.heap[r]? = some o → B.heap[r]? = some o := fun h hr ho => (h.block _ (Array.getElem?_eq_some_iff.1 ho).1 hr).trans ho
  refine ⟨w.heap.size, [], W1, { target := .fn (.func gf) lb, args := #[.func (.yield w.heap.size) #[] #[]] }, W1, gf,
    #[.func (.yield w.heap.size) #[] #[]] ++ lb, W1, ?_, ?_, ?_, ?_, hd, ?_⟩
  · rw [← hW1, hrec]; exact run_enterLoop_inner hl₀ _ _ _ _ _
  · simp only [resolve, hg]
    simp [go_sem]
  · intro f' _; trivial
  · simp [invoke, go_sem, eg]
  · refine (CallsIn.inRound l₀ (hseq w.heap.size
      (fun k W => I k W ∧ W.heap[w.heap.size]? = some (.loop (rec .ready none)))
      (fun k W => ∃ c, Ix c k W ∧ W.heap[w.heap.size]? = some (.loop (rec .done (some c))))
      W1 ((hon1 (fun k => ¬ R k)).keeps (fun _ _ h h' => h' h))
      (fun k A B hs h => ⟨hI k A B hs.1 (onV h), keepB h hUl hs.2⟩)
      (fun k A B hs h => by
        obtain ⟨c, hc, hl⟩ := hs
        exact ⟨c, hIx c k A B hc (onV h), keepB h hUl hl⟩)
      ?_ ⟨hI1, hL1⟩)).mono ?_
    · rintro k x W hx ⟨hi, hl⟩
      have hlt : w.heap.size < W.heap.size := (Array.getElem?_eq_some_iff.1 hl).1
      have hy := run_yield (P := P) (args := encs x) hl (by rw [hrec]; exact hps x)
      rw [hrec] at hy
      refine ⟨fn, _, assign, body, hy, roundIn_of_wpIn trivial (hassign _ k x W _ hx hi hlt ?_)⟩
      clear hy
      intro a' Wa hkfa hia hax
      have hl' := keepV hkfa hRl hl
      have hlt' : w.heap.size < Wa.heap.size := (Array.getElem?_eq_some_iff.1 hl').1
      refine ⟨_, run_beginRound hl' (by rw [hrec]), ?_⟩
      have on2 : Only V Wa (Wa.putObj w.heap.size (.loop { rec .ready none with state := .busy })) := (Only.refl V Wa).putObj hVl _
      have hl2 : (Wa.putObj w.heap.size (.loop { rec .ready none with state := .busy })).heap[w.heap.size]? = some (.loop { rec .ready none with state := .busy }) := World.putObj_heap_same hlt'
      have hu2 : Keeps R Wa (Wa.putObj w.heap.size (.loop { rec .ready none with state := .busy })) :=
        ((Only.refl (fun k => ¬ R k) Wa).putObj hRl2 _).keeps (fun _ _ h h' => h' h)
      refine wpIn_mono (hbody _ k x a' _ hx rfl ⟨_, hl2⟩ (hI k _ _ hia on2) (hAx x a' _ _ hax on2)) ?_
      have fin : ∀ (jump : Option Code) (W3 : World), Keeps Vr (Wa.putObj w.heap.size (.loop { rec .ready none with state := .busy })) W3 →
          (Instr.endRound w.heap.size jump).run P W3 = .ok (.bool jump.isNone) (W3.putObj w.heap.size (.loop (rec (if jump.isNone then .ready else .done) jump))) ∧
          Only V W3 (W3.putObj w.heap.size (.loop (rec (if jump.isNone then .ready else .done) jump))) ∧
          (W3.putObj w.heap.size (.loop (rec (if jump.isNone then .ready else .done) jump))).heap[w.heap.size]? = some (.loop (rec (if jump.isNone then .ready else .done) jump)) ∧
          Keeps R W (W3.putObj w.heap.size (.loop (rec (if jump.isNone then .ready else .done) jump))) := fun jump W3 hk3 => by
        have hl3 := keepV hk3 hRl hl2
        have := run_endRound (P := P) jump hl3
        rw [hrec] at this ⊢
        exact ⟨this, (Only.refl V W3).putObj hVl _, World.putObj_heap_same (Array.getElem?_eq_some_iff.1 hl3).1,
          (((hkfa.mono hRV).trans (by rw [hrec] at hu2; exact hu2)).trans (by rw [hrec] at hk3; exact hk3.mono hRV)).trans (((Only.refl (fun k => ¬ R k) W3).putObj hRl2 _).keeps (fun _ _ h h' => h' h))⟩
      rintro e a3 W3 hp
      cases e with
      | normal =>
        obtain ⟨hk3, hi3⟩ := hp
        obtain ⟨hr, ho3, hl4, hu4⟩ := fin none W3 hk3
        exact ⟨_, _, hr, .inl ⟨rfl, ⟨hI _ _ _ hi3 ho3, hl4⟩, hu4⟩⟩
      | ret =>
        obtain ⟨hk3, hi3⟩ := hp
        obtain ⟨hr, ho3, hl4, hu4⟩ := fin (some .ret) W3 hk3
        exact ⟨_, _, hr, .inr ⟨rfl, .ret, hIx _ _ _ _ hi3 ho3, hl4⟩⟩
      | exit id =>
        obtain ⟨hk3, hi3⟩ := hp
        obtain ⟨hr, ho3, hl4, hu4⟩ := fin (some (.exit id)) W3 hk3
        exact ⟨_, _, hr, .inr ⟨rfl, .exit id, hIx _ _ _ _ hi3 ho3, hl4⟩⟩
      | goto t =>
        obtain ⟨hk3, hi3⟩ := hp
        obtain ⟨hr, ho3, hl4, hu4⟩ := fin (some (.goto t)) W3 hk3
        exact ⟨_, _, hr, .inr ⟨rfl, .goto t, hIx _ _ _ _ hi3 ho3, hl4⟩⟩
      | panic ch => exact hp.elim
      | outgrown => exact hp.elim
    · rintro e W2 ⟨⟨v, rfl⟩, (⟨hi, hl⟩ | ⟨k, x, hx, c, hi, hl⟩)⟩
      · exact ⟨none, _, by have := run_endLoop (P := P) hl (by rw [hrec]; simp); rw [hrec] at this; exact this, hdone _ (hI _ _ _ hi ((Only.refl V W2).putObj hVl _))⟩
      · exact ⟨some c, _, by have := run_endLoop (P := P) hl (by rw [hrec]; simp); rw [hrec] at this; exact this, hstop c k x _ hx (hIx _ _ _ _ hi ((Only.refl V W2).putObj hVl _))⟩
end
end Go.Proofs.Ytokjhocjemjfiaa.Seq
namespace Go.Proofs.Ytokjhocjemjfiaa.Reg
open Go Go.RowKit
/-- A world of which S holds. -/
structure Cls (S : World → Prop) where
  w : World
  ok : S w
theorem wp_region_cls {P : Program} {id : Nat} {Q : Exit → Act → World → Prop} {a : Act} {w : World} {l : List Oper} (S : World → Prop) (hm : P.follows .mixedOrders = true) (hB : Region.lexB .any l.toArray = true) (hS : S w.drew)
    (h : wpQuiet P l.toArray (fun w' => ∃ p : Cls S, w' = p.w) (fun a' => ∀ w', (∃ p : Cls S, w' = p.w) → Q .normal a' w') l a) : (Code.region id l.toArray true).wp P Q a w :=
  wp_region_quiet (C := fun w' => ∃ p : Cls S, w' = p.w) hm hB ⟨⟨w.drew, hS⟩, rfl⟩ (by simpa using h)
theorem calls_cls {P : Program} {f : FuncId} {args : Array Value} {S : World → Prop} {p : Cls S} {v : Value} (hS : ∀ A B : World, S A → Below A.heap.size A B → S B)
    (h : Calls P f args p.w fun e w' => e = .returned v ∧ Below p.w.heap.size p.w w') : Calls P f args p.w fun e w'' => e = .returned v ∧ ∃ q : Cls S, w'' = q.w :=
  h.mono fun _ _ ⟨he, hb⟩ => ⟨he, ⟨_, hS _ _ p.ok hb⟩, rfl⟩
theorem calls_cls_drawn {P : Program} {f : FuncId} {args : Array Value} {S : World → Prop} {p : Cls S} {v : Value} (hS : ∀ A B : World, S A → Below A.heap.size A B → S B)
    (h : Calls P f args p.w fun e w' => e = .returned v ∧ Go.Proofs.YtokjhocjemjfiaaW.PrintWords.Drawn0 p.w w') : Calls P f args p.w fun e w'' => e = .returned v ∧ ∃ q : Cls S, w'' = q.w :=
  calls_cls hS (h.mono fun _ _ ⟨he, hb⟩ => ⟨he, hb.below⟩)
theorem below_cls (w : World) : ∀ A B : World, Below w.heap.size w A → Below A.heap.size A B → Below w.heap.size w B := fun _ _ h k => h.trans (k.mono h.size)
end Go.Proofs.Ytokjhocjemjfiaa.Reg
namespace Go.Proofs.Ytokjhocjemjfiaa.Reg
open Go
/-- no operation is a defer: by computation -/
def noDefer (ops : Array Oper) : Bool := ops.toList.all fun o => match o.op with
  | .defer _ => false
  | _ => true
theorem noDefer_spec {ops : Array Oper} (h : noDefer ops = true) : ∀ (i : Nat) o, ops[i]? = some o → ∀ c, o.op ≠ .defer c := by
  intro i o hi c hc
  have h2 := List.all_eq_true.1 h o (by rw [← Array.getElem?_toList] at hi; exact List.mem_of_getElem? hi)
  rw [hc] at h2
  cases h2
section
variable {F : Fence} {n : Nat} {P : Program} {ops : Array Oper} {md : Region.Mode} {C : World → Prop}
theorem wpIn_of_quietR {o : Oper} {a : Act} {K : Act → Prop} {K' : Act → World → Prop} {Q' : Exit → Act → World → Prop} {w : World} (hnd : ∀ c, o.op ≠ .defer c) (hw : C w) (h : ∀ a w', C w' → K a → K' a w')
    (ha : o.askedIn F P a C) (hh : o.quietIn F n P a C K) : o.wpIn F n P a w K' Q' := by
  obtain ⟨v, h1, h2⟩ := hh
  have h3 := h1 w hw
  unfold Oper.quietAtIn at h3
  unfold Oper.wpIn
  refine ⟨ha w hw, ?_⟩
  rw [Oper.semAt_plain F _ _ hnd]
  generalize (execOp a.eval o).run P w = r at *
  cases r with
  | ok x w' =>
    cases x <;> simp only [Oper.quietUponIn] at h3 <;> simp only [Oper.uponIn]
    case value u =>
      obtain ⟨e1, e2⟩ := h3
      rw [e1, e2]
      exact h _ _ hw h2
    case skip =>
      obtain ⟨e1, e2⟩ := h3
      rw [e1, ← e2]
      exact h _ _ hw h2
    case enter f args =>
      obtain ⟨e1, hd, hc⟩ := h3
      rw [e1]
      exact ⟨hd, hc.mono fun e w'' ⟨he, hw''⟩ => by subst he; exact h _ _ hw'' h2⟩
  | halt x w' => simp only [Oper.quietUponIn] at h3
theorem wpOpIn_of_qOpInR {i : Nat} {a : Act} {K : Act → Prop} {K' : Act → World → Prop} {Q' : Exit → Act → World → Prop} {w : World} (hnd : ∀ (i : Nat) o, ops[i]? = some o → ∀ c, o.op ≠ .defer c) (hC : C w) (h : ∀ a w', C w' → K a → K' a w')
    (hh : qOpIn F n P ops C i K a) : wpOpIn F n P ops Q' i K' a w := by
  unfold qOpIn at hh
  unfold wpOpIn
  split
  · rename_i ho; simp only [ho] at hh; exact h _ _ hC hh
  · rename_i o ho
    simp only [ho] at hh
    obtain ⟨ha, hh⟩ := hh
    split
    · rename_i hw; simp only [hw, if_true] at hh; exact wpIn_of_quietR (hnd i o ho) hC h ha hh
    · rename_i hw; simp only [hw] at hh; exact ⟨ha w hC, h _ _ hC hh⟩
theorem wpAnyIn_of_quietR {Q : Act → Prop} {Q' : Exit → Act → World → Prop} (hnd : ∀ (i : Nat) o, ops[i]? = some o → ∀ c, o.op ≠ .defer c) (hQ : ∀ a w, C w → Q a → Q' .normal a w) : ∀ (fuel : Nat) (listed : Array Bool) (a : Act) (w : World), C w →
    wpAnyQIn F n P md ops C Q fuel listed a → wpAnyIn F n P md ops Q' fuel listed a w
  | 0, _, _, _, hw, h => ⟨h.1, hQ _ _ hw h.2⟩
  | fuel + 1, _, _, _, hw, h => ⟨fun h0 => hQ _ _ hw (h.1 h0), fun i hi => wpOpIn_of_qOpInR hnd hw (fun a' w' hw' => wpAnyIn_of_quietR hnd hQ fuel _ a' w' hw') (h.2 i hi)⟩
/-- a region that draws, inside a round, by a class of worlds -/
theorem wpIn_region_quietR {id : Nat} {Q : Exit → Act → World → Prop} {a : Act} {w : World} {l : List Oper} (hnd : ∀ o ∈ l, ∀ c, o.op ≠ .defer c) (hm : P.follows .mixedOrders = true) (hB : Region.lexB .any l.toArray = true) (hC : C { w with drawn := w.drawn + 1 })
    (h : wpQuietIn F n P l.toArray C (fun a' => ∀ w', C w' → Q .normal a' w') l a) : (Code.region id l.toArray true).wpIn F n P Q a w := by
  simp only [Region.lexB, Bool.and_eq_true] at hB
  refine wpIn_region_any hm (wpAnyIn_of_quietR (Q := fun a' => ∀ w', C w' → Q .normal a' w') (fun i o hi => hnd o (by rw [List.getElem?_toArray] at hi; exact List.mem_of_getElem? hi)) (fun _ w' hw' h => h w' hw') _ _ _ _ hC ?_)
  have := wpAnyQIn_lex (F := F) (n := n) (C := C) (md := .any) hB.1 l 0 (Array.replicate l.toArray.size false) a (by simp) (by simpa using hB.2) h
  simpa using this
/-- one operation, from outside a round into it -/
theorem wpIn_inRound {o : Oper} {a : Act} {K : Act → World → Prop} {Q : Exit → Act → World → Prop} {w : World} (l : Nat) (hnd : ∀ c, o.op ≠ .defer c) (h : o.wpIn F n P a w K Q) : o.wpIn (F.inRound l) n P a w K Q := by
  unfold Oper.wpIn at h ⊢
  refine ⟨h.1, ?_⟩
  have h2 := h.2
  rw [Oper.semAt_plain F _ _ hnd] at h2
  rw [Oper.semAt_plain (F.inRound l) _ _ hnd]
  generalize (execOp a.eval o).run P w = r at *
  cases r with
  | ok x w' => cases x <;> exact h2
  | halt x w' => exact h2
theorem wpOpIn_inRound {i : Nat} {a : Act} {K K' : Act → World → Prop} {Q : Exit → Act → World → Prop} {w : World} (l : Nat) (hnd : ∀ (i : Nat) o, ops[i]? = some o → ∀ c, o.op ≠ .defer c) (hK : ∀ a w, K a w → K' a w)
    (h : wpOpIn F n P ops Q i K a w) : wpOpIn (F.inRound l) n P ops Q i K' a w := by
  unfold wpOpIn at h ⊢
  split
  · rename_i ho; simp only [ho] at h; exact hK _ _ h
  · rename_i o ho
    simp only [ho] at h
    split
    · rename_i hw; simp only [hw, if_true] at h; exact wpIn_inRound l (hnd i o ho) (Oper.wpIn_mono hK h)
    · rename_i hw; simp only [hw] at h; exact ⟨h.1, hK _ _ h.2⟩
theorem wpAnyIn_inRound {Q : Exit → Act → World → Prop} (l : Nat) (hnd : ∀ (i : Nat) o, ops[i]? = some o → ∀ c, o.op ≠ .defer c) : ∀ (fuel : Nat) (listed : Array Bool) (a : Act) (w : World),
    wpAnyIn F n P md ops Q fuel listed a w → wpAnyIn (F.inRound l) n P md ops Q fuel listed a w
  | 0, _, _, _, h => h
  | fuel + 1, _, _, _, h => ⟨h.1, fun i hi => wpOpIn_inRound l hnd (fun a' w' h' => wpAnyIn_inRound l hnd fuel _ a' w' h') (h.2 i hi)⟩
/-- a region that draws, inside a round: walked as outside of it -/
theorem wpIn_region_anyR {id : Nat} {Q : Exit → Act → World → Prop} {a : Act} {w : World} (l : Nat) (hnd : ∀ (i : Nat) o, ops[i]? = some o → ∀ c, o.op ≠ .defer c) (hm : P.follows .mixedOrders = true)
    (h : wpAnyIn F n P .any ops Q ops.size (Array.replicate ops.size false) a { w with drawn := w.drawn + 1 }) : (Code.region id ops true).wpIn (F.inRound l) n P Q a w :=
  wpIn_region_any hm (wpAnyIn_inRound l hnd _ _ _ _ h)
end
end Go.Proofs.Ytokjhocjemjfiaa.Reg
namespace Go.Proofs.Ytokjhocjemjfiaa.Reg
open Go Go.Proofs.YtokjhocjemjfiaaW.PrintLast
section
variable {P : Program} {ops : Array Oper} {md : Region.Mode} {Q : Exit → Act → World → Prop}
theorem wpIn_of_wp {o : Oper} {a : Act} {K : Act → World → Prop} {w : World} (h : o.wp P a w K Q) : o.wpIn Fence.wide 0 P a w K Q := by
  unfold Oper.wp at h
  unfold Oper.wpIn
  refine ⟨fun _ _ => trivial, ?_⟩
  rw [show Fence.wide.round = none from rfl, Oper.semAt_none]
  generalize (execOp a.eval o).run P w = r at *
  cases r with
  | ok x w' =>
    cases x
    case enter f args => exact ⟨fun h0 => by simp [Fence.wide] at h0, callsIn_wide.2 h⟩
    case row row args => exact ⟨fun h0 => by simp [Fence.wide] at h0, fun c cs _ => let ⟨v, w', r, s⟩ := h c cs; ⟨v, w', r, stepsIn_wide.2 s⟩⟩
    case round => exact h.elim
    all_goals exact h
  | halt x w' => cases x <;> exact h
theorem wpOpIn_of_wpOp {i : Nat} {a : Act} {K : Act → World → Prop} {w : World} (hL : ¬ LetsOut Q) (h : wpOp P ops Q i K a w) : wpOpIn Fence.wide 0 P ops Q i K a w := by
  unfold wpOp at h
  unfold wpOpIn
  split
  · rename_i ho; simp only [ho] at h; exact h
  · rename_i o ho
    simp only [ho] at h
    split
    · rename_i hw
      simp only [hw, if_true] at h
      rcases h with h | h
      · exact wpIn_of_wp h
      · exact absurd h.2 hL
    · rename_i hw; simp only [hw] at h; exact ⟨fun _ _ => trivial, h⟩
theorem wpAnyIn_of_wpAny (hL : ¬ LetsOut Q) : ∀ (fuel : Nat) (listed : Array Bool) (a : Act) (w : World), wpAny P md ops Q fuel listed a w → wpAnyIn Fence.wide 0 P md ops Q fuel listed a w
  | 0, _, _, _, h => h
  | fuel + 1, _, _, _, h => ⟨h.1, fun i hi => wpOpIn_mono (fun a' w' h' => wpAnyIn_of_wpAny hL fuel _ a' w' h') (wpOpIn_of_wpOp hL (h.2 i hi))⟩
/-- the beginning of such a region -/
theorem startR_ {r id n : Nat} {a : Act} {w : World} {S : World → Prop} {ds : List Nat} (l : Array Bool) (hnd : noDefer ops = true) (hL : ¬ LetsOut Q) (hm : P.follows .mixedOrders = true) (hn : ops.size = n) (hl : Array.replicate n false = l) (hS : S w.drew)
    (h : S w.drew → wpAnyLast P .any ops Q S ds n l a w.drew) : (Code.region id ops true).wpIn (Fence.wide.inRound r) 0 P Q a w := by
  subst hn
  subst hl
  exact wpIn_region_anyR r (noDefer_spec hnd) hm (wpAnyIn_of_wpAny hL _ _ _ _ (wpAny_of_last _ _ _ _ (h hS)))
end
theorem no_out {K : Act → World → Prop} {Q : Exit → Act → World → Prop} (h : ¬ LetsOut Q) : ¬ LetsOut (Exit.then K Q) := h
end Go.Proofs.Ytokjhocjemjfiaa.Reg
