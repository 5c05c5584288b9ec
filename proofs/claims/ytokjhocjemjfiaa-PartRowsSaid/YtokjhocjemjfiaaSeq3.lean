/- The law of XSeq2 for an iterator that relies on single cells too: what J tells (C). -/
import Derived.Test.YtokjhocjemjfiaaMa
set_option linter.unusedVariables false
set_option linter.unusedSimpArgs false
namespace Go.Proofs.Ytokjhocjemjfiaa.Seq
open Go Go.RowKit
/-- THE CONTRACT OF AN ITERATOR VALUE: it hands xs over, one by one; of what lay it writes blocks in U alone; it relies on blocks in R and on what C tells. -/
def Iter3 {α : Type} (P : Program) (gf : Nat) (lb : Array Value) (encs : α → Array Value) (xs : List α) (U R : Nat → Prop) (C : World → Prop) (w : World) : Prop :=
  ∀ (l : Nat) (J Jx : Nat → World → Prop) (W : World), Keeps R w W → (∀ k A, J k A → C A) →
    (∀ k A B, J k A → Only U A B → J k B) → (∀ k A B, Jx k A → Only U A B → Jx k B) →
    (∀ k x A, xs[k]? = some x → J k A → YieldAt Fence.wide 0 P l (encs x) A fun e A' =>
      (e = .returned (.bool true) ∧ J (k + 1) A' ∧ Keeps R A A') ∨ (e = .returned (.bool false) ∧ Jx k A')) →
    J 0 W →
    CallsIn Fence.wide 0 P gf (#[.func (.yield l) #[] #[]] ++ lb) W fun e W' => (∃ v, e = .returned v) ∧ (J xs.length W' ∨ ∃ k x, xs[k]? = some x ∧ Jx k W')
section
variable {P : Program}
/-- An outermost loop. -/
theorem range_outer3 {α : Type} {g : Operand} {ps : Array Tmp} {assign body : Code} {Q : Exit → Act → World → Prop} {a : Act} {w : World}
    {gf : Nat} {lb : Array Value} (hg : a.eval g = .func (.func gf) #[] lb) (eg : ∀ args w, (callFunc gf args).run P w = .ok (.enter gf args) w)
    {encs : α → Array Value} {xs : List α} {U R : Nat → Prop} {C : World → Prop} (hseq : Iter3 P gf lb encs xs U R C w) (hU : ∀ k, U k → k < w.heap.size) (hR : ∀ k, R k → k < w.heap.size) (hps : ∀ x, (encs x).size = ps.size)
    (I : Nat → World → Prop) (Ix : Code → Nat → World → Prop)
    (hI : ∀ k A B, I k A → Only (fun b => U b ∨ b = w.heap.size ∨ b = w.heap.size + 1) A B → I k B)
    (hIx : ∀ c k A B, Ix c k A → Only (fun b => U b ∨ b = w.heap.size ∨ b = w.heap.size + 1) A B → Ix c k B)
    (hC : ∀ k A, I k A → C A) (h0 : I 0 w) (Ax : α → Act → World → Prop) (hAx : ∀ x a' A B, Ax x a' A → Only (fun b => U b ∨ b = w.heap.size ∨ b = w.heap.size + 1) A B → Ax x a' B)
    (hassign : ∀ (l k : Nat) (x : α) (W : World) (K : Act → World → Prop), xs[k]? = some x → I k W → w.heap.size + 1 < W.heap.size →
      (∀ a' W', Keeps (fun b => R b ∨ b = w.heap.size ∨ b = w.heap.size + 1) W W' → I k W' → Ax x a' W' → K a' W') →
      assign.wpIn (Fence.wide.inRound l) 0 P (Exit.then K (fun _ _ _ => False)) { tmps := (ps.zip (encs x)).foldl (fun t (p, v) => t.setIfInBounds p v) a.tmps, defers := [] } W)
    (hbody : ∀ (l k : Nat) (x : α) (a' : Act) (W : World), xs[k]? = some x → l = w.heap.size + 1 → (∃ r, W.heap[l]? = some (.loop r)) → I k W → Ax x a' W →
      body.wpIn (Fence.wide.inRound l) 0 P (outs (fun b => R b ∨ b = w.heap.size ∨ b = w.heap.size + 1) I Ix k W) a' W)
    (hdone : ∀ (W : World), I xs.length W → W.heap[w.heap.size]? = some (.deferred (some [])) → Q .normal { a with defers := { target := .collected w.heap.size, args := #[] } :: a.defers } W)
    (hstop : ∀ (c : Code) (k : Nat) (x : α) (W : World), xs[k]? = some x → Ix c k W → W.heap[w.heap.size]? = some (.deferred (some [])) → c.wpIn Fence.wide 0 P Q { a with defers := { target := .collected w.heap.size, args := #[] } :: a.defers } W) :
    (Code.rangeFunc g ps assign body).wpIn Fence.wide 0 P Q a w := by
  have hd : Fence.wide.depth.isSome = true → 1 ≤ 0 := fun h => by simp [Fence.wide] at h
  refine wpIn_rangeFunc ?_
  intro fn _
  rw [show Fence.wide.round = none from rfl]
  obtain ⟨V, hV⟩ : ∃ V : Nat → Prop, V = fun b => U b ∨ b = w.heap.size ∨ b = w.heap.size + 1 := ⟨_, rfl⟩
  obtain ⟨Vr, hVr⟩ : ∃ V : Nat → Prop, V = fun b => R b ∨ b = w.heap.size ∨ b = w.heap.size + 1 := ⟨_, rfl⟩
  rw [← hV] at hI hIx hAx
  rw [← hVr] at hassign hbody
  obtain ⟨rec, hrec⟩ : ∃ rec : LoopState → Option Code → Loop, rec = fun st pe => { state := st, pending := pe, fn, tmps := a.tmps, params := ps, assign, body, defers := w.heap.size } := ⟨_, rfl⟩
  obtain ⟨W1, hW1⟩ : ∃ W1, (w.alloc (.deferred (some []))).alloc (.loop (rec .ready none)) = W1 := ⟨_, rfl⟩
  have hL1 : W1.heap[w.heap.size + 1]? = some (.loop (rec .ready none)) := by
    rw [← hW1]; have := World.alloc_heap_new (w.alloc (.deferred (some []))) (.loop (rec .ready none)); rwa [World.size_alloc] at this
  have hK1 : W1.heap[w.heap.size]? = some (.deferred (some [])) := by
    rw [← hW1]; exact (Below.heap_alloc _ _ _ (by simp)).trans (World.alloc_heap_new w _)
  have hon1 : ∀ S : Nat → Prop, Only S w W1 := fun S => by rw [← hW1]; exact ((Only.refl S w).alloc _).alloc _
  have hI1 : I 0 W1 := hI 0 w W1 h0 (hon1 V)
  have hVd : V w.heap.size := by rw [hV]; exact .inr (.inl rfl)
  have hVl : V (w.heap.size + 1) := by rw [hV]; exact .inr (.inr rfl)
  have hRd : Vr w.heap.size := by rw [hVr]; exact .inr (.inl rfl)
  have hRl : Vr (w.heap.size + 1) := by rw [hVr]; exact .inr (.inr rfl)
  have hRV : ∀ k, R k → Vr k := fun k h => by rw [hVr]; exact .inl h
  have hRd2 : ¬ R w.heap.size := fun h => by have := hR _ h; omega
  have hRl2 : ¬ R (w.heap.size + 1) := fun h => by have := hR _ h; omega
  have hUV : ∀ k, U k → V k := fun k h => by rw [hV]; exact .inl h
  have hUd : ¬ U w.heap.size := fun h => by have := hU _ h; omega
  have hUl : ¬ U (w.heap.size + 1) := fun h => by have := hU _ h; omega
  have onV : ∀ {A B : World}, Only U A B → Only V A B := fun h => h.mono (fun k _ hk => hUV k hk)
  have keepB : ∀ {A B : World} {r : Nat} {o : Obj}, Only U A B → ¬ U r → A.heap[r]? = some o → B.heap[r]? = some o := fun h hr ho => (h.block _ (Array.getElem?_eq_some_iff.1 ho).1 hr).trans ho
  have keepV : ∀ {A B : World} {r : Nat} {o : Obj}, Keeps Vr A B → Vr r → A.heap[r]? = some o → B.heap[r]? = some o := fun h hr ho => (h.block _ (Array.getElem?_eq_some_iff.1 ho).1 hr).trans ho
  refine ⟨w.heap.size + 1, [{ target := .collected w.heap.size, args := #[] }], W1, { target := .fn (.func gf) lb, args := #[.func (.yield (w.heap.size + 1)) #[] #[]] }, W1, gf,
    #[.func (.yield (w.heap.size + 1)) #[] #[]] ++ lb, W1, ?_, ?_, ?_, ?_, hd, ?_⟩
  · rw [← hW1, hrec]; exact run_enterLoop_outer _ _ _ _ _
  · simp only [resolve, hg]
    simp [go_sem]
  · intro f' _; trivial
  · simp [invoke, go_sem, eg]
  · refine (hseq (w.heap.size + 1)
      (fun k W => I k W ∧ W.heap[w.heap.size + 1]? = some (.loop (rec .ready none)) ∧ W.heap[w.heap.size]? = some (.deferred (some [])))
      (fun k W => ∃ c, Ix c k W ∧ W.heap[w.heap.size + 1]? = some (.loop (rec .done (some c))) ∧ W.heap[w.heap.size]? = some (.deferred (some [])))
      W1 ((hon1 (fun k => ¬ R k)).keeps (fun _ _ h h' => h' h)) (fun k A h => hC k A h.1)
      (fun k A B hs h => ⟨hI k A B hs.1 (onV h), keepB h hUl hs.2.1, keepB h hUd hs.2.2⟩)
      (fun k A B hs h => by
        obtain ⟨c, hc, hl, hk⟩ := hs
        exact ⟨c, hIx c k A B hc (onV h), keepB h hUl hl, keepB h hUd hk⟩)
      ?_ ⟨hI1, hL1, hK1⟩).mono ?_
    · rintro k x W hx ⟨hi, hl, hk⟩
      have hlt : w.heap.size + 1 < W.heap.size := (Array.getElem?_eq_some_iff.1 hl).1
      have hy := run_yield (P := P) (args := encs x) hl (by rw [hrec]; exact hps x)
      rw [hrec] at hy
      refine ⟨fn, _, assign, body, hy, roundIn_of_wpIn trivial (hassign _ k x W _ hx hi hlt ?_)⟩
      clear hy
      intro a' Wa hkfa hia hax
      have hl' := keepV hkfa hRl hl
      have hk' := keepV hkfa hRd hk
      have hlt' : w.heap.size + 1 < Wa.heap.size := (Array.getElem?_eq_some_iff.1 hl').1
      refine ⟨_, run_beginRound hl' (by rw [hrec]), ?_⟩
      have on2 : Only V Wa (Wa.putObj (w.heap.size + 1) (.loop { rec .ready none with state := .busy })) := (Only.refl V Wa).putObj hVl _
      have hl2 : (Wa.putObj (w.heap.size + 1) (.loop { rec .ready none with state := .busy })).heap[w.heap.size + 1]? = some (.loop { rec .ready none with state := .busy }) := World.putObj_heap_same hlt'
      have hk2 : (Wa.putObj (w.heap.size + 1) (.loop { rec .ready none with state := .busy })).heap[w.heap.size]? = some (.deferred (some [])) := (World.putObj_heap_other (by omega)).trans hk'
      have hu2 : Keeps R Wa (Wa.putObj (w.heap.size + 1) (.loop { rec .ready none with state := .busy })) :=
        ((Only.refl (fun k => ¬ R k) Wa).putObj hRl2 _).keeps (fun _ _ h h' => h' h)
      refine wpIn_mono (hbody _ k x a' _ hx rfl ⟨_, hl2⟩ (hI k _ _ hia on2) (hAx x a' _ _ hax on2)) ?_
      have fin : ∀ (jump : Option Code) (W3 : World), Keeps Vr (Wa.putObj (w.heap.size + 1) (.loop { rec .ready none with state := .busy })) W3 →
          (Instr.endRound (w.heap.size + 1) jump).run P W3 = .ok (.bool jump.isNone) (W3.putObj (w.heap.size + 1) (.loop (rec (if jump.isNone then .ready else .done) jump))) ∧
          Only V W3 (W3.putObj (w.heap.size + 1) (.loop (rec (if jump.isNone then .ready else .done) jump))) ∧
          (W3.putObj (w.heap.size + 1) (.loop (rec (if jump.isNone then .ready else .done) jump))).heap[w.heap.size + 1]? = some (.loop (rec (if jump.isNone then .ready else .done) jump)) ∧
          (W3.putObj (w.heap.size + 1) (.loop (rec (if jump.isNone then .ready else .done) jump))).heap[w.heap.size]? = some (.deferred (some [])) ∧
          Keeps R W (W3.putObj (w.heap.size + 1) (.loop (rec (if jump.isNone then .ready else .done) jump))) := fun jump W3 hk3 => by
        have hl3 := keepV hk3 hRl hl2
        have := run_endRound (P := P) jump hl3
        rw [hrec] at this ⊢
        exact ⟨this, (Only.refl V W3).putObj hVl _, World.putObj_heap_same (Array.getElem?_eq_some_iff.1 hl3).1, (World.putObj_heap_other (by omega)).trans (keepV hk3 hRd hk2),
          (((hkfa.mono hRV).trans (by rw [hrec] at hu2; exact hu2)).trans (by rw [hrec] at hk3; exact hk3.mono hRV)).trans (((Only.refl (fun k => ¬ R k) W3).putObj hRl2 _).keeps (fun _ _ h h' => h' h))⟩
      rintro e a3 W3 hp
      cases e with
      | normal =>
        obtain ⟨hk3, hi3⟩ := hp
        obtain ⟨hr, ho3, hl4, hk4, hu4⟩ := fin none W3 hk3
        exact ⟨_, _, hr, .inl ⟨rfl, ⟨hI _ _ _ hi3 ho3, hl4, hk4⟩, hu4⟩⟩
      | ret =>
        obtain ⟨hk3, hi3⟩ := hp
        obtain ⟨hr, ho3, hl4, hk4, hu4⟩ := fin (some .ret) W3 hk3
        exact ⟨_, _, hr, .inr ⟨rfl, .ret, hIx _ _ _ _ hi3 ho3, hl4, hk4⟩⟩
      | exit id =>
        obtain ⟨hk3, hi3⟩ := hp
        obtain ⟨hr, ho3, hl4, hk4, hu4⟩ := fin (some (.exit id)) W3 hk3
        exact ⟨_, _, hr, .inr ⟨rfl, .exit id, hIx _ _ _ _ hi3 ho3, hl4, hk4⟩⟩
      | goto t =>
        obtain ⟨hk3, hi3⟩ := hp
        obtain ⟨hr, ho3, hl4, hk4, hu4⟩ := fin (some (.goto t)) W3 hk3
        exact ⟨_, _, hr, .inr ⟨rfl, .goto t, hIx _ _ _ _ hi3 ho3, hl4, hk4⟩⟩
      | panic ch => exact hp.elim
      | outgrown => exact hp.elim
    · rintro e W2 ⟨⟨v, rfl⟩, (⟨hi, hl, hk⟩ | ⟨k, x, hx, c, hi, hl, hk⟩)⟩
      · exact ⟨none, _, by have := run_endLoop (P := P) hl (by rw [hrec]; simp); rw [hrec] at this; exact this, hdone _ (hI _ _ _ hi ((Only.refl V W2).putObj hVl _)) ((World.putObj_heap_other (by omega)).trans hk)⟩
      · exact ⟨some c, _, by have := run_endLoop (P := P) hl (by rw [hrec]; simp); rw [hrec] at this; exact this, hstop c k x _ hx (hIx _ _ _ _ hi ((Only.refl V W2).putObj hVl _)) ((World.putObj_heap_other (by omega)).trans hk)⟩
end
end Go.Proofs.Ytokjhocjemjfiaa.Seq
