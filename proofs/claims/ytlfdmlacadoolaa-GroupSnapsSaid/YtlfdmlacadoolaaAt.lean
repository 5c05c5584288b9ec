/- The walk of group.at. -/
import Derived.Test.YtlfdmlacadoolaaMd
set_option linter.unusedVariables false
set_option linter.unusedSimpArgs false
namespace Go.Proofs.Ytlfdmlacadoolaa.Sp
open Go Go.RowKit Go.Proofs.Ytlfdmlacadoolaa.A Go.Proofs.YtlfdmlacadoolaaW.PrintWords Go.Proofs.YtlfdmlacadoolaaW.PrintLast Go.Proofs.YtlfdmlacadoolaaW.PrintMore
/-- the entry of an index, or none -/
def entL (l : List Ent) (i : Int) : Ent := match findL l i with
  | some e => e
  | none => ⟨0, 0, ⟨#[]⟩⟩
end Go.Proofs.Ytlfdmlacadoolaa.Sp
namespace Go.Proofs.Ytlfdmlacadoolaa.PartW
open Go Go.RowKit Go.Shelf Go.Proofs.Ytlfdmlacadoolaa.A Go.Proofs.Ytlfdmlacadoolaa.Sp Go.Proofs.Ytlfdmlacadoolaa.Reg Go.Proofs.Ytlfdmlacadoolaa.Seq Go.Proofs.YtlfdmlacadoolaaW.PrintWords Go.Proofs.YtlfdmlacadoolaaW.PrintLast Go.Proofs.YtlfdmlacadoolaaW.PrintMore
attribute [local go_sem] Oper.semAt_some
abbrev vE (x : Ent) : Value := .agg #[.int .i64 x.f0, .int .i64 x.f1, .string x.f2]
/-- the block of an entry -/
def BlkE (x : Ent) (B : Nat) (W : World) : Prop := W.heap[B]? = some (.cells #[.int .i64 x.f0, .int .i64 x.f1, .string x.f2] 55 (0, 0))
theorem BlkE.new (x : Ent) (w : World) : BlkE x w.heap.size (w.alloc (.cells #[.int .i64 x.f0, .int .i64 x.f1, .string x.f2] 55)) := by
  unfold BlkE; exact World.alloc_heap_new w _
theorem BlkE.only {U : Nat → Prop} {x : Ent} {B : Nat} {W W' : World} (h : BlkE x B W) (ho : Only U W W') (hU : ¬ U B) : BlkE x B W' := (ho.block B (Array.getElem?_eq_some_iff.1 h).1 hU).trans h
theorem BlkE.below {x : Ent} {B : Nat} {W W' : World} (h : BlkE x B W) (hb : Below W.heap.size W W') : BlkE x B W' := (hb.block _ (Array.getElem?_eq_some_iff.1 h).1).trans h
theorem BlkE.alloc {x : Ent} {B : Nat} {W : World} (h : BlkE x B W) (o : Obj) : BlkE x B (W.alloc o) := (Below.heap_alloc _ _ _ (Array.getElem?_eq_some_iff.1 h).1).trans h
theorem BlkE.lt {x : Ent} {B : Nat} {W : World} (h : BlkE x B W) : B < W.heap.size := (Array.getElem?_eq_some_iff.1 h).1
theorem BlkE.box {x : Ent} {B : Nat} {W : World} (h : BlkE x B W) : BoxE x B W := by
  unfold BlkE at h
  refine ⟨?_, ?_, ?_⟩ <;> simp [World.cell?, h]
theorem BlkE.free {x : Ent} {B : Nat} {W : World} (h : BlkE x B W) (o : Nat) : W.frozen? ⟨B, o, none⟩ = false := by
  unfold BlkE at h
  simp [World.frozen?, h]
theorem BlkE.store {x y : Ent} {B : Nat} {W : World} (h : BlkE x B W) : BlkE y B (((W.setCell ⟨B, 0, none⟩ (.int .i64 y.f0)).setCell ⟨B, 1, none⟩ (.int .i64 y.f1)).setCell ⟨B, 2, none⟩ (.string y.f2)) := by
  unfold BlkE at h ⊢
  simp [World.setCell, Array.getElem?_modify, h]
theorem only_storeE (y : Ent) (B : Nat) (W : World) : Only (fun q => q = B) W (((W.setCell ⟨B, 0, none⟩ (.int .i64 y.f0)).setCell ⟨B, 1, none⟩ (.int .i64 y.f1)).setCell ⟨B, 2, none⟩ (.string y.f2)) := by
  iterate 3 refine Only.setCell (U := fun q => q = B) ?_ (by exact rfl) _
  exact Only.refl _ _
theorem BlkE.marks {x : Ent} {B n₀ : Nat} {W W' : World} (h : BlkE x B W) (ho : Only (fun k => n₀ ≤ k ∧ ∃ o, W.heap[k]? = some o ∧ o.isCells = false) W W') : BlkE x B W' :=
  h.only ho fun h2 => by
    obtain ⟨_, o, ho, hc⟩ := h2
    unfold BlkE at h
    rw [h] at ho
    cases ho
    cases hc
theorem Boxed.marks {B n₀ : Nat} {t : TypeId} {v : Value} {W W' : World} (h : Boxed W B t v) (ho : Only (fun k => n₀ ≤ k ∧ ∃ o, W.heap[k]? = some o ∧ o.isCells = false) W W') : Boxed W' B t v :=
  ho.boxed h fun h2 => by
    obtain ⟨_, o, ho, hc⟩ := h2
    unfold Boxed at h
    rw [h] at ho
    cases ho
    cases hc
set_option maxHeartbeats 4000000 in
set_option maxRecDepth 100000 in
theorem group_at (g : Grp) (A : Option Addr) (c : Nat) (i : Int) (w : World) (h : Rd w A c g.l) (hi0 : -9223372036854775808 ≤ i) (hi1 : i ≤ 9223372036854775806) :
    Calls Try.prog 43 #[vG g A c, .int .i64 i] w fun e w' => e = .returned (.tuple #[vE (entL g.l i), .bool (findL g.l i).isSome]) ∧ Below w.heap.size w w' := by
  have HR := Aside0.mk h
  clear h
  refine (callsIn_wide (n := 0)).1 ?_
  unfold vG
  refine callsIn_of_wp_marks Try.func43 rfl trivial ?_
  simp only [Try.ntmps43, List.size_toArray, List.length_cons, List.length_nil, Nat.reduceAdd, Nat.reduceSub, Array.replicate_succ, Array.replicate_zero, List.push_toArray, List.append_toArray, List.nil_append, List.cons_append]
  gi_wp2_with (refine ⟨trivial, rfl, ?_⟩; gi_at_call 42; refine (within_calls' g A c i (i + 1) _).mono ?_; rintro e w' ⟨rfl, rfl⟩)
  obtain ⟨s, hs⟩ : ∃ s, w.heap.size = s := ⟨_, rfl⟩
  have hf0 : BlkE ⟨0, 0, ⟨#[]⟩⟩ (s + 1) ((((((w.alloc (.cells #[.int .i64 g.id, .int .i64 g.fi, .int .i64 g.tm, .int .i64 g.ht, .int .i64 g.hv, .int .i64 g.hc, .slice A g.l.length c] 26)).alloc (.cells #[.int .i64 0, .int .i64 0, .string ⟨#[]⟩] 55)).alloc (.cells #[.bool false] 4)).alloc (.cells #[.int .i64 g.id, .int .i64 g.fi, .int .i64 g.tm, .int .i64 g.ht, .int .i64 g.hv, .int .i64 g.hc, .slice A g.l.length c] 26)).alloc (.cells #[.int .i64 i] 3)).alloc (.cells #[.int .i64 (i + 1)] 3)) := by
    have := BlkE.new ⟨0, 0, ⟨#[]⟩⟩ (w.alloc (.cells #[.int .i64 g.id, .int .i64 g.fi, .int .i64 g.tm, .int .i64 g.ht, .int .i64 g.hv, .int .i64 g.hc, .slice A g.l.length c] 26))
    rw [show (w.alloc (.cells #[.int .i64 g.id, .int .i64 g.fi, .int .i64 g.tm, .int .i64 g.ht, .int .i64 g.hv, .int .i64 g.hc, .slice A g.l.length c] 26)).heap.size = s + 1 by simp [hs]] at this
    exact (((this.alloc _).alloc _).alloc _).alloc _
  have hbo : Boxed ((((((w.alloc (.cells #[.int .i64 g.id, .int .i64 g.fi, .int .i64 g.tm, .int .i64 g.ht, .int .i64 g.hv, .int .i64 g.hc, .slice A g.l.length c] 26)).alloc (.cells #[.int .i64 0, .int .i64 0, .string ⟨#[]⟩] 55)).alloc (.cells #[.bool false] 4)).alloc (.cells #[.int .i64 g.id, .int .i64 g.fi, .int .i64 g.tm, .int .i64 g.ht, .int .i64 g.hv, .int .i64 g.hc, .slice A g.l.length c] 26)).alloc (.cells #[.int .i64 i] 3)).alloc (.cells #[.int .i64 (i + 1)] 3)) (s + 2) 4 (.bool false) := by
    have := Boxed.new ((w.alloc (.cells #[.int .i64 g.id, .int .i64 g.fi, .int .i64 g.tm, .int .i64 g.ht, .int .i64 g.hv, .int .i64 g.hc, .slice A g.l.length c] 26)).alloc (.cells #[.int .i64 0, .int .i64 0, .string ⟨#[]⟩] 55)) 4 (.bool false)
    rw [show ((w.alloc (.cells #[.int .i64 g.id, .int .i64 g.fi, .int .i64 g.tm, .int .i64 g.ht, .int .i64 g.hv, .int .i64 g.hc, .slice A g.l.length c] 26)).alloc (.cells #[.int .i64 0, .int .i64 0, .string ⟨#[]⟩] 55)).heap.size = s + 2 by simp [hs]] at this
    exact ((this.alloc _).alloc _).alloc _
  have hg : BoxG g A c (s + 3) ((((((w.alloc (.cells #[.int .i64 g.id, .int .i64 g.fi, .int .i64 g.tm, .int .i64 g.ht, .int .i64 g.hv, .int .i64 g.hc, .slice A g.l.length c] 26)).alloc (.cells #[.int .i64 0, .int .i64 0, .string ⟨#[]⟩] 55)).alloc (.cells #[.bool false] 4)).alloc (.cells #[.int .i64 g.id, .int .i64 g.fi, .int .i64 g.tm, .int .i64 g.ht, .int .i64 g.hv, .int .i64 g.hc, .slice A g.l.length c] 26)).alloc (.cells #[.int .i64 i] 3)).alloc (.cells #[.int .i64 (i + 1)] 3)) := by
    have := BoxG.new g A c (((w.alloc (.cells #[.int .i64 g.id, .int .i64 g.fi, .int .i64 g.tm, .int .i64 g.ht, .int .i64 g.hv, .int .i64 g.hc, .slice A g.l.length c] 26)).alloc (.cells #[.int .i64 0, .int .i64 0, .string ⟨#[]⟩] 55)).alloc (.cells #[.bool false] 4))
    rw [show (((w.alloc (.cells #[.int .i64 g.id, .int .i64 g.fi, .int .i64 g.tm, .int .i64 g.ht, .int .i64 g.hv, .int .i64 g.hc, .slice A g.l.length c] 26)).alloc (.cells #[.int .i64 0, .int .i64 0, .string ⟨#[]⟩] 55)).alloc (.cells #[.bool false] 4)).heap.size = s + 3 by simp [hs]] at this
    exact (this.below ((Below.refl _ _).alloc (Nat.le_refl _) _)).below ((Below.refl _ _).alloc (Nat.le_refl _) _)
  have h1 : Boxed ((((((w.alloc (.cells #[.int .i64 g.id, .int .i64 g.fi, .int .i64 g.tm, .int .i64 g.ht, .int .i64 g.hv, .int .i64 g.hc, .slice A g.l.length c] 26)).alloc (.cells #[.int .i64 0, .int .i64 0, .string ⟨#[]⟩] 55)).alloc (.cells #[.bool false] 4)).alloc (.cells #[.int .i64 g.id, .int .i64 g.fi, .int .i64 g.tm, .int .i64 g.ht, .int .i64 g.hv, .int .i64 g.hc, .slice A g.l.length c] 26)).alloc (.cells #[.int .i64 i] 3)).alloc (.cells #[.int .i64 (i + 1)] 3)) (s + 4) 3 (.int .i64 i) := by
    have := Boxed.new ((((w.alloc (.cells #[.int .i64 g.id, .int .i64 g.fi, .int .i64 g.tm, .int .i64 g.ht, .int .i64 g.hv, .int .i64 g.hc, .slice A g.l.length c] 26)).alloc (.cells #[.int .i64 0, .int .i64 0, .string ⟨#[]⟩] 55)).alloc (.cells #[.bool false] 4)).alloc (.cells #[.int .i64 g.id, .int .i64 g.fi, .int .i64 g.tm, .int .i64 g.ht, .int .i64 g.hv, .int .i64 g.hc, .slice A g.l.length c] 26)) 3 (.int .i64 i)
    rw [show ((((w.alloc (.cells #[.int .i64 g.id, .int .i64 g.fi, .int .i64 g.tm, .int .i64 g.ht, .int .i64 g.hv, .int .i64 g.hc, .slice A g.l.length c] 26)).alloc (.cells #[.int .i64 0, .int .i64 0, .string ⟨#[]⟩] 55)).alloc (.cells #[.bool false] 4)).alloc (.cells #[.int .i64 g.id, .int .i64 g.fi, .int .i64 g.tm, .int .i64 g.ht, .int .i64 g.hv, .int .i64 g.hc, .slice A g.l.length c] 26)).heap.size = s + 4 by simp [hs]] at this
    exact this.alloc _
  have h2 : Boxed ((((((w.alloc (.cells #[.int .i64 g.id, .int .i64 g.fi, .int .i64 g.tm, .int .i64 g.ht, .int .i64 g.hv, .int .i64 g.hc, .slice A g.l.length c] 26)).alloc (.cells #[.int .i64 0, .int .i64 0, .string ⟨#[]⟩] 55)).alloc (.cells #[.bool false] 4)).alloc (.cells #[.int .i64 g.id, .int .i64 g.fi, .int .i64 g.tm, .int .i64 g.ht, .int .i64 g.hv, .int .i64 g.hc, .slice A g.l.length c] 26)).alloc (.cells #[.int .i64 i] 3)).alloc (.cells #[.int .i64 (i + 1)] 3)) (s + 5) 3 (.int .i64 (i + 1)) := by
    have := Boxed.new (((((w.alloc (.cells #[.int .i64 g.id, .int .i64 g.fi, .int .i64 g.tm, .int .i64 g.ht, .int .i64 g.hv, .int .i64 g.hc, .slice A g.l.length c] 26)).alloc (.cells #[.int .i64 0, .int .i64 0, .string ⟨#[]⟩] 55)).alloc (.cells #[.bool false] 4)).alloc (.cells #[.int .i64 g.id, .int .i64 g.fi, .int .i64 g.tm, .int .i64 g.ht, .int .i64 g.hv, .int .i64 g.hc, .slice A g.l.length c] 26)).alloc (.cells #[.int .i64 i] 3)) 3 (.int .i64 (i + 1))
    rwa [show (((((w.alloc (.cells #[.int .i64 g.id, .int .i64 g.fi, .int .i64 g.tm, .int .i64 g.ht, .int .i64 g.hv, .int .i64 g.hc, .slice A g.l.length c] 26)).alloc (.cells #[.int .i64 0, .int .i64 0, .string ⟨#[]⟩] 55)).alloc (.cells #[.bool false] 4)).alloc (.cells #[.int .i64 g.id, .int .i64 g.fi, .int .i64 g.tm, .int .i64 g.ht, .int .i64 g.hv, .int .i64 g.hc, .slice A g.l.length c] 26)).alloc (.cells #[.int .i64 i] 3)).heap.size = s + 5 by simp [hs]] at this
  have hb0 : Below s w ((((((w.alloc (.cells #[.int .i64 g.id, .int .i64 g.fi, .int .i64 g.tm, .int .i64 g.ht, .int .i64 g.hv, .int .i64 g.hc, .slice A g.l.length c] 26)).alloc (.cells #[.int .i64 0, .int .i64 0, .string ⟨#[]⟩] 55)).alloc (.cells #[.bool false] 4)).alloc (.cells #[.int .i64 g.id, .int .i64 g.fi, .int .i64 g.tm, .int .i64 g.ht, .int .i64 g.hv, .int .i64 g.hc, .slice A g.l.length c] 26)).alloc (.cells #[.int .i64 i] 3)).alloc (.cells #[.int .i64 (i + 1)] 3)) := by rw [← hs]; repeat (first | exact Below.refl _ _ | apply below_alloc)
  have hrd : Rd ((((((w.alloc (.cells #[.int .i64 g.id, .int .i64 g.fi, .int .i64 g.tm, .int .i64 g.ht, .int .i64 g.hv, .int .i64 g.hc, .slice A g.l.length c] 26)).alloc (.cells #[.int .i64 0, .int .i64 0, .string ⟨#[]⟩] 55)).alloc (.cells #[.bool false] 4)).alloc (.cells #[.int .i64 g.id, .int .i64 g.fi, .int .i64 g.tm, .int .i64 g.ht, .int .i64 g.hv, .int .i64 g.hc, .slice A g.l.length c] 26)).alloc (.cells #[.int .i64 i] 3)).alloc (.cells #[.int .i64 (i + 1)] 3)) A c g.l := (((((HR.out.alloc _).alloc _).alloc _).alloc _).alloc _).alloc _
  have hsz : ((((((w.alloc (.cells #[.int .i64 g.id, .int .i64 g.fi, .int .i64 g.tm, .int .i64 g.ht, .int .i64 g.hv, .int .i64 g.hc, .slice A g.l.length c] 26)).alloc (.cells #[.int .i64 0, .int .i64 0, .string ⟨#[]⟩] 55)).alloc (.cells #[.bool false] 4)).alloc (.cells #[.int .i64 g.id, .int .i64 g.fi, .int .i64 g.tm, .int .i64 g.ht, .int .i64 g.hv, .int .i64 g.hc, .slice A g.l.length c] 26)).alloc (.cells #[.int .i64 i] 3)).alloc (.cells #[.int .i64 (i + 1)] 3)).heap.size = s + 6 := by simp [hs]
  have hRs : ∀ b, inA A g.l b → b < s := fun b hb => by rw [← hs]; exact HR.out.lt hb
  simp only [hs]
  generalize ((((((w.alloc (.cells #[.int .i64 g.id, .int .i64 g.fi, .int .i64 g.tm, .int .i64 g.ht, .int .i64 g.hv, .int .i64 g.hc, .slice A g.l.length c] 26)).alloc (.cells #[.int .i64 0, .int .i64 0, .string ⟨#[]⟩] 55)).alloc (.cells #[.bool false] 4)).alloc (.cells #[.int .i64 g.id, .int .i64 g.fi, .int .i64 g.tm, .int .i64 g.ht, .int .i64 g.hv, .int .i64 g.hc, .slice A g.l.length c] 26)).alloc (.cells #[.int .i64 i] 3)).alloc (.cells #[.int .i64 (i + 1)] 3)) = W0 at hf0 hbo hg h1 h2 hb0 hrd hsz ⊢
  have hit := within_iter (s + 3) (s + 4) (s + 5) g A c i (i + 1) W0 hg h1 h2 hrd
  refine range_outer2 (gf := 60) (lb := #[.pointer (some ⟨s + 3, 0, none⟩), .pointer (some ⟨s + 4, 0, none⟩), .pointer (some ⟨s + 5, 0, none⟩)]) rfl (enters_of Try.func60 (by kernel_rfl) rfl) hit (fun q h => h.elim) (fun q h => by rcases h with h | h; omega; have := hRs q h; omega) (fun _ => rfl)
    (fun k W => k = 0 ∧ BlkE ⟨0, 0, ⟨#[]⟩⟩ (s + 1) W ∧ Boxed W (s + 2) 4 (.bool false) ∧ Below s w W)
    (fun cd k W => cd = .ret ∧ k = 0 ∧ (∃ x, (withL g.l i (i + 1))[0]? = some x ∧ BlkE x (s + 1) W) ∧ Boxed W (s + 2) 4 (.bool true) ∧ Below s w W) ?hI ?hIx ?h0
    (fun x a' W => ∃ Bx, s + 7 < Bx ∧ BoxE x Bx W ∧ a' = { tmps := #[.agg #[.int .i64 g.id, .int .i64 g.fi, .int .i64 g.tm, .int .i64 g.ht, .int .i64 g.hv, .int .i64 g.hc, .slice A g.l.length c], .int .i64 i, .pointer (some ⟨s, 0, none⟩), undef, .pointer (some ⟨s + 1, 0, none⟩), .pointer (some ⟨s + 1 + 1, 0, none⟩), .pointer (some ⟨Bx, 0, none⟩), .agg #[.int .i64 g.id, .int .i64 g.fi, .int .i64 g.tm, .int .i64 g.ht, .int .i64 g.hv, .int .i64 g.hc, .slice A g.l.length c], .int .i64 i, .int .i64 i, .int .i64 (i + 1), .func (.func 60) #[] #[.pointer (some ⟨s + 1 + 1 + 1, 0, none⟩), .pointer (some ⟨s + 1 + 1 + 1 + 1, 0, none⟩), .pointer (some ⟨s + 1 + 1 + 1 + 1 + 1, 0, none⟩)], .agg #[.int .i64 x.f0, .int .i64 x.f1, .string x.f2], undef, undef], defers := [] })
    ?hAx ?assign ?body ?done ?stop
  case hI =>
    rintro j X Y ⟨h1, h2, h3, h4⟩ ho
    rw [hsz] at ho
    have hU : ∀ q, q ≤ s + 5 → ¬ (False ∨ q = s + 6 ∨ q = s + 6 + 1) := fun q hq h => by rcases h with h | h | h; exact h; all_goals omega
    exact ⟨h1, h2.only ho (hU _ (by omega)), ho.boxed h3 (hU _ (by omega)), below_only h4 ho (by have := h4.size; omega) (fun q hq => hU q (by omega))⟩
  case hIx =>
    rintro cd j X Y ⟨rfl, h1, ⟨x, hx, h2⟩, h3, h4⟩ ho
    rw [hsz] at ho
    have hU : ∀ q, q ≤ s + 5 → ¬ (False ∨ q = s + 6 ∨ q = s + 6 + 1) := fun q hq h => by rcases h with h | h | h; exact h; all_goals omega
    exact ⟨rfl, h1, ⟨x, hx, h2.only ho (hU _ (by omega))⟩, ho.boxed h3 (hU _ (by omega)), below_only h4 ho (by have := h4.size; omega) (fun q hq => hU q (by omega))⟩
  case h0 => exact ⟨rfl, hf0, hbo, hb0⟩
  case hAx =>
    rintro x a' X Y ⟨Bx, h1, h2, h3⟩ ho
    rw [hsz] at ho
    exact ⟨Bx, h1, h2.only ho (by intro h; rcases h with h | h | h; exact False.elim h; all_goals omega), h3⟩
  case assign =>
    rintro l j x W' K hx ⟨h1, h2, h3, h4⟩ hsz' hK
    rw [hsz] at hsz'
    clear hit
    gi_wp2
    exact hK _ _ (Keeps.alloc _ _ _) ⟨h1, h2.alloc _, h3.alloc _, h4.alloc (by have := h4.size; omega) _⟩ ⟨W'.heap.size, by omega, BoxE.new x W', rfl⟩
  case body =>
    rintro l j x a' W hx rfl ⟨r, hr⟩ ⟨rfl, hf1, hr1, hbel⟩ ⟨Bx, hBx, hbx, rfl⟩
    obtain ⟨e0, e1, e2⟩ := hbx
    obtain ⟨z0, z1, z2⟩ := hf1.box
    have zf := hf1.free
    have hrc := hr1.cell
    have hrf := hr1.frozen
    have HX := Aside0.mk hx
    have HF1 := Aside0.mk hf1
    have HR1 := Aside0.mk hr1
    have HB := Aside0.mk hbel
    have HRS := Aside0.mk hRs
    have HSZ := Aside0.mk hsz
    have hx1 := only_storeE x (s + 1) W
    have hx2 := (hx1.mono (V := fun q => q = s + 1 ∨ q = s + 2) (fun _ _ h => .inl h)).setCell (p := ⟨s + 2, 0, none⟩) (.inr rfl) (.bool true)
    have HX2 := Aside0.mk hx2
    have HX1 := Aside0.mk hx1
    clear hx hf1 hr1 hbel hRs hr hit hg h1 h2 hb0 hrd hsz hf0 hbo hx1 hx2
    gi_wp2
    refine ⟨HX2.out.keeps (fun q _ hv h => ?_), rfl, rfl, ⟨x, HX.out, ?_⟩, ?_, ?_⟩
    · have hs0 := HSZ.out
      rcases hv with (hv | hv) | hv | hv
      · rcases h with h | h <;> omega
      · have := HRS.out _ hv; rcases h with h | h <;> omega
      · rcases h with h | h <;> omega
      · rcases h with h | h <;> omega
    · exact (HF1.out.store (y := x)).only ((Only.refl (fun q => q = s + 2) _).setCell (p := ⟨s + 2, 0, none⟩) rfl _) (fun h => by have h3 : s + 1 = s + 2 := h; omega)
    · exact (HX1.out.boxed HR1.out (fun h => by have h3 : s + 2 = s + 1 := h; omega)).set _
    · exact HB.out.trans (HX2.out.below (by have := HB.out.size; omega) (fun q hq h => by rcases h with h | h <;> omega))
  case done =>
    rintro W ⟨hn, h2, h3, h4⟩ hD
    have HH : Aside0 (findL g.l i = none) := ⟨by rw [← with_one, List.getElem?_eq_none (by omega)]⟩
    have H2 := Aside0.mk h2
    have H3 := Aside0.mk h3
    have H4 := Aside0.mk h4
    have HD := Aside0.mk hD
    have HSZ := Aside0.mk hsz
    have HS0 := Aside0.mk hs
    obtain ⟨z0, z1, z2⟩ := h2.box
    have zf := h2.free
    have hrc := h3.cell
    have hrf := h3.frozen
    have hx1 := only_storeE ⟨0, 0, ⟨#[]⟩⟩ (s + 1) W
    have hx2 := (hx1.mono (V := fun q => q = s + 1 ∨ q = s + 2) (fun _ _ h => .inl h)).setCell (p := ⟨s + 2, 0, none⟩) (.inr rfl) (.bool false)
    have HX2 := Aside0.mk hx2
    have HX1 := Aside0.mk hx1
    clear h2 h3 h4 hn hD hsz hs hRs hit hg h1 hb0 hrd hf0 hbo hx1 hx2
    gi_wp2
    refine Marks.leaves (n₀ := W0.heap.size) ((show Marks W0.heap.size [] _ from trivial).cons ((HX2.out.block _ (Array.getElem?_eq_some_iff.1 HD.out).1 (fun h => by have h2 := HSZ.out; rcases h with h | h <;> omega)).trans HD.out) (Nat.le_refl _) (by simp)) fun W' hW' => ?_
    obtain ⟨c0, c1, c2⟩ := (((H2.out.store (y := ⟨0, 0, ⟨#[]⟩⟩)).only ((Only.refl (fun q => q = s + 2) _).setCell (p := ⟨s + 2, 0, none⟩) rfl (.bool false)) (fun h => by have h3 : s + 1 = s + 2 := h; omega)).marks hW').box
    have hc := (Boxed.marks ((HX1.out.boxed H3.out (fun h => by have h3 : s + 2 = s + 1 := h; omega)).set (.bool false)) hW').cell
    dsimp only at c0 c1 c2
    refine ⟨.tuple #[vE (entL g.l i), .bool (findL g.l i).isSome], by simp [results, Try.results43, go_sem, hc, c0, c1, c2, entL, HH.out], rfl, ?_⟩
    rw [HS0.out]
    have g4 := H4.out.trans (HX2.out.below (by have := H4.out.size; have := HS0.out; omega) (fun q hq h => by rcases h with h | h <;> omega))
    exact g4.trans (hW'.below (by have h5 : s ≤ W.heap.size := by have := H4.out.size; have := HS0.out; omega
                                  exact Nat.le_trans h5 HX2.out.size) (fun q hq h => by have h1 := h.1; have h2 := HSZ.out; omega))
  case stop =>
    rintro cd j x W hx ⟨rfl, rfl, ⟨y, hy, h2⟩, h3, h4⟩ hD
    have HH : Aside0 (findL g.l i = some y) := ⟨by rw [← with_one, hy]⟩
    have H2 := Aside0.mk h2
    have H3 := Aside0.mk h3
    have H4 := Aside0.mk h4
    have HSZ := Aside0.mk hsz
    have HS0 := Aside0.mk hs
    clear h2 h3 h4 hx hy hsz hs hRs hit hg h1 hb0 hrd hf0 hbo
    gi_wp2
    refine Marks.leaves (n₀ := W0.heap.size) ((show Marks W0.heap.size [] _ from trivial).cons hD (Nat.le_refl _) (by simp)) fun W' hW' => ?_
    obtain ⟨c0, c1, c2⟩ := (H2.out.marks hW').box
    have hc := (Boxed.marks H3.out hW').cell
    refine ⟨.tuple #[vE (entL g.l i), .bool (findL g.l i).isSome], by simp [results, Try.results43, go_sem, hc, c0, c1, c2, entL, HH.out], rfl, ?_⟩
    rw [HS0.out]
    exact H4.out.trans (hW'.below (by have := H4.out.size; have := HS0.out; omega) (fun q hq h => by have h1 := h.1; have h2 := HSZ.out; omega))
end Go.Proofs.Ytlfdmlacadoolaa.PartW
