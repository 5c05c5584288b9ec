/- A region that draws its order, whose calls lay blocks of their own and each hand back one value: walked once, in the order of the text. -/
import Derived.Test.YtjiojcoddildgaaWMore
import Derived.BigQuiet
namespace Go.Proofs.Ytjiojcoddildgaa.Reg
open Go Go.RowKit
/-- A world of which S holds. -/
structure Cls (S : World → Prop) where
  w : World
  ok : S w
theorem wp_region_cls {P : Program} {id : Nat} {Q : Exit → Act → World → Prop} {a : Act} {w : World} {l : List Oper} (S : World → Prop) (hm : P.follows .mixedOrders = true) (hB : Region.lexB .any l.toArray = true) (hS : S w.drew)
    (h : wpQuiet P l.toArray (fun w' => ∃ p : Cls S, w' = p.w) (fun a' => ∀ w', (∃ p : Cls S, w' = p.w) → Q .normal a' w') l a) : (Code.region id l.toArray true).wp P Q a w :=
  wp_region_quiet (C := fun w' => ∃ p : Cls S, w' = p.w) hm hB ⟨⟨w.drew, hS⟩, rfl⟩ (by simpa using h)
theorem calls_cls {P : Program} {f : FuncId} {args : Array Value} {S : World → Prop} {p : Cls S} {v : Value} (hS : ∀ A B : World, S A → Below A.heap.size A B → S B)
    (h : Calls P f args p.w fun e w' => e = .returned v ∧ Below p.w.heap.size p.w w') : Calls P f args p.w fun e w'' => e = .returned v ∧ ∃ q : Cls S, w'' = q.w :=
  h.mono fun _ _ ⟨he, hb⟩ => ⟨he, ⟨_, hS _ _ p.ok hb⟩, rfl⟩
theorem calls_cls_drawn {P : Program} {f : FuncId} {args : Array Value} {S : World → Prop} {p : Cls S} {v : Value} (hS : ∀ A B : World, S A → Below A.heap.size A B → S B)
    (h : Calls P f args p.w fun e w' => e = .returned v ∧ Go.Proofs.YtjiojcoddildgaaW.PrintWords.Drawn0 p.w w') : Calls P f args p.w fun e w'' => e = .returned v ∧ ∃ q : Cls S, w'' = q.w :=
  calls_cls hS (h.mono fun _ _ ⟨he, hb⟩ => ⟨he, hb.below⟩)
theorem below_cls (w : World) : ∀ A B : World, Below w.heap.size w A → Below A.heap.size A B → Below w.heap.size w B := fun _ _ h k => h.trans (k.mono h.size)
end Go.Proofs.Ytjiojcoddildgaa.Reg
