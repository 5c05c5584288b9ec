/- The contracts of the laws' fewGroup and fewPart; a group and a part in their boxes. -/
import Derived.Test.YtlfdmlacadoolaaMd
set_option linter.unusedVariables false
set_option linter.unusedSimpArgs false
namespace Go.Proofs.Ytlfdmlacadoolaa.Sp
open Go Go.RowKit Go.Proofs.Ytlfdmlacadoolaa.A Go.Proofs.YtlfdmlacadoolaaW.PrintWords Go.Proofs.YtlfdmlacadoolaaW.PrintLast Go.Proofs.YtlfdmlacadoolaaW.PrintMore
theorem few_l (g : Grp) (hl : g.l.length ≤ 4398046511104) : ∀ (d i : Nat), i + d = g.l.length → ∃ r, ladelaw6_fewGroup.l0 (d + 1) (i : Int) g.id g.fi g.tm g.ht g.hv g.hc g.l = some r ∧ (r = true → g.l.length ≤ 30)
  | 0, i, hi => ⟨decide ((g.l.length : Int) ≤ 30), by rw [ladelaw6_fewGroup.l0, if_neg (by omega)], fun h => by have := of_decide_eq_true h; omega⟩
  | d + 1, i, hi => by
    rw [ladelaw6_fewGroup.l0, if_pos (by omega), if_pos (by omega)]
    split
    · exact ⟨false, rfl, fun h => by cases h⟩
    · rw [wr1 (by omega) hl]
      exact few_l g hl d (i + 1) (by omega)
theorem fewP_l (p : Prt) (hl : p.l.length ≤ 4398046511104) : ∀ (d i : Nat), i + d = p.l.length → ∃ r, ladelaw6_fewPart.l0 (d + 1) (i : Int) p.g p.k p.l p.ht p.hv p.hc p.ix p.tm p.mrk p.hed = some r ∧ (r = true → p.l.length ≤ 8)
  | 0, i, hi => ⟨decide ((p.l.length : Int) ≤ 8), by rw [ladelaw6_fewPart.l0, if_neg (by omega)], fun h => by have := of_decide_eq_true h; omega⟩
  | d + 1, i, hi => by
    rw [ladelaw6_fewPart.l0, if_pos (by omega), if_pos (by omega)]
    split
    · exact ⟨false, rfl, fun h => by cases h⟩
    · rw [wr1 (by omega) hl]
      exact fewP_l p hl d (i + 1) (by omega)
end Go.Proofs.Ytlfdmlacadoolaa.Sp
namespace Go.Proofs.Ytlfdmlacadoolaa.PartW
open Go Go.RowKit Go.Shelf Go.Proofs.Ytlfdmlacadoolaa.A Go.Proofs.Ytlfdmlacadoolaa.Sp Go.Proofs.Ytlfdmlacadoolaa.Reg Go.Proofs.Ytlfdmlacadoolaa.Seq Go.Proofs.YtlfdmlacadoolaaW.PrintWords Go.Proofs.YtlfdmlacadoolaaW.PrintLast Go.Proofs.YtlfdmlacadoolaaW.PrintMore
theorem few_group (g : Grp) (hl : g.l.length ≤ 4398046511104) : ∃ r, (r = true → g.l.length ≤ 30) ∧ ∀ (A : Option Addr) (c : Nat) (w : World), Rd w A c g.l → Calls Try.prog 13 #[vG g A c] w fun e w' => e = .returned (.bool r) ∧ Below w.heap.size w w' := by
  obtain ⟨r, h1, h2⟩ := few_l g hl g.l.length 0 (by omega)
  exact ⟨r, h2, fun A c w h => ladelaw6_fewGroup.calls _ _ _ _ _ _ _ _ _ _ _ w h.rd h.le h1⟩
theorem few_part (p : Prt) (hl : p.l.length ≤ 4398046511104) : ∃ r, (r = true → p.l.length ≤ 8) ∧ ∀ (A : Option Addr) (c : Nat) (w : World), Rd w A c p.l → Calls Try.prog 14 #[vP p A c] w fun e w' => e = .returned (.bool r) ∧ Below w.heap.size w w' := by
  obtain ⟨r, h1, h2⟩ := fewP_l p hl p.l.length 0 (by omega)
  exact ⟨r, h2, fun A c w h => ladelaw6_fewPart.calls _ _ _ _ _ _ _ _ _ _ _ _ _ _ w h.rd h.le h1⟩
/-- a group and a part in their boxes -/
structure GP (g : Grp) (A : Option Addr) (c : Nat) (p : Prt) (Ap : Option Addr) (cp : Nat) (s : Nat) (w W : World) : Prop where
  hs : w.heap.size = s
  bg : BlkG g A c s W
  bp : BlkP p Ap cp (s + 1) W
  rg : Rd W A c g.l
  rp : Rd W Ap cp p.l
  ag : ∀ b, inA A g.l b → b < s
  ap : ∀ b, inA Ap p.l b → b < s
  b : Below s w W
  sz : s + 2 ≤ W.heap.size
section
variable {g : Grp} {A : Option Addr} {c : Nat} {p : Prt} {Ap : Option Addr} {cp s : Nat} {w W W' : World}
theorem GP.below (h : GP g A c p Ap cp s w W) (hb : Below W.heap.size W W') : GP g A c p Ap cp s w W' :=
  ⟨h.hs, h.bg.below hb, h.bp.below hb, h.rg.below hb, h.rp.below hb, h.ag, h.ap, h.b.trans (hb.mono (by have := h.sz; omega)), Nat.le_trans h.sz hb.size⟩
theorem GP.alloc (h : GP g A c p Ap cp s w W) (o : Obj) : GP g A c p Ap cp s w (W.alloc o) := h.below ((Below.refl _ _).alloc (Nat.le_refl _) o)
theorem GP.drew (h : GP g A c p Ap cp s w W) : GP g A c p Ap cp s w W.drew := h.below (below_drew (Below.refl _ _))
theorem GP.only {U : Nat → Prop} (h : GP g A c p Ap cp s w W) (ho : Only U W W') (hU : ∀ q, q < s + 2 → ¬ U q) : GP g A c p Ap cp s w W' :=
  ⟨h.hs, h.bg.only ho (hU _ (by omega)), BlkP.only h.bp ho (hU _ (by omega)), h.rg.only ho (fun q hq => hU _ (by have := h.ag q hq; omega)), h.rp.only ho (fun q hq => hU _ (by have := h.ap q hq; omega)), h.ag, h.ap,
    h.b.trans (ho.below (by have := h.sz; omega) (fun q hq => hU _ (by omega))), Nat.le_trans h.sz ho.size⟩
theorem GP.new (g : Grp) (A : Option Addr) (c : Nat) (p : Prt) (Ap : Option Addr) (cp : Nat) (w : World) (h : Rd w A c g.l) (hp : Rd w Ap cp p.l) :
    GP g A c p Ap cp w.heap.size w ((w.alloc (.cells #[.int .i64 g.id, .int .i64 g.fi, .int .i64 g.tm, .int .i64 g.ht, .int .i64 g.hv, .int .i64 g.hc, .slice A g.l.length c] 26)).alloc (.cells #[.int .i64 p.g, .int .i64 p.k, .slice Ap p.l.length cp, .int .i64 p.ht, .int .i64 p.hv, .int .i64 p.hc, .int .i64 p.ix, .int .i64 p.tm, .bool p.mrk, .bool p.hed] 28)) := by
  have p0 := BlkP.new p Ap cp (w.alloc (.cells #[.int .i64 g.id, .int .i64 g.fi, .int .i64 g.tm, .int .i64 g.ht, .int .i64 g.hv, .int .i64 g.hc, .slice A g.l.length c] 26))
  rw [World.size_alloc] at p0
  exact ⟨rfl, (BlkG.new g A c w).alloc _, p0, (h.alloc _).alloc _, (hp.alloc _).alloc _, fun b hb => h.lt hb, fun b hb => hp.lt hb, by repeat (first | exact Below.refl _ _ | apply below_alloc), by simp⟩
end
end Go.Proofs.Ytlfdmlacadoolaa.PartW
