/- A group and a part in their boxes, beside the result's: what a function of these two begins with. -/
import Derived.Test.YtfnflbclhaeedaaForward
set_option linter.unusedVariables false
set_option linter.unusedSimpArgs false
namespace Go.Proofs.Ytfnflbclhaeedaa.PartW
open Go Go.RowKit Go.Shelf Go.Proofs.Ytfnflbclhaeedaa.A Go.Proofs.Ytfnflbclhaeedaa.Sp Go.Proofs.Ytfnflbclhaeedaa.Reg Go.Proofs.Ytfnflbclhaeedaa.Seq Go.Proofs.YtfnflbclhaeedaaW.PrintWords Go.Proofs.YtfnflbclhaeedaaW.PrintLast Go.Proofs.YtfnflbclhaeedaaW.PrintMore
structure Two (g : Grp) (A : Option Addr) (c : Nat) (p : Prt) (Ap : Option Addr) (cp : Nat) (s : Nat) (w W : World) : Prop where
  hs : w.heap.size = s
  bg : BlkG g A c s W
  bp : BlkP p Ap cp (s + 1) W
  bz : BlkG ⟨0, 0, 0, 0, 0, 0, []⟩ none 0 (s + 2) W
  rg : Rd W A c g.l
  rp : Rd W Ap cp p.l
  ag : ∀ b, inA A g.l b → b < s
  ap : ∀ b, inA Ap p.l b → b < s
  b : Below s w W
  sz : s + 3 ≤ W.heap.size
section
variable {g : Grp} {A : Option Addr} {c : Nat} {p : Prt} {Ap : Option Addr} {cp s : Nat} {w W W' : World}
theorem Two.below (h : Two g A c p Ap cp s w W) (hb : Below W.heap.size W W') : Two g A c p Ap cp s w W' :=
  ⟨h.hs, h.bg.below hb, h.bp.below hb, h.bz.below hb, h.rg.below hb, h.rp.below hb, h.ag, h.ap, h.b.trans (hb.mono (by have := h.sz; omega)), Nat.le_trans h.sz hb.size⟩
theorem Two.drew (h : Two g A c p Ap cp s w W) : Two g A c p Ap cp s w W.drew := h.below (below_drew (Below.refl _ _))
theorem Two.new (g : Grp) (A : Option Addr) (c : Nat) (p : Prt) (Ap : Option Addr) (cp : Nat) (w : World) (h : Rd w A c g.l) (hp : Rd w Ap cp p.l) :
    Two g A c p Ap cp w.heap.size w (((w.alloc (.cells #[.int .i64 g.id, .int .i64 g.fi, .int .i64 g.tm, .int .i64 g.ht, .int .i64 g.hv, .int .i64 g.hc, .slice A g.l.length c] 26)).alloc (.cells #[.int .i64 p.g, .int .i64 p.k, .slice Ap p.l.length cp, .int .i64 p.ht, .int .i64 p.hv, .int .i64 p.hc, .int .i64 p.ix, .int .i64 p.tm, .bool p.mrk, .bool p.hed] 28)).alloc (.cells #[.int .i64 0, .int .i64 0, .int .i64 0, .int .i64 0, .int .i64 0, .int .i64 0, .slice none 0 0] 26)) := by
  have p0 := BlkP.new p Ap cp (w.alloc (.cells #[.int .i64 g.id, .int .i64 g.fi, .int .i64 g.tm, .int .i64 g.ht, .int .i64 g.hv, .int .i64 g.hc, .slice A g.l.length c] 26))
  rw [World.size_alloc] at p0
  have z0 := BlkG.new ⟨0, 0, 0, 0, 0, 0, []⟩ none 0 ((w.alloc (.cells #[.int .i64 g.id, .int .i64 g.fi, .int .i64 g.tm, .int .i64 g.ht, .int .i64 g.hv, .int .i64 g.hc, .slice A g.l.length c] 26)).alloc (.cells #[.int .i64 p.g, .int .i64 p.k, .slice Ap p.l.length cp, .int .i64 p.ht, .int .i64 p.hv, .int .i64 p.hc, .int .i64 p.ix, .int .i64 p.tm, .bool p.mrk, .bool p.hed] 28))
  rw [World.size_alloc, World.size_alloc] at z0
  exact ⟨rfl, ((BlkG.new g A c w).alloc _).alloc _, BlkP.alloc p0 _, z0, ((h.alloc _).alloc _).alloc _, ((hp.alloc _).alloc _).alloc _, fun b hb => h.lt hb, fun b hb => hp.lt hb,
    by repeat (first | exact Below.refl _ _ | apply below_alloc), by simp⟩
end
/-- a result that is stored last -/
theorem stored {r : Grp} {A' : Option Addr} {c' B n : Nat} {w W : World} (hz : BlkG ⟨0, 0, 0, 0, 0, 0, []⟩ none 0 B W) (hr : Rd W A' c' r.l) (hb : Below n w W) (hn : n ≤ B) (hw : n ≤ W.heap.size) :
    BlkG r A' c' B (((((((W.setCell ⟨B, 0, none⟩ (.int .i64 r.id)).setCell ⟨B, 1, none⟩ (.int .i64 r.fi)).setCell ⟨B, 2, none⟩ (.int .i64 r.tm)).setCell ⟨B, 3, none⟩ (.int .i64 r.ht)).setCell ⟨B, 4, none⟩ (.int .i64 r.hv)).setCell ⟨B, 5, none⟩ (.int .i64 r.hc)).setCell ⟨B, 6, none⟩ (.slice A' r.l.length c')) ∧
    Rd (((((((W.setCell ⟨B, 0, none⟩ (.int .i64 r.id)).setCell ⟨B, 1, none⟩ (.int .i64 r.fi)).setCell ⟨B, 2, none⟩ (.int .i64 r.tm)).setCell ⟨B, 3, none⟩ (.int .i64 r.ht)).setCell ⟨B, 4, none⟩ (.int .i64 r.hv)).setCell ⟨B, 5, none⟩ (.int .i64 r.hc)).setCell ⟨B, 6, none⟩ (.slice A' r.l.length c')) A' c' r.l ∧
    Below n w (((((((W.setCell ⟨B, 0, none⟩ (.int .i64 r.id)).setCell ⟨B, 1, none⟩ (.int .i64 r.fi)).setCell ⟨B, 2, none⟩ (.int .i64 r.tm)).setCell ⟨B, 3, none⟩ (.int .i64 r.ht)).setCell ⟨B, 4, none⟩ (.int .i64 r.hv)).setCell ⟨B, 5, none⟩ (.int .i64 r.hc)).setCell ⟨B, 6, none⟩ (.slice A' r.l.length c')) :=
  ⟨hz.store, Rd.only hr (only_store r A' c' B W) (fun q hq h => by have h3 : q = B := h; subst h3; exact Rd.apartG hr hz hq),
    hb.trans ((only_store r A' c' B W).below hw (fun q hq h => by have h3 : q = B := h; omega))⟩
end Go.Proofs.Ytfnflbclhaeedaa.PartW
