/- Contracts of layer 6's calls with their answers as letters. -/
import Derived.Test.YtlfdmlacadoolaaSameQ
import Derived.Test.YtlfdmlacadoolaaFew6
set_option linter.unusedVariables false
set_option linter.unusedSimpArgs false
namespace Go.Proofs.Ytlfdmlacadoolaa.PartW
open Go Go.RowKit Go.Shelf Go.Proofs.Ytlfdmlacadoolaa.A Go.Proofs.Ytlfdmlacadoolaa.Sp Go.Proofs.Ytlfdmlacadoolaa.Reg Go.Proofs.Ytlfdmlacadoolaa.Seq Go.Proofs.YtlfdmlacadoolaaW.PrintWords Go.Proofs.YtlfdmlacadoolaaW.PrintLast Go.Proofs.YtlfdmlacadoolaaW.PrintMore
theorem ris_c (g : Grp) (A : Option Addr) (c : Nat) (w : World) (h : Rd w A c g.l) {b : Bool} (hb : isG true g = b) : Calls Try.prog 16 #[vG g A c] w fun e w' => e = .returned (.bool b) ∧ Below w.heap.size w w' := by
  rw [← hb]; exact ref_Is6 g A c w h
theorem rsame_c (a b : Grp) (A : Option Addr) (c : Nat) (A' : Option Addr) (c' : Nat) (w : World) (ha : Rd w A c a.l) (hb : Rd w A' c' b.l) {r : Bool} (hr : sameG a b = r) : Calls Try.prog 18 #[vG a A c, vG b A' c'] w fun e w' => e = .returned (.bool r) ∧ Below w.heap.size w w' := by
  rw [← hr]; exact ref_SameG a b A c A' c' w ha hb
theorem rlast_c (g : Grp) (A : Option Addr) (c : Nat) (w : World) (h : Rd w A c g.l) {v : Int} (hv : lastG g = v) : Calls Try.prog 26 #[vG g A c] w fun e w' => e = .returned (.int .i64 v) ∧ Below w.heap.size w w' := by
  rw [← hv]; exact ref_Last' g A c w h
theorem rchk_c (g : Grp) (A : Option Addr) (c : Nat) (p : Prt) (Ap : Option Addr) (cp : Nat) (w : World) (h : Rd w A c g.l) (hp : Rd w Ap cp p.l) (hD : isG true g = true) {v : Int} (hv : chkG g p = v) : Calls Try.prog 21 #[vG g A c, vP p Ap cp] w fun e w' => e = .returned (.int .i64 v) ∧ Below w.heap.size w w' := by
  rw [← hv]; exact ref_Check g A c p Ap cp w h hp hD
theorem rdo_c (g : Grp) (A : Option Addr) (c : Nat) (p : Prt) (Ap : Option Addr) (cp : Nat) (w : World) (h : Rd w A c g.l) (hp : Rd w Ap cp p.l) (hl : g.l.length + p.l.length ≤ 4398046511104) (hc : canR g p) {R : Grp} (hR : doRG g p = R) : Calls Try.prog 23 #[vG g A c, vP p Ap cp] w (GotG w R) := by
  rw [← hR]; exact ref_Do6 g A c p Ap cp w h hp hl hc
theorem rterm_c (g : Grp) (A : Option Addr) (c : Nat) (i : Int) (w : World) (h : Rd w A c g.l) (hD : isG true g = true) {t x : Int} (ht : trm g i = (t, x)) : Calls Try.prog 28 #[vG g A c, .int .i64 i] w fun e w' => e = .returned (.tuple #[.int .i64 t, .int .i64 x]) ∧ Below w.heap.size w w' := by
  have := ref_Term g A c i w h hD
  rw [ht] at this; exact this
theorem rents_c (g : Grp) (A : Option Addr) (c : Nat) (lo hi : Int) (w : World) (h : Rd w A c g.l) (hD : isG true g = true) (hh : hi ≤ 9223372036854775807) {l : List Ent} {x : Int} (ht : ents g lo hi = (l, x)) : Calls Try.prog 30 #[vG g A c, .int .i64 lo, .int .i64 hi] w (GotS w l x) := by
  have := ref_Ents g A c lo hi w h hD hh
  rw [ht] at this; exact this
theorem new_c (id : Int) (w : World) {G : Grp} (h : (⟨id, 1, 0, 0, 0, 0, []⟩ : Grp) = G) : Calls Try.prog 19 #[.int .i64 id] w (GotG w G) := by
  rw [← h]; exact group_New id w
theorem rnew_c (id : Int) (w : World) {G : Grp} (h : (⟨id, 1, 0, 0, 0, 0, []⟩ : Grp) = G) : Calls Try.prog 20 #[.int .i64 id] w (GotG w G) := by
  rw [← h]; exact ref_New id w
end Go.Proofs.Ytlfdmlacadoolaa.PartW
