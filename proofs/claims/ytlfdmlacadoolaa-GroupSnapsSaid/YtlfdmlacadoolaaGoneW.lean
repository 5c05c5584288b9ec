/- group.Within as a row that Collect takes; group.gone, group.fits. -/
import Derived.Test.YtlfdmlacadoolaaAt
import Derived.Test.YtlfdmlacadoolaaLast
set_option linter.unusedVariables false
set_option linter.unusedSimpArgs false
namespace Go.Proofs.Ytlfdmlacadoolaa.Sp
open Go Go.RowKit Go.Proofs.Ytlfdmlacadoolaa.A Go.Proofs.YtlfdmlacadoolaaW.PrintWords Go.Proofs.YtlfdmlacadoolaaW.PrintLast Go.Proofs.YtlfdmlacadoolaaW.PrintMore
/-- a group of which all is gone up to an index -/
def goneW (g : Grp) (i t : Int) : Grp := ⟨g.id, i + 1, t, g.ht, g.hv, g.hc, withL g.l (i + 1) 1099511627777⟩
/-- is there an entry of an index, with a term -/
def fitsB (g : Grp) (i t : Int) : Bool := (findL g.l i).isSome && ((entL g.l i).f1 == t)
end Go.Proofs.Ytlfdmlacadoolaa.Sp
namespace Go.Proofs.Ytlfdmlacadoolaa.PartW
open Go Go.RowKit Go.Shelf Go.Proofs.Ytlfdmlacadoolaa.A Go.Proofs.Ytlfdmlacadoolaa.Sp Go.Proofs.Ytlfdmlacadoolaa.Reg Go.Proofs.Ytlfdmlacadoolaa.Seq Go.Proofs.YtlfdmlacadoolaaW.PrintWords Go.Proofs.YtlfdmlacadoolaaW.PrintLast Go.Proofs.YtlfdmlacadoolaaW.PrintMore
attribute [local go_sem] Oper.semAt_some
/-- what Within gives can be gone through -/
def Goes (w : World) (xs : List Ent) (e : Ending) (w' : World) : Prop := ∃ lb R, e = .returned (.func (.func 60) #[] lb) ∧ Iter2 Try.prog 60 lb encE xs (fun _ => False) R w' ∧ (∀ k, R k → k < w'.heap.size) ∧ Below w.heap.size w w'
theorem within_seq (g : Grp) (A : Option Addr) (c : Nat) (lo hi : Int) (w : World) (h : Rd w A c g.l) :
    Calls Try.prog 42 #[vG g A c, .int .i64 lo, .int .i64 hi] w (Goes w (withL g.l lo hi)) := by
  refine ((callsIn_wide (n := 0)).1 (within_calls' g A c lo hi w)).mono ?_
  rintro e w' ⟨rfl, rfl⟩
  have hg := BoxG.new g A c w
  have h1 := Boxed.new (w.alloc (.cells #[.int .i64 g.id, .int .i64 g.fi, .int .i64 g.tm, .int .i64 g.ht, .int .i64 g.hv, .int .i64 g.hc, .slice A g.l.length c] 26)) 3 (.int .i64 lo)
  have h2 := Boxed.new ((w.alloc (.cells #[.int .i64 g.id, .int .i64 g.fi, .int .i64 g.tm, .int .i64 g.ht, .int .i64 g.hv, .int .i64 g.hc, .slice A g.l.length c] 26)).alloc (.cells #[.int .i64 lo] 3)) 3 (.int .i64 hi)
  rw [show (w.alloc (.cells #[.int .i64 g.id, .int .i64 g.fi, .int .i64 g.tm, .int .i64 g.ht, .int .i64 g.hv, .int .i64 g.hc, .slice A g.l.length c] 26)).heap.size = w.heap.size + 1 by simp] at h1
  rw [show ((w.alloc (.cells #[.int .i64 g.id, .int .i64 g.fi, .int .i64 g.tm, .int .i64 g.ht, .int .i64 g.hv, .int .i64 g.hc, .slice A g.l.length c] 26)).alloc (.cells #[.int .i64 lo] 3)).heap.size = w.heap.size + 1 + 1 by simp] at h2
  have hb : Below w.heap.size w (((w.alloc (.cells #[.int .i64 g.id, .int .i64 g.fi, .int .i64 g.tm, .int .i64 g.ht, .int .i64 g.hv, .int .i64 g.hc, .slice A g.l.length c] 26)).alloc (.cells #[.int .i64 lo] 3)).alloc (.cells #[.int .i64 hi] 3)) := by
    refine ((((Below.refl _ w).alloc (Nat.le_refl _) _).alloc ?_ _).alloc ?_ _) <;> (simp; try omega)
  have hsz : (((w.alloc (.cells #[.int .i64 g.id, .int .i64 g.fi, .int .i64 g.tm, .int .i64 g.ht, .int .i64 g.hv, .int .i64 g.hc, .slice A g.l.length c] 26)).alloc (.cells #[.int .i64 lo] 3)).alloc (.cells #[.int .i64 hi] 3)).heap.size = w.heap.size + 3 := by simp
  have noU : ∀ (X : World) (o : Obj), Only (fun _ => False) X (X.alloc o) := fun X o => (Only.refl _ X).alloc o
  replace hg := (hg.only (noU _ (.cells #[.int .i64 lo] 3)) (fun h => h)).only (noU _ (.cells #[.int .i64 hi] 3)) (fun h => h)
  replace h1 := (noU _ (.cells #[.int .i64 hi] 3)).boxed h1 (fun h => h)
  have hrd := ((h.alloc (.cells #[.int .i64 g.id, .int .i64 g.fi, .int .i64 g.tm, .int .i64 g.ht, .int .i64 g.hv, .int .i64 g.hc, .slice A g.l.length c] 26)).alloc (.cells #[.int .i64 lo] 3)).alloc (.cells #[.int .i64 hi] 3)
  refine ⟨_, _, rfl, within_iter w.heap.size (w.heap.size + 1) (w.heap.size + 1 + 1) g A c lo hi _ hg h1 h2 hrd, fun k hk => ?_, hb⟩
  rcases hk with hk | hk
  · rw [hsz]; omega
  · exact hrd.lt hk
theorem collect_seq {w : World} {xs : List Ent} {lb : Array Value} {R : Nat → Prop} (hs : Iter2 Try.prog 60 lb encE xs (fun _ => False) R w) (hR : ∀ k, R k → k < w.heap.size) (hl : xs.length ≤ 4398046511104) :
    Calls Try.prog 41 #[.func (.func 60) #[] lb] w (Made w xs) := collect_calls w hs hR (enters_of Try.func60 (by kernel_rfl) rfl) hl
/-- a group in its box, a result in its own -/
structure OneZ (g : Grp) (A : Option Addr) (c : Nat) (s : Nat) (w W : World) : Prop where
  hs : w.heap.size = s
  bg : BlkG g A c s W
  bz : BlkG ⟨0, 0, 0, 0, 0, 0, []⟩ none 0 (s + 1) W
  rg : Rd W A c g.l
  ag : ∀ b, inA A g.l b → b < s
  b : Below s w W
  sz : s + 2 ≤ W.heap.size
section
variable {g : Grp} {A : Option Addr} {c : Nat} {s : Nat} {w W W' : World}
theorem OneZ.below (h : OneZ g A c s w W) (hb : Below W.heap.size W W') : OneZ g A c s w W' :=
  ⟨h.hs, h.bg.below hb, h.bz.below hb, h.rg.below hb, h.ag, h.b.trans (hb.mono (by have := h.sz; omega)), Nat.le_trans h.sz hb.size⟩
theorem OneZ.new (g : Grp) (A : Option Addr) (c : Nat) (w : World) (h : Rd w A c g.l) :
    OneZ g A c w.heap.size w ((w.alloc (.cells #[.int .i64 g.id, .int .i64 g.fi, .int .i64 g.tm, .int .i64 g.ht, .int .i64 g.hv, .int .i64 g.hc, .slice A g.l.length c] 26)).alloc (.cells #[.int .i64 0, .int .i64 0, .int .i64 0, .int .i64 0, .int .i64 0, .int .i64 0, .slice none 0 0] 26)) := by
  have z0 := BlkG.new ⟨0, 0, 0, 0, 0, 0, []⟩ none 0 (w.alloc (.cells #[.int .i64 g.id, .int .i64 g.fi, .int .i64 g.tm, .int .i64 g.ht, .int .i64 g.hv, .int .i64 g.hc, .slice A g.l.length c] 26))
  rw [World.size_alloc] at z0
  exact ⟨rfl, (BlkG.new g A c w).alloc _, z0, (h.alloc _).alloc _, fun b hb => h.lt hb, by repeat (first | exact Below.refl _ _ | apply below_alloc), by simp⟩
end
theorem BlkG.gone3 {g : Grp} {A : Option Addr} {c B : Nat} {W : World} (h : BlkG g A c B W) (l : List Ent) (A' : Option Addr) (c' : Nat) (i t : Int) : BlkG ⟨g.id, i + 1, t, g.ht, g.hv, g.hc, l⟩ A' c' B (((W.setCell ⟨B, 6, none⟩ (.slice A' l.length c')).setCell ⟨B, 1, none⟩ (.int .i64 (i + 1))).setCell ⟨B, 2, none⟩ (.int .i64 t)) := by
  unfold BlkG at h ⊢
  simp [World.setCell, Array.getElem?_modify, h]
set_option maxHeartbeats 4000000 in
set_option maxRecDepth 100000 in
theorem group_gone (g : Grp) (A : Option Addr) (c : Nat) (i t : Int) (w : World) (h : Rd w A c g.l) (hi0 : 0 ≤ i) (hi1 : i ≤ 1099511627776) :
    Calls Try.prog 44 #[vG g A c, .int .i64 i, .int .i64 t] w (GotG w (goneW g i t)) := by
  have HT0 := Aside0.mk (OneZ.new g A c w h)
  obtain ⟨L, hL⟩ : ∃ L, withL g.l (i + 1) 1099511627777 = L := ⟨_, rfl⟩
  have HLN : Aside0 (L.length ≤ 4398046511104) := ⟨by rw [← hL]; exact Nat.le_trans (List.length_filter_le _ _) h.bd⟩
  have HG : Aside0 (goneW g i t = ⟨g.id, i + 1, t, g.ht, g.hv, g.hc, L⟩) := ⟨by unfold goneW; rw [hL]⟩
  have HL := Aside0.mk hL
  have hwp : IntKind.i64.wrap (i + 1) = i + 1 := by rw [i64_w]; unfold wrap64; omega
  clear h hL hi0 hi1
  unfold vG
  go_enter Try.func44, Try.ntmps44
  obtain ⟨C, hC⟩ : ∃ C, (match Try.f44.body with | some (.seq _ c) => c | _ => .skip) = C := ⟨_, rfl⟩
  have HC := Aside0.mk hC
  simp only [Try.f44] at hC
  rw [hC]
  clear hC
  go_wp2
  obtain ⟨s, hs⟩ : ∃ s, w.heap.size = s := ⟨_, rfl⟩
  have HT1 := HT0.out
  rw [hs] at HT1 ⊢
  obtain ⟨W, hW⟩ : ∃ W, ((w.alloc (.cells #[.int .i64 g.id, .int .i64 g.fi, .int .i64 g.tm, .int .i64 g.ht, .int .i64 g.hv, .int .i64 g.hc, .slice A g.l.length c] 26)).alloc (.cells #[.int .i64 0, .int .i64 0, .int .i64 0, .int .i64 0, .int .i64 0, .int .i64 0, .slice none 0 0] 26)) = W := ⟨_, rfl⟩
  rw [hW] at HT1 ⊢
  have HT := Aside0.mk HT1
  have HS := Aside0.mk hs
  have hC := HC.out
  simp only [Try.f44] at hC
  subst hC
  clear hW HT1 HT0 hs HC
  obtain ⟨C3, hC3⟩ : ∃ C, (match Try.f44.body with | some (.seq _ (.seq _ (.seq _ c))) => c | _ => .skip) = C := ⟨_, rfl⟩
  have HC3 := Aside0.mk hC3
  simp only [Try.f44] at hC3
  rw [hC3]
  clear hC3
  obtain ⟨e0, e1, e2, e3, e4, e5, e6⟩ := HT.out.bg.box
  go_wp2_with (first | (go_at_call 42; refine (within_seq g A c (i + 1) 1099511627777 _ HT.out.rg).mono ?_; rintro e w1 ⟨lb, R, rfl, hit, hR, hw1⟩; rw [HL.out] at hit; have HIT := Aside0.mk hit; have HR := Aside0.mk hR; have HT1 := Aside0.mk (HT.out.below hw1); clear hit hR hw1) | (go_at_call 41; refine (collect_seq HIT.out HR.out HLN.out).mono ?_; rintro e w2 ⟨v, rfl, ho, hw2⟩; obtain ⟨A1, c1, rfl, hrd, hfr⟩ := ho.rd' HLN.out; have HRD := Aside0.mk hrd; have HT2 := Aside0.mk (HT1.out.below hw2); clear ho hrd hfr hw2; clear e0 e1 e2 e3 e4 e5 e6; obtain ⟨e0, e1, e2, e3, e4, e5, e6⟩ := HT2.out.bg.box; have ef := HT2.out.bg.free))
  have hx := (((Only.refl (fun q => q = s) w2).setCell (p := ⟨s, 6, none⟩) rfl (.slice A1 L.length c1)).setCell (p := ⟨s, 1, none⟩) rfl (.int .i64 (i + 1))).setCell (p := ⟨s, 2, none⟩) rfl (.int .i64 t)
  have hb := HT2.out.bg.gone3 L A1 c1 i t
  have hr := Rd.only HRD.out hx (fun q hq h => by have h3 : q = s := h; subst h3; exact Rd.apartG HRD.out HT2.out.bg hq)
  have hz := HT2.out.bz.only hx (fun h => by have h3 : s + 1 = s := h; omega)
  have hbe := HT2.out.b.trans (hx.below (by have := HT2.out.sz; omega) (fun q hq h => by have h3 : q = s := h; omega))
  obtain ⟨W7, hW7⟩ : ∃ W7, (((w2.setCell ⟨s, 6, none⟩ (.slice A1 L.length c1)).setCell ⟨s, 1, none⟩ (.int .i64 (i + 1))).setCell ⟨s, 2, none⟩ (.int .i64 t)) = W7 := ⟨_, rfl⟩
  rw [hW7] at hb hr hz hbe ⊢
  have HZ := Aside0.mk hz
  have HRD7 := Aside0.mk hr
  have HB7 := Aside0.mk hbe
  have HSZ : Aside0 (s ≤ W7.heap.size) := ⟨by have := hb.lt; omega⟩
  clear hx hr hz hbe hW7 e0 e1 e2 e3 e4 e5 e6 ef
  obtain ⟨e0, e1, e2, e3, e4, e5, e6⟩ := hb.box
  obtain ⟨z0, z1, z2, z3, z4, z5, z6⟩ := HZ.out.box
  have zf := HZ.out.free
  dsimp only at e0 e1 e2 e3 e4 e5 e6
  clear hb
  have hC := HC3.out
  simp only [Try.f44] at hC
  subst hC
  go_wp2
  have hst := stored (r := ⟨g.id, i + 1, t, g.ht, g.hv, g.hc, L⟩) (A' := A1) (c' := c1) HZ.out HRD7.out HB7.out (Nat.le_add_right s 1) HSZ.out
  obtain ⟨r0, r1, r2, r3, r4, r5, r6⟩ := hst.1.box
  dsimp only at r0 r1 r2 r3 r4 r5 r6
  refine bodyPost_ret (v := vG ⟨g.id, i + 1, t, g.ht, g.hv, g.hc, L⟩ A1 c1) (by simp [results, Try.results44, go_sem, vG, r0, r1, r2, r3, r4, r5, r6]) rfl ⟨A1, c1, by rw [HG.out], by rw [HG.out]; exact hst.2.1, by rw [HS.out]; exact hst.2.2⟩
set_option maxHeartbeats 4000000 in
set_option maxRecDepth 100000 in
theorem group_fits (g : Grp) (A : Option Addr) (c : Nat) (i t : Int) (w : World) (h : Rd w A c g.l) (hi0 : -9223372036854775808 ≤ i) (hi1 : i ≤ 9223372036854775806) {b : Bool} (hb : fitsB g i t = b) :
    Calls Try.prog 45 #[vG g A c, .int .i64 i, .int .i64 t] w fun e w' => e = .returned (.bool b) ∧ Below w.heap.size w w' := by
  have HR := Aside0.mk (h.alloc (.cells #[.int .i64 g.id, .int .i64 g.fi, .int .i64 g.tm, .int .i64 g.ht, .int .i64 g.hv, .int .i64 g.hc, .slice A g.l.length c] 26))
  have HI := Aside0.mk (And.intro hi0 hi1)
  unfold fitsB at hb
  obtain ⟨x, hx⟩ : ∃ x, entL g.l i = x := ⟨_, rfl⟩
  rw [hx] at hb
  have HX := Aside0.mk hx
  clear h hi0 hi1 hx
  unfold vG
  cases hk : (findL g.l i).isSome with
  | false =>
    have HK := Aside0.mk hk
    rw [hk] at hb
    have HB : Aside0 (false = b) := ⟨hb⟩
    clear hk hb
    go_enter Try.func45, Try.ntmps45
    go_wp2_with (first | (go_at_call 43; refine (group_at g A c i _ HR.out HI.out.1 HI.out.2).mono ?_; rw [HX.out, HK.out]; unfold vE; rintro e w1 ⟨rfl, hw1⟩; have HW1 := Aside0.mk hw1; clear hw1) | fail)
    go_ret
    exact ⟨ret_bool (by first | exact HB.out | simp [HB.out.symm]), by repeat (first | exact (((Below.refl _ w).alloc (Nat.le_refl _) _).trans (HW1.out.mono (by simp))) | apply below_alloc | exact below_alloc_of (((Below.refl _ w).alloc (Nat.le_refl _) _).trans (HW1.out.mono (by simp))))⟩
  | true =>
    have HK := Aside0.mk hk
    rw [hk, Bool.true_and] at hb
    have HB : Aside0 ((x.f1 == t) = b) := ⟨hb⟩
    clear hk
    go_enter Try.func45, Try.ntmps45
    go_wp2_with (first | (go_at_call 43; refine (group_at g A c i _ HR.out HI.out.1 HI.out.2).mono ?_; rw [HX.out, HK.out]; unfold vE; rintro e w1 ⟨rfl, hw1⟩; have HW1 := Aside0.mk hw1; clear hw1) | fail)
    go_ret
    exact ⟨ret_bool (by first | exact HB.out | simp [HB.out.symm]), by repeat (first | exact (((Below.refl _ w).alloc (Nat.le_refl _) _).trans (HW1.out.mono (by simp))) | apply below_alloc)⟩
end Go.Proofs.Ytlfdmlacadoolaa.PartW
