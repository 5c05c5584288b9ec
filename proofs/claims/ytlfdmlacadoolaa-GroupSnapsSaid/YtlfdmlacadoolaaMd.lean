/- slices.Values of entries: what its iterator hands over. -/
/- The walks of sparse.Is and group.Is. -/
/- What a group that is one has: plain. -/
/- group.Within: what its iterator hands over. -/
/- slices.Collect of entries: what comes out of an iterator lies in a slice of its own. -/
/- append of entries, from wherever they are, onto a slice of the call's own. -/
/- Plain: the entry of an index, where it is. -/
/- Groups and parts in blocks; entries lie elsewhere; a group and a part in their boxes, beside the result's. -/
import Derived.Test.YtlfdmlacadoolaaMc
import Derived.Test.YtlfdmlacadoolaaMa
import Derived.Maps.AppendAt
set_option linter.unusedVariables false
set_option linter.unusedSimpArgs false
namespace Go.Proofs.Ytlfdmlacadoolaa.Sp
open Go Go.RowKit Go.Proofs.Ytlfdmlacadoolaa.A Go.Proofs.Ytlfdmlacadoolaa.Seq Go.Proofs.YtlfdmlacadoolaaW.PrintWords Go.Proofs.YtlfdmlacadoolaaW.PrintLast Go.Proofs.YtlfdmlacadoolaaW.PrintMore
/-- the block in which entries lie -/
def inA (A : Option Addr) (l : List Ent) (b : Nat) : Prop := 0 < l.length ∧ ∃ ad : Addr, A = some ad ∧ b = ad.block
theorem add_block (ad : Addr) (n : Nat) : (ad.add n).block = ad.block := by unfold Addr.add; split <;> rfl
theorem Rd.of_block {w w' : World} {A : Option Addr} {c : Nat} {l : List Ent} (h : Rd w A c l) (hb : ∀ b, inA A l b → w'.heap[b]? = w.heap[b]?) : Rd w' A c l := by
  obtain ⟨⟨h1, h2, h3⟩, h4, h5⟩ := h
  refine ⟨⟨h1, h2, fun hn => ?_⟩, h4, h5⟩
  obtain ⟨ad, e, hc⟩ := h3 hn
  refine ⟨ad, e, fun j p hj => ?_⟩
  obtain ⟨cs, g1, g2, g3⟩ := hc j p hj
  obtain rfl := k55_open g2
  exact ⟨_, g1, k55_mk w' p, fun i u hu => (World.cell?_of_block (w := w) (a := ad.add (j * k55.sz + i)) (by rw [add_block]; exact hb _ ⟨hn, ad, e, rfl⟩)).trans (g3 i u hu)⟩
theorem Rd.lt {w : World} {A : Option Addr} {c : Nat} {l : List Ent} (h : Rd w A c l) {b : Nat} (hb : inA A l b) : b < w.heap.size := by
  obtain ⟨hn, ad, rfl, rfl⟩ := hb
  obtain ⟨ad', e, h0, _, _⟩ := h.at_ hn
  cases e
  have := World.block_lt_of_cell? _ _ h0
  rwa [add_block] at this
theorem Rd.only {U : Nat → Prop} {w w' : World} {A : Option Addr} {c : Nat} {l : List Ent} (h : Rd w A c l) (ho : Only U w w') (hU : ∀ b, inA A l b → ¬ U b) : Rd w' A c l :=
  h.of_block fun b hb => ho.block _ (h.lt hb) (hU _ hb)
theorem Rd.keeps {U : Nat → Prop} {w w' : World} {A : Option Addr} {c : Nat} {l : List Ent} (h : Rd w A c l) (ho : Keeps U w w') (hU : ∀ b, inA A l b → U b) : Rd w' A c l :=
  h.of_block fun b hb => ho.block _ (h.lt hb) (hU _ hb)
abbrev encE (x : Ent) : Array Value := #[.agg #[.int .i64 x.f0, .int .i64 x.f1, .string x.f2]]
theorem el_some {l : List Ent} {k : Nat} (h : k < l.length) : l[k]? = some (el l k) := by rw [el_get h, List.getElem?_eq_getElem h]
end Go.Proofs.Ytlfdmlacadoolaa.Sp
namespace Go.Proofs.Ytlfdmlacadoolaa.PartW
open Go Go.RowKit Go.Shelf Go.Proofs.Ytlfdmlacadoolaa.A Go.Proofs.Ytlfdmlacadoolaa.Sp Go.Proofs.Ytlfdmlacadoolaa.Reg Go.Proofs.Ytlfdmlacadoolaa.Seq Go.Proofs.YtlfdmlacadoolaaW.PrintWords Go.Proofs.YtlfdmlacadoolaaW.PrintLast Go.Proofs.YtlfdmlacadoolaaW.PrintMore
attribute [local go_sem] Oper.semAt_some
theorem values_calls (A : Option Addr) (n c : Nat) (w : World) :
    CallsIn Fence.wide 0 Try.prog 35 #[.slice A n c] w fun e w' => e = .returned (.func (.func 51) #[] #[.pointer (some ⟨w.heap.size, 0, none⟩)]) ∧ w' = w.alloc (.cells #[.slice A n c] 24) := by
  refine callsIn_of_wp Try.func35 rfl trivial ?_
  simp only [Try.ntmps35, List.size_toArray, List.length_cons, List.length_nil, Nat.reduceAdd, Nat.reduceSub, Array.replicate_succ, Array.replicate_zero, List.push_toArray, List.append_toArray, List.nil_append, List.cons_append]
  gi_wp2
  go_ret
  exact ⟨rfl, rfl⟩
set_option maxHeartbeats 1000000 in
theorem values_iter (B : Nat) (A : Option Addr) (c : Nat) (l : List Ent) (w : World) (hb : Boxed w B 24 (.slice A l.length c)) (h : Rd w A c l) :
    Iter2 Try.prog 51 #[.pointer (some ⟨B, 0, none⟩)] encE l (fun _ => False) (fun b => b = B ∨ inA A l b) w := by
  intro y J Jx W hK hJ hJx hY h0
  have hc := (hK.boxed hb (.inl rfl)).cell
  have HR := Aside0.mk (h.keeps hK (fun b hb => .inr hb))
  have hbd := h.bd
  clear hK hb h
  refine callsIn_of_wp Try.func51 rfl trivial ?_
  simp only [Try.ntmps51, List.size_toArray, List.length_cons, List.length_nil, Nat.reduceAdd, Nat.reduceSub, Array.replicate_succ, Array.replicate_zero, List.push_toArray, List.append_toArray, List.nil_append, List.cons_append]
  gi_wp2
  clear hc
  gi_loopw [7] (fun i wr => ∃ k : Nat, k ≤ l.length ∧ i = .int .i64 k ∧ Aside0 (Rd wr A c l) ∧ J k wr) (fun i _ => l.length - (intOf i).toNat)
  case atStart => exact ⟨0, by omega, rfl, HR, h0⟩
  case round =>
    obtain ⟨k, hk, rfl, HR, hJk⟩ := hrel
    by_cases hlt : k < l.length
    · have HX := Aside0.mk (el_some hlt)
      obtain ⟨ad, rfl, g0, g1, g2⟩ := HR.out.at_ hlt
      have hJ1 := hJ k wr (wr.alloc (.cells #[.int .i64 (el l k).f0, .int .i64 (el l k).f1, .string (el l k).f2] 55)) hJk ((Only.refl _ _).alloc _)
      have HR1 := Aside0.mk (HR.out.alloc (.cells #[.int .i64 (el l k).f0, .int .i64 (el l k).f1, .string (el l k).f2] 55))
      gi_wp2
      refine yield_at (hY k _ _ HX.out hJ1) ?_
      rintro e W3 (⟨rfl, hJ3, hk3⟩ | ⟨rfl, hJx3⟩)
      · have HR3 := Aside0.mk (HR1.out.keeps hk3 (fun b hb => .inr hb))
        clear hk3 g0 g1 g2
        gi_wp2
        go_roundw
        case rel => exact ⟨k + 1, by omega, by go_num, HR3, hJ3⟩
        case measure => simp [intOf]; omega
      · clear g0 g1 g2
        gi_wp2
        refine bodyPost_ret (results_none rfl _ _ _) rfl ?_
        exact ⟨⟨_, rfl⟩, .inr ⟨k, _, HX.out, hJx3⟩⟩
    · obtain rfl : k = l.length := by omega
      gi_wp2
      go_end0
      exact ⟨⟨_, rfl⟩, .inl hJk⟩
end Go.Proofs.Ytlfdmlacadoolaa.PartW
namespace Go.Proofs.Ytlfdmlacadoolaa.PartW
open Go Go.RowKit Go.Shelf Go.Proofs.Ytlfdmlacadoolaa.A Go.Proofs.Ytlfdmlacadoolaa.Sp Go.Proofs.Ytlfdmlacadoolaa.Reg Go.Proofs.Ytlfdmlacadoolaa.Seq Go.Proofs.YtlfdmlacadoolaaW.PrintWords Go.Proofs.YtlfdmlacadoolaaW.PrintLast Go.Proofs.YtlfdmlacadoolaaW.PrintMore
attribute [local go_sem] Oper.semAt_some
/-- the cells of a group in its box; of an entry -/
def BoxG (g : Grp) (A : Option Addr) (c : Nat) (B : Nat) (W : World) : Prop := W.cell? ⟨B, 0, none⟩ = some (.int .i64 g.id) ∧ W.cell? ⟨B, 1, none⟩ = some (.int .i64 g.fi) ∧ W.cell? ⟨B, 2, none⟩ = some (.int .i64 g.tm) ∧ W.cell? ⟨B, 3, none⟩ = some (.int .i64 g.ht) ∧ W.cell? ⟨B, 4, none⟩ = some (.int .i64 g.hv) ∧ W.cell? ⟨B, 5, none⟩ = some (.int .i64 g.hc) ∧ W.cell? ⟨B, 6, none⟩ = some (.slice A g.l.length c)
def BoxE (x : Ent) (B : Nat) (W : World) : Prop := W.cell? ⟨B, 0, none⟩ = some (.int .i64 x.f0) ∧ W.cell? ⟨B, 1, none⟩ = some (.int .i64 x.f1) ∧ W.cell? ⟨B, 2, none⟩ = some (.string x.f2)
theorem BoxG.of_block {g : Grp} {A : Option Addr} {c B : Nat} {W W' : World} (h : BoxG g A c B W) (hb : W'.heap[B]? = W.heap[B]?) : BoxG g A c B W' := by
  obtain ⟨h0, h1, h2, h3, h4, h5, h6⟩ := h
  have k : ∀ {o : Nat} {v : Value}, W.cell? ⟨B, o, none⟩ = some v → W'.cell? ⟨B, o, none⟩ = some v := fun h => (World.cell?_of_block (w := W) (a := ⟨B, _, none⟩) hb).trans h
  exact ⟨k h0, k h1, k h2, k h3, k h4, k h5, k h6⟩
theorem BoxE.of_block {x : Ent} {B : Nat} {W W' : World} (h : BoxE x B W) (hb : W'.heap[B]? = W.heap[B]?) : BoxE x B W' := by
  obtain ⟨h0, h1, h2⟩ := h
  have k : ∀ {o : Nat} {v : Value}, W.cell? ⟨B, o, none⟩ = some v → W'.cell? ⟨B, o, none⟩ = some v := fun h => (World.cell?_of_block (w := W) (a := ⟨B, _, none⟩) hb).trans h
  exact ⟨k h0, k h1, k h2⟩
theorem BoxG.lt {g : Grp} {A : Option Addr} {c B : Nat} {W : World} (h : BoxG g A c B W) : B < W.heap.size := World.block_lt_of_cell? _ _ h.1
theorem BoxE.lt {x : Ent} {B : Nat} {W : World} (h : BoxE x B W) : B < W.heap.size := World.block_lt_of_cell? _ _ h.1
theorem BoxG.only {U : Nat → Prop} {g : Grp} {A : Option Addr} {c B : Nat} {W W' : World} (h : BoxG g A c B W) (ho : Only U W W') (hU : ¬ U B) : BoxG g A c B W' := h.of_block (ho.block _ h.lt hU)
theorem BoxE.only {U : Nat → Prop} {x : Ent} {B : Nat} {W W' : World} (h : BoxE x B W) (ho : Only U W W') (hU : ¬ U B) : BoxE x B W' := h.of_block (ho.block _ h.lt hU)
theorem BoxG.below {g : Grp} {A : Option Addr} {c B : Nat} {W W' : World} (h : BoxG g A c B W) (hb : Below W.heap.size W W') : BoxG g A c B W' := h.of_block (hb.block _ h.lt)
theorem BoxE.below {x : Ent} {B : Nat} {W W' : World} (h : BoxE x B W) (hb : Below W.heap.size W W') : BoxE x B W' := h.of_block (hb.block _ h.lt)
theorem BoxG.new (g : Grp) (A : Option Addr) (c : Nat) (w : World) : BoxG g A c w.heap.size (w.alloc (.cells #[.int .i64 g.id, .int .i64 g.fi, .int .i64 g.tm, .int .i64 g.ht, .int .i64 g.hv, .int .i64 g.hc, .slice A g.l.length c] 26)) := by
  refine ⟨?_, ?_, ?_, ?_, ?_, ?_, ?_⟩ <;> simp
theorem BoxE.new (x : Ent) (w : World) : BoxE x w.heap.size (w.alloc (.cells #[.int .i64 x.f0, .int .i64 x.f1, .string x.f2] 55)) := by
  refine ⟨?_, ?_, ?_⟩ <;> simp
theorem keeps_below {U : Nat → Prop} {A B : World} (h : Below A.heap.size A B) : Keeps U A B := ⟨h.size, fun k hk _ => h.block k hk⟩
theorem only_below {U : Nat → Prop} {A B : World} (h : Below A.heap.size A B) : Only U A B := ⟨h.os, h.tape, h.output, h.size, fun k hk _ => h.block k hk⟩
theorem below_only {n : Nat} {U : Nat → Prop} {w A B : World} (h : Below n w A) (ho : Only U A B) (hn : n ≤ A.heap.size) (hU : ∀ k, k < n → ¬ U k) : Below n w B := h.trans (ho.below hn hU)
theorem head_calls (g : Grp) (A : Option Addr) (c : Nat) (w : World) (h : Rd w A c g.l) : Calls Try.prog 37 #[vG g A c] w fun e w' => e = .returned (.bool (headG g)) ∧ Below w.heap.size w w' :=
  group_Head.calls g.id g.fi g.tm g.ht g.hv g.hc A c g.l _ w h.rd h.le (headG_q g)
def lastAt (fi : Int) (l : List Ent) (i : Nat) : Int := if i = 0 then wrap64 (fi - 1) else (el l (i - 1)).f0
def okS (fi : Int) (l : List Ent) (i : Nat) : Bool := isE (el l i) && decide (lastAt fi l i < (el l i).f0)
theorem all_congr' {p q : Nat → Bool} {n : Nat} (h : ∀ i, i < n → p i = q i) : (List.range n).all p = (List.range n).all q := by
  apply Bool.eq_iff_iff.2
  simp only [List.all_eq_true, List.mem_range]
  exact ⟨fun g i hi => by rw [← h i hi]; exact g i hi, fun g i hi => by rw [h i hi]; exact g i hi⟩
theorem isG_S (g : Grp) : isG false g = ((List.range g.l.length).all (okS g.fi g.l) && headG g) := by
  unfold isG
  cases hh : headG g with
  | false => rw [Bool.false_and, Bool.and_false]
  | true =>
    rw [Bool.true_and, Bool.and_true]
    unfold headG at hh
    rw [Bool.and_eq_true, decide_eq_true_eq] at hh
    have hfi := hh.1.2.2
    refine all_congr' fun i _ => ?_
    unfold okG okS nxt lastAt
    rw [Bool.not_false, Bool.true_or, Bool.and_true]
    congr 1
    apply decide_eq_decide.2
    split
    · have : wrap64 (g.fi - 1) = g.fi - 1 := by unfold wrap64; omega
      rw [this]; omega
    · omega
def okD (fi : Int) (l : List Ent) (i : Nat) : Bool := isE (el l i) && decide ((el l i).f0 = nxt fi l i)
theorem isG_D (g : Grp) : isG true g = ((List.range g.l.length).all (okD g.fi g.l) && headG g) := by
  unfold isG
  rw [Bool.and_comm]
  congr 1
  refine all_congr' fun i _ => ?_
  unfold okG okD
  rw [Bool.not_true, Bool.false_or]
  congr 1
  apply Bool.eq_iff_iff.2
  simp only [Bool.and_eq_true, decide_eq_true_eq]
  omega
set_option maxHeartbeats 4000000 in
set_option maxRecDepth 100000 in
theorem group_Is (g : Grp) (A : Option Addr) (c : Nat) (w : World) (h : Rd w A c g.l) :
    Calls Try.prog 15 #[vG g A c] w fun e w' => e = .returned (.bool (isG true g)) ∧ Below w.heap.size w w' := by
  have HR := Aside0.mk h
  have HSP := Aside0.mk (isG_D g)
  clear h
  refine (callsIn_wide (n := 0)).1 ?_
  unfold vG
  refine callsIn_of_wp_marks Try.func15 rfl trivial ?_
  simp only [Try.ntmps15, List.size_toArray, List.length_cons, List.length_nil, Nat.reduceAdd, Nat.reduceSub, Array.replicate_succ, Array.replicate_zero, List.push_toArray, List.append_toArray, List.nil_append, List.cons_append]
  gi_wp2_with (refine ⟨trivial, rfl, ?_⟩; gi_at_call 35; refine (values_calls _ _ _ _).mono ?_; rintro e w' ⟨rfl, rfl⟩)
  obtain ⟨s, hs⟩ : ∃ s, w.heap.size = s := ⟨_, rfl⟩
  have hz1 : (w.alloc (.cells #[.int .i64 g.id, .int .i64 g.fi, .int .i64 g.tm, .int .i64 g.ht, .int .i64 g.hv, .int .i64 g.hc, .slice A g.l.length c] 26)).heap.size = s + 1 := by simp [hs]
  have hz2 : ((w.alloc (.cells #[.int .i64 g.id, .int .i64 g.fi, .int .i64 g.tm, .int .i64 g.ht, .int .i64 g.hv, .int .i64 g.hc, .slice A g.l.length c] 26)).alloc (.cells #[.bool false] 4)).heap.size = s + 1 + 1 := by simp [hs]
  have hz3 : (((w.alloc (.cells #[.int .i64 g.id, .int .i64 g.fi, .int .i64 g.tm, .int .i64 g.ht, .int .i64 g.hv, .int .i64 g.hc, .slice A g.l.length c] 26)).alloc (.cells #[.bool false] 4)).alloc (.cells #[.int .i64 (g.fi)] 3)).heap.size = s + 1 + 1 + 1 := by simp [hs]
  have hg := BoxG.new g A c w
  have hres := Boxed.new (w.alloc (.cells #[.int .i64 g.id, .int .i64 g.fi, .int .i64 g.tm, .int .i64 g.ht, .int .i64 g.hv, .int .i64 g.hc, .slice A g.l.length c] 26)) 4 (.bool false)
  have hlast := Boxed.new ((w.alloc (.cells #[.int .i64 g.id, .int .i64 g.fi, .int .i64 g.tm, .int .i64 g.ht, .int .i64 g.hv, .int .i64 g.hc, .slice A g.l.length c] 26)).alloc (.cells #[.bool false] 4)) 3 (.int .i64 (g.fi))
  have hsl := Boxed.new (((w.alloc (.cells #[.int .i64 g.id, .int .i64 g.fi, .int .i64 g.tm, .int .i64 g.ht, .int .i64 g.hv, .int .i64 g.hc, .slice A g.l.length c] 26)).alloc (.cells #[.bool false] 4)).alloc (.cells #[.int .i64 (g.fi)] 3)) 24 (.slice A g.l.length c)
  have hb0 : Below w.heap.size w ((((w.alloc (.cells #[.int .i64 g.id, .int .i64 g.fi, .int .i64 g.tm, .int .i64 g.ht, .int .i64 g.hv, .int .i64 g.hc, .slice A g.l.length c] 26)).alloc (.cells #[.bool false] 4)).alloc (.cells #[.int .i64 (g.fi)] 3)).alloc (.cells #[.slice A g.l.length c] 24)) := by
    refine (((((Below.refl _ w).alloc (Nat.le_refl _) _).alloc ?_ _).alloc ?_ _).alloc ?_ _) <;> (simp; try omega)
  rw [hz1] at hres
  rw [hz2] at hlast
  rw [hz3] at hsl
  rw [hs] at hg hb0 ⊢
  have noU : ∀ (X : World) (o : Obj), Only (fun _ => False) X (X.alloc o) := fun X o => (Only.refl _ X).alloc o
  replace hg := ((hg.only (noU _ (.cells #[.bool false] 4)) (fun h => h)).only (noU _ (.cells #[.int .i64 (g.fi)] 3)) (fun h => h)).only (noU _ (.cells #[.slice A g.l.length c] 24)) (fun h => h)
  replace hres := (noU _ (.cells #[.slice A g.l.length c] 24)).boxed ((noU _ (.cells #[.int .i64 (g.fi)] 3)).boxed hres (fun h => h)) (fun h => h)
  replace hlast := (noU _ (.cells #[.slice A g.l.length c] 24)).boxed hlast (fun h => h)
  have hrd := (((HR.out.alloc (.cells #[.int .i64 g.id, .int .i64 g.fi, .int .i64 g.tm, .int .i64 g.ht, .int .i64 g.hv, .int .i64 g.hc, .slice A g.l.length c] 26)).alloc (.cells #[.bool false] 4)).alloc (.cells #[.int .i64 (g.fi)] 3)).alloc (.cells #[.slice A g.l.length c] 24)
  have hsz : ((((w.alloc (.cells #[.int .i64 g.id, .int .i64 g.fi, .int .i64 g.tm, .int .i64 g.ht, .int .i64 g.hv, .int .i64 g.hc, .slice A g.l.length c] 26)).alloc (.cells #[.bool false] 4)).alloc (.cells #[.int .i64 (g.fi)] 3)).alloc (.cells #[.slice A g.l.length c] 24)).heap.size = s + 4 := by simp [hs]
  generalize ((((w.alloc (.cells #[.int .i64 g.id, .int .i64 g.fi, .int .i64 g.tm, .int .i64 g.ht, .int .i64 g.hv, .int .i64 g.hc, .slice A g.l.length c] 26)).alloc (.cells #[.bool false] 4)).alloc (.cells #[.int .i64 (g.fi)] 3)).alloc (.cells #[.slice A g.l.length c] 24)) = W0 at hg hres hlast hsl hb0 hrd hsz ⊢
  clear hz1 hz2 hz3 noU
  have hR4 : ∀ b, inA A g.l b → b < s + 4 := fun b hb => by rw [← hsz]; exact hrd.lt hb
  have hRs : ∀ b, inA A g.l b → b < s := fun b hb => by rw [← hs]; exact HR.out.lt hb
  have hit := values_iter (s + 1 + 1 + 1) A c g.l W0 hsl hrd
  refine range_outer2 (gf := 51) (lb := #[.pointer (some ⟨s + 1 + 1 + 1, 0, none⟩)]) rfl (enters_of Try.func51 (by kernel_rfl) rfl) hit (fun q h => h.elim) (fun q h => by rcases h with rfl | h; omega; have := hR4 q h; omega) (fun _ => rfl)
    (fun k W => Boxed W (s + 1 + 1) 3 (.int .i64 (nxt g.fi g.l k)) ∧ Boxed W (s + 1) 4 (.bool false) ∧ BoxG g A c s W ∧ Below s w W ∧ ∀ j, j < k → okD g.fi g.l j = true)
    (fun cd k W => cd = .ret ∧ Boxed W (s + 1) 4 (.bool false) ∧ Below s w W ∧ okD g.fi g.l k = false) ?hI ?hIx ?h0
    (fun x a' W => ∃ Bx, s + 5 < Bx ∧ BoxE x Bx W ∧ a' = { tmps := #[.agg #[.int .i64 g.id, .int .i64 g.fi, .int .i64 g.tm, .int .i64 g.ht, .int .i64 g.hv, .int .i64 g.hc, .slice A g.l.length c], .pointer (some ⟨s, 0, none⟩), .pointer (some ⟨s + 1, 0, none⟩), .pointer (some ⟨s + 1 + 1, 0, none⟩), .pointer (some ⟨Bx, 0, none⟩), .pointer (some ⟨s, 1, none⟩), .int .i64 g.fi, .pointer (some ⟨s, 6, none⟩), .slice A g.l.length c, .func (.func 51) #[] #[.pointer (some ⟨s + 1 + 1 + 1, 0, none⟩)], .agg #[.int .i64 x.f0, .int .i64 x.f1, .string x.f2], undef, undef, undef, undef, undef, undef, undef, undef, undef, undef, undef, undef, undef], defers := [] })
    ?hAx ?assign ?body ?done ?stop
  case hI =>
    rintro j X Y ⟨h1, h2, h3, h4, h5⟩ ho
    rw [hsz] at ho
    exact ⟨ho.boxed h1 (by intro h; rcases h with h | h | h; exact False.elim h; all_goals omega), ho.boxed h2 (by intro h; rcases h with h | h | h; exact False.elim h; all_goals omega), h3.only ho (by intro h; rcases h with h | h | h; exact False.elim h; all_goals omega), below_only h4 ho (by have := h4.size; omega) (fun q hq => (by intro h; rcases h with h | h | h; exact False.elim h; all_goals omega)), h5⟩
  case hIx =>
    rintro cd j X Y ⟨rfl, h2, h4, h5⟩ ho
    rw [hsz] at ho
    exact ⟨rfl, ho.boxed h2 (by intro h; rcases h with h | h | h; exact False.elim h; all_goals omega), below_only h4 ho (by have := h4.size; omega) (fun q hq => (by intro h; rcases h with h | h | h; exact False.elim h; all_goals omega)), h5⟩
  case h0 => exact ⟨hlast, hres, hg, hb0, fun j hj => by omega⟩
  case hAx =>
    rintro x a' X Y ⟨Bx, h1, h2, h3⟩ ho
    rw [hsz] at ho
    exact ⟨Bx, h1, h2.only ho (by intro h; rcases h with h | h | h; exact False.elim h; all_goals omega), h3⟩
  case assign =>
    rintro l j x W' K hx hi' hsz' hK
    rw [hsz] at hsz'
    gi_wp2
    exact hK _ _ (Keeps.alloc _ _ _) (by
      obtain ⟨h1, h2, h3, h4, h5⟩ := hi'
      exact ⟨((Only.refl (fun _ => False) W').alloc _).boxed h1 (fun h => h), ((Only.refl (fun _ => False) W').alloc _).boxed h2 (fun h => h), h3.only ((Only.refl (fun _ => False) W').alloc _) (fun h => h), h4.alloc (by have := h4.size; omega) _, h5⟩) ⟨W'.heap.size, by omega, BoxE.new x W', rfl⟩
  case body =>
    rintro l j x a' W hx rfl ⟨r, hr⟩ ⟨hl1, hr1, hg1, hbel, hok⟩ ⟨Bx, hBx, hbx, rfl⟩
    have hj : j < g.l.length := (List.getElem?_eq_some_iff.1 hx).1
    obtain rfl : el g.l j = x := by rw [el_some hj] at hx; exact Option.some.inj hx
    obtain ⟨x, hxe⟩ : ∃ x, el g.l j = x := ⟨_, rfl⟩
    obtain ⟨la, hla⟩ : ∃ la, nxt g.fi g.l j = la := ⟨_, rfl⟩
    have HokD : Aside0 (okD g.fi g.l j = (isE x && decide (x.f0 = la))) := ⟨by unfold okD; rw [hxe, hla]⟩
    have HNX : Aside0 (nxt g.fi g.l (j + 1) = x.f0 + 1) := ⟨by unfold nxt; rw [if_neg (by omega), Nat.add_sub_cancel, hxe]⟩
    rw [hxe] at hbx ⊢
    rw [hla] at hl1
    obtain ⟨b1, hb1⟩ : ∃ b, isE x = b := ⟨_, rfl⟩
    have HB1 := Aside0.mk hb1
    rw [hb1] at HokD
    clear hb1 hx hxe hla
    have HBE := Aside0.mk hbel
    have HK := Aside0.mk hok
    have HG1 := Aside0.mk hg1
    have HSZ := Aside0.mk hsz
    have HR4 := Aside0.mk hR4
    have HRs := Aside0.mk hRs
    have HBX := Aside0.mk hBx
    obtain ⟨e0, e1, e2⟩ := id hbx
    have HX := Aside0.mk hbx
    have HL1 := Aside0.mk hl1
    have HR1 := Aside0.mk hr1
    have hkp : ∀ q : Nat, (q = s + 1 ∨ q = s + 1 + 1) → ¬ ((q = s + 1 + 1 + 1 ∨ inA A g.l q) ∨ q = W0.heap.size ∨ q = W0.heap.size + 1) := fun q hq h => by
      rcases h with (h | h) | h | h
      · omega
      · have := hRs q h; omega
      · omega
      · omega
    have HKP := Aside0.mk hkp
    clear hbel hok hg1 hsz hR4 hRs hBx hbx hl1 hr1 hr hkp hit hg hres hlast hsl hb0 hrd
    cases b1 with
    | false =>
      gi_wp2_with (refine ⟨trivial, rfl, ?_⟩; gi_at_call 36; refine (CallsIn.inRound _ ((callsIn_wide (n := 0)).2 (isE_calls x _ HB1.out))).mono ?_; rintro e w1 ⟨rfl, hw1⟩; have HL2 := Aside0.mk ((only_below (U := fun _ => False) hw1).boxed HL1.out (fun h => h)); have HR2 := Aside0.mk ((only_below (U := fun _ => False) hw1).boxed HR1.out (fun h => h)); have HX2 := Aside0.mk (HX.out.below hw1); obtain ⟨f0, f1, f2⟩ := HX2.out; have hlc := HL2.out.cell; have hlf := HL2.out.frozen; have hrc := HR2.out.cell; have hrf := HR2.out.frozen; have HW1 := Aside0.mk hw1; clear hw1 e0 e1 e2)
      exact ⟨(keeps_below HW1.out).trans (Keeps.setCell _ _ (HKP.out _ (.inl rfl)) _), rfl, HR2.out.set (.bool false), (HBE.out.trans (HW1.out.mono (by have := HBE.out.size; omega))).setCell (p := ⟨s + 1, 0, none⟩) (by show s ≤ s + 1; omega) _, by rw [HokD.out]; rfl⟩
    | true =>
      obtain ⟨b2, hb2⟩ : ∃ b, (x.f0 != la) = b := ⟨_, rfl⟩
      skip
      cases b2 with
      | true =>
        have hb4 : (x.f0 == la) = false := by simpa using hb2
        gi_wp2_with (refine ⟨trivial, rfl, ?_⟩; gi_at_call 36; refine (CallsIn.inRound _ ((callsIn_wide (n := 0)).2 (isE_calls x _ HB1.out))).mono ?_; rintro e w1 ⟨rfl, hw1⟩; have HL2 := Aside0.mk ((only_below (U := fun _ => False) hw1).boxed HL1.out (fun h => h)); have HR2 := Aside0.mk ((only_below (U := fun _ => False) hw1).boxed HR1.out (fun h => h)); have HX2 := Aside0.mk (HX.out.below hw1); obtain ⟨f0, f1, f2⟩ := HX2.out; have hlc := HL2.out.cell; have hlf := HL2.out.frozen; have hrc := HR2.out.cell; have hrf := HR2.out.frozen; have HW1 := Aside0.mk hw1; clear hw1 e0 e1 e2)
        exact ⟨(keeps_below HW1.out).trans (Keeps.setCell _ _ (HKP.out _ (.inl rfl)) _), rfl, HR2.out.set (.bool false), (HBE.out.trans (HW1.out.mono (by have := HBE.out.size; omega))).setCell (p := ⟨s + 1, 0, none⟩) (by show s ≤ s + 1; omega) _, by rw [HokD.out, Bool.true_and]; exact decide_eq_false (bne_iff_ne.1 hb2)⟩
      | false =>
        have hb4 : (x.f0 == la) = true := by simpa using hb2
        have hxl : x.f0 = la := beq_iff_eq.1 hb4
        have hrg := isE_rng HB1.out
        rw [hxl] at hrg
        obtain ⟨hr1, hr2⟩ := hrg
        have HXL := Aside0.mk hxl
        clear hxl
        gi_wp2_with (refine ⟨trivial, rfl, ?_⟩; gi_at_call 36; refine (CallsIn.inRound _ ((callsIn_wide (n := 0)).2 (isE_calls x _ HB1.out))).mono ?_; rintro e w1 ⟨rfl, hw1⟩; have HL2 := Aside0.mk ((only_below (U := fun _ => False) hw1).boxed HL1.out (fun h => h)); have HR2 := Aside0.mk ((only_below (U := fun _ => False) hw1).boxed HR1.out (fun h => h)); have HX2 := Aside0.mk (HX.out.below hw1); obtain ⟨f0, f1, f2⟩ := HX2.out; have hlc := HL2.out.cell; have hlf := HL2.out.frozen; have hrc := HR2.out.cell; have hrf := HR2.out.frozen; have HW1 := Aside0.mk hw1; clear hw1 e0 e1 e2)
        have g2 := (HG1.out.below HW1.out).only (only1 (s + 1 + 1) w1 (.int .i64 (la + 1))) (by intro h; have : s = s + 1 + 1 := h; omega)
        have r2 := (only1 (s + 1 + 1) w1 (.int .i64 (la + 1))).boxed HR2.out (by intro h; have : s + 1 = s + 1 + 1 := h; omega)
        exact ⟨(keeps_below HW1.out).trans (Keeps.setCell _ _ (HKP.out _ (.inr rfl)) _), by rw [HNX.out, HXL.out]; exact HL2.out.set _, r2, g2, (HBE.out.trans (HW1.out.mono (by have := HBE.out.size; omega))).setCell (p := ⟨s + 1 + 1, 0, none⟩) (by show s ≤ s + 1 + 1; omega) _, fun q hq => by
          rcases Nat.lt_or_ge q j with h' | h'
          · exact HK.out q h'
          · obtain rfl : q = j := by omega
            rw [HokD.out, Bool.true_and]; exact decide_eq_true HXL.out⟩
  case done =>
    rintro W ⟨h1, h2, h3, h4, h5⟩ hD
    have HH := Aside0.mk (show isG true g = headG g by rw [HSP.out, List.all_eq_true.2 (fun q hq => h5 q (List.mem_range.1 hq)), Bool.true_and])
    have H2 := Aside0.mk h2
    have H4 := Aside0.mk h4
    have HRW := Aside0.mk (HR.out.below (by rw [hs]; exact h4))
    obtain ⟨c0, c1, c2, c3, c4, c5, c6⟩ := h3
    have HD := Aside0.mk hD
    have HSZ := Aside0.mk hsz
    have HS0 := Aside0.mk hs
    clear h1 h2 h4 h5 hD hsz hs hR4 hRs hit hg hres hlast hsl hb0 hrd
    gi_wp2_with (refine ⟨trivial, rfl, ?_⟩; gi_at_call 37; refine ((callsIn_wide (n := 0)).2 (head_calls g A c _ HRW.out)).mono ?_; rintro e w2 ⟨rfl, hw2⟩; have HR2 := Aside0.mk ((only_below (U := fun _ => False) hw2).boxed H2.out (fun h => h)); have hrc := HR2.out.cell; have hrf := HR2.out.frozen; have HW2 := Aside0.mk hw2; clear hw2)
    have hD2 : (w2.setCell ⟨s + 1, 0, none⟩ (.bool (headG g))).heap[W0.heap.size]? = some (.deferred (some [])) := by
      have hlt := (Array.getElem?_eq_some_iff.1 HD.out).1
      have hne : W0.heap.size ≠ s + 1 := by have := HSZ.out; omega
      exact (Below.heap_setCell w2 ⟨s + 1, 0, none⟩ _ _ hne).trans ((HW2.out.block _ hlt).trans HD.out)
    refine Marks.leaves (n₀ := W0.heap.size) ((show Marks W0.heap.size [] _ from trivial).cons hD2 (Nat.le_refl _) (by simp)) fun W' hW' => ?_
    have hc := (hW'.boxed (HR2.out.set (.bool (headG g))) (by intro h; have h1 := h.1; have h2 := HSZ.out; omega)).cell
    refine ⟨.bool (headG g), by simp [results, Try.results15, go_sem, hc], by rw [HH.out], ?_⟩
    have g3 : Below w.heap.size w w2 := by rw [HS0.out]; exact H4.out.trans (HW2.out.mono (by have := H4.out.size; have := HS0.out; omega))
    have g4 := g3.setCell (p := ⟨s + 1, 0, none⟩) (by rw [HS0.out]; show s ≤ s + 1; omega) (.bool (headG g))
    exact g4.trans (hW'.below g4.size (fun q hq h => by have h1 := h.1; have h2 := HSZ.out; have h3 := HS0.out; omega))
  case stop =>
    rintro cd j x W hx ⟨rfl, h2, h4, h5⟩ hD
    have hj : j < g.l.length := (List.getElem?_eq_some_iff.1 hx).1
    have HH := Aside0.mk (show isG true g = false by rw [HSP.out, List.all_eq_false.2 ⟨j, List.mem_range.2 hj, by rw [h5]; decide⟩, Bool.false_and])
    have H2 := Aside0.mk h2
    have H4 := Aside0.mk h4
    have HSZ := Aside0.mk hsz
    have HS0 := Aside0.mk hs
    clear h2 h4 h5 hx hj hsz hs hR4 hRs hit hg hres hlast hsl hb0 hrd
    gi_wp2
    refine Marks.leaves (n₀ := W0.heap.size) ((show Marks W0.heap.size [] _ from trivial).cons hD (Nat.le_refl _) (by simp)) fun W' hW' => ?_
    have hc := (hW'.boxed H2.out (by intro h; have h1 := h.1; have h2 := HSZ.out; omega)).cell
    refine ⟨.bool false, by simp [results, Try.results15, go_sem, hc], by rw [HH.out], ?_⟩
    have g3 : Below w.heap.size w W := by rw [HS0.out]; exact H4.out
    exact g3.trans (hW'.below g3.size (fun q hq h => by have h1 := h.1; have h2 := HSZ.out; have h3 := HS0.out; omega))
end Go.Proofs.Ytlfdmlacadoolaa.PartW
namespace Go.Proofs.Ytlfdmlacadoolaa.Sp
open Go Go.RowKit Go.Proofs.Ytlfdmlacadoolaa.A Go.Proofs.YtlfdmlacadoolaaW.PrintWords Go.Proofs.YtlfdmlacadoolaaW.PrintLast Go.Proofs.YtlfdmlacadoolaaW.PrintMore
theorem isG_okG {d : Bool} {g : Grp} (h : isG d g = true) {i : Nat} (hi : i < g.l.length) : okG d g.fi g.l i = true := by
  unfold isG at h
  rw [Bool.and_eq_true] at h
  exact List.all_eq_true.1 h.2 i (List.mem_range.2 hi)
theorem okG_isE {d : Bool} {fi : Int} {l : List Ent} {i : Nat} (h : okG d fi l i = true) : isE (el l i) = true := by
  unfold okG at h
  rw [Bool.and_eq_true] at h
  exact h.1
theorem isG_isE {d : Bool} {g : Grp} (h : isG d g = true) {e : Ent} (he : e ∈ g.l) : isE e = true := by
  obtain ⟨i, hi, rfl⟩ := List.mem_iff_getElem.1 he
  have := okG_isE (isG_okG h hi)
  rwa [el_get hi] at this
theorem isE_le {e : Ent} (h : isE e = true) : 1 ≤ e.f0 ∧ e.f0 ≤ 1099511627776 := by
  unfold isE at h
  have h2 := of_decide_eq_true h
  exact ⟨h2.1, h2.2.1⟩
theorem okG_nxt {d : Bool} {fi : Int} {l : List Ent} {i : Nat} (h : okG d fi l i = true) : nxt fi l i ≤ (el l i).f0 := by
  unfold okG at h
  rw [Bool.and_eq_true, Bool.and_eq_true] at h
  exact of_decide_eq_true h.2.1
theorem isG_ge {d : Bool} {g : Grp} (h : isG d g = true) : ∀ i : Nat, i < g.l.length → g.fi ≤ (el g.l i).f0
  | 0, hi => by
    have h2 := okG_nxt (isG_okG h hi)
    unfold nxt at h2
    rw [if_pos rfl] at h2
    exact h2
  | i + 1, hi => by
    have h1 := isG_ge h i (by omega)
    have h2 := okG_nxt (isG_okG h hi)
    unfold nxt at h2
    rw [if_neg (by omega), Nat.add_sub_cancel] at h2
    omega
theorem isG_lt {d : Bool} {g : Grp} (h : isG d g = true) (i : Nat) : ∀ j : Nat, i < j → j < g.l.length → (el g.l i).f0 < (el g.l j).f0
  | 0, hij, _ => by omega
  | j + 1, hij, hj => by
    have h2 := okG_nxt (isG_okG h hj)
    unfold nxt at h2
    rw [if_neg (by omega), Nat.add_sub_cancel] at h2
    rcases Nat.lt_or_ge i j with h3 | h3
    · have := isG_lt h i j h3 (by omega)
      omega
    · obtain rfl : i = j := by omega
      omega
theorem isG_mem_ge {d : Bool} {g : Grp} (h : isG d g = true) {e : Ent} (he : e ∈ g.l) : g.fi ≤ e.f0 := by
  obtain ⟨i, hi, rfl⟩ := List.mem_iff_getElem.1 he
  have := isG_ge h i hi
  rwa [el_get hi] at this
theorem isG_fi {d : Bool} {g : Grp} (h : isG d g = true) : 1 ≤ g.fi ∧ g.fi ≤ 1099511627777 := by
  unfold isG headG at h
  rw [Bool.and_eq_true, Bool.and_eq_true] at h
  have h2 := of_decide_eq_true h.1.1
  exact ⟨h2.2.2.1, h2.2.2.2.1⟩
end Go.Proofs.Ytlfdmlacadoolaa.Sp
namespace Go.Proofs.Ytlfdmlacadoolaa.Sp
open Go Go.RowKit Go.Proofs.Ytlfdmlacadoolaa.A Go.Proofs.Ytlfdmlacadoolaa.Seq Go.Proofs.YtlfdmlacadoolaaW.PrintWords Go.Proofs.YtlfdmlacadoolaaW.PrintLast Go.Proofs.YtlfdmlacadoolaaW.PrintMore
def inR (lo hi : Int) (e : Ent) : Bool := decide (lo ≤ e.f0) && decide (e.f0 < hi)
/-- entries from one index up to another one, that one not in it -/
def withL (l : List Ent) (lo hi : Int) : List Ent := l.filter (inR lo hi)
theorem take_el {l : List Ent} {k : Nat} (h : k < l.length) : l.take (k + 1) = l.take k ++ [el l k] := by
  rw [el_get h, List.take_succ_eq_append_getElem h]
theorem with_step_no {l : List Ent} {lo hi : Int} {k : Nat} (h : k < l.length) (hp : inR lo hi (el l k) = false) : withL (l.take (k + 1)) lo hi = withL (l.take k) lo hi := by
  rw [take_el h]; unfold withL; rw [List.filter_append, List.filter_cons_of_neg (by rw [hp]; decide), List.filter_nil, List.append_nil]
theorem with_step {l : List Ent} {lo hi : Int} {k : Nat} (h : k < l.length) (hp : inR lo hi (el l k) = true) : withL (l.take (k + 1)) lo hi = withL (l.take k) lo hi ++ [el l k] := by
  rw [take_el h]; unfold withL; rw [List.filter_append, List.filter_cons_of_pos hp, List.filter_nil]
theorem with_at {l : List Ent} {lo hi : Int} {k : Nat} (h : k < l.length) (hp : inR lo hi (el l k) = true) : (withL l lo hi)[(withL (l.take k) lo hi).length]? = some (el l k) := by
  have e : l = l.take k ++ el l k :: l.drop (k + 1) := by rw [← drop_el h, List.take_append_drop]
  have e2 : withL l lo hi = withL (l.take k) lo hi ++ el l k :: withL (l.drop (k + 1)) lo hi := by
    conv => lhs; rw [e]
    unfold withL
    rw [List.filter_append, List.filter_cons_of_pos hp]
  rw [e2, List.getElem?_append_right (Nat.le_refl _), Nat.sub_self]; rfl
end Go.Proofs.Ytlfdmlacadoolaa.Sp
namespace Go.Proofs.Ytlfdmlacadoolaa.PartW
open Go Go.RowKit Go.Shelf Go.Proofs.Ytlfdmlacadoolaa.A Go.Proofs.Ytlfdmlacadoolaa.Sp Go.Proofs.Ytlfdmlacadoolaa.Reg Go.Proofs.Ytlfdmlacadoolaa.Seq Go.Proofs.YtlfdmlacadoolaaW.PrintWords Go.Proofs.YtlfdmlacadoolaaW.PrintLast Go.Proofs.YtlfdmlacadoolaaW.PrintMore
attribute [local go_sem] Oper.semAt_some
theorem BoxG.keeps {U : Nat → Prop} {g : Grp} {A : Option Addr} {c B : Nat} {W W' : World} (h : BoxG g A c B W) (ho : Keeps U W W') (hU : U B) : BoxG g A c B W' := h.of_block (ho.block _ h.lt hU)
set_option maxHeartbeats 1000000 in
theorem within_calls' (g : Grp) (A : Option Addr) (c : Nat) (lo hi : Int) (w : World) :
    CallsIn Fence.wide 0 Try.prog 42 #[vG g A c, .int .i64 lo, .int .i64 hi] w fun e w' => e = .returned (.func (.func 60) #[] #[.pointer (some ⟨w.heap.size, 0, none⟩), .pointer (some ⟨w.heap.size + 1, 0, none⟩), .pointer (some ⟨w.heap.size + 1 + 1, 0, none⟩)]) ∧
      w' = ((w.alloc (.cells #[.int .i64 g.id, .int .i64 g.fi, .int .i64 g.tm, .int .i64 g.ht, .int .i64 g.hv, .int .i64 g.hc, .slice A g.l.length c] 26)).alloc (.cells #[.int .i64 lo] 3)).alloc (.cells #[.int .i64 hi] 3) := by
  unfold vG
  refine callsIn_of_wp Try.func42 rfl trivial ?_
  simp only [Try.ntmps42, List.size_toArray, List.length_cons, List.length_nil, Nat.reduceAdd, Nat.reduceSub, Array.replicate_succ, Array.replicate_zero, List.push_toArray, List.append_toArray, List.nil_append, List.cons_append]
  gi_wp2
  go_ret
  exact ⟨rfl, rfl⟩
set_option maxHeartbeats 2000000 in
theorem within_iter (B B1 B2 : Nat) (g : Grp) (A : Option Addr) (c : Nat) (lo hi : Int) (w : World) (hg : BoxG g A c B w) (h1 : Boxed w B1 3 (.int .i64 lo)) (h2 : Boxed w B2 3 (.int .i64 hi)) (h : Rd w A c g.l) :
    Iter2 Try.prog 60 #[.pointer (some ⟨B, 0, none⟩), .pointer (some ⟨B1, 0, none⟩), .pointer (some ⟨B2, 0, none⟩)] encE (withL g.l lo hi) (fun _ => False) (fun b => (b = B ∨ b = B1 ∨ b = B2) ∨ inA A g.l b) w := by
  intro y J Jx W hK hJ hJx hY h0
  have hc := (hg.keeps hK (.inl (.inl rfl))).2.2.2.2.2.2
  have HB1 := Aside0.mk (hK.boxed h1 (.inl (.inr (.inl rfl))))
  have HB2 := Aside0.mk (hK.boxed h2 (.inl (.inr (.inr rfl))))
  have HR := Aside0.mk (h.keeps hK (fun b hb => .inr hb))
  have hbd := h.bd
  clear hK hg h1 h2 h
  refine callsIn_of_wp Try.func60 rfl trivial ?_
  simp only [Try.ntmps60, List.size_toArray, List.length_cons, List.length_nil, Nat.reduceAdd, Nat.reduceSub, Array.replicate_succ, Array.replicate_zero, List.push_toArray, List.append_toArray, List.nil_append, List.cons_append]
  gi_wp2
  clear hc
  gi_loopw [10] (fun i wr => ∃ k : Nat, k ≤ g.l.length ∧ i = .int .i64 k ∧ Aside0 (Rd wr A c g.l) ∧ Aside0 (Boxed wr B1 3 (.int .i64 lo)) ∧ Aside0 (Boxed wr B2 3 (.int .i64 hi)) ∧ J (withL (g.l.take k) lo hi).length wr) (fun i _ => g.l.length - (intOf i).toNat)
  case atStart => exact ⟨0, by omega, rfl, HR, HB1, HB2, by simpa [withL] using h0⟩
  case round =>
    obtain ⟨k, hk, rfl, HR, HB1, HB2, hJk⟩ := hrel
    by_cases hlt : k < g.l.length
    · obtain ⟨ad, rfl, g0, g1, g2⟩ := HR.out.at_ hlt
      obtain ⟨x, hx⟩ : ∃ x, el g.l k = x := ⟨_, rfl⟩
      obtain ⟨n, hn⟩ : ∃ n, (withL (g.l.take k) lo hi).length = n := ⟨_, rfl⟩
      have HAT : Aside0 (inR lo hi x = true → (withL g.l lo hi)[n]? = some x) := ⟨by rw [← hx, ← hn]; exact with_at hlt⟩
      have HST : Aside0 (inR lo hi x = true → (withL (g.l.take (k + 1)) lo hi).length = n + 1) := ⟨fun h => by rw [with_step hlt (by rw [hx]; exact h), List.length_append, hn]; rfl⟩
      have HNO : Aside0 (inR lo hi x = false → (withL (g.l.take (k + 1)) lo hi).length = n) := ⟨fun h => by rw [with_step_no hlt (by rw [hx]; exact h), hn]⟩
      rw [hn] at hJk
      rw [hx] at g0 g1 g2
      clear hx hn
      have hJ1 := hJ n wr (wr.alloc (.cells #[.int .i64 x.f0, .int .i64 x.f1, .string x.f2] 55)) hJk ((Only.refl _ _).alloc _)
      have HR1 := Aside0.mk (HR.out.alloc (.cells #[.int .i64 x.f0, .int .i64 x.f1, .string x.f2] 55))
      have HC1 := Aside0.mk (((Only.refl (fun _ => False) wr).alloc (.cells #[.int .i64 x.f0, .int .i64 x.f1, .string x.f2] 55)).boxed HB1.out (fun h => h))
      have HC2 := Aside0.mk (((Only.refl (fun _ => False) wr).alloc (.cells #[.int .i64 x.f0, .int .i64 x.f1, .string x.f2] 55)).boxed HB2.out (fun h => h))
      have c1 := HC1.out.cell
      have c2 := HC2.out.cell
      obtain ⟨b1, hb1⟩ : ∃ b, decide (lo ≤ x.f0) = b := ⟨_, rfl⟩
      obtain ⟨b2, hb2⟩ : ∃ b, decide (x.f0 < hi) = b := ⟨_, rfl⟩
      have HIN : Aside0 (inR lo hi x = (b1 && b2)) := ⟨by unfold inR; rw [hb1, hb2]⟩
      cases b1 with
      | false =>
        gi_wp2
        refine ⟨(fun f hf => by cases hf), ?_⟩
        gi_wp2
        go_roundw
        case rel => exact ⟨k + 1, by omega, by go_num, HR1, HC1, HC2, by rw [HNO.out (by rw [HIN.out]; rfl)]; exact hJ1⟩
        case measure => simp [intOf]; omega
      | true =>
        cases b2 with
        | false =>
          gi_wp2
          refine ⟨(fun f hf => by cases hf), ?_⟩
          gi_wp2
          go_roundw
          case rel => exact ⟨k + 1, by omega, by go_num, HR1, HC1, HC2, by rw [HNO.out (by rw [HIN.out]; rfl)]; exact hJ1⟩
          case measure => simp [intOf]; omega
        | true =>
          have hin : inR lo hi x = true := by rw [HIN.out]; rfl
          have HX := Aside0.mk (HAT.out hin)
          have HS := Aside0.mk (HST.out hin)
          clear hin HAT HST HNO HIN
          gi_wp2
          refine yield_at (hY n _ _ HX.out hJ1) ?_
          rintro e W3 (⟨rfl, hJ3, hk3⟩ | ⟨rfl, hJx3⟩)
          · have HR3 := Aside0.mk (HR1.out.keeps hk3 (fun b hb => .inr hb))
            have HD1 := Aside0.mk (hk3.boxed HC1.out (.inl (.inr (.inl rfl))))
            have HD2 := Aside0.mk (hk3.boxed HC2.out (.inl (.inr (.inr rfl))))
            clear hk3 g0 g1 g2 c1 c2
            gi_wp2
            go_roundw
            case rel => exact ⟨k + 1, by omega, by go_num, HR3, HD1, HD2, by rw [HS.out]; exact hJ3⟩
            case measure => simp [intOf]; omega
          · clear g0 g1 g2 c1 c2
            gi_wp2
            refine bodyPost_ret (results_none rfl _ _ _) rfl ?_
            exact ⟨⟨_, rfl⟩, .inr ⟨n, _, HX.out, hJx3⟩⟩
    · obtain rfl : k = g.l.length := by omega
      rw [List.take_length] at hJk
      gi_wp2
      go_end0
      exact ⟨⟨_, rfl⟩, .inl hJk⟩
end Go.Proofs.Ytlfdmlacadoolaa.PartW
namespace Go.Proofs.Ytlfdmlacadoolaa.Sp
open Go Go.RowKit Go.Proofs.Ytlfdmlacadoolaa.A Go.Proofs.Ytlfdmlacadoolaa.Seq Go.Proofs.YtlfdmlacadoolaaW.PrintWords Go.Proofs.YtlfdmlacadoolaaW.PrintLast Go.Proofs.YtlfdmlacadoolaaW.PrintMore
theorem iter_mono {α : Type} {P : Program} {gf : Nat} {lb : Array Value} {encs : α → Array Value} {xs : List α} {U R : Nat → Prop} {w w1 : World} (h : Iter2 P gf lb encs xs U R w) (hk : Keeps R w w1) : Iter2 P gf lb encs xs U R w1 :=
  fun l J Jx W hW => h l J Jx W (hk.trans hW)
def cellsE (x : Ent) : List Value := [.int .i64 x.f0, .int .i64 x.f1, .string x.f2]
def flatE : List Ent → List Value
  | [] => []
  | x :: l => cellsE x ++ flatE l
theorem flatE_len : ∀ l : List Ent, (flatE l).length = l.length * 3
  | [] => rfl
  | x :: l => by show (cellsE x ++ flatE l).length = _; rw [List.length_append, flatE_len l]; show 3 + _ = (l.length + 1) * 3; omega
theorem flatE_app : ∀ a b : List Ent, flatE (a ++ b) = flatE a ++ flatE b
  | [], b => rfl
  | x :: a, b => by show cellsE x ++ flatE (a ++ b) = (cellsE x ++ flatE a) ++ flatE b; rw [flatE_app a b, List.append_assoc]
theorem flatE_at : ∀ (l : List Ent) (j : Nat) (p : Ent), l[j]? = some p → ((flatE l).drop (j * 3)).take 3 = cellsE p
  | [], j, p, h => by simp at h
  | x :: l, 0, p, h => by obtain rfl : x = p := by simpa using h
                          rfl
  | x :: l, j + 1, p, h => by
    have := flatE_at l j p (by simpa using h)
    rw [← this]
    show ((cellsE x ++ flatE l).drop ((j + 1) * 3)).take 3 = _
    rw [show (j + 1) * 3 = (cellsE x).length + j * 3 from by show _ = 3 + _; omega, List.drop_append]
    rw [List.drop_of_length_le (by omega), List.nil_append, Nat.add_sub_cancel_left]
/-- a slice of the call's own that holds entries -/
def OwnE (w : World) (base : Nat) (v : Value) (l : List Ent) : Prop := w.ownsRow base 55 3 v l.length (flatE l)
theorem OwnE.mono {w : World} {b b' : Nat} {v : Value} {l : List Ent} (h : OwnE w b v l) (hb : b' ≤ b) : OwnE w b' v l := by
  obtain ⟨h1, h2⟩ := h
  refine ⟨h1, ?_⟩
  rcases h2 with h2 | ⟨g, cap, cur, hv, hg, r⟩
  · exact .inl h2
  · exact .inr ⟨g, cap, cur, hv, by omega, r⟩
theorem OwnE.only {U : Nat → Prop} {w w' : World} {b : Nat} {v : Value} {l : List Ent} (h : OwnE w b v l) (ho : Only U w w') (hU : ∀ k, b ≤ k → ¬ U k) : OwnE w' b v l := Only.row h ho hU
theorem OwnE.rd {w : World} {b : Nat} {v : Value} {l : List Ent} (h : OwnE w b v l) (hl : l.length ≤ 4398046511104) : ∃ A c, v = .slice A l.length c ∧ Rd w A c l := by
  have hr : Kd.R k55 55 w b (fun _ => True) v l :=
    ⟨fun _ _ => trivial, flatE l, h, flatE_len l, fun j p hj => by
      show k55.M w b _ p (((flatE l).drop (j * 3)).take 3)
      rw [flatE_at l j p hj]
      exact k55_mkM w b _ p⟩
  obtain ⟨A, c, e, h1, h2⟩ := Kd.R_reads hr
  exact ⟨A, c, e, h2, h1, hl⟩
end Go.Proofs.Ytlfdmlacadoolaa.Sp
namespace Go.Proofs.Ytlfdmlacadoolaa.PartW
open Go Go.RowKit Go.Shelf Go.Proofs.Ytlfdmlacadoolaa.A Go.Proofs.Ytlfdmlacadoolaa.Sp Go.Proofs.Ytlfdmlacadoolaa.Reg Go.Proofs.Ytlfdmlacadoolaa.Seq Go.Proofs.YtlfdmlacadoolaaW.PrintWords Go.Proofs.YtlfdmlacadoolaaW.PrintLast Go.Proofs.YtlfdmlacadoolaaW.PrintMore
attribute [local go_sem] Oper.semAt_some
theorem cellsE_one (x : Ent) : ∀ u ∈ cellsE x, u.oneCell' = true := by
  intro u hu
  simp [cellsE] at hu
  rcases hu with rfl | rfl | rfl <;> rfl
theorem cellsE_new (x : Ent) (W : World) : ∀ j u, (cellsE x)[j]? = some u → (W.alloc (.cells #[.int .i64 x.f0, .int .i64 x.f1, .string x.f2] 55)).cell? ((⟨W.heap.size, 0, none⟩ : Addr).add j) = some u := by
  intro j u h
  match j, h with
  | 0, h => cases h; simp [Addr.add]
  | 1, h => cases h; simp [Addr.add]
  | 2, h => cases h; simp [Addr.add]
  | j + 3, h => simp [cellsE] at h
/-- what is handed back: a slice of the call's own -/
def Made (w : World) (l : List Ent) (e : Ending) (w' : World) : Prop := ∃ v, e = .returned v ∧ OwnE w' w.heap.size v l ∧ Below w.heap.size w w'
set_option maxHeartbeats 4000000 in
set_option maxRecDepth 100000 in
theorem appendSeq_calls {gf : Nat} {lb : Array Value} {xs : List Ent} {R : Nat → Prop} (w : World) (hseq : Iter2 Try.prog gf lb encE xs (fun _ => False) R w) (hR : ∀ k, R k → k < w.heap.size)
    (eg : ∀ args w, (callFunc gf args).run Try.prog w = .ok (.enter gf args) w) (hl : xs.length ≤ 4398046511104) :
    CallsIn Fence.wide 0 Try.prog 59 #[.slice none 0 0, .func (.func gf) #[] lb] w (Made w xs) := by
  obtain ⟨i0, hi, hz0, hz1, hz2⟩ := info_parts info55
  refine callsIn_of_wp_marks Try.func59 rfl trivial ?_
  simp only [Try.ntmps59, List.size_toArray, List.length_cons, List.length_nil, Nat.reduceAdd, Nat.reduceSub, Array.replicate_succ, Array.replicate_zero, List.push_toArray, List.append_toArray, List.nil_append, List.cons_append]
  have HEG := Aside0.mk eg
  have HSQ := Aside0.mk hseq
  clear eg hseq
  gi_wp2
  obtain ⟨s, hs⟩ : ∃ s, w.heap.size = s := ⟨_, rfl⟩
  have hbo := Boxed.new w 24 (.slice none 0 0)
  have hsz : (w.alloc (.cells #[.slice none 0 0] 24)).heap.size = s + 1 := by simp [hs]
  have hB0 : Below s w (w.alloc (.cells #[.slice none 0 0] 24)) := by rw [← hs]; exact (Below.refl _ w).alloc (Nat.le_refl _) _
  have hit := iter_mono HSQ.out (Keeps.alloc R w (.cells #[.slice none 0 0] 24))
  rw [hs] at hbo hR ⊢
  generalize w.alloc (.cells #[.slice none 0 0] 24) = W0 at hbo hsz hB0 hit ⊢
  refine range_outer2 (gf := gf) (lb := lb) rfl HEG.out hit (fun q h => h.elim) (fun q h => by have := hR q h; omega) (fun _ => rfl)
    (fun k W => (∃ v, Boxed W s 24 v ∧ OwnE W (s + 3) v (xs.take k)) ∧ Below s w W)
    (fun _ _ _ => False) ?hI (fun _ _ _ _ h _ => h) ?h0
    (fun x a' W => ∃ Bx, s + 2 < Bx ∧ BoxE x Bx W ∧ a' = { tmps := #[.slice none 0 0, .func (.func gf) #[] lb, .pointer (some ⟨s, 0, none⟩), undef, .slice none 0 0, .pointer (some ⟨Bx, 0, none⟩), .func (.func gf) #[] lb, .agg #[.int .i64 x.f0, .int .i64 x.f1, .string x.f2], undef, undef, undef, undef, undef], defers := [] })
    ?hAx ?assign ?body ?done ?stop
  case hI =>
    rintro j X Y ⟨⟨v, h1, h2⟩, h3⟩ ho
    rw [hsz] at ho
    exact ⟨⟨v, ho.boxed h1 (by intro h; rcases h with h | h | h; exact False.elim h; all_goals omega), h2.only ho (fun q hq h => by rcases h with h | h | h; exact False.elim h; all_goals omega)⟩, below_only h3 ho (by have := h3.size; omega) (fun q hq h => by rcases h with h | h | h; exact False.elim h; all_goals omega)⟩
  case h0 => exact ⟨⟨_, hbo, World.ownsRow_nil _ _ _ _⟩, hB0⟩
  case hAx =>
    rintro x a' X Y ⟨Bx, h1, h2, h3⟩ ho
    rw [hsz] at ho
    exact ⟨Bx, h1, h2.only ho (by intro h; rcases h with h | h | h; exact False.elim h; all_goals omega), h3⟩
  case assign =>
    rintro l j x W' K hx ⟨⟨v, h1, h2⟩, h3⟩ hsz' hK
    rw [hsz] at hsz'
    gi_wp2
    exact hK _ _ (Keeps.alloc _ _ _) ⟨⟨v, ((Only.refl (fun _ => False) W').alloc _).boxed h1 (fun h => h), h2.only ((Only.refl (fun _ => False) W').alloc _) (fun _ _ h => h)⟩, h3.alloc (by have := h3.size; omega) _⟩ ⟨W'.heap.size, by omega, BoxE.new x W', rfl⟩
  case body =>
    rintro l k x a' W hx rfl ⟨r, hr⟩ ⟨⟨v, hv, hrow⟩, hbel⟩ ⟨Bx, hBx, hbx, rfl⟩
    have hk : k < xs.length := (List.getElem?_eq_some_iff.1 hx).1
    have HSN : Aside0 (xs.take (k + 1) = xs.take k ++ [x]) := ⟨by
      obtain ⟨h1, h2⟩ := List.getElem?_eq_some_iff.1 hx
      rw [List.take_succ_eq_append_getElem hk, h2]⟩
    have htl : (xs.take k).length = k := by rw [List.length_take]; omega
    have hrlt := (Array.getElem?_eq_some_iff.1 hr).1
    have hrow2 : W.ownsRow (s + 3) 55 3 v k (flatE (xs.take k)) := by have := hrow; unfold OwnE at this; rwa [htl] at this
    have hc := hv.cell
    obtain ⟨e0, e1, e2⟩ := id hbx
    clear hrow hr hx
    gi_wp2_with (gi_at_builtin; refine wpListIn_append_own _ rfl _ _ 24 rfl (s + 3) 55 i0 (.agg #[.int .i64 0, .int .i64 0, .string ⟨#[]⟩]) 3 32 Try.underlying24 hi hz0 hz1 hz2 rfl (by decide) _ _ _ rfl (hrow2.alloc _) ⟨W.heap.size, 0, none⟩ 1 1 (cellsE x) rfl rfl (cellsE_new x W) (cellsE_one x) (by unfold maxLen; omega) (by omega) (by have := hbel.size; simp; omega) ?_; intro v' w1 hown' hgrow _; obtain ⟨g', cap', rfl⟩ := ownsRow_succ hown'; obtain ⟨hv1, hv2, hr2, ho2⟩ := append_step hv (by decide) hrow2 hown' hgrow; have hc1 := hv1.cell; have hf1 := hv1.frozen)
    refine ⟨ho2.keeps (fun q hq h h2 => ?_), ⟨_, hv2, ?_⟩, hbel.trans (ho2.below (by have := hbel.size; omega) (fun q hq => by omega))⟩
    · rcases h with h | h | h
      · have := hR q h; omega
      · omega
      · omega
    · unfold OwnE
      rw [HSN.out, flatE_app, List.length_append, htl]
      show World.ownsRow _ _ _ _ _ (k + 1) (flatE (xs.take k) ++ (cellsE x ++ []))
      rw [List.append_nil]
      exact hr2
  case done =>
    rintro W ⟨⟨v, hv, hrow⟩, hbel⟩ hD
    rw [List.take_length] at hrow
    have hc := hv.cell
    have HRW := Aside0.mk hrow
    have HS0 := Aside0.mk hs
    have HSZ := Aside0.mk hsz
    have HB := Aside0.mk hbel
    clear hrow hs hsz hbel hv hit hbo hB0
    gi_wp2
    refine Marks.leaves (n₀ := W0.heap.size) ((show Marks W0.heap.size [] _ from trivial).cons hD (Nat.le_refl _) (by simp)) fun W' hW' => ?_
    refine ⟨_, results_tmp rfl _ _ _, v, rfl, ?_, ?_⟩
    · rw [HS0.out]
      refine OwnE.mono (b := s + 3) ?_ (by omega)
      obtain ⟨h1, h2⟩ := HRW.out
      refine ⟨h1, ?_⟩
      rcases h2 with h2 | ⟨g, cap, cur, hv, hb, hg, rest⟩
      · exact .inl h2
      · exact .inr ⟨g, cap, cur, hv, hb, (hW'.block g (Array.getElem?_eq_some_iff.1 hg).1 (fun h => by obtain ⟨_, o, ho, hc⟩ := h; rw [hg] at ho; cases ho; cases hc)).trans hg, rest⟩
    · rw [HS0.out]
      exact HB.out.trans (hW'.below (by have := HB.out.size; have := HS0.out; omega) (fun q hq h => by have h1 := h.1; have h2 := HSZ.out; omega))
  case stop => exact fun _ _ _ _ _ h => h.elim
set_option maxHeartbeats 1000000 in
theorem collect_calls {gf : Nat} {lb : Array Value} {xs : List Ent} {R : Nat → Prop} (w : World) (hseq : Iter2 Try.prog gf lb encE xs (fun _ => False) R w) (hR : ∀ k, R k → k < w.heap.size)
    (eg : ∀ args w, (callFunc gf args).run Try.prog w = .ok (.enter gf args) w) (hl : xs.length ≤ 4398046511104) :
    Calls Try.prog 41 #[.func (.func gf) #[] lb] w (Made w xs) := by
  have HC := Aside0.mk ((callsIn_wide (n := 0)).1 (appendSeq_calls w hseq hR eg hl))
  clear hseq eg
  go_enter Try.func41, Try.ntmps41
  go_wp2_with (go_at_call 59; refine HC.out.mono ?_; rintro e w1 ⟨v, rfl, h1, h2⟩; have H1 := Aside0.mk h1; have H2 := Aside0.mk h2; clear h1 h2)
  go_ret
  exact ⟨v, rfl, H1.out, H2.out⟩
end Go.Proofs.Ytlfdmlacadoolaa.PartW
namespace Go.Proofs.Ytlfdmlacadoolaa.Sp
open Go Go.RowKit Go.Proofs.Ytlfdmlacadoolaa.A Go.Proofs.Ytlfdmlacadoolaa.Seq Go.Proofs.YtlfdmlacadoolaaW.PrintWords Go.Proofs.YtlfdmlacadoolaaW.PrintLast Go.Proofs.YtlfdmlacadoolaaW.PrintMore
theorem flatE_get : ∀ (l : List Ent) (k : Nat) (u : Value), (flatE l)[k]? = some u → ∃ j p i, k = j * 3 + i ∧ l[j]? = some p ∧ (cellsE p)[i]? = some u
  | [], k, u, h => by simp [flatE] at h
  | x :: l, k, u, h => by
    have h' : (cellsE x ++ flatE l)[k]? = some u := h
    rcases Nat.lt_or_ge k 3 with hk | hk
    · refine ⟨0, x, k, by omega, rfl, ?_⟩
      rwa [List.getElem?_append_left (by show k < 3; exact hk)] at h'
    · rw [List.getElem?_append_right (by show 3 ≤ k; exact hk)] at h'
      obtain ⟨j, p, i, h1, h2, h3⟩ := flatE_get l (k - 3) u h'
      exact ⟨j + 1, p, i, by omega, by simpa using h2, h3⟩
theorem flatE_one (l : List Ent) : ∀ u ∈ flatE l, u.oneCell' = true := by
  intro u hu
  obtain ⟨k, hk, rfl⟩ := List.mem_iff_getElem.1 hu
  obtain ⟨j, p, i, _, _, h3⟩ := flatE_get l k _ (List.getElem?_eq_getElem hk)
  match i, h3 with
  | 0, h => injection h with h; rw [← h]; rfl
  | 1, h => injection h with h; rw [← h]; rfl
  | 2, h => injection h with h; rw [← h]; rfl
  | i + 3, h => simp [cellsE] at h
theorem Rd.cells {w : World} {ad : Addr} {c : Nat} {l : List Ent} (h : Rd w (some ad) c l) : ∀ k u, (flatE l)[k]? = some u → w.cell? (ad.add k) = some u := by
  intro k u hu
  obtain ⟨j, p, i, rfl, hp, hi⟩ := flatE_get l k u hu
  obtain ⟨⟨h1, h2, h3⟩, _, _⟩ := h
  have hj : j < l.length := (List.getElem?_eq_some_iff.1 hp).1
  obtain ⟨ad', e, hc⟩ := h3 (by omega)
  cases e
  obtain ⟨cs, g1, g2, g3⟩ := hc j p hp
  obtain rfl := k55_open g2
  exact g3 i u hi
theorem own_block {w : World} {b : Nat} {v : Value} {l : List Ent} (h : OwnE w b v l) {k : Nat} (hk : v.ownBlock = some k) : b ≤ k ∧ k < w.heap.size ∧ ∃ o, w.heap[k]? = some o ∧ o.isCells = true := by
  rcases h.2 with ⟨rfl, _⟩ | ⟨g, cap, cur, rfl, hb, hg, _⟩
  · simp [Value.ownBlock] at hk
  · obtain rfl : g = k := by simpa [Value.ownBlock] using hk
    exact ⟨hb, (Array.getElem?_eq_some_iff.1 hg).1, _, hg, rfl⟩
/-- the law of the append -/
theorem run_append_ent {w : World} {b : Nat} {v : Value} {l m : List Ent} {A : Option Addr} {c : Nat} (ty : TypeId) (hown : OwnE w b v l) (hr : Rd w A c m) (hl : l.length + m.length ≤ 4398046511104) (hb : b ≤ w.heap.size) :
    ∃ v' w', (Builtin.append_ #[24, 24] ty #[v, .slice A m.length c]).run Try.prog w = .ok v' w' ∧ OwnE w' b v' (l ++ m) ∧ w.grownBy w' v.ownBlock ∧ (v'.ownBlock = v.ownBlock ∨ v'.ownBlock = some w.heap.size) := by
  obtain ⟨i0, hi, hz0, hz1, hz2⟩ := info_parts info55
  rcases A with _ | ad
  · have hm : m = [] := by
      rcases m with _ | ⟨x, m⟩
      · rfl
      · obtain ⟨⟨h1, h2, h3⟩, _, _⟩ := hr
        obtain ⟨ad, e, _⟩ := h3 (by simp)
        cases e
    subst hm
    refine ⟨v, w, ?_, by simpa using hown, World.grownBy.refl w _, .inl rfl⟩
    rcases hown.2 with ⟨rfl, hh⟩ | ⟨g, cap, cur, rfl, _, _, hnc, _⟩
    · simp [Builtin.append_, run_underlying Try.underlying24, sizeOf, typeInfo, hi, Builtin.lenOf, Builtin.firstCells]
    · simp [Builtin.append_, run_underlying Try.underlying24, sizeOf, typeInfo, hi, Builtin.lenOf, Builtin.firstCells, hnc, storeCells]
  · obtain ⟨v', w', hrun, h2, h3, _, h5⟩ := run_append_own_at (P := Try.prog) w b 24 ty 55 i0 (.agg #[.int .i64 0, .int .i64 0, .string ⟨#[]⟩]) 3 32 Try.underlying24 hi hz0 hz1 hz2 rfl (by decide) v l.length (flatE l) hown ad m.length c (flatE m) (flatE_len m) hr.cells (flatE_one m) (by unfold maxLen; omega) (by omega) hb
    exact ⟨v', w', hrun, by unfold OwnE; rw [flatE_app, List.length_append]; exact h2, h3, h5⟩
theorem OwnE.nil (w : World) (b : Nat) : OwnE w b (.slice none 0 0) [] := World.ownsRow_nil _ _ _ _
section
variable {F : Fence} {n : Nat} {w : World} {ops : Array Oper} {rest : List Oper} {o : Oper} {a : Act} {Q : Exit → Act → World → Prop} {b : Nat} {v : Value} {l m : List Ent} {A : Option Addr} {c : Nat}
/-- in a plain region, in a fence -/
theorem wpListIn_append_ent (hg : o.guard = none) (s x : Operand) (hop : o.op = Op.call { callee := Callee.builtin Builtin.append, args := #[s, x], argTypes := #[24, 24] })
    (hs : a.eval s = v) (hown : OwnE w b v l) (hx : a.eval x = .slice A m.length c) (hr : Rd w A c m) (hl : l.length + m.length ≤ 4398046511104) (hb : b ≤ w.heap.size)
    (hK : ∀ v' w', OwnE w' b v' (l ++ m) → w.grownBy w' v.ownBlock → (v'.ownBlock = v.ownBlock ∨ v'.ownBlock = some w.heap.size) → wpListIn F n Try.prog ops Q rest (a.put o.dst v') w') :
    wpListIn F n Try.prog ops Q (o :: rest) a w := by
  refine wpListIn_plain hg fun K hK' => ?_
  obtain ⟨v', w', hrun, r1, r2, r3⟩ := run_append_ent o.type hown hr hl hb
  unfold Oper.wpIn
  refine ⟨?_, ?_⟩
  · simp [Oper.about, hop, resolve, Target.leads, Sem.run_pure]
  · rw [Oper.semAt_plain F _ _ (by rw [hop]; intro c hc'; cases hc')]
    simp [execOp, hop, resolve, invoke, builtin, hs, hx, hrun, Result.andThen]
    exact hK' _ _ (hK v' w' r1 r2 r3)
theorem wp_append_ent {K : Act → World → Prop} (s x : Operand) (hop : o.op = Op.call { callee := Callee.builtin Builtin.append, args := #[s, x], argTypes := #[24, 24] })
    (hs : a.eval s = v) (hown : OwnE w b v l) (hx : a.eval x = .slice A m.length c) (hr : Rd w A c m) (hl : l.length + m.length ≤ 4398046511104) (hb : b ≤ w.heap.size)
    (hK : ∀ v' w', OwnE w' b v' (l ++ m) → w.grownBy w' v.ownBlock → (v'.ownBlock = v.ownBlock ∨ v'.ownBlock = some w.heap.size) → K (a.put o.dst v') w') : o.wp Try.prog a w K Q := by
  obtain ⟨v', w', hrun, r1, r2, r3⟩ := run_append_ent o.type hown hr hl hb
  unfold Oper.wp execOp
  simp only [hop, resolve, invoke, builtin, Sem.run_bind, Sem.run_pure, Result.andThen_ok, List.map_toArray, List.map_cons, List.map_nil, hs, hx, hrun]
  exact hK v' w' r1 r2 r3
theorem wpList_append_ent (hg : o.guard = none) (s x : Operand) (hop : o.op = Op.call { callee := Callee.builtin Builtin.append, args := #[s, x], argTypes := #[24, 24] })
    (hs : a.eval s = v) (hown : OwnE w b v l) (hx : a.eval x = .slice A m.length c) (hr : Rd w A c m) (hl : l.length + m.length ≤ 4398046511104) (hb : b ≤ w.heap.size)
    (hK : ∀ v' w', OwnE w' b v' (l ++ m) → w.grownBy w' v.ownBlock → (v'.ownBlock = v.ownBlock ∨ v'.ownBlock = some w.heap.size) → wpList Try.prog ops Q rest (a.put o.dst v') w') :
    wpList Try.prog ops Q (o :: rest) a w := by
  refine wpList_plain hg fun K hK' => ?_
  obtain ⟨v', w', hrun, r1, r2, r3⟩ := run_append_ent o.type hown hr hl hb
  unfold Oper.wp execOp
  simp only [hop, resolve, invoke, builtin, Sem.run_bind, Sem.run_pure, Result.andThen_ok, List.map_toArray, List.map_cons, List.map_nil, hs, hx, hrun]
  exact hK' _ _ (hK v' w' r1 r2 r3)
end
/-- what a slice reads as, behind an append onto another one -/
theorem Rd.grown {w w' : World} {A : Option Addr} {c : Nat} {l : List Ent} {row : Option Nat} (h : Rd w A c l) (hg : w.grownBy w' row) (hr : ∀ k, row = some k → ¬ inA A l k) : Rd w' A c l :=
  h.of_block fun q hq => hg.block q (h.lt hq) (fun e => hr q e.symm hq)
theorem only_grown {U : Nat → Prop} {w w' : World} {row : Option Nat} (hg : w.grownBy w' row) (hr : ∀ k, row = some k → U k) : Only U w w' :=
  (Only.refl U w).of_grown hg fun k hk _ => hr k hk
theorem Rd.isCells {w : World} {A : Option Addr} {c : Nat} {l : List Ent} (h : Rd w A c l) {k : Nat} (hk : inA A l k) : ∃ o, w.heap[k]? = some o ∧ o.isCells = true := by
  obtain ⟨hn, ad, rfl, rfl⟩ := hk
  obtain ⟨ad', e, h0, _, _⟩ := h.at_ hn
  cases e
  have hlt := World.block_lt_of_cell? _ _ h0
  rw [add_block] at hlt
  refine ⟨_, Array.getElem?_eq_getElem hlt, ?_⟩
  have hb : (ad.add (0 * 3)).block = ad.block := add_block _ _
  cases ho : w.heap[ad.block] with
  | cells cs t m => rfl
  | _ =>
    exfalso
    have h2 : w.heap[ad.block]? = some _ := (Array.getElem?_eq_getElem hlt).trans (congrArg some ho)
    simp [World.cell?, add_block, h2] at h0
/-- one entry in a block of its own -/
theorem Rd.one (w : World) (x : Ent) : Rd (w.alloc (.cells #[.int .i64 x.f0, .int .i64 x.f1, .string x.f2] 55)) (some ⟨w.heap.size, 0, none⟩) 1 [x] := by
  refine ⟨⟨rfl, by simp, fun _ => ⟨_, rfl, fun j p hj => ?_⟩⟩, Nat.le_refl _, by simp⟩
  rcases j with _ | j
  · obtain rfl : x = p := by simpa using hj
    refine ⟨cellsE x, rfl, k55_mk _ x, fun i u hu => ?_⟩
    rw [Nat.zero_mul, Nat.zero_add]
    exact PartW.cellsE_new x w i u hu
  · simp at hj
theorem OwnE.below {w w' : World} {b : Nat} {v : Value} {l : List Ent} (h : OwnE w b v l) (hb : Below w.heap.size w w') : OwnE w' b v l := by
  obtain ⟨h1, h2⟩ := h
  refine ⟨h1, ?_⟩
  rcases h2 with h2 | ⟨g, cap, cur, hv, hg, hh, rest⟩
  · exact .inl h2
  · exact .inr ⟨g, cap, cur, hv, hg, (hb.block g (Array.getElem?_eq_some_iff.1 hh).1).trans hh, rest⟩
theorem OwnE.alloc {w : World} {b : Nat} {v : Value} {l : List Ent} (h : OwnE w b v l) (o : Obj) : OwnE (w.alloc o) b v l := h.below (Below.alloc (Below.refl _ _) (Nat.le_refl _) o)
/-- behind the leaving of a function that has ranged over functions -/
theorem Rd.marks {w w' : World} {A : Option Addr} {c n₀ : Nat} {l : List Ent} (h : Rd w A c l) (ho : Only (fun k => n₀ ≤ k ∧ ∃ o, w.heap[k]? = some o ∧ o.isCells = false) w w') : Rd w' A c l :=
  h.only ho fun k hk h2 => by
    obtain ⟨_, o, ho, hc⟩ := h2
    obtain ⟨o', ho', hc'⟩ := h.isCells hk
    rw [ho] at ho'
    cases ho'
    rw [hc] at hc'
    cases hc'
end Go.Proofs.Ytlfdmlacadoolaa.Sp
namespace Go.Proofs.Ytlfdmlacadoolaa.Sp
open Go Go.RowKit Go.Proofs.Ytlfdmlacadoolaa.A Go.Proofs.YtlfdmlacadoolaaW.PrintWords Go.Proofs.YtlfdmlacadoolaaW.PrintLast Go.Proofs.YtlfdmlacadoolaaW.PrintMore
/-- the entry of an index; its term -/
def findL (l : List Ent) (i : Int) : Option Ent := l.find? fun e => decide (e.f0 = i)
def termL (l : List Ent) (i : Int) : Int := match findL l i with
  | some e => e.f1
  | none => 0
theorem with_one (l : List Ent) (i : Int) : (withL l i (i + 1))[0]? = findL l i := by
  unfold withL findL
  rw [← List.head?_eq_getElem?, List.head?_filter]
  congr 1
  funext e
  unfold inR
  apply Bool.eq_iff_iff.2
  simp only [Bool.and_eq_true, decide_eq_true_eq]
  omega
theorem atL_hit {l : List Ent} {i : Int} {k : Nat} (hk : k < l.length) (h : (el l k).f0 = i) (hn : ∀ j, j < k → (el l j).f0 ≠ i) : atL l i = (k : Int) := by
  unfold atL
  have : l.findIdx? (fun e => decide (e.f0 = i)) = some k := by
    rw [List.findIdx?_eq_some_iff_getElem]
    refine ⟨hk, by rw [← el_get hk]; exact decide_eq_true h, fun j hj => ?_⟩
    rw [← el_get (by omega)]
    simp only [decide_eq_true_eq]
    exact hn j hj
  rw [this]
theorem atL_miss {l : List Ent} {i : Int} (hn : ∀ j, j < l.length → (el l j).f0 ≠ i) : atL l i = -1 := by
  unfold atL
  have : l.findIdx? (fun e => decide (e.f0 = i)) = none := by
    rw [List.findIdx?_eq_none_iff]
    intro e he
    obtain ⟨j, hj, rfl⟩ := List.mem_iff_getElem.1 he
    rw [← el_get hj]
    exact decide_eq_false (hn j hj)
  rw [this]
theorem at_some {l : List Ent} {i : Int} (h : 0 ≤ atL l i) : (atL l i).toNat < l.length ∧ (el l (atL l i).toNat).f1 = termL l i := by
  unfold atL at h ⊢
  split at h
  · next k hk =>
    obtain ⟨hk1, hk2, hk3⟩ := List.findIdx?_eq_some_iff_getElem.1 hk
    have hf : findL l i = some l[k] := by
      unfold findL
      exact List.find?_eq_some_iff_getElem.2 ⟨hk2, k, hk1, rfl, fun j hj => by have := hk3 j hj; simpa using this⟩
    refine ⟨by simpa using hk1, ?_⟩
    unfold termL
    rw [hf]
    unfold el
    simp [hk1]
  · omega
theorem at_none {l : List Ent} {i : Int} (h : ¬ 0 ≤ atL l i) : termL l i = 0 := by
  unfold atL at h
  split at h
  · omega
  · next hk =>
    unfold termL findL
    rw [List.find?_eq_none.2 (fun x hx => by have := List.findIdx?_eq_none_iff.1 hk x hx; simpa using this)]
end Go.Proofs.Ytlfdmlacadoolaa.Sp
namespace Go.Proofs.Ytlfdmlacadoolaa.PartW
open Go Go.RowKit Go.Shelf Go.Proofs.Ytlfdmlacadoolaa.A Go.Proofs.Ytlfdmlacadoolaa.Sp Go.Proofs.Ytlfdmlacadoolaa.Reg Go.Proofs.Ytlfdmlacadoolaa.Seq Go.Proofs.YtlfdmlacadoolaaW.PrintWords Go.Proofs.YtlfdmlacadoolaaW.PrintLast Go.Proofs.YtlfdmlacadoolaaW.PrintMore
attribute [local go_sem] Oper.semAt_some
/-- the block of a group -/
def BlkG (g : Grp) (A : Option Addr) (c : Nat) (B : Nat) (W : World) : Prop := W.heap[B]? = some (.cells #[.int .i64 g.id, .int .i64 g.fi, .int .i64 g.tm, .int .i64 g.ht, .int .i64 g.hv, .int .i64 g.hc, .slice A g.l.length c] 26 (0, 0))
theorem BlkG.below {g : Grp} {A : Option Addr} {c B : Nat} {W W' : World} (h : BlkG g A c B W) (hb : Below W.heap.size W W') : BlkG g A c B W' := (hb.block _ (Array.getElem?_eq_some_iff.1 h).1).trans h
theorem BlkG.box {g : Grp} {A : Option Addr} {c B : Nat} {W : World} (h : BlkG g A c B W) : BoxG g A c B W := by
  unfold BlkG at h
  refine ⟨?_, ?_, ?_, ?_, ?_, ?_, ?_⟩ <;> simp [World.cell?, h]
theorem BlkG.free {g : Grp} {A : Option Addr} {c B : Nat} {W : World} (h : BlkG g A c B W) (o : Nat) : W.frozen? ⟨B, o, none⟩ = false := by
  unfold BlkG at h
  simp [World.frozen?, h]
theorem BlkG.new (g : Grp) (A : Option Addr) (c : Nat) (w : World) : BlkG g A c w.heap.size (w.alloc (.cells #[.int .i64 g.id, .int .i64 g.fi, .int .i64 g.tm, .int .i64 g.ht, .int .i64 g.hv, .int .i64 g.hc, .slice A g.l.length c] 26)) := by
  unfold BlkG; exact World.alloc_heap_new w _
theorem BlkG.setL {g : Grp} {A : Option Addr} {c B : Nat} {W : World} (h : BlkG g A c B W) (l : List Ent) (A' : Option Addr) (c' : Nat) : BlkG ⟨g.id, g.fi, g.tm, g.ht, g.hv, g.hc, l⟩ A' c' B (W.setCell ⟨B, 6, none⟩ (.slice A' l.length c')) := by
  unfold BlkG at h ⊢
  simp [World.setCell, Array.getElem?_modify, h]
theorem BlkG.lt {g : Grp} {A : Option Addr} {c B : Nat} {W : World} (h : BlkG g A c B W) : B < W.heap.size := (Array.getElem?_eq_some_iff.1 h).1
theorem BlkG.only {U : Nat → Prop} {g : Grp} {A : Option Addr} {c B : Nat} {W W' : World} (h : BlkG g A c B W) (ho : Only U W W') (hU : ¬ U B) : BlkG g A c B W' := (ho.block B (Array.getElem?_eq_some_iff.1 h).1 hU).trans h
theorem BlkG.alloc {g : Grp} {A : Option Addr} {c B : Nat} {W : World} (h : BlkG g A c B W) (o : Obj) : BlkG g A c B (W.alloc o) := (Below.heap_alloc _ _ _ (Array.getElem?_eq_some_iff.1 h).1).trans h
theorem _root_.Go.Proofs.Ytlfdmlacadoolaa.Sp.OwnE.rd' {w : World} {b : Nat} {v : Value} {l : List Ent} (h : OwnE w b v l) (hl : l.length ≤ 4398046511104) : ∃ A c, v = .slice A l.length c ∧ Rd w A c l ∧ ∀ k, inA A l k → b ≤ k := by
  obtain ⟨A, c, rfl, h2⟩ := h.rd hl
  refine ⟨A, c, rfl, h2, fun k hk => ?_⟩
  obtain ⟨hn, ad, rfl, rfl⟩ := hk
  obtain ⟨_, h3⟩ := h
  rcases h3 with ⟨h3, h4⟩ | ⟨g, cap, cur, hv, hb, _⟩
  · omega
  · cases hv; exact hb
def GotG (w : World) (g : Grp) (e : Ending) (w' : World) : Prop := ∃ A c, e = .returned (vG g A c) ∧ Rd w' A c g.l ∧ Below w.heap.size w w'
/-- the block of a part -/
def BlkP (p : Prt) (A : Option Addr) (c : Nat) (B : Nat) (W : World) : Prop := W.heap[B]? = some (.cells #[.int .i64 p.g, .int .i64 p.k, .slice A p.l.length c, .int .i64 p.ht, .int .i64 p.hv, .int .i64 p.hc, .int .i64 p.ix, .int .i64 p.tm, .bool p.mrk, .bool p.hed] 28 (0, 0))
theorem BlkP.below {p : Prt} {A : Option Addr} {c B : Nat} {W W' : World} (h : BlkP p A c B W) (hb : Below W.heap.size W W') : BlkP p A c B W' := (hb.block _ (Array.getElem?_eq_some_iff.1 h).1).trans h
theorem BlkP.alloc {p : Prt} {A : Option Addr} {c B : Nat} {W : World} (h : BlkP p A c B W) (o : Obj) : BlkP p A c B (W.alloc o) := (Below.heap_alloc _ _ _ (Array.getElem?_eq_some_iff.1 h).1).trans h
theorem BlkP.new (p : Prt) (A : Option Addr) (c : Nat) (w : World) : BlkP p A c w.heap.size (w.alloc (.cells #[.int .i64 p.g, .int .i64 p.k, .slice A p.l.length c, .int .i64 p.ht, .int .i64 p.hv, .int .i64 p.hc, .int .i64 p.ix, .int .i64 p.tm, .bool p.mrk, .bool p.hed] 28)) := by
  unfold BlkP; exact World.alloc_heap_new w _
theorem BlkP.only {U : Nat → Prop} {p : Prt} {A : Option Addr} {c B : Nat} {W W' : World} (h : BlkP p A c B W) (ho : Only U W W') (hU : ¬ U B) : BlkP p A c B W' := (ho.block B (Array.getElem?_eq_some_iff.1 h).1 hU).trans h
theorem BlkP.box {p : Prt} {A : Option Addr} {c B : Nat} {W : World} (h : BlkP p A c B W) : W.cell? ⟨B, 0, none⟩ = some (.int .i64 p.g) ∧ W.cell? ⟨B, 1, none⟩ = some (.int .i64 p.k) ∧ W.cell? ⟨B, 2, none⟩ = some (.slice A p.l.length c) ∧ W.cell? ⟨B, 3, none⟩ = some (.int .i64 p.ht) ∧ W.cell? ⟨B, 4, none⟩ = some (.int .i64 p.hv) ∧ W.cell? ⟨B, 5, none⟩ = some (.int .i64 p.hc) ∧ W.cell? ⟨B, 6, none⟩ = some (.int .i64 p.ix) ∧ W.cell? ⟨B, 7, none⟩ = some (.int .i64 p.tm) ∧ W.cell? ⟨B, 8, none⟩ = some (.bool p.mrk) ∧ W.cell? ⟨B, 9, none⟩ = some (.bool p.hed) := by
  unfold BlkP at h
  refine ⟨?_, ?_, ?_, ?_, ?_, ?_, ?_, ?_, ?_, ?_⟩ <;> simp [World.cell?, h]
/-- entries don't lie in a block that holds no string -/
theorem no_str {W : World} {b : Nat} {cs : Array Value} {t : TypeId} {m : Nat × Nat} (hb : W.heap[b]? = some (.cells cs t m)) (hns : ∀ u ∈ cs.toList, ∀ s, u ≠ .string s) (o : Nat) (s : ByteArray) : W.cell? ⟨b, o, none⟩ ≠ some (.string s) := by
  intro h
  simp only [World.cell?, hb, Option.isSome_none, Bool.false_eq_true, if_false] at h
  rw [← Array.getElem?_toList] at h
  exact hns _ (List.mem_of_getElem? h) s rfl
theorem Rd.apart {W : World} {A : Option Addr} {c : Nat} {l : List Ent} (h : Rd W A c l) {b : Nat} {cs : Array Value} {t : TypeId} {m : Nat × Nat} (hb : W.heap[b]? = some (.cells cs t m)) (hns : ∀ u ∈ cs.toList, ∀ s, u ≠ .string s) : ¬ inA A l b := by
  rintro ⟨hn, ad, rfl, rfl⟩
  obtain ⟨ad', e, _, _, h2⟩ := h.at_ hn
  cases e
  rw [Sp.add_block] at h2
  exact no_str hb hns _ _ h2
theorem Rd.apartG {W : World} {A A' : Option Addr} {c c' B : Nat} {l : List Ent} {g : Grp} (h : Rd W A c l) (hb : BlkG g A' c' B W) : ¬ inA A l B :=
  Rd.apart h hb (by intro u hu s; simp at hu; rcases hu with rfl | rfl | rfl | rfl | rfl | rfl | rfl <;> simp)
theorem Rd.apartP {W : World} {A A' : Option Addr} {c c' B : Nat} {l : List Ent} {p : Prt} (h : Rd W A c l) (hb : BlkP p A' c' B W) : ¬ inA A l B :=
  Rd.apart h hb (by intro u hu s; simp at hu; rcases hu with rfl | rfl | rfl | rfl | rfl | rfl | rfl | rfl | rfl | rfl <;> simp)
theorem BlkG.hard {g : Grp} {A : Option Addr} {c B : Nat} {W : World} (h : BlkG g A c B W) (ht hv hc : Int) : BlkG ⟨g.id, g.fi, g.tm, ht, hv, hc, g.l⟩ A c B (((W.setCell ⟨B, 3, none⟩ (.int .i64 ht)).setCell ⟨B, 4, none⟩ (.int .i64 hv)).setCell ⟨B, 5, none⟩ (.int .i64 hc)) := by
  unfold BlkG at h ⊢
  simp [World.setCell, Array.getElem?_modify, h]
theorem only_hard (ht hv hc : Int) (B : Nat) (W : World) : Only (fun q => q = B) W (((W.setCell ⟨B, 3, none⟩ (.int .i64 ht)).setCell ⟨B, 4, none⟩ (.int .i64 hv)).setCell ⟨B, 5, none⟩ (.int .i64 hc)) := by
  iterate 3 refine Only.setCell (U := fun q => q = B) ?_ (by exact rfl) _
  exact Only.refl _ _
theorem BlkG.store {g g0 : Grp} {A0 A : Option Addr} {c0 c B : Nat} {W : World} (h : BlkG g0 A0 c0 B W) : BlkG g A c B (((((((W.setCell ⟨B, 0, none⟩ (.int .i64 g.id)).setCell ⟨B, 1, none⟩ (.int .i64 g.fi)).setCell ⟨B, 2, none⟩ (.int .i64 g.tm)).setCell ⟨B, 3, none⟩ (.int .i64 g.ht)).setCell ⟨B, 4, none⟩ (.int .i64 g.hv)).setCell ⟨B, 5, none⟩ (.int .i64 g.hc)).setCell ⟨B, 6, none⟩ (.slice A g.l.length c)) := by
  unfold BlkG at h ⊢
  simp [World.setCell, Array.getElem?_modify, h]
theorem only_store (g : Grp) (A : Option Addr) (c B : Nat) (W : World) : Only (fun q => q = B) W (((((((W.setCell ⟨B, 0, none⟩ (.int .i64 g.id)).setCell ⟨B, 1, none⟩ (.int .i64 g.fi)).setCell ⟨B, 2, none⟩ (.int .i64 g.tm)).setCell ⟨B, 3, none⟩ (.int .i64 g.ht)).setCell ⟨B, 4, none⟩ (.int .i64 g.hv)).setCell ⟨B, 5, none⟩ (.int .i64 g.hc)).setCell ⟨B, 6, none⟩ (.slice A g.l.length c)) := by
  iterate 7 refine Only.setCell (U := fun q => q = B) ?_ (by exact rfl) _
  exact Only.refl _ _
theorem BlkG.marks {g : Grp} {A : Option Addr} {c B n₀ : Nat} {W W' : World} (h : BlkG g A c B W) (ho : Only (fun k => n₀ ≤ k ∧ ∃ o, W.heap[k]? = some o ∧ o.isCells = false) W W') : BlkG g A c B W' :=
  h.only ho fun h2 => by
    obtain ⟨_, o, ho, hc⟩ := h2
    unfold BlkG at h
    rw [h] at ho
    cases ho
    cases hc
structure Two (g : Grp) (A : Option Addr) (c : Nat) (p : Prt) (Ap : Option Addr) (cp : Nat) (s : Nat) (w W : World) : Prop where
  hs : w.heap.size = s
  bg : BlkG g A c s W
  bp : BlkP p Ap cp (s + 1) W
  bz : BlkG ⟨0, 0, 0, 0, 0, 0, []⟩ none 0 (s + 2) W
  rg : Rd W A c g.l
  rp : Rd W Ap cp p.l
  ag : ∀ b, inA A g.l b → b < s
  ap : ∀ b, inA Ap p.l b → b < s
  b : Below s w W
  sz : s + 3 ≤ W.heap.size
section
variable {g : Grp} {A : Option Addr} {c : Nat} {p : Prt} {Ap : Option Addr} {cp s : Nat} {w W W' : World}
theorem Two.below (h : Two g A c p Ap cp s w W) (hb : Below W.heap.size W W') : Two g A c p Ap cp s w W' :=
  ⟨h.hs, h.bg.below hb, h.bp.below hb, h.bz.below hb, h.rg.below hb, h.rp.below hb, h.ag, h.ap, h.b.trans (hb.mono (by have := h.sz; omega)), Nat.le_trans h.sz hb.size⟩
theorem Two.drew (h : Two g A c p Ap cp s w W) : Two g A c p Ap cp s w W.drew := h.below (below_drew (Below.refl _ _))
theorem Two.new (g : Grp) (A : Option Addr) (c : Nat) (p : Prt) (Ap : Option Addr) (cp : Nat) (w : World) (h : Rd w A c g.l) (hp : Rd w Ap cp p.l) :
    Two g A c p Ap cp w.heap.size w (((w.alloc (.cells #[.int .i64 g.id, .int .i64 g.fi, .int .i64 g.tm, .int .i64 g.ht, .int .i64 g.hv, .int .i64 g.hc, .slice A g.l.length c] 26)).alloc (.cells #[.int .i64 p.g, .int .i64 p.k, .slice Ap p.l.length cp, .int .i64 p.ht, .int .i64 p.hv, .int .i64 p.hc, .int .i64 p.ix, .int .i64 p.tm, .bool p.mrk, .bool p.hed] 28)).alloc (.cells #[.int .i64 0, .int .i64 0, .int .i64 0, .int .i64 0, .int .i64 0, .int .i64 0, .slice none 0 0] 26)) := by
  have p0 := BlkP.new p Ap cp (w.alloc (.cells #[.int .i64 g.id, .int .i64 g.fi, .int .i64 g.tm, .int .i64 g.ht, .int .i64 g.hv, .int .i64 g.hc, .slice A g.l.length c] 26))
  rw [World.size_alloc] at p0
  have z0 := BlkG.new ⟨0, 0, 0, 0, 0, 0, []⟩ none 0 ((w.alloc (.cells #[.int .i64 g.id, .int .i64 g.fi, .int .i64 g.tm, .int .i64 g.ht, .int .i64 g.hv, .int .i64 g.hc, .slice A g.l.length c] 26)).alloc (.cells #[.int .i64 p.g, .int .i64 p.k, .slice Ap p.l.length cp, .int .i64 p.ht, .int .i64 p.hv, .int .i64 p.hc, .int .i64 p.ix, .int .i64 p.tm, .bool p.mrk, .bool p.hed] 28))
  rw [World.size_alloc, World.size_alloc] at z0
  exact ⟨rfl, ((BlkG.new g A c w).alloc _).alloc _, BlkP.alloc p0 _, z0, ((h.alloc _).alloc _).alloc _, ((hp.alloc _).alloc _).alloc _, fun b hb => h.lt hb, fun b hb => hp.lt hb,
    by repeat (first | exact Below.refl _ _ | apply below_alloc), by simp⟩
end
/-- a result that is stored last -/
theorem stored {r : Grp} {A' : Option Addr} {c' B n : Nat} {w W : World} (hz : BlkG ⟨0, 0, 0, 0, 0, 0, []⟩ none 0 B W) (hr : Rd W A' c' r.l) (hb : Below n w W) (hn : n ≤ B) (hw : n ≤ W.heap.size) :
    BlkG r A' c' B (((((((W.setCell ⟨B, 0, none⟩ (.int .i64 r.id)).setCell ⟨B, 1, none⟩ (.int .i64 r.fi)).setCell ⟨B, 2, none⟩ (.int .i64 r.tm)).setCell ⟨B, 3, none⟩ (.int .i64 r.ht)).setCell ⟨B, 4, none⟩ (.int .i64 r.hv)).setCell ⟨B, 5, none⟩ (.int .i64 r.hc)).setCell ⟨B, 6, none⟩ (.slice A' r.l.length c')) ∧
    Rd (((((((W.setCell ⟨B, 0, none⟩ (.int .i64 r.id)).setCell ⟨B, 1, none⟩ (.int .i64 r.fi)).setCell ⟨B, 2, none⟩ (.int .i64 r.tm)).setCell ⟨B, 3, none⟩ (.int .i64 r.ht)).setCell ⟨B, 4, none⟩ (.int .i64 r.hv)).setCell ⟨B, 5, none⟩ (.int .i64 r.hc)).setCell ⟨B, 6, none⟩ (.slice A' r.l.length c')) A' c' r.l ∧
    Below n w (((((((W.setCell ⟨B, 0, none⟩ (.int .i64 r.id)).setCell ⟨B, 1, none⟩ (.int .i64 r.fi)).setCell ⟨B, 2, none⟩ (.int .i64 r.tm)).setCell ⟨B, 3, none⟩ (.int .i64 r.ht)).setCell ⟨B, 4, none⟩ (.int .i64 r.hv)).setCell ⟨B, 5, none⟩ (.int .i64 r.hc)).setCell ⟨B, 6, none⟩ (.slice A' r.l.length c')) :=
  ⟨hz.store, Rd.only hr (only_store r A' c' B W) (fun q hq h => by have h3 : q = B := h; subst h3; exact Rd.apartG hr hz hq),
    hb.trans ((only_store r A' c' B W).below hw (fun q hq h => by have h3 : q = B := h; omega))⟩
end Go.Proofs.Ytlfdmlacadoolaa.PartW
