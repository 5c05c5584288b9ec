/- Own slices of entries, blocks of parts. -/
import Derived.Test.YtokjhocjemjfiaaMc
import Derived.Maps.AppendAt
set_option linter.unusedVariables false
set_option linter.unusedSimpArgs false
namespace Go.Proofs.Ytokjhocjemjfiaa.Sp
open Go Go.RowKit Go.Proofs.Ytokjhocjemjfiaa.A Go.Proofs.Ytokjhocjemjfiaa.Seq Go.Proofs.YtokjhocjemjfiaaW.PrintWords Go.Proofs.YtokjhocjemjfiaaW.PrintLast Go.Proofs.YtokjhocjemjfiaaW.PrintMore
def inA (A : Option Addr) (l : List Ent) (b : Nat) : Prop := 0 < l.length ∧ ∃ ad : Addr, A = some ad ∧ b = ad.block
theorem add_block (ad : Addr) (n : Nat) : (ad.add n).block = ad.block := by unfold Addr.add; split <;> rfl
theorem Rd.of_block {w w' : World} {A : Option Addr} {c : Nat} {l : List Ent} (h : Rd w A c l) (hb : ∀ b, inA A l b → w'.heap[b]? = w.heap[b]?) : Rd w' A c l := by
  obtain ⟨⟨h1, h2, h3⟩, h4, h5⟩ := h
  refine ⟨⟨h1, h2, fun hn => ?_⟩, h4, h5⟩
  obtain ⟨ad, e, hc⟩ := h3 hn
  refine ⟨ad, e, fun j p hj => ?_⟩
  obtain ⟨cs, g1, g2, g3⟩ := hc j p hj
  obtain rfl := k28_open g2
  exact ⟨_, g1, k28_mk w' p, fun i u hu => (World.cell?_of_block (w := w) (a := ad.add (j * k28.sz + i)) (by rw [add_block]; exact hb _ ⟨hn, ad, e, rfl⟩)).trans (g3 i u hu)⟩
theorem Rd.lt {w : World} {A : Option Addr} {c : Nat} {l : List Ent} (h : Rd w A c l) {b : Nat} (hb : inA A l b) : b < w.heap.size := by
  obtain ⟨hn, ad, rfl, rfl⟩ := hb
  obtain ⟨ad', e, h0, _, _⟩ := h.at_ hn
  cases e
  have := World.block_lt_of_cell? _ _ h0
  rwa [add_block] at this
theorem Rd.only {U : Nat → Prop} {w w' : World} {A : Option Addr} {c : Nat} {l : List Ent} (h : Rd w A c l) (ho : Only U w w') (hU : ∀ b, inA A l b → ¬ U b) : Rd w' A c l :=
  h.of_block fun b hb => ho.block _ (h.lt hb) (hU _ hb)
theorem Rd.keeps {U : Nat → Prop} {w w' : World} {A : Option Addr} {c : Nat} {l : List Ent} (h : Rd w A c l) (ho : Keeps U w w') (hU : ∀ b, inA A l b → U b) : Rd w' A c l :=
  h.of_block fun b hb => ho.block _ (h.lt hb) (hU _ hb)
abbrev encE (x : Ent) : Array Value := #[.agg #[.int .i64 x.f0, .int .i64 x.f1, .string x.f2]]
theorem el_some {l : List Ent} {k : Nat} (h : k < l.length) : l[k]? = some (el l k) := by rw [el_get h, List.getElem?_eq_getElem h]
def cellsE (x : Ent) : List Value := [.int .i64 x.f0, .int .i64 x.f1, .string x.f2]
def flatE : List Ent → List Value
  | [] => []
  | x :: l => cellsE x ++ flatE l
theorem flatE_len : ∀ l : List Ent, (flatE l).length = l.length * 3
  | [] => rfl
  | x :: l => by show (cellsE x ++ flatE l).length = _; rw [List.length_append, flatE_len l]; show 3 + _ = (l.length + 1) * 3; omega
theorem flatE_app : ∀ a b : List Ent, flatE (a ++ b) = flatE a ++ flatE b
  | [], b => rfl
  | x :: a, b => by show cellsE x ++ flatE (a ++ b) = (cellsE x ++ flatE a) ++ flatE b; rw [flatE_app a b, List.append_assoc]
theorem flatE_at : ∀ (l : List Ent) (j : Nat) (p : Ent), l[j]? = some p → ((flatE l).drop (j * 3)).take 3 = cellsE p
  | [], j, p, h => by simp at h
  | x :: l, 0, p, h => by obtain rfl : x = p := by simpa using h
                          rfl
  | x :: l, j + 1, p, h => by
    have := flatE_at l j p (by simpa using h)
    rw [← this]
    show ((cellsE x ++ flatE l).drop ((j + 1) * 3)).take 3 = _
    rw [show (j + 1) * 3 = (cellsE x).length + j * 3 from by show _ = 3 + _; omega, List.drop_append]
    rw [List.drop_of_length_le (by omega), List.nil_append, Nat.add_sub_cancel_left]
/-- a slice of the call's own that holds entries -/
def OwnE (w : World) (base : Nat) (v : Value) (l : List Ent) : Prop := w.ownsRow base 28 3 v l.length (flatE l)
theorem OwnE.mono {w : World} {b b' : Nat} {v : Value} {l : List Ent} (h : OwnE w b v l) (hb : b' ≤ b) : OwnE w b' v l := by
  obtain ⟨h1, h2⟩ := h
  refine ⟨h1, ?_⟩
  rcases h2 with h2 | ⟨g, cap, cur, hv, hg, r⟩
  · exact .inl h2
  · exact .inr ⟨g, cap, cur, hv, by omega, r⟩
theorem OwnE.only {U : Nat → Prop} {w w' : World} {b : Nat} {v : Value} {l : List Ent} (h : OwnE w b v l) (ho : Only U w w') (hU : ∀ k, b ≤ k → ¬ U k) : OwnE w' b v l := Only.row h ho hU
theorem OwnE.rd {w : World} {b : Nat} {v : Value} {l : List Ent} (h : OwnE w b v l) (hl : l.length ≤ 4398046511104) : ∃ A c, v = .slice A l.length c ∧ Rd w A c l := by
  have hr : Kd.R k28 28 w b (fun _ => True) v l :=
    ⟨fun _ _ => trivial, flatE l, h, flatE_len l, fun j p hj => by
      show k28.M w b _ p (((flatE l).drop (j * 3)).take 3)
      rw [flatE_at l j p hj]
      exact k28_mkM w b _ p⟩
  obtain ⟨A, c, e, h1, h2⟩ := Kd.R_reads hr
  exact ⟨A, c, e, h2, h1, hl⟩
end Go.Proofs.Ytokjhocjemjfiaa.Sp
namespace Go.Proofs.Ytokjhocjemjfiaa.PartW
open Go Go.RowKit Go.Shelf Go.Proofs.Ytokjhocjemjfiaa.A Go.Proofs.Ytokjhocjemjfiaa.Sp Go.Proofs.Ytokjhocjemjfiaa.Reg Go.Proofs.Ytokjhocjemjfiaa.Seq Go.Proofs.YtokjhocjemjfiaaW.PrintWords Go.Proofs.YtokjhocjemjfiaaW.PrintLast Go.Proofs.YtokjhocjemjfiaaW.PrintMore
theorem cellsE_one (x : Ent) : ∀ u ∈ cellsE x, u.oneCell' = true := by
  intro u hu
  simp [cellsE] at hu
  rcases hu with rfl | rfl | rfl <;> rfl
theorem cellsE_new (x : Ent) (W : World) : ∀ j u, (cellsE x)[j]? = some u → (W.alloc (.cells #[.int .i64 x.f0, .int .i64 x.f1, .string x.f2] 28)).cell? ((⟨W.heap.size, 0, none⟩ : Addr).add j) = some u := by
  intro j u h
  match j, h with
  | 0, h => cases h; simp [Addr.add]
  | 1, h => cases h; simp [Addr.add]
  | 2, h => cases h; simp [Addr.add]
  | j + 3, h => simp [cellsE] at h
end Go.Proofs.Ytokjhocjemjfiaa.PartW
namespace Go.Proofs.Ytokjhocjemjfiaa.Sp
open Go Go.RowKit Go.Proofs.Ytokjhocjemjfiaa.A Go.Proofs.Ytokjhocjemjfiaa.Seq Go.Proofs.Ytokjhocjemjfiaa.PartW Go.Proofs.YtokjhocjemjfiaaW.PrintWords Go.Proofs.YtokjhocjemjfiaaW.PrintLast Go.Proofs.YtokjhocjemjfiaaW.PrintMore
theorem info_ent : (Try.prog.info? 28).map (fun i => (i.zero, i.size, i.bytes)) = some (some (.agg #[(.int .i64 0), (.int .i64 0), (.string ⟨#[]⟩)]), 3, 32) := by kernel_rfl
theorem flatE_get : ∀ (l : List Ent) (k : Nat) (u : Value), (flatE l)[k]? = some u → ∃ j p i, k = j * 3 + i ∧ l[j]? = some p ∧ (cellsE p)[i]? = some u
  | [], k, u, h => by simp [flatE] at h
  | x :: l, k, u, h => by
    have h' : (cellsE x ++ flatE l)[k]? = some u := h
    rcases Nat.lt_or_ge k 3 with hk | hk
    · refine ⟨0, x, k, by omega, rfl, ?_⟩
      rwa [List.getElem?_append_left (by show k < 3; exact hk)] at h'
    · rw [List.getElem?_append_right (by show 3 ≤ k; exact hk)] at h'
      obtain ⟨j, p, i, h1, h2, h3⟩ := flatE_get l (k - 3) u h'
      exact ⟨j + 1, p, i, by omega, by simpa using h2, h3⟩
theorem flatE_one (l : List Ent) : ∀ u ∈ flatE l, u.oneCell' = true := by
  intro u hu
  obtain ⟨k, hk, rfl⟩ := List.mem_iff_getElem.1 hu
  obtain ⟨j, p, i, _, _, h3⟩ := flatE_get l k _ (List.getElem?_eq_getElem hk)
  match i, h3 with
  | 0, h => injection h with h; rw [← h]; rfl
  | 1, h => injection h with h; rw [← h]; rfl
  | 2, h => injection h with h; rw [← h]; rfl
  | i + 3, h => simp [cellsE] at h
theorem Rd.cells {w : World} {ad : Addr} {c : Nat} {l : List Ent} (h : Rd w (some ad) c l) : ∀ k u, (flatE l)[k]? = some u → w.cell? (ad.add k) = some u := by
  intro k u hu
  obtain ⟨j, p, i, rfl, hp, hi⟩ := flatE_get l k u hu
  obtain ⟨⟨h1, h2, h3⟩, _, _⟩ := h
  have hj : j < l.length := (List.getElem?_eq_some_iff.1 hp).1
  obtain ⟨ad', e, hc⟩ := h3 (by omega)
  cases e
  obtain ⟨cs, g1, g2, g3⟩ := hc j p hp
  obtain rfl := k28_open g2
  exact g3 i u hi
theorem own_block {w : World} {b : Nat} {v : Value} {l : List Ent} (h : OwnE w b v l) {k : Nat} (hk : v.ownBlock = some k) : b ≤ k ∧ k < w.heap.size ∧ ∃ o, w.heap[k]? = some o ∧ o.isCells = true := by
  rcases h.2 with ⟨rfl, _⟩ | ⟨g, cap, cur, rfl, hb, hg, _⟩
  · simp [Value.ownBlock] at hk
  · obtain rfl : g = k := by simpa [Value.ownBlock] using hk
    exact ⟨hb, (Array.getElem?_eq_some_iff.1 hg).1, _, hg, rfl⟩
/-- the law of the append -/
theorem run_append_ent {w : World} {b : Nat} {v : Value} {l m : List Ent} {A : Option Addr} {c : Nat} (ty : TypeId) (hown : OwnE w b v l) (hr : Rd w A c m) (hl : l.length + m.length ≤ 4398046511104) (hb : b ≤ w.heap.size) :
    ∃ v' w', (Builtin.append_ #[22, 22] ty #[v, .slice A m.length c]).run Try.prog w = .ok v' w' ∧ OwnE w' b v' (l ++ m) ∧ w.grownBy w' v.ownBlock ∧ (v'.ownBlock = v.ownBlock ∨ v'.ownBlock = some w.heap.size) := by
  obtain ⟨i0, hi, hz0, hz1, hz2⟩ := info_parts info_ent
  rcases A with _ | ad
  · have hm : m = [] := by
      rcases m with _ | ⟨x, m⟩
      · rfl
      · obtain ⟨⟨h1, h2, h3⟩, _, _⟩ := hr
        obtain ⟨ad, e, _⟩ := h3 (by simp)
        cases e
    subst hm
    refine ⟨v, w, ?_, by simpa using hown, World.grownBy.refl w _, .inl rfl⟩
    rcases hown.2 with ⟨rfl, hh⟩ | ⟨g, cap, cur, rfl, _, _, hnc, _⟩
    · simp [Builtin.append_, run_underlying Try.underlying22, sizeOf, typeInfo, hi, Builtin.lenOf, Builtin.firstCells]
    · simp [Builtin.append_, run_underlying Try.underlying22, sizeOf, typeInfo, hi, Builtin.lenOf, Builtin.firstCells, hnc, storeCells]
  · obtain ⟨v', w', hrun, h2, h3, _, h5⟩ := run_append_own_at (P := Try.prog) w b 22 ty 28 i0 (.agg #[.int .i64 0, .int .i64 0, .string ⟨#[]⟩]) 3 32 Try.underlying22 hi hz0 hz1 hz2 rfl (by decide) v l.length (flatE l) hown ad m.length c (flatE m) (flatE_len m) hr.cells (flatE_one m) (by unfold maxLen; omega) (by omega) hb
    exact ⟨v', w', hrun, by unfold OwnE; rw [flatE_app, List.length_append]; exact h2, h3, h5⟩
theorem OwnE.nil (w : World) (b : Nat) : OwnE w b (.slice none 0 0) [] := World.ownsRow_nil _ _ _ _
section
variable {F : Fence} {n : Nat} {w : World} {ops : Array Oper} {rest : List Oper} {o : Oper} {a : Act} {Q : Exit → Act → World → Prop} {b : Nat} {v : Value} {l m : List Ent} {A : Option Addr} {c : Nat}
/-- in a plain region, in a fence -/
theorem wpListIn_append_ent (hg : o.guard = none) (s x : Operand) (hop : o.op = Op.call { callee := Callee.builtin Builtin.append, args := #[s, x], argTypes := #[22, 22] })
    (hs : a.eval s = v) (hown : OwnE w b v l) (hx : a.eval x = .slice A m.length c) (hr : Rd w A c m) (hl : l.length + m.length ≤ 4398046511104) (hb : b ≤ w.heap.size)
    (hK : ∀ v' w', OwnE w' b v' (l ++ m) → w.grownBy w' v.ownBlock → (v'.ownBlock = v.ownBlock ∨ v'.ownBlock = some w.heap.size) → wpListIn F n Try.prog ops Q rest (a.put o.dst v') w') :
    wpListIn F n Try.prog ops Q (o :: rest) a w := by
  refine wpListIn_plain hg fun K hK' => ?_
  obtain ⟨v', w', hrun, r1, r2, r3⟩ := run_append_ent o.type hown hr hl hb
  unfold Oper.wpIn
  refine ⟨?_, ?_⟩
  · simp [Oper.about, hop, resolve, Target.leads, Sem.run_pure]
  · rw [Oper.semAt_plain F _ _ (by rw [hop]; intro c hc'; cases hc')]
    simp [execOp, hop, resolve, invoke, builtin, hs, hx, hrun, Result.andThen]
    exact hK' _ _ (hK v' w' r1 r2 r3)
theorem wp_append_ent {K : Act → World → Prop} (s x : Operand) (hop : o.op = Op.call { callee := Callee.builtin Builtin.append, args := #[s, x], argTypes := #[22, 22] })
    (hs : a.eval s = v) (hown : OwnE w b v l) (hx : a.eval x = .slice A m.length c) (hr : Rd w A c m) (hl : l.length + m.length ≤ 4398046511104) (hb : b ≤ w.heap.size)
    (hK : ∀ v' w', OwnE w' b v' (l ++ m) → w.grownBy w' v.ownBlock → (v'.ownBlock = v.ownBlock ∨ v'.ownBlock = some w.heap.size) → K (a.put o.dst v') w') : o.wp Try.prog a w K Q := by
  obtain ⟨v', w', hrun, r1, r2, r3⟩ := run_append_ent o.type hown hr hl hb
  unfold Oper.wp execOp
  simp only [hop, resolve, invoke, builtin, Sem.run_bind, Sem.run_pure, Result.andThen_ok, List.map_toArray, List.map_cons, List.map_nil, hs, hx, hrun]
  exact hK v' w' r1 r2 r3
theorem wpList_append_ent (hg : o.guard = none) (s x : Operand) (hop : o.op = Op.call { callee := Callee.builtin Builtin.append, args := #[s, x], argTypes := #[22, 22] })
    (hs : a.eval s = v) (hown : OwnE w b v l) (hx : a.eval x = .slice A m.length c) (hr : Rd w A c m) (hl : l.length + m.length ≤ 4398046511104) (hb : b ≤ w.heap.size)
    (hK : ∀ v' w', OwnE w' b v' (l ++ m) → w.grownBy w' v.ownBlock → (v'.ownBlock = v.ownBlock ∨ v'.ownBlock = some w.heap.size) → wpList Try.prog ops Q rest (a.put o.dst v') w') :
    wpList Try.prog ops Q (o :: rest) a w := by
  refine wpList_plain hg fun K hK' => ?_
  obtain ⟨v', w', hrun, r1, r2, r3⟩ := run_append_ent o.type hown hr hl hb
  unfold Oper.wp execOp
  simp only [hop, resolve, invoke, builtin, Sem.run_bind, Sem.run_pure, Result.andThen_ok, List.map_toArray, List.map_cons, List.map_nil, hs, hx, hrun]
  exact hK' _ _ (hK v' w' r1 r2 r3)
end
/-- what a slice reads as, behind an append onto another one -/
theorem Rd.grown {w w' : World} {A : Option Addr} {c : Nat} {l : List Ent} {row : Option Nat} (h : Rd w A c l) (hg : w.grownBy w' row) (hr : ∀ k, row = some k → ¬ inA A l k) : Rd w' A c l :=
  h.of_block fun q hq => hg.block q (h.lt hq) (fun e => hr q e.symm hq)
theorem only_grown {U : Nat → Prop} {w w' : World} {row : Option Nat} (hg : w.grownBy w' row) (hr : ∀ k, row = some k → U k) : Only U w w' :=
  (Only.refl U w).of_grown hg fun k hk _ => hr k hk
theorem Rd.isCells {w : World} {A : Option Addr} {c : Nat} {l : List Ent} (h : Rd w A c l) {k : Nat} (hk : inA A l k) : ∃ o, w.heap[k]? = some o ∧ o.isCells = true := by
  obtain ⟨hn, ad, rfl, rfl⟩ := hk
  obtain ⟨ad', e, h0, _, _⟩ := h.at_ hn
  cases e
  have hlt := World.block_lt_of_cell? _ _ h0
  rw [add_block] at hlt
  refine ⟨_, Array.getElem?_eq_getElem hlt, ?_⟩
  have hb : (ad.add (0 * 3)).block = ad.block := add_block _ _
  cases ho : w.heap[ad.block] with
  | cells cs t m => rfl
  | _ =>
    exfalso
    have h2 : w.heap[ad.block]? = some _ := (Array.getElem?_eq_getElem hlt).trans (congrArg some ho)
    simp [World.cell?, add_block, h2] at h0
/-- one entry in a block of its own -/
theorem Rd.one (w : World) (x : Ent) : Rd (w.alloc (.cells #[.int .i64 x.f0, .int .i64 x.f1, .string x.f2] 28)) (some ⟨w.heap.size, 0, none⟩) 1 [x] := by
  refine ⟨⟨rfl, by simp, fun _ => ⟨_, rfl, fun j p hj => ?_⟩⟩, Nat.le_refl _, by simp⟩
  rcases j with _ | j
  · obtain rfl : x = p := by simpa using hj
    refine ⟨cellsE x, rfl, k28_mk _ x, fun i u hu => ?_⟩
    rw [Nat.zero_mul, Nat.zero_add]
    exact PartW.cellsE_new x w i u hu
  · simp at hj
theorem OwnE.below {w w' : World} {b : Nat} {v : Value} {l : List Ent} (h : OwnE w b v l) (hb : Below w.heap.size w w') : OwnE w' b v l := by
  obtain ⟨h1, h2⟩ := h
  refine ⟨h1, ?_⟩
  rcases h2 with h2 | ⟨g, cap, cur, hv, hg, hh, rest⟩
  · exact .inl h2
  · exact .inr ⟨g, cap, cur, hv, hg, (hb.block g (Array.getElem?_eq_some_iff.1 hh).1).trans hh, rest⟩
theorem OwnE.alloc {w : World} {b : Nat} {v : Value} {l : List Ent} (h : OwnE w b v l) (o : Obj) : OwnE (w.alloc o) b v l := h.below (Below.alloc (Below.refl _ _) (Nat.le_refl _) o)
/-- behind the leaving of a function that has ranged over functions -/
theorem Rd.marks {w w' : World} {A : Option Addr} {c n₀ : Nat} {l : List Ent} (h : Rd w A c l) (ho : Only (fun k => n₀ ≤ k ∧ ∃ o, w.heap[k]? = some o ∧ o.isCells = false) w w') : Rd w' A c l :=
  h.only ho fun k hk h2 => by
    obtain ⟨_, o, ho, hc⟩ := h2
    obtain ⟨o', ho', hc'⟩ := h.isCells hk
    rw [ho] at ho'
    cases ho'
    rw [hc] at hc'
    cases hc'
end Go.Proofs.Ytokjhocjemjfiaa.Sp
namespace Go.Proofs.Ytokjhocjemjfiaa.PartW
open Go Go.RowKit Go.Shelf Go.Proofs.Ytokjhocjemjfiaa.A Go.Proofs.Ytokjhocjemjfiaa.Sp Go.Proofs.Ytokjhocjemjfiaa.Reg Go.Proofs.Ytokjhocjemjfiaa.Seq Go.Proofs.YtokjhocjemjfiaaW.PrintWords Go.Proofs.YtokjhocjemjfiaaW.PrintLast Go.Proofs.YtokjhocjemjfiaaW.PrintMore
theorem _root_.Go.Proofs.Ytokjhocjemjfiaa.Sp.OwnE.rd' {w : World} {b : Nat} {v : Value} {l : List Ent} (h : OwnE w b v l) (hl : l.length ≤ 4398046511104) : ∃ A c, v = .slice A l.length c ∧ Rd w A c l ∧ ∀ k, inA A l k → b ≤ k := by
  obtain ⟨A, c, rfl, h2⟩ := h.rd hl
  refine ⟨A, c, rfl, h2, fun k hk => ?_⟩
  obtain ⟨hn, ad, rfl, rfl⟩ := hk
  obtain ⟨_, h3⟩ := h
  rcases h3 with ⟨h3, h4⟩ | ⟨g, cap, cur, hv, hb, _⟩
  · omega
  · cases hv; exact hb
def BlkP (p : Prt) (A : Option Addr) (c : Nat) (B : Nat) (W : World) : Prop := W.heap[B]? = some (.cells #[.int .i64 p.g, .int .i64 p.k, .slice A p.l.length c, .int .i64 p.ht, .int .i64 p.hv, .int .i64 p.hc, .int .i64 p.ix, .int .i64 p.tm, .bool p.mrk, .bool p.hed] 26 (0, 0))
theorem BlkP.below {p : Prt} {A : Option Addr} {c B : Nat} {W W' : World} (h : BlkP p A c B W) (hb : Below W.heap.size W W') : BlkP p A c B W' := (hb.block _ (Array.getElem?_eq_some_iff.1 h).1).trans h
theorem BlkP.alloc {p : Prt} {A : Option Addr} {c B : Nat} {W : World} (h : BlkP p A c B W) (o : Obj) : BlkP p A c B (W.alloc o) := (Below.heap_alloc _ _ _ (Array.getElem?_eq_some_iff.1 h).1).trans h
theorem BlkP.new (p : Prt) (A : Option Addr) (c : Nat) (w : World) : BlkP p A c w.heap.size (w.alloc (.cells #[.int .i64 p.g, .int .i64 p.k, .slice A p.l.length c, .int .i64 p.ht, .int .i64 p.hv, .int .i64 p.hc, .int .i64 p.ix, .int .i64 p.tm, .bool p.mrk, .bool p.hed] 26)) := by
  unfold BlkP; exact World.alloc_heap_new w _
theorem BlkP.only {U : Nat → Prop} {p : Prt} {A : Option Addr} {c B : Nat} {W W' : World} (h : BlkP p A c B W) (ho : Only U W W') (hU : ¬ U B) : BlkP p A c B W' := (ho.block B (Array.getElem?_eq_some_iff.1 h).1 hU).trans h
theorem BlkP.box {p : Prt} {A : Option Addr} {c B : Nat} {W : World} (h : BlkP p A c B W) : W.cell? ⟨B, 0, none⟩ = some (.int .i64 p.g) ∧ W.cell? ⟨B, 1, none⟩ = some (.int .i64 p.k) ∧ W.cell? ⟨B, 2, none⟩ = some (.slice A p.l.length c) ∧ W.cell? ⟨B, 3, none⟩ = some (.int .i64 p.ht) ∧ W.cell? ⟨B, 4, none⟩ = some (.int .i64 p.hv) ∧ W.cell? ⟨B, 5, none⟩ = some (.int .i64 p.hc) ∧ W.cell? ⟨B, 6, none⟩ = some (.int .i64 p.ix) ∧ W.cell? ⟨B, 7, none⟩ = some (.int .i64 p.tm) ∧ W.cell? ⟨B, 8, none⟩ = some (.bool p.mrk) ∧ W.cell? ⟨B, 9, none⟩ = some (.bool p.hed) := by
  unfold BlkP at h
  refine ⟨?_, ?_, ?_, ?_, ?_, ?_, ?_, ?_, ?_, ?_⟩ <;> simp [World.cell?, h]
theorem no_str {W : World} {b : Nat} {cs : Array Value} {t : TypeId} {m : Nat × Nat} (hb : W.heap[b]? = some (.cells cs t m)) (hns : ∀ u ∈ cs.toList, ∀ s, u ≠ .string s) (o : Nat) (s : ByteArray) : W.cell? ⟨b, o, none⟩ ≠ some (.string s) := by
  intro h
  simp only [World.cell?, hb, Option.isSome_none, Bool.false_eq_true, if_false] at h
  rw [← Array.getElem?_toList] at h
  exact hns _ (List.mem_of_getElem? h) s rfl
theorem Rd.apart {W : World} {A : Option Addr} {c : Nat} {l : List Ent} (h : Rd W A c l) {b : Nat} {cs : Array Value} {t : TypeId} {m : Nat × Nat} (hb : W.heap[b]? = some (.cells cs t m)) (hns : ∀ u ∈ cs.toList, ∀ s, u ≠ .string s) : ¬ inA A l b := by
  rintro ⟨hn, ad, rfl, rfl⟩
  obtain ⟨ad', e, _, _, h2⟩ := h.at_ hn
  cases e
  rw [Sp.add_block] at h2
  exact no_str hb hns _ _ h2
theorem Rd.apartP {W : World} {A A' : Option Addr} {c c' B : Nat} {l : List Ent} {p : Prt} (h : Rd W A c l) (hb : BlkP p A' c' B W) : ¬ inA A l B :=
  Rd.apart h hb (by intro u hu s; simp at hu; rcases hu with rfl | rfl | rfl | rfl | rfl | rfl | rfl | rfl | rfl | rfl <;> simp)
theorem BlkP.drew {p : Prt} {A : Option Addr} {c B : Nat} {W : World} (h : BlkP p A c B W) : BlkP p A c B W.drew := h.below (below_drew (Below.refl _ _))
theorem lbP {p : Prt} {A : Option Addr} {c B : Nat} {w w' : World} (h : Aside0 (BlkP p A c B w)) (hb : Below w.heap.size w w') : Aside0 (BlkP p A c B w') := ⟨h.out.below hb⟩
theorem laP {p : Prt} {A : Option Addr} {c B : Nat} {w : World} (h : Aside0 (BlkP p A c B w)) (o : Obj) : Aside0 (BlkP p A c B (w.alloc o)) := ⟨h.out.alloc o⟩
theorem ldP {p : Prt} {A : Option Addr} {c B : Nat} {w : World} (h : Aside0 (BlkP p A c B w)) : Aside0 (BlkP p A c B w.drew) := ⟨h.out.drew⟩
theorem BlkP.lt' {p : Prt} {A : Option Addr} {c B : Nat} {W : World} (h : BlkP p A c B W) : B < W.heap.size := (Array.getElem?_eq_some_iff.1 h).1
theorem BlkP.free' {p : Prt} {A : Option Addr} {c B : Nat} {W : World} (h : BlkP p A c B W) (o : Nat) : W.frozen? ⟨B, o, none⟩ = false := by
  unfold BlkP at h
  simp [World.frozen?, h]
theorem BlkP.setL' {p : Prt} {A : Option Addr} {c B : Nat} {W : World} (h : BlkP p A c B W) (l : List Ent) (A' : Option Addr) (c' : Nat) : BlkP ⟨p.g, p.k, l, p.ht, p.hv, p.hc, p.ix, p.tm, p.mrk, p.hed⟩ A' c' B (W.setCell ⟨B, 2, none⟩ (.slice A' l.length c')) := by
  unfold BlkP at h ⊢
  simp [World.setCell, Array.getElem?_modify, h]
end Go.Proofs.Ytokjhocjemjfiaa.PartW
