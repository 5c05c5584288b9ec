/- The statement PartRows: the walk; no condition beyond the row's. -/
import Derived.Test.YtokjhocjemjfiaaLw4
import Derived.Test.YtokjhocjemjfiaaOpen4P
set_option linter.unusedVariables false
set_option linter.unusedSimpArgs false
namespace Go.Proofs.Ytokjhocjemjfiaa.PartW
open Go Go.RowKit Go.Shelf Go.Proofs.Ytokjhocjemjfiaa.A Go.Proofs.Ytokjhocjemjfiaa.Sp Go.Proofs.Ytokjhocjemjfiaa.Reg Go.Proofs.Ytokjhocjemjfiaa.Seq Go.Proofs.Ytokjhocjemjfiaa.CodeW Go.Proofs.Ytokjhocjemjfiaa.CodeQ Go.Proofs.Ytokjhocjemjfiaa.Given Go.Proofs.YtokjhocjemjfiaaW.PrintWords Go.Proofs.YtokjhocjemjfiaaW.PrintLast Go.Proofs.YtokjhocjemjfiaaW.PrintMore
theorem bytesP_sz {p : Prt} (h : isP p = true) : 2 ≤ (bytesP p).size ∧ (bytesP p).size ≤ 1000 := by
  have hi := isP_all h
  have hL := congrArg List.length (bytes_L hi)
  rw [CodeM.ba_len, List.length_append, List.length_append] at hL
  have a1 := CodeM.putB_pos p.g.toNat
  have a2 := CodeM.putB_pos p.k.toNat
  refine ⟨by omega, ?_⟩
  obtain ⟨hg, hk, hr, hl, he, hp⟩ := isP_rng h
  have zg := putS_le (n := p.g) (by omega)
  have zk := putS_le (n := p.k) (by omega)
  have r3 := putS_le (hr 3)
  have r4 := putS_le (hr 4)
  have r5 := putS_le (hr 5)
  have r6 := putS_le (hr 6)
  have r7 := putS_le (hr 7)
  simp only [getA] at r3 r4 r5 r6 r7
  have zl := putS_leN (n := p.l.length) (by omega)
  have zf := putS_leN (n := flagN p) (by unfold flagN; cases p.mrk <;> cases p.hed <;> decide)
  have hent : ∀ (six : Bool) (l : List Ent) (s : ByteArray), (∀ e ∈ l, isE e = true) → (entsB six l s).size ≤ s.size + 67 * l.length := by
    intro six l
    induction l with
    | nil => intro s _; exact Nat.le_refl _
    | cons e l ih =>
      intro s h
      have he := isE_rng' (h e (by simp))
      have a0 := putS_le he.1
      have a1 := putS_le he.2.1
      have a2 := putS_leN (n := e.f2.size) (by omega)
      have := ih (entB six e s) (fun x hx => h x (by simp [hx]))
      show (entsB six l (entB six e s)).size ≤ _
      have hb : (entB six e s).size ≤ s.size + 67 := by unfold entB; cases six <;> simp only [Bool.false_eq_true, if_false, if_true, CodeM.app_size] <;> omega
      simp only [List.length_cons]
      omega
  have h1 := hent (p.k == 6) p.l (lenB p (midB p (flagB p (headB p)))) (ent_mem hi)
  have zh : (headB p).size ≤ 18 := by unfold headB; rw [CodeM.app_size]; omega
  have zfl : (flagB p (headB p)).size ≤ 27 := by unfold flagB; split <;> (try simp only [CodeM.app_size]) <;> omega
  have zm : (midB p (flagB p (headB p))).size ≤ 72 := by
    unfold midB
    cases atK p.k p.mrk <;> cases hdK p.k p.hed <;> simp [numA, numsB, getA, CodeM.app_size] <;> omega
  have zle : (lenB p (midB p (flagB p (headB p)))).size ≤ 90 := by
    unfold lenB
    split
    · next h1 =>
      have := putS_le (isE_rng' (he 0 (hp h1))).1
      simp only [CodeM.app_size]; omega
    · split <;> (try simp only [CodeM.app_size]) <;> omega
  unfold bytesP
  omega
end Go.Proofs.Ytokjhocjemjfiaa.PartW
namespace Go.Proofs.Ytokjhocjemjfiaa.Sp
open Go Go.RowKit Go.Proofs.Ytokjhocjemjfiaa.A Go.Proofs.Ytokjhocjemjfiaa.PartW Go.Proofs.Ytokjhocjemjfiaa.Reg Go.Proofs.Ytokjhocjemjfiaa.Seq Go.Proofs.Ytokjhocjemjfiaa.CodeW Go.Proofs.Ytokjhocjemjfiaa.CodeQ Go.Proofs.Ytokjhocjemjfiaa.Given Go.Proofs.YtokjhocjemjfiaaW.PrintWords Go.Proofs.YtokjhocjemjfiaaW.PrintLast Go.Proofs.YtokjhocjemjfiaaW.PrintMore
def elP (l : List Prt) (i : Nat) : Prt := l.getD i ⟨0, 0, [], 0, 0, 0, 0, 0, false, false⟩
theorem elP_get {l : List Prt} {i : Nat} (h : i < l.length) : l[i]? = some (elP l i) := by
  unfold elP
  rw [List.getD_eq_getElem?_getD, List.getElem?_eq_getElem h]; rfl
theorem elP_mem {l : List Prt} {i : Nat} (h : i < l.length) : elP l i ∈ l := List.mem_of_getElem? (elP_get h)
/-- a part's cells at a place -/
def CelP (p : Prt) (A : Option Addr) (c : Nat) (b : Addr) (w : World) : Prop := w.cell? b = some (.int .i64 p.g) ∧ w.cell? ⟨b.block, b.off + 1, none⟩ = some (.int .i64 p.k) ∧ w.cell? ⟨b.block, b.off + 2, none⟩ = some (.slice A p.l.length c) ∧ w.cell? ⟨b.block, b.off + 3, none⟩ = some (.int .i64 p.ht) ∧ w.cell? ⟨b.block, b.off + 4, none⟩ = some (.int .i64 p.hv) ∧ w.cell? ⟨b.block, b.off + 5, none⟩ = some (.int .i64 p.hc) ∧ w.cell? ⟨b.block, b.off + 6, none⟩ = some (.int .i64 p.ix) ∧ w.cell? ⟨b.block, b.off + 7, none⟩ = some (.int .i64 p.tm) ∧ w.cell? ⟨b.block, b.off + 8, none⟩ = some (.bool p.mrk) ∧ w.cell? ⟨b.block, b.off + 9, none⟩ = some (.bool p.hed)
theorem CelP.below {p : Prt} {A : Option Addr} {c : Nat} {b : Addr} {w w' : World} (h : CelP p A c b w) (hb : Below w.heap.size w w') : CelP p A c b w' := by
  obtain ⟨h0, h1, h2, h3, h4, h5, h6, h7, h8, h9⟩ := h
  have k : ∀ {a : Addr} {v : Value}, w.cell? a = some v → w'.cell? a = some v := fun h => (hb.cell (World.block_lt_of_cell? _ _ h)).trans h
  exact ⟨k h0, k h1, k h2, k h3, k h4, k h5, k h6, k h7, k h8, k h9⟩
theorem PAt.cel {w : World} {b : Addr} {p : Prt} (h : PAt w b p) : ∃ A c, CelP p A c b w ∧ Rd w A c p.l := by
  obtain ⟨A, c, h1, h2⟩ := h
  exact ⟨A, c, ⟨h1 0 _ rfl, h1 1 _ rfl, h1 2 _ rfl, h1 3 _ rfl, h1 4 _ rfl, h1 5 _ rfl, h1 6 _ rfl, h1 7 _ rfl, h1 8 _ rfl, h1 9 _ rfl⟩, h2⟩
theorem RdP.one {w : World} {A : Option Addr} {c : Nat} {l : List Prt} (h : RdP w A c l) {i : Nat} (hi : i < l.length) : ∃ a A1 c1, A = some a ∧ CelP (elP l i) A1 c1 (a.add (i * 10)) w ∧ Rd w A1 c1 (elP l i).l := by
  obtain ⟨a, e, h2⟩ := h.at_ i _ (elP_get hi)
  obtain ⟨A1, c1, h3, h4⟩ := h2.cel
  exact ⟨a, A1, c1, e, h3, h4⟩
end Go.Proofs.Ytokjhocjemjfiaa.Sp
namespace Go.Proofs.Ytokjhocjemjfiaa.PartW
open Go Go.RowKit Go.Shelf Go.Proofs.Ytokjhocjemjfiaa.A Go.Proofs.Ytokjhocjemjfiaa.Sp Go.Proofs.Ytokjhocjemjfiaa.Reg Go.Proofs.Ytokjhocjemjfiaa.Seq Go.Proofs.Ytokjhocjemjfiaa.CodeW Go.Proofs.Ytokjhocjemjfiaa.CodeQ Go.Proofs.Ytokjhocjemjfiaa.Given Go.Proofs.YtokjhocjemjfiaaW.PrintWords Go.Proofs.YtokjhocjemjfiaaW.PrintLast Go.Proofs.YtokjhocjemjfiaaW.PrintMore
/-- a part with where its entries lie -/
structure PA where
  p : Prt
  A : Option Addr
  c : Nat
def cellsP (x : PA) : List Value := prtC x.p x.A x.c
def flatP : List PA → List Value
  | [] => []
  | x :: l => cellsP x ++ flatP l
theorem flatP_len : ∀ l : List PA, (flatP l).length = l.length * 10
  | [] => rfl
  | x :: l => by show (cellsP x ++ flatP l).length = _; rw [List.length_append, flatP_len l]; show 10 + _ = (l.length + 1) * 10; omega
theorem flatP_app : ∀ a b : List PA, flatP (a ++ b) = flatP a ++ flatP b
  | [], b => rfl
  | x :: a, b => by show cellsP x ++ flatP (a ++ b) = (cellsP x ++ flatP a) ++ flatP b; rw [flatP_app a b, List.append_assoc]
theorem flatP_at : ∀ (l : List PA) (j : Nat) (x : PA) (i : Nat) (u : Value), l[j]? = some x → (cellsP x)[i]? = some u → (flatP l)[j * 10 + i]? = some u
  | [], j, x, i, u, h, _ => by simp at h
  | y :: l, 0, x, i, u, h, hu => by
    obtain rfl : y = x := by simpa using h
    have hi : i < (cellsP y).length := (List.getElem?_eq_some_iff.1 hu).1
    show (cellsP y ++ flatP l)[0 * 10 + i]? = _
    rw [Nat.zero_mul, Nat.zero_add, List.getElem?_append_left hi]; exact hu
  | y :: l, j + 1, x, i, u, h, hu => by
    show (cellsP y ++ flatP l)[(j + 1) * 10 + i]? = _
    have hl : (cellsP y).length = 10 := rfl
    rw [List.getElem?_append_right (by rw [hl]; omega), hl, show (j + 1) * 10 + i - 10 = j * 10 + i by omega]
    exact flatP_at l j x i u (by simpa using h) hu
theorem cellsP_one (x : PA) : ∀ u ∈ cellsP x, u.oneCell' = true := by
  intro u hu
  simp [cellsP, prtC] at hu
  rcases hu with rfl | rfl | rfl | rfl | rfl | rfl | rfl | rfl | rfl | rfl <;> rfl
theorem info_prt : (Try.prog.info? 26).map (fun i => (i.zero, i.size, i.bytes)) = some (some (.agg #[.int .i64 0, .int .i64 0, .slice none 0 0, .int .i64 0, .int .i64 0, .int .i64 0, .int .i64 0, .int .i64 0, .bool false, .bool false]), 10, 88) := by kernel_rfl
/-- a slice of the call's own that holds parts -/
def OwnP (w : World) (b : Nat) (v : Value) (l : List PA) : Prop := w.ownsRow b 26 10 v l.length (flatP l)
theorem OwnP.nil (w : World) (b : Nat) : OwnP w b (.slice none 0 0) [] := World.ownsRow_nil _ _ _ _
theorem OwnP.only' {U : Nat → Prop} {w w' : World} {b : Nat} {v : Value} {l : List PA} (h : OwnP w b v l) (ho : Only U w w') (hU : ∀ k, b ≤ k → k < w.heap.size → ¬ U k) : OwnP w' b v l := by
  obtain ⟨h1, h2⟩ := h
  refine ⟨h1, ?_⟩
  rcases h2 with h2 | ⟨g, cap, cur, rfl, hb, hg, r⟩
  · exact .inl h2
  · have hlt := (Array.getElem?_eq_some_iff.1 hg).1
    exact .inr ⟨g, cap, cur, rfl, hb, (ho.block g hlt (hU g hb hlt)).trans hg, r⟩
theorem OwnP.below {w w' : World} {b : Nat} {v : Value} {l : List PA} (h : OwnP w b v l) (hb : Below w.heap.size w w') : OwnP w' b v l := h.only' (U := fun _ => False) ⟨hb.os, hb.tape, hb.output, hb.size, fun k hk _ => hb.block k hk⟩ (fun _ _ _ h => h)
theorem OwnP.alloc {w : World} {b : Nat} {v : Value} {l : List PA} (h : OwnP w b v l) (o : Obj) : OwnP (w.alloc o) b v l := h.below ((Below.refl _ _).alloc (Nat.le_refl _) o)
theorem OwnP.block {w : World} {b : Nat} {v : Value} {l : List PA} (h : OwnP w b v l) {k : Nat} (hk : v.ownBlock = some k) : b ≤ k := by
  rcases h.2 with ⟨rfl, _⟩ | ⟨g, cap, cur, rfl, hb, hg, _⟩
  · simp [Value.ownBlock] at hk
  · obtain rfl : g = k := by simpa [Value.ownBlock] using hk
    exact hb
theorem OwnP.shape {w : World} {b : Nat} {v : Value} {l : List PA} (h : OwnP w b v l) : ∃ A c, v = .slice A l.length c ∧ ∀ i x, l[i]? = some x → ∃ ad, A = some ad ∧ CelP x.p x.A x.c (ad.add (i * 10)) w := by
  rcases h.2 with ⟨rfl, h0⟩ | ⟨g, cap, cur, rfl, _⟩
  · refine ⟨none, 0, by rw [h0], fun i x hx => ?_⟩
    have := (List.getElem?_eq_some_iff.1 hx).1
    omega
  · refine ⟨_, cap, rfl, fun i x hx => ⟨_, rfl, ?_⟩⟩
    have key : ∀ j u, (cellsP x)[j]? = some u → w.cell? ⟨g, i * 10 + j, none⟩ = some u := fun j u hu => by
      have hc := h.cells (g := g) rfl (i * 10 + j) u (flatP_at l i x j u hx hu)
      rwa [add_plain] at hc
    have hb : (⟨g, 0, none⟩ : Addr).add (i * 10) = ⟨g, i * 10, none⟩ := by rw [add_plain]
    rw [hb]
    exact ⟨key 0 _ rfl, key 1 _ rfl, key 2 _ rfl, key 3 _ rfl, key 4 _ rfl, key 5 _ rfl, key 6 _ rfl, key 7 _ rfl, key 8 _ rfl, key 9 _ rfl⟩
theorem run_append_prt {w : World} {b : Nat} {v : Value} {l : List PA} {x : PA} {n : Nat} (ty : TypeId) (hown : OwnP w b v l) (hx : ∀ k u, (cellsP x)[k]? = some u → w.cell? ((⟨n, 0, none⟩ : Addr).add k) = some u) (hl : l.length ≤ 1000) (hb : b ≤ w.heap.size) :
    ∃ v' w', (Builtin.append_ #[45, 45] ty #[v, .slice (some ⟨n, 0, none⟩) 1 1]).run Try.prog w = .ok v' w' ∧ OwnP w' b v' (l ++ [x]) ∧ w.grownBy w' v.ownBlock ∧ (v'.ownBlock = v.ownBlock ∨ v'.ownBlock = some w.heap.size) := by
  obtain ⟨i0, hi, hz0, hz1, hz2⟩ := info_parts info_prt
  obtain ⟨v', w', hrun, h2, h3, _, h5⟩ := run_append_own_at (P := Try.prog) w b 45 ty 26 i0 (.agg #[.int .i64 0, .int .i64 0, .slice none 0 0, .int .i64 0, .int .i64 0, .int .i64 0, .int .i64 0, .int .i64 0, .bool false, .bool false]) 10 88 Try.underlying45 hi hz0 hz1 hz2 rfl (by decide) v l.length (flatP l) hown ⟨n, 0, none⟩ 1 1 (flatP [x]) (flatP_len [x]) (by show ∀ k u, (cellsP x ++ [])[k]? = some u → _; rw [List.append_nil]; exact hx) (by show ∀ u ∈ cellsP x ++ [], _; rw [List.append_nil]; exact cellsP_one x) (by unfold maxLen; omega) (by omega) hb
  exact ⟨v', w', hrun, by unfold OwnP; rw [flatP_app, List.length_append]; exact h2, h3, h5⟩
section
variable {w : World} {ops : Array Oper} {rest : List Oper} {o : Oper} {a : Act} {Q : Exit → Act → World → Prop} {b n : Nat} {v : Value} {l : List PA} {x : PA}
theorem wpList_append_prt (hg : o.guard = none) (s y : Operand) (hop : o.op = Op.call { callee := Callee.builtin Builtin.append, args := #[s, y], argTypes := #[45, 45] })
    (hs : a.eval s = v) (hown : OwnP w b v l) (hy : a.eval y = .slice (some ⟨n, 0, none⟩) 1 1) (hx : ∀ k u, (cellsP x)[k]? = some u → w.cell? ((⟨n, 0, none⟩ : Addr).add k) = some u) (hl : l.length ≤ 1000) (hb : b ≤ w.heap.size)
    (hK : ∀ v' w', OwnP w' b v' (l ++ [x]) → w.grownBy w' v.ownBlock → (v'.ownBlock = v.ownBlock ∨ v'.ownBlock = some w.heap.size) → wpList Try.prog ops Q rest (a.put o.dst v') w') :
    wpList Try.prog ops Q (o :: rest) a w := by
  refine wpList_plain hg fun K hK' => ?_
  obtain ⟨v', w', hrun, r1, r2, r3⟩ := run_append_prt o.type hown hx hl hb
  unfold Oper.wp execOp
  simp only [hop, resolve, invoke, builtin, Sem.run_bind, Sem.run_pure, Result.andThen_ok, List.map_toArray, List.map_cons, List.map_nil, hs, hy, hrun]
  exact hK' _ _ (hK v' w' r1 r2 r3)
end
theorem cellsP_new (x : PA) (W : World) : ∀ k u, (cellsP x)[k]? = some u → (W.alloc (.cells #[.int .i64 x.p.g, .int .i64 x.p.k, .slice x.A x.p.l.length x.c, .int .i64 x.p.ht, .int .i64 x.p.hv, .int .i64 x.p.hc, .int .i64 x.p.ix, .int .i64 x.p.tm, .bool x.p.mrk, .bool x.p.hed] 26)).cell? ((⟨W.heap.size, 0, none⟩ : Addr).add k) = some u := by
  intro k u hu
  rw [add_plain]
  have hh := World.alloc_heap_new W (.cells #[.int .i64 x.p.g, .int .i64 x.p.k, .slice x.A x.p.l.length x.c, .int .i64 x.p.ht, .int .i64 x.p.hv, .int .i64 x.p.hc, .int .i64 x.p.ix, .int .i64 x.p.tm, .bool x.p.mrk, .bool x.p.hed] 26)
  simp only [World.cell?, hh, Option.isSome_none, Bool.false_eq_true, if_false]
  rw [← hu]; simp [cellsP, prtC]
/-- parts' bytes, one behind the other -/
def catP : List PA → ByteArray
  | [] => ⟨#[]⟩
  | x :: l => bytesP x.p ++ catP l
theorem catP_app : ∀ (a b : List PA), catP (a ++ b) = catP a ++ catP b
  | [], b => (CodeM.ba_ext (by rw [CodeM.app_data]; rfl) : catP b = (⟨#[]⟩ : ByteArray) ++ catP b)
  | x :: a, b => CodeM.ba_ext (by show (bytesP x.p ++ catP (a ++ b)).data.toList = ((bytesP x.p ++ catP a) ++ catP b).data.toList; rw [catP_app a b]; simp only [CodeM.app_data, List.append_assoc])
theorem catP_one (x : PA) : catP [x] = bytesP x.p := CodeM.ba_ext (by show (bytesP x.p ++ ⟨#[]⟩).data.toList = _; rw [CodeM.app_data]; exact List.append_nil _)
theorem catP_size : ∀ l : List PA, (∀ x ∈ l, isP x.p = true) → (catP l).size ≤ 1000 * l.length
  | [], _ => Nat.le_refl _
  | x :: l, h => by
    have h1 := (bytesP_sz (h x (by simp))).2
    have h2 := catP_size l (fun y hy => h y (by simp [hy]))
    show (bytesP x.p ++ catP l).size ≤ _
    rw [CodeM.app_size, List.length_cons]; omega
theorem catP_cut (l : List PA) (k : Nat) : (catP l).extract (catP (l.take k)).size (catP l).size = catP (l.drop k) := CodeM.ba_ext (by
  have e : catP l = catP (l.take k) ++ catP (l.drop k) := by rw [← catP_app, List.take_append_drop]
  have e2 : (catP l).data.toList = (catP (l.take k)).data.toList ++ (catP (l.drop k)).data.toList := by rw [← CodeM.app_data, ← e]
  rw [ext_drop, e2, ← CodeM.ba_len, List.drop_left])
theorem catP_take {l : List PA} {k : Nat} {x : PA} (h : l[k]? = some x) : (catP (l.take (k + 1))).size = (catP (l.take k)).size + (bytesP x.p).size ∧ catP (l.drop k) = bytesP x.p ++ catP (l.drop (k + 1)) := by
  obtain ⟨hk, rfl⟩ := List.getElem?_eq_some_iff.1 h
  refine ⟨?_, by rw [List.drop_eq_getElem_cons hk]; rfl⟩
  rw [List.take_add_one, h, catP_app, CodeM.app_size]
  show _ + (catP [l[k]]).size = _
  rw [catP_one]
theorem catP_le (l : List PA) (k : Nat) : (catP (l.take k)).size ≤ (catP l).size := by
  have e : catP l = catP (l.take k) ++ catP (l.drop k) := by rw [← catP_app, List.take_append_drop]
  conv => rhs; rw [e]
  rw [CodeM.app_size]; omega
set_option maxHeartbeats 8000000 in
set_option maxRecDepth 100000 in
theorem rows4_far (l : List Prt) (A : Option Addr) (c : Nat) (w : World) (hl : RdP w A c l) (hf : 15 < l.length) :
  Calls Try.prog 7 #[.slice A l.length c] w fun e w' => e = .returned (.bool true) ∧ Below w.heap.size w w' := by
 have d1 : decide ((l.length : Int) > 15) = true := decide_eq_true (by omega)
 have d2 : decide (15 < (l.length : Int)) = true := d1
 have d3 : decide (15 < l.length) = true := decide_eq_true hf
 have HB := Aside0.mk (Bel.refl w)
 clear hl hf
 go_enter Try.func7, Try.ntmps7
 go_wp2_with fail
 go_at_call 10
 refine (known4 _).mono ?_
 rintro e w1 ⟨rfl, hw1⟩
 replace HB := lbB HB hw1
 clear hw1
 go_wp2_with fail
 go_ret
 exact ⟨rfl, HB.out.b⟩
set_option maxHeartbeats 8000000 in
set_option maxRecDepth 100000 in
theorem rows4_go (l : List Prt) (A : Option Addr) (c : Nat) (w : World) (hl : RdP w A c l) (hf : ¬ 15 < l.length) :
  Calls Try.prog 7 #[.slice A l.length c] w fun e w' => e = .returned (.bool true) ∧ Below w.heap.size w w' := by
 have d1 : decide ((l.length : Int) > 15) = false := decide_eq_false (by omega)
 have d2 : decide (15 < (l.length : Int)) = false := d1
 have d3 : decide (15 < l.length) = false := decide_eq_false hf
 have HL := Aside0.mk hl
 have H15 : Aside0 (l.length ≤ 15) := ⟨by omega⟩
 have HB := Aside0.mk (Bel.refl w)
 clear hl hf
 go_enter Try.func7, Try.ntmps7
 obtain ⟨C7, hC7⟩ : ∃ C, (match Try.f7.body with | some (.seq _ (.seq _ (.seq _ (.seq _ (.seq _ (.seq _ c)))))) => c | _ => .skip) = C := ⟨_, rfl⟩
 have HC7 := Aside0.mk hC7
 simp only [Try.f7] at hC7
 rw [hC7]
 clear hC7
 go_wp2_with fail
 go_at_call 10
 refine (known4 _).mono ?_
 rintro e w1 ⟨rfl, hw1⟩
 replace HB := lbB HB hw1
 clear hw1
 go_wp2_with fail
 obtain ⟨b0, hb0⟩ : ∃ n, w1.heap.size = n := ⟨_, rfl⟩
 have HB0 : Aside0 (b0 ≤ w1.heap.size ∧ w.heap.size ≤ b0) := ⟨by rw [← hb0]; exact ⟨Nat.le_refl _, HB.out.b.size⟩⟩
 clear hb0
 have HI1 : Aside0 (∃ (ms : List PA), (.string ⟨#[]⟩ : Value) = .string (catP ms) ∧ OwnP w1 b0 (.slice none 0 0) ms ∧ (∀ x ∈ ms, isP x.p = true ∧ Rd w x.A x.c x.p.l) ∧ ms.length ≤ 0 ∧ Bel w w1 ∧ b0 ≤ w1.heap.size) := ⟨[], rfl, OwnP.nil _ _, fun x hx => (by cases hx), Nat.le_refl _, HB.out, HB0.out.1⟩
 clear HB
 clear d1 d2 d3
 go_loopw [3, 4, 5] (fun u v x wr => ∃ k : Nat, k ≤ l.length ∧ x = .int .i64 (k : Int) ∧ Aside0 (∃ (ms : List PA), u = .string (catP ms) ∧ OwnP wr b0 v ms ∧ (∀ x ∈ ms, isP x.p = true ∧ Rd w x.A x.c x.p.l) ∧ ms.length ≤ k ∧ Bel w wr ∧ b0 ≤ wr.heap.size)) (fun _ _ x _ => l.length - (intOf x).toNat)
 case atStart => exact ⟨0, Nat.zero_le _, rfl, HI1⟩
 case round =>
   clear HI1
   obtain ⟨k, hk, rfl, HI⟩ := hrel
   obtain ⟨ms, hu, hw, hm, hmk, hbl, hz9⟩ := HI.out
   subst hu
   have HW := Aside0.mk hw
   have HM := Aside0.mk hm
   have HMK := Aside0.mk hmk
   have HB := Aside0.mk hbl
   have HWZ := Aside0.mk hz9
   clear HI hw hm hmk hbl hz9
   by_cases hlt : k < l.length
   · have d1 : decide ((k : Int) < (l.length : Int)) = true := decide_eq_true (by omega)
     have d2 : decide (k < l.length) = true := decide_eq_true (by omega)
     have hk4 : IntKind.i64.wrap ((k : Int) + 1) = (k : Int) + 1 := by rw [i64_w]; unfold wrap64; have := H15.out; omega
     have hi0 : (0 : Int) ≤ (k : Int) := by omega
     have hi1 : (k : Int) < (l.length : Int) := by omega
     obtain ⟨ad, A1, c1, hA, hc, hr⟩ := HL.out.one hlt
     subst hA
     obtain ⟨p, hp⟩ : ∃ p, elP l k = p := ⟨_, rfl⟩
     rw [hp] at hc hr
     clear hp
     have HRW := Aside0.mk hr
     have HC := Aside0.mk (hc.below (HB.out.b))
     have HR1 := Aside0.mk (hr.below HB.out.b)
     clear hc hr
     obtain ⟨r1, _, f1⟩ := few_part p HR1.out.bd
     have HF := Aside0.mk f1
     clear f1
     obtain ⟨g0, g1, g2, g3, g4, g5, g6, g7, g8, g9⟩ := HC.out
     cases r1
     · go_wp2_with (go_at_call 11; refine (HF.out A1 c1 _ HR1.out).mono ?_; rintro e w1 ⟨rfl, hw⟩; replace HB := lbB HB hw; clear hw)
       go_ret
       exact ⟨rfl, HB.out.b⟩
     · obtain ⟨pb, hpb⟩ : ∃ b, isP p = b := ⟨_, rfl⟩
       cases pb
       · have HPB := Aside0.mk hpb
         have HBR : Aside0 (bytesR p = (⟨#[]⟩, 11)) := ⟨by unfold bytesR; rw [if_neg (by rw [hpb]; decide)]⟩
         clear hpb
         go_wp2_with fail
         go_at_call 11
         refine (HF.out A1 c1 _ HR1.out).mono ?_
         rintro e w1 ⟨rfl, hw1⟩
         replace HB := lbB HB hw1
         replace HR1 := lbR HR1 hw1
         clear g0 g1 g2 g3 g4 g5 g6 g7 g8 g9
         replace HC := Aside0.mk (HC.out.below hw1)
         replace HW := Aside0.mk (HW.out.below hw1)
         replace HWZ := Aside0.mk (Nat.le_trans HWZ.out hw1.size)
         obtain ⟨g0, g1, g2, g3, g4, g5, g6, g7, g8, g9⟩ := HC.out
         clear hw1
         go_wp2_with fail
         go_at_call 12
         refine (part_Bytes p A1 c1 _ HR1.out HBR.out).mono ?_
         rintro e w2 ⟨rfl, hw2⟩
         replace HB := lbB HB hw2
         replace HR1 := lbR HR1 hw2
         clear g0 g1 g2 g3 g4 g5 g6 g7 g8 g9
         replace HC := Aside0.mk (HC.out.below hw2)
         replace HW := Aside0.mk (HW.out.below hw2)
         replace HWZ := Aside0.mk (Nat.le_trans HWZ.out hw2.size)
         obtain ⟨g0, g1, g2, g3, g4, g5, g6, g7, g8, g9⟩ := HC.out
         clear hw2
         go_wp2_with fail
         go_at_call 15
         refine (isp4 p A1 c1 _ HR1.out HPB.out).mono ?_
         rintro e w3 ⟨rfl, hw3⟩
         replace HB := lbB HB hw3
         replace HR1 := lbR HR1 hw3
         clear g0 g1 g2 g3 g4 g5 g6 g7 g8 g9
         replace HC := Aside0.mk (HC.out.below hw3)
         replace HW := Aside0.mk (HW.out.below hw3)
         replace HWZ := Aside0.mk (Nat.le_trans HWZ.out hw3.size)
         obtain ⟨g0, g1, g2, g3, g4, g5, g6, g7, g8, g9⟩ := HC.out
         clear hw3
         go_wp2_with fail
         go_roundw
         case rel => exact ⟨k + 1, by omega, by go_num, ⟨ms, rfl, HW.out, HM.out, Nat.le_succ_of_le HMK.out, HB.out, HWZ.out⟩⟩
         case measure => simp [intOf]; omega
       · have HPB := Aside0.mk hpb
         obtain ⟨S, hS⟩ : ∃ S, bytesP p = S := ⟨_, rfl⟩
         have ES := Aside0.mk hS
         have HBR : Aside0 (bytesR p = (S, 0)) := ⟨by unfold bytesR; rw [if_pos hpb, hS]⟩
         have hsum : (9223372036854775807 < (catP ms).size + S.size) = False := eq_false (by have h1 := catP_size ms (fun x hx => (HM.out x hx).1); have h2 := (bytesP_sz hpb).2; rw [hS] at h2; have := HMK.out; have := H15.out; omega)
         clear hpb hS
         go_wp2_with fail
         go_at_call 11
         refine (HF.out A1 c1 _ HR1.out).mono ?_
         rintro e w1 ⟨rfl, hw1⟩
         replace HB := lbB HB hw1
         replace HR1 := lbR HR1 hw1
         clear g0 g1 g2 g3 g4 g5 g6 g7 g8 g9
         replace HC := Aside0.mk (HC.out.below hw1)
         replace HW := Aside0.mk (HW.out.below hw1)
         replace HWZ := Aside0.mk (Nat.le_trans HWZ.out hw1.size)
         obtain ⟨g0, g1, g2, g3, g4, g5, g6, g7, g8, g9⟩ := HC.out
         clear hw1
         go_wp2_with fail
         go_at_call 12
         refine (part_Bytes p A1 c1 _ HR1.out HBR.out).mono ?_
         rintro e w2 ⟨rfl, hw2⟩
         replace HB := lbB HB hw2
         replace HR1 := lbR HR1 hw2
         clear g0 g1 g2 g3 g4 g5 g6 g7 g8 g9
         replace HC := Aside0.mk (HC.out.below hw2)
         replace HW := Aside0.mk (HW.out.below hw2)
         replace HWZ := Aside0.mk (Nat.le_trans HWZ.out hw2.size)
         obtain ⟨g0, g1, g2, g3, g4, g5, g6, g7, g8, g9⟩ := HC.out
         clear hw2
         go_wp2_with fail
         go_at_call 15
         refine (isp4 p A1 c1 _ HR1.out HPB.out).mono ?_
         rintro e w3 ⟨rfl, hw3⟩
         replace HB := lbB HB hw3
         replace HR1 := lbR HR1 hw3
         clear g0 g1 g2 g3 g4 g5 g6 g7 g8 g9
         replace HC := Aside0.mk (HC.out.below hw3)
         replace HW := Aside0.mk (HW.out.below hw3)
         replace HWZ := Aside0.mk (Nat.le_trans HWZ.out hw3.size)
         obtain ⟨g0, g1, g2, g3, g4, g5, g6, g7, g8, g9⟩ := HC.out
         clear hw3
         obtain ⟨m7, hm7⟩ : ∃ x, w3.heap.size = x := ⟨_, rfl⟩
         have HM7 := Aside0.mk hm7
         go_wp2_with (at_builtin; refine wpList_append_prt (l := ms) (x := ⟨p, A1, c1⟩) (b := b0) (n := m7) rfl (.tmp 51) (.tmp 56) rfl rfl (HW.out.alloc _) rfl (by have hq := cellsP_new ⟨p, A1, c1⟩ w3; rw [HM7.out] at hq; exact hq) (by have := HMK.out; have := H15.out; omega) (Nat.le_trans HWZ.out (by rw [World.size_alloc]; omega)) ?_; intro v6 w6 ho6 hgr ha6; have hon : Only (fun q => u4.ownBlock = some q) (w3.alloc (.cells #[.int .i64 p.g, .int .i64 p.k, .slice A1 p.l.length c1, .int .i64 p.ht, .int .i64 p.hv, .int .i64 p.hc, .int .i64 p.ix, .int .i64 p.tm, .bool p.mrk, .bool p.hed] 26)) w6 := (Only.refl _ _).of_grown hgr (fun q hq _ => hq); have h00 := HB0.out; replace HB := Aside0.mk (Bel.only (HB.out.alloc (.cells #[.int .i64 p.g, .int .i64 p.k, .slice A1 p.l.length c1, .int .i64 p.ht, .int .i64 p.hv, .int .i64 p.hc, .int .i64 p.ix, .int .i64 p.tm, .bool p.mrk, .bool p.hed] 26)) hon (fun q hq h => by have := HW.out.block h; omega)); have HO6 := Aside0.mk ho6; have HS6 : Aside0 (b0 ≤ w6.heap.size) := ⟨Nat.le_trans HWZ.out (Nat.le_trans (by rw [World.size_alloc]; omega) hon.size)⟩; clear ho6 hgr ha6 hon h00 hm7)
         go_roundw
         case rel => exact ⟨k + 1, by omega, by go_num, ⟨ms ++ [⟨p, A1, c1⟩], by rw [catP_app, catP_one, ES.out], HO6.out, fun x hx => (by rcases List.mem_append.1 hx with h | h; exact HM.out x h; (obtain rfl : x = ⟨p, A1, c1⟩ := by simpa using h); exact ⟨HPB.out, HRW.out⟩), by rw [List.length_append]; have := HMK.out; show ms.length + 1 ≤ k + 1; omega, HB.out, HS6.out⟩⟩
         case measure => simp [intOf]; omega
   · have d1 : decide ((k : Int) < (l.length : Int)) = false := decide_eq_false (by omega)
     have d2 : decide (k < l.length) = false := decide_eq_false (by omega)
     go_wp2_with fail
     have hc7 := HC7.out
     simp only [Try.f7] at hc7
     subst hc7
     clear HC7
     obtain ⟨AM, cM, hvM, hcM⟩ := HW.out.shape
     subst hvM
     clear hcM
     have HI1 : Aside0 ((.int .i64 0 : Value) = .int .i64 ((catP (ms.take 0)).size : Int) ∧ OwnP wr b0 (.slice AM ms.length cM) ms ∧ Bel w wr ∧ b0 ≤ wr.heap.size) := ⟨rfl, HW.out, HB.out, HWZ.out⟩
     clear HW HB HWZ
     go_wp2_with fail
     go_loopw [8, 9] (fun u v wr => ∃ k : Nat, k ≤ ms.length ∧ v = .int .i64 (k : Int) ∧ Aside0 (u = .int .i64 ((catP (ms.take k)).size : Int) ∧ OwnP wr b0 (.slice AM ms.length cM) ms ∧ Bel w wr ∧ b0 ≤ wr.heap.size)) (fun _ v _ => ms.length - (intOf v).toNat)
     case atStart => exact ⟨0, Nat.zero_le _, rfl, HI1⟩
     case round =>
       have HML : Aside0 (ms.length ≤ 15) := ⟨by have := HMK.out; have := H15.out; omega⟩
       clear HI1 hk hlt d1 d2
       obtain ⟨j, hj, rfl, HI⟩ := hrel
       obtain ⟨hu, hw, hbl, hz9⟩ := HI.out
       subst hu
       have HW := Aside0.mk hw
       have HB := Aside0.mk hbl
       have HWZ := Aside0.mk hz9
       clear HI hw hbl hz9
       have HCS : Aside0 ((catP ms).size ≤ 15000) := ⟨by have h1 := catP_size ms (fun x hx => (HM.out x hx).1); have := HML.out; omega⟩
       by_cases hlt : j < ms.length
       · have d1 : decide ((j : Int) < (ms.length : Int)) = true := decide_eq_true (by omega)
         have d2 : decide (j < ms.length) = true := decide_eq_true (by omega)
         have hk4 : IntKind.i64.wrap ((j : Int) + 1) = (j : Int) + 1 := by rw [i64_w]; unfold wrap64; have := HML.out; omega
         have hi0 : (0 : Int) ≤ (j : Int) := by omega
         have hi1 : (j : Int) < (ms.length : Int) := by omega
         obtain ⟨x, hx⟩ : ∃ x, ms[j]? = some x := ⟨_, List.getElem?_eq_getElem hlt⟩
         have hxm := HM.out x (List.mem_of_getElem? hx)
         obtain ⟨ht1, ht2⟩ := catP_take hx
         have hle := catP_le ms j
         obtain ⟨_, _, hvs, hcs⟩ := HW.out.shape
         injection hvs with e1 e2 e3
         subst e1
         subst e3
         obtain ⟨ad, hA, hcel⟩ := hcs j x hx
         subst hA
         clear hcs e2
         obtain ⟨p, A1, c1⟩ := x
         dsimp only at hxm ht1 ht2 hcel
         have HC := Aside0.mk hcel
         have HPB := Aside0.mk hxm.1
         have HRW := Aside0.mk hxm.2
         have HR1 := Aside0.mk (hxm.2.below HB.out.b)
         obtain ⟨a, ha⟩ : ∃ a, (catP (ms.take j)).size = a := ⟨_, rfl⟩
         have HCUT : Aside0 ((catP ms).extract a (catP ms).size = bytesP p ++ catP (ms.drop (j + 1))) := ⟨by rw [← ha, catP_cut, ht2]⟩
         obtain ⟨q, hq⟩ : ∃ q, (bytesP p).size = q := ⟨_, rfl⟩
         rw [ha] at hle
         rw [ha, hq] at ht1
         have HT1 := Aside0.mk ht1
         have HRB : Aside0 (progR (bytesP p ++ catP (ms.drop (j + 1))) = (p, (q, 0))) := ⟨by rw [← hq]; exact read_back hxm.1 _⟩
         have HQ := Aside0.mk hq
         obtain ⟨SS, hSS⟩ : ∃ S, catP ms = S := ⟨_, rfl⟩
         have HSS := Aside0.mk hSS
         rw [hSS] at HCUT HCS hle
         have hq1000 : q ≤ 1000 := by rw [← hq]; exact (bytesP_sz hxm.1).2
         have hmn : ((SS.size : Int) < (a : Int)) = False := eq_false (by omega)
         have hmn2 : (SS.size < a) = False := eq_false (by omega)
         have hmn3 : (if (SS.size : Int) < (a : Int) then (SS.size : Int) else (a : Int)) = (a : Int) := if_neg (by omega)
         have hz1 : (0 : Int) ≤ (a : Int) := by omega
         have hz2 : (a : Int) ≤ (SS.size : Int) := by omega
         have hz3 : a ≤ SS.size := hle
         have hwq : IntKind.i64.wrap ((a : Int) + (q : Int)) = ((a + q : Nat) : Int) := by rw [i64_w]; unfold wrap64; have := HCS.out; omega
         try rw [ha]
         try rw [hSS]
         clear ha hq hxm ht1 ht2 hcel hx hSS hle hq1000
         go_wp2_with fail
         have h9 := readc (SS.extract a SS.size) wr (by have h1 := HCS.out; have h3 : (SS.extract a SS.size).size ≤ SS.size := by { rw [← CodeM.ba_len, CodeM.ext_data, List.length_drop, List.length_take, CodeM.ba_len]; omega }; omega) (P := p) (n := q) (e := 0) (by rw [HCUT.out]; exact HRB.out)
         go_at_call 20
         refine (h9).mono ?_
         rintro e w41 ⟨A3, c3, rfl, hrd, hw41⟩
         replace HB := lbB HB hw41
         replace HR1 := lbR HR1 hw41
         have HR3 := Aside0.mk hrd
         clear hrd h9
         replace HC := Aside0.mk (HC.out.below hw41)
         replace HW := Aside0.mk (HW.out.below hw41)
         replace HWZ := Aside0.mk (Nat.le_trans HWZ.out hw41.size)
         clear hw41
         unfold vP
         go_wp2_with fail
         have HLB : Aside0 (b0 ≤ w41.heap.size) := ⟨HWZ.out⟩
         replace HC := Aside0.mk (HC.out.below ((Below.refl _ _).alloc (Nat.le_refl _) (.cells #[.int .i64 p.g, .int .i64 p.k, .slice A3 p.l.length c3, .int .i64 p.ht, .int .i64 p.hv, .int .i64 p.hc, .int .i64 p.ix, .int .i64 p.tm, .bool p.mrk, .bool p.hed] 26)))
         replace HW := Aside0.mk (HW.out.alloc (.cells #[.int .i64 p.g, .int .i64 p.k, .slice A3 p.l.length c3, .int .i64 p.ht, .int .i64 p.hv, .int .i64 p.hc, .int .i64 p.ix, .int .i64 p.tm, .bool p.mrk, .bool p.hed] 26))
         replace HWZ : Aside0 (b0 ≤ (w41.alloc (.cells #[.int .i64 p.g, .int .i64 p.k, .slice A3 p.l.length c3, .int .i64 p.ht, .int .i64 p.hv, .int .i64 p.hc, .int .i64 p.ix, .int .i64 p.tm, .bool p.mrk, .bool p.hed] 26)).heap.size) := ⟨Nat.le_trans HWZ.out (by rw [World.size_alloc]; omega)⟩
         obtain ⟨n3, hn3⟩ : ∃ n, w41.heap.size = n := ⟨_, rfl⟩
         try rw [hn3]
         replace HB := laB HB (.cells #[.int .i64 p.g, .int .i64 p.k, .slice A3 p.l.length c3, .int .i64 p.ht, .int .i64 p.hv, .int .i64 p.hc, .int .i64 p.ix, .int .i64 p.tm, .bool p.mrk, .bool p.hed] 26)
         replace HR1 := laR HR1 (.cells #[.int .i64 p.g, .int .i64 p.k, .slice A3 p.l.length c3, .int .i64 p.ht, .int .i64 p.hv, .int .i64 p.hc, .int .i64 p.ix, .int .i64 p.tm, .bool p.mrk, .bool p.hed] 26)
         replace HR3 := laR HR3 (.cells #[.int .i64 p.g, .int .i64 p.k, .slice A3 p.l.length c3, .int .i64 p.ht, .int .i64 p.hv, .int .i64 p.hc, .int .i64 p.ix, .int .i64 p.tm, .bool p.mrk, .bool p.hed] 26)
         have HX : Aside0 (BlkP p A3 c3 n3 (w41.alloc (.cells #[.int .i64 p.g, .int .i64 p.k, .slice A3 p.l.length c3, .int .i64 p.ht, .int .i64 p.hv, .int .i64 p.hc, .int .i64 p.ix, .int .i64 p.tm, .bool p.mrk, .bool p.hed] 26))) := ⟨by have hq := BlkP.new p A3 c3 w41; rw [hn3] at hq; exact hq⟩
         obtain ⟨W3, hW⟩ : ∃ X, w41.alloc (.cells #[.int .i64 p.g, .int .i64 p.k, .slice A3 p.l.length c3, .int .i64 p.ht, .int .i64 p.hv, .int .i64 p.hc, .int .i64 p.ix, .int .i64 p.tm, .bool p.mrk, .bool p.hed] 26) = X := ⟨_, rfl⟩
         rw [hW] at HB HR1 HR3 HX HC HW HWZ ⊢
         clear hW hn3
         replace HB := ldB HB
         replace HR1 := ldR HR1
         replace HR3 := ldR HR3
         replace HX := ldP HX
         replace HC := Aside0.mk (HC.out.below (below_drew (Below.refl _ _)))
         replace HW := Aside0.mk (HW.out.below (below_drew (Below.refl _ _)))
         replace HWZ : Aside0 (b0 ≤ W3.drew.heap.size) := ⟨HWZ.out⟩
         refine start_ (n := 11) (S := (fun w' => (w'.cell? ⟨n3, 0, none⟩ = some (.int .i64 p.g) ∧ w'.cell? ⟨n3, 1, none⟩ = some (.int .i64 p.k) ∧ w'.cell? ⟨n3, 2, none⟩ = some (.slice A3 p.l.length c3) ∧ w'.cell? ⟨n3, 3, none⟩ = some (.int .i64 p.ht) ∧ w'.cell? ⟨n3, 4, none⟩ = some (.int .i64 p.hv) ∧ w'.cell? ⟨n3, 5, none⟩ = some (.int .i64 p.hc) ∧ w'.cell? ⟨n3, 6, none⟩ = some (.int .i64 p.ix) ∧ w'.cell? ⟨n3, 7, none⟩ = some (.int .i64 p.tm) ∧ w'.cell? ⟨n3, 8, none⟩ = some (.bool p.mrk) ∧ w'.cell? ⟨n3, 9, none⟩ = some (.bool p.hed)) ∧ (w'.cell? (ad.add (j * 10)) = some (.int .i64 p.g) ∧ w'.cell? ⟨(ad.add (j * 10)).block, (ad.add (j * 10)).off + 1, none⟩ = some (.int .i64 p.k) ∧ w'.cell? ⟨(ad.add (j * 10)).block, (ad.add (j * 10)).off + 2, none⟩ = some (.slice A1 p.l.length c1) ∧ w'.cell? ⟨(ad.add (j * 10)).block, (ad.add (j * 10)).off + 3, none⟩ = some (.int .i64 p.ht) ∧ w'.cell? ⟨(ad.add (j * 10)).block, (ad.add (j * 10)).off + 4, none⟩ = some (.int .i64 p.hv) ∧ w'.cell? ⟨(ad.add (j * 10)).block, (ad.add (j * 10)).off + 5, none⟩ = some (.int .i64 p.hc) ∧ w'.cell? ⟨(ad.add (j * 10)).block, (ad.add (j * 10)).off + 6, none⟩ = some (.int .i64 p.ix) ∧ w'.cell? ⟨(ad.add (j * 10)).block, (ad.add (j * 10)).off + 7, none⟩ = some (.int .i64 p.tm) ∧ w'.cell? ⟨(ad.add (j * 10)).block, (ad.add (j * 10)).off + 8, none⟩ = some (.bool p.mrk) ∧ w'.cell? ⟨(ad.add (j * 10)).block, (ad.add (j * 10)).off + 9, none⟩ = some (.bool p.hed)))) (ds := []) #[false,false,false,false,false,false,false,false,false,false,false] (by kernel_rfl) rfl rfl ⟨HX.out.box, HC.out⟩ (fun hHeld => ?_)
         obtain ⟨W4, hW⟩ : ∃ X, W3.drew = X := ⟨_, rfl⟩
         rw [hW] at hHeld HB HR1 HR3 HX HC HW HWZ ⊢
         clear hW
         refine pure_ (i := 0) (N := some 75) (v := ?_) (a' := ?_) #[true,false,false,false,false,false,false,false,false,false,false] rfl rfl (by kernel_rfl) (fun _ _ _ h => h) (Or.inl ⟨by rfl, ?_⟩) ?_ ?_
         rotate_left
         · intro w'
           go_simp
           try with_reducible rfl
         rotate_left
         · simp only [Act.put, sA, sB, sC]
           rfl
         refine pure_ (i := 1) (N := some 76) (v := ?_) (a' := ?_) #[true,true,false,false,false,false,false,false,false,false,false] rfl rfl (by kernel_rfl) (fun _ _ _ h => h) (Or.inl ⟨by rfl, ?_⟩) ?_ ?_
         rotate_left
         · intro w'
           go_simp
           try with_reducible rfl
         rotate_left
         · simp only [Act.put, sA, sB, sC]
           rfl
         refine pure_ (i := 2) (N := some 77) (v := ?_) (a' := ?_) #[true,true,true,false,false,false,false,false,false,false,false] rfl rfl (by kernel_rfl) (fun _ _ _ h => h) (Or.inl ⟨by rfl, ?_⟩) ?_ ?_
         rotate_left
         · intro w'
           go_simp
           try with_reducible rfl
         rotate_left
         · simp only [Act.put, sA, sB, sC]
           rfl
         refine take_ (i := 3) (N := some 78) (v := ?_) (a' := ?_) #[true,true,true,true,false,false,false,false,false,false,false] rfl rfl (by kernel_rfl) (fun _ _ _ h => h) (Or.inl ⟨by rfl, ?_⟩) hHeld ?_ ?_
         rotate_left
         · rintro w' ⟨⟨v0, v1, v2, v3, v4, v5, v6, v7, v8, v9⟩, ⟨g0, g1, g2, g3, g4, g5, g6, g7, g8, g9⟩⟩
           go_simp
           try with_reducible rfl
         rotate_left
         · simp only [Act.put, sA, sB, sC]
           rfl
         refine pure_ (i := 4) (N := some 79) (v := ?_) (a' := ?_) #[true,true,true,true,true,false,false,false,false,false,false] rfl rfl (by kernel_rfl) (fun _ _ _ h => h) (Or.inl ⟨by rfl, ?_⟩) ?_ ?_
         rotate_left
         · intro w'
           go_simp
           try with_reducible rfl
         rotate_left
         · simp only [Act.put, sA, sB, sC]
           rfl
         refine pure_ (i := 5) (N := some 80) (v := ?_) (a' := ?_) #[true,true,true,true,true,true,false,false,false,false,false] rfl rfl (by kernel_rfl) (fun _ _ _ h => h) (Or.inl ⟨by rfl, ?_⟩) ?_ ?_
         rotate_left
         · intro w'
           go_simp
           try with_reducible rfl
         rotate_left
         · simp only [Act.put, sA, sB, sC]
           rfl
         refine pure_ (i := 6) (N := some 81) (v := ?_) (a' := ?_) #[true,true,true,true,true,true,true,false,false,false,false] rfl rfl (by kernel_rfl) (fun _ _ _ h => h) (Or.inl ⟨by rfl, ?_⟩) ?_ ?_
         rotate_left
         · intro w'
           go_simp
           try with_reducible rfl
         rotate_left
         · simp only [Act.put, sA, sB, sC]
           rfl
         refine take_ (i := 7) (N := some 82) (v := ?_) (a' := ?_) #[true,true,true,true,true,true,true,true,false,false,false] rfl rfl (by kernel_rfl) (fun _ _ _ h => h) (Or.inl ⟨by rfl, ?_⟩) hHeld ?_ ?_
         rotate_left
         · rintro w' ⟨⟨v0, v1, v2, v3, v4, v5, v6, v7, v8, v9⟩, ⟨g0, g1, g2, g3, g4, g5, g6, g7, g8, g9⟩⟩
           go_simp
           try with_reducible rfl
         rotate_left
         · simp only [Act.put, sA, sB, sC]
           rfl
         refine one_ (i := 8) (N := some 83) #[true,true,true,true,true,true,true,true,true,false,false] rfl rfl (by kernel_rfl) (by decide) (fun K hK => ?_)
         go_simp
         refine (rsamep p p A3 c3 A1 c1 _ HR3.out HR1.out (sameP_iff.2 rfl)).mono ?_; rintro r w50 ⟨rfl, hw⟩; replace HB := lbB HB hw; replace HR1 := lbR HR1 hw; replace HR3 := lbR HR3 hw; replace HX := lbP HX hw; replace HC := Aside0.mk (HC.out.below hw); replace HW := Aside0.mk (HW.out.below hw); replace HWZ := Aside0.mk (Nat.le_trans HWZ.out hw.size); clear hw
         refine hK.out _ _ ?_ (fun hHeld => ?_)
         · exact ⟨HX.out.box, HC.out⟩
         clear hK K
         try simp only [Act.put, sA, sB, sC]
         refine pure_ (i := 9) (N := some 84) (v := ?_) (a' := ?_) #[true,true,true,true,true,true,true,true,true,true,false] rfl rfl (by kernel_rfl) (fun _ _ _ h => h) (Or.inl ⟨by rfl, ?_⟩) ?_ ?_
         rotate_left
         · intro w'
           go_simp
           try with_reducible rfl
         rotate_left
         · simp only [Act.put, sA, sB, sC]
           rfl
         refine pure_ (i := 10) (N := some 85) (v := ?_) (a' := ?_) #[true,true,true,true,true,true,true,true,true,true,true] rfl rfl (by kernel_rfl) (fun _ _ _ h => h) (Or.inl ⟨by rfl, ?_⟩) ?_ ?_
         rotate_left
         · intro w'
           go_simp
           try with_reducible rfl
         rotate_left
         · simp only [Act.put, sA, sB, sC]
           rfl
         refine done_ (by kernel_rfl) ?_
         go_wp2_with fail
         go_roundw
         case rel => exact ⟨j + 1, by omega, by go_num, ⟨by rw [HT1.out, Int.natCast_add], HW.out, HB.out, HWZ.out⟩⟩
         case measure => simp [intOf]; omega
       · have d1 : decide ((j : Int) < (ms.length : Int)) = false := decide_eq_false (by omega)
         have d2 : decide (j < ms.length) = false := decide_eq_false (by omega)
         have hfin : (catP (ms.take j)).size = (catP ms).size := by rw [List.take_of_length_le (by omega)]
         rw [hfin]
         clear hfin
         go_wp2_with fail
         go_ret
         exact ⟨rfl, HB.out.b⟩
theorem rows4_walk (l : List Prt) (A : Option Addr) (c : Nat) (w : World) (hl : RdP w A c l) : Calls Try.prog 7 #[.slice A l.length c] w fun e w' => e = .returned (.bool true) ∧ Below w.heap.size w w' := by
  by_cases hf : 15 < l.length
  · exact rows4_far l A c w hl hf
  · exact rows4_go l A c w hl hf
end Go.Proofs.Ytokjhocjemjfiaa.PartW
namespace Go.Proofs.Ytokjhocjemjfiaa.Pure
open Go Go.RowKit Go.Proofs.Ytokjhocjemjfiaa.Sp Go.Proofs.Ytokjhocjemjfiaa.PartW
theorem PartRows.walk (l : List Prt) (A : Option Addr) (c : Nat) (w : World) (hl : RdP w A c l) :
    Calls Try.prog 7 #[.slice A l.length c] w fun e w' => e = .returned (.bool true) ∧ Below w.heap.size w w' := rows4_walk l A c w hl
end Go.Proofs.Ytokjhocjemjfiaa.Pure
