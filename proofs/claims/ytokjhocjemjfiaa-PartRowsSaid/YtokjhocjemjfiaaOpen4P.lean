/- A slice of parts as an argument. -/
import Derived.Test.YtokjhocjemjfiaaOpen4
set_option linter.unusedVariables false
set_option linter.unusedSimpArgs false
namespace Go.Proofs.Ytokjhocjemjfiaa.Sp
open Go Go.RowKit Go.ChangeShapes Go.WideShapes Go.Deep Go.Proofs.Ytokjhocjemjfiaa.A Go.Proofs.Ytokjhocjemjfiaa.PartW Go.Proofs.YtokjhocjemjfiaaW.PrintWords Go.Proofs.YtokjhocjemjfiaaW.PrintLast Go.Proofs.YtokjhocjemjfiaaW.PrintMore
theorem by_prt : Try.prog.bytesOf 26 = 88 := by kernel_rfl
/-- a part's cells -/
def prtC (p : Prt) (A : Option Addr) (c : Nat) : List Value := [.int .i64 p.g, .int .i64 p.k, .slice A p.l.length c, .int .i64 p.ht, .int .i64 p.hv, .int .i64 p.hc, .int .i64 p.ix, .int .i64 p.tm, .bool p.mrk, .bool p.hed]
/-- a part lies at a place -/
def PAt (w : World) (a : Addr) (p : Prt) : Prop := ∃ A c, (∀ j u, (prtC p A c)[j]? = some u → w.cell? (a.add j) = some u) ∧ Rd w A c p.l
/-- parts lie one behind the other -/
structure RdP (w : World) (A : Option Addr) (c : Nat) (l : List Prt) : Prop where
  at_ : ∀ i p, l[i]? = some p → ∃ a, A = some a ∧ PAt w (a.add (i * 10)) p
  cap : l.length ≤ c
  len : l.length ≤ 4398046511104
theorem RdP.nil (w : World) : RdP w none 0 [] := ⟨fun i p h => by simp at h, Nat.le_refl _, Nat.zero_le _⟩
theorem PAt.below {w w' : World} {a : Addr} {p : Prt} (h : PAt w a p) (hb : Below w.heap.size w w') : PAt w' a p := by
  obtain ⟨A, c, h1, h2⟩ := h
  exact ⟨A, c, fun j u hu => (hb.cell (World.block_lt_of_cell? _ _ (h1 j u hu))).trans (h1 j u hu), h2.below hb⟩
theorem RdP.below {w w' : World} {A : Option Addr} {c : Nat} {l : List Prt} (h : RdP w A c l) (hb : Below w.heap.size w w') : RdP w' A c l :=
  ⟨fun i p hi => by obtain ⟨a, e, h2⟩ := h.at_ i p hi; exact ⟨a, e, h2.below hb⟩, h.cap, h.len⟩
section
variable {H : Type} {enc : TypeId × Value → H} {w : World} {base : Nat} {spare : Nat → Bool} {held : Bool}
theorem open_prt {fuel : Nat} {cs : List Value} {x : DataW H × List MemPlace} (h : DataW.trod enc Try.prog w base spare held fuel 26 cs = some x) (hw : ∀ n ∈ x.1.weights Try.prog 26, n ≤ reachBytes) :
    ∃ p A c, cs = prtC p A c ∧ Rd w A c p.l := by
  obtain ⟨xs, n, _, hx, hl, hlen, hg⟩ := DataW.trod_struct Try.underlying26 h
  rw [co_prt] at hl
  match cs, hl with
  | [c0, c1, c2, c3, c4, c5, c6, c7, c8, c9], _ =>
    match xs, hlen with
    | [y0, y1, y2, y3, y4, y5, y6, y7], _ =>
      have g0 : DataW.trod enc Try.prog w base spare held n 3 [c0] = some y0 := by simpa [Value.cells, co_int, co_str, co_bool, co_hard, co_ents] using hg 0 _ rfl
      have g1 : DataW.trod enc Try.prog w base spare held n 3 [c1] = some y1 := by simpa [Value.cells, co_int, co_str, co_bool, co_hard, co_ents] using hg 1 _ rfl
      have g2 : DataW.trod enc Try.prog w base spare held n 22 [c2] = some y2 := by simpa [Value.cells, co_int, co_str, co_bool, co_hard, co_ents] using hg 2 _ rfl
      have g3 : DataW.trod enc Try.prog w base spare held n 24 [c3, c4, c5] = some y3 := by simpa [Value.cells, co_int, co_str, co_bool, co_hard, co_ents] using hg 3 _ rfl
      have g4 : DataW.trod enc Try.prog w base spare held n 3 [c6] = some y4 := by simpa [Value.cells, co_int, co_str, co_bool, co_hard, co_ents] using hg 4 _ rfl
      have g5 : DataW.trod enc Try.prog w base spare held n 3 [c7] = some y5 := by simpa [Value.cells, co_int, co_str, co_bool, co_hard, co_ents] using hg 5 _ rfl
      have g6 : DataW.trod enc Try.prog w base spare held n 4 [c8] = some y6 := by simpa [Value.cells, co_int, co_str, co_bool, co_hard, co_ents] using hg 6 _ rfl
      have g7 : DataW.trod enc Try.prog w base spare held n 4 [c9] = some y7 := by simpa [Value.cells, co_int, co_str, co_bool, co_hard, co_ents] using hg 7 _ rfl
      obtain ⟨a0, e0, _, _⟩ := DataW.trod_int Try.underlying3 g0
      obtain ⟨a1, e1, _, _⟩ := DataW.trod_int Try.underlying3 g1
      obtain ⟨a4, e4, _, _⟩ := DataW.trod_int Try.underlying3 g4
      obtain ⟨a5, e5, _, _⟩ := DataW.trod_int Try.underlying3 g5
      obtain ⟨a6, e6, _⟩ := DataW.trod_bool Try.underlying4 g6
      obtain ⟨a7, e7, _⟩ := DataW.trod_bool Try.underlying4 g7
      obtain ⟨xs3, n3, _, _, _, hlen3, hg3⟩ := DataW.trod_struct Try.underlying24 g3
      match xs3, hlen3 with
      | [z0, z1, z2], _ =>
        have q0 : DataW.trod enc Try.prog w base spare held n3 3 [c3] = some z0 := by simpa [Value.cells, co_int, co_str, co_bool, co_hard, co_ents] using hg3 0 _ rfl
        have q1 : DataW.trod enc Try.prog w base spare held n3 3 [c4] = some z1 := by simpa [Value.cells, co_int, co_str, co_bool, co_hard, co_ents] using hg3 1 _ rfl
        have q2 : DataW.trod enc Try.prog w base spare held n3 3 [c5] = some z2 := by simpa [Value.cells, co_int, co_str, co_bool, co_hard, co_ents] using hg3 2 _ rfl
        obtain ⟨b0', k0, _, _⟩ := DataW.trod_int Try.underlying3 q0
        obtain ⟨b1', k1, _, _⟩ := DataW.trod_int Try.underlying3 q1
        obtain ⟨b2', k2, _, _⟩ := DataW.trod_int Try.underlying3 q2
        have hd : x.1 = .agg [y0.1, y1.1, y2.1, y3.1, y4.1, y5.1, y6.1, y7.1] := by have := congrArg Prod.fst hx; simpa using this
        obtain ⟨A, c, l, e2, hr⟩ := open_entries g2 (fun n hn => hw n (by
          rw [hd]
          simp only [DataW.weights, Try.underlying26]
          exact DataW.weights_mem_each (j := 2) (t := 22) (d := y2.1) rfl rfl n hn))
        refine ⟨⟨a0, a1, l, b0', b1', b2', a4, a5, a6, a7⟩, A, c, ?_, hr⟩
        have i0 : c0 = .int .i64 a0 := by simpa using e0
        have i1 : c1 = .int .i64 a1 := by simpa using e1
        have i2 : c2 = .slice A l.length c := by simpa using e2
        have i3 : c3 = .int .i64 b0' := by simpa using k0
        have i4 : c4 = .int .i64 b1' := by simpa using k1
        have i5 : c5 = .int .i64 b2' := by simpa using k2
        have i6 : c6 = .int .i64 a4 := by simpa using e4
        have i7 : c7 = .int .i64 a5 := by simpa using e5
        have i8 : c8 = .bool a6 := by simpa using e6
        have i9 : c9 = .bool a7 := by simpa using e7
        rw [i0, i1, i2, i3, i4, i5, i6, i7, i8, i9]; rfl
theorem weights_all {e : TypeId} {D : Nat → DataW H} {len i n : Nat} (hi : i < len) (h : n ∈ (D i).weights Try.prog e) : n ∈ DataW.weightsAll Try.prog e ((List.range len).map D) := by
  induction len generalizing D i with
  | zero => omega
  | succ m ih =>
    rw [List.range_succ_eq_map, List.map_cons, List.map_map, DataW.weightsAll]
    rcases i with _ | i
    · exact List.mem_append_left _ h
    · exact List.mem_append_right _ (ih (D := D ∘ Nat.succ) (i := i) (by omega) h)
/-- a slice of parts -/
theorem open_prts {fuel : Nat} {cs : List Value} {x : DataW H × List MemPlace} (h : DataW.trod enc Try.prog w base spare held fuel 45 cs = some x) (hw : ∀ n ∈ x.1.weights Try.prog 45, n ≤ reachBytes) :
    ∃ A c l, cs = [.slice A (l : List Prt).length c] ∧ RdP w A c l := by
  rcases open_slice Try.underlying45 h with ⟨rfl, _⟩ | ⟨a, len, cap, m, n, D, Pl, rfl, hb, hl, hm, hmm, rfl, hi⟩
  · exact ⟨none, 0, [], rfl, RdP.nil w⟩
  · have hlen : len ≤ 4398046511104 := by
      have h1 := hw ((((List.range len).map D).length + ((List.range (m - len)).map fun j => D (len + j)).length) * Try.prog.bytesOf 26) (by simp only [DataW.weights, Try.underlying45, List.mem_cons, true_or])
      rw [by_prt] at h1
      simp only [List.length_map, List.length_range] at h1
      have h2 : reachBytes = 140737488351232 := by decide
      rw [h2] at h1
      omega
    have hmm' : len ≤ m := by rw [hmm]; split <;> omega
    have hE : ∀ i, ∃ p : Prt, i < len → PAt w (a.add (i * 10)) p := by
      intro i
      by_cases hlt : i < len
      · obtain ⟨cs', hc, ht⟩ := hi i (by omega)
        rw [co_prt] at hc
        obtain ⟨p, A, c, rfl, hr⟩ := open_prt ht (fun k hk => hw k (by
          simp only [DataW.weights, Try.underlying45]
          exact List.mem_cons_of_mem _ (List.mem_append_left _ (weights_all hlt hk))))
        obtain ⟨_, _, hat⟩ := World.cells?_some hc
        refine ⟨p, fun _ => ⟨A, c, fun j u hu => ?_, hr⟩⟩
        have hj := (List.getElem?_eq_some_iff.1 hu).1
        have hj10 : j < 10 := hj
        have := hat j hj10
        rw [this]
        exact hu
      · exact ⟨⟨0, 0, [], 0, 0, 0, 0, 0, false, false⟩, fun h => absurd h hlt⟩
    refine ⟨some a, cap, (List.range len).map (fun i => Classical.choose (hE i)), by simp, ⟨fun j p hj => ⟨a, rfl, ?_⟩, by simpa using hl, by simpa using hlen⟩⟩
    have hjl : j < len := by have := (List.getElem?_eq_some_iff.1 hj).1; simpa using this
    have hp : p = Classical.choose (hE j) := by
      rw [List.getElem?_map, List.getElem?_range hjl] at hj
      exact (Option.some.inj hj).symm
    rw [hp]
    exact Classical.choose_spec (hE j) hjl
theorem open_parts {r : Reach} {b0 : Nat} {v : Value} {d : DataW H} {q : List MemPlace} (hv : Value.okWide Try.prog w r b0 45 v) (h : DataW.Trod enc Try.prog w base spare held 45 v d q) (hw : ∀ n ∈ d.weights Try.prog 45, n ≤ reachBytes) :
    ∃ l A c, v = .slice A (l : List Prt).length c ∧ RdP w A c l := by
  obtain ⟨a, len, cap, rfl⟩ := okWide_slice Try.underlying45 hv
  obtain ⟨fuel, hf⟩ := h
  obtain ⟨A, c, l, e, hr⟩ := open_prts hf hw
  refine ⟨l, A, c, ?_, hr⟩
  have e2 : [Value.slice a len cap] = [Value.slice A l.length c] := by simpa [Value.cells] using e
  exact List.head_eq_of_cons_eq e2
end
end Go.Proofs.Ytokjhocjemjfiaa.Sp
