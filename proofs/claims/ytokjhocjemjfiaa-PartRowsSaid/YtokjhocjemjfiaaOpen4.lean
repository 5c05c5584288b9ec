/- Arguments that are groups and parts: what they read as. -/
import Derived.Test.YtokjhocjemjfiaaMb
import Derived.Deep.Slices
import Derived.ChangeSame
import Derived.WideShapes
import Derived.SizedLaws
set_option linter.unusedVariables false
set_option linter.unusedSimpArgs false
namespace Go.Proofs.Ytokjhocjemjfiaa.Sp
open Go Go.RowKit Go.ChangeShapes Go.WideShapes Go.Deep Go.Proofs.Ytokjhocjemjfiaa.A Go.Proofs.Ytokjhocjemjfiaa.PartW Go.Proofs.YtokjhocjemjfiaaW.PrintWords Go.Proofs.YtokjhocjemjfiaaW.PrintLast Go.Proofs.YtokjhocjemjfiaaW.PrintMore
theorem co_int : Try.prog.cellsOf 3 = 1 := by kernel_rfl
theorem co_str : Try.prog.cellsOf 9 = 1 := by kernel_rfl
theorem co_bool : Try.prog.cellsOf 4 = 1 := by kernel_rfl
theorem co_hard : Try.prog.cellsOf 24 = 3 := by kernel_rfl
theorem co_ents : Try.prog.cellsOf 22 = 1 := by kernel_rfl
theorem co_ent : Try.prog.cellsOf 28 = 3 := by kernel_rfl
theorem co_prt : Try.prog.cellsOf 26 = 10 := by kernel_rfl
theorem by_ent : Try.prog.bytesOf 28 = 32 := by kernel_rfl
section
variable {H : Type} {enc : TypeId × Value → H} {w : World} {base : Nat} {spare : Nat → Bool} {held : Bool}
theorem open_ent {fuel : Nat} {cs : List Value} {x : DataW H × List MemPlace} (h : DataW.trod enc Try.prog w base spare held fuel 28 cs = some x) : ∃ e : Ent, cs = [.int .i64 e.f0, .int .i64 e.f1, .string e.f2] := by
  obtain ⟨xs, n, _, _, hl, hlen, hf⟩ := DataW.trod_struct Try.underlying28 h
  rw [co_ent] at hl
  match cs, hl with
  | [c0, c1, c2], _ =>
    match xs, hlen with
    | [y0, y1, y2], _ =>
      have g0 : DataW.trod enc Try.prog w base spare held n 3 [c0] = some y0 := by simpa [Value.cells, co_int, co_str, co_bool, co_hard, co_ents] using hf 0 _ rfl
      have g1 : DataW.trod enc Try.prog w base spare held n 3 [c1] = some y1 := by simpa [Value.cells, co_int, co_str, co_bool, co_hard, co_ents] using hf 1 _ rfl
      have g2 : DataW.trod enc Try.prog w base spare held n 9 [c2] = some y2 := by simpa [Value.cells, co_int, co_str, co_bool, co_hard, co_ents] using hf 2 _ rfl
      obtain ⟨a0, e0, _, _⟩ := DataW.trod_int Try.underlying3 g0
      obtain ⟨a1, e1, _, _⟩ := DataW.trod_int Try.underlying3 g1
      obtain ⟨a2, e2, _, _⟩ := DataW.trod_string Try.underlying9 g2
      refine ⟨⟨a0, a1, a2⟩, ?_⟩
      have k0 : c0 = .int .i64 a0 := by simpa using e0
      have k1 : c1 = .int .i64 a1 := by simpa using e1
      have k2 : c2 = .string a2 := by simpa using e2
      rw [k0, k1, k2]
/-- a slice of entries; how many there are, as the reading's weights tell -/
theorem open_entries {fuel : Nat} {cs : List Value} {x : DataW H × List MemPlace} (h : DataW.trod enc Try.prog w base spare held fuel 22 cs = some x) (hw : ∀ n ∈ x.1.weights Try.prog 22, n ≤ reachBytes) :
    ∃ A c l, cs = [.slice A (l : List Ent).length c] ∧ Rd w A c l := by
  rcases open_slice Try.underlying22 h with ⟨rfl, _⟩ | ⟨a, len, cap, m, n, D, Pl, rfl, hb, hl, hm, hmm, rfl, hi⟩
  · exact ⟨none, 0, [], rfl, Rd.nil w⟩
  · have hlen : len ≤ 4398046511104 := by
      have h1 := hw ((((List.range len).map D).length + ((List.range (m - len)).map fun j => D (len + j)).length) * Try.prog.bytesOf 28) (by simp only [DataW.weights, Try.underlying22, List.mem_cons, true_or])
      rw [by_ent] at h1
      simp only [List.length_map, List.length_range] at h1
      have h2 : reachBytes = 140737488351232 := by decide
      rw [h2] at h1
      omega
    have hmm' : len ≤ m := by rw [hmm]; split <;> omega
    have hE : ∀ i, ∃ e : Ent, i < len → ∀ j u, [Value.int .i64 e.f0, .int .i64 e.f1, .string e.f2][j]? = some u → w.cell? (a.add (i * 3 + j)) = some u := by
      intro i
      by_cases hlt : i < len
      · obtain ⟨cs', hc, ht⟩ := hi i (by omega)
        rw [co_ent] at hc
        obtain ⟨e, rfl⟩ := open_ent ht
        obtain ⟨_, _, hat⟩ := World.cells?_some hc
        refine ⟨e, fun _ j u hu => ?_⟩
        have hj := (List.getElem?_eq_some_iff.1 hu).1
        have := hat j (by simpa using hj)
        rw [← Go.Deep.add_add, this]
        exact hu
      · exact ⟨⟨0, 0, ⟨#[]⟩⟩, fun h => absurd h hlt⟩
    refine ⟨some a, cap, (List.range len).map (fun i => Classical.choose (hE i)), by simp, ⟨⟨rfl, by simp; omega, fun _ => ⟨a, rfl, fun j p hj => ?_⟩⟩, by simpa using hl, by simpa using hlen⟩⟩
    have hjl : j < len := by have := (List.getElem?_eq_some_iff.1 hj).1; simpa using this
    have hp : p = Classical.choose (hE j) := by
      rw [List.getElem?_map, List.getElem?_range hjl] at hj
      exact (Option.some.inj hj).symm
    refine ⟨[.int .i64 p.f0, .int .i64 p.f1, .string p.f2], rfl, k28_mk _ p, fun i u hu => ?_⟩
    rw [hp] at hu
    exact Classical.choose_spec (hE j) hjl i u hu
theorem open_entry {r : Reach} {b0 : Nat} {v : Value} {d : DataW H} {q : List MemPlace} (hv : Value.okWide Try.prog w r b0 28 v) (h : DataW.Trod enc Try.prog w base spare held 28 v d q) :
    ∃ e : Ent, v = .agg #[.int .i64 e.f0, .int .i64 e.f1, .string e.f2] := by
  obtain ⟨cs, rfl, hsz⟩ := okWide_struct Try.underlying28 hv
  rw [co_ent] at hsz
  obtain ⟨l⟩ := cs
  match l, hsz with
  | [c0, c1, c2], _ =>
    obtain ⟨fuel, hf⟩ := h
    obtain ⟨xs, n, _, hx, _, hlen, hg⟩ := DataW.trod_struct Try.underlying28 hf
    match xs, hlen with
    | [y0, y1, y2], _ =>
      have g0 : DataW.trod enc Try.prog w base spare held n 3 [c0] = some y0 := by simpa [Value.cells, co_int, co_str, co_bool, co_hard, co_ents] using hg 0 _ rfl
      have g1 : DataW.trod enc Try.prog w base spare held n 3 [c1] = some y1 := by simpa [Value.cells, co_int, co_str, co_bool, co_hard, co_ents] using hg 1 _ rfl
      have g2 : DataW.trod enc Try.prog w base spare held n 9 [c2] = some y2 := by simpa [Value.cells, co_int, co_str, co_bool, co_hard, co_ents] using hg 2 _ rfl
      obtain ⟨a0, e0, _, _⟩ := DataW.trod_int Try.underlying3 g0
      obtain ⟨a1, e1, _, _⟩ := DataW.trod_int Try.underlying3 g1
      obtain ⟨a2, e2, _, _⟩ := DataW.trod_string Try.underlying9 g2
      refine ⟨⟨a0, a1, a2⟩, ?_⟩
      have k0 : c0 = .int .i64 a0 := by simpa using e0
      have k1 : c1 = .int .i64 a1 := by simpa using e1
      have k2 : c2 = .string a2 := by simpa using e2
      rw [k0, k1, k2]
theorem open_part {r : Reach} {b0 : Nat} {v : Value} {d : DataW H} {q : List MemPlace} (hv : Value.okWide Try.prog w r b0 26 v) (h : DataW.Trod enc Try.prog w base spare held 26 v d q) (hw : ∀ n ∈ d.weights Try.prog 26, n ≤ reachBytes) :
    ∃ p A c, v = vP p A c ∧ Rd w A c p.l := by
  obtain ⟨cs, rfl, hsz⟩ := okWide_struct Try.underlying26 hv
  rw [co_prt] at hsz
  obtain ⟨l⟩ := cs
  match l, hsz with
  | [c0, c1, c2, c3, c4, c5, c6, c7, c8, c9], _ =>
    obtain ⟨fuel, hf⟩ := h
    obtain ⟨xs, n, _, hx, _, hlen, hg⟩ := DataW.trod_struct Try.underlying26 hf
    match xs, hlen with
    | [y0, y1, y2, y3, y4, y5, y6, y7], _ =>
      have g0 : DataW.trod enc Try.prog w base spare held n 3 [c0] = some y0 := by simpa [Value.cells, co_int, co_str, co_bool, co_hard, co_ents] using hg 0 _ rfl
      have g1 : DataW.trod enc Try.prog w base spare held n 3 [c1] = some y1 := by simpa [Value.cells, co_int, co_str, co_bool, co_hard, co_ents] using hg 1 _ rfl
      have g2 : DataW.trod enc Try.prog w base spare held n 22 [c2] = some y2 := by simpa [Value.cells, co_int, co_str, co_bool, co_hard, co_ents] using hg 2 _ rfl
      have g3 : DataW.trod enc Try.prog w base spare held n 24 [c3, c4, c5] = some y3 := by simpa [Value.cells, co_int, co_str, co_bool, co_hard, co_ents] using hg 3 _ rfl
      have g4 : DataW.trod enc Try.prog w base spare held n 3 [c6] = some y4 := by simpa [Value.cells, co_int, co_str, co_bool, co_hard, co_ents] using hg 4 _ rfl
      have g5 : DataW.trod enc Try.prog w base spare held n 3 [c7] = some y5 := by simpa [Value.cells, co_int, co_str, co_bool, co_hard, co_ents] using hg 5 _ rfl
      have g6 : DataW.trod enc Try.prog w base spare held n 4 [c8] = some y6 := by simpa [Value.cells, co_int, co_str, co_bool, co_hard, co_ents] using hg 6 _ rfl
      have g7 : DataW.trod enc Try.prog w base spare held n 4 [c9] = some y7 := by simpa [Value.cells, co_int, co_str, co_bool, co_hard, co_ents] using hg 7 _ rfl
      obtain ⟨a0, e0, _, _⟩ := DataW.trod_int Try.underlying3 g0
      obtain ⟨a1, e1, _, _⟩ := DataW.trod_int Try.underlying3 g1
      obtain ⟨a4, e4, _, _⟩ := DataW.trod_int Try.underlying3 g4
      obtain ⟨a5, e5, _, _⟩ := DataW.trod_int Try.underlying3 g5
      obtain ⟨a6, e6, _⟩ := DataW.trod_bool Try.underlying4 g6
      obtain ⟨a7, e7, _⟩ := DataW.trod_bool Try.underlying4 g7
      obtain ⟨xs3, n3, _, _, _, hlen3, hg3⟩ := DataW.trod_struct Try.underlying24 g3
      match xs3, hlen3 with
      | [z0, z1, z2], _ =>
        have q0 : DataW.trod enc Try.prog w base spare held n3 3 [c3] = some z0 := by simpa [Value.cells, co_int, co_str, co_bool, co_hard, co_ents] using hg3 0 _ rfl
        have q1 : DataW.trod enc Try.prog w base spare held n3 3 [c4] = some z1 := by simpa [Value.cells, co_int, co_str, co_bool, co_hard, co_ents] using hg3 1 _ rfl
        have q2 : DataW.trod enc Try.prog w base spare held n3 3 [c5] = some z2 := by simpa [Value.cells, co_int, co_str, co_bool, co_hard, co_ents] using hg3 2 _ rfl
        obtain ⟨b0', k0, _, _⟩ := DataW.trod_int Try.underlying3 q0
        obtain ⟨b1', k1, _, _⟩ := DataW.trod_int Try.underlying3 q1
        obtain ⟨b2', k2, _, _⟩ := DataW.trod_int Try.underlying3 q2
        have hd : d = .agg [y0.1, y1.1, y2.1, y3.1, y4.1, y5.1, y6.1, y7.1] := by have := congrArg Prod.fst hx; simpa using this
        obtain ⟨A, c, l, e2, hr⟩ := open_entries g2 (fun n hn => hw n (by
          rw [hd]
          simp only [DataW.weights, Try.underlying26]
          exact DataW.weights_mem_each (j := 2) (t := 22) (d := y2.1) rfl rfl n hn))
        refine ⟨⟨a0, a1, l, b0', b1', b2', a4, a5, a6, a7⟩, A, c, ?_, hr⟩
        have i0 : c0 = .int .i64 a0 := by simpa using e0
        have i1 : c1 = .int .i64 a1 := by simpa using e1
        have i2 : c2 = .slice A l.length c := by simpa using e2
        have i3 : c3 = .int .i64 b0' := by simpa using k0
        have i4 : c4 = .int .i64 b1' := by simpa using k1
        have i5 : c5 = .int .i64 b2' := by simpa using k2
        have i6 : c6 = .int .i64 a4 := by simpa using e4
        have i7 : c7 = .int .i64 a5 := by simpa using e5
        have i8 : c8 = .bool a6 := by simpa using e6
        have i9 : c9 = .bool a7 := by simpa using e7
        rw [i0, i1, i2, i3, i4, i5, i6, i7, i8, i9]
end
end Go.Proofs.Ytokjhocjemjfiaa.Sp
