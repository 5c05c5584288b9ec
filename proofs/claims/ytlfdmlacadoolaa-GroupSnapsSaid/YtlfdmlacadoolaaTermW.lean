/- The walks of group.Term, group.Entries and the reference's. -/
import Derived.Test.YtlfdmlacadoolaaGrpDo
set_option linter.unusedVariables false
set_option linter.unusedSimpArgs false
namespace Go.Proofs.Ytlfdmlacadoolaa.Sp
open Go Go.RowKit Go.Proofs.Ytlfdmlacadoolaa.A Go.Proofs.Ytlfdmlacadoolaa.Seq Go.Proofs.YtlfdmlacadoolaaW.PrintWords Go.Proofs.YtlfdmlacadoolaaW.PrintLast Go.Proofs.YtlfdmlacadoolaaW.PrintMore
/-- the term of an index, and the class -/
def trm (g : Grp) (i : Int) : Int × Int := if i < g.fi - 1 ∨ (i = g.fi - 1 ∧ g.tm = 0) then (0, 15) else if i = g.fi - 1 then (g.tm, 0) else if lastG g < i then (0, 16) else (termL g.l i, 0)
/-- the entries from one index up to another one, and the class -/
def ents (g : Grp) (lo hi : Int) : List Ent × Int := if hi < lo then ([], 11) else if lo < g.fi then ([], 15) else if lastG g < hi - 1 then ([], 16) else (withL g.l lo hi, 0)
theorem dense_at {g : Grp} (h : isG true g = true) {x : Int} (h1 : g.fi ≤ x) (h2 : ¬ lastG g < x) : atL g.l x = x - g.fi ∧ termL g.l x = (el g.l (x - g.fi).toNat).f1 := by
  have h3 := dense_last h
  have h4 : (x - g.fi).toNat < g.l.length := by omega
  have h5 : atL g.l x = (((x - g.fi).toNat : Nat) : Int) := by
    refine atL_hit h4 (by rw [dense_el h _ h4]; omega) (fun j hj => ?_)
    rw [dense_el h j (by omega)]
    omega
  have h6 := at_some (l := g.l) (i := x) (by rw [h5]; omega)
  rw [h5, Int.toNat_natCast] at h6
  exact ⟨by rw [h5]; omega, h6.2.symm⟩
theorem ent_term (l : List Ent) (i : Int) : (entL l i).f1 = termL l i := by
  unfold entL termL
  cases findL l i <;> rfl
theorem dense_with {g : Grp} (h : isG true g = true) : ∀ (l : List Ent) (k : Nat), k + l.length = g.l.length → l = g.l.drop k → ∀ lo hi : Nat, lo ≤ hi → withL l (g.fi + k + lo) (g.fi + k + hi) = (l.drop lo).take (hi - lo)
  | [], k, _, _, lo, hi, _ => by simp [withL]
  | e :: l, k, hk, hl, lo, hi, hlh => by
    rw [List.length_cons] at hk
    have he : el g.l k = e := by
      have h1 := drop_el (l := g.l) (i := k) (by omega)
      rw [← hl] at h1
      injection h1 with h2 h3
      exact h2.symm
    have hl2 : l = g.l.drop (k + 1) := by
      have h1 := drop_el (l := g.l) (i := k) (by omega)
      rw [← hl] at h1
      injection h1 with h2 h3
    have hf := dense_el h k (by omega)
    rw [he] at hf
    unfold withL
    rcases Nat.eq_zero_or_pos lo with hz | hz
    · subst hz
      rcases Nat.eq_zero_or_pos hi with hz2 | hz2
      · subst hz2
        rw [List.filter_eq_nil_iff.2 (fun x _ => by unfold inR; simp; try omega)]
        rfl
      · obtain ⟨j, rfl⟩ : ∃ j, hi = j + 1 := ⟨hi - 1, by omega⟩
        rw [List.filter_cons_of_pos (by unfold inR; simp; try omega)]
        have h2 := dense_with h l (k + 1) (by omega) hl2 0 j (Nat.zero_le _)
        unfold withL at h2
        simp only [List.drop_zero, Nat.sub_zero] at h2 ⊢
        rw [List.take_succ_cons, ← h2]
        congr 1
        refine List.filter_congr fun x hx => ?_
        obtain ⟨m, hm, rfl⟩ := List.mem_iff_getElem.1 hx
        have h3 := dense_el h (k + 1 + m) (by omega)
        have h4 : el g.l (k + 1 + m) = l[m] := by
          rw [el_get (by omega)]
          simp [hl2]
        rw [h4] at h3
        unfold inR
        simp only [Int.natCast_zero, Int.add_zero]
        congr 1 <;> (apply decide_eq_decide.2; omega)
    · obtain ⟨j, rfl⟩ : ∃ j, lo = j + 1 := ⟨lo - 1, by omega⟩
      obtain ⟨q, rfl⟩ : ∃ q, hi = q + 1 := ⟨hi - 1, by omega⟩
      rw [List.filter_cons_of_neg (by unfold inR; simp; try omega)]
      have h2 := dense_with h l (k + 1) (by omega) hl2 j q (by omega)
      unfold withL at h2
      rw [List.drop_succ_cons, show q + 1 - (j + 1) = q - j by omega, ← h2]
      congr 2 <;> omega
theorem dense_cut {g : Grp} (h : isG true g = true) {lo hi : Int} (h1 : g.fi ≤ lo) (h2 : lo ≤ hi) : withL g.l lo hi = (g.l.drop (lo - g.fi).toNat).take ((hi - g.fi).toNat - (lo - g.fi).toNat) := by
  have h3 := dense_with h g.l 0 (by omega) (by simp) (lo - g.fi).toNat (hi - g.fi).toNat (by omega)
  rw [← h3]
  congr 1 <;> omega
theorem Rd.sub {w : World} {A : Option Addr} {c : Nat} {l : List Ent} (h : Rd w A c l) (lo hi : Nat) (h1 : lo ≤ hi) (h2 : hi ≤ l.length) : Rd w (if c = lo then A else A.map (·.add (lo * 3))) (c - lo) ((l.drop lo).take (hi - lo)) := by
  have hlen : ((l.drop lo).take (hi - lo)).length = hi - lo := by rw [List.length_take, List.length_drop]; omega
  refine ⟨⟨rfl, by rw [hlen]; have := h.bd; omega, fun h0 => ?_⟩, by rw [hlen]; have := h.le; omega, by rw [hlen]; have := h.bd; omega⟩
  rw [hlen] at h0
  obtain ⟨_, _, h3⟩ := h.rd
  obtain ⟨ad, hA, h3⟩ := h3 (by omega)
  rw [if_neg (by have := h.le; omega), hA]
  refine ⟨ad.add (lo * 3), rfl, fun j p hp => ?_⟩
  rw [List.getElem?_take] at hp
  split at hp
  · next hj =>
    rw [List.getElem?_drop] at hp
    obtain ⟨cs, hc1, hc2, hc3⟩ := h3 (lo + j) p hp
    refine ⟨cs, hc1, hc2, fun i u hu => ?_⟩
    have h4 := hc3 i u hu
    have h5 : (ad.add (lo * 3)).add (j * 3 + i) = ad.add ((lo + j) * 3 + i) := by
      rw [Addr.add_add, show lo * 3 + (j * 3 + i) = (lo + j) * 3 + i by rw [Nat.add_mul]; omega]
    exact (congrArg w.cell? h5).trans h4
  · cases hp
end Go.Proofs.Ytlfdmlacadoolaa.Sp
namespace Go.Proofs.Ytlfdmlacadoolaa.PartW
open Go Go.RowKit Go.Shelf Go.Proofs.Ytlfdmlacadoolaa.A Go.Proofs.Ytlfdmlacadoolaa.Sp Go.Proofs.Ytlfdmlacadoolaa.Reg Go.Proofs.Ytlfdmlacadoolaa.Seq Go.Proofs.YtlfdmlacadoolaaW.PrintWords Go.Proofs.YtlfdmlacadoolaaW.PrintLast Go.Proofs.YtlfdmlacadoolaaW.PrintMore
/-- entries are given back, and a class -/
def GotS (w : World) (l : List Ent) (x : Int) (e : Ending) (w' : World) : Prop := ∃ A c, e = .returned (.tuple #[.slice A l.length c, .int .i64 x]) ∧ Rd w' A c l ∧ Below w.heap.size w w'
/-- a group in its box -/
structure One1 (g : Grp) (A : Option Addr) (c : Nat) (s : Nat) (w W : World) : Prop where
  hs : w.heap.size = s
  bg : BlkG g A c s W
  rg : Rd W A c g.l
  b : Below s w W
  sz : s + 1 ≤ W.heap.size
section
variable {g : Grp} {A : Option Addr} {c : Nat} {s : Nat} {w W W' : World}
theorem One1.below (h : One1 g A c s w W) (hb : Below W.heap.size W W') : One1 g A c s w W' :=
  ⟨h.hs, h.bg.below hb, h.rg.below hb, h.b.trans (hb.mono (by have := h.sz; omega)), Nat.le_trans h.sz hb.size⟩
theorem One1.new (g : Grp) (A : Option Addr) (c : Nat) (w : World) (h : Rd w A c g.l) : One1 g A c w.heap.size w (w.alloc (.cells #[.int .i64 g.id, .int .i64 g.fi, .int .i64 g.tm, .int .i64 g.ht, .int .i64 g.hv, .int .i64 g.hc, .slice A g.l.length c] 26)) :=
  ⟨rfl, BlkG.new g A c w, h.alloc _, by repeat (first | exact Below.refl _ _ | apply below_alloc), by simp⟩
end
set_option maxHeartbeats 8000000 in
set_option maxRecDepth 100000 in
theorem group_Term_t1 (g : Grp) (A : Option Addr) (c : Nat) (i : Int) (w : World) (h : Rd w A c g.l) (hD : isG true g = true) (h1 : i < g.fi - 1) :
    Calls Try.prog 27 #[vG g A c, .int .i64 i] w fun e w' => e = .returned (.tuple #[.int .i64 (trm g i).1, .int .i64 (trm g i).2]) ∧ Below w.heap.size w w' := by
  have hf := isG_fi hD
  have hwp : IntKind.i64.wrap (g.fi - 1) = g.fi - 1 := by rw [i64_w]; unfold wrap64; omega
  obtain ⟨s, hs⟩ : ∃ s, w.heap.size = s := ⟨_, rfl⟩
  have HG : Aside0 (trm g i = (0, 15)) := ⟨by unfold trm; rw [if_pos (.inl h1)]⟩
  have j1 : decide (i < g.fi - 1) = true := decide_eq_true h1
  clear h1
  have hg0 := One1.new g A c w h
  rw [hs] at hg0
  have HP0 := Aside0.mk hg0
  have HS := Aside0.mk hs
  clear h hg0 hf hD
  unfold vG
  go_enter Try.func27, Try.ntmps27
  go_wp2
  refine bodyPost_ret (v := .tuple #[.int .i64 0, .int .i64 15]) (by simp [results, Try.results27, go_sem]) rfl ⟨by rw [HG.out], by first | exact HP0.out.b | (rw [HS.out]; exact HP0.out.b) | (rw [HS.out]; exact below_alloc HP0.out.b) | (rw [HS.out]; exact HP0.out.b.alloc (by have := HP0.out.sz; omega) _)⟩
set_option maxHeartbeats 8000000 in
set_option maxRecDepth 100000 in
theorem group_Term_t2 (g : Grp) (A : Option Addr) (c : Nat) (i : Int) (w : World) (h : Rd w A c g.l) (hD : isG true g = true) (h1 : ¬ i < g.fi - 1) (h2 : i = g.fi - 1) (h3 : g.tm = 0) :
    Calls Try.prog 27 #[vG g A c, .int .i64 i] w fun e w' => e = .returned (.tuple #[.int .i64 (trm g i).1, .int .i64 (trm g i).2]) ∧ Below w.heap.size w w' := by
  have hf := isG_fi hD
  have hwp : IntKind.i64.wrap (g.fi - 1) = g.fi - 1 := by rw [i64_w]; unfold wrap64; omega
  obtain ⟨s, hs⟩ : ∃ s, w.heap.size = s := ⟨_, rfl⟩
  have HG : Aside0 (trm g i = (0, 15)) := ⟨by unfold trm; rw [if_pos (.inr ⟨h2, h3⟩)]⟩
  have j1 : decide (i < g.fi - 1) = false := decide_eq_false h1
  have j2 : (i == g.fi - 1) = true := beq_iff_eq.2 h2
  have j3 : (g.tm == 0) = true := beq_iff_eq.2 h3
  clear h1 h2 h3
  have hg0 := One1.new g A c w h
  rw [hs] at hg0
  have HP0 := Aside0.mk hg0
  have HS := Aside0.mk hs
  clear h hg0 hf hD
  unfold vG
  go_enter Try.func27, Try.ntmps27
  go_wp2
  refine bodyPost_ret (v := .tuple #[.int .i64 0, .int .i64 15]) (by simp [results, Try.results27, go_sem]) rfl ⟨by rw [HG.out], by first | exact HP0.out.b | (rw [HS.out]; exact HP0.out.b) | (rw [HS.out]; exact below_alloc HP0.out.b) | (rw [HS.out]; exact HP0.out.b.alloc (by have := HP0.out.sz; omega) _)⟩
set_option maxHeartbeats 8000000 in
set_option maxRecDepth 100000 in
theorem group_Term_t3 (g : Grp) (A : Option Addr) (c : Nat) (i : Int) (w : World) (h : Rd w A c g.l) (hD : isG true g = true) (h1 : ¬ i < g.fi - 1) (h2 : i = g.fi - 1) (h3 : g.tm ≠ 0) :
    Calls Try.prog 27 #[vG g A c, .int .i64 i] w fun e w' => e = .returned (.tuple #[.int .i64 (trm g i).1, .int .i64 (trm g i).2]) ∧ Below w.heap.size w w' := by
  have hf := isG_fi hD
  have hwp : IntKind.i64.wrap (g.fi - 1) = g.fi - 1 := by rw [i64_w]; unfold wrap64; omega
  obtain ⟨s, hs⟩ : ∃ s, w.heap.size = s := ⟨_, rfl⟩
  have HG : Aside0 (trm g i = (g.tm, 0)) := ⟨by unfold trm; rw [if_neg (fun h => h.elim h1 (fun h => h3 h.2)), if_pos h2]⟩
  have j1 : decide (i < g.fi - 1) = false := decide_eq_false h1
  have j2 : (i == g.fi - 1) = true := beq_iff_eq.2 h2
  have j3 : (g.tm == 0) = false := beq_eq_false_iff_ne.2 h3
  clear h1 h2 h3
  have hg0 := One1.new g A c w h
  rw [hs] at hg0
  have HP0 := Aside0.mk hg0
  have HS := Aside0.mk hs
  clear h hg0 hf hD
  unfold vG
  go_enter Try.func27, Try.ntmps27
  go_wp2
  refine bodyPost_ret (v := .tuple #[.int .i64 g.tm, .int .i64 0]) (by simp [results, Try.results27, go_sem]) rfl ⟨by rw [HG.out], by first | exact HP0.out.b | (rw [HS.out]; exact HP0.out.b) | (rw [HS.out]; exact below_alloc HP0.out.b) | (rw [HS.out]; exact HP0.out.b.alloc (by have := HP0.out.sz; omega) _)⟩
set_option maxHeartbeats 8000000 in
set_option maxRecDepth 100000 in
theorem group_Term_t4 (g : Grp) (A : Option Addr) (c : Nat) (i : Int) (w : World) (h : Rd w A c g.l) (hD : isG true g = true) (h1 : ¬ i < g.fi - 1) (h2 : i ≠ g.fi - 1) (h4 : lastG g < i) :
    Calls Try.prog 27 #[vG g A c, .int .i64 i] w fun e w' => e = .returned (.tuple #[.int .i64 (trm g i).1, .int .i64 (trm g i).2]) ∧ Below w.heap.size w w' := by
  have hf := isG_fi hD
  have hwp : IntKind.i64.wrap (g.fi - 1) = g.fi - 1 := by rw [i64_w]; unfold wrap64; omega
  obtain ⟨s, hs⟩ : ∃ s, w.heap.size = s := ⟨_, rfl⟩
  have HG : Aside0 (trm g i = (0, 16)) := ⟨by unfold trm; rw [if_neg (fun h => h.elim h1 (fun h => h2 h.1)), if_neg h2, if_pos h4]⟩
  have j1 : decide (i < g.fi - 1) = false := decide_eq_false h1
  have j2 : (i == g.fi - 1) = false := beq_eq_false_iff_ne.2 h2
  have j4 : decide (lastG g < i) = true := decide_eq_true h4
  clear h1 h2 h4
  have hg0 := One1.new g A c w h
  rw [hs] at hg0
  have HP0 := Aside0.mk hg0
  have HS := Aside0.mk hs
  clear h hg0 hf hD
  unfold vG
  go_enter Try.func27, Try.ntmps27
  go_wp2_with (first | (go_at_call 25; refine (group_Last' g A c _ HP0.out.rg).mono ?_; rintro e w1 ⟨rfl, hw1⟩; have HP1 := Aside0.mk (HP0.out.below hw1); clear hw1; obtain ⟨e0, e1, e2, e3, e4, e5, e6⟩ := HP1.out.bg.box) | fail)
  refine bodyPost_ret (v := .tuple #[.int .i64 0, .int .i64 16]) (by simp [results, Try.results27, go_sem]) rfl ⟨by rw [HG.out], by first | exact HP1.out.b | (rw [HS.out]; exact HP1.out.b) | (rw [HS.out]; exact below_alloc HP1.out.b) | (rw [HS.out]; exact HP1.out.b.alloc (by have := HP1.out.sz; omega) _)⟩
set_option maxHeartbeats 8000000 in
set_option maxRecDepth 100000 in
theorem group_Term_t5 (g : Grp) (A : Option Addr) (c : Nat) (i : Int) (w : World) (h : Rd w A c g.l) (hD : isG true g = true) (h1 : ¬ i < g.fi - 1) (h2 : i ≠ g.fi - 1) (h4 : ¬ lastG g < i) :
    Calls Try.prog 27 #[vG g A c, .int .i64 i] w fun e w' => e = .returned (.tuple #[.int .i64 (trm g i).1, .int .i64 (trm g i).2]) ∧ Below w.heap.size w w' := by
  have hf := isG_fi hD
  have hwp : IntKind.i64.wrap (g.fi - 1) = g.fi - 1 := by rw [i64_w]; unfold wrap64; omega
  obtain ⟨s, hs⟩ : ∃ s, w.heap.size = s := ⟨_, rfl⟩
  have HG : Aside0 (trm g i = ((entL g.l i).f1, 0)) := ⟨by unfold trm; rw [if_neg (fun h => h.elim h1 (fun h => h2 h.1)), if_neg h2, if_neg h4, ent_term]⟩
  have j1 : decide (i < g.fi - 1) = false := decide_eq_false h1
  have j2 : (i == g.fi - 1) = false := beq_eq_false_iff_ne.2 h2
  have j4 : decide (lastG g < i) = false := decide_eq_false h4
  have hla := dense_last hD
  have hbd := h.bd
  have HI : Aside0 (-9223372036854775808 ≤ i ∧ i ≤ 9223372036854775806) := ⟨by omega⟩
  obtain ⟨x, hx⟩ : ∃ x, entL g.l i = x := ⟨_, rfl⟩
  rw [hx] at HG
  have HX := Aside0.mk hx
  clear h1 h2 h4 hla hbd hx
  have hg0 := One1.new g A c w h
  rw [hs] at hg0
  have HP0 := Aside0.mk hg0
  have HS := Aside0.mk hs
  clear h hg0 hf hD
  unfold vG
  go_enter Try.func27, Try.ntmps27
  go_wp2_with (first | (go_at_call 25; refine (group_Last' g A c _ HP0.out.rg).mono ?_; rintro e w1 ⟨rfl, hw1⟩; have HP1 := Aside0.mk (HP0.out.below hw1); clear hw1; obtain ⟨e0, e1, e2, e3, e4, e5, e6⟩ := HP1.out.bg.box) | (go_at_call 43; refine (group_at g A c i _ HP1.out.rg HI.out.1 HI.out.2).mono ?_; rw [HX.out]; unfold vE; rintro e w2 ⟨rfl, hw2⟩; have HP2 := Aside0.mk (HP1.out.below hw2); clear hw2; clear e0 e1 e2 e3 e4 e5 e6; obtain ⟨e0, e1, e2, e3, e4, e5, e6⟩ := HP2.out.bg.box) | fail)
  refine bodyPost_ret (v := .tuple #[.int .i64 x.f1, .int .i64 0]) (by simp [results, Try.results27, go_sem]) rfl ⟨by rw [HG.out], by first | exact HP2.out.b | (rw [HS.out]; exact HP2.out.b) | (rw [HS.out]; exact below_alloc HP2.out.b) | (rw [HS.out]; exact HP2.out.b.alloc (by have := HP2.out.sz; omega) _)⟩
theorem group_Term (g : Grp) (A : Option Addr) (c : Nat) (i : Int) (w : World) (h : Rd w A c g.l) (hD : isG true g = true) :
    Calls Try.prog 27 #[vG g A c, .int .i64 i] w fun e w' => e = .returned (.tuple #[.int .i64 (trm g i).1, .int .i64 (trm g i).2]) ∧ Below w.heap.size w w' := by
  by_cases h1 : i < g.fi - 1
  · exact group_Term_t1 g A c i w h hD h1
  · by_cases h2 : i = g.fi - 1
    · by_cases h3 : g.tm = 0
      · exact group_Term_t2 g A c i w h hD h1 h2 h3
      · exact group_Term_t3 g A c i w h hD h1 h2 h3
    · by_cases h4 : lastG g < i
      · exact group_Term_t4 g A c i w h hD h1 h2 h4
      · exact group_Term_t5 g A c i w h hD h1 h2 h4
set_option maxHeartbeats 8000000 in
set_option maxRecDepth 100000 in
theorem ref_Term_t1 (g : Grp) (A : Option Addr) (c : Nat) (i : Int) (w : World) (h : Rd w A c g.l) (hD : isG true g = true) (h1 : i < g.fi - 1) :
    Calls Try.prog 28 #[vG g A c, .int .i64 i] w fun e w' => e = .returned (.tuple #[.int .i64 (trm g i).1, .int .i64 (trm g i).2]) ∧ Below w.heap.size w w' := by
  have hf := isG_fi hD
  have hwp : IntKind.i64.wrap (g.fi - 1) = g.fi - 1 := by rw [i64_w]; unfold wrap64; omega
  obtain ⟨s, hs⟩ : ∃ s, w.heap.size = s := ⟨_, rfl⟩
  have HG : Aside0 (trm g i = (0, 15)) := ⟨by unfold trm; rw [if_pos (.inl h1)]⟩
  have j1 : decide (i < g.fi - 1) = true := decide_eq_true h1
  clear h1
  have hg0 := One1.new g A c w h
  rw [hs] at hg0
  have HP0 := Aside0.mk hg0
  have HS := Aside0.mk hs
  clear h hg0 hf hD
  unfold vG
  go_enter Try.func28, Try.ntmps28
  go_wp2
  refine bodyPost_ret (v := .tuple #[.int .i64 0, .int .i64 15]) (by simp [results, Try.results28, go_sem]) rfl ⟨by rw [HG.out], by first | exact HP0.out.b | (rw [HS.out]; exact HP0.out.b) | (rw [HS.out]; exact below_alloc HP0.out.b) | (rw [HS.out]; exact HP0.out.b.alloc (by have := HP0.out.sz; omega) _)⟩
set_option maxHeartbeats 8000000 in
set_option maxRecDepth 100000 in
theorem ref_Term_t2 (g : Grp) (A : Option Addr) (c : Nat) (i : Int) (w : World) (h : Rd w A c g.l) (hD : isG true g = true) (h1 : ¬ i < g.fi - 1) (h2 : i = g.fi - 1) (h3 : g.tm = 0) :
    Calls Try.prog 28 #[vG g A c, .int .i64 i] w fun e w' => e = .returned (.tuple #[.int .i64 (trm g i).1, .int .i64 (trm g i).2]) ∧ Below w.heap.size w w' := by
  have hf := isG_fi hD
  have hwp : IntKind.i64.wrap (g.fi - 1) = g.fi - 1 := by rw [i64_w]; unfold wrap64; omega
  obtain ⟨s, hs⟩ : ∃ s, w.heap.size = s := ⟨_, rfl⟩
  have HG : Aside0 (trm g i = (0, 15)) := ⟨by unfold trm; rw [if_pos (.inr ⟨h2, h3⟩)]⟩
  have j1 : decide (i < g.fi - 1) = false := decide_eq_false h1
  have j2 : (i == g.fi - 1) = true := beq_iff_eq.2 h2
  have j3 : (g.tm == 0) = true := beq_iff_eq.2 h3
  clear h1 h2 h3
  have hg0 := One1.new g A c w h
  rw [hs] at hg0
  have HP0 := Aside0.mk hg0
  have HS := Aside0.mk hs
  clear h hg0 hf hD
  unfold vG
  go_enter Try.func28, Try.ntmps28
  go_wp2
  refine bodyPost_ret (v := .tuple #[.int .i64 0, .int .i64 15]) (by simp [results, Try.results28, go_sem]) rfl ⟨by rw [HG.out], by first | exact HP0.out.b | (rw [HS.out]; exact HP0.out.b) | (rw [HS.out]; exact below_alloc HP0.out.b) | (rw [HS.out]; exact HP0.out.b.alloc (by have := HP0.out.sz; omega) _)⟩
set_option maxHeartbeats 8000000 in
set_option maxRecDepth 100000 in
theorem ref_Term_t3 (g : Grp) (A : Option Addr) (c : Nat) (i : Int) (w : World) (h : Rd w A c g.l) (hD : isG true g = true) (h1 : ¬ i < g.fi - 1) (h2 : i = g.fi - 1) (h3 : g.tm ≠ 0) :
    Calls Try.prog 28 #[vG g A c, .int .i64 i] w fun e w' => e = .returned (.tuple #[.int .i64 (trm g i).1, .int .i64 (trm g i).2]) ∧ Below w.heap.size w w' := by
  have hf := isG_fi hD
  have hwp : IntKind.i64.wrap (g.fi - 1) = g.fi - 1 := by rw [i64_w]; unfold wrap64; omega
  obtain ⟨s, hs⟩ : ∃ s, w.heap.size = s := ⟨_, rfl⟩
  have HG : Aside0 (trm g i = (g.tm, 0)) := ⟨by unfold trm; rw [if_neg (fun h => h.elim h1 (fun h => h3 h.2)), if_pos h2]⟩
  have j1 : decide (i < g.fi - 1) = false := decide_eq_false h1
  have j2 : (i == g.fi - 1) = true := beq_iff_eq.2 h2
  have j3 : (g.tm == 0) = false := beq_eq_false_iff_ne.2 h3
  clear h1 h2 h3
  have hg0 := One1.new g A c w h
  rw [hs] at hg0
  have HP0 := Aside0.mk hg0
  have HS := Aside0.mk hs
  clear h hg0 hf hD
  unfold vG
  go_enter Try.func28, Try.ntmps28
  go_wp2
  refine bodyPost_ret (v := .tuple #[.int .i64 g.tm, .int .i64 0]) (by simp [results, Try.results28, go_sem]) rfl ⟨by rw [HG.out], by first | exact HP0.out.b | (rw [HS.out]; exact HP0.out.b) | (rw [HS.out]; exact below_alloc HP0.out.b) | (rw [HS.out]; exact HP0.out.b.alloc (by have := HP0.out.sz; omega) _)⟩
set_option maxHeartbeats 8000000 in
set_option maxRecDepth 100000 in
theorem ref_Term_t4 (g : Grp) (A : Option Addr) (c : Nat) (i : Int) (w : World) (h : Rd w A c g.l) (hD : isG true g = true) (h1 : ¬ i < g.fi - 1) (h2 : i ≠ g.fi - 1) (h4 : lastG g < i) :
    Calls Try.prog 28 #[vG g A c, .int .i64 i] w fun e w' => e = .returned (.tuple #[.int .i64 (trm g i).1, .int .i64 (trm g i).2]) ∧ Below w.heap.size w w' := by
  have hf := isG_fi hD
  have hwp : IntKind.i64.wrap (g.fi - 1) = g.fi - 1 := by rw [i64_w]; unfold wrap64; omega
  obtain ⟨s, hs⟩ : ∃ s, w.heap.size = s := ⟨_, rfl⟩
  have HG : Aside0 (trm g i = (0, 16)) := ⟨by unfold trm; rw [if_neg (fun h => h.elim h1 (fun h => h2 h.1)), if_neg h2, if_pos h4]⟩
  have j1 : decide (i < g.fi - 1) = false := decide_eq_false h1
  have j2 : (i == g.fi - 1) = false := beq_eq_false_iff_ne.2 h2
  have j4 : decide (lastG g < i) = true := decide_eq_true h4
  clear h1 h2 h4
  have hg0 := One1.new g A c w h
  rw [hs] at hg0
  have HP0 := Aside0.mk hg0
  have HS := Aside0.mk hs
  clear h hg0 hf hD
  unfold vG
  go_enter Try.func28, Try.ntmps28
  go_wp2_with (first | (go_at_call 26; refine (ref_Last' g A c _ HP0.out.rg).mono ?_; rintro e w1 ⟨rfl, hw1⟩; have HP1 := Aside0.mk (HP0.out.below hw1); clear hw1; obtain ⟨e0, e1, e2, e3, e4, e5, e6⟩ := HP1.out.bg.box) | fail)
  refine bodyPost_ret (v := .tuple #[.int .i64 0, .int .i64 16]) (by simp [results, Try.results28, go_sem]) rfl ⟨by rw [HG.out], by first | exact HP1.out.b | (rw [HS.out]; exact HP1.out.b) | (rw [HS.out]; exact below_alloc HP1.out.b) | (rw [HS.out]; exact HP1.out.b.alloc (by have := HP1.out.sz; omega) _)⟩
set_option maxHeartbeats 8000000 in
set_option maxRecDepth 100000 in
theorem ref_Term_t5 (g : Grp) (A : Option Addr) (c : Nat) (i : Int) (w : World) (h : Rd w A c g.l) (hD : isG true g = true) (h1 : ¬ i < g.fi - 1) (h2 : i ≠ g.fi - 1) (h4 : ¬ lastG g < i) :
    Calls Try.prog 28 #[vG g A c, .int .i64 i] w fun e w' => e = .returned (.tuple #[.int .i64 (trm g i).1, .int .i64 (trm g i).2]) ∧ Below w.heap.size w w' := by
  have hf := isG_fi hD
  have hwp : IntKind.i64.wrap (g.fi - 1) = g.fi - 1 := by rw [i64_w]; unfold wrap64; omega
  obtain ⟨s, hs⟩ : ∃ s, w.heap.size = s := ⟨_, rfl⟩
  have HG : Aside0 (trm g i = (termL g.l i, 0)) := ⟨by unfold trm; rw [if_neg (fun h => h.elim h1 (fun h => h2 h.1)), if_neg h2, if_neg h4]⟩
  have j1 : decide (i < g.fi - 1) = false := decide_eq_false h1
  have j2 : (i == g.fi - 1) = false := beq_eq_false_iff_ne.2 h2
  have j4 : decide (lastG g < i) = false := decide_eq_false h4
  have hla := dense_last hD
  have hbd := h.bd
  obtain ⟨n, hn⟩ : ∃ n : Nat, i - g.fi = n := ⟨(i - g.fi).toNat, by omega⟩
  have hnl : n < g.l.length := by omega
  have hw : IntKind.i64.wrap (i - g.fi) = (n : Int) := by rw [i64_w, hn]; unfold wrap64; omega
  have ht := (dense_at hD (by omega) h4).2
  rw [hn, Int.toNat_natCast] at ht
  have HT1 := Aside0.mk ht.symm
  have HNL := Aside0.mk hnl
  have hnl2 : (n : Int) < (g.l.length : Int) := by omega
  have hn0 : (0 : Int) ≤ (n : Int) := by omega
  obtain ⟨ad, rfl, _⟩ := h.at_ hnl
  clear h1 h2 h4 hla hbd hn ht
  have hg0 := One1.new g (some ad) c w h
  rw [hs] at hg0
  have HP0 := Aside0.mk hg0
  have HS := Aside0.mk hs
  clear h hg0 hf hD
  unfold vG
  go_enter Try.func28, Try.ntmps28
  go_wp2_with (first | (go_at_call 26; refine (ref_Last' g (some ad) c _ HP0.out.rg).mono ?_; rintro e w1 ⟨rfl, hw1⟩; have HP1 := Aside0.mk (HP0.out.below hw1); clear hw1; obtain ⟨e0, e1, e2, e3, e4, e5, e6⟩ := HP1.out.bg.box; obtain ⟨ad', hq, q0, q1, q2⟩ := HP1.out.rg.at_ (i := n) HNL.out; cases hq; rw [HT1.out] at q1) | fail)
  refine bodyPost_ret (v := .tuple #[.int .i64 (termL g.l i), .int .i64 0]) (by simp [results, Try.results28, go_sem]) rfl ⟨by rw [HG.out], by first | exact HP1.out.b | (rw [HS.out]; exact HP1.out.b) | (rw [HS.out]; exact below_alloc HP1.out.b) | (rw [HS.out]; exact HP1.out.b.alloc (by have := HP1.out.sz; omega) _)⟩
theorem ref_Term (g : Grp) (A : Option Addr) (c : Nat) (i : Int) (w : World) (h : Rd w A c g.l) (hD : isG true g = true) :
    Calls Try.prog 28 #[vG g A c, .int .i64 i] w fun e w' => e = .returned (.tuple #[.int .i64 (trm g i).1, .int .i64 (trm g i).2]) ∧ Below w.heap.size w w' := by
  by_cases h1 : i < g.fi - 1
  · exact ref_Term_t1 g A c i w h hD h1
  · by_cases h2 : i = g.fi - 1
    · by_cases h3 : g.tm = 0
      · exact ref_Term_t2 g A c i w h hD h1 h2 h3
      · exact ref_Term_t3 g A c i w h hD h1 h2 h3
    · by_cases h4 : lastG g < i
      · exact ref_Term_t4 g A c i w h hD h1 h2 h4
      · exact ref_Term_t5 g A c i w h hD h1 h2 h4
set_option maxHeartbeats 8000000 in
set_option maxRecDepth 100000 in
theorem group_Ents_e1 (g : Grp) (A : Option Addr) (c : Nat) (lo hi : Int) (w : World) (h : Rd w A c g.l) (hD : isG true g = true) (h1 : hi < lo) :
    Calls Try.prog 29 #[vG g A c, .int .i64 lo, .int .i64 hi] w (GotS w (ents g lo hi).1 (ents g lo hi).2) := by
  have hf := isG_fi hD
  have hwp : IntKind.i64.wrap (g.fi - 1) = g.fi - 1 := by rw [i64_w]; unfold wrap64; omega
  obtain ⟨s, hs⟩ : ∃ s, w.heap.size = s := ⟨_, rfl⟩
  have HG : Aside0 (ents g lo hi = ([], 11)) := ⟨by unfold ents; rw [if_pos h1]⟩
  have j1 : decide (hi < lo) = true := decide_eq_true h1
  clear h1
  have hg0 := One1.new g A c w h
  rw [hs] at hg0
  have HP0 := Aside0.mk hg0
  have HS := Aside0.mk hs
  clear h hg0 hf hD
  unfold vG
  go_enter Try.func29, Try.ntmps29
  go_wp2
  refine bodyPost_ret (v := .tuple #[.slice none 0 0, .int .i64 11]) (by simp [results, Try.results29, go_sem]) rfl ?_
  rw [HG.out]
  exact ⟨none, 0, rfl, Rd.nil _, by first | exact HP0.out.b | (rw [HS.out]; exact HP0.out.b) | (rw [HS.out]; exact below_alloc HP0.out.b) | (rw [HS.out]; exact HP0.out.b.alloc (by have := HP0.out.sz; omega) _)⟩
set_option maxHeartbeats 8000000 in
set_option maxRecDepth 100000 in
theorem group_Ents_e2 (g : Grp) (A : Option Addr) (c : Nat) (lo hi : Int) (w : World) (h : Rd w A c g.l) (hD : isG true g = true) (h1 : ¬ hi < lo) (h2 : lo < g.fi) :
    Calls Try.prog 29 #[vG g A c, .int .i64 lo, .int .i64 hi] w (GotS w (ents g lo hi).1 (ents g lo hi).2) := by
  have hf := isG_fi hD
  have hwp : IntKind.i64.wrap (g.fi - 1) = g.fi - 1 := by rw [i64_w]; unfold wrap64; omega
  obtain ⟨s, hs⟩ : ∃ s, w.heap.size = s := ⟨_, rfl⟩
  have HG : Aside0 (ents g lo hi = ([], 15)) := ⟨by unfold ents; rw [if_neg h1, if_pos h2]⟩
  have j1 : decide (hi < lo) = false := decide_eq_false h1
  have j2 : decide (lo < g.fi) = true := decide_eq_true h2
  clear h1 h2
  have hg0 := One1.new g A c w h
  rw [hs] at hg0
  have HP0 := Aside0.mk hg0
  have HS := Aside0.mk hs
  clear h hg0 hf hD
  unfold vG
  go_enter Try.func29, Try.ntmps29
  go_wp2
  refine bodyPost_ret (v := .tuple #[.slice none 0 0, .int .i64 15]) (by simp [results, Try.results29, go_sem]) rfl ?_
  rw [HG.out]
  exact ⟨none, 0, rfl, Rd.nil _, by first | exact HP0.out.b | (rw [HS.out]; exact HP0.out.b) | (rw [HS.out]; exact below_alloc HP0.out.b) | (rw [HS.out]; exact HP0.out.b.alloc (by have := HP0.out.sz; omega) _)⟩
set_option maxHeartbeats 8000000 in
set_option maxRecDepth 100000 in
theorem group_Ents_e3 (g : Grp) (A : Option Addr) (c : Nat) (lo hi : Int) (w : World) (h : Rd w A c g.l) (hD : isG true g = true) (h1 : ¬ hi < lo) (h2 : ¬ lo < g.fi) (hh : hi ≤ 9223372036854775807) (h3 : lastG g < hi - 1) :
    Calls Try.prog 29 #[vG g A c, .int .i64 lo, .int .i64 hi] w (GotS w (ents g lo hi).1 (ents g lo hi).2) := by
  have hf := isG_fi hD
  have hwp : IntKind.i64.wrap (g.fi - 1) = g.fi - 1 := by rw [i64_w]; unfold wrap64; omega
  obtain ⟨s, hs⟩ : ∃ s, w.heap.size = s := ⟨_, rfl⟩
  have HG : Aside0 (ents g lo hi = ([], 16)) := ⟨by unfold ents; rw [if_neg h1, if_neg h2, if_pos h3]⟩
  have hw1 : IntKind.i64.wrap (hi - 1) = hi - 1 := by rw [i64_w]; unfold wrap64; omega
  have j1 : decide (hi < lo) = false := decide_eq_false h1
  have j2 : decide (lo < g.fi) = false := decide_eq_false h2
  have j3 : decide (lastG g < hi - 1) = true := decide_eq_true h3
  clear h1 h2 h3 hh
  have hg0 := One1.new g A c w h
  rw [hs] at hg0
  have HP0 := Aside0.mk hg0
  have HS := Aside0.mk hs
  clear h hg0 hf hD
  unfold vG
  go_enter Try.func29, Try.ntmps29
  go_wp2_with (first | (go_at_call 25; refine (group_Last' g A c _ HP0.out.rg).mono ?_; rintro e w1 ⟨rfl, hw1⟩; have HP1 := Aside0.mk (HP0.out.below hw1); clear hw1; obtain ⟨e0, e1, e2, e3, e4, e5, e6⟩ := HP1.out.bg.box) | fail)
  refine bodyPost_ret (v := .tuple #[.slice none 0 0, .int .i64 16]) (by simp [results, Try.results29, go_sem]) rfl ?_
  rw [HG.out]
  exact ⟨none, 0, rfl, Rd.nil _, by first | exact HP1.out.b | (rw [HS.out]; exact HP1.out.b) | (rw [HS.out]; exact below_alloc HP1.out.b) | (rw [HS.out]; exact HP1.out.b.alloc (by have := HP1.out.sz; omega) _)⟩
set_option maxHeartbeats 8000000 in
set_option maxRecDepth 100000 in
theorem group_Ents_e4 (g : Grp) (A : Option Addr) (c : Nat) (lo hi : Int) (w : World) (h : Rd w A c g.l) (hD : isG true g = true) (h1 : ¬ hi < lo) (h2 : ¬ lo < g.fi) (hh : hi ≤ 9223372036854775807) (h3 : ¬ lastG g < hi - 1) :
    Calls Try.prog 29 #[vG g A c, .int .i64 lo, .int .i64 hi] w (GotS w (ents g lo hi).1 (ents g lo hi).2) := by
  have hf := isG_fi hD
  have hwp : IntKind.i64.wrap (g.fi - 1) = g.fi - 1 := by rw [i64_w]; unfold wrap64; omega
  obtain ⟨s, hs⟩ : ∃ s, w.heap.size = s := ⟨_, rfl⟩
  have HG : Aside0 (ents g lo hi = (withL g.l lo hi, 0)) := ⟨by unfold ents; rw [if_neg h1, if_neg h2, if_neg h3]⟩
  have hw1 : IntKind.i64.wrap (hi - 1) = hi - 1 := by rw [i64_w]; unfold wrap64; omega
  have j1 : decide (hi < lo) = false := decide_eq_false h1
  have j2 : decide (lo < g.fi) = false := decide_eq_false h2
  have j3 : decide (lastG g < hi - 1) = false := decide_eq_false h3
  obtain ⟨L, hL⟩ : ∃ L, withL g.l lo hi = L := ⟨_, rfl⟩
  have HLN : Aside0 (L.length ≤ 4398046511104) := ⟨by rw [← hL]; exact Nat.le_trans (List.length_filter_le _ _) h.bd⟩
  rw [hL] at HG
  have HL := Aside0.mk hL
  clear h1 h2 h3 hh hL
  have hg0 := One1.new g A c w h
  rw [hs] at hg0
  have HP0 := Aside0.mk hg0
  have HS := Aside0.mk hs
  clear h hg0 hf hD
  unfold vG
  go_enter Try.func29, Try.ntmps29
  go_wp2_with (first | (go_at_call 25; refine (group_Last' g A c _ HP0.out.rg).mono ?_; rintro e w1 ⟨rfl, hw1⟩; have HP1 := Aside0.mk (HP0.out.below hw1); clear hw1; obtain ⟨e0, e1, e2, e3, e4, e5, e6⟩ := HP1.out.bg.box) | (go_at_call 42; refine (within_seq g A c lo hi _ HP1.out.rg).mono ?_; rintro e w2 ⟨lb, R, rfl, hit, hR, hw2⟩; rw [HL.out] at hit; have HIT := Aside0.mk hit; have HR := Aside0.mk hR; have HP2 := Aside0.mk (HP1.out.below hw2); clear hit hR hw2) | (go_at_call 41; refine (collect_seq HIT.out HR.out HLN.out).mono ?_; rintro e w3 ⟨v, rfl, ho, hw3⟩; obtain ⟨A1, c1, rfl, hrd, hfr⟩ := ho.rd' HLN.out; have HRD := Aside0.mk hrd; have HP3 := Aside0.mk (HP2.out.below hw3); clear ho hrd hfr hw3) | fail)
  refine bodyPost_ret (v := .tuple #[.slice A1 L.length c1, .int .i64 0]) (by simp [results, Try.results29, go_sem]) rfl ?_
  rw [HG.out]
  exact ⟨A1, c1, rfl, HRD.out, by first | exact HP3.out.b | (rw [HS.out]; exact HP3.out.b) | (rw [HS.out]; exact below_alloc HP3.out.b) | (rw [HS.out]; exact HP3.out.b.alloc (by have := HP3.out.sz; omega) _)⟩
theorem group_Ents (g : Grp) (A : Option Addr) (c : Nat) (lo hi : Int) (w : World) (h : Rd w A c g.l) (hD : isG true g = true) (hh : hi ≤ 9223372036854775807) :
    Calls Try.prog 29 #[vG g A c, .int .i64 lo, .int .i64 hi] w (GotS w (ents g lo hi).1 (ents g lo hi).2) := by
  by_cases h1 : hi < lo
  · exact group_Ents_e1 g A c lo hi w h hD h1
  · by_cases h2 : lo < g.fi
    · exact group_Ents_e2 g A c lo hi w h hD h1 h2
    · by_cases h3 : lastG g < hi - 1
      · exact group_Ents_e3 g A c lo hi w h hD h1 h2 hh h3
      · exact group_Ents_e4 g A c lo hi w h hD h1 h2 hh h3
set_option maxHeartbeats 8000000 in
set_option maxRecDepth 100000 in
theorem ref_Ents_e1 (g : Grp) (A : Option Addr) (c : Nat) (lo hi : Int) (w : World) (h : Rd w A c g.l) (hD : isG true g = true) (h1 : hi < lo) :
    Calls Try.prog 30 #[vG g A c, .int .i64 lo, .int .i64 hi] w (GotS w (ents g lo hi).1 (ents g lo hi).2) := by
  have hf := isG_fi hD
  have hwp : IntKind.i64.wrap (g.fi - 1) = g.fi - 1 := by rw [i64_w]; unfold wrap64; omega
  obtain ⟨s, hs⟩ : ∃ s, w.heap.size = s := ⟨_, rfl⟩
  have HG : Aside0 (ents g lo hi = ([], 11)) := ⟨by unfold ents; rw [if_pos h1]⟩
  have j1 : decide (hi < lo) = true := decide_eq_true h1
  clear h1
  have hg0 := One1.new g A c w h
  rw [hs] at hg0
  have HP0 := Aside0.mk hg0
  have HS := Aside0.mk hs
  clear h hg0 hf hD
  unfold vG
  go_enter Try.func30, Try.ntmps30
  go_wp2
  refine bodyPost_ret (v := .tuple #[.slice none 0 0, .int .i64 11]) (by simp [results, Try.results30, go_sem]) rfl ?_
  rw [HG.out]
  exact ⟨none, 0, rfl, Rd.nil _, by first | exact HP0.out.b | (rw [HS.out]; exact HP0.out.b) | (rw [HS.out]; exact below_alloc HP0.out.b) | (rw [HS.out]; exact HP0.out.b.alloc (by have := HP0.out.sz; omega) _)⟩
set_option maxHeartbeats 8000000 in
set_option maxRecDepth 100000 in
theorem ref_Ents_e2 (g : Grp) (A : Option Addr) (c : Nat) (lo hi : Int) (w : World) (h : Rd w A c g.l) (hD : isG true g = true) (h1 : ¬ hi < lo) (h2 : lo < g.fi) :
    Calls Try.prog 30 #[vG g A c, .int .i64 lo, .int .i64 hi] w (GotS w (ents g lo hi).1 (ents g lo hi).2) := by
  have hf := isG_fi hD
  have hwp : IntKind.i64.wrap (g.fi - 1) = g.fi - 1 := by rw [i64_w]; unfold wrap64; omega
  obtain ⟨s, hs⟩ : ∃ s, w.heap.size = s := ⟨_, rfl⟩
  have HG : Aside0 (ents g lo hi = ([], 15)) := ⟨by unfold ents; rw [if_neg h1, if_pos h2]⟩
  have j1 : decide (hi < lo) = false := decide_eq_false h1
  have j2 : decide (lo < g.fi) = true := decide_eq_true h2
  clear h1 h2
  have hg0 := One1.new g A c w h
  rw [hs] at hg0
  have HP0 := Aside0.mk hg0
  have HS := Aside0.mk hs
  clear h hg0 hf hD
  unfold vG
  go_enter Try.func30, Try.ntmps30
  go_wp2
  refine bodyPost_ret (v := .tuple #[.slice none 0 0, .int .i64 15]) (by simp [results, Try.results30, go_sem]) rfl ?_
  rw [HG.out]
  exact ⟨none, 0, rfl, Rd.nil _, by first | exact HP0.out.b | (rw [HS.out]; exact HP0.out.b) | (rw [HS.out]; exact below_alloc HP0.out.b) | (rw [HS.out]; exact HP0.out.b.alloc (by have := HP0.out.sz; omega) _)⟩
set_option maxHeartbeats 8000000 in
set_option maxRecDepth 100000 in
theorem ref_Ents_e3 (g : Grp) (A : Option Addr) (c : Nat) (lo hi : Int) (w : World) (h : Rd w A c g.l) (hD : isG true g = true) (h1 : ¬ hi < lo) (h2 : ¬ lo < g.fi) (hh : hi ≤ 9223372036854775807) (h3 : lastG g < hi - 1) :
    Calls Try.prog 30 #[vG g A c, .int .i64 lo, .int .i64 hi] w (GotS w (ents g lo hi).1 (ents g lo hi).2) := by
  have hf := isG_fi hD
  have hwp : IntKind.i64.wrap (g.fi - 1) = g.fi - 1 := by rw [i64_w]; unfold wrap64; omega
  obtain ⟨s, hs⟩ : ∃ s, w.heap.size = s := ⟨_, rfl⟩
  have HG : Aside0 (ents g lo hi = ([], 16)) := ⟨by unfold ents; rw [if_neg h1, if_neg h2, if_pos h3]⟩
  have hw1 : IntKind.i64.wrap (hi - 1) = hi - 1 := by rw [i64_w]; unfold wrap64; omega
  have j1 : decide (hi < lo) = false := decide_eq_false h1
  have j2 : decide (lo < g.fi) = false := decide_eq_false h2
  have j3 : decide (lastG g < hi - 1) = true := decide_eq_true h3
  clear h1 h2 h3 hh
  have hg0 := One1.new g A c w h
  rw [hs] at hg0
  have HP0 := Aside0.mk hg0
  have HS := Aside0.mk hs
  clear h hg0 hf hD
  unfold vG
  go_enter Try.func30, Try.ntmps30
  go_wp2_with (first | (go_at_call 26; refine (ref_Last' g A c _ HP0.out.rg).mono ?_; rintro e w1 ⟨rfl, hw1⟩; have HP1 := Aside0.mk (HP0.out.below hw1); clear hw1; obtain ⟨e0, e1, e2, e3, e4, e5, e6⟩ := HP1.out.bg.box) | fail)
  refine bodyPost_ret (v := .tuple #[.slice none 0 0, .int .i64 16]) (by simp [results, Try.results30, go_sem]) rfl ?_
  rw [HG.out]
  exact ⟨none, 0, rfl, Rd.nil _, by first | exact HP1.out.b | (rw [HS.out]; exact HP1.out.b) | (rw [HS.out]; exact below_alloc HP1.out.b) | (rw [HS.out]; exact HP1.out.b.alloc (by have := HP1.out.sz; omega) _)⟩
set_option maxHeartbeats 8000000 in
set_option maxRecDepth 100000 in
theorem ref_Ents_e4 (g : Grp) (A : Option Addr) (c : Nat) (lo hi : Int) (w : World) (h : Rd w A c g.l) (hD : isG true g = true) (h1 : ¬ hi < lo) (h2 : ¬ lo < g.fi) (hh : hi ≤ 9223372036854775807) (h3 : ¬ lastG g < hi - 1) :
    Calls Try.prog 30 #[vG g A c, .int .i64 lo, .int .i64 hi] w (GotS w (ents g lo hi).1 (ents g lo hi).2) := by
  have hf := isG_fi hD
  have hwp : IntKind.i64.wrap (g.fi - 1) = g.fi - 1 := by rw [i64_w]; unfold wrap64; omega
  obtain ⟨s, hs⟩ : ∃ s, w.heap.size = s := ⟨_, rfl⟩
  have HG : Aside0 (ents g lo hi = (withL g.l lo hi, 0)) := ⟨by unfold ents; rw [if_neg h1, if_neg h2, if_neg h3]⟩
  have hw1 : IntKind.i64.wrap (hi - 1) = hi - 1 := by rw [i64_w]; unfold wrap64; omega
  have j1 : decide (hi < lo) = false := decide_eq_false h1
  have j2 : decide (lo < g.fi) = false := decide_eq_false h2
  have j3 : decide (lastG g < hi - 1) = false := decide_eq_false h3
  have hla := dense_last hD
  have hbd := h.bd
  obtain ⟨n, hn⟩ : ∃ n : Nat, lo - g.fi = n := ⟨(lo - g.fi).toNat, by omega⟩
  obtain ⟨m, hm⟩ : ∃ m : Nat, hi - g.fi = m := ⟨(hi - g.fi).toNat, by omega⟩
  have hnm : n ≤ m := by omega
  have hml : m ≤ g.l.length := by omega
  have hc := h.le
  have w2 : IntKind.i64.wrap (lo - g.fi) = (n : Int) := by rw [i64_w, hn]; unfold wrap64; omega
  have w3 : IntKind.i64.wrap (hi - g.fi) = (m : Int) := by rw [i64_w, hm]; unfold wrap64; omega
  have hcut := dense_cut hD (lo := lo) (hi := hi) (by omega) (by omega)
  rw [hn, hm, Int.toNat_natCast, Int.toNat_natCast] at hcut
  rw [hcut] at HG
  have HNM := Aside0.mk (And.intro hnm hml)
  have i1 : (0 : Int) ≤ (n : Int) := by omega
  have i2 : (n : Int) ≤ (m : Int) := by omega
  have i3 : (m : Int) ≤ (c : Int) := by omega
  clear h1 h2 h3 hh hla hbd hn hm hcut
  have hg0 := One1.new g A c w h
  rw [hs] at hg0
  have HP0 := Aside0.mk hg0
  have HS := Aside0.mk hs
  clear h hg0 hf hD
  unfold vG
  go_enter Try.func30, Try.ntmps30
  go_wp2_with (first | (go_at_call 26; refine (ref_Last' g A c _ HP0.out.rg).mono ?_; rintro e w1 ⟨rfl, hw1⟩; have HP1 := Aside0.mk (HP0.out.below hw1); clear hw1; obtain ⟨e0, e1, e2, e3, e4, e5, e6⟩ := HP1.out.bg.box) | fail)
  all_goals refine bodyPost_ret (v := .tuple #[.slice (if c = n then A else A.map (·.add (n * 3))) (m - n) (c - n), .int .i64 0]) (by simp [results, Try.results30, go_sem, h]) rfl ?_
  all_goals rw [HG.out]
  all_goals have hlen : ((g.l.drop n).take (m - n)).length = m - n := by rw [List.length_take, List.length_drop]; have := HNM.out; omega
  all_goals have hsub := HP1.out.rg.sub n m HNM.out.1 HNM.out.2
  all_goals refine ⟨_, _, ?_, hsub, by first | exact HP1.out.b | (rw [HS.out]; exact HP1.out.b) | (rw [HS.out]; exact below_alloc HP1.out.b) | (rw [HS.out]; exact HP1.out.b.alloc (by have := HP1.out.sz; omega) _)⟩
  all_goals rw [hlen]
theorem ref_Ents (g : Grp) (A : Option Addr) (c : Nat) (lo hi : Int) (w : World) (h : Rd w A c g.l) (hD : isG true g = true) (hh : hi ≤ 9223372036854775807) :
    Calls Try.prog 30 #[vG g A c, .int .i64 lo, .int .i64 hi] w (GotS w (ents g lo hi).1 (ents g lo hi).2) := by
  by_cases h1 : hi < lo
  · exact ref_Ents_e1 g A c lo hi w h hD h1
  · by_cases h2 : lo < g.fi
    · exact ref_Ents_e2 g A c lo hi w h hD h1 h2
    · by_cases h3 : lastG g < hi - 1
      · exact ref_Ents_e3 g A c lo hi w h hD h1 h2 hh h3
      · exact ref_Ents_e4 g A c lo hi w h hD h1 h2 hh h3
end Go.Proofs.Ytlfdmlacadoolaa.PartW
