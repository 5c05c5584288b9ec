/- The program's reader of a part and the document's give the same: plain. -/
import Derived.Test.YtokjhocjemjfiaaPtA
set_option linter.unusedVariables false
set_option linter.unusedSimpArgs false
namespace Go.Proofs.Ytokjhocjemjfiaa.Sp
open Go Go.RowKit Go.Proofs.Ytokjhocjemjfiaa.A Go.Proofs.Ytokjhocjemjfiaa.PartW Go.Proofs.Ytokjhocjemjfiaa.Seq Go.Proofs.Ytokjhocjemjfiaa.CodeW Go.Proofs.Ytokjhocjemjfiaa.CodeM Go.Proofs.Ytokjhocjemjfiaa.CodeQ Go.Proofs.Ytokjhocjemjfiaa.Given Go.Proofs.YtokjhocjemjfiaaW.PrintWords Go.Proofs.YtokjhocjemjfiaaW.PrintLast Go.Proofs.YtokjhocjemjfiaaW.PrintMore
/-- the document's: what a kind has is read -/
def kindR (s : ByteArray) (p : Prt) (st : Nat × Nat) : Prt × (Nat × Nat) :=
  if p.k = 1 then (Prt.ents p (closeR s st).1, (closeR s st).2)
  else if p.k = 2 then (⟨p.g, p.k, p.l, ((hardR s st).1.1 : Int), ((hardR s st).1.2.1 : Int), ((hardR s st).1.2.2 : Int), p.ix, p.tm, p.mrk, p.hed⟩, (hardR s st).2)
  else if p.k = 3 ∨ p.k = 4 then (⟨p.g, p.k, p.l, p.ht, p.hv, p.hc, ((numR s st).1 : Int), ((numR s (numR s st).2).1 : Int), p.mrk, p.hed⟩, (numR s (numR s st).2).2)
  else if p.k = 6 then fwdR s p.g p.k st
  else (p, st)
/-- a part, how many bytes, the error -/
def endR (y : Prt × (Nat × Nat)) : Prt × (Nat × Nat) := if y.2.2 ≠ 0 then (ZP, (0, y.2.2)) else if isP y.1 then (y.1, (y.2.1, 0)) else (ZP, (0, 11))
def progR (s : ByteArray) : Prt × (Nat × Nat) := endR (partR s (0, 0))
def docR (s : ByteArray) : Prt × (Nat × Nat) :=
  let g := numR s (0, 0)
  let k := numR s g.2
  let a := mustR (decide (1 ≤ (k.1 : Int) ∧ (k.1 : Int) ≤ 6)) k.2
  if a.2 ≠ 0 then (ZP, (0, a.2)) else
    let y := kindR s ⟨(g.1 : Int), (k.1 : Int), [], 0, 0, 0, 0, 0, false, false⟩ a
    let z := mustR (isP y.1) y.2
    if z.2 ≠ 0 then (ZP, (0, z.2)) else (y.1, (z.1, 0))
theorem end_must (y : Prt × (Nat × Nat)) : (if (mustR (isP y.1) y.2).2 ≠ 0 then (ZP, (0, (mustR (isP y.1) y.2).2)) else (y.1, ((mustR (isP y.1) y.2).1, 0))) = endR y := by
  unfold endR mustR
  obtain ⟨p, i, e⟩ := y
  dsimp only
  by_cases h : e = 0
  · subst h
    cases isP p <;> simp
  · simp [h]
theorem numR_lt (s : ByteArray) (st : Nat × Nat) : (numR s st).1 < 9223372036854775808 := by
  unfold numR
  split
  · exact (getN_ok (s.data.toList.drop st.1)).1
  · show (0 : Nat) < _; decide
theorem numR_abs (s : ByteArray) {i e : Nat} (h : e ≠ 0) : numR s (i, e) = (0, (i, e)) := by unfold numR; rw [if_neg h]
theorem mustR_abs (ok : Bool) {i e : Nat} (h : e ≠ 0) : mustR ok (i, e) = (i, e) := by unfold mustR; rw [if_neg (fun h' => h h'.1)]
theorem upR_abs (s : ByteArray) (m : Int) {i e : Nat} (h : e ≠ 0) : upR s m (i, e) = (0, (i, e)) := by unfold upR; rw [numR_abs s h, mustR_abs _ h]
theorem numsR_abs (s : ByteArray) {i e : Nat} (h : e ≠ 0) : ∀ (xs : List Addr) (p : Prt), (numsR s xs p (i, e)).2 = (i, e)
  | [], p => rfl
  | x :: xs, p => by rw [numsR, numR_abs s h]; exact numsR_abs s h xs _
theorem lastR_abs (s : ByteArray) (p : Prt) {i e : Nat} (h : e ≠ 0) : (lastR s p (i, e)).2 = (i, e) := by
  unfold lastR
  split
  · rw [upR_abs s _ h]; dsimp only; rw [numR_abs s h]; dsimp only; rw [entsR_stop _ _ _ _ _ _ _ _ (.inr h)]
  · split
    · rw [upR_abs s _ h]; dsimp only; rw [entsR_stop _ _ _ _ _ _ _ _ (.inr h)]
    · rfl
theorem flagR_abs (s : ByteArray) (p : Prt) {i e : Nat} (h : e ≠ 0) : (flagR s p (i, e)).2 = (i, e) := by
  unfold flagR
  split
  · rw [upR_abs s _ h]
  · rfl
theorem entsR_f (s : ByteArray) (f f' : Int) : ∀ (d k : Nat) (st : Nat × Nat) (acc acc' : List Ent), (entsR s false f d k st acc).2 = (entsR s false f' d k st acc').2
  | 0, k, st, acc, acc' => rfl
  | d + 1, k, st, acc, acc' => by
    rw [entsR, entsR]
    split
    · exact entsR_f s f f' d _ _ _ _
    · rfl
theorem entsR_acc (s : ByteArray) (own : Bool) (f : Int) : ∀ (d k : Nat) (st : Nat × Nat) (acc : List Ent), ∃ t, (entsR s own f d k st acc).1 = acc ++ t
  | 0, k, st, acc => ⟨[], (List.append_nil _).symm⟩
  | d + 1, k, st, acc => by
    rw [entsR]
    split
    · obtain ⟨t, ht⟩ := entsR_acc s own f d (k + 1) _ (acc ++ [⟨if own then ((numR s st).1 : Int) else wrap64 (f + (k : Int)), ((numR s (if own then (numR s st).2 else st)).1 : Int), (txtR s (numR s (if own then (numR s st).2 else st)).2).1⟩])
      exact ⟨_, by rw [ht, List.append_assoc]⟩
    · exact ⟨[], (List.append_nil _).symm⟩
/-- entries from an index on that is too great are none of a part's -/
theorem far_not (s : ByteArray) (f : Int) (hf : 1099511627777 ≤ f) (hf2 : f < 9223372036854775808) (n : Nat) (st : Nat × Nat) (p : Prt) (hk : p.k = 1) (hl : p.l = (entsR s false f n 0 st []).1) : isP p = false := by
  have key : (noL p || !risB true p.l) = true := by
    cases n with
    | zero => unfold noL; rw [hl]; rfl
    | succ n =>
      rw [entsR] at hl
      split at hl
      · obtain ⟨t, ht⟩ := entsR_acc s false f n 1 (txtR s (numR s st).2).2 [⟨wrap64 (f + ((0 : Nat) : Int)), ((numR s st).1 : Int), (txtR s (numR s st).2).1⟩]
        have hl2 : p.l = ⟨wrap64 (f + ((0 : Nat) : Int)), ((numR s st).1 : Int), (txtR s (numR s st).2).1⟩ :: t := by rw [hl]; exact ht
        have hr : risB true p.l = false := by
          refine ris_no (k := 0) (by rw [hl2]; simp) ?_
          unfold okR
          have : isE (el p.l 0) = false := by
            rw [hl2]
            show isE ⟨wrap64 (f + ((0 : Nat) : Int)), _, _⟩ = false
            unfold isE
            refine decide_eq_false (fun h => ?_)
            have h2 := h.2.1
            dsimp only at h2
            rw [show wrap64 (f + ((0 : Nat) : Int)) = f by unfold wrap64; omega] at h2
            omega
          rw [this]; rfl
        rw [hr]; simp
      · unfold noL; rw [hl]; rfl
  unfold isP
  rw [if_pos hk]
  rcases Bool.or_eq_true _ _ ▸ key with h | h
  · rw [h]; simp
  · rw [show risB true p.l = false by simpa using h]; simp
theorem end_far (s : ByteArray) (p : Prt) (hk : p.k = 1) (f f' : Int) (hf : 1099511627777 ≤ f ∧ f < 9223372036854775808) (hf' : 1099511627777 ≤ f' ∧ f' < 9223372036854775808) (n : Nat) (st : Nat × Nat) :
    endR (Prt.ents p (entsR s false f n 0 st []).1, (entsR s false f n 0 st []).2) = endR (Prt.ents p (entsR s false f' n 0 st []).1, (entsR s false f' n 0 st []).2) := by
  unfold endR
  dsimp only
  rw [far_not s f hf.1 hf.2 n st (Prt.ents p (entsR s false f n 0 st []).1) hk rfl, far_not s f' hf'.1 hf'.2 n st (Prt.ents p (entsR s false f' n 0 st []).1) hk rfl, entsR_f s f f' n 0 st [] []]
  rfl
theorem prog_doc (s : ByteArray) : progR s = docR s := by
  unfold progR docR partR
  obtain ⟨g, b1, c1, hg⟩ : ∃ a b c, numR s (0, 0) = (a, (b, c)) := ⟨_, _, _, rfl⟩
  obtain ⟨k, b2, c2, hk⟩ : ∃ a b c, numR s (b1, c1) = (a, (b, c)) := ⟨_, _, _, rfl⟩
  obtain ⟨b3, c3, ha⟩ : ∃ b c, mustR (decide (1 ≤ (k : Int) ∧ (k : Int) ≤ 6)) (b2, c2) = (b, c) := ⟨_, _, rfl⟩
  rw [hg]; dsimp only; rw [hk]; dsimp only; rw [ha]; dsimp only
  by_cases hc : c3 = 0
  · have hk6 : 1 ≤ k ∧ k ≤ 6 := by
      unfold mustR at ha
      split at ha
      · injection ha with h1 h2; omega
      · next h1 =>
        injection ha with h2 h3
        apply Classical.byContradiction
        intro h4
        exact h1 ⟨by show c2 = 0; omega, decide_eq_false (by omega)⟩
    subst hc
    rw [if_neg (fun h => h rfl), end_must]
    clear ha
    obtain rfl | rfl | rfl | rfl | rfl | rfl : k = 1 ∨ k = 2 ∨ k = 3 ∨ k = 4 ∨ k = 5 ∨ k = 6 := by omega
    · have e1 : flagR s ⟨(g : Int), ((1 : Nat) : Int), [], 0, 0, 0, 0, 0, false, false⟩ (b3, 0) = (⟨(g : Int), ((1 : Nat) : Int), [], 0, 0, 0, 0, 0, false, false⟩, (b3, 0)) := rfl
      have e2 : midR s ⟨(g : Int), ((1 : Nat) : Int), [], 0, 0, 0, 0, 0, false, false⟩ (b3, 0) = (⟨(g : Int), ((1 : Nat) : Int), [], 0, 0, 0, 0, 0, false, false⟩, (b3, 0)) := rfl
      rw [e1]; dsimp only; rw [e2]; dsimp only
      unfold lastR kindR
      dsimp only
      rw [if_pos (show ((1 : Nat) : Int) = 1 from rfl), if_pos (show ((1 : Nat) : Int) = 1 from rfl)]
      unfold closeR
      have hb : (upR s 6 (b3, 0)).2.1 ≤ s.size ∨ True := .inr trivial
      obtain ⟨x, st, hx⟩ : ∃ x st, numR s (upR s 6 (b3, 0)).2 = (x, st) := ⟨_, _, rfl⟩
      rw [hx]; dsimp only
      by_cases hm : ¬ 1099511627777 < (x : Int)
      · rw [if_neg hm]
      · rw [if_pos (Classical.not_not.1 hm)]
        refine end_far s _ rfl _ _ ⟨by omega, by omega⟩ ⟨by omega, ?_⟩ _ _
        have := numR_lt s (upR s 6 (b3, 0)).2
        rw [hx] at this
        dsimp only at this
        omega
    · simp [flagR, midR, lastR, kindR, atK, hdK, numA, numsR, setA, hardR]
    · simp [flagR, midR, lastR, kindR, atK, hdK, numA, numsR, setA, hardR]
    · simp [flagR, midR, lastR, kindR, atK, hdK, numA, numsR, setA, hardR]
    · simp [flagR, midR, lastR, kindR, atK, hdK, numA, numsR, setA, hardR]
    · unfold flagR kindR fwdR
      dsimp only
      rw [if_pos (show ((6 : Nat) : Int) = 6 from rfl), if_neg (show ¬ ((6 : Nat) : Int) = 1 by decide), if_neg (show ¬ ((6 : Nat) : Int) = 2 by decide), if_neg (show ¬ (((6 : Nat) : Int) = 3 ∨ ((6 : Nat) : Int) = 4) by decide), if_pos (show ((6 : Nat) : Int) = 6 from rfl)]
      cases bit1 (upR s 3 (b3, 0)).1 <;> cases bit2 (upR s 3 (b3, 0)).1 <;> simp [midR, lastR, markR, hedR, atK, hdK, numA, numsR, setA, hardR, Prt.ents]
  · rw [if_pos hc]
    unfold endR
    have e1 := flagR_abs s ⟨(g : Int), (k : Int), [], 0, 0, 0, 0, 0, false, false⟩ (i := b3) hc
    have e2 : (midR s (flagR s ⟨(g : Int), (k : Int), [], 0, 0, 0, 0, 0, false, false⟩ (b3, c3)).1 (flagR s ⟨(g : Int), (k : Int), [], 0, 0, 0, 0, 0, false, false⟩ (b3, c3)).2).2 = (b3, c3) := by
      rw [e1]; exact numsR_abs s hc _ _
    rw [e2, lastR_abs s _ hc, if_pos hc]
end Go.Proofs.Ytokjhocjemjfiaa.Sp
