/- What was written is read: plain. -/
import Derived.Test.YtokjhocjemjfiaaByA
set_option linter.unusedVariables false
set_option linter.unusedSimpArgs false
namespace Go.Proofs.Ytokjhocjemjfiaa.Sp
open Go Go.RowKit Go.Proofs.Ytokjhocjemjfiaa.A Go.Proofs.Ytokjhocjemjfiaa.PartW Go.Proofs.Ytokjhocjemjfiaa.Seq Go.Proofs.Ytokjhocjemjfiaa.CodeW Go.Proofs.Ytokjhocjemjfiaa.CodeQ Go.Proofs.Ytokjhocjemjfiaa.Given Go.Proofs.YtokjhocjemjfiaaW.PrintWords Go.Proofs.YtokjhocjemjfiaaW.PrintLast Go.Proofs.YtokjhocjemjfiaaW.PrintMore
open Go.Proofs.Ytokjhocjemjfiaa.CodeM (putB putS_data putB_nine getN_put0 getN_cut app_data app_size ba_len ba_ext ext_data putS_size put_prefix)
/-- bytes that are still to come: all of them with a tail behind (q), or cut off -/
def Rd4 (s : ByteArray) (q : Bool) (tail : List UInt8) (st : Nat × Nat) (L : List UInt8) : Prop :=
  if q then st.2 = 0 ∧ st.1 ≤ s.size ∧ s.data.toList.drop st.1 = L ++ tail
  else st.2 = 10 ∨ (st.2 = 0 ∧ st.1 ≤ s.size ∧ ∃ m, m < L.length ∧ s.data.toList.drop st.1 = L.take m)
section
variable {s : ByteArray} {q : Bool} {tail : List UInt8} {st : Nat × Nat} {L : List UInt8}
theorem Rd4.err (h : Rd4 s q tail st L) (he : st.2 ≠ 0) (L' : List UInt8) : Rd4 s q tail st L' := by
  unfold Rd4 at h ⊢
  cases q
  · rw [if_neg (by decide)] at h ⊢
    rcases h with h | h
    · exact .inl h
    · exact absurd h.1 he
  · rw [if_pos rfl] at h; exact absurd h.1 he
theorem drop_more {l : List UInt8} {i n : Nat} {a b : List UInt8} (h : l.drop i = a ++ b) (hn : a.length = n) : l.drop (i + n) = b := by
  rw [← List.drop_drop, h, ← hn, List.drop_left]
theorem drop_le {s : ByteArray} {i n : Nat} (hi : i ≤ s.size) {X : List UInt8} (h : s.data.toList.drop i = X) (hn : n ≤ X.length) : i + n ≤ s.size := by
  have := congrArg List.length h
  rw [List.length_drop, ba_len] at this
  omega
theorem Rd4.num {n : Nat} (h : Rd4 s q tail st (putB n ++ L)) (hn : n < 9223372036854775808) : Rd4 s q tail (numR s st).2 L ∧ ((numR s st).2.2 = 0 → (numR s st).1 = n) := by
  obtain ⟨i, e⟩ := st
  unfold Rd4 at h ⊢
  cases q
  · rw [if_neg (by decide)] at h ⊢
    rcases h with h | ⟨h1, h2, m, hm, h3⟩
    · have he : e ≠ 0 := by have h9 : e = 10 := h; omega
      rw [numR_abs s he]
      exact ⟨.inl h, fun h' => absurd h' he⟩
    · obtain rfl : e = 0 := h1
      dsimp only at h2 h3
      unfold numR getT
      rw [if_pos rfl]
      dsimp only
      rw [h3, List.take_append]
      by_cases hc : m < (putB n).length
      · rw [show m - (putB n).length = 0 by omega, List.take_zero, List.append_nil, getN_cut n 0 0 m hc (by have := putB_nine hn; omega)]
        exact ⟨.inl rfl, fun h' => by cases h'⟩
      · rw [List.take_of_length_le (by omega), getN_put0 _ hn]
        have h4 : s.data.toList.drop i = putB n ++ L.take (m - (putB n).length) := by rw [h3, List.take_append, List.take_of_length_le (by omega)]
        dsimp only
        refine ⟨.inr ⟨rfl, drop_le h2 h4 (by rw [List.length_append]; omega), m - (putB n).length, by rw [List.length_append] at hm; omega, drop_more h4 rfl⟩, fun _ => rfl⟩
  · rw [if_pos rfl] at h ⊢
    obtain ⟨h1, h2, h3⟩ := h
    obtain rfl : e = 0 := h1
    dsimp only at h2 h3
    rw [List.append_assoc] at h3
    unfold numR getT
    rw [if_pos rfl]
    dsimp only
    rw [h3, getN_put0 _ hn]
    dsimp only
    exact ⟨⟨rfl, drop_le h2 h3 (by rw [List.length_append]; omega), drop_more h3 rfl⟩, fun _ => rfl⟩
theorem txt_full {s : ByteArray} {i : Nat} {d : ByteArray} {r : List UInt8} (hd : d.size ≤ 40) (h : s.data.toList.drop i = textB d ++ r) : txtT s i = (d, ((textB d).length : Int), 0) := by
  have e : s.extract i s.size = (putS d.size ++ d) ++ ⟨r.toArray⟩ := ba_ext (by rw [ext_drop, h, app_data, Text_data])
  unfold txtT
  rw [e, texts_back _ _ _ (by omega), if_neg (by omega), ← Text_data, ba_len]
theorem txt_cut {s : ByteArray} {i : Nat} {d : ByteArray} (hd : d.size ≤ 40) {m : Nat} (hm : m < (textB d).length) (h : s.data.toList.drop i = (textB d).take m) : (txtT s i).2.2 = 10 := by
  have e : (s.extract i s.size).data.toList = (textB d).take m := by rw [ext_drop, h]
  have hz : (s.extract i s.size).size = m := by rw [← ba_len, e, List.length_take]; omega
  unfold txtT textsN
  rw [e, hz]
  unfold textB at hm ⊢
  rw [List.length_append, ba_len] at hm
  rw [List.take_append]
  by_cases hc : m < (putB d.size).length
  · rw [show m - (putB d.size).length = 0 by omega, List.take_zero, List.append_nil, getN_cut _ 0 0 m hc (by have := putB_nine (n := d.size) (by omega); omega)]
    rfl
  · rw [List.take_of_length_le (by omega), getN_put0 _ (by omega)]
    dsimp only
    rw [if_pos rfl, if_neg (by omega), if_pos (by omega)]
theorem Rd4.txt {d : ByteArray} (h : Rd4 s q tail st (textB d ++ L)) (hd : d.size ≤ 40) : Rd4 s q tail (txtR s st).2 L ∧ ((txtR s st).2.2 = 0 → (txtR s st).1 = d) := by
  obtain ⟨i, e⟩ := st
  unfold Rd4 at h ⊢
  cases q
  · rw [if_neg (by decide)] at h ⊢
    rcases h with h | ⟨h1, h2, m, hm, h3⟩
    · have he : e ≠ 0 := by have h9 : e = 10 := h; omega
      unfold txtR
      rw [if_neg he]
      exact ⟨.inl h, fun h' => absurd h' he⟩
    · obtain rfl : e = 0 := h1
      dsimp only at h2 h3
      unfold txtR
      rw [if_pos rfl]
      dsimp only
      rw [List.take_append] at h3
      by_cases hc : m < (textB d).length
      · rw [show m - (textB d).length = 0 by omega, List.take_zero, List.append_nil] at h3
        rw [txt_cut hd hc h3]
        exact ⟨.inl rfl, fun h' => by cases h'⟩
      · rw [List.take_of_length_le (by omega)] at h3
        rw [txt_full hd h3]
        refine ⟨.inr ⟨rfl, drop_le h2 h3 (by rw [List.length_append]; simp), m - (textB d).length, by rw [List.length_append] at hm; omega, drop_more h3 (by simp)⟩, fun _ => rfl⟩
  · rw [if_pos rfl] at h ⊢
    obtain ⟨h1, h2, h3⟩ := h
    obtain rfl : e = 0 := h1
    dsimp only at h2 h3
    rw [List.append_assoc] at h3
    unfold txtR
    rw [if_pos rfl]
    dsimp only
    rw [txt_full hd h3]
    exact ⟨⟨rfl, drop_le h2 h3 (by rw [List.length_append]; simp), drop_more h3 (by simp)⟩, fun _ => rfl⟩
theorem must_ok (st : Nat × Nat) {ok : Bool} (h : st.2 = 0 → ok = true) : mustR ok st = st := by
  unfold mustR
  rw [if_neg (fun h' => by rw [h h'.1] at h'; cases h'.2)]
theorem Rd4.up {n : Nat} {most : Int} (h : Rd4 s q tail st (putB n ++ L)) (hn : (n : Int) ≤ most) (hm : most < 1000) : Rd4 s q tail (upR s most st).2 L ∧ ((upR s most st).2.2 = 0 → (upR s most st).1 = n) := by
  obtain ⟨h1, h2⟩ := h.num (by omega)
  have e : (upR s most st).2 = (numR s st).2 := must_ok _ (fun h' => decide_eq_true (by rw [h2 h']; exact hn))
  rw [e]
  exact ⟨h1, h2⟩
/-- the entries' bytes -/
def entsL (own : Bool) : List Ent → List UInt8
  | [] => []
  | e :: l => (if own then putB e.f0.toNat else []) ++ (putB e.f1.toNat ++ (textB e.f2 ++ entsL own l))
theorem entsR_err (own : Bool) (f : Int) (d k : Nat) (acc : List Ent) (he : st.2 ≠ 0) : entsR s own f d k st acc = (acc, st) := by
  obtain ⟨i, e⟩ := st
  exact entsR_stop s own f d k i e acc (.inr he)
theorem txtR_e {st : Nat × Nat} (h : (txtR s st).2.2 = 0) : st.2 = 0 := by
  unfold txtR at h
  split at h
  · assumption
  · exact h
theorem ents_back (own : Bool) (f : Int) : ∀ (l : List Ent) (k : Nat) (st : Nat × Nat) (acc : List Ent), Rd4 s q tail st (entsL own l ++ L) → (∀ e ∈ l, isE e = true) → (own = false → ∀ i, i < l.length → (el l i).f0 = wrap64 (f + ((k + i : Nat) : Int))) →
    Rd4 s q tail (entsR s own f l.length k st acc).2 L ∧ ((entsR s own f l.length k st acc).2.2 = 0 → (entsR s own f l.length k st acc).1 = acc ++ l)
  | [], k, st, acc, h, _, _ => ⟨h, fun _ => (List.append_nil _).symm⟩
  | e :: l, k, st, acc, h, hE, hf => by
    by_cases he : st.2 = 0
    · have he1 := isE_rng' (hE e (by simp))
      rw [List.length_cons, entsR, if_pos he]
      have step : ∃ st1, (if own then (numR s st).2 else st) = st1 ∧ Rd4 s q tail st1 (putB e.f1.toNat ++ (textB e.f2 ++ (entsL own l ++ L))) ∧ (st1.2 = 0 → (if own then ((numR s st).1 : Int) else wrap64 (f + (k : Int))) = e.f0) := by
        cases own
        · refine ⟨st, rfl, ?_, fun _ => ?_⟩
          · have := h
            simp only [entsL, Bool.false_eq_true, if_false, List.nil_append, List.append_assoc] at this
            exact this
          · have := hf rfl 0 (by simp)
            rw [show (k + 0 : Nat) = k from rfl] at this
            exact this.symm
        · have h2 := h
          simp only [entsL, if_true, List.append_assoc] at h2
          obtain ⟨h3, h4⟩ := h2.num (by omega)
          refine ⟨(numR s st).2, rfl, h3, fun h5 => ?_⟩
          rw [if_pos rfl, h4 h5]
          exact Int.toNat_of_nonneg he1.1.1
      obtain ⟨st1, e1, h1, hv⟩ := step
      rw [e1]
      obtain ⟨h2, v2⟩ := h1.num (by omega)
      obtain ⟨h3, v3⟩ := h2.txt he1.2.2
      by_cases h5 : (txtR s (numR s st1).2).2.2 = 0
      · have h6 := txtR_e h5
        have h7 := numR_e h6
        rw [v3 h5, v2 h6, hv h7, Int.toNat_of_nonneg he1.2.1.1]
        obtain ⟨r1, r2⟩ := ents_back own f l (k + 1) _ (acc ++ [⟨e.f0, e.f1, e.f2⟩]) h3 (fun x hx => hE x (by simp [hx])) (fun ho i hi => by have := hf ho (i + 1) (by simpa using hi); rw [show k + 1 + i = k + (i + 1) by omega]; exact this)
        exact ⟨r1, fun h9 => by rw [r2 h9, List.append_assoc]; rfl⟩
      · rw [entsR_err _ _ _ _ _ h5]
        exact ⟨h3.err h5 _, fun h9 => absurd h9 h5⟩
    · rw [entsR_err _ _ _ _ _ he]
      exact ⟨h.err he _, fun h9 => absurd h9 he⟩
end
/-- a part's bytes behind its group and kind, as the document has them -/
def restL (p : Prt) : List UInt8 :=
  if p.k = 1 then putB p.l.length ++ (putB (el p.l 0).f0.toNat ++ entsL false p.l)
  else if p.k = 2 then putB p.ht.toNat ++ (putB p.hv.toNat ++ putB p.hc.toNat)
  else if p.k = 3 ∨ p.k = 4 then putB p.ix.toNat ++ putB p.tm.toNat
  else if p.k = 6 then putB (flagN p) ++ ((if p.mrk then putB p.ix.toNat ++ putB p.tm.toNat else []) ++ ((if p.hed then putB p.ht.toNat ++ (putB p.hv.toNat ++ putB p.hc.toNat) else []) ++ (putB p.l.length ++ entsL true p.l)))
  else []
theorem entsB_L (six : Bool) : ∀ (l : List Ent) (s : ByteArray), (entsB six l s).data.toList = s.data.toList ++ entsL six l
  | [], s => (List.append_nil _).symm
  | e :: l, s => by
    show (entsB six l (entB six e s)).data.toList = _
    rw [entsB_L six l]
    unfold entB
    cases six
    · simp only [Bool.false_eq_true, if_false, app_data, putS_data, entsL, List.nil_append, List.append_assoc, textB]
    · simp only [if_true, app_data, putS_data, entsL, List.append_assoc, textB]
structure IsP (p : Prt) : Prop where
  g : 0 ≤ p.g ∧ p.g ≤ 999
  k : 1 ≤ p.k ∧ p.k ≤ 6
  r : ∀ o, 0 ≤ getA p o ∧ getA p o ≤ 1099511627776
  l6 : p.l.length ≤ 6
  e : ∀ i, i < p.l.length → isE (el p.l i) = true
  pos : p.k = 1 → 0 < p.l.length
  nl : p.k ≠ 1 → p.k ≠ 6 → p.l = []
  nf : p.k ≠ 6 → p.mrk = false ∧ p.hed = false
  nh : p.k ≠ 2 → (p.k ≠ 6 ∨ p.hed = false) → p.ht = 0 ∧ p.hv = 0 ∧ p.hc = 0
  nm : p.k ≠ 3 → p.k ≠ 4 → (p.k ≠ 6 ∨ p.mrk = false) → p.ix = 0 ∧ p.tm = 0
  d : p.k = 1 → ∀ i, i < p.l.length → (el p.l i).f0 = (el p.l 0).f0 + (i : Int)
theorem isP_all {p : Prt} (h : isP p = true) : IsP p := by
  obtain ⟨hg, hk, hr, hlen, hent, hpos⟩ := isP_rng h
  unfold isP at h
  simp only [Bool.and_eq_true] at h
  obtain ⟨_, h⟩ := h
  have L : noL p = true → p.l = [] := fun h => by unfold noL at h; exact List.eq_nil_of_length_eq_zero (of_decide_eq_true h)
  have Hd : noH p = true → p.ht = 0 ∧ p.hv = 0 ∧ p.hc = 0 := fun h => by unfold noH at h; exact of_decide_eq_true h
  have M : noM p = true → p.ix = 0 ∧ p.tm = 0 := fun h => by unfold noM at h; exact of_decide_eq_true h
  by_cases k1 : p.k = 1
  · rw [if_pos k1] at h
    simp only [Bool.and_eq_true, Bool.not_eq_true'] at h
    obtain ⟨hf, ⟨h1, h2⟩, h3, h4⟩ := h
    refine ⟨hg, hk, hr, hlen, hent, hpos, fun h => absurd k1 h, fun _ => hf, fun _ _ => Hd h1, fun _ _ _ => M h2, fun _ i => ?_⟩
    induction i with
    | zero => intro _; omega
    | succ i ih =>
      intro hi
      have h5 := ih (by omega)
      unfold risB at h4
      rw [Bool.and_eq_true] at h4
      have h6 := List.all_eq_true.1 h4.1 (i + 1) (List.mem_range.2 hi)
      unfold okR at h6
      rw [Bool.and_eq_true, decide_eq_false (by omega), Bool.false_or, Bool.and_eq_true, Bool.not_true, Bool.false_or] at h6
      have h7 := of_decide_eq_true h6.2.2
      rw [Nat.add_sub_cancel] at h7
      rw [h7, h5]; omega
  · rw [if_neg k1] at h
    by_cases k2 : p.k = 2
    · rw [if_pos k2] at h
      simp only [Bool.and_eq_true, Bool.not_eq_true'] at h
      obtain ⟨hf, ⟨h1, h2⟩, h3⟩ := h
      exact ⟨hg, hk, hr, hlen, hent, hpos, fun _ _ => L h1, fun _ => hf, fun h => absurd k2 h, fun _ _ _ => M h2, fun h => absurd h k1⟩
    · rw [if_neg k2] at h
      by_cases k3 : p.k = 3
      · rw [if_pos k3] at h
        simp only [Bool.and_eq_true, Bool.not_eq_true'] at h
        obtain ⟨hf, ⟨h1, h2⟩, h3⟩ := h
        exact ⟨hg, hk, hr, hlen, hent, hpos, fun _ _ => L h1, fun _ => hf, fun _ _ => Hd h2, fun h => absurd k3 h, fun h => absurd h k1⟩
      · rw [if_neg k3] at h
        by_cases k4 : p.k = 4
        · rw [if_pos k4] at h
          simp only [Bool.and_eq_true, Bool.not_eq_true'] at h
          obtain ⟨hf, ⟨h1, h2⟩, h3⟩ := h
          exact ⟨hg, hk, hr, hlen, hent, hpos, fun _ _ => L h1, fun _ => hf, fun _ _ => Hd h2, fun _ h => absurd k4 h, fun h => absurd h k1⟩
        · rw [if_neg k4] at h
          by_cases k5 : p.k = 5
          · rw [if_pos k5] at h
            simp only [Bool.and_eq_true, Bool.not_eq_true'] at h
            obtain ⟨hf, ⟨h1, h2⟩, h3⟩ := h
            exact ⟨hg, hk, hr, hlen, hent, hpos, fun _ _ => L h1, fun _ => hf, fun _ _ => Hd h2, fun _ _ _ => M h3, fun h => absurd h k1⟩
          · rw [if_neg k5] at h
            by_cases k6 : p.k = 6
            · rw [if_pos k6] at h
              simp only [Bool.and_eq_true] at h
              obtain ⟨⟨⟨h1, _⟩, h2⟩, h3⟩ := h
              refine ⟨hg, hk, hr, hlen, hent, hpos, fun _ h => absurd k6 h, fun h => absurd k6 h, fun _ hh => ?_, fun _ _ hh => ?_, fun h => absurd h k1⟩
              · rcases hh with hh | hh
                · exact absurd k6 hh
                · rw [hh] at h3; simp only [Bool.false_eq_true, if_false] at h3; exact Hd h3
              · rcases hh with hh | hh
                · exact absurd k6 hh
                · rw [hh] at h2; simp only [Bool.false_eq_true, if_false] at h2; exact M h2
            · rw [if_neg k6] at h; cases h
/-- a part's bytes, as a list -/
theorem bytes_L {p : Prt} (h : IsP p) : (bytesP p).data.toList = putB p.g.toNat ++ (putB p.k.toNat ++ restL p) := by
  unfold bytesP
  rw [entsB_L]
  by_cases k1 : p.k = 1
  · obtain ⟨m0, h0⟩ := h.nf (by omega)
    unfold lenB midB flagB headB restL
    rw [if_pos k1, if_neg (by omega), if_pos k1, m0, h0, k1]
    simp [atK, hdK, numA, numsB, app_data, putS_data]
  · by_cases k6 : p.k = 6
    · unfold lenB midB flagB headB restL
      rw [if_neg k1, if_pos k6, if_pos k6, if_neg k1, if_neg (by omega), if_neg (by omega), if_pos k6, k6]
      cases p.mrk <;> cases p.hed <;> simp [atK, hdK, numA, numsB, getA, app_data, putS_data]
    · obtain ⟨m0, h0⟩ := h.nf k6
      have hl := h.nl k1 k6
      have hk := h.k
      unfold lenB midB flagB headB restL
      rw [if_neg k1, if_neg k6, if_neg k6, if_neg k1, m0, h0, hl]
      obtain k | k | k | k : p.k = 2 ∨ p.k = 3 ∨ p.k = 4 ∨ p.k = 5 := by omega
      all_goals (rw [k]; simp [atK, hdK, numA, numsB, getA, app_data, putS_data, entsL])
end Go.Proofs.Ytokjhocjemjfiaa.Sp
