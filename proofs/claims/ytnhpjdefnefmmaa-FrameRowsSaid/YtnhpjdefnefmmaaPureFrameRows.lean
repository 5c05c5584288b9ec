/- FrameRows: 12 frames at most, one behind the other, are read in their order; the rest is left. -/
import Derived.Test.YtnhpjdefnefmmaaQx4
import Derived.Test.YtnhpjdefnefmmaaFrameM
namespace Go.Proofs.Ytnhpjdefnefmmaa.Q
open Go Go.RowKit Go.Proofs.Ytnhpjdefnefmmaa.CodeF Go.Proofs.Ytnhpjdefnefmmaa.CrcW Go.Proofs.Ytnhpjdefnefmmaa.CrcM Go.Proofs.Ytnhpjdefnefmmaa.FixQ Go.Proofs.Ytnhpjdefnefmmaa.FrameW Go.Proofs.Ytnhpjdefnefmmaa.FrameM Go.Proofs.YtnhpjdefnefmmaaW.PrintWords Go.Proofs.YtnhpjdefnefmmaaW.PrintLast Go.Proofs.YtnhpjdefnefmmaaW.PrintMore
def frameL (b : ByteArray) : List UInt8 := if b.size = 0 then [] else (wrapS b).data.toList
def framesL (l : List ByteArray) : List UInt8 := l.flatMap frameL
theorem framesL_snoc (l : List ByteArray) (n : ByteArray) : framesL (l ++ [n]) = framesL l ++ frameL n := by simp [framesL]
theorem frameL_len (b : ByteArray) (h : b.size ≤ 200) : (frameL b).length ≤ 212 := by
  unfold frameL; split
  · simp
  · rw [ba_len, wrapS_size]; omega
theorem framesL_len (l : List ByteArray) (h : ∀ t ∈ l, t.size ≤ 200) : (framesL l).length ≤ 212 * l.length := by
  induction l with
  | nil => simp [framesL]
  | cons x l ih =>
    have h1 := ih (fun n hn => h n (List.mem_cons_of_mem _ hn))
    have h2 := frameL_len x (h x List.mem_cons_self)
    simp only [framesL, List.flatMap_cons, List.length_append, List.length_cons] at h1 ⊢
    omega
theorem take_get {α : Type} (l : List α) (d : α) {i : Nat} (h : i < l.length) : l.take (i + 1) = l.take i ++ [l.getD i d] ∧ l.drop i = l.getD i d :: l.drop (i + 1) := by
  constructor
  · rw [List.take_add_one, List.getD, List.getElem?_eq_getElem h]; rfl
  · rw [List.drop_eq_getElem_cons h, List.getD, List.getElem?_eq_getElem h]; rfl
theorem mn_eq (a b : Int) : mn a b = min a b := by unfold mn; omega
theorem drop_at {α : Type} {a b c : List α} (h : c = a ++ b) : c.drop a.length = b := by subst h; simp
theorem frows_l0 (l : List ByteArray) (rest : ByteArray) (hl : l.length ≤ 12) (hr : rest.size ≤ 50) : ∀ (d k i : Nat) (s : ByteArray), i + d = l.length → (∀ t ∈ l.take i, t.size ≤ 200) → s.data.toList = framesL (l.take i) →
    ladelaw3_FrameRows.l0 (k + d + 6) l rest s i = some true ∨ ∃ s' : ByteArray, (∀ t ∈ l, t.size ≤ 200) ∧ s'.data.toList = framesL l ++ rest.data.toList ∧ ladelaw3_FrameRows.l0 (k + d + 6) l rest s i = ladelaw3_FrameRows.l1 (k + 5) l rest s' 0 0
  | 0, k, i, s, hi, ht, hs => by
    rw [List.take_of_length_le (by omega)] at hs ht
    have hsl := framesL_len l ht
    rw [← hs, ba_len] at hsl
    refine .inr ⟨s ++ rest, ht, by rw [app_data, hs], ?_⟩
    rw [show k + 0 + 6 = (k + 5) + 1 from by omega, ladelaw3_FrameRows.l0, if_neg (by omega), if_pos (by omega)]
  | d + 1, k, i, s, hi, ht, hs => by
    have hlt : i < l.length := by omega
    obtain ⟨h1, _⟩ := take_get l ByteArray.empty hlt
    have hrd : rdOf ByteArray.empty l i = l.getD i ByteArray.empty := by unfold rdOf; rw [Int.toNat_natCast]
    have hsl := framesL_len (l.take i) ht
    rw [← hs, ba_len, List.length_take] at hsl
    rw [show k + (d + 1) + 6 = (k + d + 6) + 1 from by omega, ladelaw3_FrameRows.l0, if_pos (by omega), if_pos (by omega), hrd]
    obtain ⟨t, htt⟩ : ∃ t, l.getD i ByteArray.empty = t := ⟨_, rfl⟩
    rw [htt] at h1 ⊢
    by_cases hbig : (t.size : Int) > 200
    · left; rw [if_pos hbig]
    · rw [if_neg hbig, show k + d + 6 = (k + d + 1) + 5 from by omega, Wrap_q t (by omega)]
      have hmem : ∀ u ∈ l.take (i + 1), u.size ≤ 200 := fun u hm => by
        rw [h1] at hm
        rcases List.mem_append.1 hm with hm | hm
        · exact ht u hm
        · rw [List.mem_singleton] at hm; subst hm; omega
      have hw1 : wrap64 ((i : Int) + 1) = ((i + 1 : Nat) : Int) := by unfold wrap64; omega
      by_cases h0 : t.size = 0
      · have hb1 : (t.toList != ([] : List UInt8)) = false := bne_eq_false_iff_eq.2 ((list_nil t).2 h0)
        rw [if_pos h0, bs, hb1, if_neg (by decide), if_pos (by show _ ≤ _; have : (⟨#[]⟩ : ByteArray).size = 0 := rfl; simp only [this]; omega), hw1, show (k + d + 1) + 5 = k + d + 6 from by omega]
        refine frows_l0 l rest hl hr d k (i + 1) (s ++ ⟨#[]⟩) (by omega) hmem ?_
        rw [app_data, hs, h1, framesL_snoc, frameL, if_pos h0]
      · have hb1 : (t.toList != ([] : List UInt8)) = true := bne_iff_ne.2 (fun e => h0 ((list_nil t).1 e))
        have hz := wrapS_size t
        rw [if_neg h0, if_neg (by omega), bs, hb1, if_neg (show ¬ (((0 : Int) == 0) != true) = true by decide), if_pos (by show _ ≤ _; simp only; omega), hw1, show (k + d + 1) + 5 = k + d + 6 from by omega]
        refine frows_l0 l rest hl hr d k (i + 1) (s ++ wrapS t) (by omega) hmem ?_
        rw [app_data, hs, h1, framesL_snoc, frameL, if_neg h0]
theorem frows_l1 (l : List ByteArray) (rest : ByteArray) (hl : l.length ≤ 12) (hr : rest.size ≤ 50) (s : ByteArray) (h200 : ∀ t ∈ l, t.size ≤ 200) (hs : s.data.toList = framesL l ++ rest.data.toList) (hz : s.size ≤ 3000) : ∀ (d k i : Nat), i + d = l.length →
    ladelaw3_FrameRows.l1 (k + d + 1) l rest s ((framesL (l.take i)).length : Nat) i = some true
  | 0, k, i, hi => by
    have hle := congrArg List.length hs
    rw [ba_len, List.length_append, ba_len] at hle
    rw [List.take_of_length_le (by omega), show k + 0 + 1 = k + 1 from rfl, ladelaw3_FrameRows.l1, if_neg (by omega), show wrap64 ((s.size : Int) - ((framesL l).length : Nat)) = (rest.size : Int) from by unfold wrap64; omega, beq_self_eq_true]
  | d + 1, k, i, hi => by
    have hlt : i < l.length := by omega
    obtain ⟨h1, h2⟩ := take_get l ByteArray.empty hlt
    have hx : l.getD i ByteArray.empty ∈ l := by rw [List.getD, List.getElem?_eq_getElem hlt]; exact List.getElem_mem hlt
    have hrd : rdOf ByteArray.empty l i = l.getD i ByteArray.empty := by unfold rdOf; rw [Int.toNat_natCast]
    have hw1 : wrap64 ((i : Int) + 1) = ((i + 1 : Nat) : Int) := by unfold wrap64; omega
    rw [show k + (d + 1) + 1 = (k + d + 1) + 1 from by omega, ladelaw3_FrameRows.l1, if_pos (by omega), if_pos (by omega), hrd, hw1]
    obtain ⟨t, htt⟩ : ∃ t, l.getD i ByteArray.empty = t := ⟨_, rfl⟩
    rw [htt] at h1 h2 hx ⊢
    have ih := frows_l1 l rest hl hr s h200 hs hz d k (i + 1) (by omega)
    rw [h1, framesL_snoc] at ih
    by_cases h0 : t.size = 0
    · rw [frameL, if_pos h0, List.append_nil] at ih
      rw [if_pos ((list_nil t).2 h0)]; exact ih
    · have hsplit : s.data.toList = framesL (l.take i) ++ ((wrapS t).data.toList ++ (framesL (l.drop (i + 1)) ++ rest.data.toList)) := by
        rw [hs]
        conv => lhs; rw [show l = l.take i ++ l.drop i from (List.take_append_drop i l).symm, h2]
        simp [framesL, frameL, h0]
      have hle := congrArg List.length hsplit
      rw [ba_len, List.length_append, List.length_append, ba_len, wrapS_size] at hle
      have hba : s.extract (framesL (l.take i)).length s.size = wrapS t ++ ⟨(framesL (l.drop (i + 1)) ++ rest.data.toList).toArray⟩ := bytes_eq (by
        rw [ext_end, drop_at hsplit, app_data])
      have hread := read_wrap t ⟨(framesL (l.drop (i + 1)) ++ rest.data.toList).toArray⟩ h0 (by have := h200 t hx; omega)
      have hsz : (s.extract (framesL (l.take i)).length s.size).size ≤ 140737488351232 := by rw [ByteArray.size_extract]; omega
      rw [frameL, if_neg h0, List.length_append, ba_len, wrapS_size] at ih
      rw [if_neg (fun e => h0 ((list_nil t).1 e)), mn_eq, show min ((((framesL (l.take i)).length : Nat)) : Int) (s.size : Int) = (((framesL (l.take i)).length : Nat) : Int) from by omega, if_pos (by omega), if_pos (by omega), Int.toNat_natCast, Read_q _ hsz, hba, hread]; simp only [bs]
      rw [if_pos (show ((1 : Nat) : Int) = 1 from rfl), it, show wrap64 ((((framesL (l.take i)).length : Nat) : Int) + ((t.size + 12 : Nat) : Int)) = (((framesL (l.take i)).length + (t.size + 12) : Nat) : Int) from by unfold wrap64; omega]
      exact ih
theorem frows_pure (l : List ByteArray) (rest : ByteArray) : ∃ k, ladelaw3_FrameRows.f k l rest = some true := by
  refine ⟨(l.length + l.length + 7) + 5, ?_⟩
  unfold ladelaw3_FrameRows.f
  rw [known_q, bs, itt]
  rw [show l.length + l.length + 7 + 5 = (l.length + l.length + 11) + 1 from by omega]
  by_cases h1 : (l.length : Int) > 12
  · rw [if_pos h1, ladelaw3_FrameRows.j0, itt]
  · rw [if_neg h1, ladelaw3_FrameRows.j0]
    by_cases h2 : (rest.size : Int) > 50
    · rw [decide_eq_true h2, itt]
    · rw [decide_eq_false h2, iff_]
      rcases frows_l0 l rest (by omega) (by omega) l.length (l.length + 5) 0 ⟨#[]⟩ (by omega) (by simp) (by simp [framesL]) with h | ⟨s', h200, hs', h⟩
      · rw [show l.length + l.length + 11 = l.length + 5 + l.length + 6 from by omega]; exact h
      · rw [show l.length + l.length + 11 = l.length + 5 + l.length + 6 from by omega]
        have h' : ladelaw3_FrameRows.l0 (l.length + 5 + l.length + 6) l rest ⟨#[]⟩ 0 = _ := h
        rw [h']
        have hfl := framesL_len l h200
        have hle := congrArg List.length hs'
        rw [ba_len, List.length_append, ba_len] at hle
        have h3 := frows_l1 l rest (by omega) (by omega) s' h200 hs' (by omega) l.length 9 0 (by omega)
        rw [show 9 + l.length + 1 = l.length + 5 + 5 from by omega] at h3
        exact h3
theorem ladelaw3_FrameRows.walk (_ : True) (a0 : Option Addr) (len0 cap0 : Nat) (z0 : List ByteArray) (a1 : ByteArray) (w : World)
    (w0 : (a0 = none ∧ len0 = 0 ∧ cap0 = 0 ∧ z0 = []) ∨ ∃ x, a0 = some x ∧ len0 ≤ cap0 ∧ cap0 ≤ maxLen ∧ z0.length = cap0 ∧ (∀ i, i < z0.length → w.cell? (x.add i) = some (.string (z0.getD i ByteArray.empty)))) (_ : a1.size ≤ 140737488351232) :
    Calls Try.prog 6 #[.slice a0 len0 cap0, .string a1] w fun e w' => e = .returned (.bool true) ∧ Below w.heap.size w w' := by
  obtain ⟨l1, rfl, hr1, hc1⟩ : ∃ l1 : List ByteArray, len0 = l1.length ∧ ReadsOf Value.string ByteArray.empty w a0 l1.length l1 ∧ l1.length ≤ cap0 := by
    rcases w0 with ⟨rfl, rfl, rfl, rfl⟩ | ⟨x, rfl, hl, hm, hz, hcell⟩
    · exact ⟨[], rfl, ⟨rfl, by decide, fun h => absurd h (by decide)⟩, Nat.le_refl _⟩
    · have e : (z0.take len0).length = len0 := by rw [List.length_take]; omega
      refine ⟨z0.take len0, e.symm, ⟨rfl, by unfold maxLen at hm; omega, fun _ => ⟨x, rfl, fun j hj => ?_⟩⟩, by omega⟩
      rw [hcell j (by omega), List.getD, List.getD, List.getElem?_take, if_pos (by omega)]
  obtain ⟨k, h⟩ := frows_pure l1 a1
  refine (ladelaw3_FrameRows.calls k _ _ l1 a1 true w (Kd.C_of_reads (d := ByteArray.empty) (h1 := fun _ => rfl) hr1) hc1 h).mono ?_
  rintro e w' ⟨rfl, hd⟩
  exact ⟨rfl, hd⟩
end Go.Proofs.Ytnhpjdefnefmmaa.Q
namespace Go.Proofs.Ytnhpjdefnefmmaa.Pure
theorem FrameRows : True := trivial
end Go.Proofs.Ytnhpjdefnefmmaa.Pure
