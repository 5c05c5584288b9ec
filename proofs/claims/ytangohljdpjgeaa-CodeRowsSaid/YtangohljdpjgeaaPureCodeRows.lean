/- CodeRows: 20 numbers and 20 texts of 200 bytes at most, one behind the other, are read in their order. -/
import Derived.Test.YtangohljdpjgeaaQx4
import Derived.Test.YtangohljdpjgeaaCodeKnown
namespace Go.Proofs.Ytangohljdpjgeaa.Q
open Go Go.RowKit Go.Proofs.Ytangohljdpjgeaa.CodeW Go.Proofs.Ytangohljdpjgeaa.CodeM Go.Proofs.Ytangohljdpjgeaa.CodeQ Go.Proofs.YtangohljdpjgeaaW.PrintWords Go.Proofs.YtangohljdpjgeaaW.PrintLast Go.Proofs.YtangohljdpjgeaaW.PrintMore
def numsB (l : List Int) : List UInt8 := l.flatMap fun n => putB n.toNat
def textsB (l : List ByteArray) : List UInt8 := l.flatMap fun t => textB t
theorem numsB_snoc (l : List Int) (n : Int) : numsB (l ++ [n]) = numsB l ++ putB n.toNat := by simp [numsB]
theorem textsB_snoc (l : List ByteArray) (n : ByteArray) : textsB (l ++ [n]) = textsB l ++ textB n := by simp [textsB]
theorem numsB_len (l : List Int) (h : ∀ n ∈ l, n < 9223372036854775808) : (numsB l).length ≤ 9 * l.length := by
  induction l with
  | nil => simp [numsB]
  | cons x l ih =>
    have h1 := ih (fun n hn => h n (List.mem_cons_of_mem _ hn))
    have h2 := putB_nine (n := x.toNat) (by have := h x List.mem_cons_self; omega)
    simp only [numsB, List.flatMap_cons, List.length_append, List.length_cons] at h1 ⊢
    omega
theorem textB_len (t : ByteArray) (h : t.size ≤ 200) : (textB t).length = (putB t.size).length + t.size ∧ (textB t).length ≤ 209 := by
  have := putB_nine (n := t.size) (by omega)
  unfold textB; rw [List.length_append, ba_len]; omega
theorem textsB_len (l : List ByteArray) (h : ∀ t ∈ l, t.size ≤ 200) : (textsB l).length ≤ 209 * l.length := by
  induction l with
  | nil => simp [textsB]
  | cons x l ih =>
    have h1 := ih (fun n hn => h n (List.mem_cons_of_mem _ hn))
    have h2 := (textB_len x (h x List.mem_cons_self)).2
    simp only [textsB, List.flatMap_cons, List.length_append, List.length_cons] at h1 ⊢
    omega
theorem take_get {α : Type} (l : List α) (d : α) {i : Nat} (h : i < l.length) : l.take (i + 1) = l.take i ++ [l.getD i d] ∧ l.drop i = l.getD i d :: l.drop (i + 1) := by
  constructor
  · rw [List.take_add_one, List.getD, List.getElem?_eq_getElem h]; rfl
  · rw [List.drop_eq_getElem_cons h, List.getD, List.getElem?_eq_getElem h]; rfl
theorem mn_eq (a b : Int) : mn a b = min a b := by unfold mn; omega

theorem rows_l0 (l : List Int) (ts : List ByteArray) (hl : l.length ≤ 20) (hw : ∀ n ∈ l, -9223372036854775808 ≤ n ∧ n < 9223372036854775808) : ∀ (d k i : Nat) (s : ByteArray), i + d = l.length → s.data.toList = numsB (l.take i) →
    ∃ s' : ByteArray, s'.data.toList = numsB l ∧ ladelaw1_CodeRows.l0 (k + d + 1) l ts s i = ladelaw1_CodeRows.l1 k l ts s' 0
  | 0, k, i, s, hi, hs => by
    rw [List.take_of_length_le (by omega)] at hs
    refine ⟨s, hs, ?_⟩
    rw [show k + 0 + 1 = k + 1 from rfl, ladelaw1_CodeRows.l0, if_neg (by omega)]
  | d + 1, k, i, s, hi, hs => by
    have hlt : i < l.length := by omega
    obtain ⟨h1, _⟩ := take_get l 0 hlt
    have hx : l.getD i 0 ∈ l := by rw [List.getD, List.getElem?_eq_getElem hlt]; exact List.getElem_mem hlt
    have hr : rd l i = l.getD i 0 := by unfold rd; rw [Int.toNat_natCast]
    have h9 := putB_nine (n := (l.getD i 0).toNat) (by have := hw _ hx; omega)
    have hz := putS_size (l.getD i 0).toNat
    have hsl := numsB_len (l.take i) (fun n hn => (hw n (List.mem_of_mem_take hn)).2)
    rw [← hs, ba_len, List.length_take] at hsl
    obtain ⟨s', e, h⟩ := rows_l0 l ts hl hw d k (i + 1) (s ++ putS (l.getD i 0).toNat) (by omega) (by rw [app_data, hs, putS_data, h1, numsB_snoc])
    refine ⟨s', e, ?_⟩
    rw [show k + (d + 1) + 1 = (k + d + 1) + 1 from by omega, ladelaw1_CodeRows.l0, if_pos (by omega), if_pos (by omega), hr, Put_f (hw _ hx).1 (hw _ hx).2]; simp only [bs]
    rw [if_pos (by omega), show wrap64 ((i : Int) + 1) = ((i + 1 : Nat) : Int) from by unfold wrap64; omega]
    exact h
theorem rows_l1 (l : List Int) (ts : List ByteArray) (hts : ts.length ≤ 20) (base : List UInt8) (hb : base.length ≤ 1000) : ∀ (d k i : Nat) (s : ByteArray), i + d = ts.length → (∀ t ∈ ts.take i, t.size ≤ 200) → s.data.toList = base ++ textsB (ts.take i) →
    ladelaw1_CodeRows.l1 (k + d + 1) l ts s i = some true ∨ ∃ s' : ByteArray, (∀ t ∈ ts, t.size ≤ 200) ∧ s'.data.toList = base ++ textsB ts ∧ ladelaw1_CodeRows.l1 (k + d + 1) l ts s i = ladelaw1_CodeRows.l2 k l ts s' 0 0
  | 0, k, i, s, hi, ht, hs => by
    rw [List.take_of_length_le (by omega)] at hs ht
    refine .inr ⟨s, ht, hs, ?_⟩
    rw [show k + 0 + 1 = k + 1 from rfl, ladelaw1_CodeRows.l1, if_neg (by omega)]
  | d + 1, k, i, s, hi, ht, hs => by
    have hlt : i < ts.length := by omega
    obtain ⟨h1, _⟩ := take_get ts ByteArray.empty hlt
    have hr : rdOf ByteArray.empty ts i = ts.getD i ByteArray.empty := by unfold rdOf; rw [Int.toNat_natCast]
    have hsl := textsB_len (ts.take i) ht
    have hss := congrArg List.length hs
    rw [ba_len, List.length_append] at hss
    rw [List.length_take] at hsl
    rw [show k + (d + 1) + 1 = (k + d + 1) + 1 from by omega, ladelaw1_CodeRows.l1, if_pos (by omega), if_pos (by omega), hr]
    by_cases hbig : ((ts.getD i ByteArray.empty).size : Int) > 200
    · left; rw [if_pos hbig]
    · rw [if_neg hbig]
      have hts2 := Text_size (ts.getD i ByteArray.empty)
      have htl := textB_len (ts.getD i ByteArray.empty) (by omega)
      rw [Text_f _ (by omega)]; simp only [bs]
      rw [if_pos (by omega), show wrap64 ((i : Int) + 1) = ((i + 1 : Nat) : Int) from by unfold wrap64; omega]
      refine rows_l1 l ts hts base hb d k (i + 1) _ (by omega) (fun t hm => ?_) (by rw [app_data, hs, Text_data, h1, textsB_snoc, List.append_assoc])
      rw [h1] at hm
      rcases List.mem_append.1 hm with hm | hm
      · exact ht t hm
      · rw [List.mem_singleton] at hm; subst hm; omega
theorem drop_at {α : Type} {a b c : List α} (h : c = a ++ b) : c.drop a.length = b := by subst h; simp
theorem rows_l2 (l : List Int) (ts : List ByteArray) (hl : l.length ≤ 20) (hw : ∀ n ∈ l, -9223372036854775808 ≤ n ∧ n < 9223372036854775808) (s : ByteArray) (tl : List UInt8) (hs : s.data.toList = numsB l ++ tl) (hz : s.size ≤ 10000) : ∀ (d k i : Nat), i + d = l.length →
    ladelaw1_CodeRows.l2 (k + d + 1) l ts s ((numsB (l.take i)).length : Nat) i = ladelaw1_CodeRows.l3 k ts s ((numsB l).length : Nat) 0
  | 0, k, i, hi => by
    rw [List.take_of_length_le (by omega), show k + 0 + 1 = k + 1 from rfl, ladelaw1_CodeRows.l2, if_neg (by omega)]
  | d + 1, k, i, hi => by
    have hlt : i < l.length := by omega
    obtain ⟨h1, h2⟩ := take_get l 0 hlt
    have hx : l.getD i 0 ∈ l := by rw [List.getD, List.getElem?_eq_getElem hlt]; exact List.getElem_mem hlt
    have hr : rd l i = l.getD i 0 := by unfold rd; rw [Int.toNat_natCast]
    have hsplit : s.data.toList = numsB (l.take i) ++ (putB (l.getD i 0).toNat ++ (numsB (l.drop (i + 1)) ++ tl)) := by
      rw [hs]
      conv => lhs; rw [show l = l.take i ++ l.drop i from (List.take_append_drop i l).symm, h2]
      simp [numsB]
    have hle := congrArg List.length hsplit
    rw [ba_len, List.length_append] at hle
    have hx2 := hw _ hx
    have hdat : (s.extract (numsB (l.take i)).length s.size).data.toList = putB (l.getD i 0).toNat ++ (numsB (l.drop (i + 1)) ++ tl) := by
      rw [ext_data, show List.take s.size s.data.toList = s.data.toList from List.take_of_length_le (by rw [ba_len]; omega)]; exact drop_at hsplit
    have hsz : (s.extract (numsB (l.take i)).length s.size).size ≤ s.size := by rw [ByteArray.size_extract]; omega
    have hg := getN_put0 (numsB (l.drop (i + 1)) ++ tl) (n := (l.getD i 0).toNat) (by omega)
    have hnl : (numsB (l.take (i + 1))).length = (numsB (l.take i)).length + (putB (l.getD i 0).toNat).length := by rw [h1, numsB_snoc, List.length_append]
    rw [show k + (d + 1) + 1 = (k + d + 1) + 1 from by omega, ladelaw1_CodeRows.l2, if_pos (by omega), mn_eq, show min (((numsB (l.take i)).length : Nat) : Int) (s.size : Int) = ((numsB (l.take i)).length : Nat) from by omega, if_pos (by omega), if_pos (by omega), Int.toNat_natCast, Get_f (by omega), hdat, hg]; simp only [bs]
    rw [List.length_append] at hle
    have h9 := putB_nine (n := (l.getD i 0).toNat) (by omega)
    rw [if_pos (show ((0 : Nat) : Int) = 0 from rfl), if_pos (by omega), hr, mx_eq, if_pos (by omega), show wrap64 (((numsB (l.take i)).length : Int) + ((putB (l.getD i 0).toNat).length : Int)) = (((numsB (l.take (i + 1))).length : Nat) : Int) from by unfold wrap64; omega, show wrap64 ((i : Int) + 1) = ((i + 1 : Nat) : Int) from by unfold wrap64; omega]
    exact rows_l2 l ts hl hw s tl hs hz d k (i + 1) (by omega)
theorem rows_l3 (ts : List ByteArray) (hts : ts.length ≤ 20) (s : ByteArray) (base : List UInt8) (hb : base.length ≤ 1000) (h200 : ∀ t ∈ ts, t.size ≤ 200) (hs : s.data.toList = base ++ textsB ts) (hz : s.size ≤ 10000) : ∀ (d k i : Nat), i + d = ts.length →
    ladelaw1_CodeRows.l3 (k + d + 1) ts s ((base.length + (textsB (ts.take i)).length : Nat) : Int) i = some true
  | 0, k, i, hi => by
    have hle := congrArg List.length hs
    rw [ba_len, List.length_append] at hle
    rw [List.take_of_length_le (by omega), show k + 0 + 1 = k + 1 from rfl, ladelaw1_CodeRows.l3, if_neg (by omega), ← hle, beq_self_eq_true]
  | d + 1, k, i, hi => by
    have hlt : i < ts.length := by omega
    obtain ⟨h1, h2⟩ := take_get ts ByteArray.empty hlt
    have hx : ts.getD i ByteArray.empty ∈ ts := by rw [List.getD, List.getElem?_eq_getElem hlt]; exact List.getElem_mem hlt
    have hr : rdOf ByteArray.empty ts i = ts.getD i ByteArray.empty := by unfold rdOf; rw [Int.toNat_natCast]
    obtain ⟨t, ht⟩ : ∃ t, ts.getD i ByteArray.empty = t := ⟨_, rfl⟩
    rw [ht] at h1 h2 hr hx
    have hsplit : s.data.toList = (base ++ textsB (ts.take i)) ++ (textB t ++ textsB (ts.drop (i + 1))) := by
      rw [hs]
      conv => lhs; rw [show ts = ts.take i ++ ts.drop i from (List.take_append_drop i ts).symm, h2]
      simp [textsB]
    have hle := congrArg List.length hsplit
    rw [ba_len, List.length_append, List.length_append] at hle
    have ht200 := h200 t hx
    have hdat : (s.extract (base.length + (textsB (ts.take i)).length) s.size).data.toList = textB t ++ textsB (ts.drop (i + 1)) := by
      rw [ext_data, show List.take s.size s.data.toList = s.data.toList from List.take_of_length_le (by rw [ba_len]; omega), ← List.length_append]; exact drop_at hsplit
    have hsz : (s.extract (base.length + (textsB (ts.take i)).length) s.size).size ≤ s.size := by rw [ByteArray.size_extract]; omega
    have hba : s.extract (base.length + (textsB (ts.take i)).length) s.size = (putS t.size ++ t) ++ ⟨(textsB (ts.drop (i + 1))).toArray⟩ := ba_ext (by rw [hdat, app_data, Text_data])
    have htb := texts_back t ⟨(textsB (ts.drop (i + 1))).toArray⟩ 200 (by omega)
    rw [if_neg (by omega), ← hba] at htb
    have htl := textB_len t ht200
    have hts2 := Text_size t
    have hnl : (textsB (ts.take (i + 1))).length = (textsB (ts.take i)).length + (textB t).length := by rw [h1, textsB_snoc, List.length_append]
    rw [List.length_append] at hle
    rw [show k + (d + 1) + 1 = (k + d + 1) + 1 from by omega, ladelaw1_CodeRows.l3, if_pos (by omega), mn_eq, show min ((base.length + (textsB (ts.take i)).length : Nat) : Int) (s.size : Int) = ((base.length + (textsB (ts.take i)).length : Nat) : Int) from by omega, if_pos (by omega), if_pos (by omega), Int.toNat_natCast, Texts_f _ _ (by omega), htb]; simp only [bs]
    rw [it, if_pos (by omega), hr, if_pos (Eq.refl t.toList), show wrap64 (((base.length + (textsB (ts.take i)).length : Nat) : Int) + ((putS t.size ++ t).size : Int)) = ((base.length + (textsB (ts.take (i + 1))).length : Nat) : Int) from by unfold wrap64; omega, show wrap64 ((i : Int) + 1) = ((i + 1 : Nat) : Int) from by unfold wrap64; omega]
    exact rows_l3 ts hts s base hb h200 hs hz d k (i + 1) (by omega)

theorem rows_pure (l : List Int) (ts : List ByteArray) (hw : ∀ n ∈ l, -9223372036854775808 ≤ n ∧ n < 9223372036854775808) : ∃ k, ladelaw1_CodeRows.f k l ts = some true := by
  refine ⟨(((5 + ts.length + 1) + l.length + 1) + ts.length + 1) + l.length + 1 + 1, ?_⟩
  unfold ladelaw1_CodeRows.f
  rw [show (((5 + ts.length + 1) + l.length + 1) + ts.length + 1) + l.length + 1 + 1 = ((((ts.length + 1) + l.length + 1) + ts.length + 1) + l.length + 1 + 1) + 5 from by omega, known_f, bs, itt]
  rw [show ((((ts.length + 1) + l.length + 1) + ts.length + 1) + l.length + 1 + 1) + 5 = ((((5 + ts.length + 1) + l.length + 1) + ts.length + 1) + l.length + 1) + 1 from by omega]
  by_cases h1 : (l.length : Int) > 20
  · rw [if_pos h1, ladelaw1_CodeRows.j0, itt]
  · rw [if_neg h1, ladelaw1_CodeRows.j0]
    by_cases h2 : (ts.length : Int) > 20
    · rw [decide_eq_true h2, itt]
    · rw [decide_eq_false h2, iff_]
      obtain ⟨s, hs, e⟩ := rows_l0 l ts (by omega) hw l.length (((5 + ts.length + 1) + l.length + 1) + ts.length + 1) 0 ⟨#[]⟩ (by omega) rfl
      have e' : ladelaw1_CodeRows.l0 ((((5 + ts.length + 1) + l.length + 1) + ts.length + 1) + l.length + 1) l ts ⟨#[]⟩ 0 = _ := e
      rw [e']
      have hnl := numsB_len l (fun n hn => (hw n hn).2)
      rcases rows_l1 l ts (by omega) (numsB l) (by omega) ts.length ((5 + ts.length + 1) + l.length + 1) 0 s (by omega) (by simp) (by rw [hs]; simp [textsB]) with h | ⟨s', h200, hs', h⟩
      · exact h
      · have h' : ladelaw1_CodeRows.l1 (((5 + ts.length + 1) + l.length + 1) + ts.length + 1) l ts s 0 = _ := h
        rw [h']
        have htl := textsB_len ts h200
        have hle := congrArg List.length hs'
        rw [ba_len, List.length_append] at hle
        have h3 := rows_l2 l ts (by omega) hw s' (textsB ts) hs' (by omega) l.length (5 + ts.length + 1) 0 (by omega)
        have h3' : ladelaw1_CodeRows.l2 ((5 + ts.length + 1) + l.length + 1) l ts s' 0 0 = _ := h3
        rw [h3']
        have h4 := rows_l3 ts (by omega) s' (numsB l) (by omega) h200 hs' (by omega) ts.length 5 0 (by omega)
        exact h4

theorem ladelaw1_CodeRows.walk (_ : True) (a0 : Option Addr) (len0 cap0 : Nat) (z0 : List Int) (a1 : Option Addr) (len1 cap1 : Nat) (z1 : List ByteArray) (w : World)
    (w0 : (a0 = none ∧ len0 = 0 ∧ cap0 = 0 ∧ z0 = []) ∨ ∃ x, a0 = some x ∧ len0 ≤ cap0 ∧ cap0 ≤ maxLen ∧ z0.length = cap0 ∧ (∀ i, i < z0.length → w.cell? (x.add i) = some (.int .i64 (z0.getD i 0))) ∧ ∀ n ∈ z0, (Lit.int .i64 n).wf = true) (_ : len0 * 8 ≤ 140737488351232)
    (w1 : (a1 = none ∧ len1 = 0 ∧ cap1 = 0 ∧ z1 = []) ∨ ∃ x, a1 = some x ∧ len1 ≤ cap1 ∧ cap1 ≤ maxLen ∧ z1.length = cap1 ∧ (∀ i, i < z1.length → w.cell? (x.add i) = some (.string (z1.getD i ByteArray.empty)))) :
    Calls Try.prog 5 #[.slice a0 len0 cap0, .slice a1 len1 cap1] w fun e w' => e = .returned (.bool true) ∧ Below w.heap.size w w' := by
  obtain ⟨l0, rfl, hr0, hm0, hw0, hc0⟩ := ReadsInt.ofRowC w0
  obtain ⟨l1, rfl, hr1, hc1⟩ : ∃ l1 : List ByteArray, len1 = l1.length ∧ ReadsOf Value.string ByteArray.empty w a1 l1.length l1 ∧ l1.length ≤ cap1 := by
    rcases w1 with ⟨rfl, rfl, rfl, rfl⟩ | ⟨x, rfl, hl, hm, hz, hcell⟩
    · exact ⟨[], rfl, ⟨rfl, by decide, fun h => absurd h (by decide)⟩, Nat.le_refl _⟩
    · have e : (z1.take len1).length = len1 := by rw [List.length_take]; omega
      refine ⟨z1.take len1, e.symm, ⟨rfl, by unfold maxLen at hm; omega, fun _ => ⟨x, rfl, fun j hj => ?_⟩⟩, by omega⟩
      rw [hcell j (by omega), List.getD, List.getD, List.getElem?_take, if_pos (by omega)]
  have hwf : ∀ n ∈ l0, -9223372036854775808 ≤ n ∧ n < 9223372036854775808 := fun n hn => wf_i64 (hw0 n hn)
  obtain ⟨k, h⟩ := rows_pure l0 l1 hwf
  refine (ladelaw1_CodeRows.calls k _ _ l0 _ _ l1 true w (Kd.C_of_reads (d := (0 : Int)) (h1 := fun _ => rfl) hr0) hc0 (Kd.C_of_reads (d := ByteArray.empty) (h1 := fun _ => rfl) hr1) hc1 h).mono ?_
  rintro e w' ⟨rfl, hd⟩
  exact ⟨rfl, hd⟩
end Go.Proofs.Ytangohljdpjgeaa.Q
namespace Go.Proofs.Ytangohljdpjgeaa.Pure
theorem CodeRows : True := trivial
end Go.Proofs.Ytangohljdpjgeaa.Pure
