/- What was written is read: a whole part; plain. -/
import Derived.Test.YtokjhocjemjfiaaBack
set_option linter.unusedVariables false
set_option linter.unusedSimpArgs false
namespace Go.Proofs.Ytokjhocjemjfiaa.Sp
open Go Go.RowKit Go.Proofs.Ytokjhocjemjfiaa.A Go.Proofs.Ytokjhocjemjfiaa.PartW Go.Proofs.Ytokjhocjemjfiaa.Seq Go.Proofs.Ytokjhocjemjfiaa.CodeW Go.Proofs.Ytokjhocjemjfiaa.CodeQ Go.Proofs.Ytokjhocjemjfiaa.Given Go.Proofs.YtokjhocjemjfiaaW.PrintWords Go.Proofs.YtokjhocjemjfiaaW.PrintLast Go.Proofs.YtokjhocjemjfiaaW.PrintMore
open Go.Proofs.Ytokjhocjemjfiaa.CodeM (putB putS_data putB_nine getN_put0 getN_cut app_data app_size ba_len ba_ext ext_data putS_size put_prefix)
section
variable {s : ByteArray} {q : Bool} {tail : List UInt8} {st : Nat × Nat} {L : List UInt8}
theorem Rd4.num1 {n : Nat} (h : Rd4 s q tail st (putB n)) (hn : n < 9223372036854775808) : Rd4 s q tail (numR s st).2 [] ∧ ((numR s st).2.2 = 0 → (numR s st).1 = n) := Rd4.num (by rw [List.append_nil]; exact h) hn
theorem numR_abs' (h : st.2 ≠ 0) : numR s st = (0, st) := numR_abs s h
theorem mustR_abs' {b : Bool} (h : st.2 ≠ 0) : mustR b st = st := mustR_abs b h
theorem upR_abs' {m : Int} (h : st.2 ≠ 0) : upR s m st = (0, st) := upR_abs s m h
theorem markR_abs {m : Bool} (h : st.2 ≠ 0) : (markR s m st).2 = st := by
  unfold markR
  cases m
  · rfl
  · simp only [if_true]
    rw [numR_abs' h]; dsimp only; rw [numR_abs' h]
theorem hedR_abs {m : Bool} (h : st.2 ≠ 0) : (hedR s m st).2 = st := by
  unfold hedR hardR
  cases m
  · rfl
  · simp only [if_true]
    rw [numR_abs' h]; dsimp only; rw [numR_abs' h]; dsimp only; rw [numR_abs' h]
theorem upR_e {m : Int} (h : (upR s m st).2.2 = 0) : st.2 = 0 := by
  apply Classical.byContradiction
  intro h2
  rw [upR_abs' h2] at h
  exact h2 h
theorem markR_e {m : Bool} (h : (markR s m st).2.2 = 0) : st.2 = 0 := by
  apply Classical.byContradiction
  intro h2
  rw [markR_abs h2] at h
  exact h2 h
theorem hedR_e {m : Bool} (h : (hedR s m st).2.2 = 0) : st.2 = 0 := by
  apply Classical.byContradiction
  intro h2
  rw [hedR_abs h2] at h
  exact h2 h
theorem hard_back {a b c : Nat} (h : Rd4 s q tail st (putB a ++ (putB b ++ (putB c ++ L)))) (ha : a < 9223372036854775808) (hb : b < 9223372036854775808) (hc : c < 9223372036854775808) :
    Rd4 s q tail (hardR s st).2 L ∧ ((hardR s st).2.2 = 0 → (hardR s st).1 = (a, b, c)) := by
  obtain ⟨h1, v1⟩ := h.num ha
  obtain ⟨h2, v2⟩ := h1.num hb
  obtain ⟨h3, v3⟩ := h2.num hc
  unfold hardR
  refine ⟨h3, fun h4 => ?_⟩
  have h5 := numR_e h4
  have h6 := numR_e h5
  dsimp only
  rw [v1 h6, v2 h5, v3 h4]
theorem mark_back {m : Bool} {a b : Nat} (h : Rd4 s q tail st ((if m then putB a ++ putB b else []) ++ L)) (ha : a < 9223372036854775808) (hb : b < 9223372036854775808) :
    Rd4 s q tail (markR s m st).2 L ∧ ((markR s m st).2.2 = 0 → (markR s m st).1 = if m then (a, b) else (0, 0)) := by
  unfold markR
  cases m
  · exact ⟨h, fun _ => rfl⟩
  · simp only [if_true, List.append_assoc] at h ⊢
    obtain ⟨h1, v1⟩ := h.num ha
    obtain ⟨h2, v2⟩ := h1.num hb
    refine ⟨h2, fun h4 => ?_⟩
    have h5 := numR_e h4
    rw [v1 h5, v2 h4]
theorem hed_back {m : Bool} {a b c : Nat} (h : Rd4 s q tail st ((if m then putB a ++ (putB b ++ putB c) else []) ++ L)) (ha : a < 9223372036854775808) (hb : b < 9223372036854775808) (hc : c < 9223372036854775808) :
    Rd4 s q tail (hedR s m st).2 L ∧ ((hedR s m st).2.2 = 0 → (hedR s m st).1 = if m then (a, b, c) else (0, 0, 0)) := by
  unfold hedR
  cases m
  · exact ⟨h, fun _ => rfl⟩
  · simp only [if_true, List.append_assoc] at h ⊢
    exact hard_back h ha hb hc
theorem cnt_back (own : Bool) {n : Nat} {f : Int} {l : List Ent} {k : Nat} {st' : Nat × Nat} {acc : List Ent} (h : Rd4 s q tail st' (entsL own l ++ L)) (hn : st'.2 = 0 → n = l.length) (hE : ∀ e ∈ l, isE e = true) (hf : st'.2 = 0 → own = false → ∀ i, i < l.length → (el l i).f0 = wrap64 (f + ((k + i : Nat) : Int))) :
    Rd4 s q tail (entsR s own f n k st' acc).2 L ∧ ((entsR s own f n k st' acc).2.2 = 0 → (entsR s own f n k st' acc).1 = acc ++ l) := by
  by_cases he : st'.2 = 0
  · rw [hn he]; exact ents_back own f l k st' acc h hE (hf he)
  · rw [entsR_err _ _ _ _ _ he]; exact ⟨h.err he _, fun h9 => absurd h9 he⟩
theorem ent_mem {p : Prt} (h : IsP p) : ∀ e ∈ p.l, isE e = true := fun e he => by
  obtain ⟨i, hi, rfl⟩ := List.mem_iff_getElem.1 he
  rw [← el_get hi]; exact h.e i hi
theorem flag_bits (p : Prt) : bit1 (flagN p) = p.mrk ∧ bit2 (flagN p) = p.hed ∧ flagN p ≤ 3 := by
  have b1 : ∀ n, n < 4 → bit1 n = decide (n % 2 = 1) := fun n hn => by
    unfold bit1
    rw [and1i (by omega)]
    rcases Nat.mod_two_eq_zero_or_one n with h | h <;> rw [h] <;> rfl
  have b2 : ∀ n, n < 4 → bit2 n = decide (n &&& 2 = 2) := fun n hn => by
    unfold bit2
    rw [and2i (by omega)]
    rcases and2_le n with h | h <;> rw [h] <;> rfl
  unfold flagN
  cases p.mrk <;> cases p.hed
  · exact ⟨by rw [if_neg (by decide), if_neg (by decide), b1 _ (by omega)]; rfl, by rw [if_neg (by decide), if_neg (by decide), b2 _ (by omega)]; rfl, by decide⟩
  · exact ⟨by rw [if_neg (by decide), if_pos rfl, b1 _ (by omega)]; rfl, by rw [if_neg (by decide), if_pos rfl, b2 _ (by omega)]; rfl, by decide⟩
  · exact ⟨by rw [if_pos rfl, if_neg (by decide), b1 _ (by omega)]; rfl, by rw [if_pos rfl, if_neg (by decide), b2 _ (by omega)]; rfl, by decide⟩
  · exact ⟨by rw [if_pos rfl, if_pos rfl, b1 _ (by omega)]; rfl, by rw [if_pos rfl, if_pos rfl, b2 _ (by omega)]; rfl, by decide⟩
theorem kind_back {p : Prt} (h : IsP p) (hr : Rd4 s q tail st (restL p)) :
    Rd4 s q tail (kindR s ⟨p.g, p.k, [], 0, 0, 0, 0, 0, false, false⟩ st).2 [] ∧ ((kindR s ⟨p.g, p.k, [], 0, 0, 0, 0, 0, false, false⟩ st).2.2 = 0 → (kindR s ⟨p.g, p.k, [], 0, 0, 0, 0, 0, false, false⟩ st).1 = p) := by
  have r3 := h.r 3
  have r4 := h.r 4
  have r5 := h.r 5
  have r6 := h.r 6
  have r7 := h.r 7
  simp only [getA] at r3 r4 r5 r6 r7
  have c3 := Int.toNat_of_nonneg r3.1
  have c4 := Int.toNat_of_nonneg r4.1
  have c5 := Int.toNat_of_nonneg r5.1
  have c6 := Int.toNat_of_nonneg r6.1
  have c7 := Int.toNat_of_nonneg r7.1
  have hl6 := h.l6
  have hk := h.k
  have hnl := h.nl
  have hnf := h.nf
  have hnh := h.nh
  have hnm := h.nm
  have hpos := h.pos
  have hd := h.d
  have hE := ent_mem h
  have hFB := flag_bits p
  have hes := h.e
  unfold kindR
  unfold restL at hr
  dsimp only
  by_cases k1 : p.k = 1
  · rw [if_pos k1] at hr ⊢
    have hp := hpos k1
    have hE0 := isE_rng' (hes 0 hp)
    obtain ⟨h1, v1⟩ := hr.up (most := 6) (by omega) (by omega)
    obtain ⟨h2, v2⟩ := h1.num (by omega)
    have h3 := cnt_back (L := []) (n := (upR s 6 st).1) (f := ((numR s (upR s 6 st).2).1 : Int)) (k := 0) (acc := []) false (by rw [List.append_nil]; exact h2) (fun h9 => v1 (numR_e h9)) hE (fun h9 _ i hi => by
      rw [v2 h9, Int.toNat_of_nonneg hE0.1.1, hd k1 i hi, Nat.zero_add]
      unfold wrap64; omega)
    unfold closeR
    refine ⟨h3.1, fun h9 => ?_⟩
    have h10 := h3.2 h9
    rw [List.nil_append] at h10
    obtain ⟨m0, d0⟩ := hnf (by omega)
    obtain ⟨a3, a4, a5⟩ := hnh (by omega) (.inl (by omega))
    obtain ⟨a6, a7⟩ := hnm (by omega) (by omega) (.inl (by omega))
    rw [h10]
    unfold Prt.ents
    obtain ⟨g, k, l, ht, hv, hc, ix, tm, m, d⟩ := p
    dsimp only at m0 d0 a3 a4 a5 a6 a7 ⊢
    rw [m0, d0, a3, a4, a5, a6, a7]
  · rw [if_neg k1] at hr ⊢
    by_cases k2 : p.k = 2
    · rw [if_pos k2] at hr ⊢
      obtain ⟨h1, v1⟩ := hard_back (L := []) (by rw [List.append_nil]; exact hr) (by omega) (by omega) (by omega)
      refine ⟨h1, fun h9 => ?_⟩
      have h10 := v1 h9
      obtain ⟨m0, d0⟩ := hnf (by omega)
      obtain ⟨a6, a7⟩ := hnm (by omega) (by omega) (.inl (by omega))
      have hl := hnl k1 (by omega)
      rw [h10]
      obtain ⟨g, k, l, ht, hv, hc, ix, tm, m, d⟩ := p
      dsimp only at m0 d0 a6 a7 hl c3 c4 c5 ⊢
      rw [m0, d0, a6, a7, hl, c3, c4, c5]
    · rw [if_neg k2] at hr ⊢
      by_cases k34 : p.k = 3 ∨ p.k = 4
      · rw [if_pos k34] at hr ⊢
        obtain ⟨h1, v1⟩ := hr.num (by omega)
        obtain ⟨h2, v2⟩ := h1.num1 (by omega)
        refine ⟨h2, fun h9 => ?_⟩
        have h10 := numR_e h9
        obtain ⟨m0, d0⟩ := hnf (by omega)
        obtain ⟨a3, a4, a5⟩ := hnh (by omega) (.inl (by omega))
        have hl := hnl k1 (by omega)
        rw [v1 h10, v2 h9]
        obtain ⟨g, k, l, ht, hv, hc, ix, tm, m, d⟩ := p
        dsimp only at m0 d0 a3 a4 a5 hl c6 c7 ⊢
        rw [m0, d0, a3, a4, a5, hl, c6, c7]
      · rw [if_neg k34] at hr ⊢
        by_cases k6 : p.k = 6
        · rw [if_pos k6] at hr ⊢
          obtain ⟨h1, v1⟩ := hr.up (most := 3) (by omega) (by omega)
          unfold fwdR
          dsimp only
          by_cases he : (upR s 3 st).2.2 = 0
          · rw [v1 he, hFB.1, hFB.2.1]
            obtain ⟨h2, v2⟩ := mark_back h1 (by omega) (by omega)
            obtain ⟨h3, v3⟩ := hed_back h2 (by omega) (by omega) (by omega)
            obtain ⟨h4, v4⟩ := h3.up (most := 6) (by omega) (by omega)
            have h5 := cnt_back (L := []) (n := (upR s 6 (hedR s p.hed (markR s p.mrk (upR s 3 st).2).2).2).1) (f := 0) (k := 0) (acc := []) true (by rw [List.append_nil]; exact h4) (fun h9 => v4 h9) hE (fun _ h9 => by cases h9)
            refine ⟨h5.1, fun h9 => ?_⟩
            have h10 := h5.2 h9
            have e1 : (upR s 6 (hedR s p.hed (markR s p.mrk (upR s 3 st).2).2).2).2.2 = 0 := by
              apply Classical.byContradiction
              intro h11
              rw [entsR_err _ _ _ _ _ h11] at h9
              exact h11 h9
            have e2 := upR_e e1
            have e3 := hedR_e e2
            rw [List.nil_append] at h10
            rw [h10, v2 e3, v3 e2]
            clear h1 h2 h3 h4 h5 v1 v2 v3 v4 hr hFB hE hes hd e1 e2 e3 h10 h9 he h
            obtain ⟨g, k, l, ht, hv, hc, ix, tm, m, d⟩ := p
            dsimp only at hnh hnm c3 c4 c5 c6 c7 ⊢
            cases m <;> cases d
            · obtain ⟨a3, a4, a5⟩ := hnh k2 (.inr rfl)
              obtain ⟨a6, a7⟩ := hnm (fun h => k34 (.inl h)) (fun h => k34 (.inr h)) (.inr rfl)
              rw [a3, a4, a5, a6, a7]; rfl
            · obtain ⟨a6, a7⟩ := hnm (fun h => k34 (.inl h)) (fun h => k34 (.inr h)) (.inr rfl)
              simp only [if_true, Bool.false_eq_true, if_false]
              rw [a6, a7, c3, c4, c5]; rfl
            · obtain ⟨a3, a4, a5⟩ := hnh k2 (.inr rfl)
              simp only [if_true, Bool.false_eq_true, if_false]
              rw [a3, a4, a5, c6, c7]; rfl
            · simp only [if_true]
              rw [c3, c4, c5, c6, c7]
          · rw [markR_abs he, hedR_abs he, upR_abs' he]
            dsimp only
            rw [entsR_err _ _ _ _ _ he]
            exact ⟨h1.err he _, fun h9 => absurd h9 he⟩
        · rw [if_neg k6] at hr ⊢
          refine ⟨hr, fun _ => ?_⟩
          obtain ⟨m0, d0⟩ := hnf k6
          obtain ⟨a3, a4, a5⟩ := hnh k2 (.inl k6)
          obtain ⟨a6, a7⟩ := hnm (by omega) (by omega) (.inl k6)
          have hl := hnl k1 k6
          obtain ⟨g, k, l, ht, hv, hc, ix, tm, m, d⟩ := p
          dsimp only at m0 d0 a3 a4 a5 a6 a7 hl ⊢
          rw [m0, d0, a3, a4, a5, a6, a7, hl]
theorem Rd4.end_ (h : Rd4 s q tail st []) : if q then st.2 = 0 ∧ st.1 + tail.length = s.size else st.2 = 10 := by
  unfold Rd4 at h
  cases q
  · rw [if_neg (by decide)] at h ⊢
    rcases h with h | ⟨_, _, m, hm, _⟩
    · exact h
    · exact absurd hm (Nat.not_lt_zero _)
  · rw [if_pos rfl] at h ⊢
    obtain ⟨h1, h2, h3⟩ := h
    have := congrArg List.length h3
    rw [List.length_drop, ba_len, List.nil_append] at this
    exact ⟨h1, by omega⟩
theorem doc_back {p : Prt} (hp : isP p = true) (h : Rd4 s q tail (0, 0) (putB p.g.toNat ++ (putB p.k.toNat ++ restL p))) : docR s = if q then (p, (s.size - tail.length, 0)) else (ZP, (0, 10)) := by
  have hi := isP_all hp
  have hg := hi.g
  have hk := hi.k
  obtain ⟨h1, v1⟩ := h.num (by omega)
  obtain ⟨h2, v2⟩ := h1.num (by omega)
  have hm : mustR (decide (1 ≤ ((numR s (numR s (0, 0)).2).1 : Int) ∧ ((numR s (numR s (0, 0)).2).1 : Int) ≤ 6)) (numR s (numR s (0, 0)).2).2 = (numR s (numR s (0, 0)).2).2 := must_ok _ (fun h9 => by rw [v2 h9, Int.toNat_of_nonneg (by omega)]; exact decide_eq_true hk)
  unfold docR
  dsimp only
  rw [hm]
  by_cases he : (numR s (numR s (0, 0)).2).2.2 = 0
  · rw [if_neg (fun h9 => h9 he), v1 (numR_e he), v2 he, Int.toNat_of_nonneg (by omega), Int.toNat_of_nonneg (by omega)]
    obtain ⟨h3, v3⟩ := kind_back hi h2
    have h4 := h3.end_
    by_cases he2 : (kindR s ⟨p.g, p.k, [], 0, 0, 0, 0, 0, false, false⟩ (numR s (numR s (0, 0)).2).2).2.2 = 0
    · rw [v3 he2, must_ok _ (fun _ => hp), if_neg (fun h9 => h9 he2)]
      cases q
      · rw [if_neg (by decide)] at h4; rw [he2] at h4; cases h4
      · rw [if_pos rfl] at h4 ⊢
        congr 2
        omega
    · rw [mustR_abs' he2, if_pos he2]
      cases q
      · rw [if_neg (by decide)] at h4 ⊢; rw [h4]
      · rw [if_pos rfl] at h4; exact absurd h4.1 he2
  · rw [if_pos he]
    have h4 := (h2.err he []).end_
    cases q
    · rw [if_neg (by decide)] at h4 ⊢; rw [h4]
    · rw [if_pos rfl] at h4; exact absurd h4.1 he
end
/-- what was written is read, whatever stands behind it -/
theorem read_back {p : Prt} (hp : isP p = true) (t : ByteArray) : progR (bytesP p ++ t) = (p, ((bytesP p).size, 0)) := by
  rw [prog_doc]
  have := doc_back (s := bytesP p ++ t) (q := true) (tail := t.data.toList) hp (by
    unfold Rd4
    rw [if_pos rfl]
    refine ⟨rfl, Nat.zero_le _, ?_⟩
    rw [List.drop_zero, app_data, bytes_L (isP_all hp)])
  rw [this, if_pos rfl, ba_len, app_size, Nat.add_sub_cancel]
/-- cut off it lacks bytes -/
theorem read_cut {p : Prt} (hp : isP p = true) {m : Nat} (hm : m < (bytesP p).size) : progR ((bytesP p).extract 0 m) = (ZP, (0, 10)) := by
  rw [prog_doc]
  have hL := bytes_L (isP_all hp)
  have := doc_back (s := (bytesP p).extract 0 m) (q := false) (tail := []) hp (by
    unfold Rd4
    rw [if_neg (by decide)]
    refine .inr ⟨rfl, Nat.zero_le _, m, ?_, ?_⟩
    · rw [← hL, ba_len]; exact hm
    · rw [List.drop_zero, ext_data, List.drop_zero, hL])
  rw [this, if_neg (by decide)]
end Go.Proofs.Ytokjhocjemjfiaa.Sp
