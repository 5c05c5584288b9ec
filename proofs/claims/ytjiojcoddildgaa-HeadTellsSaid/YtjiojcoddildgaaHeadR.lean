/- What the reference tells of heads: plain laws. -/
import Derived.Test.YtjiojcoddildgaaQx2
import Derived.Test.YtjiojcoddildgaaHeadM
namespace Go.Proofs.Ytjiojcoddildgaa.HeadR
open Go Go.RowKit Go.Proofs.Ytjiojcoddildgaa.Q Go.Proofs.Ytjiojcoddildgaa.CrcW Go.Proofs.Ytjiojcoddildgaa.CrcM Go.Proofs.Ytjiojcoddildgaa.HeadW Go.Proofs.Ytjiojcoddildgaa.HeadM Go.Proofs.YtjiojcoddildgaaW.PrintWords Go.Proofs.YtjiojcoddildgaaW.PrintLast Go.Proofs.YtjiojcoddildgaaW.PrintMore
theorem ref_l1 (b : ByteArray) (i : Int) : ∀ (d k : Nat) (c : BitVec 32) (j : Int), j + d = 8 → 0 ≤ j →
    laderef1_More.l1 (k + d + 1) b (uv c) i j = laderef1_More.l0 k b (uv (sts c d)) (wrap64 (i + 1))
  | 0, k, c, j, hj, h0 => by
    rw [show k + 0 + 1 = k + 1 from rfl]; unfold laderef1_More.l1
    rw [if_neg (by omega)]; rfl
  | d + 1, k, c, j, hj, h0 => by
    rw [show k + (d + 1) + 1 = (k + d + 1) + 1 from by omega]; unfold laderef1_More.l1
    rw [if_pos (by omega), show wrap64 (j + 1) = j + 1 from by unfold wrap64; omega]
    have h := ref_l1 b i d k (st c) (j + 1) (by omega) (by omega)
    rw [sts_st] at h
    by_cases ht : Go.bits .and .u32 (uv c) 1 = 1
    · rw [if_pos ht, test_yes (beq_iff_eq.2 ht), h]
    · rw [if_neg ht, test_no (beq_eq_false_iff_ne.2 ht), h]

theorem ref_l0 (b : ByteArray) (hb : b.size ≤ 140737488351232) : ∀ (n : Nat) (c : BitVec 32) (i : Nat), i + n = b.size →
    laderef1_More.l0 (10 * n + 1) b (uv c) i = some (uv (~~~ ((b.data.toList.drop i).foldl byteStep c)))
  | 0, c, i, h => by
    rw [show 10 * 0 + 1 = 0 + 1 from rfl]; unfold laderef1_More.l0
    rw [if_neg (by omega), List.drop_of_length_le (by simp; omega), lit_max, xor_uv, BitVec.allOnes_xor]; rfl
  | n + 1, c, i, h => by
    rw [show 10 * (n + 1) + 1 = (10 * n + 1 + 8 + 1) + 1 from by omega]; unfold laderef1_More.l0
    have hi : i < b.size := by omega
    rw [if_pos (by omega), if_pos (by omega), bt_mod, bt_uv b hi, xor_uv, ref_l1 b i 8 _ _ 0 (by omega) (by omega),
      show wrap64 ((i : Int) + 1) = ((i + 1 : Nat) : Int) from by unfold wrap64; omega, ref_l0 b hb n _ (i + 1) (by omega), drop_cons b.data.toList (i := i) (by simpa using hi)]
    rfl
theorem ref_f (b : ByteArray) (hb : b.size ≤ 140737488351232) (c : BitVec 32) : laderef1_More.f (10 * b.size + 1) (uv c) b = some (uv (more c b.data.toList)) := by
  unfold laderef1_More.f
  rw [lit_max, xor_uv, BitVec.allOnes_xor, show (0 : Int) = ((0 : Nat) : Int) from rfl, ref_l0 b hb b.size _ 0 (by omega)]; rfl

theorem bt_getD (s : ByteArray) (i : Nat) (h : i < s.size) : bt s i = ((s.data.toList.getD i 0).toNat : Int) := by
  have e : s.data.toList.getD i 0 = s[i] := by
    show (s.data.toList[i]?).getD 0 = _
    rw [List.getElem?_eq_getElem (by simpa using h)]; rfl
  rw [e]; unfold bt; simp [h]
def digs : Nat → Nat → List UInt8
  | 0, _ => []
  | m + 1, x => UInt8.ofNat (dg x m) :: digs m x
theorem more_le (b : ByteArray) {k : Nat} (r : Int) (h : laderef1_More.f k 0 b = some r) : ∀ d, laderef1_More.f (k + d) 0 b = some r
  | 0 => h
  | d + 1 => laderef1_More.mono _ _ _ _ (more_le b r h d)
theorem ref_more (b : ByteArray) (hb : b.size ≤ 140737488351232) (k : Nat) (hk : 10 * b.size + 1 ≤ k) : laderef1_More.f k 0 b = some (sum b) := by
  have h := ref_f b hb 0#32
  rw [← zero_uv] at h
  obtain ⟨d, rfl⟩ : ∃ d, k = 10 * b.size + 1 + d := ⟨k - (10 * b.size + 1), by omega⟩
  exact more_le b _ h d
theorem held_ref (id : Int) : mx 1 (mn id 99999999) = ((heldN id : Nat) : Int) := by
  unfold heldN mn mx
  repeat' split
  all_goals omega
theorem fix0 : fixS 0 = ⟨#[0, 0, 0, 0]⟩ := bytes_eq (by decide +kernel)
theorem ref_head (id : Int) (k : Nat) (hk : 200 ≤ k) : laderef9_Head.f k id = some (headS (heldN id)) := by
  unfold laderef9_Head.f
  have hr := held_rng id
  have hf : ∀ n, laderef1_Fixed.f n = some (fixS n) := fun n => rfl
  have hz := headP_size (heldN id)
  have h4 : (⟨#[76, 65, 68, 69]⟩ : ByteArray).size = 4 := rfl
  have hp : (⟨#[76, 65, 68, 69]⟩ ++ fixS (heldN id : Nat) ++ (⟨#[0, 0, 0, 0]⟩ : ByteArray)) = headP (heldN id) := by unfold headP; rw [fix0]
  rw [held_ref, hf, bs, if_pos (by rw [fixS_size]; decide), if_pos (by rw [app_size, fixS_size, h4]; decide), hp, ref_more _ (by rw [hz]; decide) k (by rw [hz]; omega), bs, hf, bs, if_pos (by rw [hz, fixS_size]; decide)]
  rfl
theorem ref_name_l (n : Nat) : ∀ (d k i : Nat) (acc : ByteArray), i + d = 8 → acc.data.toList = digs i n → n ≤ 99999999 → laderef9_Name.l0 (k + d + 1) ((n / 10 ^ i : Nat) : Int) acc (i : Int) = some (nameS n)
  | 0, k, i, acc, hi, ha, hn => by
    obtain rfl : i = 8 := by omega
    have hz : acc.size = 8 := by rw [← ba_len, ha]; rfl
    rw [show k + 0 + 1 = k + 1 from rfl, laderef9_Name.l0, if_neg (by decide), if_pos (by rw [hz]; decide)]
    congr 1
    apply bytes_eq
    rw [app_data, ha, nameS_data]
    rfl
  | d + 1, k, i, acc, hi, ha, hn => by
    have hz : acc.size = i := by
      rw [← ba_len, ha]
      have : ∀ m x, (digs m x).length = m := fun m x => by
        induction m with
        | zero => rfl
        | succ m ih => show (digs m x).length + 1 = _; rw [ih]
      exact this i n
    have hq : n / 10 ^ i ≤ 99999999 := Nat.le_trans (Nat.div_le_self _ _) hn
    have hd : n / 10 ^ i / 10 = n / 10 ^ (i + 1) := div_ten n i
    have hg : dg n i = 48 + n / 10 ^ i % 10 := rfl
    rw [show k + (d + 1) + 1 = (k + d + 1) + 1 from by omega, laderef9_Name.l0, if_pos (by omega), bs]
    generalize n / 10 ^ i = q at *
    have e1 : (wrap64 (48 + (Int.tmod (q : Int) 10))) % 256 = ((dg n i : Nat) : Int) := by
      rw [Int.tmod_eq_emod_of_nonneg (by omega), hg]; unfold wrap64; omega
    have e2 : wrap64 (Int.tdiv (q : Int) 10) = ((q / 10 : Nat) : Int) := by
      rw [Int.tdiv_eq_ediv_of_nonneg (by omega)]; unfold wrap64; omega
    rw [e1, e2, hd, if_pos (by rw [strOfNums_size, hz]; simp; omega), show wrap64 ((i : Int) + 1) = ((i + 1 : Nat) : Int) from by unfold wrap64; omega]
    refine ref_name_l n d k (i + 1) _ (by omega) ?_ hn
    rw [app_data, strOfNums_data, ha]
    rfl
theorem ref_name (id : Int) (k : Nat) (hk : 9 ≤ k) : laderef9_Name.f k id = some (nameS (heldN id)) := by
  unfold laderef9_Name.f
  rw [held_ref]
  obtain ⟨j, rfl⟩ : ∃ j, k = j + 8 + 1 := ⟨k - 9, by omega⟩
  have h := ref_name_l (heldN id) 8 j 0 ⟨#[]⟩ (by omega) rfl (held_rng id).2
  rw [Nat.pow_zero, Nat.div_one] at h
  exact h
theorem ref_check (s : ByteArray) (id : Int) (k : Nat) (hk : 200 ≤ k) : laderef9_Check.f k s id = some (checkN s (heldN id)) := by
  unfold laderef9_Check.f
  rw [ref_head id k hk, bs]
  have hz := headS_size (heldN id)
  unfold checkN hasP
  generalize headS (heldN id) = h at hz ⊢
  have hm : mn (s.size : Int) (h.size : Int) = ((min s.size 16 : Nat) : Int) := by unfold mn; rw [hz]; split <;> omega
  rw [hm, if_pos (by omega), if_pos (by omega), if_pos (by omega), Int.toNat_natCast, hz]
  have all : ∀ (t : ByteArray) (e : Nat), t.size ≤ e → t.extract 0 e = t := fun t e he => bytes_eq (by rw [ext_data, List.take_of_length_le (by rw [ba_len]; exact he)]; rfl)
  by_cases h16 : 16 ≤ s.size
  · rw [Nat.min_eq_right h16, decide_eq_true h16, Bool.true_and, all h 16 (by omega)]
    by_cases e : s.extract 0 16 = h
    · rw [if_pos (list_inj.2 e), if_neg (by omega), decide_eq_true e, if_pos rfl]
    · rw [if_neg (fun x => e (list_inj.1 x)), decide_eq_false e, if_neg (by decide), if_neg]
      intro x
      rw [Bool.and_eq_true, decide_eq_true_eq, decide_eq_true_eq] at x
      obtain ⟨x1, x2⟩ := x
      have e16 : s.size = 16 := by omega
      rw [e16, all h 16 (by omega)] at x2
      exact e (by rw [x2]; exact all s 16 (by omega))
  · rw [Nat.min_eq_left (by omega), decide_eq_false h16, Bool.false_and, if_neg (show ¬ false = true by decide), decide_eq_true (show s.size ≤ 16 by omega), Bool.true_and, all s s.size (Nat.le_refl _)]
    by_cases e : h.extract 0 s.size = s
    · rw [if_pos (list_inj.2 e.symm), if_pos (by omega), decide_eq_true e, if_pos rfl]
    · rw [if_neg (fun x => e (list_inj.1 x).symm), decide_eq_false e, if_neg (by decide)]
/-- the bytes behind the first four -/
def tl4 (s : ByteArray) : List UInt8 := s.data.toList.drop 4
theorem ref_id_l (s : ByteArray) (hz : s.size = 12) : ∀ (d k i : Nat), i + d = 8 →
    (laderef9_ID.l0 (k + d + 1) s ((decP (tl4 s) i : Nat) : Int) ((4 + i : Nat) : Int) = some (((decP (tl4 s) 8 : Nat) : Int), decide (((decP (tl4 s) 8 : Nat) : Int) > 0)) ∧ ∀ j, i ≤ j → j < 8 → 48 ≤ ((tl4 s).getD j 0).toNat ∧ ((tl4 s).getD j 0).toNat ≤ 57) ∨
    (laderef9_ID.l0 (k + d + 1) s ((decP (tl4 s) i : Nat) : Int) ((4 + i : Nat) : Int) = some (0, false) ∧ ∃ j, j < 8 ∧ ¬ (48 ≤ ((tl4 s).getD j 0).toNat ∧ ((tl4 s).getD j 0).toNat ≤ 57))
  | 0, k, i, hi => by
    obtain rfl : i = 8 := by omega
    left
    refine ⟨?_, fun j h1 h2 => by omega⟩
    rw [show k + 0 + 1 = k + 1 from rfl, laderef9_ID.l0, if_neg (by omega)]
  | d + 1, k, i, hi => by
    have hb : bt s ((4 + i : Nat) : Int) = (((tl4 s).getD i 0).toNat : Int) := by
      rw [bt_getD s (4 + i) (by omega)]
      unfold tl4
      rw [List.getD, List.getD, List.getElem?_drop]
    have hlow := decP_lt (tl4 s) i
    have hp : 10 ^ i ≤ 10 ^ 8 := Nat.pow_le_pow_right (by omega) (by omega)
    have hstep : decP (tl4 s) (i + 1) = decP (tl4 s) i * 10 + (((tl4 s).getD i 0).toNat + 208) % 256 % 10 := rfl
    have hx := ((tl4 s).getD i 0).toNat_lt
    rw [show k + (d + 1) + 1 = (k + d + 1) + 1 from by omega, laderef9_ID.l0, if_pos (by omega), if_pos (by omega), if_pos (by omega), hb]
    obtain ⟨x, hxe⟩ : ∃ x, ((tl4 s).getD i 0).toNat = x := ⟨_, rfl⟩
    have ih := Aside0.mk (ref_id_l s hz d k (i + 1) (by omega))
    rw [hxe] at hx hstep ⊢
    obtain ⟨acc, hacc⟩ : ∃ a, decP (tl4 s) i = a := ⟨_, rfl⟩
    obtain ⟨nxt, hnxt⟩ : ∃ a, decP (tl4 s) (i + 1) = a := ⟨_, rfl⟩
    rw [hacc] at hlow hstep ⊢
    rw [hnxt] at hstep ih
    clear hacc hnxt hb
    by_cases h1 : x < 48
    · right
      rw [if_pos (show (x : Int) < 48 by omega)]
      exact ⟨rfl, i, by omega, by omega⟩
    · rw [if_neg (show ¬ (x : Int) < 48 by omega)]
      by_cases h2 : x > 57
      · right
        rw [if_pos (show (x : Int) > 57 by omega)]
        exact ⟨rfl, i, by omega, by omega⟩
      · have h57 : ¬ (x : Int) > 57 := by omega
        have e1 : wrap64 ((wrap64 (10 * (acc : Int))) + (((x : Int) - 48) % 256)) = (nxt : Int) := by
          have hal : acc < 100000000 := by omega
          have w1 : wrap64 (10 * (acc : Int)) = 10 * (acc : Int) := by unfold wrap64; omega
          have w2 : ((x : Int) - 48) % 256 = (x : Int) - 48 := by omega
          rw [w1, w2]; unfold wrap64; omega
        have e2 : wrap64 (((4 + i : Nat) : Int) + 1) = ((4 + (i + 1) : Nat) : Int) := by clear e1; unfold wrap64; omega
        rw [if_neg h57, e1, e2]
        clear e1 e2
        rcases ih.out with ⟨h, hd⟩ | h
        · left
          refine ⟨h, fun j hj1 hj2 => ?_⟩
          by_cases hj : j = i
          · subst hj; rw [hxe]; omega
          · exact hd j (by omega) hj2
        · exact .inr h
theorem digs_back (L : List UInt8) (hl : L.length = 8) (hd : ∀ j, j < 8 → 48 ≤ (L.getD j 0).toNat ∧ (L.getD j 0).toNat ≤ 57) : (List.range 8).map (fun j => UInt8.ofNat (dg (decP L 8) (7 - j))) = L := by
  match L, hl with
  | [a, b, c, d, e, f, g, h], _ =>
    have ha := hd 0 (by omega)
    have hb := hd 1 (by omega)
    have hc := hd 2 (by omega)
    have hdd := hd 3 (by omega)
    have he := hd 4 (by omega)
    have hf := hd 5 (by omega)
    have hg := hd 6 (by omega)
    have hh := hd 7 (by omega)
    simp only [List.getD_cons_zero, List.getD_cons_succ] at ha hb hc hdd he hf hg hh
    rw [range8]
    have u : ∀ (q : UInt8) (n : Nat), n = q.toNat → UInt8.ofNat n = q := fun q n hn => by subst hn; exact UInt8.ofNat_toNat
    have v : decP [a, b, c, d, e, f, g, h] 8 = (((((((a.toNat - 48) * 10 + (b.toNat - 48)) * 10 + (c.toNat - 48)) * 10 + (d.toNat - 48)) * 10 + (e.toNat - 48)) * 10 + (f.toNat - 48)) * 10 + (g.toNat - 48)) * 10 + (h.toNat - 48) := by
      simp only [decP, List.getD_cons_zero, List.getD_cons_succ]; omega
    rw [v]
    unfold dg
    have p0 : 10 ^ (7 - 7) = 1 := rfl
    have p1 : 10 ^ (7 - 6) = 10 := rfl
    have p2 : 10 ^ (7 - 5) = 100 := rfl
    have p3 : 10 ^ (7 - 4) = 1000 := rfl
    have p4 : 10 ^ (7 - 3) = 10000 := rfl
    have p5 : 10 ^ (7 - 2) = 100000 := rfl
    have p6 : 10 ^ (7 - 1) = 1000000 := rfl
    have p7 : 10 ^ (7 - 0) = 10000000 := rfl
    rw [p0, p1, p2, p3, p4, p5, p6, p7]
    rw [u a _ (by omega), u b _ (by omega), u c _ (by omega), u d _ (by omega), u e _ (by omega), u f _ (by omega), u g _ (by omega), u h _ (by omega)]
theorem pre_list {s : ByteArray} (h : preB s = true) : s.data.toList = [115, 101, 103, 45] ++ tl4 s := by
  unfold preB at h
  rw [Bool.and_eq_true, decide_eq_true_eq, beq_iff_eq] at h
  have e := list_inj.1 h.2
  have e2 : (s.extract 0 4).data.toList = [115, 101, 103, 45] := by rw [e]; rfl
  rw [ext_data, List.drop_zero] at e2
  unfold tl4
  rw [← e2, List.take_append_drop]
theorem ref_id (s : ByteArray) (k : Nat) (hk : 12 ≤ k) : ∃ m : Int, laderef9_ID.f k s = some (m, (idN s).2) ∧ ((idN s).2 = true → m = (idN s).1) := by
  obtain ⟨k, rfl⟩ : ∃ j, k = j + 8 + 1 + 1 := ⟨k - 10, by omega⟩
  unfold laderef9_ID.f
  have bad : (idN s).2 = false → ∃ m : Int, laderef9_ID.j0 (k + 8 + 1 + 1) s true = some (m, (idN s).2) ∧ ((idN s).2 = true → m = (idN s).1) := fun h => ⟨0, by rw [laderef9_ID.j0, itt, h], fun h' => by rw [h] at h'; cases h'⟩
  by_cases hz : s.size = 12
  · rw [if_pos (show (s.size : Int) = 12 by omega), if_pos (by decide), if_pos (by omega)]
    have hpre : ((s.extract 0 4).toList != ([115, 101, 103, 45] : List UInt8)) = !preB s := by
      unfold preB
      rw [decide_eq_true (show 4 ≤ s.size by omega), Bool.true_and]
      have : segS.toList = ([115, 101, 103, 45] : List UInt8) := by rw [ByteArray.toList_eq]; rfl
      rw [this]; rfl
    rw [hpre]
    cases hp : preB s with
    | false =>
      exact bad (by
        cases h : (idN s).2 with
        | false => rfl
        | true =>
          have := (id_ok h).2.2
          rw [← this, pre_name] at hp; cases hp)
    | true =>
      rw [Bool.not_true, laderef9_ID.j0, iff_]
      have hcut : (cutS s).data.toList = tl4 s := by
        unfold cutS
        rw [if_pos hp, ext_data, List.take_of_length_le (by rw [ba_len]; exact Nat.le_refl _)]; rfl
      have hl8 : (tl4 s).length = 8 := by unfold tl4; rw [List.length_drop, ba_len]; omega
      have hcz : (cutS s).size = 8 := by rw [← ba_len, hcut, hl8]
      have hdec : decN s = decP (tl4 s) 8 := by
        unfold decN; rw [hcut, hcz, List.take_of_length_le (by omega)]; rfl
      rcases ref_id_l s hz 8 k 0 (by omega) with ⟨h, hd⟩ | ⟨h, j, hj, hnd⟩
      · have hname : nameS (decN s) = s := bytes_eq (by rw [nameS_data, hdec, digs_back _ hl8 (fun j hj => hd j (by omega) hj), ← pre_list hp])
        have h' : laderef9_ID.l0 (k + 8 + 1) s 0 4 = _ := h
        rw [h', ← hdec]
        by_cases h0 : decN s = 0
        · have hi : idN s = (0, false) := by unfold idN; rw [if_pos (.inr (.inl h0))]
          rw [hi, h0]
          exact ⟨0, rfl, fun h => by cases h⟩
        · have hi : idN s = (decN s, true) := by
            unfold idN
            rw [held_same (by omega) (decN_lt s), if_neg (by intro x; rcases x with x | x | x; rw [hp] at x; cases x; exact h0 x; exact x hname)]
          rw [hi]
          exact ⟨_, by rw [decide_eq_true (show ((decN s : Nat) : Int) > 0 by omega)], fun _ => rfl⟩
      · have h' : laderef9_ID.l0 (k + 8 + 1) s 0 4 = some (0, false) := h
        rw [h']
        have hno : (idN s).2 = false := by
          cases hh : (idN s).2 with
          | false => rfl
          | true =>
            exfalso
            apply hnd
            have hs := (id_ok hh).2.2
            have : tl4 s = (List.range 8).map fun j => UInt8.ofNat (dg (idN s).1 (7 - j)) := by
              unfold tl4
              conv => lhs; rw [← hs]
              rw [nameS_data]; rfl
            rw [this, List.getD, List.getElem?_map, List.getElem?_range hj]
            show 48 ≤ (UInt8.ofNat (dg (idN s).1 (7 - j))).toNat ∧ (UInt8.ofNat (dg (idN s).1 (7 - j))).toNat ≤ 57
            rw [ofNat_u8 (dg_lt _ _)]; unfold dg; omega
        rw [hno]
        exact ⟨0, rfl, fun h => by cases h⟩
  · rw [if_neg (show ¬ (s.size : Int) = 12 by omega)]
    exact bad (by
      cases h : (idN s).2 with
      | false => rfl
      | true =>
        have := congrArg ByteArray.size (id_ok h).2.2
        rw [nameS_size] at this
        exact absurd this.symm hz)
end Go.Proofs.Ytjiojcoddildgaa.HeadR
