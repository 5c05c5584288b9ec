/- FrameTells: of every bytes of 2100 at most their frame, and what the frame at their beginning holds, the program tells what the reference tells. -/
import Derived.Test.YtnhpjdefnefmmaaQx2
import Derived.Test.YtnhpjdefnefmmaaFrameM
namespace Go.Proofs.Ytnhpjdefnefmmaa.Pure
open Go Go.RowKit Go.Proofs.Ytnhpjdefnefmmaa.Q Go.Proofs.Ytnhpjdefnefmmaa.CodeF Go.Proofs.Ytnhpjdefnefmmaa.CrcW Go.Proofs.Ytnhpjdefnefmmaa.CrcM Go.Proofs.Ytnhpjdefnefmmaa.FixQ Go.Proofs.Ytnhpjdefnefmmaa.FrameW Go.Proofs.Ytnhpjdefnefmmaa.FrameM Go.Proofs.YtnhpjdefnefmmaaW.PrintWords Go.Proofs.YtnhpjdefnefmmaaW.PrintLast Go.Proofs.YtnhpjdefnefmmaaW.PrintMore
theorem ref_l1 (b : ByteArray) (i : Int) : ∀ (d k : Nat) (c : BitVec 32) (j : Int), j + d = 8 → 0 ≤ j →
    laderef1_More.l1 (k + d + 1) b (uv c) i j = laderef1_More.l0 k b (uv (sts c d)) (wrap64 (i + 1))
  | 0, k, c, j, hj, h0 => by
    rw [show k + 0 + 1 = k + 1 from rfl]; unfold laderef1_More.l1
    rw [if_neg (by omega)]; rfl
  | d + 1, k, c, j, hj, h0 => by
    rw [show k + (d + 1) + 1 = (k + d + 1) + 1 from by omega]; unfold laderef1_More.l1
    rw [if_pos (by omega), show wrap64 (j + 1) = j + 1 from by unfold wrap64; omega]
    have h := ref_l1 b i d k (st c) (j + 1) (by omega) (by omega)
    rw [sts_st] at h
    by_cases ht : Go.bits .and .u32 (uv c) 1 = 1
    · rw [if_pos ht, test_yes (beq_iff_eq.2 ht), h]
    · rw [if_neg ht, test_no (beq_eq_false_iff_ne.2 ht), h]

theorem ref_l0 (b : ByteArray) (hb : b.size ≤ 140737488351232) : ∀ (n : Nat) (c : BitVec 32) (i : Nat), i + n = b.size →
    laderef1_More.l0 (10 * n + 1) b (uv c) i = some (uv (~~~ ((b.data.toList.drop i).foldl byteStep c)))
  | 0, c, i, h => by
    rw [show 10 * 0 + 1 = 0 + 1 from rfl]; unfold laderef1_More.l0
    rw [if_neg (by omega), List.drop_of_length_le (by simp; omega), lit_max, xor_uv, BitVec.allOnes_xor]; rfl
  | n + 1, c, i, h => by
    rw [show 10 * (n + 1) + 1 = (10 * n + 1 + 8 + 1) + 1 from by omega]; unfold laderef1_More.l0
    have hi : i < b.size := by omega
    rw [if_pos (by omega), if_pos (by omega), bt_mod, bt_uv b hi, xor_uv, ref_l1 b i 8 _ _ 0 (by omega) (by omega),
      show wrap64 ((i : Int) + 1) = ((i + 1 : Nat) : Int) from by unfold wrap64; omega, ref_l0 b hb n _ (i + 1) (by omega), drop_cons b.data.toList (i := i) (by simpa using hi)]
    rfl
theorem ref_f (b : ByteArray) (hb : b.size ≤ 140737488351232) (c : BitVec 32) : laderef1_More.f (10 * b.size + 1) (uv c) b = some (uv (more c b.data.toList)) := by
  unfold laderef1_More.f
  rw [lit_max, xor_uv, BitVec.allOnes_xor, show (0 : Int) = ((0 : Nat) : Int) from rfl, ref_l0 b hb b.size _ 0 (by omega)]; rfl

theorem bt_getD (s : ByteArray) (i : Nat) (h : i < s.size) : bt s i = ((s.data.toList.getD i 0).toNat : Int) := by
  have e : s.data.toList.getD i 0 = s[i] := by
    show (s.data.toList[i]?).getD 0 = _
    rw [List.getElem?_eq_getElem (by simpa using h)]; rfl
  rw [e]; unfold bt; simp [h]
theorem byte_or (a b c d : Nat) (ha : a < 256) (hb : b < 256) (hc : c < 256) (hd : d < 256) : Go.bits .or .u32 (Go.bits .or .u32 (Go.bits .or .u32 ((a : Int) % 4294967296) ((((b : Int) % 4294967296) * 256) % 4294967296)) ((((c : Int) % 4294967296) * 65536) % 4294967296)) ((((d : Int) % 4294967296) * 16777216) % 4294967296) = ((a + b * 256 + c * 65536 + d * 16777216 : Nat) : Int) := by
  have e : ∀ x : Nat, x < 256 → (x : Int) % 4294967296 = x := fun x hx => by omega
  rw [e a ha, e b hb, e c hc, e d hd]
  have h1 := or_u32 8 (by omega) (show a < 2 ^ 8 by omega) hb
  have h2 := or_u32 16 (by omega) (show a + b * 2 ^ 8 < 2 ^ 16 by omega) hc
  have h3 := or_u32 24 (by omega) (show a + b * 2 ^ 8 + c * 2 ^ 16 < 2 ^ 24 by omega) hd
  have f1 : (2 : Int) ^ 8 = 256 := by decide
  have f2 : (2 : Int) ^ 16 = 65536 := by decide
  have f3 : (2 : Int) ^ 24 = 16777216 := by decide
  rw [f1] at h1
  rw [f2] at h2
  rw [f3] at h3
  rw [h1, h2, h3]
theorem ref_fix (s : ByteArray) (h : ¬ s.size < 4) : laderef1_Fix.f s = some ((fixN s.data.toList : Nat) : Int) := by
  unfold laderef1_Fix.f
  rw [if_pos (by omega), if_pos (by omega), if_pos (by omega), if_pos (by omega)]
  have b0 := bt_getD s 0 (by omega)
  have b1 := bt_getD s 1 (by omega)
  have b2 := bt_getD s 2 (by omega)
  have b3 := bt_getD s 3 (by omega)
  have h0 := (s.data.toList.getD 0 0).toNat_lt
  have h1 := (s.data.toList.getD 1 0).toNat_lt
  have h2 := (s.data.toList.getD 2 0).toNat_lt
  have h3 := (s.data.toList.getD 3 0).toNat_lt
  rw [show (0 : Int) = ((0 : Nat) : Int) from rfl, show (1 : Int) = ((1 : Nat) : Int) from rfl, show (2 : Int) = ((2 : Nat) : Int) from rfl, show (3 : Int) = ((3 : Nat) : Int) from rfl, b0, b1, b2, b3, byte_or _ _ _ _ h0 h1 h2 h3]
  rfl

theorem not_i {n : Int} (h : 0 ≤ n ∧ n < 4294967296) : Go.bits .xor .u32 4294967295 n = 4294967295 - n := by
  obtain ⟨N, rfl⟩ := Int.eq_ofNat_of_zero_le h.1
  rw [not_u32 (show N < 4294967296 by omega)]; omega
theorem more_le (b : ByteArray) {k : Nat} (r : Int) (h : laderef1_More.f k 0 b = some r) : ∀ d, laderef1_More.f (k + d) 0 b = some r
  | 0 => h
  | d + 1 => laderef1_More.mono _ _ _ _ (more_le b r h d)
theorem ref_more (b : ByteArray) (hb : b.size ≤ 140737488351232) (k : Nat) (hk : 10 * b.size + 1 ≤ k) : laderef1_More.f k 0 b = some (sum b) := by
  have h := ref_f b hb 0#32
  rw [← zero_uv] at h
  obtain ⟨d, rfl⟩ : ∃ d, k = 10 * b.size + 1 + d := ⟨k - (10 * b.size + 1), by omega⟩
  exact more_le b _ h d
theorem ref_wrap (b : ByteArray) (hb : b.size ≤ 140737488351232) (k : Nat) (hk : 10 * b.size + 1 ≤ k) : laderef1_Wrap.f k b = if b.size = 0 then some (⟨#[]⟩, 11) else if 2000 < b.size then some (⟨#[]⟩, 12) else some (wrapS b, 0) := by
  unfold laderef1_Wrap.f
  by_cases h0 : b.size = 0
  · rw [if_pos ((list_nil b).2 h0), if_pos h0]
  · rw [if_neg (fun e => h0 ((list_nil b).1 e)), if_neg h0]
    by_cases h1 : 2000 < b.size
    · rw [if_pos (show (b.size : Int) > 2000 by omega), if_pos h1]
    · have f : ∀ n, laderef1_Fixed.f n = some (fixS n) := fun n => rfl
      rw [if_neg (show ¬ (b.size : Int) > 2000 by omega), if_neg h1, show (b.size : Int) % 4294967296 = b.size from by omega, not_i (show 0 ≤ (b.size : Int) ∧ (b.size : Int) < 4294967296 by omega), f, bs, f, bs, ref_more b hb k hk, bs, f, bs]
      have s1 := fixS_size (b.size : Int)
      have s2 := fixS_size (4294967295 - (b.size : Int))
      have s3 := fixS_size (sum b)
      rw [if_pos (by omega), if_pos (by rw [app_size]; omega), if_pos (by rw [app_size, app_size]; omega)]
      rfl
/-- four bytes and their number -/
theorem fix_inj (s : ByteArray) (h : s.size = 4) (x : Int) (hx : 0 ≤ x ∧ x < 4294967296) : ((fixN s.data.toList : Nat) : Int) = x ↔ s = fixS x := by
  constructor
  · intro e
    apply bytes_eq
    have hl : s.data.toList.length = 4 := by rw [ba_len]; exact h
    generalize s.data.toList = l at hl e
    match l, hl with
    | [a, b, c, d], _ =>
      have ha := a.toNat_lt
      have hb := b.toNat_lt
      have hc := c.toNat_lt
      have hd := d.toNat_lt
      have e2 : fixN [a, b, c, d] = a.toNat + b.toNat * 256 + c.toNat * 65536 + d.toNat * 16777216 := rfl
      rw [e2] at e
      rw [fixS_data]
      have u : ∀ (q : UInt8) (y : Int), y = (q.toNat : Int) → UInt8.ofNat y.toNat = q := fun q y hy => by subst hy; rw [Int.toNat_natCast, UInt8.ofNat_toNat]
      simp only [fixL, List.map_cons, List.map_nil]
      rw [u a (x % 256) (by omega), u b (x / 256 % 256) (by omega), u c (x / 65536 % 256) (by omega), u d (x / 16777216 % 256) (by omega)]
  · intro e
    subst e
    have := fixN_fix hx.1 hx.2 []
    rwa [List.append_nil] at this
theorem fixN_take (l : List UInt8) : fixN (l.take 4) = fixN l := by
  match l with
  | [] => rfl
  | [a] => rfl
  | [a, b] => rfl
  | [a, b, c] => rfl
  | a :: b :: c :: d :: r => rfl
theorem read_j0_bad (k : Nat) (s : ByteArray) (n : Int) : laderef1_Read.j0 (k + 1) s n true = some (⟨#[]⟩, 0, 4) := by rw [laderef1_Read.j0, itt]
theorem ref_read (s : ByteArray) (hs : s.size ≤ 2100) (k : Nat) (hk : 30000 ≤ k) : laderef1_Read.f k s = some ((readN s).1, ((readN s).2.1 : Int), ((readN s).2.2 : Int)) := by
  unfold laderef1_Read.f readN
  obtain ⟨k, rfl⟩ : ∃ m, k = m + 1 := ⟨k - 1, by omega⟩
  by_cases h0 : s.size = 0
  · rw [if_pos ((list_nil s).2 h0), if_pos h0]; rfl
  · rw [if_neg (fun e => h0 ((list_nil s).1 e)), if_neg h0]
    by_cases h8 : s.size < 8
    · rw [if_pos (show (s.size : Int) < 8 by omega), if_pos h8]; rfl
    · have hx := ref_fix (s.extract 4 s.size) (by rw [ByteArray.size_extract]; omega)
      rw [ext_end] at hx
      have hN := fixN_lt s.data.toList
      have hM := fixN_lt (s.data.toList.drop 4)
      rw [if_neg (show ¬ (s.size : Int) < 8 by omega), if_neg h8, ref_fix s (by omega), bs, if_pos (by omega), hx, bs]
      generalize fixN (s.data.toList.drop 4) = M at hM
      generalize fixN s.data.toList = N at hN
      rw [not_i (show 0 ≤ (N : Int) ∧ (N : Int) < 4294967296 by omega)]
      by_cases e1 : (N : Int) = 4294967295 - M
      · rw [if_pos (show (M : Int) = 4294967295 - N by omega)]
        by_cases e2 : N = 0
        · rw [if_pos (show (N : Int) = 0 by omega), if_pos (show ¬ (N : Int) = 4294967295 - M ∨ N = 0 ∨ 2000 < N by omega), read_j0_bad]; rfl
        · rw [if_neg (show ¬ (N : Int) = 0 by omega)]
          by_cases e3 : 2000 < N
          · rw [decide_eq_true (show (N : Int) > 2000 by omega), if_pos (show ¬ (N : Int) = 4294967295 - M ∨ N = 0 ∨ 2000 < N by omega), read_j0_bad]; rfl
          · rw [decide_eq_false (show ¬ (N : Int) > 2000 by omega), if_neg (show ¬ (¬ (N : Int) = 4294967295 - M ∨ N = 0 ∨ 2000 < N) by omega), laderef1_Read.j0, iff_]
            have w1 : wrap64 (N : Int) = N := by unfold wrap64; omega
            have w2 : wrap64 ((N : Int) + 12) = ((N + 12 : Nat) : Int) := by unfold wrap64; omega
            have w3 : wrap64 (8 + (N : Int)) = ((8 + N : Nat) : Int) := by unfold wrap64; omega
            rw [w1, w2, w3]
            by_cases e4 : s.size < N + 12
            · rw [if_pos (show (s.size : Int) < ((N + 12 : Nat) : Int) by omega), if_pos e4]; rfl
            · rw [if_neg (show ¬ (s.size : Int) < ((N + 12 : Nat) : Int) by omega), if_neg e4, if_pos (by omega), if_pos (by omega), if_pos (by omega), Int.toNat_natCast]
              have hf := ref_fix (s.extract (8 + N) s.size) (by rw [ByteArray.size_extract]; omega)
              have hb : (s.extract 8 (8 + N)).size = N := by rw [ByteArray.size_extract]; omega
              have hc : (s.extract (8 + N) (N + 12)).size = 4 := by rw [ByteArray.size_extract]; omega
              have hsm := ref_more (s.extract 8 (8 + N)) (by omega) k (by omega)
              have hfe : fixN (s.extract (8 + N) s.size).data.toList = fixN (s.extract (8 + N) (N + 12)).data.toList := by
                rw [← fixN_take]
                congr 1
                rw [ext_end, ext_data, List.drop_take, show N + 12 - (8 + N) = 4 from by omega]
              rw [hf, bs, hsm, bs, hfe]
              have hi := fix_inj (s.extract (8 + N) (N + 12)) hc (sum (s.extract 8 (8 + N))) (sum_rng _)
              have hsd : uv (more 0#32 (s.extract 8 (8 + N)).data.toList) = sum (s.extract 8 (8 + N)) := rfl
              rw [hsd]
              by_cases e5 : s.extract (8 + N) (N + 12) = fixS (sum (s.extract 8 (8 + N)))
              · rw [if_pos (hi.2 e5), if_pos e5]; rfl
              · rw [if_neg (fun x => e5 (hi.1 x)), if_neg e5]; rfl
      · rw [if_neg (show ¬ (M : Int) = 4294967295 - N by omega), if_pos (.inl e1), read_j0_bad]; rfl
theorem FrameTells : ladelaw3_FrameTells.Pure := by
  intro b s n hb hs hn
  have hn' : -32768 ≤ n ∧ n < 32768 := by simp [Lit.wf, IntKind.min, IntKind.max, IntKind.bits, IntKind.signed] at hn; omega
  refine ⟨40001, ?_⟩
  unfold ladelaw3_FrameTells.f
  rw [show 40001 = 39996 + 5 from rfl, known_q, bs, itt, show 39996 + 5 = 40000 + 1 from rfl]
  by_cases h1 : (b.size : Int) > 2100
  · rw [if_pos h1, ladelaw3_FrameTells.j0, itt]
  · rw [if_neg h1, ladelaw3_FrameTells.j0]
    by_cases h2 : (s.size : Int) > 2100
    · rw [decide_eq_true h2, itt]
    · rw [decide_eq_false h2, iff_, ref_wrap b hb 40000 (by omega), ref_read s (by omega) 40000 (by omega), Read_q s hs, show 40000 = 39995 + 5 from rfl, Wrap_q b hb 39995]
      have fin : ∀ (w : ByteArray) (e : Int), ((some (w, e)).bind fun bt141 => ((some (w, e)).bind fun bt143 => ((some ((readN s).1, ((readN s).2.1 : Int), ((readN s).2.2 : Int))).bind fun bt145 => ((some ((readN s).1, ((readN s).2.1 : Int), ((readN s).2.2 : Int))).bind fun bt148 => (if bt141.1.toList = bt143.1.toList then (if bt141.2 = bt143.2 then (if bt145.1.toList = bt148.1.toList then (if bt145.2.1 = bt148.2.1 then (if bt145.2.2 = bt148.2.2 then ((frame_Size.f (wrap64 n)).bind fun t151 => (some (t151 == (wrap64 ((wrap64 n) + 12))))) else (some false)) else (some false)) else (some false)) else (some false)) else (some false)))))) = some true := fun w e => by
        simp only [bs]
        rw [it, it, it, it, it]
        unfold frame_Size.f
        rw [bs, beq_self_eq_true]
      split
      · exact fin _ _
      · split
        · exact fin _ _
        · exact fin _ _
end Go.Proofs.Ytnhpjdefnefmmaa.Pure
