/- What the functions of package frame tell: plain laws. -/
import Derived.Test.YtnhpjdefnefmmaaQx1
import Derived.Test.YtnhpjdefnefmmaaFrameG
namespace Go.Proofs.Ytnhpjdefnefmmaa.FrameM
open Go Go.RowKit Go.Proofs.Ytnhpjdefnefmmaa.Q Go.Proofs.Ytnhpjdefnefmmaa.CodeF Go.Proofs.Ytnhpjdefnefmmaa.CrcW Go.Proofs.Ytnhpjdefnefmmaa.CrcM Go.Proofs.Ytnhpjdefnefmmaa.FixQ Go.Proofs.Ytnhpjdefnefmmaa.FrameW Go.Proofs.YtnhpjdefnefmmaaW.PrintWords Go.Proofs.YtnhpjdefnefmmaaW.PrintLast Go.Proofs.YtnhpjdefnefmmaaW.PrintMore
theorem iff_ {α : Type} (a b : α) : (if false = true then a else b) = b := if_neg (by decide)
theorem Fixed_q (n : Int) (k : Nat) : code_Fixed.f (k + 5) n = some (fixS n) := by
  unfold code_Fixed.f
  rw [if_pos (by decide), bs, show k + 5 = (k + 1 + 1 + 1 + 1) + 1 from rfl,
    code_Fixed.l0, if_pos (by decide), if_pos (wpos (by decide)), if_pos (by decide), if_pos (by decide), show wrap64 (0 + 1) = 1 from w64' (by decide) (by decide),
    code_Fixed.l0, if_pos (by decide), if_pos (wpos (by decide)), if_pos (by decide), if_pos (by rw [List.length_set]; decide), show wrap64 (1 + 1) = 2 from w64' (by decide) (by decide),
    code_Fixed.l0, if_pos (by decide), if_pos (wpos (by decide)), if_pos (by decide), if_pos (by rw [List.length_set, List.length_set]; decide), show wrap64 (2 + 1) = 3 from w64' (by decide) (by decide),
    code_Fixed.l0, if_pos (by decide), if_pos (wpos (by decide)), if_pos (by decide), if_pos (by rw [List.length_set, List.length_set, List.length_set]; decide), show wrap64 (3 + 1) = 4 from w64' (by decide) (by decide),
    code_Fixed.l0, if_neg (by decide)]
  have e : ∀ j i : Int, 8 * j = i → (0 ≤ i ∧ i < 9223372036854775808) → shr .u32 n (wrap64 (8 * j)) = n / 2 ^ min i.toNat 32 := fun j i h h2 => by rw [w64' h (by omega)]; rfl
  have h0 : shr .u32 n (wrap64 (8 * 0)) = n := by rw [e 0 0 (by decide) (by decide)]; exact Int.ediv_one n
  have h1 : shr .u32 n (wrap64 (8 * 1)) = n / 256 := by rw [e 1 8 (by decide) (by decide)]; rfl
  have h2 : shr .u32 n (wrap64 (8 * 2)) = n / 65536 := by rw [e 2 16 (by decide) (by decide)]; rfl
  have h3 : shr .u32 n (wrap64 (8 * 3)) = n / 16777216 := by rw [e 3 24 (by decide) (by decide)]; rfl
  rw [h0, h1, h2, h3]; rfl

/-- a text's sum -/
def sum (b : ByteArray) : Int := uv (more 0#32 b.data.toList)
theorem sum_rng (b : ByteArray) : 0 ≤ sum b ∧ sum b < 4294967296 := uv_rng _
theorem Of_q (b : ByteArray) (h : b.size ≤ 140737488351232) : crc_Of.f b = some (sum b) := by
  unfold crc_Of.f; rw [Of_f _ h, bs]; rfl
def wrapS (b : ByteArray) : ByteArray := fixS b.size ++ fixS (4294967295 - b.size) ++ b ++ fixS (sum b)
theorem wrapS_size (b : ByteArray) : (wrapS b).size = b.size + 12 := by
  unfold wrapS; rw [app_size, app_size, app_size, fixS_size, fixS_size, fixS_size]; omega
theorem list_nil (b : ByteArray) : b.toList = ([] : List UInt8) ↔ b.size = 0 := nil_list b
theorem Wrap_q (b : ByteArray) (h : b.size ≤ 140737488351232) (k : Nat) : frame_Wrap.f (k + 5) b = if b.size = 0 then some (⟨#[]⟩, 11) else if 2000 < b.size then some (⟨#[]⟩, 12) else some (wrapS b, 0) := by
  unfold frame_Wrap.f
  by_cases h0 : b.size = 0
  · rw [if_pos ((list_nil b).2 h0), if_pos h0]
  · rw [if_neg (fun e => h0 ((list_nil b).1 e)), if_neg h0]
    by_cases h1 : 2000 < b.size
    · rw [if_pos (show (b.size : Int) > 2000 by omega), if_pos h1]
    · rw [if_neg (show ¬ (b.size : Int) > 2000 by omega), if_neg h1, show (b.size : Int) % 4294967296 = b.size from by omega, Fixed_q, bs, not_u32 (show b.size < 4294967296 by omega), Fixed_q, bs, Of_q b h, bs, Fixed_q, bs]
      rw [show ((4294967295 - b.size : Nat) : Int) = 4294967295 - (b.size : Int) from by omega]
      have s1 := fixS_size (b.size : Int)
      have s2 := fixS_size (4294967295 - (b.size : Int))
      have s3 := fixS_size (sum b)
      rw [if_pos (by omega), if_pos (by rw [app_size]; omega), if_pos (by rw [app_size, app_size]; omega)]
      rfl
theorem Read_q (s : ByteArray) (h : s.size ≤ 140737488351232) : Given.frame_Read.f s = some ((readN s).1, ((readN s).2.1 : Int), ((readN s).2.2 : Int)) := by
  unfold Given.frame_Read.f; rw [if_pos h]
theorem Size_q (n : Int) (h : 0 ≤ n ∧ n ≤ 1000000000000) : frame_Size.f n = some (n + 12) := by
  unfold frame_Size.f; rw [show wrap64 (n + 12) = n + 12 from by unfold wrap64; omega]
theorem ba_len (s : ByteArray) : s.data.toList.length = s.size := by simp
theorem ext_data (s : ByteArray) (a e : Nat) : (s.extract a e).data.toList = (s.data.toList.take e).drop a := by
  rw [ByteArray.data_extract, Array.toList_extract, List.extract_eq_take_drop, List.drop_take]
theorem ext_past (x y : ByteArray) (a b : Nat) : (x ++ y).extract (x.size + a) (x.size + b) = y.extract a b := bytes_eq (by
  rw [ext_data, ext_data, app_data, ← ba_len x, List.take_length_add_append, List.drop_length_add_append])
theorem ext_all (s : ByteArray) (e : Nat) (h : s.size ≤ e) : s.extract 0 e = s := bytes_eq (by
  rw [ext_data, List.take_of_length_le (by rw [ba_len]; exact h)]; rfl)
theorem ext_low (x y : ByteArray) (a e : Nat) (h : e ≤ x.size) : (x ++ y).extract a e = x.extract a e := bytes_eq (by
  rw [ext_data, ext_data, app_data, List.take_append_of_le_length (by rw [ba_len]; exact h)])
theorem ext_join (x y : ByteArray) (e : Nat) : (x ++ y).extract 0 (x.size + e) = x ++ y.extract 0 e := bytes_eq (by
  rw [ext_data, app_data, app_data, ext_data, ← ba_len x, List.take_length_add_append]; rfl)
/-- two numbers ahead, and what is read behind them -/
theorem readN_two {n m : Int} (hn : 0 ≤ n ∧ n < 4294967296) (hm : 0 ≤ m ∧ m < 4294967296) (r : ByteArray) : readN (fixS n ++ fixS m ++ r) = if ¬ n = 4294967295 - m ∨ n = 0 ∨ 2000 < n then (⟨#[]⟩, 0, 4) else if (r.size : Int) < n + 4 then (⟨#[]⟩, 0, 3) else if r.extract n.toNat (n.toNat + 4) = fixS (sum (r.extract 0 n.toNat)) then (r.extract 0 n.toNat, n.toNat + 12, 1) else (⟨#[]⟩, 0, 4) := by
  have hz : (fixS n ++ fixS m).size = 8 := by rw [app_size, fixS_size, fixS_size]
  have hz2 : (fixS n ++ fixS m ++ r).size = 8 + r.size := by rw [app_size, hz]
  have e1 : ((fixN (fixS n ++ fixS m ++ r).data.toList : Nat) : Int) = n := by
    rw [app_data, app_data, List.append_assoc]; exact fixN_fix hn.1 hn.2 _
  have e2 : ((fixN ((fixS n ++ fixS m ++ r).data.toList.drop 4) : Nat) : Int) = m := by
    rw [app_data, app_data, List.append_assoc, List.drop_left' (by rw [ba_len, fixS_size])]; exact fixN_fix hm.1 hm.2 _
  unfold readN
  generalize fixN ((fixS n ++ fixS m ++ r).data.toList.drop 4) = M at e2
  generalize fixN (fixS n ++ fixS m ++ r).data.toList = N at e1
  subst e1 e2
  rw [if_neg (by omega), if_neg (by omega), Int.toNat_natCast]
  by_cases hbad : ¬ (N : Int) = 4294967295 - (M : Int) ∨ N = 0 ∨ 2000 < N
  · rw [if_pos hbad, if_pos (show ¬ (N : Int) = 4294967295 - (M : Int) ∨ (N : Int) = 0 ∨ 2000 < (N : Int) by omega)]
  · rw [if_neg hbad, if_neg (show ¬ (¬ (N : Int) = 4294967295 - (M : Int) ∨ (N : Int) = 0 ∨ 2000 < (N : Int)) by omega), hz2]
    have x1 : (fixS (N : Int) ++ fixS (M : Int) ++ r).extract 8 (8 + N) = r.extract 0 N := by
      have := ext_past (fixS (N : Int) ++ fixS (M : Int)) r 0 N
      rw [hz] at this; exact this
    have x2 : (fixS (N : Int) ++ fixS (M : Int) ++ r).extract (8 + N) (N + 12) = r.extract N (N + 4) := by
      have := ext_past (fixS (N : Int) ++ fixS (M : Int)) r N (N + 4)
      rw [hz, show 8 + (N + 4) = N + 12 from by omega] at this; exact this
    rw [x1, x2]
    by_cases ht : 8 + r.size < N + 12
    · rw [if_pos ht, if_pos (show (r.size : Int) < (N : Int) + 4 by omega)]
    · rw [if_neg ht, if_neg (show ¬ (r.size : Int) < (N : Int) + 4 by omega)]; rfl
theorem read_wrap (b tail : ByteArray) (h0 : b.size ≠ 0) (h1 : b.size ≤ 2000) : readN (wrapS b ++ tail) = (b, b.size + 12, 1) := by
  have e : wrapS b ++ tail = fixS b.size ++ fixS (4294967295 - b.size) ++ (b ++ (fixS (sum b) ++ tail)) := bytes_eq (by
    unfold wrapS; simp only [app_data, List.append_assoc])
  have hz : (b ++ (fixS (sum b) ++ tail)).size = b.size + 4 + tail.size := by rw [app_size, app_size, fixS_size]; omega
  have x1 : (b ++ (fixS (sum b) ++ tail)).extract 0 b.size = b := by rw [ext_low _ _ _ _ (Nat.le_refl _)]; exact ext_all _ _ (Nat.le_refl _)
  have x2 : (b ++ (fixS (sum b) ++ tail)).extract b.size (b.size + 4) = fixS (sum b) := by
    have h := ext_past b (fixS (sum b) ++ tail) 0 4
    rw [Nat.add_zero] at h
    rw [h, ext_low _ _ _ _ (by rw [fixS_size]; decide), ext_all _ _ (by rw [fixS_size]; decide)]
  rw [e, readN_two (by omega) (by omega), if_neg (by omega), if_neg (by rw [hz]; omega), Int.toNat_natCast, x1, x2, if_pos rfl]
theorem read_empty : readN ⟨#[]⟩ = (⟨#[]⟩, 0, 2) := by unfold readN; exact if_pos rfl
theorem read_few (s : ByteArray) (h0 : s.size ≠ 0) (h : s.size < 8) : readN s = (⟨#[]⟩, 0, 3) := by unfold readN; rw [if_neg h0, if_pos h]
theorem read_cut (b : ByteArray) (h0 : b.size ≠ 0) (h1 : b.size ≤ 2000) (c : Nat) (hc : c < (wrapS b).size) (hc0 : c ≠ 0) : readN ((wrapS b).extract 0 c) = (⟨#[]⟩, 0, 3) := by
  rw [wrapS_size] at hc
  have hz : ((wrapS b).extract 0 c).size = c := by rw [ByteArray.size_extract, wrapS_size]; omega
  by_cases h8 : c < 8
  · exact read_few _ (by omega) (by omega)
  · obtain ⟨d, rfl⟩ : ∃ d, c = 8 + d := ⟨c - 8, by omega⟩
    have e : (wrapS b).extract 0 (8 + d) = fixS b.size ++ fixS (4294967295 - b.size) ++ (b ++ fixS (sum b)).extract 0 d := by
      have h := ext_join (fixS b.size ++ fixS (4294967295 - b.size)) (b ++ fixS (sum b)) d
      rw [app_size, fixS_size, fixS_size] at h
      rw [← h]
      rw [show wrapS b = fixS b.size ++ fixS (4294967295 - b.size) ++ (b ++ fixS (sum b)) from bytes_eq (by unfold wrapS; simp only [app_data, List.append_assoc])]
    have hr : ((b ++ fixS (sum b)).extract 0 d).size ≤ d := by rw [ByteArray.size_extract]; omega
    rw [e, readN_two (by omega) (by omega), if_neg (by omega), if_pos (by omega)]
theorem sum_ab : sum ⟨#[97, 98]⟩ = uv (more 0#32 [97, 98]) := rfl
theorem known_q (k : Nat) : ladelaw3_known.f (k + 5) = some true := by
  unfold ladelaw3_known.f
  have w1 := Wrap_q ⟨#[97, 98]⟩ (by decide) k
  rw [if_neg (by decide), if_neg (by decide)] at w1
  have w2 := Wrap_q ⟨#[]⟩ (by decide) k
  rw [if_pos (by decide)] at w2
  have hz := wrapS_size ⟨#[97, 98]⟩
  have hz2 : (⟨#[97, 98]⟩ : ByteArray).size = 2 := rfl
  rw [hz2] at hz
  have r1 := read_wrap ⟨#[97, 98]⟩ ⟨#[120]⟩ (by decide) (by decide)
  rw [hz2] at r1
  have r3 := read_few ⟨#[97, 98, 99]⟩ (by decide) (by decide)
  have hb : (strOfNums (List.replicate 2001 0)).size = 2001 := by rw [strOfNums_size, List.length_replicate]
  have w3 := Wrap_q (strOfNums (List.replicate 2001 0)) (by omega) k
  rw [if_neg (by omega), if_pos (by omega)] at w3
  rw [w1]; simp only [bs]
  rw [if_pos (by omega), Read_q _ (by rw [app_size, hz]; decide), r1]; simp only [bs]
  rw [Read_q _ (by decide), read_empty]; simp only [bs]
  rw [Read_q _ (by decide), r3]; simp only [bs]
  rw [w2]; simp only [bs]
  rw [if_pos (by decide), w3]; simp only [bs]
  rw [it, if_pos (by decide +kernel), if_pos (by decide), if_pos (by decide), if_pos (by decide), if_pos (by decide), it, it, Size_q _ (by decide), bs]
  decide
end Go.Proofs.Ytnhpjdefnefmmaa.FrameM
