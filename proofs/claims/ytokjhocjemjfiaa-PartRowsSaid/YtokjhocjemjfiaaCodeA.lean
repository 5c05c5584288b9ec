/- What the printed functions of package code and of its reference tell. -/
import Derived.Test.YtokjhocjemjfiaaAx3
import Derived.Test.YtokjhocjemjfiaaCodeM
set_option linter.unusedVariables false
set_option linter.unusedSimpArgs false
namespace Go.Proofs.Ytokjhocjemjfiaa.CodeQ
open Go Go.RowKit Go.Proofs.Ytokjhocjemjfiaa.A Go.Proofs.Ytokjhocjemjfiaa.CodeW Go.Proofs.Ytokjhocjemjfiaa.CodeM Go.Proofs.YtokjhocjemjfiaaW.PrintWords Go.Proofs.YtokjhocjemjfiaaW.PrintLast Go.Proofs.YtokjhocjemjfiaaW.PrintMore
/-- a text's bytes -/
def textB (s : ByteArray) : List UInt8 := putB s.size ++ s.data.toList
theorem Text_f (s : ByteArray) (h : s.size ≤ 140737488351232) : code_Text.f s = some (putS s.size ++ s) := by
  unfold code_Text.f
  have h9 := putB_nine (n := s.size) (by omega)
  rw [Put_f (by omega) (by omega)]; simp only [bs]
  rw [Int.toNat_natCast, if_pos (by rw [putS_size]; omega)]
theorem Text_data (s : ByteArray) : (putS s.size ++ s).data.toList = textB s := by rw [app_data, putS_data]; rfl
theorem Text_size (s : ByteArray) : (putS s.size ++ s).size = (putB s.size).length + s.size := by rw [app_size, putS_size]

/-- a text at the beginning -/
def textsN (s : ByteArray) (most : Int) : ByteArray × Int × Int :=
  if (getN s.data.toList 0 0).2.2 = 0 then
    if ((getN s.data.toList 0 0).1 : Int) > max most 0 then (⟨#[]⟩, 0, 12)
    else if ((getN s.data.toList 0 0).1 : Int) > s.size - (getN s.data.toList 0 0).2.1 then (⟨#[]⟩, 0, 10)
    else (s.extract (getN s.data.toList 0 0).2.1 ((getN s.data.toList 0 0).2.1 + (getN s.data.toList 0 0).1), (((getN s.data.toList 0 0).2.1 + (getN s.data.toList 0 0).1 : Nat) : Int), 0)
  else (⟨#[]⟩, 0, ((getN s.data.toList 0 0).2.2 : Int))
theorem Texts_f (s : ByteArray) (most : Int) (h : s.size ≤ 140737488351232) : code_Texts.f s most = some (textsN s most) := by
  unfold code_Texts.f textsN
  rw [Get_f h]; simp only [bs]
  obtain ⟨b1, b2, b3, b4⟩ := getN_ok s.data.toList
  rw [ba_len] at b2
  generalize getN s.data.toList 0 0 = R at *
  obtain ⟨u, n, e⟩ := R
  simp only at *
  rw [mx_eq]
  by_cases he : e = 0
  · rw [if_pos (by omega), if_pos he]
    by_cases h1 : (u : Int) > max most 0
    · rw [if_pos h1, if_pos h1]
    · rw [if_neg h1, if_neg h1, show wrap64 ((s.size : Int) - n) = (s.size : Int) - n from by unfold wrap64; omega]
      by_cases h2 : (u : Int) > (s.size : Int) - n
      · rw [if_pos h2, if_pos h2]
      · rw [if_neg h2, if_neg h2, show wrap64 ((n : Int) + u) = ((n + u : Nat) : Int) from by unfold wrap64; omega, if_pos (by omega), if_pos (by omega), if_pos (by omega), Int.toNat_natCast, Int.toNat_natCast]
  · rw [if_neg (by omega), if_neg he]

theorem take_mid {α : Type} (a b c : List α) : ((a ++ b ++ c).take (a.length + b.length)).drop a.length = b := by
  rw [show a.length + b.length = (a ++ b).length from by simp, List.take_left', List.drop_left'] <;> simp
theorem texts_back (s tail : ByteArray) (most : Int) (hs : s.size ≤ 1099511627776) : textsN ((putS s.size ++ s) ++ tail) most = if (s.size : Int) > max most 0 then (⟨#[]⟩, 0, 12) else (s, ((putS s.size ++ s).size : Int), 0) := by
  have hd : ((putS s.size ++ s) ++ tail).data.toList = putB s.size ++ (s.data.toList ++ tail.data.toList) := by rw [app_data, Text_data]; unfold textB; rw [List.append_assoc]
  have hg := getN_put0 (s.data.toList ++ tail.data.toList) (n := s.size) (by omega)
  have hz : ((putS s.size ++ s) ++ tail).size = (putB s.size).length + s.size + tail.size := by rw [app_size, Text_size]
  unfold textsN
  rw [hd, hg]
  simp only
  rw [if_pos trivial, hz]
  by_cases h : (s.size : Int) > max most 0
  · rw [if_pos h, if_pos h]
  · rw [if_neg h, if_neg h, if_neg (by omega), Text_size]
    have e : ((putS s.size ++ s) ++ tail).extract (putB s.size).length ((putB s.size).length + s.size) = s := ba_ext (by
      rw [ext_data, hd, ← List.append_assoc, ← ba_len s, take_mid])
    rw [e]
theorem w64' {n m : Int} (e : n = m) (h : -9223372036854775808 ≤ m ∧ m < 9223372036854775808) : wrap64 n = m := by subst e; unfold wrap64; omega
theorem wpos {n : Int} (h : 0 ≤ n ∧ n < 9223372036854775808) : 0 ≤ wrap64 n := by unfold wrap64; omega
def trip (R : Nat × Nat × Nat) : Int × Int × Int := ((R.1 : Int), (R.2.1 : Int), (R.2.2 : Int))
theorem bt_getD (s : ByteArray) (i : Nat) (h : i < s.size) : bt s i = ((s.data.toList.getD i 0).toNat : Int) := by
  have e : s.data.toList.getD i 0 = s[i] := by
    show (s.data.toList[i]?).getD 0 = _
    rw [List.getElem?_eq_getElem (by simpa using h)]; rfl
  rw [e]; unfold bt; simp [h]
theorem and127 {x : Nat} (h : x < 256) : Go.bits .and .u8 (x : Int) 127 = ((x % 128 : Nat) : Int) := by
  have h' : ∀ x : Fin 256, Go.bits .and .u8 (x.val : Int) 127 = ((x.val % 128 : Nat) : Int) := by decide +kernel
  exact h' ⟨x, h⟩
theorem u64_small' {n : Int} (h : 0 ≤ n ∧ n < 9223372036854775808) : IntKind.u64.wrap n = n := by simp [IntKind.wrap, IntKind.bits, IntKind.signed]; omega
theorem ref_or {acc x i : Nat} (hi : i ≤ 8) (ha : acc < 128 ^ i) (hx : x < 256) : Go.bits .or .i64 (acc : Int) (shl .i64 (wrap64 (Go.bits .and .u8 (x : Int) 127)) (IntKind.u64.wrap (wrap64 (7 * (i : Int))))) = ((acc + x % 128 * 128 ^ i : Nat) : Int) := by
  rw [and127 hx, show wrap64 (((x % 128 : Nat)) : Int) = ((x % 128 : Nat) : Int) from by unfold wrap64; omega, show wrap64 (7 * (i : Int)) = ((7 * i : Nat) : Int) from by unfold wrap64; omega, u64_small' (by omega)]
  have e : shl .i64 ((x % 128 : Nat) : Int) ((7 * i : Nat) : Int) = wrap64 (((x % 128 : Nat) : Int) * 2 ^ (7 * i)) := by
    show IntKind.i64.wrap (((x % 128 : Nat) : Int) * 2 ^ min ((7 * i : Nat) : Int).toNat 64) = _
    rw [Int.toNat_natCast, Nat.min_eq_left (by omega), i64_w]
  rw [e, or_acc hi ha (by omega)]
theorem trip_eq (a b : Nat) : some ((a : Int), (b : Int), (0 : Int)) = some (trip (a, b, 0)) := rfl
theorem ref_get (s : ByteArray) (hs : s.size ≤ 140737488351232) : ∀ (d k i acc : Nat), i + d = s.size → 2 * d < k → i ≤ 8 → acc < 128 ^ i → laderef1_Get.l0 k s acc i = some (trip (getN (s.data.toList.drop i) i acc)) := by
  intro d
  induction d with
  | zero =>
    intro k i acc hi hk h8 ha
    obtain ⟨k, rfl⟩ : ∃ m, k = m + 1 := ⟨k - 1, by omega⟩
    rw [laderef1_Get.l0, if_neg (by omega), List.drop_of_length_le (by rw [ba_len]; omega)]; rfl
  | succ d ih =>
    intro k i acc hi hk h8 ha
    obtain ⟨k, rfl⟩ : ∃ m, k = m + 2 := ⟨k - 2, by omega⟩
    have hx := (s.data.toList.getD i 0).toNat_lt
    have hlt : i < s.size := by omega
    rw [laderef1_Get.l0, if_pos (by omega), if_pos (by omega), bt_getD s i hlt, getD_cons s.data.toList (by rw [ba_len]; exact hlt), getN]
    generalize s.data.toList.getD i 0 = c at hx
    generalize c.toNat = x at hx
    have hor := ref_or h8 ha hx
    have hj : ∀ b, laderef1_Get.j1 (k + 1) s acc i x b = if b = true then (some (0, 0, 11)) else _ := fun b => by rw [laderef1_Get.j1]
    have hsh : (0 : Int) ≤ IntKind.u64.wrap (wrap64 (7 * (i : Int))) := by
      rw [show wrap64 (7 * (i : Int)) = ((7 * i : Nat) : Int) from by unfold wrap64; omega, u64_small' (by omega)]; omega
    by_cases hbad : i = 8 ∧ 128 ≤ x
    · rw [if_pos (show (i : Int) = 8 by omega), decide_eq_true (by omega), hj, itt, if_pos (.inl hbad)]; simp [trip]
    · have hj2 : (if (i : Int) = 8 then laderef1_Get.j1 (k + 1) s acc i x (decide ((x : Int) ≥ 128)) else laderef1_Get.j1 (k + 1) s acc i x false) = laderef1_Get.j1 (k + 1) s acc i x false := by
        split
        · rw [decide_eq_false (by omega)]
        · rfl
      rw [hj2, hj, iff_, if_pos hsh, hor]
      obtain ⟨P, hP⟩ : ∃ P, 128 ^ i = P := ⟨_, rfl⟩
      rw [hP] at ha ⊢
      clear hj hj2 hor hsh
      by_cases hlow : x < 128
      · rw [if_pos (show (x : Int) < 128 by omega)]
        have hm : x % 128 = x := by omega
        have hw : wrap64 ((i : Int) + 1) = ((i + 1 : Nat) : Int) := by unfold wrap64; omega
        by_cases h0 : x = 0
        · rw [if_pos (show (x : Int) = 0 by omega)]
          by_cases hi0 : 0 < i
          · rw [if_pos (show (i : Int) > 0 by omega), if_pos (.inr ⟨hi0, h0⟩)]; simp [trip]
          · rw [if_neg (show ¬ (i : Int) > 0 by omega), if_neg (show ¬ ((i = 8 ∧ 128 ≤ x) ∨ (0 < i ∧ x = 0)) by omega), if_pos hlow, hm, hw]; exact trip_eq _ _
        · rw [if_neg (show ¬ (x : Int) = 0 by omega), if_neg (show ¬ ((i = 8 ∧ 128 ≤ x) ∨ (0 < i ∧ x = 0)) by omega), if_pos hlow, hm, hw]; exact trip_eq _ _
      · rw [if_neg (show ¬ (x : Int) < 128 by omega), if_neg (show ¬ ((i = 8 ∧ 128 ≤ x) ∨ (0 < i ∧ x = 0)) by omega), if_neg hlow, show x % 128 = x - 128 from by omega, show wrap64 ((i : Int) + 1) = ((i + 1 : Nat) : Int) from by unfold wrap64; omega]
        refine ih k (i + 1) _ (by omega) (by omega) (by omega) ?_
        have hm : (x - 128) * P ≤ 127 * P := Nat.mul_le_mul_right _ (by omega)
        rw [Nat.pow_succ, hP]; omega
theorem ref_get0 (s : ByteArray) (hs : s.size ≤ 140737488351232) (k : Nat) (hk : 2 * s.size < k) : laderef1_Get.f k s = some (trip (getN s.data.toList 0 0)) := by
  have := ref_get s hs s.size k 0 0 (by omega) hk (by omega) (by decide)
  unfold laderef1_Get.f
  rw [List.drop_zero] at this
  exact this
theorem ref_texts (s : ByteArray) (most : Int) (hs : s.size ≤ 140737488351232) (k : Nat) (hk : 2 * s.size < k) : laderef1_Texts.f k s most = some (textsN s most) := by
  unfold laderef1_Texts.f textsN
  rw [ref_get0 s hs k hk, trip]; simp only [bs]
  obtain ⟨b1, b2, b3, b4⟩ := getN_ok s.data.toList
  rw [ba_len] at b2
  generalize getN s.data.toList 0 0 = R at *
  obtain ⟨u, n, e⟩ := R
  simp only at *
  rw [mx_eq]
  by_cases he : e = 0
  · rw [if_pos (show (e : Int) = 0 by omega), if_pos he]
    by_cases h1 : (u : Int) > max most 0
    · rw [if_pos (show (u : Int) > max 0 most by omega), if_pos h1]
    · rw [if_neg (show ¬ (u : Int) > max 0 most by omega), if_neg h1, show wrap64 ((s.size : Int) - n) = (s.size : Int) - n from by unfold wrap64; omega]
      by_cases h2 : (u : Int) > (s.size : Int) - n
      · rw [if_pos h2, if_pos h2]
      · rw [if_neg h2, if_neg h2, show wrap64 ((n : Int) + u) = ((n + u : Nat) : Int) from by unfold wrap64; omega, if_pos (by omega), if_pos (by omega), if_pos (by omega), Int.toNat_natCast, Int.toNat_natCast]
  · rw [if_neg (show ¬ (e : Int) = 0 by omega), if_neg he]
theorem and127i {n : Nat} (h : n < 9223372036854775808) : Go.bits .and .i64 (n : Int) 127 = ((n % 128 : Nat) : Int) := by
  have := bits_mask .i64 63 (by decide) (fun m h0 h1 => by rw [IntKind.wrap_i64]; omega) 7 (by omega) (n : Int) (by omega) (by omega)
  exact this
theorem ref_put (a : ByteArray) : ∀ (k n : Nat) (acc : ByteArray), n < 9223372036854775808 → acc.size + (putB n).length ≤ 1000 → (putB n).length ≤ k → laderef1_Put.l0 k n acc = some (acc ++ putS n)
  | 0, n, acc, _, _, h => by have := putB_pos n; omega
  | k + 1, n, acc, hn, hs, hk => by
    rw [laderef1_Put.l0]
    by_cases h : n < 128
    · rw [if_pos (by omega)]; simp only [bs]
      have e : strOfNums [(n : Int) % 256] = putS n := ba_ext (by
        rw [putS_data, putB_small h, strOfNums_data]
        show [UInt8.ofNat ((n : Int) % 256).toNat] = _
        rw [show ((n : Int) % 256).toNat = n from by omega])
      have hz := putS_size n
      rw [e, if_pos (by omega)]
    · rw [if_neg (by omega)]; simp only [bs]
      rw [putB_big h, List.length_cons] at hs hk
      have hb : Go.bits .or .u8 ((Go.bits .and .i64 (n : Int) 127) % 256) 128 = ((n % 128 + 128 : Nat) : Int) := by
        rw [and127i hn, show (((n % 128 : Nat)) : Int) % 256 = ((n % 128 : Nat) : Int) from by omega, or128 (by omega)]
      rw [hb, show ((n : Int) / 128) = ((n / 128 : Nat) : Int) from by omega]
      have hz : (strOfNums [((n % 128 + 128 : Nat) : Int)]).size = 1 := by rw [strOfNums_size]; rfl
      have hza := app_size acc (strOfNums [((n % 128 + 128 : Nat) : Int)])
      rw [if_pos (by omega), ref_put a k (n / 128) _ (by omega) (by omega) (by omega)]
      congr 1
      apply ba_ext
      rw [app_data, app_data, app_data, putS_data, putS_data, putB_big h, strOfNums_data, List.append_assoc]
      rfl
theorem ref_put0 {n : Int} (h1 : -9223372036854775808 ≤ n) (h2 : n < 9223372036854775808) (k : Nat) (hk : 9 ≤ k) : laderef1_Put.f k n = some (putS n.toNat) := by
  unfold laderef1_Put.f
  have h9 := putB_nine (n := n.toNat) (by omega)
  rw [mx_eq, show max 0 n = ((n.toNat : Nat) : Int) from by omega, ref_put ⟨#[]⟩ k n.toNat _ (by omega) (by show 0 + _ ≤ _; omega) (by omega)]
  congr 1
  try (apply ba_ext; rw [app_data]; rfl)
theorem ref_text (s : ByteArray) (h : s.size ≤ 140737488351232) (k : Nat) (hk : 9 ≤ k) : laderef1_Text.f k s = some (putS s.size ++ s) := by
  unfold laderef1_Text.f
  have h9 := putB_nine (n := s.size) (by omega)
  rw [ref_put0 (by omega) (by omega) k hk]; simp only [bs]
  rw [Int.toNat_natCast, if_pos (by rw [putS_size]; omega)]
end Go.Proofs.Ytokjhocjemjfiaa.CodeQ
