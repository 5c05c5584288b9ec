/- Numbers and texts as bytes: plain laws. -/
import Derived.Test.YtokjhocjemjfiaaCodeG
set_option linter.unusedVariables false
set_option linter.unusedSimpArgs false
namespace Go.Proofs.Ytokjhocjemjfiaa.CodeM
open Go Go.Proofs.Ytokjhocjemjfiaa.CodeW Go.Proofs.Ytokjhocjemjfiaa.Given Go.Proofs.YtokjhocjemjfiaaW.PrintWords Go.Proofs.YtokjhocjemjfiaaW.PrintLast Go.Proofs.YtokjhocjemjfiaaW.PrintMore

/-- as Option.bind_some and if_true, but no proof by unfolding: the kernel is spared -/
theorem bs {α β : Type} (a : α) (f : α → Option β) : (some a).bind f = f a := by
  cases h : f a <;> simp [h]
theorem it {α : Type} (a b : α) : (if True then a else b) = a := if_pos trivial
theorem itt {α : Type} (a b : α) : (if true = true then a else b) = a := if_pos (Eq.refl true)
theorem iff_ {α : Type} (a b : α) : (if false = true then a else b) = b := if_neg (by decide)

/-- a number's bytes -/
def putB (n : Nat) : List UInt8 := (septL n).map fun x => if x.2 then UInt8.ofNat (x.1 + 128) else UInt8.ofNat x.1
theorem putB_small {n : Nat} (h : n < 128) : putB n = [UInt8.ofNat n] := by unfold putB; rw [septL_small h]; rfl
theorem putB_big {n : Nat} (h : ¬ n < 128) : putB n = UInt8.ofNat (n % 128 + 128) :: putB (n / 128) := by unfold putB; rw [septL_big h]; rfl
theorem putS_data (n : Nat) : (putS n).data.toList = putB n := by
  unfold putS putI putB
  rw [strOfNums_data, List.map_map]
  apply List.map_congr_left
  intro x _
  obtain ⟨a, b⟩ := x
  cases b
  · show UInt8.ofNat (a : Int).toNat = UInt8.ofNat a
    rw [Int.toNat_natCast]
  · show UInt8.ofNat ((a + 128 : Nat) : Int).toNat = UInt8.ofNat (a + 128)
    rw [Int.toNat_natCast]
theorem putB_len (n : Nat) : (putB n).length = (septL n).length := by simp [putB]
theorem putS_size (n : Nat) : (putS n).size = (putB n).length := by rw [← putS_data]; simp
theorem putB_nine {n : Nat} (h : n < 9223372036854775808) : (putB n).length ≤ 9 := by rw [putB_len]; exact septL_nine h
theorem putB_pos (n : Nat) : 1 ≤ (putB n).length := by
  by_cases h : n < 128
  · rw [putB_small h]; simp
  · rw [putB_big h]; simp
theorem ofNat_u8 {x : Nat} (h : x < 256) : (UInt8.ofNat x).toNat = x := by rw [UInt8.toNat_ofNat']; exact Nat.mod_eq_of_lt h

theorem getN_low {c : UInt8} {r : List UInt8} {i acc : Nat} (h : c.toNat < 128) (h0 : i = 0 ∨ c.toNat ≠ 0) : getN (c :: r) i acc = (acc + c.toNat * 128 ^ i, i + 1, 0) := by
  unfold getN; rw [if_neg (by omega), if_pos h]
theorem getN_high {c : UInt8} {r : List UInt8} {i acc : Nat} (h : 128 ≤ c.toNat) (h0 : i ≠ 8) : getN (c :: r) i acc = getN r (i + 1) (acc + (c.toNat - 128) * 128 ^ i) := by
  rw [getN, if_neg (by omega), if_neg (by omega)]
/-- what was written is read -/
theorem getN_put (rest : List UInt8) : ∀ (n i acc : Nat), i + (putB n).length ≤ 9 → (i = 0 ∨ n ≠ 0) → getN (putB n ++ rest) i acc = (acc + n * 128 ^ i, i + (putB n).length, 0) := by
  intro n
  induction n using Nat.strongRecOn with
  | _ n ih =>
    intro i acc hl h0
    by_cases h : n < 128
    · rw [putB_small h] at hl ⊢
      have hc := ofNat_u8 (show n < 256 by omega)
      show getN (UInt8.ofNat n :: rest) i acc = _
      rw [getN_low (by omega) (by omega), hc]; rfl
    · have hp := putB_pos (n / 128)
      rw [putB_big h] at hl ⊢
      rw [List.length_cons] at hl ⊢
      have hc := ofNat_u8 (show n % 128 + 128 < 256 by omega)
      show getN (UInt8.ofNat (n % 128 + 128) :: (putB (n / 128) ++ rest)) i acc = _
      rw [getN_high (by omega) (by omega), hc, ih (n / 128) (by omega) (i + 1) _ (by omega) (by omega)]
      congr 1
      · rw [Nat.pow_succ, Nat.add_sub_cancel, Nat.add_assoc]
        congr 1
        rw [show 128 ^ i * 128 = 128 * 128 ^ i from Nat.mul_comm _ _, ← Nat.mul_assoc, ← Nat.add_mul]
        congr 1
        omega
      · congr 1; omega
theorem getN_put0 (rest : List UInt8) {n : Nat} (h : n < 9223372036854775808) : getN (putB n ++ rest) 0 0 = (n, (putB n).length, 0) := by
  have := getN_put rest n 0 0 (by have := putB_nine h; omega) (by omega)
  simpa using this
/-- cut off it lacks bytes -/
theorem getN_cut : ∀ (n i acc k : Nat), k < (putB n).length → i + (putB n).length ≤ 9 → getN ((putB n).take k) i acc = (0, 0, 10) := by
  intro n
  induction n using Nat.strongRecOn with
  | _ n ih =>
    intro i acc k hk hl
    cases k with
    | zero => rw [List.take_zero]; rfl
    | succ k =>
      by_cases h : n < 128
      · rw [putB_small h] at hk; simp at hk
      · have hp := putB_pos (n / 128)
        rw [putB_big h] at hl hk ⊢
        rw [List.length_cons] at hl hk
        have hc := ofNat_u8 (show n % 128 + 128 < 256 by omega)
        rw [List.take_succ_cons, getN_high (by omega) (by omega), ih (n / 128) (by omega) (i + 1) _ k (by omega) (by omega)]
/-- what comes out: at most 9 bytes, no more than there are; the number below 2^63; the error -/
theorem getN_bound : ∀ (l : List UInt8) (i acc : Nat), i ≤ 8 → acc < 128 ^ i → (getN l i acc).1 < 9223372036854775808 ∧ (getN l i acc).2.1 ≤ i + l.length ∧ (getN l i acc).2.1 ≤ 9 ∧ ((getN l i acc).2.2 = 0 ∨ ((getN l i acc).2.2 = 10 ∨ (getN l i acc).2.2 = 11) ∧ (getN l i acc).1 = 0 ∧ (getN l i acc).2.1 = 0)
  | [], i, acc, _, _ => ⟨by simp [getN], by simp [getN], by simp [getN], by simp [getN]⟩
  | c :: r, i, acc, hi, ha => by
    rw [getN]
    have hx := c.toNat_lt
    have hp := pow_le56 hi
    rw [← pow128] at hp
    split
    · exact ⟨by decide, by simp, by simp, by simp⟩
    · split
      · rename_i h1 h2
        have hm : c.toNat * 128 ^ i ≤ 127 * 128 ^ i := Nat.mul_le_mul_right _ (by omega)
        refine ⟨by simp only; omega, by simp <;> omega, by simp only; omega, .inl rfl⟩
      · rename_i h1 h2
        have hm : (c.toNat - 128) * 128 ^ i ≤ 127 * 128 ^ i := Nat.mul_le_mul_right _ (by omega)
        have hi7 : i < 8 := by omega
        have := getN_bound r (i + 1) (acc + (c.toNat - 128) * 128 ^ i) (by omega) (by rw [Nat.pow_succ]; omega)
        rw [List.length_cons]
        exact ⟨this.1, by omega, this.2.2.1, this.2.2.2⟩
theorem getN_ok (l : List UInt8) : (getN l 0 0).1 < 9223372036854775808 ∧ (getN l 0 0).2.1 ≤ l.length ∧ (getN l 0 0).2.1 ≤ 9 ∧ ((getN l 0 0).2.2 = 0 ∨ ((getN l 0 0).2.2 = 10 ∨ (getN l 0 0).2.2 = 11) ∧ (getN l 0 0).1 = 0 ∧ (getN l 0 0).2.1 = 0) := by
  have := getN_bound l 0 0 (by omega) (by decide)
  rwa [Nat.zero_add] at this

/-- none is the beginning of another one -/
theorem put_prefix {a b : Nat} (ha : a < 9223372036854775808) (hb : b < 9223372036854775808) {r r' : List UInt8} (h : putB a ++ r = putB b ++ r') : a = b := by
  have h1 := getN_put0 r ha
  rw [h, getN_put0 r' hb] at h1
  exact (Prod.mk.inj h1).1.symm
theorem put_high : ∀ (n i : Nat), i < (putB n).length → (128 ≤ ((putB n).getD i 0).toNat ↔ i + 1 < (putB n).length) := by
  intro n
  induction n using Nat.strongRecOn with
  | _ n ih =>
    intro i hi
    by_cases h : n < 128
    · rw [putB_small h] at hi ⊢
      simp at hi; subst hi
      show 128 ≤ (UInt8.ofNat n).toNat ↔ _
      rw [ofNat_u8 (by omega)]; simp; omega
    · have hp := putB_pos (n / 128)
      rw [putB_big h] at hi ⊢
      rw [List.length_cons] at hi ⊢
      cases i with
      | zero =>
        show 128 ≤ (UInt8.ofNat (n % 128 + 128)).toNat ↔ _
        rw [ofNat_u8 (by omega)]; omega
      | succ i =>
        show 128 ≤ ((putB (n / 128)).getD i 0).toNat ↔ _
        rw [ih (n / 128) (by omega) i (by omega)]; omega
theorem put_size : ∀ (k n : Nat), 2 ^ k ≤ n → n < 2 ^ (k + 1) → (putB n).length = k / 7 + 1 := by
  intro k
  induction k using Nat.strongRecOn with
  | _ k ih =>
    intro n h1 h2
    by_cases h : n < 128
    · have hk : k < 7 := by
        apply Classical.byContradiction; intro hk
        have : 2 ^ 7 ≤ 2 ^ k := Nat.pow_le_pow_right (by omega) (by omega)
        omega
      rw [putB_small h, show k / 7 = 0 from by omega]; rfl
    · have hk : 7 ≤ k := by
        apply Classical.byContradiction; intro hk
        have : 2 ^ (k + 1) ≤ 2 ^ 7 := Nat.pow_le_pow_right (by omega) (by omega)
        omega
      obtain ⟨j, rfl⟩ : ∃ j, k = j + 7 := ⟨k - 7, by omega⟩
      have e1 : 2 ^ (j + 7) = 2 ^ j * 128 := by rw [Nat.pow_add]
      have e2 : 2 ^ (j + 7 + 1) = 2 ^ (j + 1) * 128 := by rw [show j + 7 + 1 = j + 1 + 7 from by omega, Nat.pow_add]
      rw [putB_big h, List.length_cons, ih j (by omega) (n / 128) (by omega) (by omega)]
      omega
theorem Put_f {n : Int} (h1 : -9223372036854775808 ≤ n) (h2 : n < 9223372036854775808) : code_Put.f n = some (putS n.toNat) := by
  unfold code_Put.f; rw [if_pos ⟨h1, h2⟩]
theorem Get_f {s : ByteArray} (h : s.size ≤ 140737488351232) : code_Get.f s = some (((getN s.data.toList 0 0).1 : Int), ((getN s.data.toList 0 0).2.1 : Int), ((getN s.data.toList 0 0).2.2 : Int)) := by
  unfold code_Get.f; rw [if_pos h]
theorem app_data (a b : ByteArray) : (a ++ b).data.toList = a.data.toList ++ b.data.toList := by simp
theorem app_size (a b : ByteArray) : (a ++ b).size = a.size + b.size := ByteArray.size_append
theorem ba_ext {a b : ByteArray} (h : a.data.toList = b.data.toList) : a = b := ByteArray.ext (Array.toList_inj.1 h)
theorem ba_len (a : ByteArray) : a.data.toList.length = a.size := by simp
theorem ba_loop (b : ByteArray) : ∀ (d i : Nat) (r : List UInt8), i + d = b.size → ByteArray.toList.loop b i r = r.reverse ++ b.data.toList.drop i
  | 0, i, r, h => by
    rw [ByteArray.toList.loop, if_neg (by omega), List.drop_of_length_le (by simp; omega), List.append_nil]
  | d + 1, i, r, h => by
    have hi : i < b.data.toList.length := by simp; omega
    rw [ByteArray.toList.loop, if_pos (by omega), ba_loop b d (i + 1) _ (by omega), List.reverse_cons, List.append_assoc, List.drop_eq_getElem_cons hi]
    congr 1
    show [b.get! i] ++ _ = _
    have : b.get! i = b.data.toList[i] := by
      show b.data[i]! = _
      have hb : i < b.data.size := by simpa using hi
      rw [getElem!_pos b.data i hb]; simp
    rw [this]; rfl
theorem ba_list (b : ByteArray) : b.toList = b.data.toList := by
  have := ba_loop b b.size 0 [] (by omega)
  simpa [ByteArray.toList] using this
theorem ba_toList {a b : ByteArray} (h : a.toList = b.toList) : a = b := ba_ext (by rw [← ba_list, ← ba_list, h])
theorem ext_data (b : ByteArray) (i j : Nat) : (b.extract i j).data.toList = (b.data.toList.take j).drop i := by
  rw [ByteArray.data_extract, Array.toList_extract, List.extract_eq_take_drop, List.drop_take]
theorem wf_i64 {n : Int} (h : (Lit.int .i64 n).wf = true) : -9223372036854775808 ≤ n ∧ n < 9223372036854775808 := by
  simp [Lit.wf, IntKind.min, IntKind.max, IntKind.bits, IntKind.signed] at h; omega
theorem wf_u8 {n : Int} (h : (Lit.int .u8 n).wf = true) : 0 ≤ n ∧ n ≤ 255 := by
  simp [Lit.wf, IntKind.min, IntKind.max, IntKind.bits, IntKind.signed] at h; omega
theorem wf_u32 {n : Int} (h : (Lit.int .u32 n).wf = true) : 0 ≤ n ∧ n < 4294967296 := by
  simp [Lit.wf, IntKind.min, IntKind.max, IntKind.bits, IntKind.signed] at h; omega
theorem wf_u16 {n : Int} (h : (Lit.int .u16 n).wf = true) : 0 ≤ n ∧ n < 65536 := by
  simp [Lit.wf, IntKind.min, IntKind.max, IntKind.bits, IntKind.signed] at h; omega
theorem mx_eq (a b : Int) : mx a b = max a b := by unfold mx; omega
end Go.Proofs.Ytokjhocjemjfiaa.CodeM
