/- What the printed functions of package code tell. -/
import Derived.Test.YtangohljdpjgeaaQx1
import Derived.Test.YtangohljdpjgeaaCodeM
namespace Go.Proofs.Ytangohljdpjgeaa.CodeQ
open Go Go.RowKit Go.Proofs.Ytangohljdpjgeaa.Q Go.Proofs.Ytangohljdpjgeaa.CodeW Go.Proofs.Ytangohljdpjgeaa.CodeM Go.Proofs.YtangohljdpjgeaaW.PrintWords Go.Proofs.YtangohljdpjgeaaW.PrintLast Go.Proofs.YtangohljdpjgeaaW.PrintMore

/-- a text's bytes -/
def textB (s : ByteArray) : List UInt8 := putB s.size ++ s.data.toList
theorem Text_f (s : ByteArray) (h : s.size ≤ 140737488351232) : code_Text.f s = some (putS s.size ++ s) := by
  unfold code_Text.f
  have h9 := putB_nine (n := s.size) (by omega)
  rw [Put_f (by omega) (by omega)]; simp only [bs]
  rw [Int.toNat_natCast, if_pos (by rw [putS_size]; omega)]
theorem Text_data (s : ByteArray) : (putS s.size ++ s).data.toList = textB s := by rw [app_data, putS_data]; rfl
theorem Text_size (s : ByteArray) : (putS s.size ++ s).size = (putB s.size).length + s.size := by rw [app_size, putS_size]

/-- a text at the beginning -/
def textsN (s : ByteArray) (most : Int) : ByteArray × Int × Int :=
  if (getN s.data.toList 0 0).2.2 = 0 then
    if ((getN s.data.toList 0 0).1 : Int) > max most 0 then (⟨#[]⟩, 0, 12)
    else if ((getN s.data.toList 0 0).1 : Int) > s.size - (getN s.data.toList 0 0).2.1 then (⟨#[]⟩, 0, 10)
    else (s.extract (getN s.data.toList 0 0).2.1 ((getN s.data.toList 0 0).2.1 + (getN s.data.toList 0 0).1), (((getN s.data.toList 0 0).2.1 + (getN s.data.toList 0 0).1 : Nat) : Int), 0)
  else (⟨#[]⟩, 0, ((getN s.data.toList 0 0).2.2 : Int))
theorem Texts_f (s : ByteArray) (most : Int) (h : s.size ≤ 140737488351232) : code_Texts.f s most = some (textsN s most) := by
  unfold code_Texts.f textsN
  rw [Get_f h]; simp only [bs]
  obtain ⟨b1, b2, b3, b4⟩ := getN_ok s.data.toList
  rw [ba_len] at b2
  generalize getN s.data.toList 0 0 = R at *
  obtain ⟨u, n, e⟩ := R
  simp only at *
  rw [mx_eq]
  by_cases he : e = 0
  · rw [if_pos (by omega), if_pos he]
    by_cases h1 : (u : Int) > max most 0
    · rw [if_pos h1, if_pos h1]
    · rw [if_neg h1, if_neg h1, show wrap64 ((s.size : Int) - n) = (s.size : Int) - n from by unfold wrap64; omega]
      by_cases h2 : (u : Int) > (s.size : Int) - n
      · rw [if_pos h2, if_pos h2]
      · rw [if_neg h2, if_neg h2, show wrap64 ((n : Int) + u) = ((n + u : Nat) : Int) from by unfold wrap64; omega, if_pos (by omega), if_pos (by omega), if_pos (by omega), Int.toNat_natCast, Int.toNat_natCast]
  · rw [if_neg (by omega), if_neg he]

theorem take_mid {α : Type} (a b c : List α) : ((a ++ b ++ c).take (a.length + b.length)).drop a.length = b := by
  rw [show a.length + b.length = (a ++ b).length from by simp, List.take_left', List.drop_left'] <;> simp
theorem texts_back (s tail : ByteArray) (most : Int) (hs : s.size ≤ 1099511627776) : textsN ((putS s.size ++ s) ++ tail) most = if (s.size : Int) > max most 0 then (⟨#[]⟩, 0, 12) else (s, ((putS s.size ++ s).size : Int), 0) := by
  have hd : ((putS s.size ++ s) ++ tail).data.toList = putB s.size ++ (s.data.toList ++ tail.data.toList) := by rw [app_data, Text_data]; unfold textB; rw [List.append_assoc]
  have hg := getN_put0 (s.data.toList ++ tail.data.toList) (n := s.size) (by omega)
  have hz : ((putS s.size ++ s) ++ tail).size = (putB s.size).length + s.size + tail.size := by rw [app_size, Text_size]
  unfold textsN
  rw [hd, hg]
  simp only
  rw [if_pos trivial, hz]
  by_cases h : (s.size : Int) > max most 0
  · rw [if_pos h, if_pos h]
  · rw [if_neg h, if_neg h, if_neg (by omega), Text_size]
    have e : ((putS s.size ++ s) ++ tail).extract (putB s.size).length ((putB s.size).length + s.size) = s := ba_ext (by
      rw [ext_data, hd, ← List.append_assoc, ← ba_len s, take_mid])
    rw [e]
theorem w64' {n m : Int} (e : n = m) (h : -9223372036854775808 ≤ m ∧ m < 9223372036854775808) : wrap64 n = m := by subst e; unfold wrap64; omega
theorem wpos {n : Int} (h : 0 ≤ n ∧ n < 9223372036854775808) : 0 ≤ wrap64 n := by unfold wrap64; omega
/-- a number of 32 bits as four bytes -/
def fixL (n : Int) : List Int := [n % 256, n / 256 % 256, n / 65536 % 256, n / 16777216 % 256]
def fixS (n : Int) : ByteArray := strOfNums (fixL n)
theorem Fixed_f (n : Int) (k : Nat) : code_Fixed.f (k + 5) n = some (fixS n) := by
  unfold code_Fixed.f
  rw [if_pos (by decide), bs, show k + 5 = (k + 1 + 1 + 1 + 1) + 1 from rfl,
    code_Fixed.l0, if_pos (by decide), if_pos (wpos (by decide)), if_pos (by decide), if_pos (by decide), show wrap64 (0 + 1) = 1 from w64' (by decide) (by decide),
    code_Fixed.l0, if_pos (by decide), if_pos (wpos (by decide)), if_pos (by decide), if_pos (by rw [List.length_set]; decide), show wrap64 (1 + 1) = 2 from w64' (by decide) (by decide),
    code_Fixed.l0, if_pos (by decide), if_pos (wpos (by decide)), if_pos (by decide), if_pos (by rw [List.length_set, List.length_set]; decide), show wrap64 (2 + 1) = 3 from w64' (by decide) (by decide),
    code_Fixed.l0, if_pos (by decide), if_pos (wpos (by decide)), if_pos (by decide), if_pos (by rw [List.length_set, List.length_set, List.length_set]; decide), show wrap64 (3 + 1) = 4 from w64' (by decide) (by decide),
    code_Fixed.l0, if_neg (by decide)]
  have e : ∀ j i : Int, 8 * j = i → (0 ≤ i ∧ i < 9223372036854775808) → shr .u32 n (wrap64 (8 * j)) = n / 2 ^ min i.toNat 32 := fun j i h h2 => by rw [w64' h (by omega)]; rfl
  have h0 : shr .u32 n (wrap64 (8 * 0)) = n := by rw [e 0 0 (by decide) (by decide)]; exact Int.ediv_one n
  have h1 : shr .u32 n (wrap64 (8 * 1)) = n / 256 := by rw [e 1 8 (by decide) (by decide)]; rfl
  have h2 : shr .u32 n (wrap64 (8 * 2)) = n / 65536 := by rw [e 2 16 (by decide) (by decide)]; rfl
  have h3 : shr .u32 n (wrap64 (8 * 3)) = n / 16777216 := by rw [e 3 24 (by decide) (by decide)]; rfl
  rw [h0, h1, h2, h3]; rfl
theorem fixS_size (n : Int) : (fixS n).size = 4 := by unfold fixS; rw [strOfNums_size]; rfl
theorem fixS_data (n : Int) : (fixS n).data.toList = (fixL n).map fun x => UInt8.ofNat x.toNat := by unfold fixS; rw [strOfNums_data]
theorem fixN_fix {n : Int} (h0 : 0 ≤ n) (h1 : n < 4294967296) (r : List UInt8) : ((fixN ((fixS n).data.toList ++ r) : Nat) : Int) = n := by
  rw [fixS_data]
  have hb : ∀ x : Int, 0 ≤ x → x < 256 → ((UInt8.ofNat x.toNat).toNat : Int) = x := fun x a b => by rw [ofNat_u8 (by omega)]; omega
  have e : fixN ((fixL n).map (fun x => UInt8.ofNat x.toNat) ++ r) = (UInt8.ofNat (n % 256).toNat).toNat + (UInt8.ofNat (n / 256 % 256).toNat).toNat * 256 + (UInt8.ofNat (n / 65536 % 256).toNat).toNat * 65536 + (UInt8.ofNat (n / 16777216 % 256).toNat).toNat * 16777216 := rfl
  rw [e]
  have a0 := hb (n % 256) (by omega) (by omega)
  have a1 := hb (n / 256 % 256) (by omega) (by omega)
  have a2 := hb (n / 65536 % 256) (by omega) (by omega)
  have a3 := hb (n / 16777216 % 256) (by omega) (by omega)
  omega
end Go.Proofs.Ytangohljdpjgeaa.CodeQ
