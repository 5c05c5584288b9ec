/- What code.Fixed tells: four bytes. -/
import Derived.Test.YtnhpjdefnefmmaaCodeFix
import Derived.Test.YtnhpjdefnefmmaaAx1
import Derived.Test.YtnhpjdefnefmmaaCrcM
namespace Go.Proofs.Ytnhpjdefnefmmaa.FixQ
open Go Go.RowKit Go.Proofs.Ytnhpjdefnefmmaa.A Go.Proofs.Ytnhpjdefnefmmaa.CodeF Go.Proofs.Ytnhpjdefnefmmaa.CrcM Go.Proofs.YtnhpjdefnefmmaaW.PrintWords Go.Proofs.YtnhpjdefnefmmaaW.PrintLast Go.Proofs.YtnhpjdefnefmmaaW.PrintMore
theorem ofNat_u8 {x : Nat} (h : x < 256) : (UInt8.ofNat x).toNat = x := by rw [UInt8.toNat_ofNat']; exact Nat.mod_eq_of_lt h
theorem w64' {n m : Int} (e : n = m) (h : -9223372036854775808 ≤ m ∧ m < 9223372036854775808) : wrap64 n = m := by subst e; unfold wrap64; omega
theorem wpos {n : Int} (h : 0 ≤ n ∧ n < 9223372036854775808) : 0 ≤ wrap64 n := by unfold wrap64; omega
/-- a number of 32 bits as four bytes -/
def fixL (n : Int) : List Int := [n % 256, n / 256 % 256, n / 65536 % 256, n / 16777216 % 256]
def fixS (n : Int) : ByteArray := strOfNums (fixL n)
theorem Fixed_f (n : Int) (k : Nat) : code_Fixed.f (k + 5) n = some (fixS n) := by
  unfold code_Fixed.f
  rw [if_pos (by decide), bs, show k + 5 = (k + 1 + 1 + 1 + 1) + 1 from rfl,
    code_Fixed.l0, if_pos (by decide), if_pos (wpos (by decide)), if_pos (by decide), if_pos (by decide), show wrap64 (0 + 1) = 1 from w64' (by decide) (by decide),
    code_Fixed.l0, if_pos (by decide), if_pos (wpos (by decide)), if_pos (by decide), if_pos (by rw [List.length_set]; decide), show wrap64 (1 + 1) = 2 from w64' (by decide) (by decide),
    code_Fixed.l0, if_pos (by decide), if_pos (wpos (by decide)), if_pos (by decide), if_pos (by rw [List.length_set, List.length_set]; decide), show wrap64 (2 + 1) = 3 from w64' (by decide) (by decide),
    code_Fixed.l0, if_pos (by decide), if_pos (wpos (by decide)), if_pos (by decide), if_pos (by rw [List.length_set, List.length_set, List.length_set]; decide), show wrap64 (3 + 1) = 4 from w64' (by decide) (by decide),
    code_Fixed.l0, if_neg (by decide)]
  have e : ∀ j i : Int, 8 * j = i → (0 ≤ i ∧ i < 9223372036854775808) → shr .u32 n (wrap64 (8 * j)) = n / 2 ^ min i.toNat 32 := fun j i h h2 => by rw [w64' h (by omega)]; rfl
  have h0 : shr .u32 n (wrap64 (8 * 0)) = n := by rw [e 0 0 (by decide) (by decide)]; exact Int.ediv_one n
  have h1 : shr .u32 n (wrap64 (8 * 1)) = n / 256 := by rw [e 1 8 (by decide) (by decide)]; rfl
  have h2 : shr .u32 n (wrap64 (8 * 2)) = n / 65536 := by rw [e 2 16 (by decide) (by decide)]; rfl
  have h3 : shr .u32 n (wrap64 (8 * 3)) = n / 16777216 := by rw [e 3 24 (by decide) (by decide)]; rfl
  rw [h0, h1, h2, h3]; rfl
theorem fixS_size (n : Int) : (fixS n).size = 4 := by unfold fixS; rw [strOfNums_size]; rfl
theorem fixS_data (n : Int) : (fixS n).data.toList = (fixL n).map fun x => UInt8.ofNat x.toNat := by unfold fixS; rw [strOfNums_data]
theorem fixN_fix {n : Int} (h0 : 0 ≤ n) (h1 : n < 4294967296) (r : List UInt8) : ((fixN ((fixS n).data.toList ++ r) : Nat) : Int) = n := by
  rw [fixS_data]
  have hb : ∀ x : Int, 0 ≤ x → x < 256 → ((UInt8.ofNat x.toNat).toNat : Int) = x := fun x a b => by rw [ofNat_u8 (by omega)]; omega
  have e : fixN ((fixL n).map (fun x => UInt8.ofNat x.toNat) ++ r) = (UInt8.ofNat (n % 256).toNat).toNat + (UInt8.ofNat (n / 256 % 256).toNat).toNat * 256 + (UInt8.ofNat (n / 65536 % 256).toNat).toNat * 65536 + (UInt8.ofNat (n / 16777216 % 256).toNat).toNat * 16777216 := rfl
  rw [e]
  have a0 := hb (n % 256) (by omega) (by omega)
  have a1 := hb (n / 256 % 256) (by omega) (by omega)
  have a2 := hb (n / 65536 % 256) (by omega) (by omega)
  have a3 := hb (n / 16777216 % 256) (by omega) (by omega)
  omega
end Go.Proofs.Ytnhpjdefnefmmaa.FixQ
