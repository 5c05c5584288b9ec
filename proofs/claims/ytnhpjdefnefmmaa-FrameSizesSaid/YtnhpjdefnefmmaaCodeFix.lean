/- The walk of code.Fix. -/
import Derived.Test.YtnhpjdefnefmmaaProg
import Derived.Test.YtnhpjdefnefmmaaSeq
import Derived.Test.YtnhpjdefnefmmaaWMore
import Derived.Laws.Bits
namespace Go.Proofs.Ytnhpjdefnefmmaa.CodeF
open Go Go.RowKit Go.Shelf Go.Proofs.Ytnhpjdefnefmmaa.Seq Go.Proofs.YtnhpjdefnefmmaaW.PrintWords Go.Proofs.YtnhpjdefnefmmaaW.PrintLast Go.Proofs.YtnhpjdefnefmmaaW.PrintMore
attribute [local go_sem] Oper.semAt_some
theorem or_comm' (k : IntKind) (a b : Int) : Go.bits .or k a b = Go.bits .or k b a := by
  simp only [Go.bits]; rw [BitVec.or_comm]
/-- a number in four bytes -/
def fixN (s : List UInt8) : Nat := (s.getD 0 0).toNat + (s.getD 1 0).toNat * 256 + (s.getD 2 0).toNat * 65536 + (s.getD 3 0).toNat * 16777216
theorem or_u32 {acc x : Nat} (k : Nat) (hk : k ≤ 24) (ha : acc < 2 ^ k) (hx : x < 256) : Go.bits .or .u32 (acc : Int) ((x : Int) * 2 ^ k % 4294967296) = ((acc + x * 2 ^ k : Nat) : Int) := by
  have hp : 2 ^ k ≤ 16777216 := Nat.le_trans (Nat.pow_le_pow_right (by omega) hk) (by decide)
  have e : (2 : Int) ^ k = ((2 ^ k : Nat) : Int) := by simp
  have hm : x * 2 ^ k ≤ 255 * 2 ^ k := Nat.mul_le_mul_right _ (by omega)
  have hw : (x : Int) * 2 ^ k % 4294967296 = ((x * 2 ^ k : Nat) : Int) := by
    rw [e, ← Int.natCast_mul]; omega
  rw [hw, or_comm']
  have hj := bits_join .u32 32 (by decide) (fun n h0 h1 => by rw [IntKind.wrap_u32]; omega) k ((x * 2 ^ k : Nat) : Int) (acc : Int) (by omega)
    (by rw [e, ← Int.natCast_emod, Nat.mul_mod_left]; rfl) (by omega) (by omega) (by rw [e]; omega) (by omega)
  rw [hj]; omega
def fixP (s : List UInt8) : Nat → Nat
  | 0 => 0
  | i + 1 => fixP s i + (s.getD i 0).toNat * 2 ^ (8 * i)
theorem fixP_lt (s : List UInt8) : ∀ i, fixP s i < 2 ^ (8 * i)
  | 0 => by show 0 < 2 ^ 0; decide
  | i + 1 => by
    have h := fixP_lt s i
    have hx : (s.getD i 0).toNat < 256 := (s.getD i 0).toNat_lt
    have hm : (s.getD i 0).toNat * 2 ^ (8 * i) ≤ 255 * 2 ^ (8 * i) := Nat.mul_le_mul_right _ (by omega)
    show fixP s i + (s.getD i 0).toNat * 2 ^ (8 * i) < 2 ^ (8 * (i + 1))
    rw [show 8 * (i + 1) = 8 * i + 8 from by omega, Nat.pow_add]; omega
theorem fixP_four (s : List UInt8) : fixP s 4 = fixN s := by
  simp only [fixP, fixN]; omega
theorem ext_take (s : ByteArray) (j : Nat) (h : j < 4) : (s.extract 0 4).data.toList.getD j 0 = s.data.toList.getD j 0 := by
  rw [ByteArray.data_extract, Array.toList_extract, List.extract_eq_take_drop, List.drop_zero, List.getD, List.getElem?_take, if_pos (by omega)]; rfl

set_option maxHeartbeats 4000000 in
set_option maxRecDepth 100000 in
theorem fix_short (s : ByteArray) (hs : s.size < 4) (w : World) :
    Calls Try.prog 19 #[.string s] w fun e w' => e = .returned (.tuple #[.int .u32 0, .int .i64 10]) ∧ Below w.heap.size w w' := by
  have t1 : decide ((s.size : Int) < 4) = true := decide_eq_true (by omega)
  have t2 : decide (s.size < 4) = true := decide_eq_true (by omega)
  go_enter Try.func19, Try.ntmps19
  go_wp2
  go_ret2
  exact ⟨rfl, Below.refl _ _⟩
set_option maxHeartbeats 4000000 in
set_option maxRecDepth 100000 in
theorem fix_calls (s : ByteArray) (hs : ¬ s.size < 4) (w : World) :
    Calls Try.prog 19 #[.string s] w fun e w' => e = .returned (.tuple #[.int .u32 (fixN s.data.toList), .int .i64 0]) ∧ Below w.heap.size w w' := by
  have t1 : decide ((s.size : Int) < 4) = false := decide_eq_false (by omega)
  have t2 : decide (s.size < 4) = false := decide_eq_false (by omega)
  have hz : (s.extract 0 4).size = 4 := by rw [ByteArray.size_extract]; omega
  have h4 : 4 ≤ s.size := by omega
  obtain ⟨R, hR⟩ : ∃ R, fixN s.data.toList = R := ⟨_, rfl⟩
  rw [hR]
  have HR : Aside0 (fixP s.data.toList 4 = R) := ⟨by rw [fixP_four]; exact hR⟩
  clear hR hs
  go_enter Try.func19, Try.ntmps19
  go_wp2_with (refine wpList_bytes _ rfl 9 36 _ rfl 5 (s.extract 0 4) rfl Try.underlying9 Try.underlying36 Try.underlying5 ?_; intro cap W0 hon hsz hcell hfr; clear hfr)
  have hB0 : Below w.heap.size w W0 := (hon (fun _ => False)).below (Nat.le_refl _) (fun _ _ h => h)
  have HC : Aside0 (∀ j, j < 4 → W0.cell? ⟨w.heap.size, j, none⟩ = some (.int .u8 (s.data.toList.getD j 0).toNat)) := ⟨fun j hj => by rw [← ext_take s j hj]; exact hcell j (by omega)⟩
  clear hon hcell hsz t1 t2
  go_loopw [4, 14] (fun v4 v14 wr => ∃ i : Nat, i ≤ 4 ∧ v4 = .int .u32 (fixP s.data.toList i) ∧ v14 = .int .i64 i ∧ Aside0 (∀ j, j < 4 → wr.cell? ⟨w.heap.size, j, none⟩ = some (.int .u8 (s.data.toList.getD j 0).toNat)) ∧ Below w.heap.size w wr) (fun _ v14 _ => 4 - (intOf v14).toNat)
  case atStart => exact ⟨0, by omega, rfl, rfl, HC, hB0⟩
  case round =>
    clear HC hB0
    obtain ⟨i, hi, rfl, rfl, HC, hbel⟩ := hrel
    by_cases hlt : i < 4
    · have hc := HC.out i hlt
      have hx : (s.data.toList.getD i 0).toNat < 256 := (s.data.toList.getD i 0).toNat_lt
      have hlow := fixP_lt s.data.toList i
      have hnext : Aside0 (fixP s.data.toList (i + 1) = fixP s.data.toList i + (s.data.toList.getD i 0).toNat * 2 ^ (8 * i)) := ⟨rfl⟩
      have hor := or_u32 (8 * i) (by omega) hlow hx
      obtain ⟨x, hxe⟩ : ∃ x, (s.data.toList.getD i 0).toNat = x := ⟨_, rfl⟩
      rw [hxe] at hc hx hnext hor
      obtain ⟨acc, hacc⟩ : ∃ a, fixP s.data.toList i = a := ⟨_, rfl⟩
      rw [hacc] at hnext hor ⊢
      obtain ⟨y, hy⟩ : ∃ y, acc + x * 2 ^ (8 * i) = y := ⟨_, rfl⟩
      rw [hy] at hnext hor
      clear hxe hacc hy hlow HR
      go_wp2
      go_roundw
      case rel => exact ⟨i + 1, by omega, by rw [hnext.out], by go_num, HC, hbel⟩
      case measure => simp [intOf]; omega
    · obtain rfl : i = 4 := by omega
      have hv : Aside0 (Value.int .u32 (fixP s.data.toList 4 : Int) = .int .u32 R) := ⟨by rw [HR.out]⟩
      rw [hv.out]
      clear HC HR
      go_wp2
      go_ret2
      exact ⟨rfl, hbel⟩
end Go.Proofs.Ytnhpjdefnefmmaa.CodeF

namespace Go.Proofs.Ytnhpjdefnefmmaa.Given
open Go Go.RowKit Go.Proofs.Ytnhpjdefnefmmaa.CodeF
def code_Fix.f (s : ByteArray) : Option (Int × Int) := if s.size < 4 then some (0, 10) else some ((fixN s.data.toList : Int), 0)
theorem code_Fix.calls (s : ByteArray) (r1 r2 : Int) (w : World) (h : code_Fix.f s = some (r1, r2)) :
    Calls Try.prog 19 #[.string s] w fun e w' => e = .returned (.tuple #[.int .u32 r1, .int .i64 r2]) ∧ Below w.heap.size w w' := by
  unfold code_Fix.f at h
  split at h
  · rename_i hc; cases h; exact fix_short s hc w
  · rename_i hc; cases h; exact fix_calls s hc w
end Go.Proofs.Ytnhpjdefnefmmaa.Given
