/- CrcBursts: in a text of 4 to 200 bytes bits that are flipped within 32 in a row, not none, change the sum. -/
import Derived.Test.YtieklgflkjgijaaQx1
import Derived.Test.YtieklgflkjgijaaBurst
import Derived.Laws.BytesArg
namespace Go.Proofs.Ytieklgflkjgijaa.Q
open Go Go.RowKit Go.Proofs.Ytieklgflkjgijaa.CrcW Go.Proofs.Ytieklgflkjgijaa.CrcM Go.Proofs.Ytieklgflkjgijaa.Seq Go.Proofs.Ytieklgflkjgijaa.Burst Go.Proofs.YtieklgflkjgijaaW.PrintWords Go.Proofs.YtieklgflkjgijaaW.PrintLast Go.Proofs.YtieklgflkjgijaaW.PrintMore

theorem bursts_known (w : World) : Calls Try.prog 8 #[] w fun e w' => e = .returned (.bool true) ∧ Below w.heap.size w w' := by
  refine ladelaw2_known.calls true w ?_
  unfold ladelaw2_known.f crc_Of.f
  rw [known1]; simp only [bs]; rw [it, known2]; simp only [bs]; rfl
theorem bursts_of (b : ByteArray) (h : b.size ≤ 140737488351232) (w : World) : Calls Try.prog 9 #[.string b] w fun e w' => e = .returned (.int .u32 (uv (more 0#32 b.data.toList))) ∧ Below w.heap.size w w' := by
  refine crc_Of.calls b _ w ?_
  unfold crc_Of.f
  rw [Of_f _ h]; simp only [bs]

theorem and_one_u32 {a : Nat} (h : a < 2 ^ 32) : Go.bits .and .u32 (a : Int) 1 = ((a % 2 : Nat) : Int) := by
  have := bits_mask .u32 32 (by decide) (fun n h0 h1 => by rw [IntKind.wrap_u32]; omega) 1 (by omega) (a : Int) (by omega) (by exact_mod_cast h)
  simpa using this
theorem bit_val {F i : Nat} (h : F < 2 ^ 32) : Go.bits .and .u32 ((F : Int) / 2 ^ i) 1 = ((F / 2 ^ i % 2 : Nat) : Int) := by
  rw [← and_one_u32 (Nat.lt_of_le_of_lt (Nat.div_le_self _ _) h)]
  rw [Int.natCast_ediv, Int.natCast_pow]; rfl
theorem bit_yes {F i : Nat} (h : F < 2 ^ 32) (ht : (Go.bits .and .u32 ((F : Int) / 2 ^ i) 1 == 1) = true) : F / 2 ^ i % 2 = 1 := by
  rw [bit_val h, beq_iff_eq] at ht; omega
theorem bit_no {F i : Nat} (h : F < 2 ^ 32) (ht : (Go.bits .and .u32 ((F : Int) / 2 ^ i) 1 == 1) = false) : F / 2 ^ i % 2 = 0 := by
  rw [bit_val h, beq_eq_false_iff_ne] at ht; omega
theorem cell_turn {W : World} {B j k n : Nat} {v u : Value} {g : Nat → Value} (hj : j < n) (hc : W.cell? ⟨B, k, none⟩ = some u) (h : ∀ j, j < n → W.cell? ⟨B, j, none⟩ = some (g j)) :
    (W.setCell ⟨B, k, none⟩ v).cell? ⟨B, j, none⟩ = some (if j = k then v else g j) := by
  split
  · rename_i e; subst e
    exact World.cell?_setCell_same' _ _ _ (by rw [hc]; rfl)
  · rename_i e
    rw [World.cell?_setCell_other W ⟨B, k, none⟩ ⟨B, j, none⟩ v (fun x => e (by cases x; rfl))]
    exact h j hj

theorem turn_eq {g : Nat → UInt8} {j k : Nat} {x y : UInt8} (h : g k = x) : some (if j = k then Value.int .u8 ((x ^^^ y).toNat : Int) else Value.int .u8 ((g j).toNat : Int)) = some (Value.int .u8 ((if j = k then g j ^^^ y else g j).toNat : Int)) := by
  split
  · rename_i e; rw [e, h]
  · rfl
set_option maxHeartbeats 4000000 in
set_option maxRecDepth 100000 in
theorem bursts_main (b : ByteArray) (at_ : Int) (f : Int) (w : World) (h4 : 4 ≤ b.size) (h200 : b.size ≤ 200) (ha : 0 ≤ at_ ∧ at_ < 65536) (hf : 0 ≤ f ∧ f < 4294967296) (h0 : ¬ f = 0) :
    Calls Try.prog 5 #[.string b, .int .u16 at_, .int .u32 f] w fun e w' => e = .returned (.bool true) ∧ Below w.heap.size w w' := by
  obtain ⟨g1, g2⟩ := ha
  obtain ⟨g3, g4⟩ := hf
  have t1 : decide ((b.size : Int) < 4) = false := decide_eq_false (by omega)
  have t2 : decide ((200 : Int) < (b.size : Int)) = false := decide_eq_false (by omega)
  have t3 : (f == 0) = false := beq_eq_false_iff_ne.2 h0
  have t1n : decide (b.size < 4) = false := decide_eq_false (by omega)
  have t2n : decide (200 < b.size) = false := decide_eq_false (by omega)
  go_enter Try.func5, Try.ntmps5
  go_wp2_with (first | (go_at_call 8; refine (bursts_known _).mono ?_; rintro e w1 ⟨rfl, hb1⟩) | (refine wpList_bytes _ rfl 9 29 _ rfl 5 b rfl Try.underlying9 Try.underlying29 Try.underlying5 ?_; intro cap W0 hon hsz hcell hfr))
  have hL : (b.data.toList).length = b.size := by simp
  obtain ⟨fr, hfr0⟩ : ∃ fr : Nat, at_ % (8 * (b.size : Int) - 31) = fr := ⟨(at_ % (8 * (b.size : Int) - 31)).toNat, by have := Int.emod_nonneg at_ (show 8 * (b.size : Int) - 31 ≠ 0 by omega); omega⟩
  have hfr1 : fr + 32 ≤ 8 * b.size := by have := Int.emod_lt_of_pos at_ (show 0 < 8 * (b.size : Int) - 31 by omega); omega
  rw [hfr0]
  clear hfr0
  obtain ⟨F, rfl⟩ := Int.eq_ofNat_of_zero_le g3
  have hF0 : F ≠ 0 := by omega
  have hF : Aside0 (F < 2 ^ 32) := ⟨by omega⟩
  clear g3 g4 h0
  have hbel : Below w.heap.size w W0 := hb1.trans ((hon (fun _ => False)).below hb1.size (fun _ _ h => h))
  have hcell0 : ∀ j, j < b.size → W0.cell? ⟨w1.heap.size, j, none⟩ = some (.int .u8 (flipped b.data.toList fr F 0 j).toNat) := fun j hj => by rw [flipped_zero]; exact hcell j hj
  have hsz1 := hb1.size
  obtain ⟨B, hB⟩ : ∃ B, w1.heap.size = B := ⟨_, rfl⟩
  rw [hB] at hcell0 hfr hsz1 hsz ⊢
  clear hon hcell t1 t2 t3 t1n t2n hB hb1
  go_loopw [9] (fun v9 wr => ∃ i : Nat, i ≤ 32 ∧ v9 = .int .i64 i ∧ Aside0 (∀ j, j < b.size → wr.cell? ⟨B, j, none⟩ = some (.int .u8 (flipped b.data.toList fr F i j).toNat)) ∧ Aside0 (∀ j, j < b.size → wr.frozen? ⟨B, j, none⟩ = false) ∧ Below w.heap.size w wr) (fun v9 _ => 32 - (intOf v9).toNat)
  case atStart => exact ⟨0, by omega, rfl, ⟨hcell0⟩, ⟨hfr⟩, hbel⟩
  case round =>
    clear hcell0 hfr hbel
    obtain ⟨i, hi, rfl, HC, HF, hbel⟩ := hrel
    by_cases hlt : i < 32
    · have hj : (fr + i) / 8 < b.size := by omega
      have hc := HC.out _ hj
      have hz := HF.out _ hj
      obtain ⟨x, hx⟩ : ∃ x, flipped b.data.toList fr F i ((fr + i) / 8) = x := ⟨_, rfl⟩
      rw [hx] at hc
      have HX := Aside0.mk hx
      clear hx
      go_wp2
      · rename_i ht
        have hb := bit_yes hF.out ht
        go_roundw
        case rel => exact ⟨i + 1, by omega, by go_num, ⟨fun j hj => by rw [cell_turn hj hc HC.out, flipped_yes hb (by rw [hL]; exact hj), shl_u8, xor_u8]; exact turn_eq HX.out⟩, ⟨fun j hj => by rw [World.frozen?_setCell]; exact HF.out j hj⟩, hbel.setCell (p := ⟨B, (fr + i) / 8, none⟩) (by simp; omega) _⟩
        case measure => simp [intOf]; omega
      · rename_i ht
        have hb := bit_no hF.out ht
        go_roundw
        case rel => exact ⟨i + 1, by omega, by go_num, ⟨fun j hj => by rw [flipped_no hb]; exact HC.out j hj⟩, HF, hbel⟩
        case measure => simp [intOf]; omega
    · obtain rfl : i = 32 := by omega
      have hfl : (strOfNums ((List.range b.size).map fun j => ((flipped b.data.toList fr F 32 j).toNat : Int))).data.toList = xorL b.data.toList (ebytes fr F b.size) := by
        rw [strOfNums_data, List.map_map, ← hL, ← flipped_all _ _ _ hF.out (by omega)]
        apply List.map_congr_left
        intro j _
        simp
      have hne : more 0#32 (xorL b.data.toList (ebytes fr F b.size)) ≠ more 0#32 b.data.toList := by
        rw [← hL]; exact more_burst 0#32 b.data.toList fr F hF0 hF.out (by omega)
      have hcv : (convert 29 9 (.slice (some ⟨B, 0, none⟩) b.size cap)).run Try.prog wr = .ok (.string (strOfNums ((List.range b.size).map fun j => ((flipped b.data.toList fr F 32 j).toNat : Int)))) wr :=
        run_convert_bytes_arg (P := Try.prog) wr 29 5 Try.underlying29 Try.underlying5 B 0 b.size cap _ (by simp) (fun i hi => by rw [Nat.zero_add, HC.out i hi]; simp [List.getD, hi]) 9 Try.underlying9
      have hsz2 : (strOfNums ((List.range b.size).map fun j => ((flipped b.data.toList fr F 32 j).toNat : Int))).size ≤ 140737488351232 := by rw [strOfNums_size]; simp; omega
      generalize strOfNums ((List.range b.size).map fun j => ((flipped b.data.toList fr F 32 j).toNat : Int)) = t at hfl hcv hsz2
      have hsz3 : Aside0 (t.size ≤ 140737488351232) := ⟨hsz2⟩
      have hsz4 : Aside0 (b.size ≤ 140737488351232) := ⟨by omega⟩
      rw [← hfl] at hne
      have hneB : (uv (more 0#32 t.data.toList) != uv (more 0#32 b.data.toList)) = true := bne_iff_ne.2 (fun e => hne (uv_inj.1 e))
      clear hfl hsz2 hne HC HF hF hL
      go_wp2_with (first | (go_at_call 9; refine (bursts_of t hsz3.out _).mono ?_; rintro e w3 ⟨rfl, hb3⟩) | (go_at_call 9; refine (bursts_of b hsz4.out _).mono ?_; rintro e w4 ⟨rfl, hb4⟩))
      go_ret
      exact ⟨rfl, (hbel.trans (hb3.mono hbel.size)).trans (hb4.mono (Nat.le_trans hbel.size hb3.size))⟩

set_option maxHeartbeats 4000000 in
set_option maxRecDepth 100000 in
theorem bursts_else (b : ByteArray) (at_ : Int) (f : Int) (w : World) (hb : b.size ≤ 140737488351232) (h : b.size < 4 ∨ 200 < b.size ∨ f = 0) :
    Calls Try.prog 5 #[.string b, .int .u16 at_, .int .u32 f] w fun e w' => e = .returned (.bool true) ∧ Below w.heap.size w w' := by
  by_cases h1 : b.size < 4
  · have t1 : decide ((b.size : Int) < 4) = true := decide_eq_true (by omega)
    have t1n : decide (b.size < 4) = true := decide_eq_true (by omega)
    clear h hb
    go_enter Try.func5, Try.ntmps5
    go_wp2_with (go_at_call 8; refine (bursts_known _).mono ?_; rintro e w1 ⟨rfl, hb1⟩)
    go_ret
    exact ⟨rfl, hb1⟩
  · have t1 : decide ((b.size : Int) < 4) = false := decide_eq_false (by omega)
    have t1n : decide (b.size < 4) = false := decide_eq_false (by omega)
    by_cases h2 : 200 < b.size
    · have t2 : decide ((200 : Int) < (b.size : Int)) = true := decide_eq_true (by omega)
      have t2n : decide (200 < b.size) = true := decide_eq_true (by omega)
      clear h hb h1
      go_enter Try.func5, Try.ntmps5
      go_wp2_with (go_at_call 8; refine (bursts_known _).mono ?_; rintro e w1 ⟨rfl, hb1⟩)
      go_ret
      exact ⟨rfl, hb1⟩
    · have t2 : decide ((200 : Int) < (b.size : Int)) = false := decide_eq_false (by omega)
      have t2n : decide (200 < b.size) = false := decide_eq_false (by omega)
      obtain rfl : f = 0 := by omega
      clear h hb h1 h2
      go_enter Try.func5, Try.ntmps5
      go_wp2_with (go_at_call 8; refine (bursts_known _).mono ?_; rintro e w1 ⟨rfl, hb1⟩)
      go_ret
      exact ⟨rfl, hb1⟩

theorem ladelaw2_CrcBursts.walk (_ : True) (a0 : ByteArray) (a1 a2 : Int) (w : World) (w0 : a0.size ≤ 140737488351232) (w1 : (Lit.int .u16 a1).wf = true) (w2 : (Lit.int .u32 a2).wf = true) :
    Calls Try.prog 5 #[.string a0, .int .u16 a1, .int .u32 a2] w fun e w' => e = .returned (.bool true) ∧ Below w.heap.size w w' := by
  have hu := wf_u32 w2
  have ha : 0 ≤ a1 ∧ a1 < 65536 := by simp [Lit.wf, IntKind.min, IntKind.max, IntKind.bits, IntKind.signed] at w1; omega
  by_cases h : a0.size < 4 ∨ 200 < a0.size ∨ a2 = 0
  · exact bursts_else a0 a1 a2 w w0 h
  · exact bursts_main a0 a1 a2 w (by omega) (by omega) ha hu (by omega)
end Go.Proofs.Ytieklgflkjgijaa.Q
namespace Go.Proofs.Ytieklgflkjgijaa.Pure
theorem CrcBursts : True := trivial
end Go.Proofs.Ytieklgflkjgijaa.Pure
