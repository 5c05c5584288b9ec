/- FrameBursts: whatever bits are flipped within 32 in a row, a frame is no longer whole, whatever stands behind it. -/
import Derived.Test.YtnhpjdefnefmmaaQx1
import Derived.Test.YtnhpjdefnefmmaaFrameBurst
import Derived.Laws.BytesArg
namespace Go.Proofs.Ytnhpjdefnefmmaa.Q
open Go Go.RowKit Go.Proofs.Ytnhpjdefnefmmaa.CrcW Go.Proofs.Ytnhpjdefnefmmaa.CrcM Go.Proofs.Ytnhpjdefnefmmaa.Seq Go.Proofs.Ytnhpjdefnefmmaa.Burst Go.Proofs.Ytnhpjdefnefmmaa.FixQ Go.Proofs.Ytnhpjdefnefmmaa.FrameW Go.Proofs.Ytnhpjdefnefmmaa.FrameM Go.Proofs.Ytnhpjdefnefmmaa.FrameBurst Go.Proofs.YtnhpjdefnefmmaaW.PrintWords Go.Proofs.YtnhpjdefnefmmaaW.PrintLast Go.Proofs.YtnhpjdefnefmmaaW.PrintMore

theorem fb_known (w : World) : Calls Try.prog 9 #[] w fun e w' => e = .returned (.bool true) ∧ Below w.heap.size w w' := ladelaw3_known.calls 5 true w (known_q 0)
theorem fb_wrap (b s : ByteArray) (h0 : b.size ≠ 0) (h : b.size ≤ 2000) (hs : wrapS b = s) (w : World) : Calls Try.prog 10 #[.string b] w fun e w' => e = .returned (.tuple #[.string s, .int .i64 0]) ∧ Below w.heap.size w w' := by
  refine frame_Wrap.calls 5 b s 0 w ?_
  rw [show 5 = 0 + 5 from rfl, Wrap_q b (by omega), if_neg h0, if_neg (by omega), hs]
theorem fb_read (t : ByteArray) (h : t.size ≤ 140737488351232) (hr : readN t = (⟨#[]⟩, 0, 4)) (w : World) : Calls Try.prog 12 #[.string t] w fun e w' => e = .returned (.tuple #[.string ⟨#[]⟩, .int .i64 0, .int .i64 4]) ∧ Below w.heap.size w w' := by
  have := read_calls t h w
  rw [hr] at this
  exact this
theorem and_one_u32 {a : Nat} (h : a < 2 ^ 32) : Go.bits .and .u32 (a : Int) 1 = ((a % 2 : Nat) : Int) := by
  have := bits_mask .u32 32 (by decide) (fun n h0 h1 => by rw [IntKind.wrap_u32]; omega) 1 (by omega) (a : Int) (by omega) (by exact_mod_cast h)
  simpa using this
theorem bit_val {F i : Nat} (h : F < 2 ^ 32) : Go.bits .and .u32 ((F : Int) / 2 ^ i) 1 = ((F / 2 ^ i % 2 : Nat) : Int) := by
  rw [← and_one_u32 (Nat.lt_of_le_of_lt (Nat.div_le_self _ _) h)]
  rw [Int.natCast_ediv, Int.natCast_pow]; rfl
theorem bit_yes {F i : Nat} (h : F < 2 ^ 32) (ht : (Go.bits .and .u32 ((F : Int) / 2 ^ i) 1 == 1) = true) : F / 2 ^ i % 2 = 1 := by
  rw [bit_val h, beq_iff_eq] at ht; omega
theorem bit_no {F i : Nat} (h : F < 2 ^ 32) (ht : (Go.bits .and .u32 ((F : Int) / 2 ^ i) 1 == 1) = false) : F / 2 ^ i % 2 = 0 := by
  rw [bit_val h, beq_eq_false_iff_ne] at ht; omega
theorem cell_turn {W : World} {B j k n : Nat} {v u : Value} {g : Nat → Value} (hj : j < n) (hc : W.cell? ⟨B, k, none⟩ = some u) (h : ∀ j, j < n → W.cell? ⟨B, j, none⟩ = some (g j)) :
    (W.setCell ⟨B, k, none⟩ v).cell? ⟨B, j, none⟩ = some (if j = k then v else g j) := by
  split
  · rename_i e; subst e
    exact World.cell?_setCell_same' _ _ _ (by rw [hc]; rfl)
  · rename_i e
    rw [World.cell?_setCell_other W ⟨B, k, none⟩ ⟨B, j, none⟩ v (fun x => e (by cases x; rfl))]
    exact h j hj

theorem turn_eq {g : Nat → UInt8} {j k : Nat} {x y : UInt8} (h : g k = x) : some (if j = k then Value.int .u8 ((x ^^^ y).toNat : Int) else Value.int .u8 ((g j).toNat : Int)) = some (Value.int .u8 ((if j = k then g j ^^^ y else g j).toNat : Int)) := by
  split
  · rename_i e; rw [e, h]
  · rfl
set_option maxHeartbeats 4000000 in
set_option maxRecDepth 100000 in
theorem fb_main (b tail : ByteArray) (at_ : Int) (f : Int) (w : World) (h4 : 1 ≤ b.size) (h200 : b.size ≤ 300) (htl : tail.size ≤ 400) (ha : 0 ≤ at_ ∧ at_ < 65536) (hf : 0 ≤ f ∧ f < 4294967296) (h0 : ¬ f = 0) :
    Calls Try.prog 5 #[.string b, .string tail, .int .u16 at_, .int .u32 f] w fun e w' => e = .returned (.bool true) ∧ Below w.heap.size w w' := by
  obtain ⟨g1, g2⟩ := ha
  obtain ⟨g3, g4⟩ := hf
  have t1 : decide ((b.size : Int) < 1) = false := decide_eq_false (by omega)
  have t2 : decide ((300 : Int) < (b.size : Int)) = false := decide_eq_false (by omega)
  have t4 : decide ((400 : Int) < (tail.size : Int)) = false := decide_eq_false (by omega)
  have t3 : (f == 0) = false := beq_eq_false_iff_ne.2 h0
  have t1n : decide (b.size < 1) = false := decide_eq_false (by omega)
  have t2n : decide (300 < b.size) = false := decide_eq_false (by omega)
  have t4n : decide (400 < tail.size) = false := decide_eq_false (by omega)
  obtain ⟨s, hs⟩ : ∃ s, wrapS b = s := ⟨_, rfl⟩
  have hss := wrapS_size b
  rw [hs] at hss
  have HS := Aside0.mk hs
  have HSS := Aside0.mk hss
  have H1 := Aside0.mk h4
  have H2 := Aside0.mk h200
  have H3 := Aside0.mk htl
  have s13 : 13 ≤ s.size := by omega
  have s312 : s.size ≤ 312 := by omega
  have u1 : ((s.size : Int) != (b.size : Int) + 12) = false := bne_eq_false_iff_eq.2 (by omega)
  have u2 : ((s.size : Int) == (b.size : Int) + 12) = true := beq_iff_eq.2 (by omega)
  have u3 : wrap64 ((b.size : Int) + 12) = (b.size : Int) + 12 := by unfold wrap64; omega
  have u4 : IntKind.i64.wrap ((b.size : Int) + 12) = (b.size : Int) + 12 := by rw [IntKind.wrap_i64]; omega
  clear hs hss h4 h200 htl
  go_enter Try.func5, Try.ntmps5
  go_wp2_with (first | (go_at_call 9; refine (fb_known _).mono ?_; rintro e w1 ⟨rfl, hb1⟩) | (go_at_call 10; refine (fb_wrap b s (by have := H1.out; omega) (by have := H2.out; omega) HS.out _).mono ?_; rintro e w2 ⟨rfl, hb2⟩) | (refine wpList_bytes _ rfl 9 36 _ rfl 5 s rfl Try.underlying9 Try.underlying36 Try.underlying5 ?_; intro cap W0 hon hsz hcell hfr))
  have hL : s.data.toList.length = s.size := by simp
  obtain ⟨fr, hfr0⟩ : ∃ fr : Nat, at_ % (8 * (s.size : Int) - 31) = fr := ⟨(at_ % (8 * (s.size : Int) - 31)).toNat, by have := Int.emod_nonneg at_ (show 8 * (s.size : Int) - 31 ≠ 0 by omega); omega⟩
  have hfr1 : fr + 32 ≤ 8 * s.size := by have := Int.emod_lt_of_pos at_ (show 0 < 8 * (s.size : Int) - 31 by omega); omega
  rw [hfr0]
  clear hfr0
  obtain ⟨F, rfl⟩ := Int.eq_ofNat_of_zero_le g3
  have hF0 : F ≠ 0 := by omega
  have hF : Aside0 (F < 2 ^ 32) := ⟨by omega⟩
  clear g3 g4 h0
  have hbel : Below w.heap.size w W0 := (hb1.next hb2).trans ((hon (fun _ => False)).below (Nat.le_trans hb1.size hb2.size) (fun _ _ h => h))
  have hcell0 : ∀ j, j < s.size → W0.cell? ⟨w2.heap.size, j, none⟩ = some (.int .u8 (flipped s.data.toList fr F 0 j).toNat) := fun j hj => by rw [flipped_zero]; exact hcell j hj
  have hsz1 := Nat.le_trans hb1.size hb2.size
  obtain ⟨B, hB⟩ : ∃ B, w2.heap.size = B := ⟨_, rfl⟩
  rw [hB] at hcell0 hfr hsz1 hsz ⊢
  clear hon hcell t1 t2 t3 t4 t1n t2n t4n u1 u2 u3 u4 hB hb1 hb2
  go_loopw [13] (fun v9 wr => ∃ i : Nat, i ≤ 32 ∧ v9 = .int .i64 i ∧ Aside0 (∀ j, j < s.size → wr.cell? ⟨B, j, none⟩ = some (.int .u8 (flipped s.data.toList fr F i j).toNat)) ∧ Aside0 (∀ j, j < s.size → wr.frozen? ⟨B, j, none⟩ = false) ∧ Below w.heap.size w wr) (fun v9 _ => 32 - (intOf v9).toNat)
  case atStart => exact ⟨0, by omega, rfl, ⟨hcell0⟩, ⟨hfr⟩, hbel⟩
  case round =>
    clear hcell0 hfr hbel
    obtain ⟨i, hi, rfl, HC, HF, hbel⟩ := hrel
    by_cases hlt : i < 32
    · have hj : (fr + i) / 8 < s.size := by omega
      have hc := HC.out _ hj
      have hz := HF.out _ hj
      obtain ⟨x, hx⟩ : ∃ x, flipped s.data.toList fr F i ((fr + i) / 8) = x := ⟨_, rfl⟩
      rw [hx] at hc
      have HX := Aside0.mk hx
      clear hx
      go_wp2
      · rename_i ht
        have hb := bit_yes hF.out ht
        go_roundw
        case rel => exact ⟨i + 1, by omega, by go_num, ⟨fun j hj => by rw [cell_turn hj hc HC.out, flipped_yes hb (by rw [hL]; exact hj), shl_u8, xor_u8]; exact turn_eq HX.out⟩, ⟨fun j hj => by rw [World.frozen?_setCell]; exact HF.out j hj⟩, hbel.setCell (p := ⟨B, (fr + i) / 8, none⟩) (by simp; omega) _⟩
        case measure => simp [intOf]; omega
      · rename_i ht
        have hb := bit_no hF.out ht
        go_roundw
        case rel => exact ⟨i + 1, by omega, by go_num, ⟨fun j hj => by rw [flipped_no hb]; exact HC.out j hj⟩, HF, hbel⟩
        case measure => simp [intOf]; omega
    · obtain rfl : i = 32 := by omega
      have hfl : (strOfNums ((List.range s.size).map fun j => ((flipped s.data.toList fr F 32 j).toNat : Int))).data.toList = xorL s.data.toList (ebytes fr F s.size) := by
        rw [strOfNums_data, List.map_map, ← hL, ← flipped_all _ _ _ hF.out (by omega)]
        apply List.map_congr_left
        intro j _
        simp
      have hcv : (convert 36 9 (.slice (some ⟨B, 0, none⟩) s.size cap)).run Try.prog wr = .ok (.string (strOfNums ((List.range s.size).map fun j => ((flipped s.data.toList fr F 32 j).toNat : Int)))) wr :=
        run_convert_bytes_arg (P := Try.prog) wr 36 5 Try.underlying36 Try.underlying5 B 0 s.size cap _ (by simp) (fun i hi => by rw [Nat.zero_add, HC.out i hi]; simp [List.getD, hi]) 9 Try.underlying9
      have hsz2 : (strOfNums ((List.range s.size).map fun j => ((flipped s.data.toList fr F 32 j).toNat : Int))).size = s.size := by rw [strOfNums_size]; simp
      generalize strOfNums ((List.range s.size).map fun j => ((flipped s.data.toList fr F 32 j).toNat : Int)) = t at hfl hcv hsz2
      have hbad : readN (t ++ tail) = (⟨#[]⟩, 0, 4) := by
        have hz := HSS.out
        refine burst_bad b tail t (by have := H1.out; omega) (by have := H2.out; omega) fr F hF0 (by have := hF.out; omega) (by omega) ?_
        rw [HS.out, hfl, hz]
      have hj1 : (9223372036854775807 < t.size + tail.size) = False := eq_false (by have := H3.out; omega)
      have HB := Aside0.mk hbad
      have hsz3 : Aside0 ((t ++ tail).size ≤ 140737488351232) := ⟨by rw [app_size]; have := H3.out; omega⟩
      clear hfl hsz2 hbad HC HF hF hL
      go_wp2_with (go_at_call 12; refine (fb_read (t ++ tail) hsz3.out HB.out _).mono ?_; rintro e w3 ⟨rfl, hb3⟩)
      go_ret
      exact ⟨rfl, hbel.trans (hb3.mono hbel.size)⟩

set_option maxHeartbeats 4000000 in
set_option maxRecDepth 100000 in
theorem fb_else (b tail : ByteArray) (at_ : Int) (f : Int) (w : World) (h : b.size < 1 ∨ 300 < b.size ∨ 400 < tail.size ∨ f = 0) :
    Calls Try.prog 5 #[.string b, .string tail, .int .u16 at_, .int .u32 f] w fun e w' => e = .returned (.bool true) ∧ Below w.heap.size w w' := by
  by_cases h1 : b.size < 1
  · have t1 : decide ((b.size : Int) < 1) = true := decide_eq_true (by omega)
    have t1n : decide (b.size < 1) = true := decide_eq_true (by omega)
    clear h h1
    go_enter Try.func5, Try.ntmps5
    go_wp2_with (go_at_call 9; refine (fb_known _).mono ?_; rintro e w1 ⟨rfl, hb1⟩)
    all_goals
      go_ret
      exact ⟨rfl, hb1⟩
  · have t1 : decide ((b.size : Int) < 1) = false := decide_eq_false (by omega)
    have t1n : decide (b.size < 1) = false := decide_eq_false (by omega)
    by_cases h2 : 300 < b.size
    · have t2 : decide ((300 : Int) < (b.size : Int)) = true := decide_eq_true (by omega)
      have t2n : decide (300 < b.size) = true := decide_eq_true (by omega)
      clear h h1 h2
      go_enter Try.func5, Try.ntmps5
      go_wp2_with (go_at_call 9; refine (fb_known _).mono ?_; rintro e w1 ⟨rfl, hb1⟩)
      all_goals
        go_ret
        exact ⟨rfl, hb1⟩
    · have t2 : decide ((300 : Int) < (b.size : Int)) = false := decide_eq_false (by omega)
      have t2n : decide (300 < b.size) = false := decide_eq_false (by omega)
      by_cases h3 : 400 < tail.size
      · have t3 : decide ((400 : Int) < (tail.size : Int)) = true := decide_eq_true (by omega)
        have t3n : decide (400 < tail.size) = true := decide_eq_true (by omega)
        clear h h1 h2 h3
        go_enter Try.func5, Try.ntmps5
        go_wp2_with (go_at_call 9; refine (fb_known _).mono ?_; rintro e w1 ⟨rfl, hb1⟩)
        all_goals
          go_ret
          exact ⟨rfl, hb1⟩
      · have t3 : decide ((400 : Int) < (tail.size : Int)) = false := decide_eq_false (by omega)
        have t3n : decide (400 < tail.size) = false := decide_eq_false (by omega)
        obtain rfl : f = 0 := by omega
        clear h h1 h2 h3
        go_enter Try.func5, Try.ntmps5
        go_wp2_with (go_at_call 9; refine (fb_known _).mono ?_; rintro e w1 ⟨rfl, hb1⟩)
        all_goals
          go_ret
          exact ⟨rfl, hb1⟩

theorem ladelaw3_FrameBursts.walk (_ : True) (a0 a1 : ByteArray) (a2 a3 : Int) (w : World) (_ : a0.size ≤ 140737488351232) (_ : a1.size ≤ 140737488351232) (w2 : (Lit.int .u16 a2).wf = true) (w3 : (Lit.int .u32 a3).wf = true) :
    Calls Try.prog 5 #[.string a0, .string a1, .int .u16 a2, .int .u32 a3] w fun e w' => e = .returned (.bool true) ∧ Below w.heap.size w w' := by
  have hu := wf_u32 w3
  have ha : 0 ≤ a2 ∧ a2 < 65536 := by simp [Lit.wf, IntKind.min, IntKind.max, IntKind.bits, IntKind.signed] at w2; omega
  by_cases h : a0.size < 1 ∨ 300 < a0.size ∨ 400 < a1.size ∨ a3 = 0
  · exact fb_else a0 a1 a2 a3 w h
  · exact fb_main a0 a1 a2 a3 w (by omega) (by omega) (by omega) ha hu (by omega)
end Go.Proofs.Ytnhpjdefnefmmaa.Q
namespace Go.Proofs.Ytnhpjdefnefmmaa.Pure
theorem FrameBursts : True := trivial
end Go.Proofs.Ytnhpjdefnefmmaa.Pure
