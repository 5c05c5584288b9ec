/- The walk of frame.Read. -/
import Derived.Test.YtnhpjdefnefmmaaFixQ
import Derived.WalkMore
import Derived.Deep.RegionWith
namespace Go.Proofs.Ytnhpjdefnefmmaa.FrameW
open Go Go.RowKit Go.Shelf Go.Proofs.Ytnhpjdefnefmmaa.Seq Go.Proofs.Ytnhpjdefnefmmaa.CodeF Go.Proofs.Ytnhpjdefnefmmaa.CrcW Go.Proofs.Ytnhpjdefnefmmaa.CrcM Go.Proofs.Ytnhpjdefnefmmaa.FixQ Go.Proofs.YtnhpjdefnefmmaaW.PrintWords Go.Proofs.YtnhpjdefnefmmaaW.PrintLast Go.Proofs.YtnhpjdefnefmmaaW.PrintMore
attribute [local go_sem] Oper.semAt_some
attribute [local go_sem high] Given.unary_xor_u32
theorem nil_list (s : ByteArray) : s.toList = ([] : List UInt8) ↔ s.size = 0 := by
  rw [ByteArray.toList_eq]
  constructor
  · intro e; have := congrArg List.length e; simpa using this
  · intro e
    apply List.eq_nil_of_length_eq_zero
    simpa using e

set_option maxHeartbeats 4000000 in
set_option maxRecDepth 100000 in
theorem read_end (s : ByteArray) (h0 : s.size = 0) (w : World) :
    Calls Try.prog 12 #[.string s] w fun e w' => e = .returned (.tuple #[.string ⟨#[]⟩, .int .i64 0, .int .i64 2]) ∧ Below w.heap.size w w' := by
  have t0 : (s.toList == ([] : List UInt8)) = true := beq_iff_eq.2 ((nil_list s).2 h0)
  go_enter Try.func12, Try.ntmps12
  go_wp2
  go_step3
  go_wp2
  try rw [Exit.noGoto_ret]
  go_ret3
  exact ⟨rfl, Below.refl _ _⟩


theorem of_calls (b : ByteArray) (h : b.size ≤ 140737488351232) (w : World) : Calls Try.prog 17 #[.string b] w fun e w' => e = .returned (.int .u32 (uv (more 0#32 b.data.toList))) ∧ Below w.heap.size w w' := by
  refine A.crc_Of.calls b _ w ?_
  unfold A.crc_Of.f
  rw [Of_f _ h, bs]
theorem size_calls (n : Nat) (h : n ≤ 1000000) (w : World) : Calls Try.prog 14 #[.int .i64 n] w fun e w' => e = .returned (.int .i64 ((n + 12 : Nat) : Int)) ∧ Below w.heap.size w w' := by
  refine (A.frame_Size.calls n _ w (by unfold A.frame_Size.f; rw [show wrap64 ((n : Int) + 12) = ((n + 12 : Nat) : Int) from by unfold wrap64; omega])).mono ?_
  rintro e w' ⟨rfl, hd⟩
  exact ⟨rfl, hd.below⟩
theorem fixed_calls (n : Int) (w : World) : Calls Try.prog 16 #[.int .u32 n] w fun e w' => e = .returned (.string (fixS n)) ∧ Below w.heap.size w w' :=
  A.code_Fixed.calls 5 n _ w (Fixed_f n 0)

theorem of_at (b : ByteArray) (h : b.size ≤ 140737488351232) {x : Int} (hx : uv (more 0#32 b.data.toList) = x) (w : World) : Calls Try.prog 17 #[.string b] w fun e w' => e = .returned (.int .u32 x) ∧ Below w.heap.size w w' := by
  rw [← hx]; exact of_calls b h w
theorem fixed_at (n : Int) {f : ByteArray} (hf : fixS n = f) (w : World) : Calls Try.prog 16 #[.int .u32 n] w fun e w' => e = .returned (.string f) ∧ Below w.heap.size w w' := by
  rw [← hf]; exact fixed_calls n w
/-- what the frame at the beginning holds, how many bytes it is, its class -/
def readN (s : ByteArray) : ByteArray × Nat × Nat :=
  if s.size = 0 then (⟨#[]⟩, 0, 2) else if s.size < 8 then (⟨#[]⟩, 0, 3)
  else if ¬ (fixN s.data.toList : Int) = 4294967295 - fixN (s.data.toList.drop 4) ∨ fixN s.data.toList = 0 ∨ 2000 < fixN s.data.toList then (⟨#[]⟩, 0, 4)
  else if s.size < fixN s.data.toList + 12 then (⟨#[]⟩, 0, 3)
  else if s.extract (8 + fixN s.data.toList) (fixN s.data.toList + 12) = fixS (uv (more 0#32 (s.extract 8 (8 + fixN s.data.toList)).data.toList)) then (s.extract 8 (8 + fixN s.data.toList), fixN s.data.toList + 12, 1)
  else (⟨#[]⟩, 0, 4)
theorem tuple3 {a : ByteArray} {b c : Int} {R : ByteArray × Nat × Nat} (h : R = (a, b.toNat, c.toNat)) (hb : 0 ≤ b) (hc : 0 ≤ c) :
    Ending.returned (.tuple #[.string a, .int .i64 b, .int .i64 c]) = Ending.returned (.tuple #[.string R.1, .int .i64 (R.2.1 : Int), .int .i64 (R.2.2 : Int)]) := by
  subst h; simp only; rw [Int.toNat_of_nonneg hb, Int.toNat_of_nonneg hc]
theorem fixN_lt (l : List UInt8) : fixN l < 4294967296 := by
  have h := fixP_lt l 4
  rw [fixP_four] at h
  exact h
theorem ext_end (s : ByteArray) (a : Nat) : (s.extract a s.size).data.toList = s.data.toList.drop a := by
  rw [ByteArray.data_extract, Array.toList_extract, List.extract_eq_take_drop]
  apply List.take_of_length_le; simp
theorem fix_tail (s : ByteArray) (h : ¬ s.size < 8) {M : Nat} (hM : fixN (s.data.toList.drop 4) = M) (w : World) : Calls Try.prog 19 #[.string (s.extract 4 s.size)] w fun e w' => e = .returned (.tuple #[.int .u32 M, .int .i64 0]) ∧ Below w.heap.size w w' := by
  rw [← hM]
  have := fix_calls (s.extract 4 s.size) (by rw [ByteArray.size_extract]; omega) w
  rwa [ext_end] at this
theorem min4 {n : Nat} (h : 4 ≤ n) : (if (4 : Int) < (n : Int) then (4 : Int) else (n : Int)).toNat = 4 := by split <;> omega
theorem bytes_eq {a b : ByteArray} (h : a.data.toList = b.data.toList) : a = b := by
  cases a; cases b; congr 1; exact Array.toList_inj.1 h
theorem _root_.Go.RowKit.Below.next {a b c : World} (h : Below a.heap.size a b) (k : Below b.heap.size b c) : Below a.heap.size a c := h.trans (k.mono h.size)
theorem fix_head (s : ByteArray) (h : ¬ s.size < 4) {N : Nat} (hN : fixN s.data.toList = N) (w : World) : Calls Try.prog 19 #[.string s] w fun e w' => e = .returned (.tuple #[.int .u32 N, .int .i64 0]) ∧ Below w.heap.size w w' := by
  rw [← hN]; exact fix_calls s h w
theorem not_u32 {M : Nat} (h : M < 4294967296) : Go.bits .xor .u32 4294967295 (M : Int) = ((4294967295 - M : Nat) : Int) := by
  have e : (M : Int) = uv (BitVec.ofNat 32 M) := by unfold uv; rw [BitVec.toNat_ofNat, Nat.mod_eq_of_lt h]
  rw [e, lit_max, xor_uv, show BitVec.allOnes 32 ^^^ BitVec.ofNat 32 M = ~~~ (BitVec.ofNat 32 M) from by rw [BitVec.allOnes_xor]]; unfold uv; rw [BitVec.toNat_not, BitVec.toNat_ofNat, Nat.mod_eq_of_lt h]
theorem cell_else {W : World} {B i j : Nat} {v : Value} (h : i ≠ j) : (W.setCell ⟨B, i, none⟩ v).cell? ⟨B, j, none⟩ = W.cell? ⟨B, j, none⟩ := World.cell?_setCell_other W ⟨B, i, none⟩ ⟨B, j, none⟩ v (fun x => h (by cases x; rfl))
theorem fin2 {B : Nat} {w wr w1 : World} (hB : Aside0 (w.heap.size = B)) (hb : Aside0 (Below B w wr)) (hs : Aside0 (B < wr.heap.size)) (h : Below wr.heap.size wr w1) {i : Nat} (v : Value) : Below w.heap.size w (w1.setCell ⟨B, i, none⟩ v) := by
  rw [hB.out]; exact (hb.out.trans (h.mono (Nat.le_of_lt hs.out))).setCell (p := ⟨B, i, none⟩) (Nat.le_refl _) _
theorem fin {B : Nat} {w wr w1 : World} (hB : Aside0 (w.heap.size = B)) (hb : Aside0 (Below B w wr)) (hs : Aside0 (B < wr.heap.size)) (h : Below wr.heap.size wr w1) : Below w.heap.size w w1 := by
  rw [hB.out]; exact hb.out.trans (h.mono (Nat.le_of_lt hs.out))
set_option maxHeartbeats 4000000 in
set_option maxRecDepth 100000 in
theorem read_calls (s : ByteArray) (hs : s.size ≤ 140737488351232) (w : World) :
    Calls Try.prog 12 #[.string s] w fun e w' => e = .returned (.tuple #[.string (readN s).1, .int .i64 (readN s).2.1, .int .i64 (readN s).2.2]) ∧ Below w.heap.size w w' := by
  by_cases h0 : s.size = 0
  · have e : readN s = (⟨#[]⟩, 0, 2) := by unfold readN; rw [if_pos h0]
    rw [e]; exact read_end s h0 w
  obtain ⟨R, hR⟩ : ∃ R, readN s = R := ⟨_, rfl⟩
  rw [hR]
  unfold readN at hR
  rw [if_neg h0] at hR
  have HR := Aside0.mk hR
  clear hR
  have t0 : (s.toList == ([] : List UInt8)) = false := beq_eq_false_iff_ne.2 (fun e => h0 ((nil_list s).1 e))
  obtain ⟨N, hN⟩ : ∃ N, fixN s.data.toList = N := ⟨_, rfl⟩
  obtain ⟨M, hM⟩ : ∃ M, fixN (s.data.toList.drop 4) = M := ⟨_, rfl⟩
  have hNl := fixN_lt s.data.toList
  have hMl := fixN_lt (s.data.toList.drop 4)
  rw [hN] at hNl
  rw [hM] at hMl
  have HN := Aside0.mk hN
  have HM := Aside0.mk hM
  have HNl := Aside0.mk hNl
  have HMl := Aside0.mk hMl
  clear hN hM hNl hMl
  go_enter Try.func12, Try.ntmps12
  go_wp2
  go_step3
  go_wp2
  go_step3
  go_wp2
  have hB0 : Aside0 (Below w.heap.size w (w.alloc (.cells #[.int .u32 0, .int .u32 0] 46))) := ⟨(Below.refl _ _).alloc (Nat.le_refl _) _⟩
  have hc0 : Aside0 ((w.alloc (.cells #[.int .u32 0, .int .u32 0] 46)).cell? ⟨w.heap.size, 0, none⟩ = some (.int .u32 0)) := ⟨by rw [World.cell?_alloc_new]; rfl⟩
  have hc1 : Aside0 ((w.alloc (.cells #[.int .u32 0, .int .u32 0] 46)).cell? ⟨w.heap.size, 1, none⟩ = some (.int .u32 0)) := ⟨by rw [World.cell?_alloc_new]; rfl⟩
  have hf0 : Aside0 ((w.alloc (.cells #[.int .u32 0, .int .u32 0] 46)).frozen? ⟨w.heap.size, 0, none⟩ = false) := ⟨by rw [World.frozen?_alloc_new]⟩
  have hf1 : Aside0 ((w.alloc (.cells #[.int .u32 0, .int .u32 0] 46)).frozen? ⟨w.heap.size, 1, none⟩ = false) := ⟨by rw [World.frozen?_alloc_new]⟩
  generalize hW0 : w.alloc (.cells #[.int .u32 0, .int .u32 0] 46) = W0 at *
  have hs0 : Aside0 (w.heap.size < W0.heap.size) := ⟨by rw [← hW0]; show w.heap.size < (w.heap.push _).size; rw [Array.size_push]; omega⟩
  obtain ⟨B, hB⟩ : ∃ B, w.heap.size = B := ⟨_, rfl⟩
  clear hW0
  have HB := Aside0.mk hB
  rw [hB] at hB0 hc0 hc1 hf0 hf1 hs0 ⊢
  clear hB
  go_loopw [13] (fun v13 wr => ∃ i : Nat, v13 = .int .i64 i ∧ Aside0 ((i = 0 ∧ wr.cell? ⟨B, 0, none⟩ = some (.int .u32 0)) ∨ (i = 1 ∧ 4 ≤ s.size ∧ wr.cell? ⟨B, 0, none⟩ = some (.int .u32 N)) ∨ (i = 2 ∧ 8 ≤ s.size ∧ wr.cell? ⟨B, 0, none⟩ = some (.int .u32 N) ∧ ¬ (¬ (N : Int) = 4294967295 - M ∨ N = 0 ∨ 2000 < N))) ∧ (∃ x : Int, Aside0 (wr.cell? ⟨B, 1, none⟩ = some (.int .u32 x))) ∧ Aside0 (wr.frozen? ⟨B, 0, none⟩ = false) ∧ Aside0 (wr.frozen? ⟨B, 1, none⟩ = false) ∧ Aside0 (Below B w wr) ∧ Aside0 (B < wr.heap.size)) (fun v13 _ => 2 - (intOf v13).toNat)
  case atStart => exact ⟨0, rfl, ⟨.inl ⟨rfl, hc0.out⟩⟩, ⟨_, hc1⟩, hf0, hf1, hB0, hs0⟩
  case round =>
    clear hB0 hc0 hc1 hf0 hf1 hs0
    obtain ⟨i, rfl, hst, ⟨x1, hc1⟩, hf0, hf1, hb, hbs⟩ := hrel
    rcases hst.out with ⟨rfl, h⟩ | ⟨rfl, h4, h⟩ | ⟨rfl, h8, h, hgood⟩
    · have hc0 := h
      have hc1 := hc1.out
      have hf0 := hf0.out
      have hf1 := hf1.out
      clear hst
      by_cases h4 : s.size < 4
      · have hr : R = (⟨#[]⟩, 0, 3) := by rw [← HR.out, if_pos (by omega)]
        have hr2 := Aside0.mk hr
        clear HR hr
        go_wp2_with (go_at_call 19; refine (fix_short s h4 _).mono ?_; rintro e w1 ⟨rfl, hb1⟩)
        all_goals
          try rw [Exit.noGoto_ret]
          go_ret3
          exact ⟨tuple3 hr2.out (by omega) (by omega), fin HB hb hbs hb1⟩
      · go_wp2_with (go_at_call 19; refine (fix_head s h4 HN.out _).mono ?_; rintro e w1 ⟨rfl, hb1⟩; have k0 := (hb1.cell (p := ⟨B, 0, none⟩) hbs.out).trans hc0; have k1 := (hb1.cell (p := ⟨B, 1, none⟩) hbs.out).trans hc1; have g0 := (hb1.frozen (p := ⟨B, 0, none⟩) hbs.out).trans hf0; have g1 := (hb1.frozen (p := ⟨B, 1, none⟩) hbs.out).trans hf1; clear hc0 hc1 hf0 hf1)
        refine ⟨⟨1, rfl, ⟨.inr (.inl ⟨rfl, by omega, by rw [World.cell?_setCell_same' _ _ _ (by rw [k0]; rfl)]⟩)⟩, ⟨x1, ⟨by rw [cell_else (by decide)]; exact k1⟩⟩, ⟨by rw [World.frozen?_setCell]; exact g0⟩, ⟨by rw [World.frozen?_setCell]; exact g1⟩, ⟨(hb.out.trans (hb1.mono (Nat.le_of_lt hbs.out))).setCell (p := ⟨B, 0, none⟩) (Nat.le_refl _) _⟩, ⟨Nat.lt_of_lt_of_le hbs.out (Nat.le_trans hb1.size (by simp [World.setCell]))⟩⟩, ?_⟩
        simp [intOf]
    · have hc0 := h
      have hc1 := hc1.out
      have hf0 := hf0.out
      have hf1 := hf1.out
      clear hst
      have t4 : decide ((s.size : Int) < 4) = false := decide_eq_false (by omega)
      have t4n : decide (s.size < 4) = false := decide_eq_false (by omega)
      by_cases h8 : s.size < 8
      · have hr : R = (⟨#[]⟩, 0, 3) := by rw [← HR.out, if_pos (by omega)]
        have hr2 := Aside0.mk hr
        clear HR hr
        have H8 := Aside0.mk h8
        clear h8
        go_wp2_with (go_at_call 19; refine (fix_short _ (by rw [ByteArray.size_extract]; have := H8.out; omega) _).mono ?_; rintro e w1 ⟨rfl, hb1⟩)
        all_goals
          try rw [Exit.noGoto_ret]
          go_ret3
          exact ⟨tuple3 hr2.out (by omega) (by omega), fin HB hb hbs hb1⟩
      · have H8 := Aside0.mk h8
        clear h8
        obtain ⟨K, hK⟩ : ∃ K : Nat, 4294967295 - M = K := ⟨_, rfl⟩
        have hx : Go.bits .xor .u32 4294967295 (M : Int) = (K : Int) := by rw [not_u32 HMl.out, hK]
        have hKM : Aside0 ((K : Int) = 4294967295 - M) := ⟨by have := HMl.out; omega⟩
        clear hK
        by_cases e1 : (N : Int) = K
        · have b1 : ((N : Int) != (K : Int)) = false := bne_eq_false_iff_eq.2 e1
          have b1' : ((N : Int) == (K : Int)) = true := beq_iff_eq.2 e1
          have E1 := Aside0.mk e1
          clear e1
          by_cases e2 : N = 0
          · have b2 : ((N : Int) == 0) = true := beq_iff_eq.2 (by omega)
            have E2 := Aside0.mk e2
            clear e2
            have hr : R = (⟨#[]⟩, 0, 4) := by rw [← HR.out, if_neg H8.out, HN.out, HM.out, if_pos (.inr (.inl E2.out))]
            have hr2 := Aside0.mk hr
            clear HR hr
            go_wp2_with (go_at_call 19; rw [min4 h4]; refine (fix_tail s H8.out HM.out _).mono ?_; rintro e w1 ⟨rfl, hb1⟩; have k0 := (hb1.cell (p := ⟨B, 0, none⟩) hbs.out).trans hc0; have k1 := (hb1.cell (p := ⟨B, 1, none⟩) hbs.out).trans hc1; have g0 := (hb1.frozen (p := ⟨B, 0, none⟩) hbs.out).trans hf0; have g1 := (hb1.frozen (p := ⟨B, 1, none⟩) hbs.out).trans hf1; clear hc0 hc1 hf0 hf1; have k0' := (cell_else (W := w1) (B := B) (i := 1) (j := 0) (v := .int .u32 M) (by decide)).trans k0)
            all_goals
              try rw [Exit.noGoto_ret]
              go_ret3
              exact ⟨tuple3 hr2.out (by omega) (by omega), fin2 HB hb hbs hb1 _⟩
          · have b2 : ((N : Int) == 0) = false := beq_eq_false_iff_ne.2 (by omega)
            have E2 := Aside0.mk e2
            clear e2
            by_cases e3 : 2000 < N
            · have b3 : decide (2000 < (N : Int)) = true := decide_eq_true (by omega)
              have b3n : decide (2000 < N) = true := decide_eq_true e3
              have E3 := Aside0.mk e3
              clear e3
              have hr : R = (⟨#[]⟩, 0, 4) := by rw [← HR.out, if_neg H8.out, HN.out, HM.out, if_pos (.inr (.inr E3.out))]
              have hr2 := Aside0.mk hr
              clear HR hr
              go_wp2_with (go_at_call 19; rw [min4 h4]; refine (fix_tail s H8.out HM.out _).mono ?_; rintro e w1 ⟨rfl, hb1⟩; have k0 := (hb1.cell (p := ⟨B, 0, none⟩) hbs.out).trans hc0; have k1 := (hb1.cell (p := ⟨B, 1, none⟩) hbs.out).trans hc1; have g0 := (hb1.frozen (p := ⟨B, 0, none⟩) hbs.out).trans hf0; have g1 := (hb1.frozen (p := ⟨B, 1, none⟩) hbs.out).trans hf1; clear hc0 hc1 hf0 hf1; have k0' := (cell_else (W := w1) (B := B) (i := 1) (j := 0) (v := .int .u32 M) (by decide)).trans k0)
              all_goals
                try rw [Exit.noGoto_ret]
                go_ret3
                exact ⟨tuple3 hr2.out (by omega) (by omega), fin2 HB hb hbs hb1 _⟩
            · have b3 : decide (2000 < (N : Int)) = false := decide_eq_false (by omega)
              have b3n : decide (2000 < N) = false := decide_eq_false e3
              have E3 := Aside0.mk e3
              clear e3
              go_wp2_with (go_at_call 19; rw [min4 h4]; refine (fix_tail s H8.out HM.out _).mono ?_; rintro e w1 ⟨rfl, hb1⟩; have k0 := (hb1.cell (p := ⟨B, 0, none⟩) hbs.out).trans hc0; have k1 := (hb1.cell (p := ⟨B, 1, none⟩) hbs.out).trans hc1; have g0 := (hb1.frozen (p := ⟨B, 0, none⟩) hbs.out).trans hf0; have g1 := (hb1.frozen (p := ⟨B, 1, none⟩) hbs.out).trans hf1; clear hc0 hc1 hf0 hf1; have k0' := (cell_else (W := w1) (B := B) (i := 1) (j := 0) (v := .int .u32 M) (by decide)).trans k0)
              all_goals
                refine ⟨⟨2, rfl, ⟨.inr (.inr ⟨rfl, by have := H8.out; omega, k0', by have a := E1.out; have b := E2.out; have c := E3.out; have d := hKM.out; omega⟩)⟩, ⟨M, ⟨World.cell?_setCell_same' _ _ _ (by rw [k1]; rfl)⟩⟩, ⟨by rw [World.frozen?_setCell]; exact g0⟩, ⟨by rw [World.frozen?_setCell]; exact g1⟩, ⟨(hb.out.trans (hb1.mono (Nat.le_of_lt hbs.out))).setCell (p := ⟨B, 1, none⟩) (Nat.le_refl _) _⟩, ⟨Nat.lt_of_lt_of_le hbs.out (Nat.le_trans hb1.size (by simp [World.setCell]))⟩⟩, ?_⟩
                simp [intOf]
        · have b1 : ((N : Int) != (K : Int)) = true := bne_iff_ne.2 e1
          have b1' : ((N : Int) == (K : Int)) = false := beq_eq_false_iff_ne.2 e1
          have E1 := Aside0.mk e1
          clear e1
          have hr : R = (⟨#[]⟩, 0, 4) := by rw [← HR.out, if_neg H8.out, HN.out, HM.out, if_pos (.inl (by rw [← hKM.out]; exact E1.out))]
          have hr2 := Aside0.mk hr
          clear HR hr
          go_wp2_with (go_at_call 19; rw [min4 h4]; refine (fix_tail s H8.out HM.out _).mono ?_; rintro e w1 ⟨rfl, hb1⟩; have k0 := (hb1.cell (p := ⟨B, 0, none⟩) hbs.out).trans hc0; have k1 := (hb1.cell (p := ⟨B, 1, none⟩) hbs.out).trans hc1; have g0 := (hb1.frozen (p := ⟨B, 0, none⟩) hbs.out).trans hf0; have g1 := (hb1.frozen (p := ⟨B, 1, none⟩) hbs.out).trans hf1; clear hc0 hc1 hf0 hf1; have k0' := (cell_else (W := w1) (B := B) (i := 1) (j := 0) (v := .int .u32 M) (by decide)).trans k0)
          all_goals
            try rw [Exit.noGoto_ret]
            go_ret3
            exact ⟨tuple3 hr2.out (by omega) (by omega), fin2 HB hb hbs hb1 _⟩
    · have hc0 := h
      have h8' : ¬ s.size < 8 := by omega
      have hN1 : ¬ N = 0 := by omega
      have hN2 : N ≤ 2000 := by omega
      have hw : wrap64 (N : Int) = (N : Int) := by unfold wrap64; omega
      have hx : IntKind.i64.wrap (N : Int) = (N : Int) := by rw [IntKind.wrap_i64]; omega
      have hr := HR.out
      rw [if_neg h8', HN.out, HM.out, if_neg hgood] at hr
      have HR2 := Aside0.mk hr
      clear HR hr hst h hgood h8 h8'
      by_cases ht : s.size < N + 12
      · have t1 : decide ((s.size : Int) < ((N + 12 : Nat) : Int)) = true := decide_eq_true (by omega)
        have t1n : decide (s.size < N + 12) = true := decide_eq_true ht
        have t2 : decide ((s.size : Int) < (N : Int) + 12) = true := decide_eq_true (by omega)
        have hr : R = (⟨#[]⟩, 0, 3) := by rw [← HR2.out, if_pos ht]
        have hr2 := Aside0.mk hr
        clear hr HR2 ht
        go_wp2_with (go_at_call 14; refine (size_calls N (by omega) _).mono ?_; rintro e w1 ⟨rfl, hb1⟩)
        all_goals
          try rw [Exit.noGoto_ret]
          go_ret3
          exact ⟨tuple3 hr2.out (by omega) (by omega), fin HB hb hbs hb1⟩
      · have t1 : decide ((s.size : Int) < ((N + 12 : Nat) : Int)) = false := decide_eq_false (by omega)
        have t1n : decide (s.size < N + 12) = false := decide_eq_false ht
        have t2 : decide ((s.size : Int) < (N : Int) + 12) = false := decide_eq_false (by omega)
        have hw8 : wrap64 (8 + (N : Int)) = ((8 + N : Nat) : Int) := by unfold wrap64; omega
        have hr := HR2.out
        rw [if_neg ht] at hr
        obtain ⟨b, hb8⟩ : ∃ b, s.extract 8 (8 + N) = b := ⟨_, rfl⟩
        rw [hb8] at hr
        have HB8 := Aside0.mk hb8
        have hbz : b.size = N := by rw [← hb8, ByteArray.size_extract]; omega
        have HBZ := Aside0.mk (show b.size ≤ 140737488351232 by omega)
        have HR3 := Aside0.mk hr
        clear hr HR2
        obtain ⟨c, hc⟩ : ∃ c, s.extract (8 + N) (N + 12) = c := ⟨_, rfl⟩
        have hcut1 : ∀ W : World, (Instr.slice 9 (.string s) (some (.int .i64 8)) (some (.int .i64 (8 + (N : Int)))) none).run Try.prog W = .ok (.string b) W := fun W => by
          rw [run_slice_string W 9 s .i64 .i64 8 (8 + (N : Int)) Try.underlying9 (by omega) (by omega) (by omega), ← hb8]; rfl
        have hcut2 : ∀ W : World, (Instr.slice 9 (.string s) (some (.int .i64 (8 + (N : Int)))) (some (.int .i64 ((N : Int) + 12))) none).run Try.prog W = .ok (.string c) W := fun W => by
          rw [run_slice_string W 9 s .i64 .i64 (8 + (N : Int)) ((N : Int) + 12) Try.underlying9 (by omega) (by omega) (by omega), ← hc]; rfl
        have HC := Aside0.mk hc
        have HN2 := Aside0.mk hN2
        obtain ⟨sum, hsum⟩ : ∃ x, uv (more 0#32 b.data.toList) = x := ⟨_, rfl⟩
        obtain ⟨f, hf⟩ : ∃ x, fixS sum = x := ⟨_, rfl⟩
        have HS := Aside0.mk hsum
        have HF := Aside0.mk hf
        clear hsum hf hc hb8 hbz ht hN1 hN2
        by_cases e : c = f
        · have c1 : (c.toList != f.toList) = false := bne_eq_false_iff_eq.2 (by rw [e])
          have c2 : (c.toList == f.toList) = true := beq_iff_eq.2 (by rw [e])
          have hr2 : Aside0 (R = (b, N + 12, 1)) := ⟨by rw [← HR3.out, HS.out, HF.out, HC.out, if_pos e]⟩
          have E := Aside0.mk e
          clear e HR3
          have hw8' : IntKind.i64.wrap (8 + (N : Int)) = 8 + (N : Int) := by rw [IntKind.wrap_i64]; have := HN2.out; omega
          go_wp2_with (go_at_call 14; refine (size_calls N (by have := HN2.out; omega) _).mono ?_; rintro e w1 ⟨rfl, hb1⟩)
          go_region_with (first | (go_at_call 14; refine (size_calls N (by have := HN2.out; omega) _).mono ?_; rintro e w2 ⟨rfl, hb2⟩) | (go_at_call 17; refine (of_at b HBZ.out HS.out _).mono ?_; rintro e w4 ⟨rfl, hb4⟩) | (go_at_call 16; refine (fixed_at sum HF.out _).mono ?_; rintro e w5 ⟨rfl, hb5⟩))
          go_wp2_with (go_at_call 14; refine (size_calls N (by have := HN2.out; omega) _).mono ?_; rintro e w6 ⟨rfl, hb6⟩)
          all_goals
            try rw [Exit.noGoto_ret]
            go_ret3
            exact ⟨tuple3 hr2.out (by have := HN2.out; omega) (by omega), fin HB hb hbs ((((hb1.drew.next hb2).next hb4).next hb5).next hb6)⟩
        · have c1 : (c.toList != f.toList) = true := bne_iff_ne.2 (fun h => e (by rw [ByteArray.toList_eq, ByteArray.toList_eq] at h; exact bytes_eq h))
          have c2 : (c.toList == f.toList) = false := beq_eq_false_iff_ne.2 (fun h => e (by rw [ByteArray.toList_eq, ByteArray.toList_eq] at h; exact bytes_eq h))
          have hr2 : Aside0 (R = (⟨#[]⟩, 0, 4)) := ⟨by rw [← HR3.out, HS.out, HF.out, HC.out, if_neg e]⟩
          have E := Aside0.mk e
          clear e HR3
          have hw8' : IntKind.i64.wrap (8 + (N : Int)) = 8 + (N : Int) := by rw [IntKind.wrap_i64]; have := HN2.out; omega
          go_wp2_with (go_at_call 14; refine (size_calls N (by have := HN2.out; omega) _).mono ?_; rintro e w1 ⟨rfl, hb1⟩)
          go_region_with (first | (go_at_call 14; refine (size_calls N (by have := HN2.out; omega) _).mono ?_; rintro e w2 ⟨rfl, hb2⟩) | (go_at_call 17; refine (of_at b HBZ.out HS.out _).mono ?_; rintro e w4 ⟨rfl, hb4⟩) | (go_at_call 16; refine (fixed_at sum HF.out _).mono ?_; rintro e w5 ⟨rfl, hb5⟩))
          go_wp2_with (go_at_call 14; refine (size_calls N (by have := HN2.out; omega) _).mono ?_; rintro e w6 ⟨rfl, hb6⟩)
          all_goals
            try rw [Exit.noGoto_ret]
            go_ret3
            exact ⟨tuple3 hr2.out (by omega) (by omega), fin HB hb hbs (((hb1.drew.next hb2).next hb4).next hb5)⟩
end Go.Proofs.Ytnhpjdefnefmmaa.FrameW
