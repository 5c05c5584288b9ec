/- CodeLong: nine bytes at most, the ninth without its highest bit; with noughts behind it isn't what is told. -/
import Derived.Test.YtangohljdpjgeaaCodeKnown
import Derived.OwnWalk
namespace Go.Proofs.Ytangohljdpjgeaa.Q
open Go Go.RowKit Go.Shelf Go.Proofs.Ytangohljdpjgeaa.Seq Go.Proofs.Ytangohljdpjgeaa.CodeW Go.Proofs.Ytangohljdpjgeaa.CodeM Go.Proofs.Ytangohljdpjgeaa.CodeQ Go.Proofs.YtangohljdpjgeaaW.PrintWords Go.Proofs.YtangohljdpjgeaaW.PrintLast Go.Proofs.YtangohljdpjgeaaW.PrintMore
attribute [local go_sem] Oper.semAt_some
theorem long_at (X : Nat) (hX : X < 128) : ∀ (d i acc : Nat), i ≤ 8 → i + d ≤ 10 → ∃ n, getN (List.replicate d 255 ++ [UInt8.ofNat X]) i acc = if 8 < i + d ∨ (0 < i + d ∧ X = 0) then (0, 0, 11) else (n, i + d + 1, 0)
  | 0, i, acc, h8, h => by
    have hx : (UInt8.ofNat X).toNat = X := ofNat_u8 (by omega)
    refine ⟨acc + X * 128 ^ i, ?_⟩
    show getN [UInt8.ofNat X] i acc = _
    rw [getN, hx, if_pos hX]
    simp only [Nat.add_zero]
    by_cases hb : 8 < i ∨ (0 < i ∧ X = 0)
    · rw [if_pos hb, if_pos (show i = 8 ∧ 128 ≤ X ∨ 0 < i ∧ X = 0 by omega)]
    · rw [if_neg hb, if_neg (show ¬ (i = 8 ∧ 128 ≤ X ∨ 0 < i ∧ X = 0) by omega)]
  | d + 1, i, acc, h8, h => by
    have hx : (255 : UInt8).toNat = 255 := rfl
    rw [List.replicate_succ, List.cons_append, getN, hx]
    by_cases h1 : i = 8
    · refine ⟨0, ?_⟩
      rw [if_pos (.inl ⟨h1, by omega⟩), if_pos (by omega)]
    · obtain ⟨n, hn⟩ := long_at X hX d (i + 1) (acc + (255 - 128) * 128 ^ i) (by omega) (by omega)
      refine ⟨n, ?_⟩
      rw [if_neg (by omega), if_neg (by omega), hn, show i + 1 + d = i + (d + 1) from by omega]
theorem long_getN (k X : Nat) (hX : X < 128) (hk : k ≤ 10) : ∃ n, getN (List.replicate k 255 ++ [UInt8.ofNat X]) 0 0 = if 8 < k ∨ (0 < k ∧ X = 0) then (0, 0, 11) else (n, k + 1, 0) := by
  have := long_at X hX k 0 0 (by omega) (by omega)
  rwa [Nat.zero_add] at this
theorem long_known (w : World) : Calls Try.prog 9 #[] w fun e w' => e = .returned (.bool true) ∧ Below w.heap.size w w' := ladelaw1_known.calls 5 true w (known_f 0)
theorem long_get (s : ByteArray) (hs : s.size ≤ 140737488351232) {R : Nat × Nat × Nat} (h : getN s.data.toList 0 0 = R) (w : World) : Calls Try.prog 10 #[.string s] w fun e w' => e = .returned (.tuple #[.int .i64 R.1, .int .i64 R.2.1, .int .i64 R.2.2]) ∧ Below w.heap.size w w' := by
  subst h; exact get_calls s hs w
theorem nums_snoc (n : Nat) (x : Int) : nums .u8 (List.replicate n 255) ++ [.int .u8 x] = nums .u8 (List.replicate n 255 ++ [x]) := by simp [nums]
theorem below_append {B n : Nat} {w W w1 : World} {e : TypeId} {size : Nat} {v : Value} {xs : List Value} {o : Obj} (hb : Below B w W) (hrow : W.ownsRow B e size v n xs) (hg : (W.alloc o).grownBy w1 v.ownBlock) (hs : B ≤ W.heap.size) : Below B w w1 :=
  (hb.alloc hs o).grown hg (by simp; omega) fun k ek => by
    rcases hrow.2 with ⟨rfl, _⟩ | ⟨g, cap, cur, rfl, h, _⟩
    · simp [Value.ownBlock] at ek
    · obtain rfl : g = k := by simpa [Value.ownBlock] using ek
      exact h
set_option maxHeartbeats 4000000 in
set_option maxRecDepth 100000 in
theorem long_main (a n : Int) (ha : 0 ≤ a ∧ a < 256) (hn : 0 ≤ n ∧ n < 256) (w : World) :
    Calls Try.prog 7 #[.int .u8 a, .int .u8 n] w fun e w' => e = .returned (.bool true) ∧ Below w.heap.size w w' := by
  obtain ⟨i0, hi, hz0, hz1, hz2⟩ := info_parts info_u8
  obtain ⟨k, hk⟩ : ∃ k : Nat, n % 11 = k := ⟨(n % 11).toNat, by omega⟩
  have hkt : Int.tmod n 11 = k := by rw [Int.tmod_eq_emod_of_nonneg hn.1]; exact hk
  have hk10 : k ≤ 10 := by omega
  obtain ⟨A, rfl⟩ := Int.eq_ofNat_of_zero_le ha.1
  obtain ⟨X, hX⟩ : ∃ X : Nat, A % 128 = X := ⟨_, rfl⟩
  have hand : Go.bits .and .u8 (A : Int) 127 = (X : Int) := by
    have h' : ∀ x : Fin 256, Go.bits .and .u8 (x.val : Int) 127 = ((x.val % 128 : Nat) : Int) := by decide +kernel
    have := h' ⟨A, by omega⟩
    rw [← hX]; exact this
  have hX8 : X < 128 := by omega
  have HX := Aside0.mk hX8
  have HK := Aside0.mk hk10
  clear ha hn hX hX8 hk10
  go_enter Try.func7, Try.ntmps7
  go_wp2_with (first | (go_at_call 9; refine (long_known _).mono ?_; rintro e w1 ⟨rfl, hb1⟩) | (at_make; refine wpList_make_own _ rfl _ _ 46 rfl w.heap.size 5 i0 (.int .u8 0) 1 Try.underlying46 hi hz0 hz1 .i64 .i64 16 16 rfl rfl rfl (by rw [hz2]; decide) (by unfold maxLen; omega) hb1.size ?_; intro w2 hrow hgrow))
  have hbel0 : Below w.heap.size w w2 := hb1.grown hgrow hb1.size (fun k e => by cases e)
  clear hb1 hgrow
  have hrow0 : Aside0 (w2.ownsRow w.heap.size 5 1 (.slice (some ⟨w1.heap.size, 0, none⟩) 0 16) 0 (nums .u8 (List.replicate 0 255))) := ⟨hrow⟩
  clear hrow
  go_loopw [6, 7] (fun v6 v7 wr => ∃ i g cap : Nat, i ≤ k ∧ v7 = .int .i64 i ∧ v6 = .slice (some ⟨g, 0, none⟩) i cap ∧ Aside0 (wr.ownsRow w.heap.size 5 1 (.slice (some ⟨g, 0, none⟩) i cap) i (nums .u8 (List.replicate i 255))) ∧ Below w.heap.size w wr) (fun _ v7 _ => k - (intOf v7).toNat)
  case atStart => exact ⟨0, _, _, by omega, rfl, rfl, hrow0, hbel0⟩
  case round =>
    clear hrow0 hbel0
    obtain ⟨i, g, cap, hik, rfl, rfl, hrow, hbel⟩ := hrel
    by_cases hlt : i < k
    · go_wp2_with (at_builtin; refine wpList_append_own _ rfl _ _ 46 rfl w.heap.size 5 i0 (.int .u8 0) 1 1 Try.underlying46 hi hz0 hz1 hz2 rfl (by decide) _ _ _ rfl (hrow.out.alloc _) ⟨wr.heap.size, 0, none⟩ 1 1 [.int .u8 255] rfl rfl (cell_one_new _ _ _) (by simp [Value.oneCell']) (by unfold maxLen; have := HK.out; omega) (by have := HK.out; omega) (by have := hbel.size; simp; omega) ?_; intro v' w3 hown' hgrow _; have hb3 := below_append hbel hrow.out hgrow hbel.size; obtain ⟨g', cap', rfl⟩ := ownsRow_succ hown')
      go_roundw
      case rel => exact ⟨i + 1, _, _, by omega, by go_num, rfl, ⟨by rw [nums_snoc, ← List.replicate_succ'] at hown'; exact hown'⟩, hb3⟩
      case measure => simp [intOf]; omega
    · obtain rfl : i = k := by omega
      obtain ⟨m, hm⟩ := long_getN i X HX.out HK.out
      have hl : (strOfNums (List.replicate i 255 ++ [(X : Int)])).data.toList = List.replicate i 255 ++ [UInt8.ofNat X] := by
        rw [strOfNums_data, List.map_append, List.map_replicate]; rfl
      by_cases h1 : 8 < i
      · have HM : Aside0 (getN (strOfNums (List.replicate i 255 ++ [(X : Int)])).data.toList 0 0 = (0, 0, 11)) := ⟨by rw [hl, hm, if_pos (.inl h1)]⟩
        have t1 : decide ((8 : Int) < (i : Int)) = true := decide_eq_true (by omega)
        have t1n : decide (8 < i) = true := decide_eq_true h1
        clear hm hl hlt hik h1
        go_wp2_with (first | (at_builtin; refine wpList_append_own _ rfl _ _ 46 rfl w.heap.size 5 i0 (.int .u8 0) 1 1 Try.underlying46 hi hz0 hz1 hz2 rfl (by decide) _ _ _ rfl (hrow.out.alloc _) ⟨wr.heap.size, 0, none⟩ 1 1 [.int .u8 (X : Int)] rfl rfl (cell_one_new _ _ _) (by simp [Value.oneCell']) (by unfold maxLen; have := HK.out; omega) (by have := HK.out; omega) (by have := hbel.size; simp; omega) ?_; intro v' w3 hown' hgrow _; have hb3 := below_append hbel hrow.out hgrow hbel.size; obtain ⟨g', cap', rfl⟩ := ownsRow_succ hown'; have hcv := own_string (P := Try.prog) Try.underlying46 Try.underlying5 Try.underlying9 (nums_snoc i (X : Int) ▸ hown')) | (go_at_call 10; refine (long_get _ (by rw [strOfNums_size]; simp; have := HK.out; omega) HM.out _).mono ?_; rintro e w4 ⟨rfl, hb4⟩))
        all_goals
          go_ret
          exact ⟨by first | rfl | simp, hb3.trans (hb4.mono hb3.size)⟩
      · have t1 : decide ((8 : Int) < (i : Int)) = false := decide_eq_false (by omega)
        have t1n : decide (8 < i) = false := decide_eq_false h1
        by_cases h2 : 0 < i ∧ X = 0
        · have t2 : decide ((0 : Int) < (i : Int)) = true := decide_eq_true (by omega)
          have t2n : decide (0 < i) = true := decide_eq_true h2.1
          have t3 : ((X : Int) == 0) = true := beq_iff_eq.2 (by omega)
          have HM : Aside0 (getN (strOfNums (List.replicate i 255 ++ [(X : Int)])).data.toList 0 0 = (0, 0, 11)) := ⟨by rw [hl, hm, if_pos (.inr h2)]⟩
          clear h2
          clear hm hl hlt hik h1
          go_wp2_with (first | (at_builtin; refine wpList_append_own _ rfl _ _ 46 rfl w.heap.size 5 i0 (.int .u8 0) 1 1 Try.underlying46 hi hz0 hz1 hz2 rfl (by decide) _ _ _ rfl (hrow.out.alloc _) ⟨wr.heap.size, 0, none⟩ 1 1 [.int .u8 (X : Int)] rfl rfl (cell_one_new _ _ _) (by simp [Value.oneCell']) (by unfold maxLen; have := HK.out; omega) (by have := HK.out; omega) (by have := hbel.size; simp; omega) ?_; intro v' w3 hown' hgrow _; have hb3 := below_append hbel hrow.out hgrow hbel.size; obtain ⟨g', cap', rfl⟩ := ownsRow_succ hown'; have hcv := own_string (P := Try.prog) Try.underlying46 Try.underlying5 Try.underlying9 (nums_snoc i (X : Int) ▸ hown')) | (go_at_call 10; refine (long_get _ (by rw [strOfNums_size]; simp; have := HK.out; omega) HM.out _).mono ?_; rintro e w4 ⟨rfl, hb4⟩))
          all_goals
            go_ret
            exact ⟨by first | rfl | simp, hb3.trans (hb4.mono hb3.size)⟩
        · have HM : Aside0 (getN (strOfNums (List.replicate i 255 ++ [(X : Int)])).data.toList 0 0 = (m, i + 1, 0)) := ⟨by rw [hl, hm, if_neg (by omega)]⟩
          by_cases h3 : 0 < i
          · have t2 : decide ((0 : Int) < (i : Int)) = true := decide_eq_true (by omega)
            have t2n : decide (0 < i) = true := decide_eq_true h3
            have t3 : ((X : Int) == 0) = false := beq_eq_false_iff_ne.2 (by omega)
            clear h2 h3
            clear hm hl hlt hik h1
            go_wp2_with (first | (at_builtin; refine wpList_append_own _ rfl _ _ 46 rfl w.heap.size 5 i0 (.int .u8 0) 1 1 Try.underlying46 hi hz0 hz1 hz2 rfl (by decide) _ _ _ rfl (hrow.out.alloc _) ⟨wr.heap.size, 0, none⟩ 1 1 [.int .u8 (X : Int)] rfl rfl (cell_one_new _ _ _) (by simp [Value.oneCell']) (by unfold maxLen; have := HK.out; omega) (by have := HK.out; omega) (by have := hbel.size; simp; omega) ?_; intro v' w3 hown' hgrow _; have hb3 := below_append hbel hrow.out hgrow hbel.size; obtain ⟨g', cap', rfl⟩ := ownsRow_succ hown'; have hcv := own_string (P := Try.prog) Try.underlying46 Try.underlying5 Try.underlying9 (nums_snoc i (X : Int) ▸ hown')) | (go_at_call 10; refine (long_get _ (by rw [strOfNums_size]; simp; have := HK.out; omega) HM.out _).mono ?_; rintro e w4 ⟨rfl, hb4⟩))
            all_goals
              go_ret
              exact ⟨by first | rfl | simp, hb3.trans (hb4.mono hb3.size)⟩
          · have t2 : decide ((0 : Int) < (i : Int)) = false := decide_eq_false (by omega)
            have t2n : decide (0 < i) = false := decide_eq_false h3
            clear h2 h3
            clear hm hl hlt hik h1
            go_wp2_with (first | (at_builtin; refine wpList_append_own _ rfl _ _ 46 rfl w.heap.size 5 i0 (.int .u8 0) 1 1 Try.underlying46 hi hz0 hz1 hz2 rfl (by decide) _ _ _ rfl (hrow.out.alloc _) ⟨wr.heap.size, 0, none⟩ 1 1 [.int .u8 (X : Int)] rfl rfl (cell_one_new _ _ _) (by simp [Value.oneCell']) (by unfold maxLen; have := HK.out; omega) (by have := HK.out; omega) (by have := hbel.size; simp; omega) ?_; intro v' w3 hown' hgrow _; have hb3 := below_append hbel hrow.out hgrow hbel.size; obtain ⟨g', cap', rfl⟩ := ownsRow_succ hown'; have hcv := own_string (P := Try.prog) Try.underlying46 Try.underlying5 Try.underlying9 (nums_snoc i (X : Int) ▸ hown')) | (go_at_call 10; refine (long_get _ (by rw [strOfNums_size]; simp; have := HK.out; omega) HM.out _).mono ?_; rintro e w4 ⟨rfl, hb4⟩))
            all_goals
              go_ret
              exact ⟨by first | rfl | simp, hb3.trans (hb4.mono hb3.size)⟩
theorem ladelaw1_CodeLong.walk (_ : True) (a0 a1 : Int) (w : World) (w0 : (Lit.int .u8 a0).wf = true) (w1 : (Lit.int .u8 a1).wf = true) :
    Calls Try.prog 7 #[.int .u8 a0, .int .u8 a1] w fun e w' => e = .returned (.bool true) ∧ Below w.heap.size w w' := by
  have h0 : 0 ≤ a0 ∧ a0 < 256 := by simp [Lit.wf, IntKind.min, IntKind.max, IntKind.bits, IntKind.signed] at w0; omega
  have h1 : 0 ≤ a1 ∧ a1 < 256 := by simp [Lit.wf, IntKind.min, IntKind.max, IntKind.bits, IntKind.signed] at w1; omega
  exact long_main a0 a1 h0 h1 w
end Go.Proofs.Ytangohljdpjgeaa.Q
namespace Go.Proofs.Ytangohljdpjgeaa.Pure
theorem CodeLong : True := trivial
end Go.Proofs.Ytangohljdpjgeaa.Pure
