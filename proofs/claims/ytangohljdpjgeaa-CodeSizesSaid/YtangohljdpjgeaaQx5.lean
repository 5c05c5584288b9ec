-- Made by a program of this session (pr.py), out of the kit's printer with contracts of its own: Lean checks it.
import Derived.Test.YtangohljdpjgeaaQx0
import Derived.Test.YtangohljdpjgeaaQx1
namespace Go.Proofs.Ytangohljdpjgeaa.Q
open Go.RowKit Go.Proofs.YtangohljdpjgeaaW.PrintWords Go.Proofs.YtangohljdpjgeaaW.PrintLast Go.Proofs.YtangohljdpjgeaaW.PrintMore
attribute [local go_sem] max2_int min2_int max_two min_two max_three min_three max_four min_four   -- for this text's walks alone
set_option linter.unusedVariables false
set_option linter.unusedSimpArgs false

/-! ### ladelaw1_CodeSizes: function 6 -/
def ladelaw1_CodeSizes.l0 : Nat → Int → Int → ByteArray → ByteArray → Int → Option (Bool)
  | 0, _, _, _, _, _ => none
  | k + 1, x2, x8, x9, x10, x11 => if x11 < (x9.size : Int) then (if 0 ≤ x11 then (if ((decide ((bt x9 x11) ≥ 128)) != (decide (x11 < (wrap64 ((x9.size : Int) - 1))))) = true then (some false) else (ladelaw1_CodeSizes.l0 k x2 x8 x9 x10 (wrap64 (x11 + 1)))) else (none)) else (if (x10.size : Int) > (x9.size : Int) then (if 0 ≤ (x9.size : Int) then (if (x9.size : Int) ≤ (x10.size : Int) then (if (x10.extract 0 ((x9.size : Int) : Int).toNat).toList = x9.toList then (if (x10.size : Int) ≤ (x9.size : Int) then (if 0 ≤ (x10.size : Int) then (some (((x9.extract 0 ((x10.size : Int) : Int).toNat).toList == x10.toList) == ((mx 0 x2) == x8))) else (none)) else (some false)) else (some true)) else (none)) else (none)) else (if (x10.size : Int) ≤ (x9.size : Int) then (if 0 ≤ (x10.size : Int) then (some (((x9.extract 0 ((x10.size : Int) : Int).toNat).toList == x10.toList) == ((mx 0 x2) == x8))) else (none)) else (some false)))
def ladelaw1_CodeSizes.f (k : Nat) (a0 : Int) (a1 : Int) (a2 : Int) : Option (Bool) := (ladelaw1_known.f k).bind fun t201 => (if t201 = true then (if 0 ≤ (IntKind.u64.wrap (wrap64 (Int.tmod a0 62))) then ((Given.code_Put.f (Go.bits .or .i64 (shl .i64 1 (IntKind.u64.wrap (wrap64 (Int.tmod a0 62)))) (Go.bits .and .i64 a1 (wrap64 ((shl .i64 1 (IntKind.u64.wrap (wrap64 (Int.tmod a0 62)))) - 1))))).bind fun t202 => ((Given.code_Put.f a2).bind fun t203 => (if (t202.size : Int) = (wrap64 ((wrap64 (Int.tdiv (wrap64 (Int.tmod a0 62)) 7)) + 1)) then (ladelaw1_CodeSizes.l0 k a2 (Go.bits .or .i64 (shl .i64 1 (IntKind.u64.wrap (wrap64 (Int.tmod a0 62)))) (Go.bits .and .i64 a1 (wrap64 ((shl .i64 1 (IntKind.u64.wrap (wrap64 (Int.tmod a0 62)))) - 1)))) t202 t203 0) else (some false)))) else (none)) else (some false))
theorem ladelaw1_CodeSizes.mono_l : ∀ k, (∀ y0 y1 y2 y3 y4, LeO (ladelaw1_CodeSizes.l0 k y0 y1 y2 y3 y4) (ladelaw1_CodeSizes.l0 (k + 1) y0 y1 y2 y3 y4))
  | 0 => fun _ _ _ _ _ r h => by simp [ladelaw1_CodeSizes.l0] at h
  | k + 1 => by
    have ih0 := ladelaw1_CodeSizes.mono_l k
    · intro y0 y1 y2 y3 y4
      unfold ladelaw1_CodeSizes.l0
      repeat' first
      | (with_reducible exact ih0 _ _ _ _ _)
      | (with_reducible exact ladelaw1_known.mono _)
      | (with_reducible exact LeO.refl _)
      | (with_reducible exact LeO.none _)
      | (with_reducible refine LeO.ite ?_ ?_)
      | (with_reducible refine LeO.bind ?_ (fun _ => ?_))
      | exact ih0 _ _ _ _ _
      | exact ladelaw1_known.mono _
      | exact LeO.none _
      | refine LeO.ite ?_ ?_
      | refine LeO.bind ?_ (fun _ => ?_)
theorem ladelaw1_CodeSizes.mono : ∀ a0 a1 a2 k, LeO (ladelaw1_CodeSizes.f k a0 a1 a2) (ladelaw1_CodeSizes.f (k + 1) a0 a1 a2) := by
  intro a0 a1 a2 k
  have ih0 := ladelaw1_CodeSizes.mono_l k
  unfold ladelaw1_CodeSizes.f
  repeat' first
      | (with_reducible exact ih0 _ _ _ _ _)
      | (with_reducible exact ladelaw1_known.mono _)
      | (with_reducible exact LeO.refl _)
      | (with_reducible exact LeO.none _)
      | (with_reducible refine LeO.ite ?_ ?_)
      | (with_reducible refine LeO.bind ?_ (fun _ => ?_))
      | exact ih0 _ _ _ _ _
      | exact ladelaw1_known.mono _
      | exact LeO.none _
      | refine LeO.ite ?_ ?_
      | refine LeO.bind ?_ (fun _ => ?_)
set_option maxHeartbeats 8000000 in
set_option maxRecDepth 100000 in
theorem ladelaw1_CodeSizes.calls (k : Nat) (a0 : Int) (a1 : Int) (a2 : Int) (r : Bool) (w : World) (h : ladelaw1_CodeSizes.f k a0 a1 a2 = some r) :
    Calls Try.prog 6 #[.int .u8 a0, .int .i64 a1, .int .i64 a2] w fun e w' => e = .returned (.bool r) ∧ Below w.heap.size w w' := by
  have HB := Aside0.mk (Below.refl w.heap.size w)
  have H : ((ladelaw1_known.f k).bind fun t201 => (if t201 = true then (if 0 ≤ (IntKind.u64.wrap (wrap64 (Int.tmod a0 62))) then ((Given.code_Put.f (Go.bits .or .i64 (shl .i64 1 (IntKind.u64.wrap (wrap64 (Int.tmod a0 62)))) (Go.bits .and .i64 a1 (wrap64 ((shl .i64 1 (IntKind.u64.wrap (wrap64 (Int.tmod a0 62)))) - 1))))).bind fun t202 => ((Given.code_Put.f a2).bind fun t203 => (if (t202.size : Int) = (wrap64 ((wrap64 (Int.tdiv (wrap64 (Int.tmod a0 62)) 7)) + 1)) then (ladelaw1_CodeSizes.l0 k a2 (Go.bits .or .i64 (shl .i64 1 (IntKind.u64.wrap (wrap64 (Int.tmod a0 62)))) (Go.bits .and .i64 a1 (wrap64 ((shl .i64 1 (IntKind.u64.wrap (wrap64 (Int.tmod a0 62)))) - 1)))) t202 t203 0) else (some false)))) else (none)) else (some false))) = some r := h
  clear h
  replace H := Option.bind_eq_some_iff.mp H
  obtain ⟨t201, A40, H⟩ := H
  replace H : (if t201 = true then (if 0 ≤ (IntKind.u64.wrap (wrap64 (Int.tmod a0 62))) then ((Given.code_Put.f (Go.bits .or .i64 (shl .i64 1 (IntKind.u64.wrap (wrap64 (Int.tmod a0 62)))) (Go.bits .and .i64 a1 (wrap64 ((shl .i64 1 (IntKind.u64.wrap (wrap64 (Int.tmod a0 62)))) - 1))))).bind fun t202 => ((Given.code_Put.f a2).bind fun t203 => (if (t202.size : Int) = (wrap64 ((wrap64 (Int.tdiv (wrap64 (Int.tmod a0 62)) 7)) + 1)) then (ladelaw1_CodeSizes.l0 k a2 (Go.bits .or .i64 (shl .i64 1 (IntKind.u64.wrap (wrap64 (Int.tmod a0 62)))) (Go.bits .and .i64 a1 (wrap64 ((shl .i64 1 (IntKind.u64.wrap (wrap64 (Int.tmod a0 62)))) - 1)))) t202 t203 0) else (some false)))) else (none)) else (some false)) = some r := H
  have A4 := Aside0.mk A40
  clear A40
  by_cases c5 : t201 = true
  · subst c5
    have H1 : (if 0 ≤ (IntKind.u64.wrap (wrap64 (Int.tmod a0 62))) then ((Given.code_Put.f (Go.bits .or .i64 (shl .i64 1 (IntKind.u64.wrap (wrap64 (Int.tmod a0 62)))) (Go.bits .and .i64 a1 (wrap64 ((shl .i64 1 (IntKind.u64.wrap (wrap64 (Int.tmod a0 62)))) - 1))))).bind fun t202 => ((Given.code_Put.f a2).bind fun t203 => (if (t202.size : Int) = (wrap64 ((wrap64 (Int.tdiv (wrap64 (Int.tmod a0 62)) 7)) + 1)) then (ladelaw1_CodeSizes.l0 k a2 (Go.bits .or .i64 (shl .i64 1 (IntKind.u64.wrap (wrap64 (Int.tmod a0 62)))) (Go.bits .and .i64 a1 (wrap64 ((shl .i64 1 (IntKind.u64.wrap (wrap64 (Int.tmod a0 62)))) - 1)))) t202 t203 0) else (some false)))) else (none)) = some r := by rw [if_pos rfl] at H; exact H
    clear H
    have H := H1
    clear H1
    obtain ⟨ji6, hji6⟩ : ∃ j_ : Int, (IntKind.u64.wrap (wrap64 (Int.tmod a0 62))) = j_ := ⟨_, rfl⟩
    replace H : (if 0 ≤ (ji6) then ((Given.code_Put.f (Go.bits .or .i64 (shl .i64 1 (ji6)) (Go.bits .and .i64 a1 (wrap64 ((shl .i64 1 (ji6)) - 1))))).bind fun t202 => ((Given.code_Put.f a2).bind fun t203 => (if (t202.size : Int) = (wrap64 ((wrap64 (Int.tdiv (wrap64 (Int.tmod a0 62)) 7)) + 1)) then (ladelaw1_CodeSizes.l0 k a2 (Go.bits .or .i64 (shl .i64 1 (ji6)) (Go.bits .and .i64 a1 (wrap64 ((shl .i64 1 (ji6)) - 1)))) t202 t203 0) else (some false)))) else (none)) = some r := by first | (rw [hji6] at H; exact H) | (simp only [hji6] at H ⊢; exact H)
    (try rw [hji6] at A4)
    by_cases c7 : 0 ≤ (ji6)
    · rw [if_pos c7] at H
      have c7b0 := eq_true c7
      have c7b1 : decide (0 ≤ (ji6)) = true := decide_eq_true c7
      clear c7
      obtain ⟨ji8, hji8⟩ : ∃ j_ : Int, (shl .i64 1 (ji6)) = j_ := ⟨_, rfl⟩
      replace H : ((Given.code_Put.f (Go.bits .or .i64 (ji8) (Go.bits .and .i64 a1 (wrap64 ((ji8) - 1))))).bind fun t202 => ((Given.code_Put.f a2).bind fun t203 => (if (t202.size : Int) = (wrap64 ((wrap64 (Int.tdiv (wrap64 (Int.tmod a0 62)) 7)) + 1)) then (ladelaw1_CodeSizes.l0 k a2 (Go.bits .or .i64 (ji8) (Go.bits .and .i64 a1 (wrap64 ((ji8) - 1)))) t202 t203 0) else (some false)))) = some r := by first | (rw [hji8] at H; exact H) | (simp only [hji8] at H ⊢; exact H)
      (try rw [hji8] at A4)
      have hji8_ : (IntKind.i64.wrap (1 * 2 ^ min (ji6).toNat 64)) = ji8 := hji8
      have hji8z : (ji6) ≤ 64 → (IntKind.i64.wrap (1 * 2 ^ (ji6).toNat)) = ji8 := shl_small hji8
      have hji8u : (IntKind.i64.wrap (2 ^ min (ji6).toNat 64)) = ji8 := by have h_ := hji8_; rw [Int.one_mul] at h_; exact h_
      have hji8v : (ji6) ≤ 64 → (IntKind.i64.wrap (2 ^ (ji6).toNat)) = ji8 := fun hle_ => by have h_ := hji8z hle_; rw [Int.one_mul] at h_; exact h_
      have hji8y : (wrap64 (1 * 2 ^ min (ji6).toNat 64)) = ji8 := (i64_w _).symm.trans hji8_
      have hji8x : (ji6) ≤ 64 → (wrap64 (1 * 2 ^ (ji6).toNat)) = ji8 := fun h_ => (i64_w _).symm.trans (hji8z h_)
      have c9b0 := eq_true (of_decide_eq_true (by first | (with_reducible assumption) | assumption) : 0 ≤ (ji6))
      replace H := Option.bind_eq_some_iff.mp H
      obtain ⟨t202, A110, H⟩ := H
      replace H : ((Given.code_Put.f a2).bind fun t203 => (if (t202.size : Int) = (wrap64 ((wrap64 (Int.tdiv (wrap64 (Int.tmod a0 62)) 7)) + 1)) then (ladelaw1_CodeSizes.l0 k a2 (Go.bits .or .i64 (ji8) (Go.bits .and .i64 a1 (wrap64 ((ji8) - 1)))) t202 t203 0) else (some false))) = some r := H
      have A11 := Aside0.mk A110
      clear A110
      replace H := Option.bind_eq_some_iff.mp H
      obtain ⟨t203, A120, H⟩ := H
      replace H : (if (t202.size : Int) = (wrap64 ((wrap64 (Int.tdiv (wrap64 (Int.tmod a0 62)) 7)) + 1)) then (ladelaw1_CodeSizes.l0 k a2 (Go.bits .or .i64 (ji8) (Go.bits .and .i64 a1 (wrap64 ((ji8) - 1)))) t202 t203 0) else (some false)) = some r := H
      have A12 := Aside0.mk A120
      clear A120
      by_cases c13 : (t202.size : Int) = (wrap64 ((wrap64 (Int.tdiv (wrap64 (Int.tmod a0 62)) 7)) + 1))
      · rw [if_pos c13] at H
        have c13b0 : ((t202.size : Int) == (wrap64 ((wrap64 (Int.tdiv (wrap64 (Int.tmod a0 62)) 7)) + 1))) = true := beq_iff_eq.mpr c13
        have c13b1 : ((t202.size : Int) != (wrap64 ((wrap64 (Int.tdiv (wrap64 (Int.tmod a0 62)) 7)) + 1))) = false := bne_eq_false_iff_eq.mpr c13
        clear c13
        have H' := Aside0.mk H
        clear H
        go_enter Try.func6, Try.ntmps6
        go_wp2_with (first | ((with_reducible refine gate_callee (f := 9) rfl ?_); refine goesL_ (some 12) rfl rfl Try.func9 (by kernel_rfl) rfl #[] rfl (by (try simp only [List.map_toArray, List.map_cons, List.map_nil]); first | done | rfl | (simp only [List.length_drop, List.length_take]; rfl)) ?_; (with_reducible refine (ladelaw1_known.calls k  true _ A4.out).mono ?_); rintro e w14 ⟨rfl, hb⟩; refine ⟨_, rfl, ?_⟩; have n0_ := Aside0.mk (below_step (by repeat (first | (with_reducible first | exact HB.out | apply below_alloc | apply pw_below_drewN | apply below_drew1) | exact HB.out)) hb); clear HB; have HB := n0_; clear n0_; (try clear hb); (try clear hb2); (try clear hk); (try clear hi)) | ((with_reducible refine gate_callee (f := 16) rfl ?_); refine goesL_ (some 28) rfl rfl Try.func16 (by kernel_rfl) rfl #[.int .i64 (Go.bits .or .i64 (ji8) (Go.bits .and .i64 a1 (wrap64 ((ji8) - 1))))] rfl (by (try simp only [List.map_toArray, List.map_cons, List.map_nil]); first | done | (simp only [hji8]; rfl) | rfl | (simp only [List.length_drop, List.length_take]; rfl)) ?_; (with_reducible refine (Given.code_Put.calls (Go.bits .or .i64 (ji8) (Go.bits .and .i64 a1 (wrap64 ((ji8) - 1)))) t202 _ A11.out).mono ?_); rintro e w15 ⟨rfl, hb⟩; refine ⟨_, rfl, ?_⟩; have n0_ := Aside0.mk (below_step (by repeat (first | (with_reducible first | exact HB.out | apply below_alloc | apply pw_below_drewN | apply below_drew1) | exact HB.out)) hb); clear HB; have HB := n0_; clear n0_; (try clear hb); (try clear hb2); (try clear hk); (try clear hi)) | ((with_reducible refine gate_callee (f := 16) rfl ?_); refine goesL_ (some 30) rfl rfl Try.func16 (by kernel_rfl) rfl #[.int .i64 a2] rfl (by (try simp only [List.map_toArray, List.map_cons, List.map_nil]); first | done | rfl | (simp only [List.length_drop, List.length_take]; rfl)) ?_; (with_reducible refine (Given.code_Put.calls a2 t203 _ A12.out).mono ?_); rintro e w16 ⟨rfl, hb⟩; refine ⟨_, rfl, ?_⟩; have n0_ := Aside0.mk (below_step (by repeat (first | (with_reducible first | exact HB.out | apply below_alloc | apply pw_below_drewN | apply below_drew1) | exact HB.out)) hb); clear HB; have HB := n0_; clear n0_; (try clear hb); (try clear hb2); (try clear hk); (try clear hi)))
        go_loopg [11] k (fun kq v11 w' => ∃ (x11_1 : Int), v11 = .int .i64 x11_1 ∧ Aside0 (ladelaw1_CodeSizes.l0 kq a2 (Go.bits .or .i64 (ji8) (Go.bits .and .i64 a1 (wrap64 ((ji8) - 1)))) t202 t203 x11_1 = some r) ∧ Aside0 (kq ≤ k) ∧ Aside0 (Below w.heap.size w w'))
        case atStart => exact ⟨(0), (by first | rfl | (simp; done) | (simp [*]; done)), H', ⟨Nat.le_refl _⟩, ⟨by repeat (first | (with_reducible first | exact HB.out | apply below_alloc | apply pw_below_drewN | apply below_drew1) | exact HB.out)⟩⟩
        case round =>
          clear H'
          try clear c1
          try clear p2
          try clear c5
          try clear c6
          try clear p6
          try clear c7
          try clear c7b0
          try clear c7b1
          try clear c9
          try clear c9b0
          try clear c10
          try clear c10b0
          try clear c13
          try clear c13b0
          try clear c13b1
          try clear c16
          obtain ⟨x11_1, rfl, HA, HK1, HB⟩ := hrel
          cases gk with
          | zero => exact absurd HA.out (by simp [ladelaw1_CodeSizes.l0])
          | succ k1 =>
            have H := HA.out
            clear HA
            simp only [ladelaw1_CodeSizes.l0] at H
            by_cases c17 : x11_1 < (t202.size : Int)
            · rw [if_pos c17] at H
              have c17b0 : decide (x11_1 < (t202.size : Int)) = true := decide_eq_true c17
              clear c17
              by_cases c18 : 0 ≤ x11_1
              · rw [if_pos c18] at H
                have c18b0 : decide (0 ≤ x11_1) = true := decide_eq_true c18
                clear c18
                by_cases c20 : ((decide ((bt t202 x11_1) ≥ 128)) != (decide (x11_1 < (wrap64 ((t202.size : Int) - 1))))) = true
                · rw [if_pos c20] at H
                  have c20b0 : ((decide ((bt t202 x11_1) ≥ 128)) != (decide (x11_1 < (wrap64 ((t202.size : Int) - 1))))) = true := c20
                  (try (have c20b1 : decide ((decide ((bt t202 x11_1) ≥ 128)) = (decide (x11_1 < (wrap64 ((t202.size : Int) - 1))))) = false := by simpa using c20))
                  (try (have c20b2 : ((decide ((bt t202 x11_1) ≥ 128)) == (decide (x11_1 < (wrap64 ((t202.size : Int) - 1))))) = false := by simpa using c20))
                  (try (have c20b3 : ¬ ((decide ((bt t202 x11_1) ≥ 128)) = (decide (x11_1 < (wrap64 ((t202.size : Int) - 1))))) := by simpa using c20))
                  clear c20
                  obtain rfl := Option.some.inj H
                  have p19 : 0 ≤ (x11_1 : Int) := of_decide_eq_true (by first | (with_reducible assumption) | assumption)
                  have q19 : x11_1 < (t202.size : Int) := of_decide_eq_true (by first | (with_reducible assumption) | assumption)
                  have hx19 := bt_at t202 x11_1
                  replace p19 := eq_true p19
                  replace q19 := eq_true q19
                  go_wp2
                  go_ret
                  exact ⟨by first | rfl | (simp [errW_none, errW_some] <;> rfl) | (simp only [← hji6, ← hji8]; first | rfl | (simp [errW_none, errW_some] <;> rfl)) | (simp [*, errW_none, errW_some] <;> rfl), by repeat (first | (with_reducible first | exact HB.out | apply below_alloc | apply pw_below_drewN | apply below_drew1) | exact HB.out)⟩
                · rw [if_neg c20] at H
                  have c20b0 : ((decide ((bt t202 x11_1) ≥ 128)) != (decide (x11_1 < (wrap64 ((t202.size : Int) - 1))))) = false := by simpa using c20
                  (try (have c20b1 : decide ((decide ((bt t202 x11_1) ≥ 128)) = (decide (x11_1 < (wrap64 ((t202.size : Int) - 1))))) = true := by simpa using c20))
                  (try (have c20b2 : ((decide ((bt t202 x11_1) ≥ 128)) == (decide (x11_1 < (wrap64 ((t202.size : Int) - 1))))) = true := by simpa using c20))
                  clear c20
                  have H' := Aside0.mk H
                  clear H
                  have p19 : 0 ≤ (x11_1 : Int) := of_decide_eq_true (by first | (with_reducible assumption) | assumption)
                  have q19 : x11_1 < (t202.size : Int) := of_decide_eq_true (by first | (with_reducible assumption) | assumption)
                  have hx19 := bt_at t202 x11_1
                  replace p19 := eq_true p19
                  replace q19 := eq_true q19
                  go_wp2
                  go_roundg k1
                  case measure => have := HK1.out; omega
                  case rel => exact ⟨(wrap64 (x11_1 + 1)), (by first | rfl | (simp; done) | (simp [*]; done)), H', ⟨by have := HK1.out; omega⟩, ⟨by repeat (first | (with_reducible first | exact HB.out | apply below_alloc | apply pw_below_drewN | apply below_drew1) | exact HB.out)⟩⟩
              · rw [if_neg c18] at H
                exact absurd H (by simp)
            · rw [if_neg c17] at H
              have c17b0 : decide (x11_1 < (t202.size : Int)) = false := decide_eq_false c17
              clear c17
              by_cases c21 : (t203.size : Int) > (t202.size : Int)
              · rw [if_pos c21] at H
                have c21b0 : decide ((t202.size : Int) < (t203.size : Int)) = true := decide_eq_true c21
                have c21b1 : decide (t202.size < t203.size) = true := decide_eq_true (Int.ofNat_lt.mp c21)
                clear c21
                by_cases c22 : 0 ≤ (t202.size : Int)
                · rw [if_pos c22] at H
                  have c22b0 := eq_true c22
                  have c22b1 : decide (0 ≤ (t202.size : Int)) = true := decide_eq_true c22
                  clear c22
                  by_cases c23 : (t202.size : Int) ≤ (t203.size : Int)
                  · rw [if_pos c23] at H
                    have c23b0 := eq_true c23
                    have c23b1 : decide ((t202.size : Int) ≤ (t203.size : Int)) = true := decide_eq_true c23
                    clear c23
                    by_cases c24 : (t203.extract 0 ((t202.size : Int) : Int).toNat).toList = t202.toList
                    · rw [if_pos c24] at H
                      have c24b0 : ((t203.extract 0 ((t202.size : Int) : Int).toNat).toList == t202.toList) = true := beq_iff_eq.mpr c24
                      have c24b0n := c24b0
                      try simp only [Int.toNat_natCast] at c24b0n
                      have c24b1 : ((t203.extract 0 ((t202.size : Int) : Int).toNat).toList != t202.toList) = false := bne_eq_false_iff_eq.mpr c24
                      have c24b1n := c24b1
                      try simp only [Int.toNat_natCast] at c24b1n
                      clear c24
                      by_cases c25 : (t203.size : Int) ≤ (t202.size : Int)
                      · rw [if_pos c25] at H
                        have c25b0 : decide ((t203.size : Int) ≤ (t202.size : Int)) = true := decide_eq_true c25
                        have c25b1 : decide (t203.size ≤ t202.size) = true := decide_eq_true (Int.ofNat_le.mp c25)
                        clear c25
                        by_cases c26 : 0 ≤ (t203.size : Int)
                        · rw [if_pos c26] at H
                          have c26b0 := eq_true c26
                          have c26b1 : decide (0 ≤ (t203.size : Int)) = true := decide_eq_true c26
                          clear c26
                          have c27b0 := eq_true (of_decide_eq_true (by first | (with_reducible assumption) | assumption) : (t203.size : Int) ≤ (t202.size : Int))
                          obtain ⟨ji28, hji28⟩ : ∃ j_ : Int, (mx 0 a2) = j_ := ⟨_, rfl⟩
                          replace H : (some (((t202.extract 0 ((t203.size : Int) : Int).toNat).toList == t203.toList) == ((ji28) == (Go.bits .or .i64 (ji8) (Go.bits .and .i64 a1 (wrap64 ((ji8) - 1))))))) = some r := by first | (rw [hji28] at H; exact H) | (simp only [hji28] at H ⊢; exact H)
                          have hji28_ : (if 0 < a2 then a2 else 0) = ji28 := hji28
                          obtain rfl := Option.some.inj H
                          go_wp2
                          go_ret
                          exact ⟨by first | rfl | (simp [errW_none, errW_some] <;> rfl) | (simp only [← hji6, ← hji8, ← hji28]; first | rfl | (simp [errW_none, errW_some] <;> rfl)) | (simp [*, errW_none, errW_some] <;> rfl), by repeat (first | (with_reducible first | exact HB.out | apply below_alloc | apply pw_below_drewN | apply below_drew1) | exact HB.out)⟩
                        · rw [if_neg c26] at H
                          exact absurd H (by simp)
                      · rw [if_neg c25] at H
                        have c25b0 : decide ((t203.size : Int) ≤ (t202.size : Int)) = false := decide_eq_false c25
                        have c25b1 : decide (t203.size ≤ t202.size) = false := decide_eq_false (fun h => c25 (Int.ofNat_le.mpr h))
                        clear c25
                        obtain rfl := Option.some.inj H
                        go_wp2
                        go_ret
                        exact ⟨by first | rfl | (simp [errW_none, errW_some] <;> rfl) | (simp only [← hji6, ← hji8]; first | rfl | (simp [errW_none, errW_some] <;> rfl)) | (simp [*, errW_none, errW_some] <;> rfl), by repeat (first | (with_reducible first | exact HB.out | apply below_alloc | apply pw_below_drewN | apply below_drew1) | exact HB.out)⟩
                    · rw [if_neg c24] at H
                      have c24b0 : ((t203.extract 0 ((t202.size : Int) : Int).toNat).toList == t202.toList) = false := beq_eq_false_iff_ne.mpr c24
                      have c24b0n := c24b0
                      try simp only [Int.toNat_natCast] at c24b0n
                      have c24b1 : ((t203.extract 0 ((t202.size : Int) : Int).toNat).toList != t202.toList) = true := bne_iff_ne.mpr c24
                      have c24b1n := c24b1
                      try simp only [Int.toNat_natCast] at c24b1n
                      obtain rfl := Option.some.inj H
                      go_wp2
                      go_ret
                      exact ⟨by first | rfl | (simp [errW_none, errW_some] <;> rfl) | (simp only [← hji6, ← hji8]; first | rfl | (simp [errW_none, errW_some] <;> rfl)) | (simp [*, errW_none, errW_some] <;> rfl), by repeat (first | (with_reducible first | exact HB.out | apply below_alloc | apply pw_below_drewN | apply below_drew1) | exact HB.out)⟩
                  · rw [if_neg c23] at H
                    exact absurd H (by simp)
                · rw [if_neg c22] at H
                  exact absurd H (by simp)
              · rw [if_neg c21] at H
                have c21b0 : decide ((t202.size : Int) < (t203.size : Int)) = false := decide_eq_false c21
                have c21b1 : decide (t202.size < t203.size) = false := decide_eq_false (fun h => c21 (Int.ofNat_lt.mpr h))
                clear c21
                by_cases c29 : (t203.size : Int) ≤ (t202.size : Int)
                · rw [if_pos c29] at H
                  have c29b0 : decide ((t203.size : Int) ≤ (t202.size : Int)) = true := decide_eq_true c29
                  have c29b1 : decide (t203.size ≤ t202.size) = true := decide_eq_true (Int.ofNat_le.mp c29)
                  clear c29
                  by_cases c30 : 0 ≤ (t203.size : Int)
                  · rw [if_pos c30] at H
                    have c30b0 := eq_true c30
                    have c30b1 : decide (0 ≤ (t203.size : Int)) = true := decide_eq_true c30
                    clear c30
                    have c31b0 := eq_true (of_decide_eq_true (by first | (with_reducible assumption) | assumption) : (t203.size : Int) ≤ (t202.size : Int))
                    obtain ⟨ji32, hji32⟩ : ∃ j_ : Int, (mx 0 a2) = j_ := ⟨_, rfl⟩
                    replace H : (some (((t202.extract 0 ((t203.size : Int) : Int).toNat).toList == t203.toList) == ((ji32) == (Go.bits .or .i64 (ji8) (Go.bits .and .i64 a1 (wrap64 ((ji8) - 1))))))) = some r := by first | (rw [hji32] at H; exact H) | (simp only [hji32] at H ⊢; exact H)
                    have hji32_ : (if 0 < a2 then a2 else 0) = ji32 := hji32
                    obtain rfl := Option.some.inj H
                    go_wp2
                    go_ret
                    exact ⟨by first | rfl | (simp [errW_none, errW_some] <;> rfl) | (simp only [← hji6, ← hji8, ← hji32]; first | rfl | (simp [errW_none, errW_some] <;> rfl)) | (simp [*, errW_none, errW_some] <;> rfl), by repeat (first | (with_reducible first | exact HB.out | apply below_alloc | apply pw_below_drewN | apply below_drew1) | exact HB.out)⟩
                  · rw [if_neg c30] at H
                    exact absurd H (by simp)
                · rw [if_neg c29] at H
                  have c29b0 : decide ((t203.size : Int) ≤ (t202.size : Int)) = false := decide_eq_false c29
                  have c29b1 : decide (t203.size ≤ t202.size) = false := decide_eq_false (fun h => c29 (Int.ofNat_le.mpr h))
                  clear c29
                  obtain rfl := Option.some.inj H
                  go_wp2
                  go_ret
                  exact ⟨by first | rfl | (simp [errW_none, errW_some] <;> rfl) | (simp only [← hji6, ← hji8]; first | rfl | (simp [errW_none, errW_some] <;> rfl)) | (simp [*, errW_none, errW_some] <;> rfl), by repeat (first | (with_reducible first | exact HB.out | apply below_alloc | apply pw_below_drewN | apply below_drew1) | exact HB.out)⟩
      · rw [if_neg c13] at H
        have c13b0 : ((t202.size : Int) == (wrap64 ((wrap64 (Int.tdiv (wrap64 (Int.tmod a0 62)) 7)) + 1))) = false := beq_eq_false_iff_ne.mpr c13
        have c13b1 : ((t202.size : Int) != (wrap64 ((wrap64 (Int.tdiv (wrap64 (Int.tmod a0 62)) 7)) + 1))) = true := bne_iff_ne.mpr c13
        obtain rfl := Option.some.inj H
        go_enter Try.func6, Try.ntmps6
        go_wp2_with (first | ((with_reducible refine gate_callee (f := 9) rfl ?_); refine goesL_ (some 12) rfl rfl Try.func9 (by kernel_rfl) rfl #[] rfl (by (try simp only [List.map_toArray, List.map_cons, List.map_nil]); first | done | rfl | (simp only [List.length_drop, List.length_take]; rfl)) ?_; (with_reducible refine (ladelaw1_known.calls k  true _ A4.out).mono ?_); rintro e w33 ⟨rfl, hb⟩; refine ⟨_, rfl, ?_⟩; have n0_ := Aside0.mk (below_step (by repeat (first | (with_reducible first | exact HB.out | apply below_alloc | apply pw_below_drewN | apply below_drew1) | exact HB.out)) hb); clear HB; have HB := n0_; clear n0_; (try clear hb); (try clear hb2); (try clear hk); (try clear hi)) | ((with_reducible refine gate_callee (f := 16) rfl ?_); refine goesL_ (some 28) rfl rfl Try.func16 (by kernel_rfl) rfl #[.int .i64 (Go.bits .or .i64 (ji8) (Go.bits .and .i64 a1 (wrap64 ((ji8) - 1))))] rfl (by (try simp only [List.map_toArray, List.map_cons, List.map_nil]); first | done | (simp only [hji8]; rfl) | rfl | (simp only [List.length_drop, List.length_take]; rfl)) ?_; (with_reducible refine (Given.code_Put.calls (Go.bits .or .i64 (ji8) (Go.bits .and .i64 a1 (wrap64 ((ji8) - 1)))) t202 _ A11.out).mono ?_); rintro e w34 ⟨rfl, hb⟩; refine ⟨_, rfl, ?_⟩; have n0_ := Aside0.mk (below_step (by repeat (first | (with_reducible first | exact HB.out | apply below_alloc | apply pw_below_drewN | apply below_drew1) | exact HB.out)) hb); clear HB; have HB := n0_; clear n0_; (try clear hb); (try clear hb2); (try clear hk); (try clear hi)) | ((with_reducible refine gate_callee (f := 16) rfl ?_); refine goesL_ (some 30) rfl rfl Try.func16 (by kernel_rfl) rfl #[.int .i64 a2] rfl (by (try simp only [List.map_toArray, List.map_cons, List.map_nil]); first | done | rfl | (simp only [List.length_drop, List.length_take]; rfl)) ?_; (with_reducible refine (Given.code_Put.calls a2 t203 _ A12.out).mono ?_); rintro e w35 ⟨rfl, hb⟩; refine ⟨_, rfl, ?_⟩; have n0_ := Aside0.mk (below_step (by repeat (first | (with_reducible first | exact HB.out | apply below_alloc | apply pw_below_drewN | apply below_drew1) | exact HB.out)) hb); clear HB; have HB := n0_; clear n0_; (try clear hb); (try clear hb2); (try clear hk); (try clear hi)))
        go_ret
        exact ⟨by first | rfl | (simp [errW_none, errW_some] <;> rfl) | (simp only [← hji6, ← hji8]; first | rfl | (simp [errW_none, errW_some] <;> rfl)) | (simp [*, errW_none, errW_some] <;> rfl), by repeat (first | (with_reducible first | exact HB.out | apply below_alloc | apply pw_below_drewN | apply below_drew1) | exact HB.out)⟩
    · rw [if_neg c7] at H
      exact absurd H (by simp)
  · replace c5 := Bool.eq_false_iff.mpr c5
    subst c5
    have H1 : (some false) = some r := by rw [if_neg (show ¬ (false = true) by decide)] at H; exact H
    clear H
    have H := H1
    clear H1
    obtain rfl := Option.some.inj H
    go_enter Try.func6, Try.ntmps6
    go_wp2_with (first | ((with_reducible refine gate_callee (f := 9) rfl ?_); refine goesL_ (some 12) rfl rfl Try.func9 (by kernel_rfl) rfl #[] rfl (by (try simp only [List.map_toArray, List.map_cons, List.map_nil]); first | done | rfl | (simp only [List.length_drop, List.length_take]; rfl)) ?_; (with_reducible refine (ladelaw1_known.calls k  false _ A4.out).mono ?_); rintro e w36 ⟨rfl, hb⟩; refine ⟨_, rfl, ?_⟩; have n0_ := Aside0.mk (below_step (by repeat (first | (with_reducible first | exact HB.out | apply below_alloc | apply pw_below_drewN | apply below_drew1) | exact HB.out)) hb); clear HB; have HB := n0_; clear n0_; (try clear hb); (try clear hb2); (try clear hk); (try clear hi)))
    go_ret
    exact ⟨by first | rfl | (simp [errW_none, errW_some] <;> rfl) | (simp [*, errW_none, errW_some] <;> rfl), by repeat (first | (with_reducible first | exact HB.out | apply below_alloc | apply pw_below_drewN | apply below_drew1) | exact HB.out)⟩

/-- THE ONE PURE STATEMENT of ladelaw1_CodeSizes: yours. -/
def ladelaw1_CodeSizes.Pure : Prop := ∀ (a0 : Int) (a1 : Int) (a2 : Int), (Lit.int .u8 a0).wf = true → (Lit.int .i64 a1).wf = true → (Lit.int .i64 a2).wf = true → ∃ k, ladelaw1_CodeSizes.f k a0 a1 a2 = some true
theorem ladelaw1_CodeSizes.walk (P : ladelaw1_CodeSizes.Pure) (a0 : Int) (a1 : Int) (a2 : Int) (w : World) (w0 : (Lit.int .u8 a0).wf = true) (w1 : (Lit.int .i64 a1).wf = true) (w2 : (Lit.int .i64 a2).wf = true) :
    Calls Try.prog 6 #[.int .u8 a0, .int .i64 a1, .int .i64 a2] w fun e w' => e = .returned (.bool true) ∧ Below w.heap.size w w' := by
  obtain ⟨k, h⟩ := P a0 a1 a2 w0 w1 w2
  refine (ladelaw1_CodeSizes.calls k a0 a1 a2 true w h).mono ?_
  rintro e w' ⟨rfl, hd⟩
  exact ⟨rfl, hd⟩

-- NOT PRINTED: function 7 (ladelaw1_CodeLong)

/-! ### ladelaw1_CodeBytes: function 8 -/
def ladelaw1_CodeBytes.f (k : Nat) (a0 : Int) (a1 : Int) (a2 : Int) (a3 : Int) (a4 : ByteArray) : Option (Bool) := (ladelaw1_known.f k).bind fun t205 => (if t205 = true then (if (a4.size : Int) > 100 then (some true) else ((some (([a0, a1, a2, a3] : List Int) : List Int)).bind fun y206 => (if (strOfNums y206).size + a4.size ≤ 9223372036854775807 then ((Given.code_Fix.f ((strOfNums y206) ++ a4)).bind fun bt209 => ((code_Fixed.f k bt209.1).bind fun t211 => (if bt209.2 = 0 then (if bt209.1 = ((((a0) % 4294967296) + ((256 * ((((a1) % 4294967296) + ((256 * ((((a2) % 4294967296) + ((256 * ((a3) % 4294967296)) % 4294967296)) % 4294967296)) % 4294967296)) % 4294967296)) % 4294967296)) % 4294967296) then (some (t211.toList == (strOfNums (([a0, a1, a2, a3] : List Int))).toList)) else (some false)) else (some false)))) else (none)))) else (some false))
theorem ladelaw1_CodeBytes.mono : ∀ a0 a1 a2 a3 a4 k, LeO (ladelaw1_CodeBytes.f k a0 a1 a2 a3 a4) (ladelaw1_CodeBytes.f (k + 1) a0 a1 a2 a3 a4) := by
  intro a0 a1 a2 a3 a4 k
  unfold ladelaw1_CodeBytes.f
  repeat' first
      | (with_reducible exact code_Fixed.mono _ _)
      | (with_reducible exact ladelaw1_known.mono _)
      | (with_reducible exact LeO.refl _)
      | (with_reducible exact LeO.none _)
      | (with_reducible refine LeO.ite ?_ ?_)
      | (with_reducible refine LeO.bind ?_ (fun _ => ?_))
      | exact code_Fixed.mono _ _
      | exact ladelaw1_known.mono _
      | exact LeO.none _
      | refine LeO.ite ?_ ?_
      | refine LeO.bind ?_ (fun _ => ?_)
set_option maxHeartbeats 8000000 in
set_option maxRecDepth 100000 in
theorem ladelaw1_CodeBytes.calls (k : Nat) (a0 : Int) (a1 : Int) (a2 : Int) (a3 : Int) (a4 : ByteArray) (r : Bool) (w : World) (h : ladelaw1_CodeBytes.f k a0 a1 a2 a3 a4 = some r) :
    Calls Try.prog 8 #[.int .u8 a0, .int .u8 a1, .int .u8 a2, .int .u8 a3, .string a4] w fun e w' => e = .returned (.bool r) ∧ Below w.heap.size w w' := by
  have HB := Aside0.mk (Below.refl w.heap.size w)
  have H : ((ladelaw1_known.f k).bind fun t205 => (if t205 = true then (if (a4.size : Int) > 100 then (some true) else ((some (([a0, a1, a2, a3] : List Int) : List Int)).bind fun y206 => (if (strOfNums y206).size + a4.size ≤ 9223372036854775807 then ((Given.code_Fix.f ((strOfNums y206) ++ a4)).bind fun bt209 => ((code_Fixed.f k bt209.1).bind fun t211 => (if bt209.2 = 0 then (if bt209.1 = ((((a0) % 4294967296) + ((256 * ((((a1) % 4294967296) + ((256 * ((((a2) % 4294967296) + ((256 * ((a3) % 4294967296)) % 4294967296)) % 4294967296)) % 4294967296)) % 4294967296)) % 4294967296)) % 4294967296) then (some (t211.toList == (strOfNums (([a0, a1, a2, a3] : List Int))).toList)) else (some false)) else (some false)))) else (none)))) else (some false))) = some r := h
  clear h
  replace H := Option.bind_eq_some_iff.mp H
  obtain ⟨t205, A60, H⟩ := H
  replace H : (if t205 = true then (if (a4.size : Int) > 100 then (some true) else ((some (([a0, a1, a2, a3] : List Int) : List Int)).bind fun y206 => (if (strOfNums y206).size + a4.size ≤ 9223372036854775807 then ((Given.code_Fix.f ((strOfNums y206) ++ a4)).bind fun bt209 => ((code_Fixed.f k bt209.1).bind fun t211 => (if bt209.2 = 0 then (if bt209.1 = ((((a0) % 4294967296) + ((256 * ((((a1) % 4294967296) + ((256 * ((((a2) % 4294967296) + ((256 * ((a3) % 4294967296)) % 4294967296)) % 4294967296)) % 4294967296)) % 4294967296)) % 4294967296)) % 4294967296) then (some (t211.toList == (strOfNums (([a0, a1, a2, a3] : List Int))).toList)) else (some false)) else (some false)))) else (none)))) else (some false)) = some r := H
  have A6 := Aside0.mk A60
  clear A60
  by_cases c7 : t205 = true
  · subst c7
    have H1 : (if (a4.size : Int) > 100 then (some true) else ((some (([a0, a1, a2, a3] : List Int) : List Int)).bind fun y206 => (if (strOfNums y206).size + a4.size ≤ 9223372036854775807 then ((Given.code_Fix.f ((strOfNums y206) ++ a4)).bind fun bt209 => ((code_Fixed.f k bt209.1).bind fun t211 => (if bt209.2 = 0 then (if bt209.1 = ((((a0) % 4294967296) + ((256 * ((((a1) % 4294967296) + ((256 * ((((a2) % 4294967296) + ((256 * ((a3) % 4294967296)) % 4294967296)) % 4294967296)) % 4294967296)) % 4294967296)) % 4294967296)) % 4294967296) then (some (t211.toList == (strOfNums (([a0, a1, a2, a3] : List Int))).toList)) else (some false)) else (some false)))) else (none)))) = some r := by rw [if_pos rfl] at H; exact H
    clear H
    have H := H1
    clear H1
    by_cases c8 : (a4.size : Int) > 100
    · rw [if_pos c8] at H
      have c8b0 : decide (100 < (a4.size : Int)) = true := decide_eq_true c8
      have c8b1 : decide (100 < a4.size) = true := decide_eq_true (by omega)
      clear c8
      obtain rfl := Option.some.inj H
      go_enter Try.func8, Try.ntmps8
      go_wp2_with (first | ((with_reducible refine gate_callee (f := 9) rfl ?_); refine goesL_ (some 14) rfl rfl Try.func9 (by kernel_rfl) rfl #[] rfl (by (try simp only [List.map_toArray, List.map_cons, List.map_nil]); first | done | rfl | (simp only [List.length_drop, List.length_take]; rfl)) ?_; (with_reducible refine (ladelaw1_known.calls k  true _ A6.out).mono ?_); rintro e w9 ⟨rfl, hb⟩; refine ⟨_, rfl, ?_⟩; have n0_ := Aside0.mk (below_step (by repeat (first | (with_reducible first | exact HB.out | apply below_alloc | apply pw_below_drewN | apply below_drew1) | exact HB.out)) hb); clear HB; have HB := n0_; clear n0_; (try clear hb); (try clear hb2); (try clear hk); (try clear hi)))
      go_ret
      exact ⟨by first | rfl | (simp [errW_none, errW_some] <;> rfl) | (simp [*, errW_none, errW_some] <;> rfl), by repeat (first | (with_reducible first | exact HB.out | apply below_alloc | apply pw_below_drewN | apply below_drew1) | exact HB.out)⟩
    · rw [if_neg c8] at H
      have c8b0 : decide (100 < (a4.size : Int)) = false := decide_eq_false c8
      have c8b1 : decide (100 < a4.size) = false := decide_eq_false (by omega)
      clear c8
      obtain ⟨y206, hy206⟩ : ∃ y_ : List Int, y_ = (([a0, a1, a2, a3] : List Int)) := ⟨_, rfl⟩
      replace H : (if (strOfNums y206).size + a4.size ≤ 9223372036854775807 then ((Given.code_Fix.f ((strOfNums y206) ++ a4)).bind fun bt209 => ((code_Fixed.f k bt209.1).bind fun t211 => (if bt209.2 = 0 then (if bt209.1 = ((((a0) % 4294967296) + ((256 * ((((a1) % 4294967296) + ((256 * ((((a2) % 4294967296) + ((256 * ((a3) % 4294967296)) % 4294967296)) % 4294967296)) % 4294967296)) % 4294967296)) % 4294967296)) % 4294967296) then (some (t211.toList == (strOfNums (([a0, a1, a2, a3] : List Int))).toList)) else (some false)) else (some false)))) else (none)) = some r := by first | (rw [hy206]; with_reducible exact H) | (have H2_ := (Option.bind_some _ _).symm.trans H; rw [hy206]; with_reducible exact H2_) | (have H2_ := (Option.bind_some _ _).symm.trans H; with_reducible exact H2_) | with_reducible exact H | (rw [hy206]; exact H) | exact H
      have Ny206 := Aside0.mk hy206
      clear hy206
      by_cases c10 : (strOfNums y206).size + a4.size ≤ 9223372036854775807
      · rw [if_pos c10] at H
        have c10b0 := eq_true c10
        have c10b1 : decide ((strOfNums y206).size + a4.size ≤ 9223372036854775807) = true := decide_eq_true c10
        try have c10b2 : (9223372036854775807 < (strOfNums y206).size + a4.size) = False := eq_false (Nat.not_lt.2 c10)
        replace H := Option.bind_eq_some_iff.mp H
        obtain ⟨⟨t209, t210⟩, A110, H⟩ := H
        replace H : ((code_Fixed.f k t209).bind fun t211 => (if t210 = 0 then (if t209 = ((((a0) % 4294967296) + ((256 * ((((a1) % 4294967296) + ((256 * ((((a2) % 4294967296) + ((256 * ((a3) % 4294967296)) % 4294967296)) % 4294967296)) % 4294967296)) % 4294967296)) % 4294967296)) % 4294967296) then (some (t211.toList == (strOfNums (([a0, a1, a2, a3] : List Int))).toList)) else (some false)) else (some false))) = some r := H
        have A11 := Aside0.mk A110
        clear A110
        replace H := Option.bind_eq_some_iff.mp H
        obtain ⟨t211, A120, H⟩ := H
        replace H : (if t210 = 0 then (if t209 = ((((a0) % 4294967296) + ((256 * ((((a1) % 4294967296) + ((256 * ((((a2) % 4294967296) + ((256 * ((a3) % 4294967296)) % 4294967296)) % 4294967296)) % 4294967296)) % 4294967296)) % 4294967296)) % 4294967296) then (some (t211.toList == (strOfNums (([a0, a1, a2, a3] : List Int))).toList)) else (some false)) else (some false)) = some r := H
        have A12 := Aside0.mk A120
        clear A120
        by_cases c13 : t210 = 0
        · rw [if_pos c13] at H
          have c13b0 : (t210 == 0) = true := beq_iff_eq.mpr c13
          have c13b1 : (t210 != 0) = false := bne_eq_false_iff_eq.mpr c13
          clear c13
          by_cases c14 : t209 = ((((a0) % 4294967296) + ((256 * ((((a1) % 4294967296) + ((256 * ((((a2) % 4294967296) + ((256 * ((a3) % 4294967296)) % 4294967296)) % 4294967296)) % 4294967296)) % 4294967296)) % 4294967296)) % 4294967296)
          · rw [if_pos c14] at H
            have c14b0 : (t209 == ((((a0) % 4294967296) + ((256 * ((((a1) % 4294967296) + ((256 * ((((a2) % 4294967296) + ((256 * ((a3) % 4294967296)) % 4294967296)) % 4294967296)) % 4294967296)) % 4294967296)) % 4294967296)) % 4294967296)) = true := beq_iff_eq.mpr c14
            have c14s := c14b0
            simp only [Int.emod_add_emod, Int.add_emod_emod] at c14s
            have c14b1 : (t209 != ((((a0) % 4294967296) + ((256 * ((((a1) % 4294967296) + ((256 * ((((a2) % 4294967296) + ((256 * ((a3) % 4294967296)) % 4294967296)) % 4294967296)) % 4294967296)) % 4294967296)) % 4294967296)) % 4294967296)) = false := bne_eq_false_iff_eq.mpr c14
            clear c14
            obtain ⟨y212, hy212⟩ : ∃ y_ : List Int, y_ = (([a0, a1, a2, a3] : List Int)) := ⟨_, rfl⟩
            replace H : (some (t211.toList == (strOfNums y212).toList)) = some r := by first | (rw [hy212]; with_reducible exact H) | (have H2_ := (Option.bind_some _ _).symm.trans H; rw [hy212]; with_reducible exact H2_) | (have H2_ := (Option.bind_some _ _).symm.trans H; with_reducible exact H2_) | with_reducible exact H | (rw [hy212]; exact H) | exact H
            have Ny212 := Aside0.mk hy212
            clear hy212
            obtain rfl := Option.some.inj H
            go_enter Try.func8, Try.ntmps8
            go_wp2_with (first | ((with_reducible refine gate_callee (f := 9) rfl ?_); refine goesL_ (some 14) rfl rfl Try.func9 (by kernel_rfl) rfl #[] rfl (by (try simp only [List.map_toArray, List.map_cons, List.map_nil]); first | done | rfl | (simp only [List.length_drop, List.length_take]; rfl)) ?_; (with_reducible refine (ladelaw1_known.calls k  true _ A6.out).mono ?_); rintro e w15 ⟨rfl, hb⟩; refine ⟨_, rfl, ?_⟩; have n0_ := Aside0.mk (below_step (by repeat (first | (with_reducible first | exact HB.out | apply below_alloc | apply pw_below_drewN | apply below_drew1) | exact HB.out)) hb); clear HB; have HB := n0_; clear n0_; (try clear hb); (try clear hb2); (try clear hk); (try clear hi)) | ((with_reducible refine gate_dst (N := 24) rfl ?_); (try (refine gate_guard (by rfl) ?_; dsimp only)); refine Kd.R_lit (Kd.int .u8) _ 5 ?hg (N := 24) ?hd (xs := ([a0, a1, a2, a3] : List Int)) (inner := [.int .u8 a0, .int .u8 a1, .int .u8 a2, .int .u8 a3]) (ok := fun _ => True) (okp := fun _ => True) ?hr ?hp (fun _ hk => hk) trivial (Below.refl _ _) (Nat.le_refl _) (by simp) ?_; (case hd => rfl); (case hg => rfl); (case hr => first | (go_simp; done) | (go_simp; rfl)); (case hp => exact (Reps.one (show Kd.M (Kd.int .u8) _ _ _ a0 [.int .u8 a0] from rfl) (Reps.one (show Kd.M (Kd.int .u8) _ _ _ a1 [.int .u8 a1] from rfl) (Reps.one (show Kd.M (Kd.int .u8) _ _ _ a2 [.int .u8 a2] from rfl) (Reps.one (show Kd.M (Kd.int .u8) _ _ _ a3 [.int .u8 a3] from rfl) (Reps.none _ _)))))); intro v207 w16 ho17 hb hg_ hnew_; clear hg_ hnew_; (first | rw [← Ny206.out] at ho17 | (simp only [Int.reduceToNat] at ho17; rw [← Ny206.out] at ho17)); have n0_ := Aside0.mk (Kd.R_lower ho17 (below_size (by repeat (first | (with_reducible first | exact HB.out | apply below_alloc | apply pw_below_drewN | apply below_drew1) | exact HB.out)))); have n1_ := Aside0.mk (below_step (by repeat (first | (with_reducible first | exact HB.out | apply below_alloc | apply pw_below_drewN | apply below_drew1) | exact HB.out)) hb); clear HB; have HO208 := n0_; have HB := n1_; clear n0_ n1_; clear hb ho17; have hcv18 := own_string (P := Try.prog) Try.underlying46 Try.underlying5 Try.underlying9 (Kd.own_of_R HO208.out)) | ((with_reducible refine gate_callee (f := 14) rfl ?_); refine goesL_ (some 28) rfl rfl Try.func14 (by kernel_rfl) rfl #[.string ((strOfNums y206) ++ a4)] rfl (by (try simp only [List.map_toArray, List.map_cons, List.map_nil]); first | done | rfl | (simp only [List.length_drop, List.length_take]; rfl)) ?_; (with_reducible refine (Given.code_Fix.calls ((strOfNums y206) ++ a4) t209 t210 _ A11.out).mono ?_); rintro e w19 ⟨rfl, hb⟩; refine ⟨_, rfl, ?_⟩; have n0_ := Aside0.mk (Kd.R_below (by (with_reducible repeat (first | apply Kd.R_alloc | apply Kd.R_drewN | apply Kd.R_drew)); exact HO208.out) hb); have n1_ := Aside0.mk (below_step (by repeat (first | (with_reducible first | exact HB.out | apply below_alloc | apply pw_below_drewN | apply below_drew1) | exact HB.out)) hb); clear HO208; clear HB; have HO208 := n0_; have HB := n1_; clear n0_ n1_; (try clear hb); (try clear hb2); (try clear hk); (try clear hi)) | ((with_reducible refine gate_callee (f := 20) rfl ?_); refine goesL_ (some 32) rfl rfl Try.func20 (by kernel_rfl) rfl #[.int .u32 t209] rfl (by (try simp only [List.map_toArray, List.map_cons, List.map_nil]); first | done | rfl | (simp only [List.length_drop, List.length_take]; rfl)) ?_; (with_reducible refine (code_Fixed.calls k t209 t211 _ A12.out).mono ?_); rintro e w20 ⟨rfl, hb⟩; refine ⟨_, rfl, ?_⟩; have n0_ := Aside0.mk (Kd.R_below (by (with_reducible repeat (first | apply Kd.R_alloc | apply Kd.R_drewN | apply Kd.R_drew)); exact HO208.out) hb); have n1_ := Aside0.mk (below_step (by repeat (first | (with_reducible first | exact HB.out | apply below_alloc | apply pw_below_drewN | apply below_drew1) | exact HB.out)) hb); clear HO208; clear HB; have HO208 := n0_; have HB := n1_; clear n0_ n1_; (try clear hb); (try clear hb2); (try clear hk); (try clear hi)) | ((with_reducible refine gate_dst (N := 59) rfl ?_); (try (refine gate_guard (by rfl) ?_; dsimp only)); refine Kd.R_lit (Kd.int .u8) _ 5 ?hg (N := 59) ?hd (xs := ([a0, a1, a2, a3] : List Int)) (inner := [.int .u8 a0, .int .u8 a1, .int .u8 a2, .int .u8 a3]) (ok := fun _ => True) (okp := fun _ => True) ?hr ?hp (fun _ hk => hk) trivial (Below.refl _ _) (Nat.le_refl _) (by simp) ?_; (case hd => rfl); (case hg => rfl); (case hr => first | (go_simp; done) | (go_simp; rfl)); (case hp => exact (Reps.one (show Kd.M (Kd.int .u8) _ _ _ a0 [.int .u8 a0] from rfl) (Reps.one (show Kd.M (Kd.int .u8) _ _ _ a1 [.int .u8 a1] from rfl) (Reps.one (show Kd.M (Kd.int .u8) _ _ _ a2 [.int .u8 a2] from rfl) (Reps.one (show Kd.M (Kd.int .u8) _ _ _ a3 [.int .u8 a3] from rfl) (Reps.none _ _)))))); intro v213 w21 ho22 hb hg_ hnew_; clear hg_ hnew_; (first | rw [← Ny212.out] at ho22 | (simp only [Int.reduceToNat] at ho22; rw [← Ny212.out] at ho22)); have n0_ := Aside0.mk (Kd.R_elder' (by (with_reducible repeat (first | apply Kd.R_alloc | apply Kd.R_drewN | apply Kd.R_drew)); exact HO208.out) (Kd.R_base ho22) hb); have n1_ := Aside0.mk (Kd.R_lower (Kd.R_new' ho22 (Kd.R_lt (by (with_reducible repeat (first | apply Kd.R_alloc | apply Kd.R_drewN | apply Kd.R_drew)); exact HO208.out))) (below_size (by repeat (first | (with_reducible first | exact HB.out | apply below_alloc | apply pw_below_drewN | apply below_drew1) | exact HB.out)))); have n2_ := Aside0.mk (below_step (by repeat (first | (with_reducible first | exact HB.out | apply below_alloc | apply pw_below_drewN | apply below_drew1) | exact HB.out)) hb); clear HO208; clear HB; have HO208 := n0_; have HO214 := n1_; have HB := n2_; clear n0_ n1_ n2_; clear hb ho22; have hcv23 := own_string (P := Try.prog) Try.underlying46 Try.underlying5 Try.underlying9 (Kd.own_of_R HO214.out)))
            go_ret
            exact ⟨by first | rfl | (simp [errW_none, errW_some] <;> rfl) | (simp [*, errW_none, errW_some] <;> rfl), by repeat (first | (with_reducible first | exact HB.out | apply below_alloc | apply pw_below_drewN | apply below_drew1) | exact HB.out)⟩
          · rw [if_neg c14] at H
            have c14b0 : (t209 == ((((a0) % 4294967296) + ((256 * ((((a1) % 4294967296) + ((256 * ((((a2) % 4294967296) + ((256 * ((a3) % 4294967296)) % 4294967296)) % 4294967296)) % 4294967296)) % 4294967296)) % 4294967296)) % 4294967296)) = false := beq_eq_false_iff_ne.mpr c14
            have c14b1 : (t209 != ((((a0) % 4294967296) + ((256 * ((((a1) % 4294967296) + ((256 * ((((a2) % 4294967296) + ((256 * ((a3) % 4294967296)) % 4294967296)) % 4294967296)) % 4294967296)) % 4294967296)) % 4294967296)) % 4294967296)) = true := bne_iff_ne.mpr c14
            obtain rfl := Option.some.inj H
            go_enter Try.func8, Try.ntmps8
            go_wp2_with (first | ((with_reducible refine gate_callee (f := 9) rfl ?_); refine goesL_ (some 14) rfl rfl Try.func9 (by kernel_rfl) rfl #[] rfl (by (try simp only [List.map_toArray, List.map_cons, List.map_nil]); first | done | rfl | (simp only [List.length_drop, List.length_take]; rfl)) ?_; (with_reducible refine (ladelaw1_known.calls k  true _ A6.out).mono ?_); rintro e w24 ⟨rfl, hb⟩; refine ⟨_, rfl, ?_⟩; have n0_ := Aside0.mk (below_step (by repeat (first | (with_reducible first | exact HB.out | apply below_alloc | apply pw_below_drewN | apply below_drew1) | exact HB.out)) hb); clear HB; have HB := n0_; clear n0_; (try clear hb); (try clear hb2); (try clear hk); (try clear hi)) | ((with_reducible refine gate_dst (N := 24) rfl ?_); (try (refine gate_guard (by rfl) ?_; dsimp only)); refine Kd.R_lit (Kd.int .u8) _ 5 ?hg (N := 24) ?hd (xs := ([a0, a1, a2, a3] : List Int)) (inner := [.int .u8 a0, .int .u8 a1, .int .u8 a2, .int .u8 a3]) (ok := fun _ => True) (okp := fun _ => True) ?hr ?hp (fun _ hk => hk) trivial (Below.refl _ _) (Nat.le_refl _) (by simp) ?_; (case hd => rfl); (case hg => rfl); (case hr => first | (go_simp; done) | (go_simp; rfl)); (case hp => exact (Reps.one (show Kd.M (Kd.int .u8) _ _ _ a0 [.int .u8 a0] from rfl) (Reps.one (show Kd.M (Kd.int .u8) _ _ _ a1 [.int .u8 a1] from rfl) (Reps.one (show Kd.M (Kd.int .u8) _ _ _ a2 [.int .u8 a2] from rfl) (Reps.one (show Kd.M (Kd.int .u8) _ _ _ a3 [.int .u8 a3] from rfl) (Reps.none _ _)))))); intro v207 w25 ho26 hb hg_ hnew_; clear hg_ hnew_; (first | rw [← Ny206.out] at ho26 | (simp only [Int.reduceToNat] at ho26; rw [← Ny206.out] at ho26)); have n0_ := Aside0.mk (Kd.R_lower ho26 (below_size (by repeat (first | (with_reducible first | exact HB.out | apply below_alloc | apply pw_below_drewN | apply below_drew1) | exact HB.out)))); have n1_ := Aside0.mk (below_step (by repeat (first | (with_reducible first | exact HB.out | apply below_alloc | apply pw_below_drewN | apply below_drew1) | exact HB.out)) hb); clear HB; have HO208 := n0_; have HB := n1_; clear n0_ n1_; clear hb ho26; have hcv27 := own_string (P := Try.prog) Try.underlying46 Try.underlying5 Try.underlying9 (Kd.own_of_R HO208.out)) | ((with_reducible refine gate_callee (f := 14) rfl ?_); refine goesL_ (some 28) rfl rfl Try.func14 (by kernel_rfl) rfl #[.string ((strOfNums y206) ++ a4)] rfl (by (try simp only [List.map_toArray, List.map_cons, List.map_nil]); first | done | rfl | (simp only [List.length_drop, List.length_take]; rfl)) ?_; (with_reducible refine (Given.code_Fix.calls ((strOfNums y206) ++ a4) t209 t210 _ A11.out).mono ?_); rintro e w28 ⟨rfl, hb⟩; refine ⟨_, rfl, ?_⟩; have n0_ := Aside0.mk (Kd.R_below (by (with_reducible repeat (first | apply Kd.R_alloc | apply Kd.R_drewN | apply Kd.R_drew)); exact HO208.out) hb); have n1_ := Aside0.mk (below_step (by repeat (first | (with_reducible first | exact HB.out | apply below_alloc | apply pw_below_drewN | apply below_drew1) | exact HB.out)) hb); clear HO208; clear HB; have HO208 := n0_; have HB := n1_; clear n0_ n1_; (try clear hb); (try clear hb2); (try clear hk); (try clear hi)) | ((with_reducible refine gate_callee (f := 20) rfl ?_); refine goesL_ (some 32) rfl rfl Try.func20 (by kernel_rfl) rfl #[.int .u32 t209] rfl (by (try simp only [List.map_toArray, List.map_cons, List.map_nil]); first | done | rfl | (simp only [List.length_drop, List.length_take]; rfl)) ?_; (with_reducible refine (code_Fixed.calls k t209 t211 _ A12.out).mono ?_); rintro e w29 ⟨rfl, hb⟩; refine ⟨_, rfl, ?_⟩; have n0_ := Aside0.mk (Kd.R_below (by (with_reducible repeat (first | apply Kd.R_alloc | apply Kd.R_drewN | apply Kd.R_drew)); exact HO208.out) hb); have n1_ := Aside0.mk (below_step (by repeat (first | (with_reducible first | exact HB.out | apply below_alloc | apply pw_below_drewN | apply below_drew1) | exact HB.out)) hb); clear HO208; clear HB; have HO208 := n0_; have HB := n1_; clear n0_ n1_; (try clear hb); (try clear hb2); (try clear hk); (try clear hi)))
            go_ret
            exact ⟨by first | rfl | (simp [errW_none, errW_some] <;> rfl) | (simp [*, errW_none, errW_some] <;> rfl), by repeat (first | (with_reducible first | exact HB.out | apply below_alloc | apply pw_below_drewN | apply below_drew1) | exact HB.out)⟩
        · rw [if_neg c13] at H
          have c13b0 : (t210 == 0) = false := beq_eq_false_iff_ne.mpr c13
          have c13b1 : (t210 != 0) = true := bne_iff_ne.mpr c13
          obtain rfl := Option.some.inj H
          go_enter Try.func8, Try.ntmps8
          go_wp2_with (first | ((with_reducible refine gate_callee (f := 9) rfl ?_); refine goesL_ (some 14) rfl rfl Try.func9 (by kernel_rfl) rfl #[] rfl (by (try simp only [List.map_toArray, List.map_cons, List.map_nil]); first | done | rfl | (simp only [List.length_drop, List.length_take]; rfl)) ?_; (with_reducible refine (ladelaw1_known.calls k  true _ A6.out).mono ?_); rintro e w30 ⟨rfl, hb⟩; refine ⟨_, rfl, ?_⟩; have n0_ := Aside0.mk (below_step (by repeat (first | (with_reducible first | exact HB.out | apply below_alloc | apply pw_below_drewN | apply below_drew1) | exact HB.out)) hb); clear HB; have HB := n0_; clear n0_; (try clear hb); (try clear hb2); (try clear hk); (try clear hi)) | ((with_reducible refine gate_dst (N := 24) rfl ?_); (try (refine gate_guard (by rfl) ?_; dsimp only)); refine Kd.R_lit (Kd.int .u8) _ 5 ?hg (N := 24) ?hd (xs := ([a0, a1, a2, a3] : List Int)) (inner := [.int .u8 a0, .int .u8 a1, .int .u8 a2, .int .u8 a3]) (ok := fun _ => True) (okp := fun _ => True) ?hr ?hp (fun _ hk => hk) trivial (Below.refl _ _) (Nat.le_refl _) (by simp) ?_; (case hd => rfl); (case hg => rfl); (case hr => first | (go_simp; done) | (go_simp; rfl)); (case hp => exact (Reps.one (show Kd.M (Kd.int .u8) _ _ _ a0 [.int .u8 a0] from rfl) (Reps.one (show Kd.M (Kd.int .u8) _ _ _ a1 [.int .u8 a1] from rfl) (Reps.one (show Kd.M (Kd.int .u8) _ _ _ a2 [.int .u8 a2] from rfl) (Reps.one (show Kd.M (Kd.int .u8) _ _ _ a3 [.int .u8 a3] from rfl) (Reps.none _ _)))))); intro v207 w31 ho32 hb hg_ hnew_; clear hg_ hnew_; (first | rw [← Ny206.out] at ho32 | (simp only [Int.reduceToNat] at ho32; rw [← Ny206.out] at ho32)); have n0_ := Aside0.mk (Kd.R_lower ho32 (below_size (by repeat (first | (with_reducible first | exact HB.out | apply below_alloc | apply pw_below_drewN | apply below_drew1) | exact HB.out)))); have n1_ := Aside0.mk (below_step (by repeat (first | (with_reducible first | exact HB.out | apply below_alloc | apply pw_below_drewN | apply below_drew1) | exact HB.out)) hb); clear HB; have HO208 := n0_; have HB := n1_; clear n0_ n1_; clear hb ho32; have hcv33 := own_string (P := Try.prog) Try.underlying46 Try.underlying5 Try.underlying9 (Kd.own_of_R HO208.out)) | ((with_reducible refine gate_callee (f := 14) rfl ?_); refine goesL_ (some 28) rfl rfl Try.func14 (by kernel_rfl) rfl #[.string ((strOfNums y206) ++ a4)] rfl (by (try simp only [List.map_toArray, List.map_cons, List.map_nil]); first | done | rfl | (simp only [List.length_drop, List.length_take]; rfl)) ?_; (with_reducible refine (Given.code_Fix.calls ((strOfNums y206) ++ a4) t209 t210 _ A11.out).mono ?_); rintro e w34 ⟨rfl, hb⟩; refine ⟨_, rfl, ?_⟩; have n0_ := Aside0.mk (Kd.R_below (by (with_reducible repeat (first | apply Kd.R_alloc | apply Kd.R_drewN | apply Kd.R_drew)); exact HO208.out) hb); have n1_ := Aside0.mk (below_step (by repeat (first | (with_reducible first | exact HB.out | apply below_alloc | apply pw_below_drewN | apply below_drew1) | exact HB.out)) hb); clear HO208; clear HB; have HO208 := n0_; have HB := n1_; clear n0_ n1_; (try clear hb); (try clear hb2); (try clear hk); (try clear hi)) | ((with_reducible refine gate_callee (f := 20) rfl ?_); refine goesL_ (some 32) rfl rfl Try.func20 (by kernel_rfl) rfl #[.int .u32 t209] rfl (by (try simp only [List.map_toArray, List.map_cons, List.map_nil]); first | done | rfl | (simp only [List.length_drop, List.length_take]; rfl)) ?_; (with_reducible refine (code_Fixed.calls k t209 t211 _ A12.out).mono ?_); rintro e w35 ⟨rfl, hb⟩; refine ⟨_, rfl, ?_⟩; have n0_ := Aside0.mk (Kd.R_below (by (with_reducible repeat (first | apply Kd.R_alloc | apply Kd.R_drewN | apply Kd.R_drew)); exact HO208.out) hb); have n1_ := Aside0.mk (below_step (by repeat (first | (with_reducible first | exact HB.out | apply below_alloc | apply pw_below_drewN | apply below_drew1) | exact HB.out)) hb); clear HO208; clear HB; have HO208 := n0_; have HB := n1_; clear n0_ n1_; (try clear hb); (try clear hb2); (try clear hk); (try clear hi)))
          go_ret
          exact ⟨by first | rfl | (simp [errW_none, errW_some] <;> rfl) | (simp [*, errW_none, errW_some] <;> rfl), by repeat (first | (with_reducible first | exact HB.out | apply below_alloc | apply pw_below_drewN | apply below_drew1) | exact HB.out)⟩
      · rw [if_neg c10] at H
        exact absurd H (by simp)
  · replace c7 := Bool.eq_false_iff.mpr c7
    subst c7
    have H1 : (some false) = some r := by rw [if_neg (show ¬ (false = true) by decide)] at H; exact H
    clear H
    have H := H1
    clear H1
    obtain rfl := Option.some.inj H
    go_enter Try.func8, Try.ntmps8
    go_wp2_with (first | ((with_reducible refine gate_callee (f := 9) rfl ?_); refine goesL_ (some 14) rfl rfl Try.func9 (by kernel_rfl) rfl #[] rfl (by (try simp only [List.map_toArray, List.map_cons, List.map_nil]); first | done | rfl | (simp only [List.length_drop, List.length_take]; rfl)) ?_; (with_reducible refine (ladelaw1_known.calls k  false _ A6.out).mono ?_); rintro e w36 ⟨rfl, hb⟩; refine ⟨_, rfl, ?_⟩; have n0_ := Aside0.mk (below_step (by repeat (first | (with_reducible first | exact HB.out | apply below_alloc | apply pw_below_drewN | apply below_drew1) | exact HB.out)) hb); clear HB; have HB := n0_; clear n0_; (try clear hb); (try clear hb2); (try clear hk); (try clear hi)))
    go_ret
    exact ⟨by first | rfl | (simp [errW_none, errW_some] <;> rfl) | (simp [*, errW_none, errW_some] <;> rfl), by repeat (first | (with_reducible first | exact HB.out | apply below_alloc | apply pw_below_drewN | apply below_drew1) | exact HB.out)⟩

/-- THE ONE PURE STATEMENT of ladelaw1_CodeBytes: yours. -/
def ladelaw1_CodeBytes.Pure : Prop := ∀ (a0 : Int) (a1 : Int) (a2 : Int) (a3 : Int) (a4 : ByteArray), (Lit.int .u8 a0).wf = true → (Lit.int .u8 a1).wf = true → (Lit.int .u8 a2).wf = true → (Lit.int .u8 a3).wf = true → a4.size ≤ 140737488351232 → ∃ k, ladelaw1_CodeBytes.f k a0 a1 a2 a3 a4 = some true
theorem ladelaw1_CodeBytes.walk (P : ladelaw1_CodeBytes.Pure) (a0 : Int) (a1 : Int) (a2 : Int) (a3 : Int) (a4 : ByteArray) (w : World) (w0 : (Lit.int .u8 a0).wf = true) (w1 : (Lit.int .u8 a1).wf = true) (w2 : (Lit.int .u8 a2).wf = true) (w3 : (Lit.int .u8 a3).wf = true) (w4 : a4.size ≤ 140737488351232) :
    Calls Try.prog 8 #[.int .u8 a0, .int .u8 a1, .int .u8 a2, .int .u8 a3, .string a4] w fun e w' => e = .returned (.bool true) ∧ Below w.heap.size w w' := by
  obtain ⟨k, h⟩ := P a0 a1 a2 a3 a4 w0 w1 w2 w3 w4
  refine (ladelaw1_CodeBytes.calls k a0 a1 a2 a3 a4 true w h).mono ?_
  rintro e w' ⟨rfl, hd⟩
  exact ⟨rfl, hd⟩

end Go.Proofs.Ytangohljdpjgeaa.Q
