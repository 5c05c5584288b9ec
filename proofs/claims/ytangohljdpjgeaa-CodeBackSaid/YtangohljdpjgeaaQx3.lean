-- Made by a program of this session (pr.py), out of the kit's printer with contracts of its own: Lean checks it.
import Derived.Test.YtangohljdpjgeaaQx0
import Derived.Test.YtangohljdpjgeaaQx1
namespace Go.Proofs.Ytangohljdpjgeaa.Q
open Go.RowKit Go.Proofs.YtangohljdpjgeaaW.PrintWords Go.Proofs.YtangohljdpjgeaaW.PrintLast Go.Proofs.YtangohljdpjgeaaW.PrintMore
attribute [local go_sem] max2_int min2_int max_two min_two max_three min_three max_four min_four   -- for this text's walks alone
set_option linter.unusedVariables false
set_option linter.unusedSimpArgs false

/-! ### ladelaw1_CodeBack: function 4 -/
mutual
def ladelaw1_CodeBack.j0 : Nat → Int → Int → ByteArray → ByteArray → Int → Bool → Option (Bool)
  | 0, _, _, _, _, _, _ => none
  | k + 1, x0, x1, x2, x3, x4, x35 => if x35 = true then (some true) else ((Given.code_Put.f x0).bind fun t168 => (if t168.size + x3.size ≤ 9223372036854775807 then ((Given.code_Get.f (t168 ++ x3)).bind fun bt169 => ((code_Text.f x2).bind fun t172 => (if t172.size + x3.size ≤ 9223372036854775807 then ((code_Texts.f (t172 ++ x3) (x2.size : Int)).bind fun bt173 => ((code_Fixed.f k x1).bind fun t176 => (if t176.size + x3.size ≤ 9223372036854775807 then ((Given.code_Fix.f (t176 ++ x3)).bind fun bt177 => (if bt169.2.2 = 0 then (if bt173.2.2 = 0 then (if bt177.2 = 0 then (if bt169.1 = (mx 0 x0) then (if bt173.1.toList = x2.toList then (if bt177.1 = x1 then (if bt169.2.1 = (t168.size : Int) then ((code_Text.f x2).bind fun t179 => (if bt173.2.1 = (t179.size : Int) then (if (t168.size : Int) = 0 then (ladelaw1_CodeBack.j1 k x2 x3 x4 t168 true) else (ladelaw1_CodeBack.j1 k x2 x3 x4 t168 (decide ((t168.size : Int) > 9)))) else (ladelaw1_CodeBack.j1 k x2 x3 x4 t168 true))) else (ladelaw1_CodeBack.j1 k x2 x3 x4 t168 true)) else (ladelaw1_CodeBack.j1 k x2 x3 x4 t168 true)) else (ladelaw1_CodeBack.j1 k x2 x3 x4 t168 true)) else (ladelaw1_CodeBack.j1 k x2 x3 x4 t168 true)) else (ladelaw1_CodeBack.j1 k x2 x3 x4 t168 true)) else (ladelaw1_CodeBack.j1 k x2 x3 x4 t168 true)) else (ladelaw1_CodeBack.j1 k x2 x3 x4 t168 true))) else (none)))) else (none)))) else (none)))
def ladelaw1_CodeBack.j1 : Nat → ByteArray → ByteArray → Int → ByteArray → Bool → Option (Bool)
  | 0, _, _, _, _, _ => none
  | k + 1, x2, x3, x4, x11, x113 => if x113 = true then (some false) else (if (x11.size : Int) = 0 then (none) else (if 0 ≤ (Int.tmod (wrap64 (x4)) (x11.size : Int)) then (if (Int.tmod (wrap64 (x4)) (x11.size : Int)) ≤ (x11.size : Int) then ((Given.code_Get.f (x11.extract 0 ((Int.tmod (wrap64 (x4)) (x11.size : Int)) : Int).toNat)).bind fun bt180 => ((code_Text.f x2).bind fun t183 => (if t183.size + x3.size ≤ 9223372036854775807 then ((code_Texts.f (t183 ++ x3) (wrap64 ((x2.size : Int) - 1))).bind fun bt184 => (if bt180.2.2 = 10 then (if bt184.2.2 = 12 then (some true) else (some ((x2.size : Int) == 0))) else (some false))) else (none)))) else (none)) else (none)))
end
def ladelaw1_CodeBack.f (k : Nat) (a0 : Int) (a1 : Int) (a2 : ByteArray) (a3 : ByteArray) (a4 : Int) : Option (Bool) := (ladelaw1_known.f k).bind fun t167 => (if t167 = true then (if (a2.size : Int) > 200 then (ladelaw1_CodeBack.j0 k a0 a1 a2 a3 a4 true) else (ladelaw1_CodeBack.j0 k a0 a1 a2 a3 a4 (decide ((a3.size : Int) > 50)))) else (some false))
theorem ladelaw1_CodeBack.mono_l : ∀ k, (∀ y0 y1 y2 y3 y4 y5, LeO (ladelaw1_CodeBack.j0 k y0 y1 y2 y3 y4 y5) (ladelaw1_CodeBack.j0 (k + 1) y0 y1 y2 y3 y4 y5)) ∧ (∀ y0 y1 y2 y3 y4, LeO (ladelaw1_CodeBack.j1 k y0 y1 y2 y3 y4) (ladelaw1_CodeBack.j1 (k + 1) y0 y1 y2 y3 y4))
  | 0 => ⟨fun _ _ _ _ _ _ r h => by simp [ladelaw1_CodeBack.j0] at h, fun _ _ _ _ _ r h => by simp [ladelaw1_CodeBack.j1] at h⟩
  | k + 1 => by
    obtain ⟨ih0, ih1⟩ := ladelaw1_CodeBack.mono_l k
    refine ⟨?_, ?_⟩
    · intro y0 y1 y2 y3 y4 y5
      unfold ladelaw1_CodeBack.j0
      repeat' first
      | (with_reducible exact ih0 _ _ _ _ _ _)
      | (with_reducible exact ih1 _ _ _ _ _)
      | (with_reducible exact code_Fixed.mono _ _)
      | (with_reducible exact ladelaw1_known.mono _)
      | (with_reducible exact LeO.refl _)
      | (with_reducible exact LeO.none _)
      | (with_reducible refine LeO.ite ?_ ?_)
      | (with_reducible refine LeO.bind ?_ (fun _ => ?_))
      | exact ih0 _ _ _ _ _ _
      | exact ih1 _ _ _ _ _
      | exact code_Fixed.mono _ _
      | exact ladelaw1_known.mono _
      | exact LeO.none _
      | refine LeO.ite ?_ ?_
      | refine LeO.bind ?_ (fun _ => ?_)
    · intro y0 y1 y2 y3 y4
      unfold ladelaw1_CodeBack.j1
      repeat' first
      | (with_reducible exact ih0 _ _ _ _ _ _)
      | (with_reducible exact ih1 _ _ _ _ _)
      | (with_reducible exact code_Fixed.mono _ _)
      | (with_reducible exact ladelaw1_known.mono _)
      | (with_reducible exact LeO.refl _)
      | (with_reducible exact LeO.none _)
      | (with_reducible refine LeO.ite ?_ ?_)
      | (with_reducible refine LeO.bind ?_ (fun _ => ?_))
      | exact ih0 _ _ _ _ _ _
      | exact ih1 _ _ _ _ _
      | exact code_Fixed.mono _ _
      | exact ladelaw1_known.mono _
      | exact LeO.none _
      | refine LeO.ite ?_ ?_
      | refine LeO.bind ?_ (fun _ => ?_)
theorem ladelaw1_CodeBack.mono : ∀ a0 a1 a2 a3 a4 k, LeO (ladelaw1_CodeBack.f k a0 a1 a2 a3 a4) (ladelaw1_CodeBack.f (k + 1) a0 a1 a2 a3 a4) := by
  intro a0 a1 a2 a3 a4 k
  obtain ⟨ih0, ih1⟩ := ladelaw1_CodeBack.mono_l k
  unfold ladelaw1_CodeBack.f
  repeat' first
      | (with_reducible exact ih0 _ _ _ _ _ _)
      | (with_reducible exact ih1 _ _ _ _ _)
      | (with_reducible exact code_Fixed.mono _ _)
      | (with_reducible exact ladelaw1_known.mono _)
      | (with_reducible exact LeO.refl _)
      | (with_reducible exact LeO.none _)
      | (with_reducible refine LeO.ite ?_ ?_)
      | (with_reducible refine LeO.bind ?_ (fun _ => ?_))
      | exact ih0 _ _ _ _ _ _
      | exact ih1 _ _ _ _ _
      | exact code_Fixed.mono _ _
      | exact ladelaw1_known.mono _
      | exact LeO.none _
      | refine LeO.ite ?_ ?_
      | refine LeO.bind ?_ (fun _ => ?_)
set_option maxHeartbeats 8000000 in
set_option maxRecDepth 100000 in
theorem ladelaw1_CodeBack.calls (k : Nat) (a0 : Int) (a1 : Int) (a2 : ByteArray) (a3 : ByteArray) (a4 : Int) (r : Bool) (w : World) (h : ladelaw1_CodeBack.f k a0 a1 a2 a3 a4 = some r) :
    Calls Try.prog 4 #[.int .i64 a0, .int .u32 a1, .string a2, .string a3, .int .u8 a4] w fun e w' => e = .returned (.bool r) ∧ Below w.heap.size w w' := by
  have HB := Aside0.mk (Below.refl w.heap.size w)
  have H : ((ladelaw1_known.f k).bind fun t167 => (if t167 = true then (if (a2.size : Int) > 200 then (ladelaw1_CodeBack.j0 k a0 a1 a2 a3 a4 true) else (ladelaw1_CodeBack.j0 k a0 a1 a2 a3 a4 (decide ((a3.size : Int) > 50)))) else (some false))) = some r := h
  clear h
  replace H := Option.bind_eq_some_iff.mp H
  obtain ⟨t167, A60, H⟩ := H
  replace H : (if t167 = true then (if (a2.size : Int) > 200 then (ladelaw1_CodeBack.j0 k a0 a1 a2 a3 a4 true) else (ladelaw1_CodeBack.j0 k a0 a1 a2 a3 a4 (decide ((a3.size : Int) > 50)))) else (some false)) = some r := H
  have A6 := Aside0.mk A60
  clear A60
  by_cases c7 : t167 = true
  · subst c7
    have H1 : (if (a2.size : Int) > 200 then (ladelaw1_CodeBack.j0 k a0 a1 a2 a3 a4 true) else (ladelaw1_CodeBack.j0 k a0 a1 a2 a3 a4 (decide ((a3.size : Int) > 50)))) = some r := by rw [if_pos rfl] at H; exact H
    clear H
    have H := H1
    clear H1
    have HC8 := Aside0.mk H
    clear H
    go_enter Try.func4, Try.ntmps4
    go_upto_region 3 with (first | ((with_reducible refine gate_callee (f := 9) rfl ?_); refine goesL_ (some 26) rfl rfl Try.func9 (by kernel_rfl) rfl #[] rfl (by (try simp only [List.map_toArray, List.map_cons, List.map_nil]); first | done | rfl | (simp only [List.length_drop, List.length_take]; rfl)) ?_; (with_reducible refine (ladelaw1_known.calls k  true _ A6.out).mono ?_); rintro e w9 ⟨rfl, hb⟩; refine ⟨_, rfl, ?_⟩; have n0_ := Aside0.mk (below_step (by repeat (first | (with_reducible first | exact HB.out | apply below_alloc | apply pw_below_drewN | apply below_drew1) | exact HB.out)) hb); clear HB; have HB := n0_; clear n0_; (try clear hb); (try clear hb2); (try clear hk); (try clear hi)))
    (try simp only [Act.put, List.setIfInBounds_toArray, List.set_cons_zero, List.set_cons_succ])
    go_cut [35] (fun v35 wc => ∃ (kq : Nat) (x35_7 : Bool), v35 = .bool x35_7 ∧ Aside0 (ladelaw1_CodeBack.j0 kq a0 a1 a2 a3 a4 x35_7 = some r) ∧ Aside0 (kq ≤ k) ∧ Aside0 (Below w.heap.size w wc))
    case first =>
      have H := HC8.out
      clear HC8
      by_cases c10 : (a2.size : Int) > 200
      · rw [if_pos c10] at H
        have c10b0 : decide (200 < (a2.size : Int)) = true := decide_eq_true c10
        have c10b1 : decide (200 < a2.size) = true := decide_eq_true (by omega)
        clear c10
        (first | rw [c10b0] | (simp only [i64_w, i32_w]; rw [c10b0]) | skip)
        have H' := Aside0.mk H
        clear H
        go_wp2
        go_meet
        case rel => exact ⟨_, (true), (by first | rfl | (simp; done) | (simp [*]; done)), H', ⟨by first | omega | exact Nat.le_refl _⟩, ⟨by repeat (first | (with_reducible first | exact HB.out | apply below_alloc | apply pw_below_drewN | apply below_drew1) | exact HB.out)⟩⟩
      · rw [if_neg c10] at H
        have c10b0 : decide (200 < (a2.size : Int)) = false := decide_eq_false c10
        have c10b1 : decide (200 < a2.size) = false := decide_eq_false (by omega)
        clear c10
        (first | rw [c10b0] | (simp only [i64_w, i32_w]; rw [c10b0]) | skip)
        have H' := Aside0.mk H
        clear H
        go_wp2
        go_meet
        case rel => exact ⟨_, (decide ((a3.size : Int) > 50)), (by first | rfl | (simp; done) | (simp [*]; done)), H', ⟨by first | omega | exact Nat.le_refl _⟩, ⟨by repeat (first | (with_reducible first | exact HB.out | apply below_alloc | apply pw_below_drewN | apply below_drew1) | exact HB.out)⟩⟩
    case rest =>
      clear HC8
      try clear c1
      try clear p2
      try clear c4
      try clear c7
      try clear c9
      try clear c10
      try clear c10b0
      try clear c10b1
      obtain ⟨kq, x35_7, rfl, HA, HJ7, HB⟩ := hcut
      cases kq with
      | zero => exact absurd HA.out (by simp [ladelaw1_CodeBack.j0])
      | succ kj7 =>
        have H := HA.out
        clear HA
        simp only [ladelaw1_CodeBack.j0] at H
        by_cases c11 : x35_7 = true
        · subst c11
          have H1 : (some true) = some r := by rw [if_pos rfl] at H; exact H
          clear H
          have H := H1
          clear H1
          obtain rfl := Option.some.inj H
          go_wp2
          go_ret
          exact ⟨by first | rfl | (simp [errW_none, errW_some] <;> rfl) | (simp [*, errW_none, errW_some] <;> rfl), by repeat (first | (with_reducible first | exact HB.out | apply below_alloc | apply pw_below_drewN | apply below_drew1) | exact HB.out)⟩
        · replace c11 := Bool.eq_false_iff.mpr c11
          subst c11
          have H1 : ((Given.code_Put.f a0).bind fun t168 => (if t168.size + a3.size ≤ 9223372036854775807 then ((Given.code_Get.f (t168 ++ a3)).bind fun bt169 => ((code_Text.f a2).bind fun t172 => (if t172.size + a3.size ≤ 9223372036854775807 then ((code_Texts.f (t172 ++ a3) (a2.size : Int)).bind fun bt173 => ((code_Fixed.f kj7 a1).bind fun t176 => (if t176.size + a3.size ≤ 9223372036854775807 then ((Given.code_Fix.f (t176 ++ a3)).bind fun bt177 => (if bt169.2.2 = 0 then (if bt173.2.2 = 0 then (if bt177.2 = 0 then (if bt169.1 = (mx 0 a0) then (if bt173.1.toList = a2.toList then (if bt177.1 = a1 then (if bt169.2.1 = (t168.size : Int) then ((code_Text.f a2).bind fun t179 => (if bt173.2.1 = (t179.size : Int) then (if (t168.size : Int) = 0 then (ladelaw1_CodeBack.j1 kj7 a2 a3 a4 t168 true) else (ladelaw1_CodeBack.j1 kj7 a2 a3 a4 t168 (decide ((t168.size : Int) > 9)))) else (ladelaw1_CodeBack.j1 kj7 a2 a3 a4 t168 true))) else (ladelaw1_CodeBack.j1 kj7 a2 a3 a4 t168 true)) else (ladelaw1_CodeBack.j1 kj7 a2 a3 a4 t168 true)) else (ladelaw1_CodeBack.j1 kj7 a2 a3 a4 t168 true)) else (ladelaw1_CodeBack.j1 kj7 a2 a3 a4 t168 true)) else (ladelaw1_CodeBack.j1 kj7 a2 a3 a4 t168 true)) else (ladelaw1_CodeBack.j1 kj7 a2 a3 a4 t168 true)) else (ladelaw1_CodeBack.j1 kj7 a2 a3 a4 t168 true))) else (none)))) else (none)))) else (none))) = some r := by rw [if_neg (show ¬ (false = true) by decide)] at H; exact H
          clear H
          have H := H1
          clear H1
          replace H := Option.bind_eq_some_iff.mp H
          obtain ⟨t168, A120, H⟩ := H
          replace H : (if t168.size + a3.size ≤ 9223372036854775807 then ((Given.code_Get.f (t168 ++ a3)).bind fun bt169 => ((code_Text.f a2).bind fun t172 => (if t172.size + a3.size ≤ 9223372036854775807 then ((code_Texts.f (t172 ++ a3) (a2.size : Int)).bind fun bt173 => ((code_Fixed.f kj7 a1).bind fun t176 => (if t176.size + a3.size ≤ 9223372036854775807 then ((Given.code_Fix.f (t176 ++ a3)).bind fun bt177 => (if bt169.2.2 = 0 then (if bt173.2.2 = 0 then (if bt177.2 = 0 then (if bt169.1 = (mx 0 a0) then (if bt173.1.toList = a2.toList then (if bt177.1 = a1 then (if bt169.2.1 = (t168.size : Int) then ((code_Text.f a2).bind fun t179 => (if bt173.2.1 = (t179.size : Int) then (if (t168.size : Int) = 0 then (ladelaw1_CodeBack.j1 kj7 a2 a3 a4 t168 true) else (ladelaw1_CodeBack.j1 kj7 a2 a3 a4 t168 (decide ((t168.size : Int) > 9)))) else (ladelaw1_CodeBack.j1 kj7 a2 a3 a4 t168 true))) else (ladelaw1_CodeBack.j1 kj7 a2 a3 a4 t168 true)) else (ladelaw1_CodeBack.j1 kj7 a2 a3 a4 t168 true)) else (ladelaw1_CodeBack.j1 kj7 a2 a3 a4 t168 true)) else (ladelaw1_CodeBack.j1 kj7 a2 a3 a4 t168 true)) else (ladelaw1_CodeBack.j1 kj7 a2 a3 a4 t168 true)) else (ladelaw1_CodeBack.j1 kj7 a2 a3 a4 t168 true)) else (ladelaw1_CodeBack.j1 kj7 a2 a3 a4 t168 true))) else (none)))) else (none)))) else (none)) = some r := H
          have A12 := Aside0.mk A120
          clear A120
          by_cases c13 : t168.size + a3.size ≤ 9223372036854775807
          · rw [if_pos c13] at H
            have c13b0 := eq_true c13
            have c13b1 : decide (t168.size + a3.size ≤ 9223372036854775807) = true := decide_eq_true c13
            try have c13b2 : (9223372036854775807 < t168.size + a3.size) = False := eq_false (Nat.not_lt.2 c13)
            replace H := Option.bind_eq_some_iff.mp H
            obtain ⟨⟨t169, t170, t171⟩, A140, H⟩ := H
            replace H : ((code_Text.f a2).bind fun t172 => (if t172.size + a3.size ≤ 9223372036854775807 then ((code_Texts.f (t172 ++ a3) (a2.size : Int)).bind fun bt173 => ((code_Fixed.f kj7 a1).bind fun t176 => (if t176.size + a3.size ≤ 9223372036854775807 then ((Given.code_Fix.f (t176 ++ a3)).bind fun bt177 => (if t171 = 0 then (if bt173.2.2 = 0 then (if bt177.2 = 0 then (if t169 = (mx 0 a0) then (if bt173.1.toList = a2.toList then (if bt177.1 = a1 then (if t170 = (t168.size : Int) then ((code_Text.f a2).bind fun t179 => (if bt173.2.1 = (t179.size : Int) then (if (t168.size : Int) = 0 then (ladelaw1_CodeBack.j1 kj7 a2 a3 a4 t168 true) else (ladelaw1_CodeBack.j1 kj7 a2 a3 a4 t168 (decide ((t168.size : Int) > 9)))) else (ladelaw1_CodeBack.j1 kj7 a2 a3 a4 t168 true))) else (ladelaw1_CodeBack.j1 kj7 a2 a3 a4 t168 true)) else (ladelaw1_CodeBack.j1 kj7 a2 a3 a4 t168 true)) else (ladelaw1_CodeBack.j1 kj7 a2 a3 a4 t168 true)) else (ladelaw1_CodeBack.j1 kj7 a2 a3 a4 t168 true)) else (ladelaw1_CodeBack.j1 kj7 a2 a3 a4 t168 true)) else (ladelaw1_CodeBack.j1 kj7 a2 a3 a4 t168 true)) else (ladelaw1_CodeBack.j1 kj7 a2 a3 a4 t168 true))) else (none)))) else (none))) = some r := H
            have A14 := Aside0.mk A140
            clear A140
            replace H := Option.bind_eq_some_iff.mp H
            obtain ⟨t172, A150, H⟩ := H
            replace H : (if t172.size + a3.size ≤ 9223372036854775807 then ((code_Texts.f (t172 ++ a3) (a2.size : Int)).bind fun bt173 => ((code_Fixed.f kj7 a1).bind fun t176 => (if t176.size + a3.size ≤ 9223372036854775807 then ((Given.code_Fix.f (t176 ++ a3)).bind fun bt177 => (if t171 = 0 then (if bt173.2.2 = 0 then (if bt177.2 = 0 then (if t169 = (mx 0 a0) then (if bt173.1.toList = a2.toList then (if bt177.1 = a1 then (if t170 = (t168.size : Int) then ((code_Text.f a2).bind fun t179 => (if bt173.2.1 = (t179.size : Int) then (if (t168.size : Int) = 0 then (ladelaw1_CodeBack.j1 kj7 a2 a3 a4 t168 true) else (ladelaw1_CodeBack.j1 kj7 a2 a3 a4 t168 (decide ((t168.size : Int) > 9)))) else (ladelaw1_CodeBack.j1 kj7 a2 a3 a4 t168 true))) else (ladelaw1_CodeBack.j1 kj7 a2 a3 a4 t168 true)) else (ladelaw1_CodeBack.j1 kj7 a2 a3 a4 t168 true)) else (ladelaw1_CodeBack.j1 kj7 a2 a3 a4 t168 true)) else (ladelaw1_CodeBack.j1 kj7 a2 a3 a4 t168 true)) else (ladelaw1_CodeBack.j1 kj7 a2 a3 a4 t168 true)) else (ladelaw1_CodeBack.j1 kj7 a2 a3 a4 t168 true)) else (ladelaw1_CodeBack.j1 kj7 a2 a3 a4 t168 true))) else (none)))) else (none)) = some r := H
            have A15 := Aside0.mk A150
            clear A150
            by_cases c16 : t172.size + a3.size ≤ 9223372036854775807
            · rw [if_pos c16] at H
              have c16b0 := eq_true c16
              have c16b1 : decide (t172.size + a3.size ≤ 9223372036854775807) = true := decide_eq_true c16
              try have c16b2 : (9223372036854775807 < t172.size + a3.size) = False := eq_false (Nat.not_lt.2 c16)
              replace H := Option.bind_eq_some_iff.mp H
              obtain ⟨⟨t173, t174, t175⟩, A170, H⟩ := H
              replace H : ((code_Fixed.f kj7 a1).bind fun t176 => (if t176.size + a3.size ≤ 9223372036854775807 then ((Given.code_Fix.f (t176 ++ a3)).bind fun bt177 => (if t171 = 0 then (if t175 = 0 then (if bt177.2 = 0 then (if t169 = (mx 0 a0) then (if t173.toList = a2.toList then (if bt177.1 = a1 then (if t170 = (t168.size : Int) then ((code_Text.f a2).bind fun t179 => (if t174 = (t179.size : Int) then (if (t168.size : Int) = 0 then (ladelaw1_CodeBack.j1 kj7 a2 a3 a4 t168 true) else (ladelaw1_CodeBack.j1 kj7 a2 a3 a4 t168 (decide ((t168.size : Int) > 9)))) else (ladelaw1_CodeBack.j1 kj7 a2 a3 a4 t168 true))) else (ladelaw1_CodeBack.j1 kj7 a2 a3 a4 t168 true)) else (ladelaw1_CodeBack.j1 kj7 a2 a3 a4 t168 true)) else (ladelaw1_CodeBack.j1 kj7 a2 a3 a4 t168 true)) else (ladelaw1_CodeBack.j1 kj7 a2 a3 a4 t168 true)) else (ladelaw1_CodeBack.j1 kj7 a2 a3 a4 t168 true)) else (ladelaw1_CodeBack.j1 kj7 a2 a3 a4 t168 true)) else (ladelaw1_CodeBack.j1 kj7 a2 a3 a4 t168 true))) else (none))) = some r := H
              have A17 := Aside0.mk A170
              clear A170
              replace H := Option.bind_eq_some_iff.mp H
              obtain ⟨t176, A180, H⟩ := H
              replace H : (if t176.size + a3.size ≤ 9223372036854775807 then ((Given.code_Fix.f (t176 ++ a3)).bind fun bt177 => (if t171 = 0 then (if t175 = 0 then (if bt177.2 = 0 then (if t169 = (mx 0 a0) then (if t173.toList = a2.toList then (if bt177.1 = a1 then (if t170 = (t168.size : Int) then ((code_Text.f a2).bind fun t179 => (if t174 = (t179.size : Int) then (if (t168.size : Int) = 0 then (ladelaw1_CodeBack.j1 kj7 a2 a3 a4 t168 true) else (ladelaw1_CodeBack.j1 kj7 a2 a3 a4 t168 (decide ((t168.size : Int) > 9)))) else (ladelaw1_CodeBack.j1 kj7 a2 a3 a4 t168 true))) else (ladelaw1_CodeBack.j1 kj7 a2 a3 a4 t168 true)) else (ladelaw1_CodeBack.j1 kj7 a2 a3 a4 t168 true)) else (ladelaw1_CodeBack.j1 kj7 a2 a3 a4 t168 true)) else (ladelaw1_CodeBack.j1 kj7 a2 a3 a4 t168 true)) else (ladelaw1_CodeBack.j1 kj7 a2 a3 a4 t168 true)) else (ladelaw1_CodeBack.j1 kj7 a2 a3 a4 t168 true)) else (ladelaw1_CodeBack.j1 kj7 a2 a3 a4 t168 true))) else (none)) = some r := H
              have A18 := Aside0.mk A180
              clear A180
              by_cases c19 : t176.size + a3.size ≤ 9223372036854775807
              · rw [if_pos c19] at H
                have c19b0 := eq_true c19
                have c19b1 : decide (t176.size + a3.size ≤ 9223372036854775807) = true := decide_eq_true c19
                try have c19b2 : (9223372036854775807 < t176.size + a3.size) = False := eq_false (Nat.not_lt.2 c19)
                replace H := Option.bind_eq_some_iff.mp H
                obtain ⟨⟨t177, t178⟩, A200, H⟩ := H
                replace H : (if t171 = 0 then (if t175 = 0 then (if t178 = 0 then (if t169 = (mx 0 a0) then (if t173.toList = a2.toList then (if t177 = a1 then (if t170 = (t168.size : Int) then ((code_Text.f a2).bind fun t179 => (if t174 = (t179.size : Int) then (if (t168.size : Int) = 0 then (ladelaw1_CodeBack.j1 kj7 a2 a3 a4 t168 true) else (ladelaw1_CodeBack.j1 kj7 a2 a3 a4 t168 (decide ((t168.size : Int) > 9)))) else (ladelaw1_CodeBack.j1 kj7 a2 a3 a4 t168 true))) else (ladelaw1_CodeBack.j1 kj7 a2 a3 a4 t168 true)) else (ladelaw1_CodeBack.j1 kj7 a2 a3 a4 t168 true)) else (ladelaw1_CodeBack.j1 kj7 a2 a3 a4 t168 true)) else (ladelaw1_CodeBack.j1 kj7 a2 a3 a4 t168 true)) else (ladelaw1_CodeBack.j1 kj7 a2 a3 a4 t168 true)) else (ladelaw1_CodeBack.j1 kj7 a2 a3 a4 t168 true)) else (ladelaw1_CodeBack.j1 kj7 a2 a3 a4 t168 true)) = some r := H
                have A20 := Aside0.mk A200
                clear A200
                have HC21 := Aside0.mk H
                clear H
                go_upto_region 9 with (first | ((with_reducible refine gate_callee (f := 16) rfl ?_); refine goesL_ (some 37) rfl rfl Try.func16 (by kernel_rfl) rfl #[.int .i64 a0] rfl (by (try simp only [List.map_toArray, List.map_cons, List.map_nil]); first | done | rfl | (simp only [List.length_drop, List.length_take]; rfl)) ?_; (with_reducible refine (Given.code_Put.calls a0 t168 _ A12.out).mono ?_); rintro e w22 ⟨rfl, hb⟩; refine ⟨_, rfl, ?_⟩; have n0_ := Aside0.mk (below_step (by repeat (first | (with_reducible first | exact HB.out | apply below_alloc | apply pw_below_drewN | apply below_drew1) | exact HB.out)) hb); clear HB; have HB := n0_; clear n0_; (try clear hb); (try clear hb2); (try clear hk); (try clear hi)) | ((with_reducible refine gate_callee (f := 10) rfl ?_); refine goesL_ (some 42) rfl rfl Try.func10 (by kernel_rfl) rfl #[.string (t168 ++ a3)] rfl (by (try simp only [List.map_toArray, List.map_cons, List.map_nil]); first | done | rfl | (simp only [List.length_drop, List.length_take]; rfl)) ?_; (with_reducible refine (Given.code_Get.calls (t168 ++ a3) t169 t170 t171 _ A14.out).mono ?_); rintro e w23 ⟨rfl, hb⟩; refine ⟨_, rfl, ?_⟩; have n0_ := Aside0.mk (below_step (by repeat (first | (with_reducible first | exact HB.out | apply below_alloc | apply pw_below_drewN | apply below_drew1) | exact HB.out)) hb); clear HB; have HB := n0_; clear n0_; (try clear hb); (try clear hb2); (try clear hk); (try clear hi)) | ((with_reducible refine gate_callee (f := 18) rfl ?_); refine goesL_ (some 48) rfl rfl Try.func18 (by kernel_rfl) rfl #[.string a2] rfl (by (try simp only [List.map_toArray, List.map_cons, List.map_nil]); first | done | rfl | (simp only [List.length_drop, List.length_take]; rfl)) ?_; (with_reducible refine (code_Text.calls a2 t172 _ A15.out).mono ?_); rintro e w24 ⟨rfl, hb⟩; refine ⟨_, rfl, ?_⟩; have n0_ := Aside0.mk (below_step (by repeat (first | (with_reducible first | exact HB.out | apply below_alloc | apply pw_below_drewN | apply below_drew1) | exact HB.out)) hb); clear HB; have HB := n0_; clear n0_; (try clear hb); (try clear hb2); (try clear hk); (try clear hi)) | ((with_reducible refine gate_callee (f := 12) rfl ?_); refine goesL_ (some 53) rfl rfl Try.func12 (by kernel_rfl) rfl #[.string (t172 ++ a3), .int .i64 (a2.size : Int)] rfl (by (try simp only [List.map_toArray, List.map_cons, List.map_nil]); first | done | rfl | (simp only [List.length_drop, List.length_take]; rfl)) ?_; (with_reducible refine (code_Texts.calls (t172 ++ a3) (a2.size : Int) t173 t174 t175 _ A17.out).mono ?_); rintro e w25 ⟨rfl, hb⟩; refine ⟨_, rfl, ?_⟩; have n0_ := Aside0.mk (below_step (by repeat (first | (with_reducible first | exact HB.out | apply below_alloc | apply pw_below_drewN | apply below_drew1) | exact HB.out)) hb); clear HB; have HB := n0_; clear n0_; (try clear hb); (try clear hb2); (try clear hk); (try clear hi)) | ((with_reducible refine gate_callee (f := 20) rfl ?_); refine goesL_ (some 59) rfl rfl Try.func20 (by kernel_rfl) rfl #[.int .u32 a1] rfl (by (try simp only [List.map_toArray, List.map_cons, List.map_nil]); first | done | rfl | (simp only [List.length_drop, List.length_take]; rfl)) ?_; (with_reducible refine (code_Fixed.calls kj7 a1 t176 _ A18.out).mono ?_); rintro e w26 ⟨rfl, hb⟩; refine ⟨_, rfl, ?_⟩; have n0_ := Aside0.mk (below_step (by repeat (first | (with_reducible first | exact HB.out | apply below_alloc | apply pw_below_drewN | apply below_drew1) | exact HB.out)) hb); clear HB; have HB := n0_; clear n0_; (try clear hb); (try clear hb2); (try clear hk); (try clear hi)) | ((with_reducible refine gate_callee (f := 14) rfl ?_); refine goesL_ (some 62) rfl rfl Try.func14 (by kernel_rfl) rfl #[.string (t176 ++ a3)] rfl (by (try simp only [List.map_toArray, List.map_cons, List.map_nil]); first | done | rfl | (simp only [List.length_drop, List.length_take]; rfl)) ?_; (with_reducible refine (Given.code_Fix.calls (t176 ++ a3) t177 t178 _ A20.out).mono ?_); rintro e w27 ⟨rfl, hb⟩; refine ⟨_, rfl, ?_⟩; have n0_ := Aside0.mk (below_step (by repeat (first | (with_reducible first | exact HB.out | apply below_alloc | apply pw_below_drewN | apply below_drew1) | exact HB.out)) hb); clear HB; have HB := n0_; clear n0_; (try clear hb); (try clear hb2); (try clear hk); (try clear hi)))
                (try simp only [Act.put, List.setIfInBounds_toArray, List.set_cons_zero, List.set_cons_succ])
                go_cut [113] (fun v113 wc => ∃ (kq : Nat) (x113_20 : Bool), v113 = .bool x113_20 ∧ Aside0 (ladelaw1_CodeBack.j1 kq a2 a3 a4 t168 x113_20 = some r) ∧ Aside0 (kq ≤ kj7) ∧ Aside0 (Below w.heap.size w wc))
                case first =>
                  have H := HC21.out
                  clear HC21
                  by_cases c28 : t171 = 0
                  · rw [if_pos c28] at H
                    have c28b0 : (t171 == 0) = true := beq_iff_eq.mpr c28
                    have c28b1 : (t171 != 0) = false := bne_eq_false_iff_eq.mpr c28
                    clear c28
                    (first | rw [c28b0] | (simp only [i64_w, i32_w]; rw [c28b0]) | skip)
                    by_cases c29 : t175 = 0
                    · rw [if_pos c29] at H
                      have c29b0 : (t175 == 0) = true := beq_iff_eq.mpr c29
                      have c29b1 : (t175 != 0) = false := bne_eq_false_iff_eq.mpr c29
                      clear c29
                      by_cases c30 : t178 = 0
                      · rw [if_pos c30] at H
                        have c30b0 : (t178 == 0) = true := beq_iff_eq.mpr c30
                        have c30b1 : (t178 != 0) = false := bne_eq_false_iff_eq.mpr c30
                        clear c30
                        obtain ⟨ji31, hji31⟩ : ∃ j_ : Int, (mx 0 a0) = j_ := ⟨_, rfl⟩
                        replace H : (if t169 = (ji31) then (if t173.toList = a2.toList then (if t177 = a1 then (if t170 = (t168.size : Int) then ((code_Text.f a2).bind fun t179 => (if t174 = (t179.size : Int) then (if (t168.size : Int) = 0 then (ladelaw1_CodeBack.j1 kj7 a2 a3 a4 t168 true) else (ladelaw1_CodeBack.j1 kj7 a2 a3 a4 t168 (decide ((t168.size : Int) > 9)))) else (ladelaw1_CodeBack.j1 kj7 a2 a3 a4 t168 true))) else (ladelaw1_CodeBack.j1 kj7 a2 a3 a4 t168 true)) else (ladelaw1_CodeBack.j1 kj7 a2 a3 a4 t168 true)) else (ladelaw1_CodeBack.j1 kj7 a2 a3 a4 t168 true)) else (ladelaw1_CodeBack.j1 kj7 a2 a3 a4 t168 true)) = some r := by first | (rw [hji31] at H; exact H) | (simp only [hji31] at H ⊢; exact H)
                        (try (have hji31l : 0 ≤ ji31 := by (rw [← hji31]; unfold mx; (repeat' split) <;> omega)))
                        (try (have hji31m : 0 ≤ ji31 := by omega))
                        have hji31_ : (if 0 < a0 then a0 else 0) = ji31 := hji31
                        by_cases c32 : t169 = (ji31)
                        · rw [if_pos c32] at H
                          have c32b0 : (t169 == (ji31)) = true := beq_iff_eq.mpr c32
                          have c32b1 : (t169 != (ji31)) = false := bne_eq_false_iff_eq.mpr c32
                          clear c32
                          by_cases c33 : t173.toList = a2.toList
                          · rw [if_pos c33] at H
                            have c33b0 : (t173.toList == a2.toList) = true := beq_iff_eq.mpr c33
                            have c33b1 : (t173.toList != a2.toList) = false := bne_eq_false_iff_eq.mpr c33
                            clear c33
                            by_cases c34 : t177 = a1
                            · rw [if_pos c34] at H
                              have c34b0 : (t177 == a1) = true := beq_iff_eq.mpr c34
                              have c34b1 : (t177 != a1) = false := bne_eq_false_iff_eq.mpr c34
                              clear c34
                              by_cases c35 : t170 = (t168.size : Int)
                              · rw [if_pos c35] at H
                                have c35b0 : (t170 == (t168.size : Int)) = true := beq_iff_eq.mpr c35
                                have c35b1 : (t170 != (t168.size : Int)) = false := bne_eq_false_iff_eq.mpr c35
                                clear c35
                                replace H := Option.bind_eq_some_iff.mp H
                                obtain ⟨t179, A360, H⟩ := H
                                replace H : (if t174 = (t179.size : Int) then (if (t168.size : Int) = 0 then (ladelaw1_CodeBack.j1 kj7 a2 a3 a4 t168 true) else (ladelaw1_CodeBack.j1 kj7 a2 a3 a4 t168 (decide ((t168.size : Int) > 9)))) else (ladelaw1_CodeBack.j1 kj7 a2 a3 a4 t168 true)) = some r := H
                                have A36 := Aside0.mk A360
                                clear A360
                                by_cases c37 : t174 = (t179.size : Int)
                                · rw [if_pos c37] at H
                                  have c37b0 : (t174 == (t179.size : Int)) = true := beq_iff_eq.mpr c37
                                  have c37b1 : (t174 != (t179.size : Int)) = false := bne_eq_false_iff_eq.mpr c37
                                  clear c37
                                  by_cases c38 : (t168.size : Int) = 0
                                  · rw [if_pos c38] at H
                                    have c38b0 : ((t168.size : Int) == 0) = true := beq_iff_eq.mpr c38
                                    have c38b1 : ((t168.size : Int) != 0) = false := bne_eq_false_iff_eq.mpr c38
                                    clear c38
                                    have H' := Aside0.mk H
                                    clear H
                                    go_wp2_with (first | (go_at_call 18; (with_reducible refine (code_Text.calls a2 t179 _ A36.out).mono ?_); rintro e w39 ⟨rfl, hb⟩; have n0_ := Aside0.mk (below_step (by repeat (first | (with_reducible first | exact HB.out | apply below_alloc | apply pw_below_drewN | apply below_drew1) | exact HB.out)) hb); clear HB; have HB := n0_; clear n0_; (try clear hb); (try clear hb2); (try clear hk); (try clear hi)))
                                    go_meet
                                    case rel => exact ⟨_, (true), (by first | rfl | (simp; done) | (simp [*]; done)), H', ⟨by have := HJ7.out; first | omega | exact Nat.le_refl _⟩, ⟨by repeat (first | (with_reducible first | exact HB.out | apply below_alloc | apply pw_below_drewN | apply below_drew1) | exact HB.out)⟩⟩
                                  · rw [if_neg c38] at H
                                    have c38b0 : ((t168.size : Int) == 0) = false := beq_eq_false_iff_ne.mpr c38
                                    have c38b1 : ((t168.size : Int) != 0) = true := bne_iff_ne.mpr c38
                                    have H' := Aside0.mk H
                                    clear H
                                    go_wp2_with (first | (go_at_call 18; (with_reducible refine (code_Text.calls a2 t179 _ A36.out).mono ?_); rintro e w40 ⟨rfl, hb⟩; have n0_ := Aside0.mk (below_step (by repeat (first | (with_reducible first | exact HB.out | apply below_alloc | apply pw_below_drewN | apply below_drew1) | exact HB.out)) hb); clear HB; have HB := n0_; clear n0_; (try clear hb); (try clear hb2); (try clear hk); (try clear hi)))
                                    go_meet
                                    case rel => exact ⟨_, (decide ((t168.size : Int) > 9)), (by first | rfl | (simp; done) | (simp [*]; done)), H', ⟨by have := HJ7.out; first | omega | exact Nat.le_refl _⟩, ⟨by repeat (first | (with_reducible first | exact HB.out | apply below_alloc | apply pw_below_drewN | apply below_drew1) | exact HB.out)⟩⟩
                                · rw [if_neg c37] at H
                                  have c37b0 : (t174 == (t179.size : Int)) = false := beq_eq_false_iff_ne.mpr c37
                                  have c37b1 : (t174 != (t179.size : Int)) = true := bne_iff_ne.mpr c37
                                  have H' := Aside0.mk H
                                  clear H
                                  go_wp2_with (first | (go_at_call 18; (with_reducible refine (code_Text.calls a2 t179 _ A36.out).mono ?_); rintro e w41 ⟨rfl, hb⟩; have n0_ := Aside0.mk (below_step (by repeat (first | (with_reducible first | exact HB.out | apply below_alloc | apply pw_below_drewN | apply below_drew1) | exact HB.out)) hb); clear HB; have HB := n0_; clear n0_; (try clear hb); (try clear hb2); (try clear hk); (try clear hi)))
                                  go_meet
                                  case rel => exact ⟨_, (true), (by first | rfl | (simp; done) | (simp [*]; done)), H', ⟨by have := HJ7.out; first | omega | exact Nat.le_refl _⟩, ⟨by repeat (first | (with_reducible first | exact HB.out | apply below_alloc | apply pw_below_drewN | apply below_drew1) | exact HB.out)⟩⟩
                              · rw [if_neg c35] at H
                                have c35b0 : (t170 == (t168.size : Int)) = false := beq_eq_false_iff_ne.mpr c35
                                have c35b1 : (t170 != (t168.size : Int)) = true := bne_iff_ne.mpr c35
                                have H' := Aside0.mk H
                                clear H
                                go_wp2
                                go_meet
                                case rel => exact ⟨_, (true), (by first | rfl | (simp; done) | (simp [*]; done)), H', ⟨by have := HJ7.out; first | omega | exact Nat.le_refl _⟩, ⟨by repeat (first | (with_reducible first | exact HB.out | apply below_alloc | apply pw_below_drewN | apply below_drew1) | exact HB.out)⟩⟩
                            · rw [if_neg c34] at H
                              have c34b0 : (t177 == a1) = false := beq_eq_false_iff_ne.mpr c34
                              have c34b1 : (t177 != a1) = true := bne_iff_ne.mpr c34
                              have H' := Aside0.mk H
                              clear H
                              go_wp2
                              go_meet
                              case rel => exact ⟨_, (true), (by first | rfl | (simp; done) | (simp [*]; done)), H', ⟨by have := HJ7.out; first | omega | exact Nat.le_refl _⟩, ⟨by repeat (first | (with_reducible first | exact HB.out | apply below_alloc | apply pw_below_drewN | apply below_drew1) | exact HB.out)⟩⟩
                          · rw [if_neg c33] at H
                            have c33b0 : (t173.toList == a2.toList) = false := beq_eq_false_iff_ne.mpr c33
                            have c33b1 : (t173.toList != a2.toList) = true := bne_iff_ne.mpr c33
                            have H' := Aside0.mk H
                            clear H
                            go_wp2
                            go_meet
                            case rel => exact ⟨_, (true), (by first | rfl | (simp; done) | (simp [*]; done)), H', ⟨by have := HJ7.out; first | omega | exact Nat.le_refl _⟩, ⟨by repeat (first | (with_reducible first | exact HB.out | apply below_alloc | apply pw_below_drewN | apply below_drew1) | exact HB.out)⟩⟩
                        · rw [if_neg c32] at H
                          have c32b0 : (t169 == (ji31)) = false := beq_eq_false_iff_ne.mpr c32
                          have c32b1 : (t169 != (ji31)) = true := bne_iff_ne.mpr c32
                          have H' := Aside0.mk H
                          clear H
                          go_wp2
                          go_meet
                          case rel => exact ⟨_, (true), (by first | rfl | (simp; done) | (simp [*]; done)), H', ⟨by have := HJ7.out; first | omega | exact Nat.le_refl _⟩, ⟨by repeat (first | (with_reducible first | exact HB.out | apply below_alloc | apply pw_below_drewN | apply below_drew1) | exact HB.out)⟩⟩
                      · rw [if_neg c30] at H
                        have c30b0 : (t178 == 0) = false := beq_eq_false_iff_ne.mpr c30
                        have c30b1 : (t178 != 0) = true := bne_iff_ne.mpr c30
                        have H' := Aside0.mk H
                        clear H
                        go_wp2
                        go_meet
                        case rel => exact ⟨_, (true), (by first | rfl | (simp; done) | (simp [*]; done)), H', ⟨by have := HJ7.out; first | omega | exact Nat.le_refl _⟩, ⟨by repeat (first | (with_reducible first | exact HB.out | apply below_alloc | apply pw_below_drewN | apply below_drew1) | exact HB.out)⟩⟩
                    · rw [if_neg c29] at H
                      have c29b0 : (t175 == 0) = false := beq_eq_false_iff_ne.mpr c29
                      have c29b1 : (t175 != 0) = true := bne_iff_ne.mpr c29
                      have H' := Aside0.mk H
                      clear H
                      go_wp2
                      go_meet
                      case rel => exact ⟨_, (true), (by first | rfl | (simp; done) | (simp [*]; done)), H', ⟨by have := HJ7.out; first | omega | exact Nat.le_refl _⟩, ⟨by repeat (first | (with_reducible first | exact HB.out | apply below_alloc | apply pw_below_drewN | apply below_drew1) | exact HB.out)⟩⟩
                  · rw [if_neg c28] at H
                    have c28b0 : (t171 == 0) = false := beq_eq_false_iff_ne.mpr c28
                    have c28b1 : (t171 != 0) = true := bne_iff_ne.mpr c28
                    (first | rw [c28b0] | (simp only [i64_w, i32_w]; rw [c28b0]) | skip)
                    have H' := Aside0.mk H
                    clear H
                    go_wp2
                    go_meet
                    case rel => exact ⟨_, (true), (by first | rfl | (simp; done) | (simp [*]; done)), H', ⟨by have := HJ7.out; first | omega | exact Nat.le_refl _⟩, ⟨by repeat (first | (with_reducible first | exact HB.out | apply below_alloc | apply pw_below_drewN | apply below_drew1) | exact HB.out)⟩⟩
                case rest =>
                  clear HC21
                  try clear c1
                  try clear c2
                  try clear p2
                  try clear c3
                  try clear c4
                  try clear c7
                  try clear c9
                  try clear c10
                  try clear c10b0
                  try clear c10b1
                  try clear c11
                  try clear c12
                  try clear c13
                  try clear c13b0
                  try clear c13b1
                  try clear c13b2
                  try clear c14
                  try clear c16
                  try clear c16b0
                  try clear c16b1
                  try clear c16b2
                  try clear c18
                  try clear c19
                  try clear c19b0
                  try clear c19b1
                  try clear c19b2
                  try clear c20
                  try clear c28
                  try clear c28b0
                  try clear c28b1
                  try clear c29
                  try clear c29b0
                  try clear c29b1
                  try clear c30
                  try clear c30b0
                  try clear c30b1
                  try clear c32
                  try clear c32b0
                  try clear c32b1
                  try clear c33
                  try clear c33b0
                  try clear c33b1
                  try clear c34
                  try clear c34b0
                  try clear c34b1
                  try clear c35
                  try clear c35b0
                  try clear c35b1
                  try clear c37
                  try clear c37b0
                  try clear c37b1
                  try clear c38
                  try clear c38b0
                  try clear c38b1
                  try clear p2
                  obtain ⟨kq, x113_20, rfl, HA, HJ20, HB⟩ := hcut
                  cases kq with
                  | zero => exact absurd HA.out (by simp [ladelaw1_CodeBack.j1])
                  | succ kj20 =>
                    have H := HA.out
                    clear HA
                    simp only [ladelaw1_CodeBack.j1] at H
                    by_cases c42 : x113_20 = true
                    · subst c42
                      have H1 : (some false) = some r := by rw [if_pos rfl] at H; exact H
                      clear H
                      have H := H1
                      clear H1
                      obtain rfl := Option.some.inj H
                      go_wp2
                      go_ret
                      exact ⟨by first | rfl | (simp [errW_none, errW_some] <;> rfl) | (simp [*, errW_none, errW_some] <;> rfl), by repeat (first | (with_reducible first | exact HB.out | apply below_alloc | apply pw_below_drewN | apply below_drew1) | exact HB.out)⟩
                    · replace c42 := Bool.eq_false_iff.mpr c42
                      subst c42
                      have H1 : (if (t168.size : Int) = 0 then (none) else (if 0 ≤ (Int.tmod (wrap64 (a4)) (t168.size : Int)) then (if (Int.tmod (wrap64 (a4)) (t168.size : Int)) ≤ (t168.size : Int) then ((Given.code_Get.f (t168.extract 0 ((Int.tmod (wrap64 (a4)) (t168.size : Int)) : Int).toNat)).bind fun bt180 => ((code_Text.f a2).bind fun t183 => (if t183.size + a3.size ≤ 9223372036854775807 then ((code_Texts.f (t183 ++ a3) (wrap64 ((a2.size : Int) - 1))).bind fun bt184 => (if bt180.2.2 = 10 then (if bt184.2.2 = 12 then (some true) else (some ((a2.size : Int) == 0))) else (some false))) else (none)))) else (none)) else (none))) = some r := by rw [if_neg (show ¬ (false = true) by decide)] at H; exact H
                      clear H
                      have H := H1
                      clear H1
                      by_cases c43 : (t168.size : Int) = 0
                      · rw [if_pos c43] at H
                        exact absurd H (by simp)
                      · rw [if_neg c43] at H
                        have c43b0 : ((t168.size : Int) == 0) = false := beq_eq_false_iff_ne.mpr c43
                        have c43b1 : ((t168.size : Int) != 0) = true := bne_iff_ne.mpr c43
                        obtain ⟨ji44, hji44⟩ : ∃ j_ : Int, (Int.tmod (wrap64 (a4)) (t168.size : Int)) = j_ := ⟨_, rfl⟩
                        replace H : (if 0 ≤ (ji44) then (if (ji44) ≤ (t168.size : Int) then ((Given.code_Get.f (t168.extract 0 ((ji44) : Int).toNat)).bind fun bt180 => ((code_Text.f a2).bind fun t183 => (if t183.size + a3.size ≤ 9223372036854775807 then ((code_Texts.f (t183 ++ a3) (wrap64 ((a2.size : Int) - 1))).bind fun bt184 => (if bt180.2.2 = 10 then (if bt184.2.2 = 12 then (some true) else (some ((a2.size : Int) == 0))) else (some false))) else (none)))) else (none)) else (none)) = some r := by first | (rw [hji44] at H; exact H) | (simp only [hji44] at H ⊢; exact H)
                        by_cases c45 : 0 ≤ (ji44)
                        · rw [if_pos c45] at H
                          have c45b0 := eq_true c45
                          have c45b1 : decide (0 ≤ (ji44)) = true := decide_eq_true c45
                          clear c45
                          by_cases c46 : (ji44) ≤ (t168.size : Int)
                          · rw [if_pos c46] at H
                            have c46b0 := eq_true c46
                            have c46b1 : decide ((ji44) ≤ (t168.size : Int)) = true := decide_eq_true c46
                            clear c46
                            replace H := Option.bind_eq_some_iff.mp H
                            obtain ⟨⟨t180, t181, t182⟩, A470, H⟩ := H
                            replace H : ((code_Text.f a2).bind fun t183 => (if t183.size + a3.size ≤ 9223372036854775807 then ((code_Texts.f (t183 ++ a3) (wrap64 ((a2.size : Int) - 1))).bind fun bt184 => (if t182 = 10 then (if bt184.2.2 = 12 then (some true) else (some ((a2.size : Int) == 0))) else (some false))) else (none))) = some r := H
                            have A47 := Aside0.mk A470
                            clear A470
                            replace H := Option.bind_eq_some_iff.mp H
                            obtain ⟨t183, A480, H⟩ := H
                            replace H : (if t183.size + a3.size ≤ 9223372036854775807 then ((code_Texts.f (t183 ++ a3) (wrap64 ((a2.size : Int) - 1))).bind fun bt184 => (if t182 = 10 then (if bt184.2.2 = 12 then (some true) else (some ((a2.size : Int) == 0))) else (some false))) else (none)) = some r := H
                            have A48 := Aside0.mk A480
                            clear A480
                            by_cases c49 : t183.size + a3.size ≤ 9223372036854775807
                            · rw [if_pos c49] at H
                              have c49b0 := eq_true c49
                              have c49b1 : decide (t183.size + a3.size ≤ 9223372036854775807) = true := decide_eq_true c49
                              try have c49b2 : (9223372036854775807 < t183.size + a3.size) = False := eq_false (Nat.not_lt.2 c49)
                              replace H := Option.bind_eq_some_iff.mp H
                              obtain ⟨⟨t184, t185, t186⟩, A500, H⟩ := H
                              replace H : (if t182 = 10 then (if t186 = 12 then (some true) else (some ((a2.size : Int) == 0))) else (some false)) = some r := H
                              have A50 := Aside0.mk A500
                              clear A500
                              by_cases c51 : t182 = 10
                              · rw [if_pos c51] at H
                                have c51b0 : (t182 == 10) = true := beq_iff_eq.mpr c51
                                have c51b1 : (t182 != 10) = false := bne_eq_false_iff_eq.mpr c51
                                clear c51
                                by_cases c52 : t186 = 12
                                · rw [if_pos c52] at H
                                  have c52b0 : (t186 == 12) = true := beq_iff_eq.mpr c52
                                  have c52b1 : (t186 != 12) = false := bne_eq_false_iff_eq.mpr c52
                                  clear c52
                                  obtain rfl := Option.some.inj H
                                  go_wp2_with (first | ((with_reducible refine gate_callee (f := 10) rfl ?_); refine goesL_ (some 122) rfl rfl Try.func10 (by kernel_rfl) rfl #[.string (t168.extract 0 ((ji44) : Int).toNat)] rfl (by (try simp only [List.map_toArray, List.map_cons, List.map_nil]); first | done | (simp only [hji44]; rfl) | rfl | (simp only [List.length_drop, List.length_take]; rfl)) ?_; (with_reducible refine (Given.code_Get.calls (t168.extract 0 ((ji44) : Int).toNat) t180 t181 t182 _ A47.out).mono ?_); rintro e w53 ⟨rfl, hb⟩; refine ⟨_, rfl, ?_⟩; have n0_ := Aside0.mk (below_step (by repeat (first | (with_reducible first | exact HB.out | apply below_alloc | apply pw_below_drewN | apply below_drew1) | exact HB.out)) hb); clear HB; have HB := n0_; clear n0_; (try clear hb); (try clear hb2); (try clear hk); (try clear hi)) | ((with_reducible refine gate_callee (f := 18) rfl ?_); refine goesL_ (some 128) rfl rfl Try.func18 (by kernel_rfl) rfl #[.string a2] rfl (by (try simp only [List.map_toArray, List.map_cons, List.map_nil]); first | done | rfl | (simp only [List.length_drop, List.length_take]; rfl)) ?_; (with_reducible refine (code_Text.calls a2 t183 _ A48.out).mono ?_); rintro e w54 ⟨rfl, hb⟩; refine ⟨_, rfl, ?_⟩; have n0_ := Aside0.mk (below_step (by repeat (first | (with_reducible first | exact HB.out | apply below_alloc | apply pw_below_drewN | apply below_drew1) | exact HB.out)) hb); clear HB; have HB := n0_; clear n0_; (try clear hb); (try clear hb2); (try clear hk); (try clear hi)) | ((with_reducible refine gate_callee (f := 12) rfl ?_); refine goesL_ (some 134) rfl rfl Try.func12 (by kernel_rfl) rfl #[.string (t183 ++ a3), .int .i64 (wrap64 ((a2.size : Int) - 1))] rfl (by (try simp only [List.map_toArray, List.map_cons, List.map_nil]); first | done | rfl | (simp only [List.length_drop, List.length_take]; rfl)) ?_; (with_reducible refine (code_Texts.calls (t183 ++ a3) (wrap64 ((a2.size : Int) - 1)) t184 t185 t186 _ A50.out).mono ?_); rintro e w55 ⟨rfl, hb⟩; refine ⟨_, rfl, ?_⟩; have n0_ := Aside0.mk (below_step (by repeat (first | (with_reducible first | exact HB.out | apply below_alloc | apply pw_below_drewN | apply below_drew1) | exact HB.out)) hb); clear HB; have HB := n0_; clear n0_; (try clear hb); (try clear hb2); (try clear hk); (try clear hi)))
                                  go_ret
                                  exact ⟨by first | rfl | (simp [errW_none, errW_some] <;> rfl) | (simp only [← hji44]; first | rfl | (simp [errW_none, errW_some] <;> rfl)) | (simp [*, errW_none, errW_some] <;> rfl), by repeat (first | (with_reducible first | exact HB.out | apply below_alloc | apply pw_below_drewN | apply below_drew1) | exact HB.out)⟩
                                · rw [if_neg c52] at H
                                  have c52b0 : (t186 == 12) = false := beq_eq_false_iff_ne.mpr c52
                                  have c52b1 : (t186 != 12) = true := bne_iff_ne.mpr c52
                                  obtain rfl := Option.some.inj H
                                  go_wp2_with (first | ((with_reducible refine gate_callee (f := 10) rfl ?_); refine goesL_ (some 122) rfl rfl Try.func10 (by kernel_rfl) rfl #[.string (t168.extract 0 ((ji44) : Int).toNat)] rfl (by (try simp only [List.map_toArray, List.map_cons, List.map_nil]); first | done | (simp only [hji44]; rfl) | rfl | (simp only [List.length_drop, List.length_take]; rfl)) ?_; (with_reducible refine (Given.code_Get.calls (t168.extract 0 ((ji44) : Int).toNat) t180 t181 t182 _ A47.out).mono ?_); rintro e w56 ⟨rfl, hb⟩; refine ⟨_, rfl, ?_⟩; have n0_ := Aside0.mk (below_step (by repeat (first | (with_reducible first | exact HB.out | apply below_alloc | apply pw_below_drewN | apply below_drew1) | exact HB.out)) hb); clear HB; have HB := n0_; clear n0_; (try clear hb); (try clear hb2); (try clear hk); (try clear hi)) | ((with_reducible refine gate_callee (f := 18) rfl ?_); refine goesL_ (some 128) rfl rfl Try.func18 (by kernel_rfl) rfl #[.string a2] rfl (by (try simp only [List.map_toArray, List.map_cons, List.map_nil]); first | done | rfl | (simp only [List.length_drop, List.length_take]; rfl)) ?_; (with_reducible refine (code_Text.calls a2 t183 _ A48.out).mono ?_); rintro e w57 ⟨rfl, hb⟩; refine ⟨_, rfl, ?_⟩; have n0_ := Aside0.mk (below_step (by repeat (first | (with_reducible first | exact HB.out | apply below_alloc | apply pw_below_drewN | apply below_drew1) | exact HB.out)) hb); clear HB; have HB := n0_; clear n0_; (try clear hb); (try clear hb2); (try clear hk); (try clear hi)) | ((with_reducible refine gate_callee (f := 12) rfl ?_); refine goesL_ (some 134) rfl rfl Try.func12 (by kernel_rfl) rfl #[.string (t183 ++ a3), .int .i64 (wrap64 ((a2.size : Int) - 1))] rfl (by (try simp only [List.map_toArray, List.map_cons, List.map_nil]); first | done | rfl | (simp only [List.length_drop, List.length_take]; rfl)) ?_; (with_reducible refine (code_Texts.calls (t183 ++ a3) (wrap64 ((a2.size : Int) - 1)) t184 t185 t186 _ A50.out).mono ?_); rintro e w58 ⟨rfl, hb⟩; refine ⟨_, rfl, ?_⟩; have n0_ := Aside0.mk (below_step (by repeat (first | (with_reducible first | exact HB.out | apply below_alloc | apply pw_below_drewN | apply below_drew1) | exact HB.out)) hb); clear HB; have HB := n0_; clear n0_; (try clear hb); (try clear hb2); (try clear hk); (try clear hi)))
                                  go_ret
                                  exact ⟨by first | rfl | (simp [errW_none, errW_some] <;> rfl) | (simp only [← hji44]; first | rfl | (simp [errW_none, errW_some] <;> rfl)) | (simp [*, errW_none, errW_some] <;> rfl), by repeat (first | (with_reducible first | exact HB.out | apply below_alloc | apply pw_below_drewN | apply below_drew1) | exact HB.out)⟩
                              · rw [if_neg c51] at H
                                have c51b0 : (t182 == 10) = false := beq_eq_false_iff_ne.mpr c51
                                have c51b1 : (t182 != 10) = true := bne_iff_ne.mpr c51
                                obtain rfl := Option.some.inj H
                                go_wp2_with (first | ((with_reducible refine gate_callee (f := 10) rfl ?_); refine goesL_ (some 122) rfl rfl Try.func10 (by kernel_rfl) rfl #[.string (t168.extract 0 ((ji44) : Int).toNat)] rfl (by (try simp only [List.map_toArray, List.map_cons, List.map_nil]); first | done | (simp only [hji44]; rfl) | rfl | (simp only [List.length_drop, List.length_take]; rfl)) ?_; (with_reducible refine (Given.code_Get.calls (t168.extract 0 ((ji44) : Int).toNat) t180 t181 t182 _ A47.out).mono ?_); rintro e w59 ⟨rfl, hb⟩; refine ⟨_, rfl, ?_⟩; have n0_ := Aside0.mk (below_step (by repeat (first | (with_reducible first | exact HB.out | apply below_alloc | apply pw_below_drewN | apply below_drew1) | exact HB.out)) hb); clear HB; have HB := n0_; clear n0_; (try clear hb); (try clear hb2); (try clear hk); (try clear hi)) | ((with_reducible refine gate_callee (f := 18) rfl ?_); refine goesL_ (some 128) rfl rfl Try.func18 (by kernel_rfl) rfl #[.string a2] rfl (by (try simp only [List.map_toArray, List.map_cons, List.map_nil]); first | done | rfl | (simp only [List.length_drop, List.length_take]; rfl)) ?_; (with_reducible refine (code_Text.calls a2 t183 _ A48.out).mono ?_); rintro e w60 ⟨rfl, hb⟩; refine ⟨_, rfl, ?_⟩; have n0_ := Aside0.mk (below_step (by repeat (first | (with_reducible first | exact HB.out | apply below_alloc | apply pw_below_drewN | apply below_drew1) | exact HB.out)) hb); clear HB; have HB := n0_; clear n0_; (try clear hb); (try clear hb2); (try clear hk); (try clear hi)) | ((with_reducible refine gate_callee (f := 12) rfl ?_); refine goesL_ (some 134) rfl rfl Try.func12 (by kernel_rfl) rfl #[.string (t183 ++ a3), .int .i64 (wrap64 ((a2.size : Int) - 1))] rfl (by (try simp only [List.map_toArray, List.map_cons, List.map_nil]); first | done | rfl | (simp only [List.length_drop, List.length_take]; rfl)) ?_; (with_reducible refine (code_Texts.calls (t183 ++ a3) (wrap64 ((a2.size : Int) - 1)) t184 t185 t186 _ A50.out).mono ?_); rintro e w61 ⟨rfl, hb⟩; refine ⟨_, rfl, ?_⟩; have n0_ := Aside0.mk (below_step (by repeat (first | (with_reducible first | exact HB.out | apply below_alloc | apply pw_below_drewN | apply below_drew1) | exact HB.out)) hb); clear HB; have HB := n0_; clear n0_; (try clear hb); (try clear hb2); (try clear hk); (try clear hi)))
                                go_ret
                                exact ⟨by first | rfl | (simp [errW_none, errW_some] <;> rfl) | (simp only [← hji44]; first | rfl | (simp [errW_none, errW_some] <;> rfl)) | (simp [*, errW_none, errW_some] <;> rfl), by repeat (first | (with_reducible first | exact HB.out | apply below_alloc | apply pw_below_drewN | apply below_drew1) | exact HB.out)⟩
                            · rw [if_neg c49] at H
                              exact absurd H (by simp)
                          · rw [if_neg c46] at H
                            exact absurd H (by simp)
                        · rw [if_neg c45] at H
                          exact absurd H (by simp)
              · rw [if_neg c19] at H
                exact absurd H (by simp)
            · rw [if_neg c16] at H
              exact absurd H (by simp)
          · rw [if_neg c13] at H
            exact absurd H (by simp)
  · replace c7 := Bool.eq_false_iff.mpr c7
    subst c7
    have H1 : (some false) = some r := by rw [if_neg (show ¬ (false = true) by decide)] at H; exact H
    clear H
    have H := H1
    clear H1
    obtain rfl := Option.some.inj H
    go_enter Try.func4, Try.ntmps4
    go_wp2_with (first | ((with_reducible refine gate_callee (f := 9) rfl ?_); refine goesL_ (some 26) rfl rfl Try.func9 (by kernel_rfl) rfl #[] rfl (by (try simp only [List.map_toArray, List.map_cons, List.map_nil]); first | done | rfl | (simp only [List.length_drop, List.length_take]; rfl)) ?_; (with_reducible refine (ladelaw1_known.calls k  false _ A6.out).mono ?_); rintro e w62 ⟨rfl, hb⟩; refine ⟨_, rfl, ?_⟩; have n0_ := Aside0.mk (below_step (by repeat (first | (with_reducible first | exact HB.out | apply below_alloc | apply pw_below_drewN | apply below_drew1) | exact HB.out)) hb); clear HB; have HB := n0_; clear n0_; (try clear hb); (try clear hb2); (try clear hk); (try clear hi)))
    go_ret
    exact ⟨by first | rfl | (simp [errW_none, errW_some] <;> rfl) | (simp [*, errW_none, errW_some] <;> rfl), by repeat (first | (with_reducible first | exact HB.out | apply below_alloc | apply pw_below_drewN | apply below_drew1) | exact HB.out)⟩

/-- THE ONE PURE STATEMENT of ladelaw1_CodeBack: yours. -/
def ladelaw1_CodeBack.Pure : Prop := ∀ (a0 : Int) (a1 : Int) (a2 : ByteArray) (a3 : ByteArray) (a4 : Int), (Lit.int .i64 a0).wf = true → (Lit.int .u32 a1).wf = true → a2.size ≤ 140737488351232 → a3.size ≤ 140737488351232 → (Lit.int .u8 a4).wf = true → ∃ k, ladelaw1_CodeBack.f k a0 a1 a2 a3 a4 = some true
theorem ladelaw1_CodeBack.walk (P : ladelaw1_CodeBack.Pure) (a0 : Int) (a1 : Int) (a2 : ByteArray) (a3 : ByteArray) (a4 : Int) (w : World) (w0 : (Lit.int .i64 a0).wf = true) (w1 : (Lit.int .u32 a1).wf = true) (w2 : a2.size ≤ 140737488351232) (w3 : a3.size ≤ 140737488351232) (w4 : (Lit.int .u8 a4).wf = true) :
    Calls Try.prog 4 #[.int .i64 a0, .int .u32 a1, .string a2, .string a3, .int .u8 a4] w fun e w' => e = .returned (.bool true) ∧ Below w.heap.size w w' := by
  obtain ⟨k, h⟩ := P a0 a1 a2 a3 a4 w0 w1 w2 w3 w4
  refine (ladelaw1_CodeBack.calls k a0 a1 a2 a3 a4 true w h).mono ?_
  rintro e w' ⟨rfl, hd⟩
  exact ⟨rfl, hd⟩

end Go.Proofs.Ytangohljdpjgeaa.Q
