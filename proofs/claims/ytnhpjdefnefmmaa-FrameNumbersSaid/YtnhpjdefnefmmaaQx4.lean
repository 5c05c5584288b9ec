-- Made by a program of this session (pr.py), out of the kit's printer with contracts of its own: Lean checks it.
import Derived.Test.YtnhpjdefnefmmaaQx0
import Derived.Test.YtnhpjdefnefmmaaQx1
namespace Go.Proofs.Ytnhpjdefnefmmaa.Q
attribute [local go_sem high] Given.unary_xor_u32
open Go.RowKit Go.Proofs.YtnhpjdefnefmmaaW.PrintWords Go.Proofs.YtnhpjdefnefmmaaW.PrintLast Go.Proofs.YtnhpjdefnefmmaaW.PrintMore
attribute [local go_sem] max2_int min2_int max_two min_two max_three min_three max_four min_four   -- for this text's walks alone
set_option linter.unusedVariables false
set_option linter.unusedSimpArgs false

/-! ### ladelaw3_FrameRows: function 6 -/
mutual
def ladelaw3_FrameRows.j0 : Nat → List ByteArray → ByteArray → Bool → Option (Bool)
  | 0, _, _, _ => none
  | k + 1, x0, x1, x23 => if x23 = true then (some true) else (ladelaw3_FrameRows.l0 k x0 x1 (⟨#[]⟩ : ByteArray) 0)
def ladelaw3_FrameRows.l0 : Nat → List ByteArray → ByteArray → ByteArray → Int → Option (Bool)
  | 0, _, _, _, _ => none
  | k + 1, x0, x1, x5, x6 => if x6 < (x0.length : Int) then (if 0 ≤ x6 then (if ((rdOf ByteArray.empty x0 x6).size : Int) > 200 then (some true) else ((frame_Wrap.f k (rdOf ByteArray.empty x0 x6)).bind fun bt165 => (if ((bt165.2 == 0) != ((rdOf ByteArray.empty x0 x6).toList != ([] : List UInt8))) = true then (some false) else (if x5.size + bt165.1.size ≤ 9223372036854775807 then (ladelaw3_FrameRows.l0 k x0 x1 (x5 ++ bt165.1) (wrap64 (x6 + 1))) else (none))))) else (none)) else (if x5.size + x1.size ≤ 9223372036854775807 then (ladelaw3_FrameRows.l1 k x0 x1 (x5 ++ x1) 0 0) else (none))
def ladelaw3_FrameRows.l1 : Nat → List ByteArray → ByteArray → ByteArray → Int → Int → Option (Bool)
  | 0, _, _, _, _, _ => none
  | k + 1, x0, x1, x5, x9, x10 => if x10 < (x0.length : Int) then (if 0 ≤ x10 then (if (rdOf ByteArray.empty x0 x10).toList = ([] : List UInt8) then (ladelaw3_FrameRows.l1 k x0 x1 x5 x9 (wrap64 (x10 + 1))) else (if 0 ≤ (mn x9 (x5.size : Int)) then (if (mn x9 (x5.size : Int)) ≤ (x5.size : Int) then ((Given.frame_Read.f (x5.extract ((mn x9 (x5.size : Int)) : Int).toNat x5.size)).bind fun bt169 => (if bt169.2.2 = 1 then (if bt169.1.toList = (rdOf ByteArray.empty x0 x10).toList then (ladelaw3_FrameRows.l1 k x0 x1 x5 (wrap64 (x9 + bt169.2.1)) (wrap64 (x10 + 1))) else (some false)) else (some false))) else (none)) else (none))) else (none)) else (some ((wrap64 ((x5.size : Int) - x9)) == (x1.size : Int)))
end
def ladelaw3_FrameRows.f (k : Nat) (l0 : List ByteArray) (a1 : ByteArray) : Option (Bool) := (ladelaw3_known.f k).bind fun t162 => (if t162 = true then (if (l0.length : Int) > 12 then (ladelaw3_FrameRows.j0 k l0 a1 true) else (ladelaw3_FrameRows.j0 k l0 a1 (decide ((a1.size : Int) > 50)))) else (some false))
theorem ladelaw3_FrameRows.mono_l : ∀ k, (∀ y0 y1 y2, LeO (ladelaw3_FrameRows.j0 k y0 y1 y2) (ladelaw3_FrameRows.j0 (k + 1) y0 y1 y2)) ∧ (∀ y0 y1 y2 y3, LeO (ladelaw3_FrameRows.l0 k y0 y1 y2 y3) (ladelaw3_FrameRows.l0 (k + 1) y0 y1 y2 y3)) ∧ (∀ y0 y1 y2 y3 y4, LeO (ladelaw3_FrameRows.l1 k y0 y1 y2 y3 y4) (ladelaw3_FrameRows.l1 (k + 1) y0 y1 y2 y3 y4))
  | 0 => ⟨fun _ _ _ r h => by simp [ladelaw3_FrameRows.j0] at h, fun _ _ _ _ r h => by simp [ladelaw3_FrameRows.l0] at h, fun _ _ _ _ _ r h => by simp [ladelaw3_FrameRows.l1] at h⟩
  | k + 1 => by
    obtain ⟨ih0, ih1, ih2⟩ := ladelaw3_FrameRows.mono_l k
    refine ⟨?_, ?_, ?_⟩
    · intro y0 y1 y2
      unfold ladelaw3_FrameRows.j0
      repeat' first
      | (with_reducible exact ih0 _ _ _)
      | (with_reducible exact ih1 _ _ _ _)
      | (with_reducible exact ih2 _ _ _ _ _)
      | (with_reducible exact frame_Wrap.mono _ _)
      | (with_reducible exact ladelaw3_known.mono _)
      | (with_reducible exact LeO.refl _)
      | (with_reducible exact LeO.none _)
      | (with_reducible refine LeO.ite ?_ ?_)
      | (with_reducible refine LeO.bind ?_ (fun _ => ?_))
      | exact ih0 _ _ _
      | exact ih1 _ _ _ _
      | exact ih2 _ _ _ _ _
      | exact frame_Wrap.mono _ _
      | exact ladelaw3_known.mono _
      | exact LeO.none _
      | refine LeO.ite ?_ ?_
      | refine LeO.bind ?_ (fun _ => ?_)
    · intro y0 y1 y2 y3
      unfold ladelaw3_FrameRows.l0
      repeat' first
      | (with_reducible exact ih0 _ _ _)
      | (with_reducible exact ih1 _ _ _ _)
      | (with_reducible exact ih2 _ _ _ _ _)
      | (with_reducible exact frame_Wrap.mono _ _)
      | (with_reducible exact ladelaw3_known.mono _)
      | (with_reducible exact LeO.refl _)
      | (with_reducible exact LeO.none _)
      | (with_reducible refine LeO.ite ?_ ?_)
      | (with_reducible refine LeO.bind ?_ (fun _ => ?_))
      | exact ih0 _ _ _
      | exact ih1 _ _ _ _
      | exact ih2 _ _ _ _ _
      | exact frame_Wrap.mono _ _
      | exact ladelaw3_known.mono _
      | exact LeO.none _
      | refine LeO.ite ?_ ?_
      | refine LeO.bind ?_ (fun _ => ?_)
    · intro y0 y1 y2 y3 y4
      unfold ladelaw3_FrameRows.l1
      repeat' first
      | (with_reducible exact ih0 _ _ _)
      | (with_reducible exact ih1 _ _ _ _)
      | (with_reducible exact ih2 _ _ _ _ _)
      | (with_reducible exact frame_Wrap.mono _ _)
      | (with_reducible exact ladelaw3_known.mono _)
      | (with_reducible exact LeO.refl _)
      | (with_reducible exact LeO.none _)
      | (with_reducible refine LeO.ite ?_ ?_)
      | (with_reducible refine LeO.bind ?_ (fun _ => ?_))
      | exact ih0 _ _ _
      | exact ih1 _ _ _ _
      | exact ih2 _ _ _ _ _
      | exact frame_Wrap.mono _ _
      | exact ladelaw3_known.mono _
      | exact LeO.none _
      | refine LeO.ite ?_ ?_
      | refine LeO.bind ?_ (fun _ => ?_)
theorem ladelaw3_FrameRows.mono : ∀ a0 a1 k, LeO (ladelaw3_FrameRows.f k a0 a1) (ladelaw3_FrameRows.f (k + 1) a0 a1) := by
  intro a0 a1 k
  obtain ⟨ih0, ih1, ih2⟩ := ladelaw3_FrameRows.mono_l k
  unfold ladelaw3_FrameRows.f
  repeat' first
      | (with_reducible exact ih0 _ _ _)
      | (with_reducible exact ih1 _ _ _ _)
      | (with_reducible exact ih2 _ _ _ _ _)
      | (with_reducible exact frame_Wrap.mono _ _)
      | (with_reducible exact ladelaw3_known.mono _)
      | (with_reducible exact LeO.refl _)
      | (with_reducible exact LeO.none _)
      | (with_reducible refine LeO.ite ?_ ?_)
      | (with_reducible refine LeO.bind ?_ (fun _ => ?_))
      | exact ih0 _ _ _
      | exact ih1 _ _ _ _
      | exact ih2 _ _ _ _ _
      | exact frame_Wrap.mono _ _
      | exact ladelaw3_known.mono _
      | exact LeO.none _
      | refine LeO.ite ?_ ?_
      | refine LeO.bind ?_ (fun _ => ?_)
set_option maxHeartbeats 8000000 in
set_option maxRecDepth 100000 in
theorem ladelaw3_FrameRows.calls (k : Nat) (A0 : Option Addr) (c0 : Nat) (l0 : List ByteArray) (a1 : ByteArray) (r : Bool) (w : World) (hr0 : Kd.C Kd.string w A0 l0.length l0) (hc0 : l0.length ≤ c0) (h : ladelaw3_FrameRows.f k l0 a1 = some r) :
    Calls Try.prog 6 #[.slice A0 l0.length c0, .string a1] w fun e w' => e = .returned (.bool r) ∧ Below w.heap.size w w' := by
  have HR0 := Aside0.mk hr0
  have HC0 := Aside0.mk hc0
  clear hr0 hc0
  have HB := Aside0.mk (Below.refl w.heap.size w)
  have H : ((ladelaw3_known.f k).bind fun t162 => (if t162 = true then (if (l0.length : Int) > 12 then (ladelaw3_FrameRows.j0 k l0 a1 true) else (ladelaw3_FrameRows.j0 k l0 a1 (decide ((a1.size : Int) > 50)))) else (some false))) = some r := h
  clear h
  replace H := Option.bind_eq_some_iff.mp H
  obtain ⟨t162, A30, H⟩ := H
  replace H : (if t162 = true then (if (l0.length : Int) > 12 then (ladelaw3_FrameRows.j0 k l0 a1 true) else (ladelaw3_FrameRows.j0 k l0 a1 (decide ((a1.size : Int) > 50)))) else (some false)) = some r := H
  have A3 := Aside0.mk A30
  clear A30
  by_cases c4 : t162 = true
  · subst c4
    have H1 : (if (l0.length : Int) > 12 then (ladelaw3_FrameRows.j0 k l0 a1 true) else (ladelaw3_FrameRows.j0 k l0 a1 (decide ((a1.size : Int) > 50)))) = some r := by rw [if_pos rfl] at H; exact H
    clear H
    have H := H1
    clear H1
    have HC5 := Aside0.mk H
    clear H
    go_enter Try.func6, Try.ntmps6
    go_upto_region 3 with (first | ((with_reducible refine gate_callee (f := 9) rfl ?_); refine goesL_ (some 14) rfl rfl Try.func9 (by kernel_rfl) rfl #[] rfl (by (try simp only [List.map_toArray, List.map_cons, List.map_nil]); first | done | rfl | (simp only [List.length_drop, List.length_take]; rfl)) ?_; (with_reducible refine (ladelaw3_known.calls k  true _ A3.out).mono ?_); rintro e w6 ⟨rfl, hb⟩; refine ⟨_, rfl, ?_⟩; have n0_ := Aside0.mk (below_step (by repeat (first | (with_reducible first | exact HB.out | apply below_alloc | apply pw_below_drewN | apply below_drew1) | exact HB.out)) hb); clear HB; have HB := n0_; clear n0_; (try clear hb); (try clear hb2); (try clear hk); (try clear hi)))
    (try simp only [Act.put, List.setIfInBounds_toArray, List.set_cons_zero, List.set_cons_succ])
    go_cut [23] (fun v23 wc => ∃ (kq : Nat) (x23_4 : Bool), v23 = .bool x23_4 ∧ Aside0 (ladelaw3_FrameRows.j0 kq l0 a1 x23_4 = some r) ∧ Aside0 (kq ≤ k) ∧ Aside0 (Below w.heap.size w wc))
    case first =>
      have H := HC5.out
      clear HC5
      by_cases c7 : (l0.length : Int) > 12
      · rw [if_pos c7] at H
        have c7b0 : decide (12 < (l0.length : Int)) = true := decide_eq_true c7
        have c7b1 : decide (12 < l0.length) = true := decide_eq_true (by omega)
        clear c7
        (first | rw [c7b0] | (simp only [i64_w, i32_w]; rw [c7b0]) | skip)
        have H' := Aside0.mk H
        clear H
        go_wp2
        go_meet
        case rel => exact ⟨_, (true), (by first | rfl | (simp; done) | (simp [*]; done)), H', ⟨by first | omega | exact Nat.le_refl _⟩, ⟨by repeat (first | (with_reducible first | exact HB.out | apply below_alloc | apply pw_below_drewN | apply below_drew1) | exact HB.out)⟩⟩
      · rw [if_neg c7] at H
        have c7b0 : decide (12 < (l0.length : Int)) = false := decide_eq_false c7
        have c7b1 : decide (12 < l0.length) = false := decide_eq_false (by omega)
        clear c7
        (first | rw [c7b0] | (simp only [i64_w, i32_w]; rw [c7b0]) | skip)
        have H' := Aside0.mk H
        clear H
        go_wp2
        go_meet
        case rel => exact ⟨_, (decide ((a1.size : Int) > 50)), (by first | rfl | (simp; done) | (simp [*]; done)), H', ⟨by first | omega | exact Nat.le_refl _⟩, ⟨by repeat (first | (with_reducible first | exact HB.out | apply below_alloc | apply pw_below_drewN | apply below_drew1) | exact HB.out)⟩⟩
    case rest =>
      clear HC5
      try clear p2
      try clear c4
      try clear c6
      try clear c7
      try clear c7b0
      try clear c7b1
      obtain ⟨kq, x23_4, rfl, HA, HJ4, HB⟩ := hcut
      cases kq with
      | zero => exact absurd HA.out (by simp [ladelaw3_FrameRows.j0])
      | succ kj4 =>
        have H := HA.out
        clear HA
        simp only [ladelaw3_FrameRows.j0] at H
        by_cases c8 : x23_4 = true
        · subst c8
          have H1 : (some true) = some r := by rw [if_pos rfl] at H; exact H
          clear H
          have H := H1
          clear H1
          obtain rfl := Option.some.inj H
          go_wp2
          go_ret
          exact ⟨by first | rfl | (simp [errW_none, errW_some] <;> rfl) | (simp [*, errW_none, errW_some] <;> rfl), by repeat (first | (with_reducible first | exact HB.out | apply below_alloc | apply pw_below_drewN | apply below_drew1) | exact HB.out)⟩
        · replace c8 := Bool.eq_false_iff.mpr c8
          subst c8
          have H1 : (ladelaw3_FrameRows.l0 kj4 l0 a1 (⟨#[]⟩ : ByteArray) 0) = some r := by rw [if_neg (show ¬ (false = true) by decide)] at H; exact H
          clear H
          have H := H1
          clear H1
          have H' := Aside0.mk H
          clear H
          go_wp2
          go_loopg [5, 6] kj4 (fun kq v5 v6 w' => ∃ (x5_2 : ByteArray) (x6_2 : Int), v5 = .string x5_2 ∧ v6 = .int .i64 x6_2 ∧ Aside0 (ladelaw3_FrameRows.l0 kq l0 a1 x5_2 x6_2 = some r) ∧ Aside0 (kq ≤ kj4) ∧ Aside0 (Below w.heap.size w w'))
          case atStart => exact ⟨((⟨#[]⟩ : ByteArray)), (0), (by first | rfl | (simp; done) | (simp [*]; done)), (by first | rfl | (simp; done) | (simp [*]; done)), H', ⟨Nat.le_refl _⟩, ⟨by repeat (first | (with_reducible first | exact HB.out | apply below_alloc | apply pw_below_drewN | apply below_drew1) | exact HB.out)⟩⟩
          case round =>
            clear H'
            try clear p2
            try clear c4
            try clear c6
            try clear c7
            try clear c7b0
            try clear c7b1
            try clear c8
            try clear p2
            obtain ⟨x5_2, x6_2, rfl, rfl, HA, HK2, HB⟩ := hrel
            cases gk with
            | zero => exact absurd HA.out (by simp [ladelaw3_FrameRows.l0])
            | succ k2 =>
              have H := HA.out
              clear HA
              simp only [ladelaw3_FrameRows.l0] at H
              by_cases c9 : x6_2 < (l0.length : Int)
              · rw [if_pos c9] at H
                have c9b0 : decide (x6_2 < (l0.length : Int)) = true := decide_eq_true c9
                clear c9
                by_cases c10 : 0 ≤ x6_2
                · rw [if_pos c10] at H
                  have c10b0 : decide (0 ≤ x6_2) = true := decide_eq_true c10
                  clear c10
                  by_cases c11 : ((rdOf ByteArray.empty l0 x6_2).size : Int) > 200
                  · rw [if_pos c11] at H
                    have c11b0 : decide (200 < ((rdOf ByteArray.empty l0 x6_2).size : Int)) = true := decide_eq_true c11
                    have c11b1 : decide (200 < (rdOf ByteArray.empty l0 x6_2).size) = true := decide_eq_true (by omega)
                    clear c11
                    obtain rfl := Option.some.inj H
                    have p163 : 0 ≤ (x6_2 : Int) := of_decide_eq_true (by first | (with_reducible assumption) | assumption)
                    have q163 : x6_2 < (l0.length : Int) := of_decide_eq_true (by first | (with_reducible assumption) | assumption)
                    obtain ⟨ad163, e163, hx163_0⟩ := Kd.at_string HR0.out x6_2 p163 q163
                    cases e163
                    replace hx163_0 := (HB.out.cell (World.block_lt_of_cell? w _ hx163_0)).trans hx163_0
                    replace p163 := eq_true p163
                    replace q163 := eq_true q163
                    go_wp2
                    go_ret
                    exact ⟨by first | rfl | (simp [errW_none, errW_some] <;> rfl) | (simp [*, errW_none, errW_some] <;> rfl), by repeat (first | (with_reducible first | exact HB.out | apply below_alloc | apply pw_below_drewN | apply below_drew1) | exact HB.out)⟩
                  · rw [if_neg c11] at H
                    have c11b0 : decide (200 < ((rdOf ByteArray.empty l0 x6_2).size : Int)) = false := decide_eq_false c11
                    have c11b1 : decide (200 < (rdOf ByteArray.empty l0 x6_2).size) = false := decide_eq_false (by omega)
                    clear c11
                    replace H := Option.bind_eq_some_iff.mp H
                    obtain ⟨⟨t165, t166⟩, A120, H⟩ := H
                    replace H : (if ((t166 == 0) != ((rdOf ByteArray.empty l0 x6_2).toList != ([] : List UInt8))) = true then (some false) else (if x5_2.size + t165.size ≤ 9223372036854775807 then (ladelaw3_FrameRows.l0 k2 l0 a1 (x5_2 ++ t165) (wrap64 (x6_2 + 1))) else (none))) = some r := H
                    have A12 := Aside0.mk A120
                    clear A120
                    by_cases c13 : ((t166 == 0) != ((rdOf ByteArray.empty l0 x6_2).toList != ([] : List UInt8))) = true
                    · rw [if_pos c13] at H
                      have c13b0 : ((t166 == 0) != ((rdOf ByteArray.empty l0 x6_2).toList != ([] : List UInt8))) = true := c13
                      have c13b5 : (!((t166 == 0) == !(rdOf ByteArray.empty l0 x6_2).toList.isEmpty)) = true := by have h := c13b0; rw [Given.ne_empty] at h; exact h
                      have c13b6 : ((t166 == 0) == !(rdOf ByteArray.empty l0 x6_2).toList.isEmpty) = false := by have h := c13b5; simpa only [Bool.not_eq_eq_eq_not, Bool.not_true, Bool.not_false] using h
                      (try (have c13b1 : decide ((t166 == 0) = ((rdOf ByteArray.empty l0 x6_2).toList != ([] : List UInt8))) = false := by simpa using c13))
                      (try (have c13b2 : ((t166 == 0) == ((rdOf ByteArray.empty l0 x6_2).toList != ([] : List UInt8))) = false := by simpa using c13))
                      (try (have c13b3 : ¬ ((t166 == 0) = ((rdOf ByteArray.empty l0 x6_2).toList != ([] : List UInt8))) := by simpa using c13))
                      clear c13
                      obtain rfl := Option.some.inj H
                      have p163 : 0 ≤ (x6_2 : Int) := of_decide_eq_true (by first | (with_reducible assumption) | assumption)
                      have q163 : x6_2 < (l0.length : Int) := of_decide_eq_true (by first | (with_reducible assumption) | assumption)
                      obtain ⟨ad163, e163, hx163_0⟩ := Kd.at_string HR0.out x6_2 p163 q163
                      cases e163
                      replace hx163_0 := (HB.out.cell (World.block_lt_of_cell? w _ hx163_0)).trans hx163_0
                      replace p163 := eq_true p163
                      replace q163 := eq_true q163
                      have p164 : 0 ≤ (x6_2 : Int) := of_decide_eq_true (by first | (with_reducible assumption) | assumption)
                      have q164 : x6_2 < (l0.length : Int) := of_decide_eq_true (by first | (with_reducible assumption) | assumption)
                      obtain ⟨ad164, e164, hx164_0⟩ := Kd.at_string HR0.out x6_2 p164 q164
                      obtain rfl : ad163 = ad164 := (by injection e164)
                      replace hx164_0 := (HB.out.cell (World.block_lt_of_cell? w _ hx164_0)).trans hx164_0
                      replace p164 := eq_true p164
                      replace q164 := eq_true q164
                      go_wp2_with (first | ((with_reducible refine gate_callee (f := 10) rfl ?_); refine goesL_ (some 41) rfl rfl Try.func10 (by kernel_rfl) rfl #[.string (rdOf ByteArray.empty l0 x6_2)] rfl (by (try simp only [List.map_toArray, List.map_cons, List.map_nil]); first | done | rfl | (simp only [List.length_drop, List.length_take]; rfl)) ?_; (with_reducible refine (frame_Wrap.calls k2 (rdOf ByteArray.empty l0 x6_2) t165 t166 _ A12.out).mono ?_); rintro e w14 ⟨rfl, hb⟩; refine ⟨_, rfl, ?_⟩; have n0_ := Aside0.mk (below_step (by repeat (first | (with_reducible first | exact HB.out | apply below_alloc | apply pw_below_drewN | apply below_drew1) | exact HB.out)) hb); clear HB; have HB := n0_; clear n0_; (try clear hb); (try clear hb2); (try clear hk); (try clear hi); have p167 : 0 ≤ (x6_2 : Int) := of_decide_eq_true (by first | (with_reducible assumption) | assumption); have q167 : x6_2 < (l0.length : Int) := of_decide_eq_true (by first | (with_reducible assumption) | assumption); obtain ⟨ad167, e167, hx167_0⟩ := Kd.at_string HR0.out x6_2 p167 q167; obtain rfl : ad163 = ad167 := (by injection e167); replace hx167_0 := (HB.out.cell (World.block_lt_of_cell? w _ hx167_0)).trans hx167_0; replace p167 := eq_true p167; replace q167 := eq_true q167))
                      go_ret
                      exact ⟨by first | rfl | (simp [errW_none, errW_some] <;> rfl) | (simp [*, errW_none, errW_some] <;> rfl), by repeat (first | (with_reducible first | exact HB.out | apply below_alloc | apply pw_below_drewN | apply below_drew1) | exact HB.out)⟩
                    · rw [if_neg c13] at H
                      have c13b0 : ((t166 == 0) != ((rdOf ByteArray.empty l0 x6_2).toList != ([] : List UInt8))) = false := by simpa using c13
                      have c13b5 : (!((t166 == 0) == !(rdOf ByteArray.empty l0 x6_2).toList.isEmpty)) = false := by have h := c13b0; rw [Given.ne_empty] at h; exact h
                      have c13b6 : ((t166 == 0) == !(rdOf ByteArray.empty l0 x6_2).toList.isEmpty) = true := by have h := c13b5; simpa only [Bool.not_eq_eq_eq_not, Bool.not_true, Bool.not_false] using h
                      (try (have c13b1 : decide ((t166 == 0) = ((rdOf ByteArray.empty l0 x6_2).toList != ([] : List UInt8))) = true := by simpa using c13))
                      (try (have c13b2 : ((t166 == 0) == ((rdOf ByteArray.empty l0 x6_2).toList != ([] : List UInt8))) = true := by simpa using c13))
                      clear c13
                      by_cases c15 : x5_2.size + t165.size ≤ 9223372036854775807
                      · rw [if_pos c15] at H
                        have c15b0 := eq_true c15
                        have c15b1 : decide (x5_2.size + t165.size ≤ 9223372036854775807) = true := decide_eq_true c15
                        try have c15b2 : (9223372036854775807 < x5_2.size + t165.size) = False := eq_false (Nat.not_lt.2 c15)
                        have H' := Aside0.mk H
                        clear H
                        have p163 : 0 ≤ (x6_2 : Int) := of_decide_eq_true (by first | (with_reducible assumption) | assumption)
                        have q163 : x6_2 < (l0.length : Int) := of_decide_eq_true (by first | (with_reducible assumption) | assumption)
                        obtain ⟨ad163, e163, hx163_0⟩ := Kd.at_string HR0.out x6_2 p163 q163
                        cases e163
                        replace hx163_0 := (HB.out.cell (World.block_lt_of_cell? w _ hx163_0)).trans hx163_0
                        replace p163 := eq_true p163
                        replace q163 := eq_true q163
                        have p164 : 0 ≤ (x6_2 : Int) := of_decide_eq_true (by first | (with_reducible assumption) | assumption)
                        have q164 : x6_2 < (l0.length : Int) := of_decide_eq_true (by first | (with_reducible assumption) | assumption)
                        obtain ⟨ad164, e164, hx164_0⟩ := Kd.at_string HR0.out x6_2 p164 q164
                        obtain rfl : ad163 = ad164 := (by injection e164)
                        replace hx164_0 := (HB.out.cell (World.block_lt_of_cell? w _ hx164_0)).trans hx164_0
                        replace p164 := eq_true p164
                        replace q164 := eq_true q164
                        go_wp2_with (first | ((with_reducible refine gate_callee (f := 10) rfl ?_); refine goesL_ (some 41) rfl rfl Try.func10 (by kernel_rfl) rfl #[.string (rdOf ByteArray.empty l0 x6_2)] rfl (by (try simp only [List.map_toArray, List.map_cons, List.map_nil]); first | done | rfl | (simp only [List.length_drop, List.length_take]; rfl)) ?_; (with_reducible refine (frame_Wrap.calls k2 (rdOf ByteArray.empty l0 x6_2) t165 t166 _ A12.out).mono ?_); rintro e w16 ⟨rfl, hb⟩; refine ⟨_, rfl, ?_⟩; have n0_ := Aside0.mk (below_step (by repeat (first | (with_reducible first | exact HB.out | apply below_alloc | apply pw_below_drewN | apply below_drew1) | exact HB.out)) hb); clear HB; have HB := n0_; clear n0_; (try clear hb); (try clear hb2); (try clear hk); (try clear hi); have p167 : 0 ≤ (x6_2 : Int) := of_decide_eq_true (by first | (with_reducible assumption) | assumption); have q167 : x6_2 < (l0.length : Int) := of_decide_eq_true (by first | (with_reducible assumption) | assumption); obtain ⟨ad167, e167, hx167_0⟩ := Kd.at_string HR0.out x6_2 p167 q167; obtain rfl : ad163 = ad167 := (by injection e167); replace hx167_0 := (HB.out.cell (World.block_lt_of_cell? w _ hx167_0)).trans hx167_0; replace p167 := eq_true p167; replace q167 := eq_true q167))
                        go_roundg k2
                        case measure => have := HJ4.out; have := HK2.out; omega
                        case rel => exact ⟨(x5_2 ++ t165), (wrap64 (x6_2 + 1)), (by first | rfl | (simp; done) | (simp [*]; done)), (by first | rfl | (simp; done) | (simp [*]; done)), H', ⟨by have := HJ4.out; have := HK2.out; omega⟩, ⟨by repeat (first | (with_reducible first | exact HB.out | apply below_alloc | apply pw_below_drewN | apply below_drew1) | exact HB.out)⟩⟩
                      · rw [if_neg c15] at H
                        exact absurd H (by simp)
                · rw [if_neg c10] at H
                  exact absurd H (by simp)
              · rw [if_neg c9] at H
                have c9b0 : decide (x6_2 < (l0.length : Int)) = false := decide_eq_false c9
                clear c9
                by_cases c17 : x5_2.size + a1.size ≤ 9223372036854775807
                · rw [if_pos c17] at H
                  have c17b0 := eq_true c17
                  have c17b1 : decide (x5_2.size + a1.size ≤ 9223372036854775807) = true := decide_eq_true c17
                  try have c17b2 : (9223372036854775807 < x5_2.size + a1.size) = False := eq_false (Nat.not_lt.2 c17)
                  have H' := Aside0.mk H
                  clear H
                  go_wp2
                  obtain ⟨x5s, hx5s⟩ : ∃ z, x5_2 ++ a1 = z := ⟨_, rfl⟩
                  rw [hx5s] at H' ⊢
                  clear hx5s
                  go_loopg [9, 10] k2 (fun kq v9 v10 w' => ∃ (x9_3 : Int) (x10_3 : Int), v9 = .int .i64 x9_3 ∧ v10 = .int .i64 x10_3 ∧ Aside0 (ladelaw3_FrameRows.l1 kq l0 a1 x5s x9_3 x10_3 = some r) ∧ Aside0 (kq ≤ k2) ∧ Aside0 (Below w.heap.size w w'))
                  case atStart => exact ⟨(0), (0), (by first | rfl | (simp; done) | (simp [*]; done)), (by first | rfl | (simp; done) | (simp [*]; done)), H', ⟨Nat.le_refl _⟩, ⟨by repeat (first | (with_reducible first | exact HB.out | apply below_alloc | apply pw_below_drewN | apply below_drew1) | exact HB.out)⟩⟩
                  case round =>
                    clear H'
                    try clear c1
                    try clear p1
                    try clear q1
                    try clear hx1
                    try clear p2
                    try clear c4
                    try clear c6
                    try clear p6
                    try clear c7
                    try clear c7b0
                    try clear c7b1
                    try clear c8
                    try clear c9
                    try clear c9b0
                    try clear c10
                    try clear c10b0
                    try clear c11
                    try clear c11b0
                    try clear c11b1
                    try clear c13
                    try clear c13b0
                    try clear c13b1
                    try clear c13b2
                    try clear c15
                    try clear c15b0
                    try clear c15b1
                    try clear c15b2
                    try clear p16
                    try clear q16
                    try clear hx16
                    try clear c17
                    try clear c17b0
                    try clear c17b1
                    try clear c17b2
                    try clear hx163_0
                    try clear hx164_0
                    try clear hx167_0
                    try clear p163
                    try clear p164
                    try clear p167
                    try clear p2
                    try clear q163
                    try clear q164
                    try clear q167
                    obtain ⟨x9_3, x10_3, rfl, rfl, HA, HK3, HB⟩ := hrel
                    cases gk with
                    | zero => exact absurd HA.out (by simp [ladelaw3_FrameRows.l1])
                    | succ k3 =>
                      have H := HA.out
                      clear HA
                      simp only [ladelaw3_FrameRows.l1] at H
                      by_cases c18 : x10_3 < (l0.length : Int)
                      · rw [if_pos c18] at H
                        have c18b0 : decide (x10_3 < (l0.length : Int)) = true := decide_eq_true c18
                        clear c18
                        by_cases c19 : 0 ≤ x10_3
                        · rw [if_pos c19] at H
                          have c19b0 : decide (0 ≤ x10_3) = true := decide_eq_true c19
                          clear c19
                          by_cases c20 : (rdOf ByteArray.empty l0 x10_3).toList = ([] : List UInt8)
                          · rw [if_pos c20] at H
                            have c20b0 : ((rdOf ByteArray.empty l0 x10_3).toList == ([] : List UInt8)) = true := beq_iff_eq.mpr c20
                            have c20b1 : ((rdOf ByteArray.empty l0 x10_3).toList != ([] : List UInt8)) = false := bne_eq_false_iff_eq.mpr c20
                            clear c20
                            have H' := Aside0.mk H
                            clear H
                            have p168 : 0 ≤ (x10_3 : Int) := of_decide_eq_true (by first | (with_reducible assumption) | assumption)
                            have q168 : x10_3 < (l0.length : Int) := of_decide_eq_true (by first | (with_reducible assumption) | assumption)
                            obtain ⟨ad168, e168, hx168_0⟩ := Kd.at_string HR0.out x10_3 p168 q168
                            cases e168
                            replace hx168_0 := (HB.out.cell (World.block_lt_of_cell? w _ hx168_0)).trans hx168_0
                            replace p168 := eq_true p168
                            replace q168 := eq_true q168
                            go_wp2
                            go_roundg k3
                            case measure => have := HJ4.out; have := HK2.out; have := HK3.out; omega
                            case rel => exact ⟨(x9_3), (wrap64 (x10_3 + 1)), (by first | rfl | (simp; done) | (simp [*]; done)), (by first | rfl | (simp; done) | (simp [*]; done)), H', ⟨by have := HJ4.out; have := HK2.out; have := HK3.out; omega⟩, ⟨by repeat (first | (with_reducible first | exact HB.out | apply below_alloc | apply pw_below_drewN | apply below_drew1) | exact HB.out)⟩⟩
                          · rw [if_neg c20] at H
                            have c20b0 : ((rdOf ByteArray.empty l0 x10_3).toList == ([] : List UInt8)) = false := beq_eq_false_iff_ne.mpr c20
                            have c20b1 : ((rdOf ByteArray.empty l0 x10_3).toList != ([] : List UInt8)) = true := bne_iff_ne.mpr c20
                            obtain ⟨ji21, hji21⟩ : ∃ j_ : Int, (mn x9_3 (x5s.size : Int)) = j_ := ⟨_, rfl⟩
                            replace H : (if 0 ≤ (ji21) then (if (ji21) ≤ (x5s.size : Int) then ((Given.frame_Read.f (x5s.extract ((ji21) : Int).toNat x5s.size)).bind fun bt169 => (if bt169.2.2 = 1 then (if bt169.1.toList = (rdOf ByteArray.empty l0 x10_3).toList then (ladelaw3_FrameRows.l1 k3 l0 a1 x5s (wrap64 (x9_3 + bt169.2.1)) (wrap64 (x10_3 + 1))) else (some false)) else (some false))) else (none)) else (none)) = some r := by first | (rw [hji21] at H; exact H) | (simp only [hji21] at H ⊢; exact H)
                            have hji21_ : (if (x5s.size : Int) < x9_3 then (x5s.size : Int) else x9_3) = ji21 := hji21
                            by_cases c22 : 0 ≤ (ji21)
                            · rw [if_pos c22] at H
                              have c22b0 := eq_true c22
                              have c22b1 : decide (0 ≤ (ji21)) = true := decide_eq_true c22
                              clear c22
                              by_cases c23 : (ji21) ≤ (x5s.size : Int)
                              · rw [if_pos c23] at H
                                have c23b0 := eq_true c23
                                have c23b1 : decide ((ji21) ≤ (x5s.size : Int)) = true := decide_eq_true c23
                                replace H := Option.bind_eq_some_iff.mp H
                                obtain ⟨⟨t169, t170, t171⟩, A240, H⟩ := H
                                replace H : (if t171 = 1 then (if t169.toList = (rdOf ByteArray.empty l0 x10_3).toList then (ladelaw3_FrameRows.l1 k3 l0 a1 x5s (wrap64 (x9_3 + t170)) (wrap64 (x10_3 + 1))) else (some false)) else (some false)) = some r := H
                                have A24 := Aside0.mk A240
                                clear A240
                                by_cases c25 : t171 = 1
                                · rw [if_pos c25] at H
                                  have c25b0 : (t171 == 1) = true := beq_iff_eq.mpr c25
                                  have c25b1 : (t171 != 1) = false := bne_eq_false_iff_eq.mpr c25
                                  clear c25
                                  by_cases c26 : t169.toList = (rdOf ByteArray.empty l0 x10_3).toList
                                  · rw [if_pos c26] at H
                                    have c26b0 : (t169.toList == (rdOf ByteArray.empty l0 x10_3).toList) = true := beq_iff_eq.mpr c26
                                    have c26b1 : (t169.toList != (rdOf ByteArray.empty l0 x10_3).toList) = false := bne_eq_false_iff_eq.mpr c26
                                    clear c26
                                    have H' := Aside0.mk H
                                    clear H
                                    have p168 : 0 ≤ (x10_3 : Int) := of_decide_eq_true (by first | (with_reducible assumption) | assumption)
                                    have q168 : x10_3 < (l0.length : Int) := of_decide_eq_true (by first | (with_reducible assumption) | assumption)
                                    obtain ⟨ad168, e168, hx168_0⟩ := Kd.at_string HR0.out x10_3 p168 q168
                                    cases e168
                                    replace hx168_0 := (HB.out.cell (World.block_lt_of_cell? w _ hx168_0)).trans hx168_0
                                    replace p168 := eq_true p168
                                    replace q168 := eq_true q168
                                    go_wp2_with (first | ((with_reducible refine gate_callee (f := 12) rfl ?_); refine goesL_ (some 76) rfl rfl Try.func12 (by kernel_rfl) rfl #[.string (x5s.extract ((ji21) : Int).toNat x5s.size)] rfl (by (try simp only [List.map_toArray, List.map_cons, List.map_nil]); first | done | (simp only [hji21]; rfl) | rfl | (simp only [List.length_drop, List.length_take]; rfl)) ?_; (with_reducible refine (Given.frame_Read.calls (x5s.extract ((ji21) : Int).toNat x5s.size) t169 t170 t171 _ A24.out).mono ?_); rintro e w27 ⟨rfl, hb⟩; refine ⟨_, rfl, ?_⟩; have n0_ := Aside0.mk (below_step (by repeat (first | (with_reducible first | exact HB.out | apply below_alloc | apply pw_below_drewN | apply below_drew1) | exact HB.out)) hb); clear HB; have HB := n0_; clear n0_; (try clear hb); (try clear hb2); (try clear hk); (try clear hi); have p172 : 0 ≤ (x10_3 : Int) := of_decide_eq_true (by first | (with_reducible assumption) | assumption); have q172 : x10_3 < (l0.length : Int) := of_decide_eq_true (by first | (with_reducible assumption) | assumption); obtain ⟨ad172, e172, hx172_0⟩ := Kd.at_string HR0.out x10_3 p172 q172; obtain rfl : ad168 = ad172 := (by injection e172); replace hx172_0 := (HB.out.cell (World.block_lt_of_cell? w _ hx172_0)).trans hx172_0; replace p172 := eq_true p172; replace q172 := eq_true q172))
                                    go_roundg k3
                                    case measure => have := HJ4.out; have := HK2.out; have := HK3.out; omega
                                    case rel => exact ⟨(wrap64 (x9_3 + t170)), (wrap64 (x10_3 + 1)), (by first | rfl | (simp; done) | (simp [*]; done)), (by first | rfl | (simp; done) | (simp [*]; done)), H', ⟨by have := HJ4.out; have := HK2.out; have := HK3.out; omega⟩, ⟨by repeat (first | (with_reducible first | exact HB.out | apply below_alloc | apply pw_below_drewN | apply below_drew1) | exact HB.out)⟩⟩
                                  · rw [if_neg c26] at H
                                    have c26b0 : (t169.toList == (rdOf ByteArray.empty l0 x10_3).toList) = false := beq_eq_false_iff_ne.mpr c26
                                    have c26b1 : (t169.toList != (rdOf ByteArray.empty l0 x10_3).toList) = true := bne_iff_ne.mpr c26
                                    obtain rfl := Option.some.inj H
                                    have p168 : 0 ≤ (x10_3 : Int) := of_decide_eq_true (by first | (with_reducible assumption) | assumption)
                                    have q168 : x10_3 < (l0.length : Int) := of_decide_eq_true (by first | (with_reducible assumption) | assumption)
                                    obtain ⟨ad168, e168, hx168_0⟩ := Kd.at_string HR0.out x10_3 p168 q168
                                    cases e168
                                    replace hx168_0 := (HB.out.cell (World.block_lt_of_cell? w _ hx168_0)).trans hx168_0
                                    replace p168 := eq_true p168
                                    replace q168 := eq_true q168
                                    go_wp2_with (first | ((with_reducible refine gate_callee (f := 12) rfl ?_); refine goesL_ (some 76) rfl rfl Try.func12 (by kernel_rfl) rfl #[.string (x5s.extract ((ji21) : Int).toNat x5s.size)] rfl (by (try simp only [List.map_toArray, List.map_cons, List.map_nil]); first | done | (simp only [hji21]; rfl) | rfl | (simp only [List.length_drop, List.length_take]; rfl)) ?_; (with_reducible refine (Given.frame_Read.calls (x5s.extract ((ji21) : Int).toNat x5s.size) t169 t170 t171 _ A24.out).mono ?_); rintro e w28 ⟨rfl, hb⟩; refine ⟨_, rfl, ?_⟩; have n0_ := Aside0.mk (below_step (by repeat (first | (with_reducible first | exact HB.out | apply below_alloc | apply pw_below_drewN | apply below_drew1) | exact HB.out)) hb); clear HB; have HB := n0_; clear n0_; (try clear hb); (try clear hb2); (try clear hk); (try clear hi); have p172 : 0 ≤ (x10_3 : Int) := of_decide_eq_true (by first | (with_reducible assumption) | assumption); have q172 : x10_3 < (l0.length : Int) := of_decide_eq_true (by first | (with_reducible assumption) | assumption); obtain ⟨ad172, e172, hx172_0⟩ := Kd.at_string HR0.out x10_3 p172 q172; obtain rfl : ad168 = ad172 := (by injection e172); replace hx172_0 := (HB.out.cell (World.block_lt_of_cell? w _ hx172_0)).trans hx172_0; replace p172 := eq_true p172; replace q172 := eq_true q172))
                                    go_ret
                                    exact ⟨by first | rfl | (simp [errW_none, errW_some] <;> rfl) | (simp only [← hji21]; first | rfl | (simp [errW_none, errW_some] <;> rfl)) | (simp [*, errW_none, errW_some] <;> rfl), by repeat (first | (with_reducible first | exact HB.out | apply below_alloc | apply pw_below_drewN | apply below_drew1) | exact HB.out)⟩
                                · rw [if_neg c25] at H
                                  have c25b0 : (t171 == 1) = false := beq_eq_false_iff_ne.mpr c25
                                  have c25b1 : (t171 != 1) = true := bne_iff_ne.mpr c25
                                  obtain rfl := Option.some.inj H
                                  have p168 : 0 ≤ (x10_3 : Int) := of_decide_eq_true (by first | (with_reducible assumption) | assumption)
                                  have q168 : x10_3 < (l0.length : Int) := of_decide_eq_true (by first | (with_reducible assumption) | assumption)
                                  obtain ⟨ad168, e168, hx168_0⟩ := Kd.at_string HR0.out x10_3 p168 q168
                                  cases e168
                                  replace hx168_0 := (HB.out.cell (World.block_lt_of_cell? w _ hx168_0)).trans hx168_0
                                  replace p168 := eq_true p168
                                  replace q168 := eq_true q168
                                  go_wp2_with (first | ((with_reducible refine gate_callee (f := 12) rfl ?_); refine goesL_ (some 76) rfl rfl Try.func12 (by kernel_rfl) rfl #[.string (x5s.extract ((ji21) : Int).toNat x5s.size)] rfl (by (try simp only [List.map_toArray, List.map_cons, List.map_nil]); first | done | (simp only [hji21]; rfl) | rfl | (simp only [List.length_drop, List.length_take]; rfl)) ?_; (with_reducible refine (Given.frame_Read.calls (x5s.extract ((ji21) : Int).toNat x5s.size) t169 t170 t171 _ A24.out).mono ?_); rintro e w29 ⟨rfl, hb⟩; refine ⟨_, rfl, ?_⟩; have n0_ := Aside0.mk (below_step (by repeat (first | (with_reducible first | exact HB.out | apply below_alloc | apply pw_below_drewN | apply below_drew1) | exact HB.out)) hb); clear HB; have HB := n0_; clear n0_; (try clear hb); (try clear hb2); (try clear hk); (try clear hi)))
                                  go_ret
                                  exact ⟨by first | rfl | (simp [errW_none, errW_some] <;> rfl) | (simp only [← hji21]; first | rfl | (simp [errW_none, errW_some] <;> rfl)) | (simp [*, errW_none, errW_some] <;> rfl), by repeat (first | (with_reducible first | exact HB.out | apply below_alloc | apply pw_below_drewN | apply below_drew1) | exact HB.out)⟩
                              · rw [if_neg c23] at H
                                exact absurd H (by simp)
                            · rw [if_neg c22] at H
                              exact absurd H (by simp)
                        · rw [if_neg c19] at H
                          exact absurd H (by simp)
                      · rw [if_neg c18] at H
                        have c18b0 : decide (x10_3 < (l0.length : Int)) = false := decide_eq_false c18
                        clear c18
                        obtain rfl := Option.some.inj H
                        go_wp2
                        go_ret
                        exact ⟨by first | rfl | (simp [errW_none, errW_some] <;> rfl) | (simp [*, errW_none, errW_some] <;> rfl), by repeat (first | (with_reducible first | exact HB.out | apply below_alloc | apply pw_below_drewN | apply below_drew1) | exact HB.out)⟩
                · rw [if_neg c17] at H
                  exact absurd H (by simp)
  · replace c4 := Bool.eq_false_iff.mpr c4
    subst c4
    have H1 : (some false) = some r := by rw [if_neg (show ¬ (false = true) by decide)] at H; exact H
    clear H
    have H := H1
    clear H1
    obtain rfl := Option.some.inj H
    go_enter Try.func6, Try.ntmps6
    go_wp2_with (first | ((with_reducible refine gate_callee (f := 9) rfl ?_); refine goesL_ (some 14) rfl rfl Try.func9 (by kernel_rfl) rfl #[] rfl (by (try simp only [List.map_toArray, List.map_cons, List.map_nil]); first | done | rfl | (simp only [List.length_drop, List.length_take]; rfl)) ?_; (with_reducible refine (ladelaw3_known.calls k  false _ A3.out).mono ?_); rintro e w30 ⟨rfl, hb⟩; refine ⟨_, rfl, ?_⟩; have n0_ := Aside0.mk (below_step (by repeat (first | (with_reducible first | exact HB.out | apply below_alloc | apply pw_below_drewN | apply below_drew1) | exact HB.out)) hb); clear HB; have HB := n0_; clear n0_; (try clear hb); (try clear hb2); (try clear hk); (try clear hi)))
    go_ret
    exact ⟨by first | rfl | (simp [errW_none, errW_some] <;> rfl) | (simp [*, errW_none, errW_some] <;> rfl), by repeat (first | (with_reducible first | exact HB.out | apply below_alloc | apply pw_below_drewN | apply below_drew1) | exact HB.out)⟩

/-! ### ladelaw3_FrameNumbers: function 7 -/
def ladelaw3_FrameNumbers.j0 : Nat → Int → ByteArray → ByteArray → Int → Int → Bool → Option (Bool)
  | 0, _, _, _, _, _, _ => none
  | k + 1, x0, x2, x7, x8, x9, x38 => if x38 = true then (if x7.toList = ([] : List UInt8) then (if x8 = 0 then (some (x9 == 4)) else (some false)) else (some false)) else (if (x2.size : Int) < (wrap64 ((wrap64 (x0)) + 4)) then (if x7.toList = ([] : List UInt8) then (if x8 = 0 then (some (x9 == 3)) else (some false)) else (some false)) else (if x9 = 1 then (if x8 = (wrap64 ((wrap64 (x0)) + 12)) then (some true) else (if x9 = 4 then (some (x8 == 0)) else (some false))) else (if x9 = 4 then (some (x8 == 0)) else (some false))))
def ladelaw3_FrameNumbers.f (k : Nat) (a0 : Int) (a1 : Int) (a2 : ByteArray) : Option (Bool) := (ladelaw3_known.f k).bind fun t173 => (if t173 = true then (if (a2.size : Int) > 300 then (some true) else ((laderef1_Fixed.f a0).bind fun t174 => ((laderef1_Fixed.f a1).bind fun t175 => (if t174.size + t175.size ≤ 9223372036854775807 then (if (t174 ++ t175).size + a2.size ≤ 9223372036854775807 then ((Given.frame_Read.f ((t174 ++ t175) ++ a2)).bind fun bt176 => (if a1 = (Go.bits .xor .u32 4294967295 a0) then (if a0 = 0 then (ladelaw3_FrameNumbers.j0 k a0 a2 bt176.1 bt176.2.1 bt176.2.2 true) else (ladelaw3_FrameNumbers.j0 k a0 a2 bt176.1 bt176.2.1 bt176.2.2 (decide (a0 > 2000)))) else (ladelaw3_FrameNumbers.j0 k a0 a2 bt176.1 bt176.2.1 bt176.2.2 true))) else (none)) else (none))))) else (some false))
theorem ladelaw3_FrameNumbers.mono_l : ∀ k, (∀ y0 y1 y2 y3 y4 y5, LeO (ladelaw3_FrameNumbers.j0 k y0 y1 y2 y3 y4 y5) (ladelaw3_FrameNumbers.j0 (k + 1) y0 y1 y2 y3 y4 y5))
  | 0 => fun _ _ _ _ _ _ r h => by simp [ladelaw3_FrameNumbers.j0] at h
  | k + 1 => by
    have ih0 := ladelaw3_FrameNumbers.mono_l k
    · intro y0 y1 y2 y3 y4 y5
      unfold ladelaw3_FrameNumbers.j0
      repeat' first
      | (with_reducible exact ih0 _ _ _ _ _ _)
      | (with_reducible exact ladelaw3_known.mono _)
      | (with_reducible exact LeO.refl _)
      | (with_reducible exact LeO.none _)
      | (with_reducible refine LeO.ite ?_ ?_)
      | (with_reducible refine LeO.bind ?_ (fun _ => ?_))
      | exact ih0 _ _ _ _ _ _
      | exact ladelaw3_known.mono _
      | exact LeO.none _
      | refine LeO.ite ?_ ?_
      | refine LeO.bind ?_ (fun _ => ?_)
theorem ladelaw3_FrameNumbers.mono : ∀ a0 a1 a2 k, LeO (ladelaw3_FrameNumbers.f k a0 a1 a2) (ladelaw3_FrameNumbers.f (k + 1) a0 a1 a2) := by
  intro a0 a1 a2 k
  have ih0 := ladelaw3_FrameNumbers.mono_l k
  unfold ladelaw3_FrameNumbers.f
  repeat' first
      | (with_reducible exact ih0 _ _ _ _ _ _)
      | (with_reducible exact ladelaw3_known.mono _)
      | (with_reducible exact LeO.refl _)
      | (with_reducible exact LeO.none _)
      | (with_reducible refine LeO.ite ?_ ?_)
      | (with_reducible refine LeO.bind ?_ (fun _ => ?_))
      | exact ih0 _ _ _ _ _ _
      | exact ladelaw3_known.mono _
      | exact LeO.none _
      | refine LeO.ite ?_ ?_
      | refine LeO.bind ?_ (fun _ => ?_)
set_option maxHeartbeats 8000000 in
set_option maxRecDepth 100000 in
theorem ladelaw3_FrameNumbers.calls (k : Nat) (a0 : Int) (a1 : Int) (a2 : ByteArray) (r : Bool) (w : World) (h : ladelaw3_FrameNumbers.f k a0 a1 a2 = some r) :
    Calls Try.prog 7 #[.int .u32 a0, .int .u32 a1, .string a2] w fun e w' => e = .returned (.bool r) ∧ Below w.heap.size w w' := by
  have HB := Aside0.mk (Below.refl w.heap.size w)
  have H : ((ladelaw3_known.f k).bind fun t173 => (if t173 = true then (if (a2.size : Int) > 300 then (some true) else ((laderef1_Fixed.f a0).bind fun t174 => ((laderef1_Fixed.f a1).bind fun t175 => (if t174.size + t175.size ≤ 9223372036854775807 then (if (t174 ++ t175).size + a2.size ≤ 9223372036854775807 then ((Given.frame_Read.f ((t174 ++ t175) ++ a2)).bind fun bt176 => (if a1 = (Go.bits .xor .u32 4294967295 a0) then (if a0 = 0 then (ladelaw3_FrameNumbers.j0 k a0 a2 bt176.1 bt176.2.1 bt176.2.2 true) else (ladelaw3_FrameNumbers.j0 k a0 a2 bt176.1 bt176.2.1 bt176.2.2 (decide (a0 > 2000)))) else (ladelaw3_FrameNumbers.j0 k a0 a2 bt176.1 bt176.2.1 bt176.2.2 true))) else (none)) else (none))))) else (some false))) = some r := h
  clear h
  replace H := Option.bind_eq_some_iff.mp H
  obtain ⟨t173, A40, H⟩ := H
  replace H : (if t173 = true then (if (a2.size : Int) > 300 then (some true) else ((laderef1_Fixed.f a0).bind fun t174 => ((laderef1_Fixed.f a1).bind fun t175 => (if t174.size + t175.size ≤ 9223372036854775807 then (if (t174 ++ t175).size + a2.size ≤ 9223372036854775807 then ((Given.frame_Read.f ((t174 ++ t175) ++ a2)).bind fun bt176 => (if a1 = (Go.bits .xor .u32 4294967295 a0) then (if a0 = 0 then (ladelaw3_FrameNumbers.j0 k a0 a2 bt176.1 bt176.2.1 bt176.2.2 true) else (ladelaw3_FrameNumbers.j0 k a0 a2 bt176.1 bt176.2.1 bt176.2.2 (decide (a0 > 2000)))) else (ladelaw3_FrameNumbers.j0 k a0 a2 bt176.1 bt176.2.1 bt176.2.2 true))) else (none)) else (none))))) else (some false)) = some r := H
  have A4 := Aside0.mk A40
  clear A40
  by_cases c5 : t173 = true
  · subst c5
    have H1 : (if (a2.size : Int) > 300 then (some true) else ((laderef1_Fixed.f a0).bind fun t174 => ((laderef1_Fixed.f a1).bind fun t175 => (if t174.size + t175.size ≤ 9223372036854775807 then (if (t174 ++ t175).size + a2.size ≤ 9223372036854775807 then ((Given.frame_Read.f ((t174 ++ t175) ++ a2)).bind fun bt176 => (if a1 = (Go.bits .xor .u32 4294967295 a0) then (if a0 = 0 then (ladelaw3_FrameNumbers.j0 k a0 a2 bt176.1 bt176.2.1 bt176.2.2 true) else (ladelaw3_FrameNumbers.j0 k a0 a2 bt176.1 bt176.2.1 bt176.2.2 (decide (a0 > 2000)))) else (ladelaw3_FrameNumbers.j0 k a0 a2 bt176.1 bt176.2.1 bt176.2.2 true))) else (none)) else (none))))) = some r := by rw [if_pos rfl] at H; exact H
    clear H
    have H := H1
    clear H1
    by_cases c6 : (a2.size : Int) > 300
    · rw [if_pos c6] at H
      have c6b0 : decide (300 < (a2.size : Int)) = true := decide_eq_true c6
      have c6b1 : decide (300 < a2.size) = true := decide_eq_true (by omega)
      clear c6
      obtain rfl := Option.some.inj H
      go_enter Try.func7, Try.ntmps7
      go_wp2_with (first | ((with_reducible refine gate_callee (f := 9) rfl ?_); refine goesL_ (some 10) rfl rfl Try.func9 (by kernel_rfl) rfl #[] rfl (by (try simp only [List.map_toArray, List.map_cons, List.map_nil]); first | done | rfl | (simp only [List.length_drop, List.length_take]; rfl)) ?_; (with_reducible refine (ladelaw3_known.calls k  true _ A4.out).mono ?_); rintro e w7 ⟨rfl, hb⟩; refine ⟨_, rfl, ?_⟩; have n0_ := Aside0.mk (below_step (by repeat (first | (with_reducible first | exact HB.out | apply below_alloc | apply pw_below_drewN | apply below_drew1) | exact HB.out)) hb); clear HB; have HB := n0_; clear n0_; (try clear hb); (try clear hb2); (try clear hk); (try clear hi)))
      go_ret
      exact ⟨by first | rfl | (simp [errW_none, errW_some] <;> rfl) | (simp [*, errW_none, errW_some] <;> rfl), by repeat (first | (with_reducible first | exact HB.out | apply below_alloc | apply pw_below_drewN | apply below_drew1) | exact HB.out)⟩
    · rw [if_neg c6] at H
      have c6b0 : decide (300 < (a2.size : Int)) = false := decide_eq_false c6
      have c6b1 : decide (300 < a2.size) = false := decide_eq_false (by omega)
      clear c6
      replace H := Option.bind_eq_some_iff.mp H
      obtain ⟨t174, A80, H⟩ := H
      replace H : ((laderef1_Fixed.f a1).bind fun t175 => (if t174.size + t175.size ≤ 9223372036854775807 then (if (t174 ++ t175).size + a2.size ≤ 9223372036854775807 then ((Given.frame_Read.f ((t174 ++ t175) ++ a2)).bind fun bt176 => (if a1 = (Go.bits .xor .u32 4294967295 a0) then (if a0 = 0 then (ladelaw3_FrameNumbers.j0 k a0 a2 bt176.1 bt176.2.1 bt176.2.2 true) else (ladelaw3_FrameNumbers.j0 k a0 a2 bt176.1 bt176.2.1 bt176.2.2 (decide (a0 > 2000)))) else (ladelaw3_FrameNumbers.j0 k a0 a2 bt176.1 bt176.2.1 bt176.2.2 true))) else (none)) else (none))) = some r := H
      have A8 := Aside0.mk A80
      clear A80
      replace H := Option.bind_eq_some_iff.mp H
      obtain ⟨t175, A90, H⟩ := H
      replace H : (if t174.size + t175.size ≤ 9223372036854775807 then (if (t174 ++ t175).size + a2.size ≤ 9223372036854775807 then ((Given.frame_Read.f ((t174 ++ t175) ++ a2)).bind fun bt176 => (if a1 = (Go.bits .xor .u32 4294967295 a0) then (if a0 = 0 then (ladelaw3_FrameNumbers.j0 k a0 a2 bt176.1 bt176.2.1 bt176.2.2 true) else (ladelaw3_FrameNumbers.j0 k a0 a2 bt176.1 bt176.2.1 bt176.2.2 (decide (a0 > 2000)))) else (ladelaw3_FrameNumbers.j0 k a0 a2 bt176.1 bt176.2.1 bt176.2.2 true))) else (none)) else (none)) = some r := H
      have A9 := Aside0.mk A90
      clear A90
      by_cases c10 : t174.size + t175.size ≤ 9223372036854775807
      · rw [if_pos c10] at H
        have c10b0 := eq_true c10
        have c10b1 : decide (t174.size + t175.size ≤ 9223372036854775807) = true := decide_eq_true c10
        try have c10b2 : (9223372036854775807 < t174.size + t175.size) = False := eq_false (Nat.not_lt.2 c10)
        by_cases c11 : (t174 ++ t175).size + a2.size ≤ 9223372036854775807
        · rw [if_pos c11] at H
          have c11b0 := eq_true c11
          have c11b1 : decide ((t174 ++ t175).size + a2.size ≤ 9223372036854775807) = true := decide_eq_true c11
          try have c11b2 : (9223372036854775807 < (t174 ++ t175).size + a2.size) = False := eq_false (Nat.not_lt.2 c11)
          have c11x := c11
          try (simp only [ByteArray.size_append] at c11x; have c11x2 := eq_false (Nat.not_lt.2 c11x))
          replace H := Option.bind_eq_some_iff.mp H
          obtain ⟨⟨t176, t177, t178⟩, A120, H⟩ := H
          replace H : (if a1 = (Go.bits .xor .u32 4294967295 a0) then (if a0 = 0 then (ladelaw3_FrameNumbers.j0 k a0 a2 t176 t177 t178 true) else (ladelaw3_FrameNumbers.j0 k a0 a2 t176 t177 t178 (decide (a0 > 2000)))) else (ladelaw3_FrameNumbers.j0 k a0 a2 t176 t177 t178 true)) = some r := H
          have A12 := Aside0.mk A120
          clear A120
          have HC13 := Aside0.mk H
          clear H
          go_enter Try.func7, Try.ntmps7
          go_upto_region 6 with (first | ((with_reducible refine gate_callee (f := 9) rfl ?_); refine goesL_ (some 10) rfl rfl Try.func9 (by kernel_rfl) rfl #[] rfl (by (try simp only [List.map_toArray, List.map_cons, List.map_nil]); first | done | rfl | (simp only [List.length_drop, List.length_take]; rfl)) ?_; (with_reducible refine (ladelaw3_known.calls k  true _ A4.out).mono ?_); rintro e w14 ⟨rfl, hb⟩; refine ⟨_, rfl, ?_⟩; have n0_ := Aside0.mk (below_step (by repeat (first | (with_reducible first | exact HB.out | apply below_alloc | apply pw_below_drewN | apply below_drew1) | exact HB.out)) hb); clear HB; have HB := n0_; clear n0_; (try clear hb); (try clear hb2); (try clear hk); (try clear hi)) | ((with_reducible refine gate_callee (f := 15) rfl ?_); refine goesL_ (some 17) rfl rfl Try.func15 (by kernel_rfl) rfl #[.int .u32 a0] rfl (by (try simp only [List.map_toArray, List.map_cons, List.map_nil]); first | done | rfl | (simp only [List.length_drop, List.length_take]; rfl)) ?_; (with_reducible refine (laderef1_Fixed.calls a0 t174 _ A8.out).mono ?_); rintro e w15 ⟨rfl, hb⟩; refine ⟨_, rfl, ?_⟩; have n0_ := Aside0.mk (below_step (by repeat (first | (with_reducible first | exact HB.out | apply below_alloc | apply pw_below_drewN | apply below_drew1) | exact HB.out)) hb); clear HB; have HB := n0_; clear n0_; (try clear hb); (try clear hb2); (try clear hk); (try clear hi)) | ((with_reducible refine gate_callee (f := 15) rfl ?_); refine goesL_ (some 19) rfl rfl Try.func15 (by kernel_rfl) rfl #[.int .u32 a1] rfl (by (try simp only [List.map_toArray, List.map_cons, List.map_nil]); first | done | rfl | (simp only [List.length_drop, List.length_take]; rfl)) ?_; (with_reducible refine (laderef1_Fixed.calls a1 t175 _ A9.out).mono ?_); rintro e w16 ⟨rfl, hb⟩; refine ⟨_, rfl, ?_⟩; have n0_ := Aside0.mk (below_step (by repeat (first | (with_reducible first | exact HB.out | apply below_alloc | apply pw_below_drewN | apply below_drew1) | exact HB.out)) hb); clear HB; have HB := n0_; clear n0_; (try clear hb); (try clear hb2); (try clear hk); (try clear hi)) | ((with_reducible refine gate_callee (f := 12) rfl ?_); refine goesL_ (some 23) rfl rfl Try.func12 (by kernel_rfl) rfl #[.string ((t174 ++ t175) ++ a2)] rfl (by (try simp only [List.map_toArray, List.map_cons, List.map_nil]); first | done | rfl | (simp only [List.length_drop, List.length_take]; rfl)) ?_; (with_reducible refine (Given.frame_Read.calls ((t174 ++ t175) ++ a2) t176 t177 t178 _ A12.out).mono ?_); rintro e w17 ⟨rfl, hb⟩; refine ⟨_, rfl, ?_⟩; have n0_ := Aside0.mk (below_step (by repeat (first | (with_reducible first | exact HB.out | apply below_alloc | apply pw_below_drewN | apply below_drew1) | exact HB.out)) hb); clear HB; have HB := n0_; clear n0_; (try clear hb); (try clear hb2); (try clear hk); (try clear hi)))
          (try simp only [Act.put, List.setIfInBounds_toArray, List.set_cons_zero, List.set_cons_succ])
          go_cut [38] (fun v38 wc => ∃ (kq : Nat) (x38_12 : Bool), v38 = .bool x38_12 ∧ Aside0 (ladelaw3_FrameNumbers.j0 kq a0 a2 t176 t177 t178 x38_12 = some r) ∧ Aside0 (kq ≤ k) ∧ Aside0 (Below w.heap.size w wc))
          case first =>
            have H := HC13.out
            clear HC13
            by_cases c18 : a1 = (Go.bits .xor .u32 4294967295 a0)
            · rw [if_pos c18] at H
              have c18b0 : (a1 == (Go.bits .xor .u32 4294967295 a0)) = true := beq_iff_eq.mpr c18
              have c18b1 : (a1 != (Go.bits .xor .u32 4294967295 a0)) = false := bne_eq_false_iff_eq.mpr c18
              clear c18
              (first | rw [c18b0] | (simp only [i64_w, i32_w]; rw [c18b0]) | skip)
              by_cases c19 : a0 = 0
              · rw [if_pos c19] at H
                have c19b0 : (a0 == 0) = true := beq_iff_eq.mpr c19
                have c19b1 : (a0 != 0) = false := bne_eq_false_iff_eq.mpr c19
                clear c19
                have H' := Aside0.mk H
                clear H
                go_wp2
                go_meet
                case rel => exact ⟨_, (true), (by first | rfl | (simp; done) | (simp [*]; done)), H', ⟨by first | omega | exact Nat.le_refl _⟩, ⟨by repeat (first | (with_reducible first | exact HB.out | apply below_alloc | apply pw_below_drewN | apply below_drew1) | exact HB.out)⟩⟩
              · rw [if_neg c19] at H
                have c19b0 : (a0 == 0) = false := beq_eq_false_iff_ne.mpr c19
                have c19b1 : (a0 != 0) = true := bne_iff_ne.mpr c19
                have H' := Aside0.mk H
                clear H
                go_wp2
                go_meet
                case rel => exact ⟨_, (decide (a0 > 2000)), (by first | rfl | (simp; done) | (simp [*]; done)), H', ⟨by first | omega | exact Nat.le_refl _⟩, ⟨by repeat (first | (with_reducible first | exact HB.out | apply below_alloc | apply pw_below_drewN | apply below_drew1) | exact HB.out)⟩⟩
            · rw [if_neg c18] at H
              have c18b0 : (a1 == (Go.bits .xor .u32 4294967295 a0)) = false := beq_eq_false_iff_ne.mpr c18
              have c18b1 : (a1 != (Go.bits .xor .u32 4294967295 a0)) = true := bne_iff_ne.mpr c18
              (first | rw [c18b0] | (simp only [i64_w, i32_w]; rw [c18b0]) | skip)
              have H' := Aside0.mk H
              clear H
              go_wp2
              go_meet
              case rel => exact ⟨_, (true), (by first | rfl | (simp; done) | (simp [*]; done)), H', ⟨by first | omega | exact Nat.le_refl _⟩, ⟨by repeat (first | (with_reducible first | exact HB.out | apply below_alloc | apply pw_below_drewN | apply below_drew1) | exact HB.out)⟩⟩
          case rest =>
            clear HC13
            try clear c1
            try clear p2
            try clear c5
            try clear c6
            try clear c6b0
            try clear c6b1
            try clear c7
            try clear c9
            try clear c10
            try clear c10b0
            try clear c10b1
            try clear c10b2
            try clear c11
            try clear c11b0
            try clear c11b1
            try clear c11b2
            try clear c12
            try clear c15
            try clear c18
            try clear c18b0
            try clear c18b1
            try clear c19
            try clear c19b0
            try clear c19b1
            obtain ⟨kq, x38_12, rfl, HA, HJ12, HB⟩ := hcut
            cases kq with
            | zero => exact absurd HA.out (by simp [ladelaw3_FrameNumbers.j0])
            | succ kj12 =>
              have H := HA.out
              clear HA
              simp only [ladelaw3_FrameNumbers.j0] at H
              by_cases c20 : x38_12 = true
              · subst c20
                have H1 : (if t176.toList = ([] : List UInt8) then (if t177 = 0 then (some (t178 == 4)) else (some false)) else (some false)) = some r := by rw [if_pos rfl] at H; exact H
                clear H
                have H := H1
                clear H1
                by_cases c21 : t176.toList = ([] : List UInt8)
                · rw [if_pos c21] at H
                  have c21b0 : (t176.toList == ([] : List UInt8)) = true := beq_iff_eq.mpr c21
                  have c21b1 : (t176.toList != ([] : List UInt8)) = false := bne_eq_false_iff_eq.mpr c21
                  clear c21
                  by_cases c22 : t177 = 0
                  · rw [if_pos c22] at H
                    have c22b0 : (t177 == 0) = true := beq_iff_eq.mpr c22
                    have c22b1 : (t177 != 0) = false := bne_eq_false_iff_eq.mpr c22
                    clear c22
                    obtain rfl := Option.some.inj H
                    go_wp2
                    go_ret
                    exact ⟨by first | rfl | (simp [errW_none, errW_some] <;> rfl) | (simp [*, errW_none, errW_some] <;> rfl), by repeat (first | (with_reducible first | exact HB.out | apply below_alloc | apply pw_below_drewN | apply below_drew1) | exact HB.out)⟩
                  · rw [if_neg c22] at H
                    have c22b0 : (t177 == 0) = false := beq_eq_false_iff_ne.mpr c22
                    have c22b1 : (t177 != 0) = true := bne_iff_ne.mpr c22
                    obtain rfl := Option.some.inj H
                    go_wp2
                    go_ret
                    exact ⟨by first | rfl | (simp [errW_none, errW_some] <;> rfl) | (simp [*, errW_none, errW_some] <;> rfl), by repeat (first | (with_reducible first | exact HB.out | apply below_alloc | apply pw_below_drewN | apply below_drew1) | exact HB.out)⟩
                · rw [if_neg c21] at H
                  have c21b0 : (t176.toList == ([] : List UInt8)) = false := beq_eq_false_iff_ne.mpr c21
                  have c21b1 : (t176.toList != ([] : List UInt8)) = true := bne_iff_ne.mpr c21
                  obtain rfl := Option.some.inj H
                  go_wp2
                  go_ret
                  exact ⟨by first | rfl | (simp [errW_none, errW_some] <;> rfl) | (simp [*, errW_none, errW_some] <;> rfl), by repeat (first | (with_reducible first | exact HB.out | apply below_alloc | apply pw_below_drewN | apply below_drew1) | exact HB.out)⟩
              · replace c20 := Bool.eq_false_iff.mpr c20
                subst c20
                have H1 : (if (a2.size : Int) < (wrap64 ((wrap64 (a0)) + 4)) then (if t176.toList = ([] : List UInt8) then (if t177 = 0 then (some (t178 == 3)) else (some false)) else (some false)) else (if t178 = 1 then (if t177 = (wrap64 ((wrap64 (a0)) + 12)) then (some true) else (if t178 = 4 then (some (t177 == 0)) else (some false))) else (if t178 = 4 then (some (t177 == 0)) else (some false)))) = some r := by rw [if_neg (show ¬ (false = true) by decide)] at H; exact H
                clear H
                have H := H1
                clear H1
                by_cases c23 : (a2.size : Int) < (wrap64 ((wrap64 (a0)) + 4))
                · rw [if_pos c23] at H
                  have c23b0 : decide ((a2.size : Int) < (wrap64 ((wrap64 (a0)) + 4))) = true := decide_eq_true c23
                  clear c23
                  by_cases c24 : t176.toList = ([] : List UInt8)
                  · rw [if_pos c24] at H
                    have c24b0 : (t176.toList == ([] : List UInt8)) = true := beq_iff_eq.mpr c24
                    have c24b1 : (t176.toList != ([] : List UInt8)) = false := bne_eq_false_iff_eq.mpr c24
                    clear c24
                    by_cases c25 : t177 = 0
                    · rw [if_pos c25] at H
                      have c25b0 : (t177 == 0) = true := beq_iff_eq.mpr c25
                      have c25b1 : (t177 != 0) = false := bne_eq_false_iff_eq.mpr c25
                      clear c25
                      obtain rfl := Option.some.inj H
                      go_wp2
                      go_ret
                      exact ⟨by first | rfl | (simp [errW_none, errW_some] <;> rfl) | (simp [*, errW_none, errW_some] <;> rfl), by repeat (first | (with_reducible first | exact HB.out | apply below_alloc | apply pw_below_drewN | apply below_drew1) | exact HB.out)⟩
                    · rw [if_neg c25] at H
                      have c25b0 : (t177 == 0) = false := beq_eq_false_iff_ne.mpr c25
                      have c25b1 : (t177 != 0) = true := bne_iff_ne.mpr c25
                      obtain rfl := Option.some.inj H
                      go_wp2
                      go_ret
                      exact ⟨by first | rfl | (simp [errW_none, errW_some] <;> rfl) | (simp [*, errW_none, errW_some] <;> rfl), by repeat (first | (with_reducible first | exact HB.out | apply below_alloc | apply pw_below_drewN | apply below_drew1) | exact HB.out)⟩
                  · rw [if_neg c24] at H
                    have c24b0 : (t176.toList == ([] : List UInt8)) = false := beq_eq_false_iff_ne.mpr c24
                    have c24b1 : (t176.toList != ([] : List UInt8)) = true := bne_iff_ne.mpr c24
                    obtain rfl := Option.some.inj H
                    go_wp2
                    go_ret
                    exact ⟨by first | rfl | (simp [errW_none, errW_some] <;> rfl) | (simp [*, errW_none, errW_some] <;> rfl), by repeat (first | (with_reducible first | exact HB.out | apply below_alloc | apply pw_below_drewN | apply below_drew1) | exact HB.out)⟩
                · rw [if_neg c23] at H
                  have c23b0 : decide ((a2.size : Int) < (wrap64 ((wrap64 (a0)) + 4))) = false := decide_eq_false c23
                  clear c23
                  by_cases c26 : t178 = 1
                  · rw [if_pos c26] at H
                    have c26b0 : (t178 == 1) = true := beq_iff_eq.mpr c26
                    have c26b1 : (t178 != 1) = false := bne_eq_false_iff_eq.mpr c26
                    clear c26
                    by_cases c27 : t177 = (wrap64 ((wrap64 (a0)) + 12))
                    · rw [if_pos c27] at H
                      have c27b0 : (t177 == (wrap64 ((wrap64 (a0)) + 12))) = true := beq_iff_eq.mpr c27
                      have c27b1 : (t177 != (wrap64 ((wrap64 (a0)) + 12))) = false := bne_eq_false_iff_eq.mpr c27
                      clear c27
                      obtain rfl := Option.some.inj H
                      go_wp2
                      go_ret
                      exact ⟨by first | rfl | (simp [errW_none, errW_some] <;> rfl) | (simp [*, errW_none, errW_some] <;> rfl), by repeat (first | (with_reducible first | exact HB.out | apply below_alloc | apply pw_below_drewN | apply below_drew1) | exact HB.out)⟩
                    · rw [if_neg c27] at H
                      have c27b0 : (t177 == (wrap64 ((wrap64 (a0)) + 12))) = false := beq_eq_false_iff_ne.mpr c27
                      have c27b1 : (t177 != (wrap64 ((wrap64 (a0)) + 12))) = true := bne_iff_ne.mpr c27
                      by_cases c28 : t178 = 4
                      · rw [if_pos c28] at H
                        have c28b0 : (t178 == 4) = true := beq_iff_eq.mpr c28
                        have c28b1 : (t178 != 4) = false := bne_eq_false_iff_eq.mpr c28
                        clear c28
                        obtain rfl := Option.some.inj H
                        go_wp2
                        go_ret
                        exact ⟨by first | rfl | (simp [errW_none, errW_some] <;> rfl) | (simp [*, errW_none, errW_some] <;> rfl), by repeat (first | (with_reducible first | exact HB.out | apply below_alloc | apply pw_below_drewN | apply below_drew1) | exact HB.out)⟩
                      · rw [if_neg c28] at H
                        have c28b0 : (t178 == 4) = false := beq_eq_false_iff_ne.mpr c28
                        have c28b1 : (t178 != 4) = true := bne_iff_ne.mpr c28
                        obtain rfl := Option.some.inj H
                        go_wp2
                        go_ret
                        exact ⟨by first | rfl | (simp [errW_none, errW_some] <;> rfl) | (simp [*, errW_none, errW_some] <;> rfl), by repeat (first | (with_reducible first | exact HB.out | apply below_alloc | apply pw_below_drewN | apply below_drew1) | exact HB.out)⟩
                  · rw [if_neg c26] at H
                    have c26b0 : (t178 == 1) = false := beq_eq_false_iff_ne.mpr c26
                    have c26b1 : (t178 != 1) = true := bne_iff_ne.mpr c26
                    by_cases c29 : t178 = 4
                    · rw [if_pos c29] at H
                      have c29b0 : (t178 == 4) = true := beq_iff_eq.mpr c29
                      have c29b1 : (t178 != 4) = false := bne_eq_false_iff_eq.mpr c29
                      clear c29
                      obtain rfl := Option.some.inj H
                      go_wp2
                      go_ret
                      exact ⟨by first | rfl | (simp [errW_none, errW_some] <;> rfl) | (simp [*, errW_none, errW_some] <;> rfl), by repeat (first | (with_reducible first | exact HB.out | apply below_alloc | apply pw_below_drewN | apply below_drew1) | exact HB.out)⟩
                    · rw [if_neg c29] at H
                      have c29b0 : (t178 == 4) = false := beq_eq_false_iff_ne.mpr c29
                      have c29b1 : (t178 != 4) = true := bne_iff_ne.mpr c29
                      obtain rfl := Option.some.inj H
                      go_wp2
                      go_ret
                      exact ⟨by first | rfl | (simp [errW_none, errW_some] <;> rfl) | (simp [*, errW_none, errW_some] <;> rfl), by repeat (first | (with_reducible first | exact HB.out | apply below_alloc | apply pw_below_drewN | apply below_drew1) | exact HB.out)⟩
        · rw [if_neg c11] at H
          exact absurd H (by simp)
      · rw [if_neg c10] at H
        exact absurd H (by simp)
  · replace c5 := Bool.eq_false_iff.mpr c5
    subst c5
    have H1 : (some false) = some r := by rw [if_neg (show ¬ (false = true) by decide)] at H; exact H
    clear H
    have H := H1
    clear H1
    obtain rfl := Option.some.inj H
    go_enter Try.func7, Try.ntmps7
    go_wp2_with (first | ((with_reducible refine gate_callee (f := 9) rfl ?_); refine goesL_ (some 10) rfl rfl Try.func9 (by kernel_rfl) rfl #[] rfl (by (try simp only [List.map_toArray, List.map_cons, List.map_nil]); first | done | rfl | (simp only [List.length_drop, List.length_take]; rfl)) ?_; (with_reducible refine (ladelaw3_known.calls k  false _ A4.out).mono ?_); rintro e w30 ⟨rfl, hb⟩; refine ⟨_, rfl, ?_⟩; have n0_ := Aside0.mk (below_step (by repeat (first | (with_reducible first | exact HB.out | apply below_alloc | apply pw_below_drewN | apply below_drew1) | exact HB.out)) hb); clear HB; have HB := n0_; clear n0_; (try clear hb); (try clear hb2); (try clear hk); (try clear hi)))
    go_ret
    exact ⟨by first | rfl | (simp [errW_none, errW_some] <;> rfl) | (simp [*, errW_none, errW_some] <;> rfl), by repeat (first | (with_reducible first | exact HB.out | apply below_alloc | apply pw_below_drewN | apply below_drew1) | exact HB.out)⟩

/-- THE ONE PURE STATEMENT of ladelaw3_FrameNumbers: yours. -/
def ladelaw3_FrameNumbers.Pure : Prop := ∀ (a0 : Int) (a1 : Int) (a2 : ByteArray), (Lit.int .u32 a0).wf = true → (Lit.int .u32 a1).wf = true → a2.size ≤ 140737488351232 → ∃ k, ladelaw3_FrameNumbers.f k a0 a1 a2 = some true
theorem ladelaw3_FrameNumbers.walk (P : ladelaw3_FrameNumbers.Pure) (a0 : Int) (a1 : Int) (a2 : ByteArray) (w : World) (w0 : (Lit.int .u32 a0).wf = true) (w1 : (Lit.int .u32 a1).wf = true) (w2 : a2.size ≤ 140737488351232) :
    Calls Try.prog 7 #[.int .u32 a0, .int .u32 a1, .string a2] w fun e w' => e = .returned (.bool true) ∧ Below w.heap.size w w' := by
  obtain ⟨k, h⟩ := P a0 a1 a2 w0 w1 w2
  refine (ladelaw3_FrameNumbers.calls k a0 a1 a2 true w h).mono ?_
  rintro e w' ⟨rfl, hd⟩
  exact ⟨rfl, hd⟩

end Go.Proofs.Ytnhpjdefnefmmaa.Q
