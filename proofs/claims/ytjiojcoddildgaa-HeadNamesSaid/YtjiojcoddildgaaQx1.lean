-- Made by a program of this session (pr.py), out of the kit's printer with contracts of its own: Lean checks it.
import Derived.Test.YtjiojcoddildgaaQx0
namespace Go.Proofs.Ytjiojcoddildgaa.Q
attribute [local go_sem high] Given.unary_xor_u32
open Go.RowKit Go.Proofs.YtjiojcoddildgaaW.PrintWords Go.Proofs.YtjiojcoddildgaaW.PrintLast Go.Proofs.YtjiojcoddildgaaW.PrintMore
attribute [local go_sem] max2_int min2_int max_two min_two max_three min_three max_four min_four   -- for this text's walks alone
set_option linter.unusedVariables false
set_option linter.unusedSimpArgs false

/-! ### code_Fixed: function 17 -/
def code_Fixed.l0 : Nat → Int → List Int → Int → Int → Option (ByteArray)
  | 0, _, _, _, _ => none
  | k + 1, x0, x3, x7, x8 => if x8 < x7 then (if 0 ≤ (wrap64 (8 * x8)) then (if 0 ≤ x8 then (if x8 < (x3.length : Int) then (code_Fixed.l0 k x0 (x3.set (x8 : Int).toNat ((shr .u32 x0 (wrap64 (8 * x8))) % 256)) x7 (wrap64 (x8 + 1))) else (none)) else (none)) else (none)) else (some (strOfNums x3))
def code_Fixed.f (k : Nat) (a0 : Int) : Option (ByteArray) := if 4 ≤ 281474976710656 then ((some (List.replicate 4 0 : List Int)).bind fun y101 => (code_Fixed.l0 k a0 y101 (y101.length : Int) 0)) else (none)
theorem code_Fixed.mono_l : ∀ k, (∀ y0 y1 y2 y3, LeO (code_Fixed.l0 k y0 y1 y2 y3) (code_Fixed.l0 (k + 1) y0 y1 y2 y3))
  | 0 => fun _ _ _ _ r h => by simp [code_Fixed.l0] at h
  | k + 1 => by
    have ih0 := code_Fixed.mono_l k
    · intro y0 y1 y2 y3
      unfold code_Fixed.l0
      repeat' first
      | (with_reducible exact ih0 _ _ _ _)
      | (with_reducible exact LeO.refl _)
      | (with_reducible exact LeO.none _)
      | (with_reducible refine LeO.ite ?_ ?_)
      | (with_reducible refine LeO.bind ?_ (fun _ => ?_))
      | exact ih0 _ _ _ _
      | exact LeO.none _
      | refine LeO.ite ?_ ?_
      | refine LeO.bind ?_ (fun _ => ?_)
theorem code_Fixed.mono : ∀ a0 k, LeO (code_Fixed.f k a0) (code_Fixed.f (k + 1) a0) := by
  intro a0 k
  have ih0 := code_Fixed.mono_l k
  unfold code_Fixed.f
  repeat' first
      | (with_reducible exact ih0 _ _ _ _)
      | (with_reducible exact LeO.refl _)
      | (with_reducible exact LeO.none _)
      | (with_reducible refine LeO.ite ?_ ?_)
      | (with_reducible refine LeO.bind ?_ (fun _ => ?_))
      | exact ih0 _ _ _ _
      | exact LeO.none _
      | refine LeO.ite ?_ ?_
      | refine LeO.bind ?_ (fun _ => ?_)
set_option maxHeartbeats 8000000 in
set_option maxRecDepth 100000 in
theorem code_Fixed.calls (k : Nat) (a0 : Int) (r : ByteArray) (w : World) (h : code_Fixed.f k a0 = some r) :
    Calls Try.prog 17 #[.int .u32 a0] w fun e w' => e = .returned (.string r) ∧ Below w.heap.size w w' := by
  have HB := Aside0.mk (Below.refl w.heap.size w)
  have H : (if 4 ≤ 281474976710656 then ((some (List.replicate 4 0 : List Int)).bind fun y101 => (code_Fixed.l0 k a0 y101 (y101.length : Int) 0)) else (none)) = some r := h
  clear h
  by_cases c2 : 4 ≤ 281474976710656
  · rw [if_pos c2] at H
    have c2b0 := eq_true c2
    have c2b1 : decide (4 ≤ 281474976710656) = true := decide_eq_true c2
    clear c2
    obtain ⟨y101, hy101⟩ : ∃ y_ : List Int, y_ = (List.replicate 4 0) := ⟨_, rfl⟩
    replace H : (code_Fixed.l0 k a0 y101 (y101.length : Int) 0) = some r := by first | (rw [hy101]; with_reducible exact H) | (have H2_ := (Option.bind_some _ _).symm.trans H; rw [hy101]; with_reducible exact H2_) | (have H2_ := (Option.bind_some _ _).symm.trans H; with_reducible exact H2_) | with_reducible exact H | (rw [hy101]; exact H) | exact H
    have Ny101 := Aside0.mk hy101
    clear hy101
    have H' := Aside0.mk H
    clear H
    go_enter Try.func17, Try.ntmps17
    go_wp2_with (first | ((with_reducible refine gate_dst (N := 5) rfl ?_); refine Kd.R_make (Kd.int .u8) _ 5 rfl (N := 5) rfl 30 _ _ rfl 4 rfl rfl Try.underlying30 (.int .u8 0) 1 info5 rfl (by decide) (by omega) 0 (ok := fun _ => True) (okp := fun _ => True) rfl (fun _ hk => hk) trivial (by omega) (by omega) (Below.refl _ _) (Nat.le_refl _) ?_; intro v102 w3 ho4 hb hg_ hnew_; clear hg_ hnew_; (first | rw [← Ny101.out] at ho4 | (simp only [Int.reduceToNat] at ho4; rw [← Ny101.out] at ho4)); have n0_ := Aside0.mk (Kd.R_lower ho4 (below_size (by repeat (first | (with_reducible first | exact HB.out | apply below_alloc | apply pw_below_drewN | apply below_drew1) | exact HB.out)))); have n1_ := Aside0.mk (below_step (by repeat (first | (with_reducible first | exact HB.out | apply below_alloc | apply pw_below_drewN | apply below_drew1) | exact HB.out)) hb); clear HB; have HO103 := n0_; have HB := n1_; clear n0_ n1_; clear hb ho4; obtain ⟨Ao5, co5, eo5⟩ := Kd.R_slice HO103.out; subst eo5))
    go_loopg [8] k (fun kq v8 w' => ∃ (x3_1 : List Int) (x8_1 : Int), v8 = .int .i64 x8_1 ∧ Aside0 (code_Fixed.l0 kq a0 x3_1 (y101.length : Int) x8_1 = some r) ∧ Aside0 (kq ≤ k) ∧ Aside0 (Kd.R (Kd.int .u8) 5 w' w.heap.size (fun _ => True) (.slice Ao5 y101.length co5) x3_1) ∧ Aside0 (Below w.heap.size w w'))
    case atStart => exact ⟨(y101), (0), (by first | rfl | (simp; done) | (simp [*]; done)), H', ⟨Nat.le_refl _⟩, ⟨by (with_reducible repeat (first | apply Kd.R_alloc | apply Kd.R_drewN | apply Kd.R_drew)); exact HO103.out⟩, ⟨by repeat (first | (with_reducible first | exact HB.out | apply below_alloc | apply pw_below_drewN | apply below_drew1) | exact HB.out)⟩⟩
    case round =>
      clear H'
      try clear c1
      try clear c2
      try clear c2b0
      try clear c2b1
      try clear p2
      obtain ⟨x3_1, x8_1, rfl, HA, HK1, HO_3, HB⟩ := hrel
      have hl3_1 := (Kd.R_reads' HO_3.out).1
      rw [hl3_1] at HO_3
      (try simp only [hl3_1])
      cases gk with
      | zero => exact absurd HA.out (by simp [code_Fixed.l0])
      | succ k1 =>
        have H := HA.out
        clear HA
        simp only [code_Fixed.l0] at H
        by_cases c6 : x8_1 < (y101.length : Int)
        · rw [if_pos c6] at H
          have c6b0 : decide (x8_1 < (y101.length : Int)) = true := decide_eq_true c6
          clear c6
          obtain ⟨ji7, hji7⟩ : ∃ j_ : Int, (wrap64 (8 * x8_1)) = j_ := ⟨_, rfl⟩
          replace H : (if 0 ≤ (ji7) then (if 0 ≤ x8_1 then (if x8_1 < (x3_1.length : Int) then (code_Fixed.l0 k1 a0 (x3_1.set (x8_1 : Int).toNat ((shr .u32 a0 (ji7)) % 256)) (y101.length : Int) (wrap64 (x8_1 + 1))) else (none)) else (none)) else (none)) = some r := by first | (rw [hji7] at H; exact H) | (simp only [hji7] at H ⊢; exact H)
          have hji7w : (IntKind.i64.wrap (8 * x8_1)) = ji7 := (i64_w _).trans hji7
          by_cases c8 : 0 ≤ (ji7)
          · rw [if_pos c8] at H
            have c8b0 := eq_true c8
            have c8b1 : decide (0 ≤ (ji7)) = true := decide_eq_true c8
            clear c8
            obtain ⟨ji9, hji9⟩ : ∃ j_ : Int, (shr .u32 a0 (ji7)) = j_ := ⟨_, rfl⟩
            replace H : (if 0 ≤ x8_1 then (if x8_1 < (x3_1.length : Int) then (code_Fixed.l0 k1 a0 (x3_1.set (x8_1 : Int).toNat ((ji9) % 256)) (y101.length : Int) (wrap64 (x8_1 + 1))) else (none)) else (none)) = some r := by first | (rw [hji9] at H; exact H) | (simp only [hji9] at H ⊢; exact H)
            have hji9_ : (a0 / 2 ^ min (ji7).toNat 32) = ji9 := hji9
            have hji9z : (ji7) ≤ 32 → (a0 / 2 ^ (ji7).toNat) = ji9 := shr_small hji9
            by_cases c10 : 0 ≤ x8_1
            · rw [if_pos c10] at H
              have c10b0 : decide (0 ≤ x8_1) = true := decide_eq_true c10
              clear c10
              by_cases c11 : x8_1 < (x3_1.length : Int)
              · rw [if_pos c11] at H
                have c11b0 : decide (x8_1 < (x3_1.length : Int)) = true := decide_eq_true c11
                clear c11
                obtain ⟨y104, hy104⟩ : ∃ y_ : List Int, y_ = (x3_1.set (x8_1 : Int).toNat ((ji9) % 256)) := ⟨_, rfl⟩
                replace H : (code_Fixed.l0 k1 a0 y104 (y101.length : Int) (wrap64 (x8_1 + 1))) = some r := by first | (rw [hy104]; with_reducible exact H) | (have H2_ := (Option.bind_some _ _).symm.trans H; rw [hy104]; with_reducible exact H2_) | (have H2_ := (Option.bind_some _ _).symm.trans H; with_reducible exact H2_) | with_reducible exact H | (rw [hy104]; exact H) | exact H
                have Ny104 := Aside0.mk hy104
                clear hy104
                have H' := Aside0.mk H
                clear H
                have p12 : 0 ≤ (x8_1 : Int) := of_decide_eq_true (by first | (with_reducible assumption) | assumption)
                have q12 : (x8_1 : Int) < ((x3_1.length : Int) : Int) := of_decide_eq_true (by first | (with_reducible assumption) | assumption)
                obtain ⟨go12, co12, eo12, gb12, gl12, cl12, HG12⟩ := Kd.R_form HO_3.out (by omega)
                (first | cases eo12 | (injection eo12 with ea_ en_ ec_; (first | subst ea_ | (injection ea_ with ea_; subst ea_)); subst ec_; clear en_))
                have GB12 := Aside0.mk gb12
                have GG12 := Aside0.mk HG12
                clear gb12 gl12 HG12
                obtain ⟨hx12_0, hf12_0⟩ := Kd.R_celln 0 HO_3.out (x8_1 : Int) p12 q12
                replace p12 := eq_true p12
                replace q12 := eq_true q12
                have HP13 := Kd.R_putg HO_3.out (x8_1 : Int) ((ji9) % 256)
                go_wp2_with (first | ((with_reducible refine gate_store (t := 5) (p := 18) rfl ?_); refine store_event (t := 5) (p := 18) (v := ?vo_w14) (w1 := (wr.setCell ⟨go12, (x8_1 : Int).toNat, none⟩ (.int .u8 ((ji9) % 256)))) ?hg ?ho ?hn ?hr ?_; (case ho => rfl); (case hg => rfl); (case hn => rfl); (case hr => first | (go_simp; done) | (go_simp; rfl)); intro w14 hw; have hg : wr.grownBy w14 (some go12) := (by rw [hw]; exact HP13.2); have hp_ : Kd.R (Kd.int .u8) 5 w14 w.heap.size (fun _ => True) (.slice (some ⟨go12, 0, none⟩) x3_1.length co5) y104 := (by rw [hw, Ny104.out]; exact HP13.1); clear HP13; have n0_ := Aside0.mk (hp_); have n1_ := Aside0.mk ((by rw [hw]; exact below_set (HB.out) GB12.out : Below w.heap.size w w14)); clear HO_3; clear HB; have HO_3 := n0_; have HB := n1_; clear n0_ n1_; clear hg hw hp_))
                (try simp only [← hl3_1])
                go_roundg k1
                case measure => have := HK1.out; omega
                case rel => exact ⟨(y104), (wrap64 (x8_1 + 1)), (by first | rfl | (simp; done) | (simp [*]; done)), H', ⟨by have := HK1.out; omega⟩, ⟨by (try simp only [hl3_1]); (with_reducible repeat (first | apply Kd.R_alloc | apply Kd.R_drewN | apply Kd.R_drew)); exact HO_3.out⟩, ⟨by repeat (first | (with_reducible first | exact HB.out | apply below_alloc | apply pw_below_drewN | apply below_drew1) | exact HB.out)⟩⟩
              · rw [if_neg c11] at H
                exact absurd H (by simp)
            · rw [if_neg c10] at H
              exact absurd H (by simp)
          · rw [if_neg c8] at H
            exact absurd H (by simp)
        · rw [if_neg c6] at H
          have c6b0 : decide (x8_1 < (y101.length : Int)) = false := decide_eq_false c6
          (try simp only [hl3_1] at c6b0)
          clear c6
          obtain rfl := Option.some.inj H
          have hcv15 := own_string (P := Try.prog) Try.underlying30 Try.underlying5 Try.underlying9 (Kd.own_of_R HO_3.out)
          go_wp2
          go_ret
          exact ⟨by first | rfl | (simp [errW_none, errW_some] <;> rfl) | (simp [*, errW_none, errW_some] <;> rfl), by repeat (first | (with_reducible first | exact HB.out | apply below_alloc | apply pw_below_drewN | apply below_drew1) | exact HB.out)⟩
  · rw [if_neg c2] at H
    exact absurd H (by simp)

/-! ### head_held: function 18 -/
def head_held.f (a0 : Int) : Option (Int) := some (mn (mx a0 1) 99999999)
set_option maxHeartbeats 8000000 in
set_option maxRecDepth 100000 in
theorem head_held.calls (a0 : Int) (r : Int) (w : World) (h : head_held.f a0 = some r) :
    Calls Try.prog 18 #[.int .i64 a0] w fun e w' => e = .returned (.int .i64 r) ∧ Below w.heap.size w w' := by
  have HB := Aside0.mk (Below.refl w.heap.size w)
  have H : (some (mn (mx a0 1) 99999999)) = some r := h
  clear h
  obtain ⟨ji2, hji2⟩ : ∃ j_ : Int, (mx a0 1) = j_ := ⟨_, rfl⟩
  replace H : (some (mn (ji2) 99999999)) = some r := by first | (rw [hji2] at H; exact H) | (simp only [hji2] at H ⊢; exact H)
  (try (have hji2l : 1 ≤ ji2 := by (rw [← hji2]; unfold mx; (repeat' split) <;> omega)))
  (try (have hji2m : 0 ≤ ji2 := by omega))
  have hji2_ : (if a0 < 1 then 1 else a0) = ji2 := hji2
  obtain ⟨ji3, hji3⟩ : ∃ j_ : Int, (mn (ji2) 99999999) = j_ := ⟨_, rfl⟩
  replace H : (some ji3) = some r := by first | (rw [hji3] at H; exact H) | (simp only [hji3] at H ⊢; exact H)
  have hji3_ : (if 99999999 < (ji2) then 99999999 else (ji2)) = ji3 := hji3
  obtain rfl := Option.some.inj H
  go_enter Try.func18, Try.ntmps18
  go_wp2
  go_ret
  exact ⟨by first | rfl | (simp [errW_none, errW_some] <;> rfl) | (simp only [← hji2, ← hji3]; first | rfl | (simp [errW_none, errW_some] <;> rfl)) | (simp [*, errW_none, errW_some] <;> rfl), by repeat (first | (with_reducible first | exact HB.out | apply below_alloc | apply pw_below_drewN | apply below_drew1) | exact HB.out)⟩

/-! ### crc_Of: function 19 -/
def crc_Of.f (a0 : ByteArray) : Option (Int) := (Given.crc_More.f 0 a0).bind fun t105 => (some t105)
set_option maxHeartbeats 8000000 in
set_option maxRecDepth 100000 in
theorem crc_Of.calls (a0 : ByteArray) (r : Int) (w : World) (h : crc_Of.f a0 = some r) :
    Calls Try.prog 19 #[.string a0] w fun e w' => e = .returned (.int .u32 r) ∧ Below w.heap.size w w' := by
  have HB := Aside0.mk (Below.refl w.heap.size w)
  have H : ((Given.crc_More.f 0 a0).bind fun t105 => (some t105)) = some r := h
  clear h
  replace H := Option.bind_eq_some_iff.mp H
  obtain ⟨t105, A20, H⟩ := H
  replace H : (some t105) = some r := H
  have A2 := Aside0.mk A20
  clear A20
  obtain rfl := Option.some.inj H
  go_enter Try.func19, Try.ntmps19
  go_wp2_with (first | ((with_reducible refine gate_callee (f := 25) rfl ?_); refine goesL_ (some 4) rfl rfl Try.func25 (by kernel_rfl) rfl #[.int .u32 0, .string a0] rfl (by (try simp only [List.map_toArray, List.map_cons, List.map_nil]); first | done | rfl | (simp only [List.length_drop, List.length_take]; rfl)) ?_; (with_reducible refine (Given.crc_More.calls 0 a0 t105 _ A2.out).mono ?_); rintro e w3 ⟨rfl, hb⟩; refine ⟨_, rfl, ?_⟩; have n0_ := Aside0.mk (below_step (by repeat (first | (with_reducible first | exact HB.out | apply below_alloc | apply pw_below_drewN | apply below_drew1) | exact HB.out)) hb); clear HB; have HB := n0_; clear n0_; (try clear hb); (try clear hb2); (try clear hk); (try clear hi)))
  go_ret
  exact ⟨by first | rfl | (simp [errW_none, errW_some] <;> rfl) | (simp [*, errW_none, errW_some] <;> rfl), by repeat (first | (with_reducible first | exact HB.out | apply below_alloc | apply pw_below_drewN | apply below_drew1) | exact HB.out)⟩

/-! ### head_Bytes: function 10 -/
def head_Bytes.f (k : Nat) (a0 : Int) : Option (ByteArray) := (head_held.f a0).bind fun t106 => ((code_Fixed.f k ((t106) % 4294967296)).bind fun t107 => (if 4 + t107.size ≤ 9223372036854775807 then ((code_Fixed.f k 0).bind fun t108 => (if ((⟨#[76, 65, 68, 69]⟩ : ByteArray) ++ t107).size + t108.size ≤ 9223372036854775807 then ((crc_Of.f (((⟨#[76, 65, 68, 69]⟩ : ByteArray) ++ t107) ++ t108)).bind fun t109 => ((code_Fixed.f k t109).bind fun t110 => (if (((⟨#[76, 65, 68, 69]⟩ : ByteArray) ++ t107) ++ t108).size + t110.size ≤ 9223372036854775807 then (some ((((⟨#[76, 65, 68, 69]⟩ : ByteArray) ++ t107) ++ t108) ++ t110)) else (none)))) else (none))) else (none)))
theorem head_Bytes.mono : ∀ a0 k, LeO (head_Bytes.f k a0) (head_Bytes.f (k + 1) a0) := by
  intro a0 k
  unfold head_Bytes.f
  repeat' first
      | (with_reducible exact code_Fixed.mono _ _)
      | (with_reducible exact LeO.refl _)
      | (with_reducible exact LeO.none _)
      | (with_reducible refine LeO.ite ?_ ?_)
      | (with_reducible refine LeO.bind ?_ (fun _ => ?_))
      | exact code_Fixed.mono _ _
      | exact LeO.none _
      | refine LeO.ite ?_ ?_
      | refine LeO.bind ?_ (fun _ => ?_)
set_option maxHeartbeats 8000000 in
set_option maxRecDepth 100000 in
theorem head_Bytes.calls (k : Nat) (a0 : Int) (r : ByteArray) (w : World) (h : head_Bytes.f k a0 = some r) :
    Calls Try.prog 10 #[.int .i64 a0] w fun e w' => e = .returned (.string r) ∧ Below w.heap.size w w' := by
  have HB := Aside0.mk (Below.refl w.heap.size w)
  have H : ((head_held.f a0).bind fun t106 => ((code_Fixed.f k ((t106) % 4294967296)).bind fun t107 => (if 4 + t107.size ≤ 9223372036854775807 then ((code_Fixed.f k 0).bind fun t108 => (if ((⟨#[76, 65, 68, 69]⟩ : ByteArray) ++ t107).size + t108.size ≤ 9223372036854775807 then ((crc_Of.f (((⟨#[76, 65, 68, 69]⟩ : ByteArray) ++ t107) ++ t108)).bind fun t109 => ((code_Fixed.f k t109).bind fun t110 => (if (((⟨#[76, 65, 68, 69]⟩ : ByteArray) ++ t107) ++ t108).size + t110.size ≤ 9223372036854775807 then (some ((((⟨#[76, 65, 68, 69]⟩ : ByteArray) ++ t107) ++ t108) ++ t110)) else (none)))) else (none))) else (none)))) = some r := h
  clear h
  replace H := Option.bind_eq_some_iff.mp H
  obtain ⟨t106, A20, H⟩ := H
  replace H : ((code_Fixed.f k ((t106) % 4294967296)).bind fun t107 => (if 4 + t107.size ≤ 9223372036854775807 then ((code_Fixed.f k 0).bind fun t108 => (if ((⟨#[76, 65, 68, 69]⟩ : ByteArray) ++ t107).size + t108.size ≤ 9223372036854775807 then ((crc_Of.f (((⟨#[76, 65, 68, 69]⟩ : ByteArray) ++ t107) ++ t108)).bind fun t109 => ((code_Fixed.f k t109).bind fun t110 => (if (((⟨#[76, 65, 68, 69]⟩ : ByteArray) ++ t107) ++ t108).size + t110.size ≤ 9223372036854775807 then (some ((((⟨#[76, 65, 68, 69]⟩ : ByteArray) ++ t107) ++ t108) ++ t110)) else (none)))) else (none))) else (none))) = some r := H
  have A2 := Aside0.mk A20
  clear A20
  replace H := Option.bind_eq_some_iff.mp H
  obtain ⟨t107, A30, H⟩ := H
  replace H : (if 4 + t107.size ≤ 9223372036854775807 then ((code_Fixed.f k 0).bind fun t108 => (if ((⟨#[76, 65, 68, 69]⟩ : ByteArray) ++ t107).size + t108.size ≤ 9223372036854775807 then ((crc_Of.f (((⟨#[76, 65, 68, 69]⟩ : ByteArray) ++ t107) ++ t108)).bind fun t109 => ((code_Fixed.f k t109).bind fun t110 => (if (((⟨#[76, 65, 68, 69]⟩ : ByteArray) ++ t107) ++ t108).size + t110.size ≤ 9223372036854775807 then (some ((((⟨#[76, 65, 68, 69]⟩ : ByteArray) ++ t107) ++ t108) ++ t110)) else (none)))) else (none))) else (none)) = some r := H
  have A3 := Aside0.mk A30
  clear A30
  by_cases c4 : 4 + t107.size ≤ 9223372036854775807
  · rw [if_pos c4] at H
    have c4b0 := eq_true c4
    have c4b1 : decide (4 + t107.size ≤ 9223372036854775807) = true := decide_eq_true c4
    try have c4b2 : (9223372036854775807 < 4 + t107.size) = False := eq_false (Nat.not_lt.2 c4)
    replace H := Option.bind_eq_some_iff.mp H
    obtain ⟨t108, A50, H⟩ := H
    replace H : (if ((⟨#[76, 65, 68, 69]⟩ : ByteArray) ++ t107).size + t108.size ≤ 9223372036854775807 then ((crc_Of.f (((⟨#[76, 65, 68, 69]⟩ : ByteArray) ++ t107) ++ t108)).bind fun t109 => ((code_Fixed.f k t109).bind fun t110 => (if (((⟨#[76, 65, 68, 69]⟩ : ByteArray) ++ t107) ++ t108).size + t110.size ≤ 9223372036854775807 then (some ((((⟨#[76, 65, 68, 69]⟩ : ByteArray) ++ t107) ++ t108) ++ t110)) else (none)))) else (none)) = some r := H
    have A5 := Aside0.mk A50
    clear A50
    by_cases c6 : ((⟨#[76, 65, 68, 69]⟩ : ByteArray) ++ t107).size + t108.size ≤ 9223372036854775807
    · rw [if_pos c6] at H
      have c6b0 := eq_true c6
      have c6b1 : decide (((⟨#[76, 65, 68, 69]⟩ : ByteArray) ++ t107).size + t108.size ≤ 9223372036854775807) = true := decide_eq_true c6
      try have c6b2 : (9223372036854775807 < ((⟨#[76, 65, 68, 69]⟩ : ByteArray) ++ t107).size + t108.size) = False := eq_false (Nat.not_lt.2 c6)
      have c6x := c6
      try (simp only [ByteArray.size_append] at c6x; try rw [show (⟨#[76, 65, 68, 69]⟩ : ByteArray).size = 4 from rfl] at c6x; have c6x2 := eq_false (Nat.not_lt.2 c6x))
      replace H := Option.bind_eq_some_iff.mp H
      obtain ⟨t109, A70, H⟩ := H
      replace H : ((code_Fixed.f k t109).bind fun t110 => (if (((⟨#[76, 65, 68, 69]⟩ : ByteArray) ++ t107) ++ t108).size + t110.size ≤ 9223372036854775807 then (some ((((⟨#[76, 65, 68, 69]⟩ : ByteArray) ++ t107) ++ t108) ++ t110)) else (none))) = some r := H
      have A7 := Aside0.mk A70
      clear A70
      replace H := Option.bind_eq_some_iff.mp H
      obtain ⟨t110, A80, H⟩ := H
      replace H : (if (((⟨#[76, 65, 68, 69]⟩ : ByteArray) ++ t107) ++ t108).size + t110.size ≤ 9223372036854775807 then (some ((((⟨#[76, 65, 68, 69]⟩ : ByteArray) ++ t107) ++ t108) ++ t110)) else (none)) = some r := H
      have A8 := Aside0.mk A80
      clear A80
      by_cases c9 : (((⟨#[76, 65, 68, 69]⟩ : ByteArray) ++ t107) ++ t108).size + t110.size ≤ 9223372036854775807
      · rw [if_pos c9] at H
        have c9b0 := eq_true c9
        have c9b1 : decide ((((⟨#[76, 65, 68, 69]⟩ : ByteArray) ++ t107) ++ t108).size + t110.size ≤ 9223372036854775807) = true := decide_eq_true c9
        try have c9b2 : (9223372036854775807 < (((⟨#[76, 65, 68, 69]⟩ : ByteArray) ++ t107) ++ t108).size + t110.size) = False := eq_false (Nat.not_lt.2 c9)
        have c9x := c9
        try (simp only [ByteArray.size_append] at c9x; try rw [show (⟨#[76, 65, 68, 69]⟩ : ByteArray).size = 4 from rfl] at c9x; have c9x2 := eq_false (Nat.not_lt.2 c9x))
        obtain rfl := Option.some.inj H
        go_enter Try.func10, Try.ntmps10
        go_wp2_with (first | ((with_reducible refine gate_callee (f := 18) rfl ?_); refine goesL_ (some 5) rfl rfl Try.func18 (by kernel_rfl) rfl #[.int .i64 a0] rfl (by (try simp only [List.map_toArray, List.map_cons, List.map_nil]); first | done | rfl | (simp only [List.length_drop, List.length_take]; rfl)) ?_; (with_reducible refine (head_held.calls a0 t106 _ A2.out).mono ?_); rintro e w10 ⟨rfl, hb⟩; refine ⟨_, rfl, ?_⟩; have n0_ := Aside0.mk (below_step (by repeat (first | (with_reducible first | exact HB.out | apply below_alloc | apply pw_below_drewN | apply below_drew1) | exact HB.out)) hb); clear HB; have HB := n0_; clear n0_; (try clear hb); (try clear hb2); (try clear hk); (try clear hi)) | ((with_reducible refine gate_callee (f := 17) rfl ?_); refine goesL_ (some 7) rfl rfl Try.func17 (by kernel_rfl) rfl #[.int .u32 ((t106) % 4294967296)] rfl (by (try simp only [List.map_toArray, List.map_cons, List.map_nil]); first | done | rfl | (simp only [List.length_drop, List.length_take]; rfl)) ?_; (with_reducible refine (code_Fixed.calls k ((t106) % 4294967296) t107 _ A3.out).mono ?_); rintro e w11 ⟨rfl, hb⟩; refine ⟨_, rfl, ?_⟩; have n0_ := Aside0.mk (below_step (by repeat (first | (with_reducible first | exact HB.out | apply below_alloc | apply pw_below_drewN | apply below_drew1) | exact HB.out)) hb); clear HB; have HB := n0_; clear n0_; (try clear hb); (try clear hb2); (try clear hk); (try clear hi)) | ((with_reducible refine gate_callee (f := 17) rfl ?_); refine goesL_ (some 9) rfl rfl Try.func17 (by kernel_rfl) rfl #[.int .u32 0] rfl (by (try simp only [List.map_toArray, List.map_cons, List.map_nil]); first | done | rfl | (simp only [List.length_drop, List.length_take]; rfl)) ?_; (with_reducible refine (code_Fixed.calls k 0 t108 _ A5.out).mono ?_); rintro e w12 ⟨rfl, hb⟩; refine ⟨_, rfl, ?_⟩; have n0_ := Aside0.mk (below_step (by repeat (first | (with_reducible first | exact HB.out | apply below_alloc | apply pw_below_drewN | apply below_drew1) | exact HB.out)) hb); clear HB; have HB := n0_; clear n0_; (try clear hb); (try clear hb2); (try clear hk); (try clear hi)) | ((with_reducible refine gate_callee (f := 19) rfl ?_); refine goesL_ (some 13) rfl rfl Try.func19 (by kernel_rfl) rfl #[.string (((⟨#[76, 65, 68, 69]⟩ : ByteArray) ++ t107) ++ t108)] rfl (by (try simp only [List.map_toArray, List.map_cons, List.map_nil]); first | done | rfl | (simp only [List.length_drop, List.length_take]; rfl)) ?_; (with_reducible refine (crc_Of.calls (((⟨#[76, 65, 68, 69]⟩ : ByteArray) ++ t107) ++ t108) t109 _ A7.out).mono ?_); rintro e w13 ⟨rfl, hb⟩; refine ⟨_, rfl, ?_⟩; have n0_ := Aside0.mk (below_step (by repeat (first | (with_reducible first | exact HB.out | apply below_alloc | apply pw_below_drewN | apply below_drew1) | exact HB.out)) hb); clear HB; have HB := n0_; clear n0_; (try clear hb); (try clear hb2); (try clear hk); (try clear hi)) | ((with_reducible refine gate_callee (f := 17) rfl ?_); refine goesL_ (some 14) rfl rfl Try.func17 (by kernel_rfl) rfl #[.int .u32 t109] rfl (by (try simp only [List.map_toArray, List.map_cons, List.map_nil]); first | done | rfl | (simp only [List.length_drop, List.length_take]; rfl)) ?_; (with_reducible refine (code_Fixed.calls k t109 t110 _ A8.out).mono ?_); rintro e w14 ⟨rfl, hb⟩; refine ⟨_, rfl, ?_⟩; have n0_ := Aside0.mk (below_step (by repeat (first | (with_reducible first | exact HB.out | apply below_alloc | apply pw_below_drewN | apply below_drew1) | exact HB.out)) hb); clear HB; have HB := n0_; clear n0_; (try clear hb); (try clear hb2); (try clear hk); (try clear hi)))
        go_ret
        exact ⟨by first | rfl | (simp [errW_none, errW_some] <;> rfl) | (simp [*, errW_none, errW_some] <;> rfl), by repeat (first | (with_reducible first | exact HB.out | apply below_alloc | apply pw_below_drewN | apply below_drew1) | exact HB.out)⟩
      · rw [if_neg c9] at H
        exact absurd H (by simp)
    · rw [if_neg c6] at H
      exact absurd H (by simp)
  · rw [if_neg c4] at H
    exact absurd H (by simp)

/-! ### stringslite_HasPrefix: function 27 -/
def stringslite_HasPrefix.f (a0 : ByteArray) (a1 : ByteArray) : Option (Bool) := if (a0.size : Int) ≥ (a1.size : Int) then (if 0 ≤ (a1.size : Int) then (if (a1.size : Int) ≤ (a0.size : Int) then (some ((a0.extract 0 ((a1.size : Int) : Int).toNat).toList == a1.toList)) else (none)) else (none)) else (some false)
set_option maxHeartbeats 8000000 in
set_option maxRecDepth 100000 in
theorem stringslite_HasPrefix.calls (a0 : ByteArray) (a1 : ByteArray) (r : Bool) (w : World) (h : stringslite_HasPrefix.f a0 a1 = some r) :
    Calls Try.prog 27 #[.string a0, .string a1] w fun e w' => e = .returned (.bool r) ∧ Drawn0 w w' := by
  have H : (if (a0.size : Int) ≥ (a1.size : Int) then (if 0 ≤ (a1.size : Int) then (if (a1.size : Int) ≤ (a0.size : Int) then (some ((a0.extract 0 ((a1.size : Int) : Int).toNat).toList == a1.toList)) else (none)) else (none)) else (some false)) = some r := h
  clear h
  by_cases c3 : (a0.size : Int) ≥ (a1.size : Int)
  · rw [if_pos c3] at H
    have c3b0 : decide ((a1.size : Int) ≤ (a0.size : Int)) = true := decide_eq_true c3
    have c3b1 : decide (a1.size ≤ a0.size) = true := decide_eq_true (Int.ofNat_le.mp c3)
    clear c3
    by_cases c4 : 0 ≤ (a1.size : Int)
    · rw [if_pos c4] at H
      have c4b0 := eq_true c4
      have c4b1 : decide (0 ≤ (a1.size : Int)) = true := decide_eq_true c4
      clear c4
      by_cases c5 : (a1.size : Int) ≤ (a0.size : Int)
      · rw [if_pos c5] at H
        have c5b0 := eq_true c5
        have c5b1 : decide ((a1.size : Int) ≤ (a0.size : Int)) = true := decide_eq_true c5
        clear c5
        obtain rfl := Option.some.inj H
        go_enter Try.func27, Try.ntmps27
        go_wp2
        go_ret
        exact ⟨by first | rfl | (simp; done) | (simp [*]; done), by repeat (first | exact Drawn0.refl _ | apply Drawn0.step)⟩
      · rw [if_neg c5] at H
        exact absurd H (by simp)
    · rw [if_neg c4] at H
      exact absurd H (by simp)
  · rw [if_neg c3] at H
    have c3b0 : decide ((a1.size : Int) ≤ (a0.size : Int)) = false := decide_eq_false c3
    have c3b1 : decide (a1.size ≤ a0.size) = false := decide_eq_false (fun h => c3 (Int.ofNat_le.mpr h))
    clear c3
    obtain rfl := Option.some.inj H
    go_enter Try.func27, Try.ntmps27
    go_wp2
    go_ret
    exact ⟨by first | rfl | (simp; done) | (simp [*]; done), by repeat (first | exact Drawn0.refl _ | apply Drawn0.step)⟩

/-! ### strings_HasPrefix: function 23 -/
def strings_HasPrefix.f (a0 : ByteArray) (a1 : ByteArray) : Option (Bool) := (stringslite_HasPrefix.f a0 a1).bind fun t111 => (some t111)
set_option maxHeartbeats 8000000 in
set_option maxRecDepth 100000 in
theorem strings_HasPrefix.calls (a0 : ByteArray) (a1 : ByteArray) (r : Bool) (w : World) (h : strings_HasPrefix.f a0 a1 = some r) :
    Calls Try.prog 23 #[.string a0, .string a1] w fun e w' => e = .returned (.bool r) ∧ Drawn0 w w' := by
  have H : ((stringslite_HasPrefix.f a0 a1).bind fun t111 => (some t111)) = some r := h
  clear h
  replace H := Option.bind_eq_some_iff.mp H
  obtain ⟨t111, A30, H⟩ := H
  replace H : (some t111) = some r := H
  have A3 := Aside0.mk A30
  clear A30
  obtain rfl := Option.some.inj H
  go_enter Try.func23, Try.ntmps23
  go_wp2_with (first | ((with_reducible refine gate_callee (f := 27) rfl ?_); refine goesL_ (some 7) rfl rfl Try.func27 (by kernel_rfl) rfl #[.string a0, .string a1] rfl (by (try simp only [List.map_toArray, List.map_cons, List.map_nil]); first | done | rfl | (simp only [List.length_drop, List.length_take]; rfl)) ?_; (with_reducible refine (stringslite_HasPrefix.calls a0 a1 t111 _ A3.out).mono ?_); rintro e w' ⟨rfl, ⟨nd, rfl⟩⟩; refine ⟨_, rfl, ?_⟩))
  go_ret
  exact ⟨by first | rfl | (simp; done) | (simp [*]; done), by repeat (first | exact Drawn0.refl _ | apply Drawn0.step)⟩

/-! ### head_Check: function 14 -/
def head_Check.f (k : Nat) (a0 : ByteArray) (a1 : Int) : Option (Int) := (head_Bytes.f k a1).bind fun t112 => ((strings_HasPrefix.f a0 t112).bind fun t113 => (if t113 = true then (some 1) else ((strings_HasPrefix.f t112 a0).bind fun t114 => (if t114 = true then (some 3) else (some 4)))))
theorem head_Check.mono : ∀ a0 a1 k, LeO (head_Check.f k a0 a1) (head_Check.f (k + 1) a0 a1) := by
  intro a0 a1 k
  unfold head_Check.f
  repeat' first
      | (with_reducible exact head_Bytes.mono _ _)
      | (with_reducible exact LeO.refl _)
      | (with_reducible exact LeO.none _)
      | (with_reducible refine LeO.ite ?_ ?_)
      | (with_reducible refine LeO.bind ?_ (fun _ => ?_))
      | exact head_Bytes.mono _ _
      | exact LeO.none _
      | refine LeO.ite ?_ ?_
      | refine LeO.bind ?_ (fun _ => ?_)
set_option maxHeartbeats 8000000 in
set_option maxRecDepth 100000 in
theorem head_Check.calls (k : Nat) (a0 : ByteArray) (a1 : Int) (r : Int) (w : World) (h : head_Check.f k a0 a1 = some r) :
    Calls Try.prog 14 #[.string a0, .int .i64 a1] w fun e w' => e = .returned (.int .i64 r) ∧ Below w.heap.size w w' := by
  have HB := Aside0.mk (Below.refl w.heap.size w)
  have H : ((head_Bytes.f k a1).bind fun t112 => ((strings_HasPrefix.f a0 t112).bind fun t113 => (if t113 = true then (some 1) else ((strings_HasPrefix.f t112 a0).bind fun t114 => (if t114 = true then (some 3) else (some 4)))))) = some r := h
  clear h
  replace H := Option.bind_eq_some_iff.mp H
  obtain ⟨t112, A30, H⟩ := H
  replace H : ((strings_HasPrefix.f a0 t112).bind fun t113 => (if t113 = true then (some 1) else ((strings_HasPrefix.f t112 a0).bind fun t114 => (if t114 = true then (some 3) else (some 4))))) = some r := H
  have A3 := Aside0.mk A30
  clear A30
  replace H := Option.bind_eq_some_iff.mp H
  obtain ⟨t113, A40, H⟩ := H
  replace H : (if t113 = true then (some 1) else ((strings_HasPrefix.f t112 a0).bind fun t114 => (if t114 = true then (some 3) else (some 4)))) = some r := H
  have A4 := Aside0.mk A40
  clear A40
  by_cases c5 : t113 = true
  · subst c5
    have H1 : (some 1) = some r := by rw [if_pos rfl] at H; exact H
    clear H
    have H := H1
    clear H1
    obtain rfl := Option.some.inj H
    go_enter Try.func14, Try.ntmps14
    go_wp2_with (first | ((with_reducible refine gate_callee (f := 10) rfl ?_); refine goesL_ (some 7) rfl rfl Try.func10 (by kernel_rfl) rfl #[.int .i64 a1] rfl (by (try simp only [List.map_toArray, List.map_cons, List.map_nil]); first | done | rfl | (simp only [List.length_drop, List.length_take]; rfl)) ?_; (with_reducible refine (head_Bytes.calls k a1 t112 _ A3.out).mono ?_); rintro e w6 ⟨rfl, hb⟩; refine ⟨_, rfl, ?_⟩; have n0_ := Aside0.mk (below_step (by repeat (first | (with_reducible first | exact HB.out | apply below_alloc | apply pw_below_drewN | apply below_drew1) | exact HB.out)) hb); clear HB; have HB := n0_; clear n0_; (try clear hb); (try clear hb2); (try clear hk); (try clear hi)) | ((with_reducible refine gate_callee (f := 23) rfl ?_); refine goesL_ (some 11) rfl rfl Try.func23 (by kernel_rfl) rfl #[.string a0, .string t112] rfl (by (try simp only [List.map_toArray, List.map_cons, List.map_nil]); first | done | rfl | (simp only [List.length_drop, List.length_take]; rfl)) ?_; (with_reducible refine (strings_HasPrefix.calls a0 t112 true _ A4.out).mono ?_); rintro e w' ⟨rfl, ⟨nd, rfl⟩⟩; refine ⟨_, rfl, ?_⟩))
    go_ret
    exact ⟨by first | rfl | (simp [errW_none, errW_some] <;> rfl) | (simp [*, errW_none, errW_some] <;> rfl), by repeat (first | (with_reducible first | exact HB.out | apply below_alloc | apply pw_below_drewN | apply below_drew1) | exact HB.out)⟩
  · replace c5 := Bool.eq_false_iff.mpr c5
    subst c5
    have H1 : ((strings_HasPrefix.f t112 a0).bind fun t114 => (if t114 = true then (some 3) else (some 4))) = some r := by rw [if_neg (show ¬ (false = true) by decide)] at H; exact H
    clear H
    have H := H1
    clear H1
    replace H := Option.bind_eq_some_iff.mp H
    obtain ⟨t114, A70, H⟩ := H
    replace H : (if t114 = true then (some 3) else (some 4)) = some r := H
    have A7 := Aside0.mk A70
    clear A70
    by_cases c8 : t114 = true
    · subst c8
      have H1 : (some 3) = some r := by rw [if_pos rfl] at H; exact H
      clear H
      have H := H1
      clear H1
      obtain rfl := Option.some.inj H
      go_enter Try.func14, Try.ntmps14
      go_wp2_with (first | ((with_reducible refine gate_callee (f := 10) rfl ?_); refine goesL_ (some 7) rfl rfl Try.func10 (by kernel_rfl) rfl #[.int .i64 a1] rfl (by (try simp only [List.map_toArray, List.map_cons, List.map_nil]); first | done | rfl | (simp only [List.length_drop, List.length_take]; rfl)) ?_; (with_reducible refine (head_Bytes.calls k a1 t112 _ A3.out).mono ?_); rintro e w9 ⟨rfl, hb⟩; refine ⟨_, rfl, ?_⟩; have n0_ := Aside0.mk (below_step (by repeat (first | (with_reducible first | exact HB.out | apply below_alloc | apply pw_below_drewN | apply below_drew1) | exact HB.out)) hb); clear HB; have HB := n0_; clear n0_; (try clear hb); (try clear hb2); (try clear hk); (try clear hi)) | ((with_reducible refine gate_callee (f := 23) rfl ?_); refine goesL_ (some 11) rfl rfl Try.func23 (by kernel_rfl) rfl #[.string a0, .string t112] rfl (by (try simp only [List.map_toArray, List.map_cons, List.map_nil]); first | done | rfl | (simp only [List.length_drop, List.length_take]; rfl)) ?_; (with_reducible refine (strings_HasPrefix.calls a0 t112 false _ A4.out).mono ?_); rintro e w' ⟨rfl, ⟨nd, rfl⟩⟩; refine ⟨_, rfl, ?_⟩) | ((with_reducible refine gate_callee (f := 23) rfl ?_); refine goesL_ (some 15) rfl rfl Try.func23 (by kernel_rfl) rfl #[.string t112, .string a0] rfl (by (try simp only [List.map_toArray, List.map_cons, List.map_nil]); first | done | rfl | (simp only [List.length_drop, List.length_take]; rfl)) ?_; (with_reducible refine (strings_HasPrefix.calls t112 a0 true _ A7.out).mono ?_); rintro e w' ⟨rfl, ⟨nd, rfl⟩⟩; refine ⟨_, rfl, ?_⟩))
      go_ret
      exact ⟨by first | rfl | (simp [errW_none, errW_some] <;> rfl) | (simp [*, errW_none, errW_some] <;> rfl), by repeat (first | (with_reducible first | exact HB.out | apply below_alloc | apply pw_below_drewN | apply below_drew1) | exact HB.out)⟩
    · replace c8 := Bool.eq_false_iff.mpr c8
      subst c8
      have H1 : (some 4) = some r := by rw [if_neg (show ¬ (false = true) by decide)] at H; exact H
      clear H
      have H := H1
      clear H1
      obtain rfl := Option.some.inj H
      go_enter Try.func14, Try.ntmps14
      go_wp2_with (first | ((with_reducible refine gate_callee (f := 10) rfl ?_); refine goesL_ (some 7) rfl rfl Try.func10 (by kernel_rfl) rfl #[.int .i64 a1] rfl (by (try simp only [List.map_toArray, List.map_cons, List.map_nil]); first | done | rfl | (simp only [List.length_drop, List.length_take]; rfl)) ?_; (with_reducible refine (head_Bytes.calls k a1 t112 _ A3.out).mono ?_); rintro e w10 ⟨rfl, hb⟩; refine ⟨_, rfl, ?_⟩; have n0_ := Aside0.mk (below_step (by repeat (first | (with_reducible first | exact HB.out | apply below_alloc | apply pw_below_drewN | apply below_drew1) | exact HB.out)) hb); clear HB; have HB := n0_; clear n0_; (try clear hb); (try clear hb2); (try clear hk); (try clear hi)) | ((with_reducible refine gate_callee (f := 23) rfl ?_); refine goesL_ (some 11) rfl rfl Try.func23 (by kernel_rfl) rfl #[.string a0, .string t112] rfl (by (try simp only [List.map_toArray, List.map_cons, List.map_nil]); first | done | rfl | (simp only [List.length_drop, List.length_take]; rfl)) ?_; (with_reducible refine (strings_HasPrefix.calls a0 t112 false _ A4.out).mono ?_); rintro e w' ⟨rfl, ⟨nd, rfl⟩⟩; refine ⟨_, rfl, ?_⟩) | ((with_reducible refine gate_callee (f := 23) rfl ?_); refine goesL_ (some 15) rfl rfl Try.func23 (by kernel_rfl) rfl #[.string t112, .string a0] rfl (by (try simp only [List.map_toArray, List.map_cons, List.map_nil]); first | done | rfl | (simp only [List.length_drop, List.length_take]; rfl)) ?_; (with_reducible refine (strings_HasPrefix.calls t112 a0 false _ A7.out).mono ?_); rintro e w' ⟨rfl, ⟨nd, rfl⟩⟩; refine ⟨_, rfl, ?_⟩))
      go_ret
      exact ⟨by first | rfl | (simp [errW_none, errW_some] <;> rfl) | (simp [*, errW_none, errW_some] <;> rfl), by repeat (first | (with_reducible first | exact HB.out | apply below_alloc | apply pw_below_drewN | apply below_drew1) | exact HB.out)⟩

/-! ### ladelaw10_known: function 7 -/
def ladelaw10_known.f (k : Nat)  : Option (Bool) := (Given.head_ID.f (⟨#[115, 101, 103, 45, 48, 48, 48, 48, 48, 48, 48, 55]⟩ : ByteArray)).bind fun bt115 => ((Given.head_ID.f (⟨#[115, 101, 103, 45, 48, 48, 48, 48, 48, 48, 55]⟩ : ByteArray)).bind fun bt117 => ((Given.head_Name.f 7).bind fun t119 => (if t119.toList = ([115, 101, 103, 45, 48, 48, 48, 48, 48, 48, 48, 55] : List UInt8) then (if bt115.2 = true then (if bt115.1 = 7 then (if bt117.2 = true then (some false) else ((head_Bytes.f k 7).bind fun t120 => (if (t120.size : Int) = 16 then ((head_Bytes.f k 7).bind fun t121 => (if t121.size + 1 ≤ 9223372036854775807 then ((head_Check.f k (t121 ++ (⟨#[120]⟩ : ByteArray)) 7).bind fun t122 => (if t122 = 1 then ((head_Check.f k (⟨#[]⟩ : ByteArray) 7).bind fun t123 => (if t123 = 3 then ((head_Check.f k (⟨#[120]⟩ : ByteArray) 7).bind fun t124 => (some (t124 == 4))) else (some false))) else (some false))) else (none))) else (some false)))) else (some false)) else (some false)) else (some false))))
theorem ladelaw10_known.mono : ∀ k, LeO (ladelaw10_known.f k ) (ladelaw10_known.f (k + 1) ) := by
  intro  k
  unfold ladelaw10_known.f
  repeat' first
      | (with_reducible exact head_Bytes.mono _ _)
      | (with_reducible exact head_Check.mono _ _ _)
      | (with_reducible exact LeO.refl _)
      | (with_reducible exact LeO.none _)
      | (with_reducible refine LeO.ite ?_ ?_)
      | (with_reducible refine LeO.bind ?_ (fun _ => ?_))
      | exact head_Bytes.mono _ _
      | exact head_Check.mono _ _ _
      | exact LeO.none _
      | refine LeO.ite ?_ ?_
      | refine LeO.bind ?_ (fun _ => ?_)
set_option maxHeartbeats 8000000 in
set_option maxRecDepth 100000 in
theorem ladelaw10_known.calls (k : Nat)  (r : Bool) (w : World) (h : ladelaw10_known.f k  = some r) :
    Calls Try.prog 7 #[] w fun e w' => e = .returned (.bool r) ∧ Below w.heap.size w w' := by
  have HB := Aside0.mk (Below.refl w.heap.size w)
  have H : ((Given.head_ID.f (⟨#[115, 101, 103, 45, 48, 48, 48, 48, 48, 48, 48, 55]⟩ : ByteArray)).bind fun bt115 => ((Given.head_ID.f (⟨#[115, 101, 103, 45, 48, 48, 48, 48, 48, 48, 55]⟩ : ByteArray)).bind fun bt117 => ((Given.head_Name.f 7).bind fun t119 => (if t119.toList = ([115, 101, 103, 45, 48, 48, 48, 48, 48, 48, 48, 55] : List UInt8) then (if bt115.2 = true then (if bt115.1 = 7 then (if bt117.2 = true then (some false) else ((head_Bytes.f k 7).bind fun t120 => (if (t120.size : Int) = 16 then ((head_Bytes.f k 7).bind fun t121 => (if t121.size + 1 ≤ 9223372036854775807 then ((head_Check.f k (t121 ++ (⟨#[120]⟩ : ByteArray)) 7).bind fun t122 => (if t122 = 1 then ((head_Check.f k (⟨#[]⟩ : ByteArray) 7).bind fun t123 => (if t123 = 3 then ((head_Check.f k (⟨#[120]⟩ : ByteArray) 7).bind fun t124 => (some (t124 == 4))) else (some false))) else (some false))) else (none))) else (some false)))) else (some false)) else (some false)) else (some false))))) = some r := h
  clear h
  replace H := Option.bind_eq_some_iff.mp H
  obtain ⟨⟨t115, t116⟩, A10, H⟩ := H
  replace H : ((Given.head_ID.f (⟨#[115, 101, 103, 45, 48, 48, 48, 48, 48, 48, 55]⟩ : ByteArray)).bind fun bt117 => ((Given.head_Name.f 7).bind fun t119 => (if t119.toList = ([115, 101, 103, 45, 48, 48, 48, 48, 48, 48, 48, 55] : List UInt8) then (if t116 = true then (if t115 = 7 then (if bt117.2 = true then (some false) else ((head_Bytes.f k 7).bind fun t120 => (if (t120.size : Int) = 16 then ((head_Bytes.f k 7).bind fun t121 => (if t121.size + 1 ≤ 9223372036854775807 then ((head_Check.f k (t121 ++ (⟨#[120]⟩ : ByteArray)) 7).bind fun t122 => (if t122 = 1 then ((head_Check.f k (⟨#[]⟩ : ByteArray) 7).bind fun t123 => (if t123 = 3 then ((head_Check.f k (⟨#[120]⟩ : ByteArray) 7).bind fun t124 => (some (t124 == 4))) else (some false))) else (some false))) else (none))) else (some false)))) else (some false)) else (some false)) else (some false)))) = some r := H
  have A1 := Aside0.mk A10
  clear A10
  replace H := Option.bind_eq_some_iff.mp H
  obtain ⟨⟨t117, t118⟩, A20, H⟩ := H
  replace H : ((Given.head_Name.f 7).bind fun t119 => (if t119.toList = ([115, 101, 103, 45, 48, 48, 48, 48, 48, 48, 48, 55] : List UInt8) then (if t116 = true then (if t115 = 7 then (if t118 = true then (some false) else ((head_Bytes.f k 7).bind fun t120 => (if (t120.size : Int) = 16 then ((head_Bytes.f k 7).bind fun t121 => (if t121.size + 1 ≤ 9223372036854775807 then ((head_Check.f k (t121 ++ (⟨#[120]⟩ : ByteArray)) 7).bind fun t122 => (if t122 = 1 then ((head_Check.f k (⟨#[]⟩ : ByteArray) 7).bind fun t123 => (if t123 = 3 then ((head_Check.f k (⟨#[120]⟩ : ByteArray) 7).bind fun t124 => (some (t124 == 4))) else (some false))) else (some false))) else (none))) else (some false)))) else (some false)) else (some false)) else (some false))) = some r := H
  have A2 := Aside0.mk A20
  clear A20
  replace H := Option.bind_eq_some_iff.mp H
  obtain ⟨t119, A30, H⟩ := H
  replace H : (if t119.toList = ([115, 101, 103, 45, 48, 48, 48, 48, 48, 48, 48, 55] : List UInt8) then (if t116 = true then (if t115 = 7 then (if t118 = true then (some false) else ((head_Bytes.f k 7).bind fun t120 => (if (t120.size : Int) = 16 then ((head_Bytes.f k 7).bind fun t121 => (if t121.size + 1 ≤ 9223372036854775807 then ((head_Check.f k (t121 ++ (⟨#[120]⟩ : ByteArray)) 7).bind fun t122 => (if t122 = 1 then ((head_Check.f k (⟨#[]⟩ : ByteArray) 7).bind fun t123 => (if t123 = 3 then ((head_Check.f k (⟨#[120]⟩ : ByteArray) 7).bind fun t124 => (some (t124 == 4))) else (some false))) else (some false))) else (none))) else (some false)))) else (some false)) else (some false)) else (some false)) = some r := H
  have A3 := Aside0.mk A30
  clear A30
  by_cases c4 : t119.toList = ([115, 101, 103, 45, 48, 48, 48, 48, 48, 48, 48, 55] : List UInt8)
  · rw [if_pos c4] at H
    have c4b0 : (t119.toList == ([115, 101, 103, 45, 48, 48, 48, 48, 48, 48, 48, 55] : List UInt8)) = true := beq_iff_eq.mpr c4
    have c4b1 : (t119.toList != ([115, 101, 103, 45, 48, 48, 48, 48, 48, 48, 48, 55] : List UInt8)) = false := bne_eq_false_iff_eq.mpr c4
    clear c4
    by_cases c5 : t116 = true
    · subst c5
      have H1 : (if t115 = 7 then (if t118 = true then (some false) else ((head_Bytes.f k 7).bind fun t120 => (if (t120.size : Int) = 16 then ((head_Bytes.f k 7).bind fun t121 => (if t121.size + 1 ≤ 9223372036854775807 then ((head_Check.f k (t121 ++ (⟨#[120]⟩ : ByteArray)) 7).bind fun t122 => (if t122 = 1 then ((head_Check.f k (⟨#[]⟩ : ByteArray) 7).bind fun t123 => (if t123 = 3 then ((head_Check.f k (⟨#[120]⟩ : ByteArray) 7).bind fun t124 => (some (t124 == 4))) else (some false))) else (some false))) else (none))) else (some false)))) else (some false)) = some r := by rw [if_pos rfl] at H; exact H
      clear H
      have H := H1
      clear H1
      by_cases c6 : t115 = 7
      · rw [if_pos c6] at H
        have c6b0 : (t115 == 7) = true := beq_iff_eq.mpr c6
        have c6b1 : (t115 != 7) = false := bne_eq_false_iff_eq.mpr c6
        clear c6
        by_cases c7 : t118 = true
        · subst c7
          have H1 : (some false) = some r := by rw [if_pos rfl] at H; exact H
          clear H
          have H := H1
          clear H1
          obtain rfl := Option.some.inj H
          go_enter Try.func7, Try.ntmps7
          go_wp2_with (first | ((with_reducible refine gate_callee (f := 8) rfl ?_); refine goesL_ (some 6) rfl rfl Try.func8 (by kernel_rfl) rfl #[.string (⟨#[115, 101, 103, 45, 48, 48, 48, 48, 48, 48, 48, 55]⟩ : ByteArray)] rfl (by (try simp only [List.map_toArray, List.map_cons, List.map_nil]); first | done | rfl | (simp only [List.length_drop, List.length_take]; rfl)) ?_; (with_reducible refine (Given.head_ID.calls (⟨#[115, 101, 103, 45, 48, 48, 48, 48, 48, 48, 48, 55]⟩ : ByteArray) t115 true _ A1.out).mono ?_); rintro e w8 ⟨rfl, hb⟩; refine ⟨_, rfl, ?_⟩; have n0_ := Aside0.mk (below_step (by repeat (first | (with_reducible first | exact HB.out | apply below_alloc | apply pw_below_drewN | apply below_drew1) | exact HB.out)) hb); clear HB; have HB := n0_; clear n0_; (try clear hb); (try clear hb2); (try clear hk); (try clear hi)) | ((with_reducible refine gate_callee (f := 8) rfl ?_); refine goesL_ (some 10) rfl rfl Try.func8 (by kernel_rfl) rfl #[.string (⟨#[115, 101, 103, 45, 48, 48, 48, 48, 48, 48, 55]⟩ : ByteArray)] rfl (by (try simp only [List.map_toArray, List.map_cons, List.map_nil]); first | done | rfl | (simp only [List.length_drop, List.length_take]; rfl)) ?_; (with_reducible refine (Given.head_ID.calls (⟨#[115, 101, 103, 45, 48, 48, 48, 48, 48, 48, 55]⟩ : ByteArray) t117 true _ A2.out).mono ?_); rintro e w9 ⟨rfl, hb⟩; refine ⟨_, rfl, ?_⟩; have n0_ := Aside0.mk (below_step (by repeat (first | (with_reducible first | exact HB.out | apply below_alloc | apply pw_below_drewN | apply below_drew1) | exact HB.out)) hb); clear HB; have HB := n0_; clear n0_; (try clear hb); (try clear hb2); (try clear hk); (try clear hi)) | ((with_reducible refine gate_callee (f := 11) rfl ?_); refine goesL_ (some 13) rfl rfl Try.func11 (by kernel_rfl) rfl #[.int .i64 7] rfl (by (try simp only [List.map_toArray, List.map_cons, List.map_nil]); first | done | rfl | (simp only [List.length_drop, List.length_take]; rfl)) ?_; (with_reducible refine (Given.head_Name.calls 7 t119 _ A3.out).mono ?_); rintro e w10 ⟨rfl, hb⟩; refine ⟨_, rfl, ?_⟩; have n0_ := Aside0.mk (below_step (by repeat (first | (with_reducible first | exact HB.out | apply below_alloc | apply pw_below_drewN | apply below_drew1) | exact HB.out)) hb); clear HB; have HB := n0_; clear n0_; (try clear hb); (try clear hb2); (try clear hk); (try clear hi)))
          go_ret
          exact ⟨by first | rfl | (simp [errW_none, errW_some] <;> rfl) | (simp [*, errW_none, errW_some] <;> rfl), by repeat (first | (with_reducible first | exact HB.out | apply below_alloc | apply pw_below_drewN | apply below_drew1) | exact HB.out)⟩
        · replace c7 := Bool.eq_false_iff.mpr c7
          subst c7
          have H1 : ((head_Bytes.f k 7).bind fun t120 => (if (t120.size : Int) = 16 then ((head_Bytes.f k 7).bind fun t121 => (if t121.size + 1 ≤ 9223372036854775807 then ((head_Check.f k (t121 ++ (⟨#[120]⟩ : ByteArray)) 7).bind fun t122 => (if t122 = 1 then ((head_Check.f k (⟨#[]⟩ : ByteArray) 7).bind fun t123 => (if t123 = 3 then ((head_Check.f k (⟨#[120]⟩ : ByteArray) 7).bind fun t124 => (some (t124 == 4))) else (some false))) else (some false))) else (none))) else (some false))) = some r := by rw [if_neg (show ¬ (false = true) by decide)] at H; exact H
          clear H
          have H := H1
          clear H1
          replace H := Option.bind_eq_some_iff.mp H
          obtain ⟨t120, A110, H⟩ := H
          replace H : (if (t120.size : Int) = 16 then ((head_Bytes.f k 7).bind fun t121 => (if t121.size + 1 ≤ 9223372036854775807 then ((head_Check.f k (t121 ++ (⟨#[120]⟩ : ByteArray)) 7).bind fun t122 => (if t122 = 1 then ((head_Check.f k (⟨#[]⟩ : ByteArray) 7).bind fun t123 => (if t123 = 3 then ((head_Check.f k (⟨#[120]⟩ : ByteArray) 7).bind fun t124 => (some (t124 == 4))) else (some false))) else (some false))) else (none))) else (some false)) = some r := H
          have A11 := Aside0.mk A110
          clear A110
          by_cases c12 : (t120.size : Int) = 16
          · rw [if_pos c12] at H
            have c12b0 : ((t120.size : Int) == 16) = true := beq_iff_eq.mpr c12
            have c12b1 : ((t120.size : Int) != 16) = false := bne_eq_false_iff_eq.mpr c12
            clear c12
            replace H := Option.bind_eq_some_iff.mp H
            obtain ⟨t121_, A130, H⟩ := H
            obtain rfl : t120 = t121_ := Option.some.inj (A11.out.symm.trans A130)
            replace H : (if t120.size + 1 ≤ 9223372036854775807 then ((head_Check.f k (t120 ++ (⟨#[120]⟩ : ByteArray)) 7).bind fun t122 => (if t122 = 1 then ((head_Check.f k (⟨#[]⟩ : ByteArray) 7).bind fun t123 => (if t123 = 3 then ((head_Check.f k (⟨#[120]⟩ : ByteArray) 7).bind fun t124 => (some (t124 == 4))) else (some false))) else (some false))) else (none)) = some r := H
            have A13 := Aside0.mk A130
            clear A130
            by_cases c14 : t120.size + 1 ≤ 9223372036854775807
            · rw [if_pos c14] at H
              have c14b0 := eq_true c14
              have c14b1 : decide (t120.size + 1 ≤ 9223372036854775807) = true := decide_eq_true c14
              try have c14b2 : (9223372036854775807 < t120.size + 1) = False := eq_false (Nat.not_lt.2 c14)
              replace H := Option.bind_eq_some_iff.mp H
              obtain ⟨t122, A150, H⟩ := H
              replace H : (if t122 = 1 then ((head_Check.f k (⟨#[]⟩ : ByteArray) 7).bind fun t123 => (if t123 = 3 then ((head_Check.f k (⟨#[120]⟩ : ByteArray) 7).bind fun t124 => (some (t124 == 4))) else (some false))) else (some false)) = some r := H
              have A15 := Aside0.mk A150
              clear A150
              by_cases c16 : t122 = 1
              · rw [if_pos c16] at H
                have c16b0 : (t122 == 1) = true := beq_iff_eq.mpr c16
                have c16b1 : (t122 != 1) = false := bne_eq_false_iff_eq.mpr c16
                clear c16
                replace H := Option.bind_eq_some_iff.mp H
                obtain ⟨t123, A170, H⟩ := H
                replace H : (if t123 = 3 then ((head_Check.f k (⟨#[120]⟩ : ByteArray) 7).bind fun t124 => (some (t124 == 4))) else (some false)) = some r := H
                have A17 := Aside0.mk A170
                clear A170
                by_cases c18 : t123 = 3
                · rw [if_pos c18] at H
                  have c18b0 : (t123 == 3) = true := beq_iff_eq.mpr c18
                  have c18b1 : (t123 != 3) = false := bne_eq_false_iff_eq.mpr c18
                  clear c18
                  replace H := Option.bind_eq_some_iff.mp H
                  obtain ⟨t124, A190, H⟩ := H
                  replace H : (some (t124 == 4)) = some r := H
                  have A19 := Aside0.mk A190
                  clear A190
                  obtain rfl := Option.some.inj H
                  go_enter Try.func7, Try.ntmps7
                  go_wp2_with (first | ((with_reducible refine gate_callee (f := 8) rfl ?_); refine goesL_ (some 6) rfl rfl Try.func8 (by kernel_rfl) rfl #[.string (⟨#[115, 101, 103, 45, 48, 48, 48, 48, 48, 48, 48, 55]⟩ : ByteArray)] rfl (by (try simp only [List.map_toArray, List.map_cons, List.map_nil]); first | done | rfl | (simp only [List.length_drop, List.length_take]; rfl)) ?_; (with_reducible refine (Given.head_ID.calls (⟨#[115, 101, 103, 45, 48, 48, 48, 48, 48, 48, 48, 55]⟩ : ByteArray) t115 true _ A1.out).mono ?_); rintro e w20 ⟨rfl, hb⟩; refine ⟨_, rfl, ?_⟩; have n0_ := Aside0.mk (below_step (by repeat (first | (with_reducible first | exact HB.out | apply below_alloc | apply pw_below_drewN | apply below_drew1) | exact HB.out)) hb); clear HB; have HB := n0_; clear n0_; (try clear hb); (try clear hb2); (try clear hk); (try clear hi)) | ((with_reducible refine gate_callee (f := 8) rfl ?_); refine goesL_ (some 10) rfl rfl Try.func8 (by kernel_rfl) rfl #[.string (⟨#[115, 101, 103, 45, 48, 48, 48, 48, 48, 48, 55]⟩ : ByteArray)] rfl (by (try simp only [List.map_toArray, List.map_cons, List.map_nil]); first | done | rfl | (simp only [List.length_drop, List.length_take]; rfl)) ?_; (with_reducible refine (Given.head_ID.calls (⟨#[115, 101, 103, 45, 48, 48, 48, 48, 48, 48, 55]⟩ : ByteArray) t117 false _ A2.out).mono ?_); rintro e w21 ⟨rfl, hb⟩; refine ⟨_, rfl, ?_⟩; have n0_ := Aside0.mk (below_step (by repeat (first | (with_reducible first | exact HB.out | apply below_alloc | apply pw_below_drewN | apply below_drew1) | exact HB.out)) hb); clear HB; have HB := n0_; clear n0_; (try clear hb); (try clear hb2); (try clear hk); (try clear hi)) | ((with_reducible refine gate_callee (f := 11) rfl ?_); refine goesL_ (some 13) rfl rfl Try.func11 (by kernel_rfl) rfl #[.int .i64 7] rfl (by (try simp only [List.map_toArray, List.map_cons, List.map_nil]); first | done | rfl | (simp only [List.length_drop, List.length_take]; rfl)) ?_; (with_reducible refine (Given.head_Name.calls 7 t119 _ A3.out).mono ?_); rintro e w22 ⟨rfl, hb⟩; refine ⟨_, rfl, ?_⟩; have n0_ := Aside0.mk (below_step (by repeat (first | (with_reducible first | exact HB.out | apply below_alloc | apply pw_below_drewN | apply below_drew1) | exact HB.out)) hb); clear HB; have HB := n0_; clear n0_; (try clear hb); (try clear hb2); (try clear hk); (try clear hi)) | (go_at_call 10; (with_reducible refine (head_Bytes.calls k 7 t120 _ A11.out).mono ?_); rintro e w23 ⟨rfl, hb⟩; have n0_ := Aside0.mk (below_step (by repeat (first | (with_reducible first | exact HB.out | apply below_alloc | apply pw_below_drewN | apply below_drew1) | exact HB.out)) hb); clear HB; have HB := n0_; clear n0_; (try clear hb); (try clear hb2); (try clear hk); (try clear hi)) | (go_at_call 10; (with_reducible refine (head_Bytes.calls k 7 t120 _ A13.out).mono ?_); rintro e w24 ⟨rfl, hb⟩; have n0_ := Aside0.mk (below_step (by repeat (first | (with_reducible first | exact HB.out | apply below_alloc | apply pw_below_drewN | apply below_drew1) | exact HB.out)) hb); clear HB; have HB := n0_; clear n0_; (try clear hb); (try clear hb2); (try clear hk); (try clear hi)) | (go_at_call 14; (with_reducible refine (head_Check.calls k (t120 ++ (⟨#[120]⟩ : ByteArray)) 7 t122 _ A15.out).mono ?_); rintro e w25 ⟨rfl, hb⟩; have n0_ := Aside0.mk (below_step (by repeat (first | (with_reducible first | exact HB.out | apply below_alloc | apply pw_below_drewN | apply below_drew1) | exact HB.out)) hb); clear HB; have HB := n0_; clear n0_; (try clear hb); (try clear hb2); (try clear hk); (try clear hi)) | (go_at_call 14; (with_reducible refine (head_Check.calls k (⟨#[]⟩ : ByteArray) 7 t123 _ A17.out).mono ?_); rintro e w26 ⟨rfl, hb⟩; have n0_ := Aside0.mk (below_step (by repeat (first | (with_reducible first | exact HB.out | apply below_alloc | apply pw_below_drewN | apply below_drew1) | exact HB.out)) hb); clear HB; have HB := n0_; clear n0_; (try clear hb); (try clear hb2); (try clear hk); (try clear hi)) | (go_at_call 14; (with_reducible refine (head_Check.calls k (⟨#[120]⟩ : ByteArray) 7 t124 _ A19.out).mono ?_); rintro e w27 ⟨rfl, hb⟩; have n0_ := Aside0.mk (below_step (by repeat (first | (with_reducible first | exact HB.out | apply below_alloc | apply pw_below_drewN | apply below_drew1) | exact HB.out)) hb); clear HB; have HB := n0_; clear n0_; (try clear hb); (try clear hb2); (try clear hk); (try clear hi)))
                  go_ret
                  exact ⟨by first | rfl | (simp [errW_none, errW_some] <;> rfl) | (simp [*, errW_none, errW_some] <;> rfl), by repeat (first | (with_reducible first | exact HB.out | apply below_alloc | apply pw_below_drewN | apply below_drew1) | exact HB.out)⟩
                · rw [if_neg c18] at H
                  have c18b0 : (t123 == 3) = false := beq_eq_false_iff_ne.mpr c18
                  have c18b1 : (t123 != 3) = true := bne_iff_ne.mpr c18
                  obtain rfl := Option.some.inj H
                  go_enter Try.func7, Try.ntmps7
                  go_wp2_with (first | ((with_reducible refine gate_callee (f := 8) rfl ?_); refine goesL_ (some 6) rfl rfl Try.func8 (by kernel_rfl) rfl #[.string (⟨#[115, 101, 103, 45, 48, 48, 48, 48, 48, 48, 48, 55]⟩ : ByteArray)] rfl (by (try simp only [List.map_toArray, List.map_cons, List.map_nil]); first | done | rfl | (simp only [List.length_drop, List.length_take]; rfl)) ?_; (with_reducible refine (Given.head_ID.calls (⟨#[115, 101, 103, 45, 48, 48, 48, 48, 48, 48, 48, 55]⟩ : ByteArray) t115 true _ A1.out).mono ?_); rintro e w28 ⟨rfl, hb⟩; refine ⟨_, rfl, ?_⟩; have n0_ := Aside0.mk (below_step (by repeat (first | (with_reducible first | exact HB.out | apply below_alloc | apply pw_below_drewN | apply below_drew1) | exact HB.out)) hb); clear HB; have HB := n0_; clear n0_; (try clear hb); (try clear hb2); (try clear hk); (try clear hi)) | ((with_reducible refine gate_callee (f := 8) rfl ?_); refine goesL_ (some 10) rfl rfl Try.func8 (by kernel_rfl) rfl #[.string (⟨#[115, 101, 103, 45, 48, 48, 48, 48, 48, 48, 55]⟩ : ByteArray)] rfl (by (try simp only [List.map_toArray, List.map_cons, List.map_nil]); first | done | rfl | (simp only [List.length_drop, List.length_take]; rfl)) ?_; (with_reducible refine (Given.head_ID.calls (⟨#[115, 101, 103, 45, 48, 48, 48, 48, 48, 48, 55]⟩ : ByteArray) t117 false _ A2.out).mono ?_); rintro e w29 ⟨rfl, hb⟩; refine ⟨_, rfl, ?_⟩; have n0_ := Aside0.mk (below_step (by repeat (first | (with_reducible first | exact HB.out | apply below_alloc | apply pw_below_drewN | apply below_drew1) | exact HB.out)) hb); clear HB; have HB := n0_; clear n0_; (try clear hb); (try clear hb2); (try clear hk); (try clear hi)) | ((with_reducible refine gate_callee (f := 11) rfl ?_); refine goesL_ (some 13) rfl rfl Try.func11 (by kernel_rfl) rfl #[.int .i64 7] rfl (by (try simp only [List.map_toArray, List.map_cons, List.map_nil]); first | done | rfl | (simp only [List.length_drop, List.length_take]; rfl)) ?_; (with_reducible refine (Given.head_Name.calls 7 t119 _ A3.out).mono ?_); rintro e w30 ⟨rfl, hb⟩; refine ⟨_, rfl, ?_⟩; have n0_ := Aside0.mk (below_step (by repeat (first | (with_reducible first | exact HB.out | apply below_alloc | apply pw_below_drewN | apply below_drew1) | exact HB.out)) hb); clear HB; have HB := n0_; clear n0_; (try clear hb); (try clear hb2); (try clear hk); (try clear hi)) | (go_at_call 10; (with_reducible refine (head_Bytes.calls k 7 t120 _ A11.out).mono ?_); rintro e w31 ⟨rfl, hb⟩; have n0_ := Aside0.mk (below_step (by repeat (first | (with_reducible first | exact HB.out | apply below_alloc | apply pw_below_drewN | apply below_drew1) | exact HB.out)) hb); clear HB; have HB := n0_; clear n0_; (try clear hb); (try clear hb2); (try clear hk); (try clear hi)) | (go_at_call 10; (with_reducible refine (head_Bytes.calls k 7 t120 _ A13.out).mono ?_); rintro e w32 ⟨rfl, hb⟩; have n0_ := Aside0.mk (below_step (by repeat (first | (with_reducible first | exact HB.out | apply below_alloc | apply pw_below_drewN | apply below_drew1) | exact HB.out)) hb); clear HB; have HB := n0_; clear n0_; (try clear hb); (try clear hb2); (try clear hk); (try clear hi)) | (go_at_call 14; (with_reducible refine (head_Check.calls k (t120 ++ (⟨#[120]⟩ : ByteArray)) 7 t122 _ A15.out).mono ?_); rintro e w33 ⟨rfl, hb⟩; have n0_ := Aside0.mk (below_step (by repeat (first | (with_reducible first | exact HB.out | apply below_alloc | apply pw_below_drewN | apply below_drew1) | exact HB.out)) hb); clear HB; have HB := n0_; clear n0_; (try clear hb); (try clear hb2); (try clear hk); (try clear hi)) | (go_at_call 14; (with_reducible refine (head_Check.calls k (⟨#[]⟩ : ByteArray) 7 t123 _ A17.out).mono ?_); rintro e w34 ⟨rfl, hb⟩; have n0_ := Aside0.mk (below_step (by repeat (first | (with_reducible first | exact HB.out | apply below_alloc | apply pw_below_drewN | apply below_drew1) | exact HB.out)) hb); clear HB; have HB := n0_; clear n0_; (try clear hb); (try clear hb2); (try clear hk); (try clear hi)))
                  go_ret
                  exact ⟨by first | rfl | (simp [errW_none, errW_some] <;> rfl) | (simp [*, errW_none, errW_some] <;> rfl), by repeat (first | (with_reducible first | exact HB.out | apply below_alloc | apply pw_below_drewN | apply below_drew1) | exact HB.out)⟩
              · rw [if_neg c16] at H
                have c16b0 : (t122 == 1) = false := beq_eq_false_iff_ne.mpr c16
                have c16b1 : (t122 != 1) = true := bne_iff_ne.mpr c16
                obtain rfl := Option.some.inj H
                go_enter Try.func7, Try.ntmps7
                go_wp2_with (first | ((with_reducible refine gate_callee (f := 8) rfl ?_); refine goesL_ (some 6) rfl rfl Try.func8 (by kernel_rfl) rfl #[.string (⟨#[115, 101, 103, 45, 48, 48, 48, 48, 48, 48, 48, 55]⟩ : ByteArray)] rfl (by (try simp only [List.map_toArray, List.map_cons, List.map_nil]); first | done | rfl | (simp only [List.length_drop, List.length_take]; rfl)) ?_; (with_reducible refine (Given.head_ID.calls (⟨#[115, 101, 103, 45, 48, 48, 48, 48, 48, 48, 48, 55]⟩ : ByteArray) t115 true _ A1.out).mono ?_); rintro e w35 ⟨rfl, hb⟩; refine ⟨_, rfl, ?_⟩; have n0_ := Aside0.mk (below_step (by repeat (first | (with_reducible first | exact HB.out | apply below_alloc | apply pw_below_drewN | apply below_drew1) | exact HB.out)) hb); clear HB; have HB := n0_; clear n0_; (try clear hb); (try clear hb2); (try clear hk); (try clear hi)) | ((with_reducible refine gate_callee (f := 8) rfl ?_); refine goesL_ (some 10) rfl rfl Try.func8 (by kernel_rfl) rfl #[.string (⟨#[115, 101, 103, 45, 48, 48, 48, 48, 48, 48, 55]⟩ : ByteArray)] rfl (by (try simp only [List.map_toArray, List.map_cons, List.map_nil]); first | done | rfl | (simp only [List.length_drop, List.length_take]; rfl)) ?_; (with_reducible refine (Given.head_ID.calls (⟨#[115, 101, 103, 45, 48, 48, 48, 48, 48, 48, 55]⟩ : ByteArray) t117 false _ A2.out).mono ?_); rintro e w36 ⟨rfl, hb⟩; refine ⟨_, rfl, ?_⟩; have n0_ := Aside0.mk (below_step (by repeat (first | (with_reducible first | exact HB.out | apply below_alloc | apply pw_below_drewN | apply below_drew1) | exact HB.out)) hb); clear HB; have HB := n0_; clear n0_; (try clear hb); (try clear hb2); (try clear hk); (try clear hi)) | ((with_reducible refine gate_callee (f := 11) rfl ?_); refine goesL_ (some 13) rfl rfl Try.func11 (by kernel_rfl) rfl #[.int .i64 7] rfl (by (try simp only [List.map_toArray, List.map_cons, List.map_nil]); first | done | rfl | (simp only [List.length_drop, List.length_take]; rfl)) ?_; (with_reducible refine (Given.head_Name.calls 7 t119 _ A3.out).mono ?_); rintro e w37 ⟨rfl, hb⟩; refine ⟨_, rfl, ?_⟩; have n0_ := Aside0.mk (below_step (by repeat (first | (with_reducible first | exact HB.out | apply below_alloc | apply pw_below_drewN | apply below_drew1) | exact HB.out)) hb); clear HB; have HB := n0_; clear n0_; (try clear hb); (try clear hb2); (try clear hk); (try clear hi)) | (go_at_call 10; (with_reducible refine (head_Bytes.calls k 7 t120 _ A11.out).mono ?_); rintro e w38 ⟨rfl, hb⟩; have n0_ := Aside0.mk (below_step (by repeat (first | (with_reducible first | exact HB.out | apply below_alloc | apply pw_below_drewN | apply below_drew1) | exact HB.out)) hb); clear HB; have HB := n0_; clear n0_; (try clear hb); (try clear hb2); (try clear hk); (try clear hi)) | (go_at_call 10; (with_reducible refine (head_Bytes.calls k 7 t120 _ A13.out).mono ?_); rintro e w39 ⟨rfl, hb⟩; have n0_ := Aside0.mk (below_step (by repeat (first | (with_reducible first | exact HB.out | apply below_alloc | apply pw_below_drewN | apply below_drew1) | exact HB.out)) hb); clear HB; have HB := n0_; clear n0_; (try clear hb); (try clear hb2); (try clear hk); (try clear hi)) | (go_at_call 14; (with_reducible refine (head_Check.calls k (t120 ++ (⟨#[120]⟩ : ByteArray)) 7 t122 _ A15.out).mono ?_); rintro e w40 ⟨rfl, hb⟩; have n0_ := Aside0.mk (below_step (by repeat (first | (with_reducible first | exact HB.out | apply below_alloc | apply pw_below_drewN | apply below_drew1) | exact HB.out)) hb); clear HB; have HB := n0_; clear n0_; (try clear hb); (try clear hb2); (try clear hk); (try clear hi)))
                go_ret
                exact ⟨by first | rfl | (simp [errW_none, errW_some] <;> rfl) | (simp [*, errW_none, errW_some] <;> rfl), by repeat (first | (with_reducible first | exact HB.out | apply below_alloc | apply pw_below_drewN | apply below_drew1) | exact HB.out)⟩
            · rw [if_neg c14] at H
              exact absurd H (by simp)
          · rw [if_neg c12] at H
            have c12b0 : ((t120.size : Int) == 16) = false := beq_eq_false_iff_ne.mpr c12
            have c12b1 : ((t120.size : Int) != 16) = true := bne_iff_ne.mpr c12
            obtain rfl := Option.some.inj H
            go_enter Try.func7, Try.ntmps7
            go_wp2_with (first | ((with_reducible refine gate_callee (f := 8) rfl ?_); refine goesL_ (some 6) rfl rfl Try.func8 (by kernel_rfl) rfl #[.string (⟨#[115, 101, 103, 45, 48, 48, 48, 48, 48, 48, 48, 55]⟩ : ByteArray)] rfl (by (try simp only [List.map_toArray, List.map_cons, List.map_nil]); first | done | rfl | (simp only [List.length_drop, List.length_take]; rfl)) ?_; (with_reducible refine (Given.head_ID.calls (⟨#[115, 101, 103, 45, 48, 48, 48, 48, 48, 48, 48, 55]⟩ : ByteArray) t115 true _ A1.out).mono ?_); rintro e w41 ⟨rfl, hb⟩; refine ⟨_, rfl, ?_⟩; have n0_ := Aside0.mk (below_step (by repeat (first | (with_reducible first | exact HB.out | apply below_alloc | apply pw_below_drewN | apply below_drew1) | exact HB.out)) hb); clear HB; have HB := n0_; clear n0_; (try clear hb); (try clear hb2); (try clear hk); (try clear hi)) | ((with_reducible refine gate_callee (f := 8) rfl ?_); refine goesL_ (some 10) rfl rfl Try.func8 (by kernel_rfl) rfl #[.string (⟨#[115, 101, 103, 45, 48, 48, 48, 48, 48, 48, 55]⟩ : ByteArray)] rfl (by (try simp only [List.map_toArray, List.map_cons, List.map_nil]); first | done | rfl | (simp only [List.length_drop, List.length_take]; rfl)) ?_; (with_reducible refine (Given.head_ID.calls (⟨#[115, 101, 103, 45, 48, 48, 48, 48, 48, 48, 55]⟩ : ByteArray) t117 false _ A2.out).mono ?_); rintro e w42 ⟨rfl, hb⟩; refine ⟨_, rfl, ?_⟩; have n0_ := Aside0.mk (below_step (by repeat (first | (with_reducible first | exact HB.out | apply below_alloc | apply pw_below_drewN | apply below_drew1) | exact HB.out)) hb); clear HB; have HB := n0_; clear n0_; (try clear hb); (try clear hb2); (try clear hk); (try clear hi)) | ((with_reducible refine gate_callee (f := 11) rfl ?_); refine goesL_ (some 13) rfl rfl Try.func11 (by kernel_rfl) rfl #[.int .i64 7] rfl (by (try simp only [List.map_toArray, List.map_cons, List.map_nil]); first | done | rfl | (simp only [List.length_drop, List.length_take]; rfl)) ?_; (with_reducible refine (Given.head_Name.calls 7 t119 _ A3.out).mono ?_); rintro e w43 ⟨rfl, hb⟩; refine ⟨_, rfl, ?_⟩; have n0_ := Aside0.mk (below_step (by repeat (first | (with_reducible first | exact HB.out | apply below_alloc | apply pw_below_drewN | apply below_drew1) | exact HB.out)) hb); clear HB; have HB := n0_; clear n0_; (try clear hb); (try clear hb2); (try clear hk); (try clear hi)) | (go_at_call 10; (with_reducible refine (head_Bytes.calls k 7 t120 _ A11.out).mono ?_); rintro e w44 ⟨rfl, hb⟩; have n0_ := Aside0.mk (below_step (by repeat (first | (with_reducible first | exact HB.out | apply below_alloc | apply pw_below_drewN | apply below_drew1) | exact HB.out)) hb); clear HB; have HB := n0_; clear n0_; (try clear hb); (try clear hb2); (try clear hk); (try clear hi)))
            go_ret
            exact ⟨by first | rfl | (simp [errW_none, errW_some] <;> rfl) | (simp [*, errW_none, errW_some] <;> rfl), by repeat (first | (with_reducible first | exact HB.out | apply below_alloc | apply pw_below_drewN | apply below_drew1) | exact HB.out)⟩
      · rw [if_neg c6] at H
        have c6b0 : (t115 == 7) = false := beq_eq_false_iff_ne.mpr c6
        have c6b1 : (t115 != 7) = true := bne_iff_ne.mpr c6
        obtain rfl := Option.some.inj H
        go_enter Try.func7, Try.ntmps7
        go_wp2_with (first | ((with_reducible refine gate_callee (f := 8) rfl ?_); refine goesL_ (some 6) rfl rfl Try.func8 (by kernel_rfl) rfl #[.string (⟨#[115, 101, 103, 45, 48, 48, 48, 48, 48, 48, 48, 55]⟩ : ByteArray)] rfl (by (try simp only [List.map_toArray, List.map_cons, List.map_nil]); first | done | rfl | (simp only [List.length_drop, List.length_take]; rfl)) ?_; (with_reducible refine (Given.head_ID.calls (⟨#[115, 101, 103, 45, 48, 48, 48, 48, 48, 48, 48, 55]⟩ : ByteArray) t115 true _ A1.out).mono ?_); rintro e w45 ⟨rfl, hb⟩; refine ⟨_, rfl, ?_⟩; have n0_ := Aside0.mk (below_step (by repeat (first | (with_reducible first | exact HB.out | apply below_alloc | apply pw_below_drewN | apply below_drew1) | exact HB.out)) hb); clear HB; have HB := n0_; clear n0_; (try clear hb); (try clear hb2); (try clear hk); (try clear hi)) | ((with_reducible refine gate_callee (f := 8) rfl ?_); refine goesL_ (some 10) rfl rfl Try.func8 (by kernel_rfl) rfl #[.string (⟨#[115, 101, 103, 45, 48, 48, 48, 48, 48, 48, 55]⟩ : ByteArray)] rfl (by (try simp only [List.map_toArray, List.map_cons, List.map_nil]); first | done | rfl | (simp only [List.length_drop, List.length_take]; rfl)) ?_; (with_reducible refine (Given.head_ID.calls (⟨#[115, 101, 103, 45, 48, 48, 48, 48, 48, 48, 55]⟩ : ByteArray) t117 t118 _ A2.out).mono ?_); rintro e w46 ⟨rfl, hb⟩; refine ⟨_, rfl, ?_⟩; have n0_ := Aside0.mk (below_step (by repeat (first | (with_reducible first | exact HB.out | apply below_alloc | apply pw_below_drewN | apply below_drew1) | exact HB.out)) hb); clear HB; have HB := n0_; clear n0_; (try clear hb); (try clear hb2); (try clear hk); (try clear hi)) | ((with_reducible refine gate_callee (f := 11) rfl ?_); refine goesL_ (some 13) rfl rfl Try.func11 (by kernel_rfl) rfl #[.int .i64 7] rfl (by (try simp only [List.map_toArray, List.map_cons, List.map_nil]); first | done | rfl | (simp only [List.length_drop, List.length_take]; rfl)) ?_; (with_reducible refine (Given.head_Name.calls 7 t119 _ A3.out).mono ?_); rintro e w47 ⟨rfl, hb⟩; refine ⟨_, rfl, ?_⟩; have n0_ := Aside0.mk (below_step (by repeat (first | (with_reducible first | exact HB.out | apply below_alloc | apply pw_below_drewN | apply below_drew1) | exact HB.out)) hb); clear HB; have HB := n0_; clear n0_; (try clear hb); (try clear hb2); (try clear hk); (try clear hi)))
        go_ret
        exact ⟨by first | rfl | (simp [errW_none, errW_some] <;> rfl) | (simp [*, errW_none, errW_some] <;> rfl), by repeat (first | (with_reducible first | exact HB.out | apply below_alloc | apply pw_below_drewN | apply below_drew1) | exact HB.out)⟩
    · replace c5 := Bool.eq_false_iff.mpr c5
      subst c5
      have H1 : (some false) = some r := by rw [if_neg (show ¬ (false = true) by decide)] at H; exact H
      clear H
      have H := H1
      clear H1
      obtain rfl := Option.some.inj H
      go_enter Try.func7, Try.ntmps7
      go_wp2_with (first | ((with_reducible refine gate_callee (f := 8) rfl ?_); refine goesL_ (some 6) rfl rfl Try.func8 (by kernel_rfl) rfl #[.string (⟨#[115, 101, 103, 45, 48, 48, 48, 48, 48, 48, 48, 55]⟩ : ByteArray)] rfl (by (try simp only [List.map_toArray, List.map_cons, List.map_nil]); first | done | rfl | (simp only [List.length_drop, List.length_take]; rfl)) ?_; (with_reducible refine (Given.head_ID.calls (⟨#[115, 101, 103, 45, 48, 48, 48, 48, 48, 48, 48, 55]⟩ : ByteArray) t115 false _ A1.out).mono ?_); rintro e w48 ⟨rfl, hb⟩; refine ⟨_, rfl, ?_⟩; have n0_ := Aside0.mk (below_step (by repeat (first | (with_reducible first | exact HB.out | apply below_alloc | apply pw_below_drewN | apply below_drew1) | exact HB.out)) hb); clear HB; have HB := n0_; clear n0_; (try clear hb); (try clear hb2); (try clear hk); (try clear hi)) | ((with_reducible refine gate_callee (f := 8) rfl ?_); refine goesL_ (some 10) rfl rfl Try.func8 (by kernel_rfl) rfl #[.string (⟨#[115, 101, 103, 45, 48, 48, 48, 48, 48, 48, 55]⟩ : ByteArray)] rfl (by (try simp only [List.map_toArray, List.map_cons, List.map_nil]); first | done | rfl | (simp only [List.length_drop, List.length_take]; rfl)) ?_; (with_reducible refine (Given.head_ID.calls (⟨#[115, 101, 103, 45, 48, 48, 48, 48, 48, 48, 55]⟩ : ByteArray) t117 t118 _ A2.out).mono ?_); rintro e w49 ⟨rfl, hb⟩; refine ⟨_, rfl, ?_⟩; have n0_ := Aside0.mk (below_step (by repeat (first | (with_reducible first | exact HB.out | apply below_alloc | apply pw_below_drewN | apply below_drew1) | exact HB.out)) hb); clear HB; have HB := n0_; clear n0_; (try clear hb); (try clear hb2); (try clear hk); (try clear hi)) | ((with_reducible refine gate_callee (f := 11) rfl ?_); refine goesL_ (some 13) rfl rfl Try.func11 (by kernel_rfl) rfl #[.int .i64 7] rfl (by (try simp only [List.map_toArray, List.map_cons, List.map_nil]); first | done | rfl | (simp only [List.length_drop, List.length_take]; rfl)) ?_; (with_reducible refine (Given.head_Name.calls 7 t119 _ A3.out).mono ?_); rintro e w50 ⟨rfl, hb⟩; refine ⟨_, rfl, ?_⟩; have n0_ := Aside0.mk (below_step (by repeat (first | (with_reducible first | exact HB.out | apply below_alloc | apply pw_below_drewN | apply below_drew1) | exact HB.out)) hb); clear HB; have HB := n0_; clear n0_; (try clear hb); (try clear hb2); (try clear hk); (try clear hi)))
      go_ret
      exact ⟨by first | rfl | (simp [errW_none, errW_some] <;> rfl) | (simp [*, errW_none, errW_some] <;> rfl), by repeat (first | (with_reducible first | exact HB.out | apply below_alloc | apply pw_below_drewN | apply below_drew1) | exact HB.out)⟩
  · rw [if_neg c4] at H
    have c4b0 : (t119.toList == ([115, 101, 103, 45, 48, 48, 48, 48, 48, 48, 48, 55] : List UInt8)) = false := beq_eq_false_iff_ne.mpr c4
    have c4b1 : (t119.toList != ([115, 101, 103, 45, 48, 48, 48, 48, 48, 48, 48, 55] : List UInt8)) = true := bne_iff_ne.mpr c4
    obtain rfl := Option.some.inj H
    go_enter Try.func7, Try.ntmps7
    go_wp2_with (first | ((with_reducible refine gate_callee (f := 8) rfl ?_); refine goesL_ (some 6) rfl rfl Try.func8 (by kernel_rfl) rfl #[.string (⟨#[115, 101, 103, 45, 48, 48, 48, 48, 48, 48, 48, 55]⟩ : ByteArray)] rfl (by (try simp only [List.map_toArray, List.map_cons, List.map_nil]); first | done | rfl | (simp only [List.length_drop, List.length_take]; rfl)) ?_; (with_reducible refine (Given.head_ID.calls (⟨#[115, 101, 103, 45, 48, 48, 48, 48, 48, 48, 48, 55]⟩ : ByteArray) t115 t116 _ A1.out).mono ?_); rintro e w51 ⟨rfl, hb⟩; refine ⟨_, rfl, ?_⟩; have n0_ := Aside0.mk (below_step (by repeat (first | (with_reducible first | exact HB.out | apply below_alloc | apply pw_below_drewN | apply below_drew1) | exact HB.out)) hb); clear HB; have HB := n0_; clear n0_; (try clear hb); (try clear hb2); (try clear hk); (try clear hi)) | ((with_reducible refine gate_callee (f := 8) rfl ?_); refine goesL_ (some 10) rfl rfl Try.func8 (by kernel_rfl) rfl #[.string (⟨#[115, 101, 103, 45, 48, 48, 48, 48, 48, 48, 55]⟩ : ByteArray)] rfl (by (try simp only [List.map_toArray, List.map_cons, List.map_nil]); first | done | rfl | (simp only [List.length_drop, List.length_take]; rfl)) ?_; (with_reducible refine (Given.head_ID.calls (⟨#[115, 101, 103, 45, 48, 48, 48, 48, 48, 48, 55]⟩ : ByteArray) t117 t118 _ A2.out).mono ?_); rintro e w52 ⟨rfl, hb⟩; refine ⟨_, rfl, ?_⟩; have n0_ := Aside0.mk (below_step (by repeat (first | (with_reducible first | exact HB.out | apply below_alloc | apply pw_below_drewN | apply below_drew1) | exact HB.out)) hb); clear HB; have HB := n0_; clear n0_; (try clear hb); (try clear hb2); (try clear hk); (try clear hi)) | ((with_reducible refine gate_callee (f := 11) rfl ?_); refine goesL_ (some 13) rfl rfl Try.func11 (by kernel_rfl) rfl #[.int .i64 7] rfl (by (try simp only [List.map_toArray, List.map_cons, List.map_nil]); first | done | rfl | (simp only [List.length_drop, List.length_take]; rfl)) ?_; (with_reducible refine (Given.head_Name.calls 7 t119 _ A3.out).mono ?_); rintro e w53 ⟨rfl, hb⟩; refine ⟨_, rfl, ?_⟩; have n0_ := Aside0.mk (below_step (by repeat (first | (with_reducible first | exact HB.out | apply below_alloc | apply pw_below_drewN | apply below_drew1) | exact HB.out)) hb); clear HB; have HB := n0_; clear n0_; (try clear hb); (try clear hb2); (try clear hk); (try clear hi)))
    go_ret
    exact ⟨by first | rfl | (simp [errW_none, errW_some] <;> rfl) | (simp [*, errW_none, errW_some] <;> rfl), by repeat (first | (with_reducible first | exact HB.out | apply below_alloc | apply pw_below_drewN | apply below_drew1) | exact HB.out)⟩

/-! ### ladelaw10_HeadBack: function 4 -/
def ladelaw10_HeadBack.f (k : Nat) (a0 : Int) (a1 : Int) (a2 : ByteArray) : Option (Bool) := (ladelaw10_known.f k).bind fun t125 => (if t125 = true then (if (a2.size : Int) > 50 then (some true) else ((Given.head_Name.f (wrap64 ((wrap64 (Int.tmod a0 99999999)) + 1))).bind fun t126 => ((Given.head_ID.f t126).bind fun bt127 => (if bt127.2 = true then (if bt127.1 = (wrap64 ((wrap64 (Int.tmod a0 99999999)) + 1)) then ((Given.head_Name.f (wrap64 ((wrap64 (Int.tmod a0 99999999)) + 1))).bind fun t129 => ((Given.head_Name.f (wrap64 ((wrap64 (Int.tmod a1 99999999)) + 1))).bind fun t130 => (if ((Op.bytesLess t129.toList t130.toList) == (decide ((wrap64 ((wrap64 (Int.tmod a0 99999999)) + 1)) < (wrap64 ((wrap64 (Int.tmod a1 99999999)) + 1))))) = true then ((head_Bytes.f k (wrap64 ((wrap64 (Int.tmod a0 99999999)) + 1))).bind fun t131 => (if t131.size + a2.size ≤ 9223372036854775807 then ((head_Check.f k (t131 ++ a2) (wrap64 ((wrap64 (Int.tmod a1 99999999)) + 1))).bind fun t132 => (if ((t132 == 1) == ((wrap64 ((wrap64 (Int.tmod a0 99999999)) + 1)) == (wrap64 ((wrap64 (Int.tmod a1 99999999)) + 1)))) = true then ((head_Bytes.f k (wrap64 ((wrap64 (Int.tmod a0 99999999)) + 1))).bind fun t133 => (if 0 ≤ 15 then (if 15 ≤ (t133.size : Int) then ((head_Check.f k (t133.extract 0 15) (wrap64 ((wrap64 (Int.tmod a0 99999999)) + 1))).bind fun t134 => (some (t134 == 3))) else (none)) else (none))) else (some false))) else (none))) else (some false)))) else (some false)) else (some false))))) else (some false))
theorem ladelaw10_HeadBack.mono : ∀ a0 a1 a2 k, LeO (ladelaw10_HeadBack.f k a0 a1 a2) (ladelaw10_HeadBack.f (k + 1) a0 a1 a2) := by
  intro a0 a1 a2 k
  unfold ladelaw10_HeadBack.f
  repeat' first
      | (with_reducible exact head_Bytes.mono _ _)
      | (with_reducible exact head_Check.mono _ _ _)
      | (with_reducible exact ladelaw10_known.mono _)
      | (with_reducible exact LeO.refl _)
      | (with_reducible exact LeO.none _)
      | (with_reducible refine LeO.ite ?_ ?_)
      | (with_reducible refine LeO.bind ?_ (fun _ => ?_))
      | exact head_Bytes.mono _ _
      | exact head_Check.mono _ _ _
      | exact ladelaw10_known.mono _
      | exact LeO.none _
      | refine LeO.ite ?_ ?_
      | refine LeO.bind ?_ (fun _ => ?_)
set_option maxHeartbeats 8000000 in
set_option maxRecDepth 100000 in
theorem ladelaw10_HeadBack.calls (k : Nat) (a0 : Int) (a1 : Int) (a2 : ByteArray) (r : Bool) (w : World) (h : ladelaw10_HeadBack.f k a0 a1 a2 = some r) :
    Calls Try.prog 4 #[.int .u32 a0, .int .u32 a1, .string a2] w fun e w' => e = .returned (.bool r) ∧ Below w.heap.size w w' := by
  have HB := Aside0.mk (Below.refl w.heap.size w)
  have H : ((ladelaw10_known.f k).bind fun t125 => (if t125 = true then (if (a2.size : Int) > 50 then (some true) else ((Given.head_Name.f (wrap64 ((wrap64 (Int.tmod a0 99999999)) + 1))).bind fun t126 => ((Given.head_ID.f t126).bind fun bt127 => (if bt127.2 = true then (if bt127.1 = (wrap64 ((wrap64 (Int.tmod a0 99999999)) + 1)) then ((Given.head_Name.f (wrap64 ((wrap64 (Int.tmod a0 99999999)) + 1))).bind fun t129 => ((Given.head_Name.f (wrap64 ((wrap64 (Int.tmod a1 99999999)) + 1))).bind fun t130 => (if ((Op.bytesLess t129.toList t130.toList) == (decide ((wrap64 ((wrap64 (Int.tmod a0 99999999)) + 1)) < (wrap64 ((wrap64 (Int.tmod a1 99999999)) + 1))))) = true then ((head_Bytes.f k (wrap64 ((wrap64 (Int.tmod a0 99999999)) + 1))).bind fun t131 => (if t131.size + a2.size ≤ 9223372036854775807 then ((head_Check.f k (t131 ++ a2) (wrap64 ((wrap64 (Int.tmod a1 99999999)) + 1))).bind fun t132 => (if ((t132 == 1) == ((wrap64 ((wrap64 (Int.tmod a0 99999999)) + 1)) == (wrap64 ((wrap64 (Int.tmod a1 99999999)) + 1)))) = true then ((head_Bytes.f k (wrap64 ((wrap64 (Int.tmod a0 99999999)) + 1))).bind fun t133 => (if 0 ≤ 15 then (if 15 ≤ (t133.size : Int) then ((head_Check.f k (t133.extract 0 15) (wrap64 ((wrap64 (Int.tmod a0 99999999)) + 1))).bind fun t134 => (some (t134 == 3))) else (none)) else (none))) else (some false))) else (none))) else (some false)))) else (some false)) else (some false))))) else (some false))) = some r := h
  clear h
  replace H := Option.bind_eq_some_iff.mp H
  obtain ⟨t125, A40, H⟩ := H
  replace H : (if t125 = true then (if (a2.size : Int) > 50 then (some true) else ((Given.head_Name.f (wrap64 ((wrap64 (Int.tmod a0 99999999)) + 1))).bind fun t126 => ((Given.head_ID.f t126).bind fun bt127 => (if bt127.2 = true then (if bt127.1 = (wrap64 ((wrap64 (Int.tmod a0 99999999)) + 1)) then ((Given.head_Name.f (wrap64 ((wrap64 (Int.tmod a0 99999999)) + 1))).bind fun t129 => ((Given.head_Name.f (wrap64 ((wrap64 (Int.tmod a1 99999999)) + 1))).bind fun t130 => (if ((Op.bytesLess t129.toList t130.toList) == (decide ((wrap64 ((wrap64 (Int.tmod a0 99999999)) + 1)) < (wrap64 ((wrap64 (Int.tmod a1 99999999)) + 1))))) = true then ((head_Bytes.f k (wrap64 ((wrap64 (Int.tmod a0 99999999)) + 1))).bind fun t131 => (if t131.size + a2.size ≤ 9223372036854775807 then ((head_Check.f k (t131 ++ a2) (wrap64 ((wrap64 (Int.tmod a1 99999999)) + 1))).bind fun t132 => (if ((t132 == 1) == ((wrap64 ((wrap64 (Int.tmod a0 99999999)) + 1)) == (wrap64 ((wrap64 (Int.tmod a1 99999999)) + 1)))) = true then ((head_Bytes.f k (wrap64 ((wrap64 (Int.tmod a0 99999999)) + 1))).bind fun t133 => (if 0 ≤ 15 then (if 15 ≤ (t133.size : Int) then ((head_Check.f k (t133.extract 0 15) (wrap64 ((wrap64 (Int.tmod a0 99999999)) + 1))).bind fun t134 => (some (t134 == 3))) else (none)) else (none))) else (some false))) else (none))) else (some false)))) else (some false)) else (some false))))) else (some false)) = some r := H
  have A4 := Aside0.mk A40
  clear A40
  by_cases c5 : t125 = true
  · subst c5
    have H1 : (if (a2.size : Int) > 50 then (some true) else ((Given.head_Name.f (wrap64 ((wrap64 (Int.tmod a0 99999999)) + 1))).bind fun t126 => ((Given.head_ID.f t126).bind fun bt127 => (if bt127.2 = true then (if bt127.1 = (wrap64 ((wrap64 (Int.tmod a0 99999999)) + 1)) then ((Given.head_Name.f (wrap64 ((wrap64 (Int.tmod a0 99999999)) + 1))).bind fun t129 => ((Given.head_Name.f (wrap64 ((wrap64 (Int.tmod a1 99999999)) + 1))).bind fun t130 => (if ((Op.bytesLess t129.toList t130.toList) == (decide ((wrap64 ((wrap64 (Int.tmod a0 99999999)) + 1)) < (wrap64 ((wrap64 (Int.tmod a1 99999999)) + 1))))) = true then ((head_Bytes.f k (wrap64 ((wrap64 (Int.tmod a0 99999999)) + 1))).bind fun t131 => (if t131.size + a2.size ≤ 9223372036854775807 then ((head_Check.f k (t131 ++ a2) (wrap64 ((wrap64 (Int.tmod a1 99999999)) + 1))).bind fun t132 => (if ((t132 == 1) == ((wrap64 ((wrap64 (Int.tmod a0 99999999)) + 1)) == (wrap64 ((wrap64 (Int.tmod a1 99999999)) + 1)))) = true then ((head_Bytes.f k (wrap64 ((wrap64 (Int.tmod a0 99999999)) + 1))).bind fun t133 => (if 0 ≤ 15 then (if 15 ≤ (t133.size : Int) then ((head_Check.f k (t133.extract 0 15) (wrap64 ((wrap64 (Int.tmod a0 99999999)) + 1))).bind fun t134 => (some (t134 == 3))) else (none)) else (none))) else (some false))) else (none))) else (some false)))) else (some false)) else (some false))))) = some r := by rw [if_pos rfl] at H; exact H
    clear H
    have H := H1
    clear H1
    by_cases c6 : (a2.size : Int) > 50
    · rw [if_pos c6] at H
      have c6b0 : decide (50 < (a2.size : Int)) = true := decide_eq_true c6
      have c6b1 : decide (50 < a2.size) = true := decide_eq_true (by omega)
      clear c6
      obtain rfl := Option.some.inj H
      go_enter Try.func4, Try.ntmps4
      go_wp2_with (first | ((with_reducible refine gate_callee (f := 7) rfl ?_); refine goesL_ (some 11) rfl rfl Try.func7 (by kernel_rfl) rfl #[] rfl (by (try simp only [List.map_toArray, List.map_cons, List.map_nil]); first | done | rfl | (simp only [List.length_drop, List.length_take]; rfl)) ?_; (with_reducible refine (ladelaw10_known.calls k  true _ A4.out).mono ?_); rintro e w7 ⟨rfl, hb⟩; refine ⟨_, rfl, ?_⟩; have n0_ := Aside0.mk (below_step (by repeat (first | (with_reducible first | exact HB.out | apply below_alloc | apply pw_below_drewN | apply below_drew1) | exact HB.out)) hb); clear HB; have HB := n0_; clear n0_; (try clear hb); (try clear hb2); (try clear hk); (try clear hi)))
      go_ret
      exact ⟨by first | rfl | (simp [errW_none, errW_some] <;> rfl) | (simp [*, errW_none, errW_some] <;> rfl), by repeat (first | (with_reducible first | exact HB.out | apply below_alloc | apply pw_below_drewN | apply below_drew1) | exact HB.out)⟩
    · rw [if_neg c6] at H
      have c6b0 : decide (50 < (a2.size : Int)) = false := decide_eq_false c6
      have c6b1 : decide (50 < a2.size) = false := decide_eq_false (by omega)
      clear c6
      replace H := Option.bind_eq_some_iff.mp H
      obtain ⟨t126, A80, H⟩ := H
      replace H : ((Given.head_ID.f t126).bind fun bt127 => (if bt127.2 = true then (if bt127.1 = (wrap64 ((wrap64 (Int.tmod a0 99999999)) + 1)) then ((Given.head_Name.f (wrap64 ((wrap64 (Int.tmod a0 99999999)) + 1))).bind fun t129 => ((Given.head_Name.f (wrap64 ((wrap64 (Int.tmod a1 99999999)) + 1))).bind fun t130 => (if ((Op.bytesLess t129.toList t130.toList) == (decide ((wrap64 ((wrap64 (Int.tmod a0 99999999)) + 1)) < (wrap64 ((wrap64 (Int.tmod a1 99999999)) + 1))))) = true then ((head_Bytes.f k (wrap64 ((wrap64 (Int.tmod a0 99999999)) + 1))).bind fun t131 => (if t131.size + a2.size ≤ 9223372036854775807 then ((head_Check.f k (t131 ++ a2) (wrap64 ((wrap64 (Int.tmod a1 99999999)) + 1))).bind fun t132 => (if ((t132 == 1) == ((wrap64 ((wrap64 (Int.tmod a0 99999999)) + 1)) == (wrap64 ((wrap64 (Int.tmod a1 99999999)) + 1)))) = true then ((head_Bytes.f k (wrap64 ((wrap64 (Int.tmod a0 99999999)) + 1))).bind fun t133 => (if 0 ≤ 15 then (if 15 ≤ (t133.size : Int) then ((head_Check.f k (t133.extract 0 15) (wrap64 ((wrap64 (Int.tmod a0 99999999)) + 1))).bind fun t134 => (some (t134 == 3))) else (none)) else (none))) else (some false))) else (none))) else (some false)))) else (some false)) else (some false))) = some r := H
      have A8 := Aside0.mk A80
      clear A80
      replace H := Option.bind_eq_some_iff.mp H
      obtain ⟨⟨t127, t128⟩, A90, H⟩ := H
      replace H : (if t128 = true then (if t127 = (wrap64 ((wrap64 (Int.tmod a0 99999999)) + 1)) then ((Given.head_Name.f (wrap64 ((wrap64 (Int.tmod a0 99999999)) + 1))).bind fun t129 => ((Given.head_Name.f (wrap64 ((wrap64 (Int.tmod a1 99999999)) + 1))).bind fun t130 => (if ((Op.bytesLess t129.toList t130.toList) == (decide ((wrap64 ((wrap64 (Int.tmod a0 99999999)) + 1)) < (wrap64 ((wrap64 (Int.tmod a1 99999999)) + 1))))) = true then ((head_Bytes.f k (wrap64 ((wrap64 (Int.tmod a0 99999999)) + 1))).bind fun t131 => (if t131.size + a2.size ≤ 9223372036854775807 then ((head_Check.f k (t131 ++ a2) (wrap64 ((wrap64 (Int.tmod a1 99999999)) + 1))).bind fun t132 => (if ((t132 == 1) == ((wrap64 ((wrap64 (Int.tmod a0 99999999)) + 1)) == (wrap64 ((wrap64 (Int.tmod a1 99999999)) + 1)))) = true then ((head_Bytes.f k (wrap64 ((wrap64 (Int.tmod a0 99999999)) + 1))).bind fun t133 => (if 0 ≤ 15 then (if 15 ≤ (t133.size : Int) then ((head_Check.f k (t133.extract 0 15) (wrap64 ((wrap64 (Int.tmod a0 99999999)) + 1))).bind fun t134 => (some (t134 == 3))) else (none)) else (none))) else (some false))) else (none))) else (some false)))) else (some false)) else (some false)) = some r := H
      have A9 := Aside0.mk A90
      clear A90
      by_cases c10 : t128 = true
      · subst c10
        have H1 : (if t127 = (wrap64 ((wrap64 (Int.tmod a0 99999999)) + 1)) then ((Given.head_Name.f (wrap64 ((wrap64 (Int.tmod a0 99999999)) + 1))).bind fun t129 => ((Given.head_Name.f (wrap64 ((wrap64 (Int.tmod a1 99999999)) + 1))).bind fun t130 => (if ((Op.bytesLess t129.toList t130.toList) == (decide ((wrap64 ((wrap64 (Int.tmod a0 99999999)) + 1)) < (wrap64 ((wrap64 (Int.tmod a1 99999999)) + 1))))) = true then ((head_Bytes.f k (wrap64 ((wrap64 (Int.tmod a0 99999999)) + 1))).bind fun t131 => (if t131.size + a2.size ≤ 9223372036854775807 then ((head_Check.f k (t131 ++ a2) (wrap64 ((wrap64 (Int.tmod a1 99999999)) + 1))).bind fun t132 => (if ((t132 == 1) == ((wrap64 ((wrap64 (Int.tmod a0 99999999)) + 1)) == (wrap64 ((wrap64 (Int.tmod a1 99999999)) + 1)))) = true then ((head_Bytes.f k (wrap64 ((wrap64 (Int.tmod a0 99999999)) + 1))).bind fun t133 => (if 0 ≤ 15 then (if 15 ≤ (t133.size : Int) then ((head_Check.f k (t133.extract 0 15) (wrap64 ((wrap64 (Int.tmod a0 99999999)) + 1))).bind fun t134 => (some (t134 == 3))) else (none)) else (none))) else (some false))) else (none))) else (some false)))) else (some false)) = some r := by rw [if_pos rfl] at H; exact H
        clear H
        have H := H1
        clear H1
        by_cases c11 : t127 = (wrap64 ((wrap64 (Int.tmod a0 99999999)) + 1))
        · rw [if_pos c11] at H
          have c11b0 : (t127 == (wrap64 ((wrap64 (Int.tmod a0 99999999)) + 1))) = true := beq_iff_eq.mpr c11
          have c11b1 : (t127 != (wrap64 ((wrap64 (Int.tmod a0 99999999)) + 1))) = false := bne_eq_false_iff_eq.mpr c11
          clear c11
          replace H := Option.bind_eq_some_iff.mp H
          obtain ⟨t129_, A120, H⟩ := H
          obtain rfl : t126 = t129_ := Option.some.inj (A8.out.symm.trans A120)
          replace H : ((Given.head_Name.f (wrap64 ((wrap64 (Int.tmod a1 99999999)) + 1))).bind fun t130 => (if ((Op.bytesLess t126.toList t130.toList) == (decide ((wrap64 ((wrap64 (Int.tmod a0 99999999)) + 1)) < (wrap64 ((wrap64 (Int.tmod a1 99999999)) + 1))))) = true then ((head_Bytes.f k (wrap64 ((wrap64 (Int.tmod a0 99999999)) + 1))).bind fun t131 => (if t131.size + a2.size ≤ 9223372036854775807 then ((head_Check.f k (t131 ++ a2) (wrap64 ((wrap64 (Int.tmod a1 99999999)) + 1))).bind fun t132 => (if ((t132 == 1) == ((wrap64 ((wrap64 (Int.tmod a0 99999999)) + 1)) == (wrap64 ((wrap64 (Int.tmod a1 99999999)) + 1)))) = true then ((head_Bytes.f k (wrap64 ((wrap64 (Int.tmod a0 99999999)) + 1))).bind fun t133 => (if 0 ≤ 15 then (if 15 ≤ (t133.size : Int) then ((head_Check.f k (t133.extract 0 15) (wrap64 ((wrap64 (Int.tmod a0 99999999)) + 1))).bind fun t134 => (some (t134 == 3))) else (none)) else (none))) else (some false))) else (none))) else (some false))) = some r := H
          have A12 := Aside0.mk A120
          clear A120
          replace H := Option.bind_eq_some_iff.mp H
          obtain ⟨t130, A130, H⟩ := H
          replace H : (if ((Op.bytesLess t126.toList t130.toList) == (decide ((wrap64 ((wrap64 (Int.tmod a0 99999999)) + 1)) < (wrap64 ((wrap64 (Int.tmod a1 99999999)) + 1))))) = true then ((head_Bytes.f k (wrap64 ((wrap64 (Int.tmod a0 99999999)) + 1))).bind fun t131 => (if t131.size + a2.size ≤ 9223372036854775807 then ((head_Check.f k (t131 ++ a2) (wrap64 ((wrap64 (Int.tmod a1 99999999)) + 1))).bind fun t132 => (if ((t132 == 1) == ((wrap64 ((wrap64 (Int.tmod a0 99999999)) + 1)) == (wrap64 ((wrap64 (Int.tmod a1 99999999)) + 1)))) = true then ((head_Bytes.f k (wrap64 ((wrap64 (Int.tmod a0 99999999)) + 1))).bind fun t133 => (if 0 ≤ 15 then (if 15 ≤ (t133.size : Int) then ((head_Check.f k (t133.extract 0 15) (wrap64 ((wrap64 (Int.tmod a0 99999999)) + 1))).bind fun t134 => (some (t134 == 3))) else (none)) else (none))) else (some false))) else (none))) else (some false)) = some r := H
          have A13 := Aside0.mk A130
          clear A130
          by_cases c14 : ((Op.bytesLess t126.toList t130.toList) == (decide ((wrap64 ((wrap64 (Int.tmod a0 99999999)) + 1)) < (wrap64 ((wrap64 (Int.tmod a1 99999999)) + 1))))) = true
          · rw [if_pos c14] at H
            have c14b0 : ((Op.bytesLess t126.toList t130.toList) == (decide ((wrap64 ((wrap64 (Int.tmod a0 99999999)) + 1)) < (wrap64 ((wrap64 (Int.tmod a1 99999999)) + 1))))) = true := c14
            (try (have c14b1 : decide ((Op.bytesLess t126.toList t130.toList) = (decide ((wrap64 ((wrap64 (Int.tmod a0 99999999)) + 1)) < (wrap64 ((wrap64 (Int.tmod a1 99999999)) + 1))))) = true := by simpa using c14))
            (try (have c14b2 : ((Op.bytesLess t126.toList t130.toList) == (decide ((wrap64 ((wrap64 (Int.tmod a0 99999999)) + 1)) < (wrap64 ((wrap64 (Int.tmod a1 99999999)) + 1))))) = true := by simpa using c14))
            clear c14
            replace H := Option.bind_eq_some_iff.mp H
            obtain ⟨t131, A150, H⟩ := H
            replace H : (if t131.size + a2.size ≤ 9223372036854775807 then ((head_Check.f k (t131 ++ a2) (wrap64 ((wrap64 (Int.tmod a1 99999999)) + 1))).bind fun t132 => (if ((t132 == 1) == ((wrap64 ((wrap64 (Int.tmod a0 99999999)) + 1)) == (wrap64 ((wrap64 (Int.tmod a1 99999999)) + 1)))) = true then ((head_Bytes.f k (wrap64 ((wrap64 (Int.tmod a0 99999999)) + 1))).bind fun t133 => (if 0 ≤ 15 then (if 15 ≤ (t133.size : Int) then ((head_Check.f k (t133.extract 0 15) (wrap64 ((wrap64 (Int.tmod a0 99999999)) + 1))).bind fun t134 => (some (t134 == 3))) else (none)) else (none))) else (some false))) else (none)) = some r := H
            have A15 := Aside0.mk A150
            clear A150
            by_cases c16 : t131.size + a2.size ≤ 9223372036854775807
            · rw [if_pos c16] at H
              have c16b0 := eq_true c16
              have c16b1 : decide (t131.size + a2.size ≤ 9223372036854775807) = true := decide_eq_true c16
              try have c16b2 : (9223372036854775807 < t131.size + a2.size) = False := eq_false (Nat.not_lt.2 c16)
              replace H := Option.bind_eq_some_iff.mp H
              obtain ⟨t132, A170, H⟩ := H
              replace H : (if ((t132 == 1) == ((wrap64 ((wrap64 (Int.tmod a0 99999999)) + 1)) == (wrap64 ((wrap64 (Int.tmod a1 99999999)) + 1)))) = true then ((head_Bytes.f k (wrap64 ((wrap64 (Int.tmod a0 99999999)) + 1))).bind fun t133 => (if 0 ≤ 15 then (if 15 ≤ (t133.size : Int) then ((head_Check.f k (t133.extract 0 15) (wrap64 ((wrap64 (Int.tmod a0 99999999)) + 1))).bind fun t134 => (some (t134 == 3))) else (none)) else (none))) else (some false)) = some r := H
              have A17 := Aside0.mk A170
              clear A170
              by_cases c18 : ((t132 == 1) == ((wrap64 ((wrap64 (Int.tmod a0 99999999)) + 1)) == (wrap64 ((wrap64 (Int.tmod a1 99999999)) + 1)))) = true
              · rw [if_pos c18] at H
                have c18b0 : ((t132 == 1) == ((wrap64 ((wrap64 (Int.tmod a0 99999999)) + 1)) == (wrap64 ((wrap64 (Int.tmod a1 99999999)) + 1)))) = true := c18
                (try (have c18b1 : decide ((t132 == 1) = ((wrap64 ((wrap64 (Int.tmod a0 99999999)) + 1)) == (wrap64 ((wrap64 (Int.tmod a1 99999999)) + 1)))) = true := by simpa using c18))
                (try (have c18b2 : ((t132 == 1) == ((wrap64 ((wrap64 (Int.tmod a0 99999999)) + 1)) == (wrap64 ((wrap64 (Int.tmod a1 99999999)) + 1)))) = true := by simpa using c18))
                clear c18
                replace H := Option.bind_eq_some_iff.mp H
                obtain ⟨t133_, A190, H⟩ := H
                obtain rfl : t131 = t133_ := Option.some.inj (A15.out.symm.trans A190)
                replace H : (if 0 ≤ 15 then (if 15 ≤ (t131.size : Int) then ((head_Check.f k (t131.extract 0 15) (wrap64 ((wrap64 (Int.tmod a0 99999999)) + 1))).bind fun t134 => (some (t134 == 3))) else (none)) else (none)) = some r := H
                have A19 := Aside0.mk A190
                clear A190
                by_cases c20 : 0 ≤ 15
                · rw [if_pos c20] at H
                  have c20b0 := eq_true c20
                  have c20b1 : decide (0 ≤ 15) = true := decide_eq_true c20
                  clear c20
                  by_cases c21 : 15 ≤ (t131.size : Int)
                  · rw [if_pos c21] at H
                    have c21b0 := eq_true c21
                    have c21b1 : decide (15 ≤ (t131.size : Int)) = true := decide_eq_true c21
                    clear c21
                    replace H := Option.bind_eq_some_iff.mp H
                    obtain ⟨t134, A220, H⟩ := H
                    replace H : (some (t134 == 3)) = some r := H
                    have A22 := Aside0.mk A220
                    clear A220
                    obtain rfl := Option.some.inj H
                    go_enter Try.func4, Try.ntmps4
                    go_wp2_with (first | ((with_reducible refine gate_callee (f := 7) rfl ?_); refine goesL_ (some 11) rfl rfl Try.func7 (by kernel_rfl) rfl #[] rfl (by (try simp only [List.map_toArray, List.map_cons, List.map_nil]); first | done | rfl | (simp only [List.length_drop, List.length_take]; rfl)) ?_; (with_reducible refine (ladelaw10_known.calls k  true _ A4.out).mono ?_); rintro e w23 ⟨rfl, hb⟩; refine ⟨_, rfl, ?_⟩; have n0_ := Aside0.mk (below_step (by repeat (first | (with_reducible first | exact HB.out | apply below_alloc | apply pw_below_drewN | apply below_drew1) | exact HB.out)) hb); clear HB; have HB := n0_; clear n0_; (try clear hb); (try clear hb2); (try clear hk); (try clear hi)) | ((with_reducible refine gate_callee (f := 11) rfl ?_); refine goesL_ (some 26) rfl rfl Try.func11 (by kernel_rfl) rfl #[.int .i64 (wrap64 ((wrap64 (Int.tmod a0 99999999)) + 1))] rfl (by (try simp only [List.map_toArray, List.map_cons, List.map_nil]); first | done | rfl | (simp only [List.length_drop, List.length_take]; rfl)) ?_; (with_reducible refine (Given.head_Name.calls (wrap64 ((wrap64 (Int.tmod a0 99999999)) + 1)) t126 _ A8.out).mono ?_); rintro e w24 ⟨rfl, hb⟩; refine ⟨_, rfl, ?_⟩; have n0_ := Aside0.mk (below_step (by repeat (first | (with_reducible first | exact HB.out | apply below_alloc | apply pw_below_drewN | apply below_drew1) | exact HB.out)) hb); clear HB; have HB := n0_; clear n0_; (try clear hb); (try clear hb2); (try clear hk); (try clear hi)) | ((with_reducible refine gate_callee (f := 8) rfl ?_); refine goesL_ (some 27) rfl rfl Try.func8 (by kernel_rfl) rfl #[.string t126] rfl (by (try simp only [List.map_toArray, List.map_cons, List.map_nil]); first | done | rfl | (simp only [List.length_drop, List.length_take]; rfl)) ?_; (with_reducible refine (Given.head_ID.calls t126 t127 true _ A9.out).mono ?_); rintro e w25 ⟨rfl, hb⟩; refine ⟨_, rfl, ?_⟩; have n0_ := Aside0.mk (below_step (by repeat (first | (with_reducible first | exact HB.out | apply below_alloc | apply pw_below_drewN | apply below_drew1) | exact HB.out)) hb); clear HB; have HB := n0_; clear n0_; (try clear hb); (try clear hb2); (try clear hk); (try clear hi)) | (go_at_call 11; (with_reducible refine (Given.head_Name.calls (wrap64 ((wrap64 (Int.tmod a0 99999999)) + 1)) t126 _ A12.out).mono ?_); rintro e w26 ⟨rfl, hb⟩; have n0_ := Aside0.mk (below_step (by repeat (first | (with_reducible first | exact HB.out | apply below_alloc | apply pw_below_drewN | apply below_drew1) | exact HB.out)) hb); clear HB; have HB := n0_; clear n0_; (try clear hb); (try clear hb2); (try clear hk); (try clear hi)) | (go_at_call 11; (with_reducible refine (Given.head_Name.calls (wrap64 ((wrap64 (Int.tmod a1 99999999)) + 1)) t130 _ A13.out).mono ?_); rintro e w27 ⟨rfl, hb⟩; have n0_ := Aside0.mk (below_step (by repeat (first | (with_reducible first | exact HB.out | apply below_alloc | apply pw_below_drewN | apply below_drew1) | exact HB.out)) hb); clear HB; have HB := n0_; clear n0_; (try clear hb); (try clear hb2); (try clear hk); (try clear hi)) | (go_at_call 10; (with_reducible refine (head_Bytes.calls k (wrap64 ((wrap64 (Int.tmod a0 99999999)) + 1)) t131 _ A15.out).mono ?_); rintro e w28 ⟨rfl, hb⟩; have n0_ := Aside0.mk (below_step (by repeat (first | (with_reducible first | exact HB.out | apply below_alloc | apply pw_below_drewN | apply below_drew1) | exact HB.out)) hb); clear HB; have HB := n0_; clear n0_; (try clear hb); (try clear hb2); (try clear hk); (try clear hi)) | (go_at_call 14; (with_reducible refine (head_Check.calls k (t131 ++ a2) (wrap64 ((wrap64 (Int.tmod a1 99999999)) + 1)) t132 _ A17.out).mono ?_); rintro e w29 ⟨rfl, hb⟩; have n0_ := Aside0.mk (below_step (by repeat (first | (with_reducible first | exact HB.out | apply below_alloc | apply pw_below_drewN | apply below_drew1) | exact HB.out)) hb); clear HB; have HB := n0_; clear n0_; (try clear hb); (try clear hb2); (try clear hk); (try clear hi)) | (go_at_call 10; (with_reducible refine (head_Bytes.calls k (wrap64 ((wrap64 (Int.tmod a0 99999999)) + 1)) t131 _ A19.out).mono ?_); rintro e w30 ⟨rfl, hb⟩; have n0_ := Aside0.mk (below_step (by repeat (first | (with_reducible first | exact HB.out | apply below_alloc | apply pw_below_drewN | apply below_drew1) | exact HB.out)) hb); clear HB; have HB := n0_; clear n0_; (try clear hb); (try clear hb2); (try clear hk); (try clear hi)) | (go_at_call 14; (with_reducible refine (head_Check.calls k (t131.extract 0 15) (wrap64 ((wrap64 (Int.tmod a0 99999999)) + 1)) t134 _ A22.out).mono ?_); rintro e w31 ⟨rfl, hb⟩; have n0_ := Aside0.mk (below_step (by repeat (first | (with_reducible first | exact HB.out | apply below_alloc | apply pw_below_drewN | apply below_drew1) | exact HB.out)) hb); clear HB; have HB := n0_; clear n0_; (try clear hb); (try clear hb2); (try clear hk); (try clear hi)))
                    go_ret
                    exact ⟨by first | rfl | (simp [errW_none, errW_some] <;> rfl) | (simp [*, errW_none, errW_some] <;> rfl), by repeat (first | (with_reducible first | exact HB.out | apply below_alloc | apply pw_below_drewN | apply below_drew1) | exact HB.out)⟩
                  · rw [if_neg c21] at H
                    exact absurd H (by simp)
                · rw [if_neg c20] at H
                  exact absurd H (by simp)
              · rw [if_neg c18] at H
                have c18b0 : ((t132 == 1) == ((wrap64 ((wrap64 (Int.tmod a0 99999999)) + 1)) == (wrap64 ((wrap64 (Int.tmod a1 99999999)) + 1)))) = false := by simpa using c18
                (try (have c18b1 : decide ((t132 == 1) = ((wrap64 ((wrap64 (Int.tmod a0 99999999)) + 1)) == (wrap64 ((wrap64 (Int.tmod a1 99999999)) + 1)))) = false := by simpa using c18))
                (try (have c18b2 : ((t132 == 1) == ((wrap64 ((wrap64 (Int.tmod a0 99999999)) + 1)) == (wrap64 ((wrap64 (Int.tmod a1 99999999)) + 1)))) = false := by simpa using c18))
                (try (have c18b3 : ¬ ((t132 == 1) = ((wrap64 ((wrap64 (Int.tmod a0 99999999)) + 1)) == (wrap64 ((wrap64 (Int.tmod a1 99999999)) + 1)))) := by simpa using c18))
                clear c18
                obtain rfl := Option.some.inj H
                go_enter Try.func4, Try.ntmps4
                go_wp2_with (first | ((with_reducible refine gate_callee (f := 7) rfl ?_); refine goesL_ (some 11) rfl rfl Try.func7 (by kernel_rfl) rfl #[] rfl (by (try simp only [List.map_toArray, List.map_cons, List.map_nil]); first | done | rfl | (simp only [List.length_drop, List.length_take]; rfl)) ?_; (with_reducible refine (ladelaw10_known.calls k  true _ A4.out).mono ?_); rintro e w32 ⟨rfl, hb⟩; refine ⟨_, rfl, ?_⟩; have n0_ := Aside0.mk (below_step (by repeat (first | (with_reducible first | exact HB.out | apply below_alloc | apply pw_below_drewN | apply below_drew1) | exact HB.out)) hb); clear HB; have HB := n0_; clear n0_; (try clear hb); (try clear hb2); (try clear hk); (try clear hi)) | ((with_reducible refine gate_callee (f := 11) rfl ?_); refine goesL_ (some 26) rfl rfl Try.func11 (by kernel_rfl) rfl #[.int .i64 (wrap64 ((wrap64 (Int.tmod a0 99999999)) + 1))] rfl (by (try simp only [List.map_toArray, List.map_cons, List.map_nil]); first | done | rfl | (simp only [List.length_drop, List.length_take]; rfl)) ?_; (with_reducible refine (Given.head_Name.calls (wrap64 ((wrap64 (Int.tmod a0 99999999)) + 1)) t126 _ A8.out).mono ?_); rintro e w33 ⟨rfl, hb⟩; refine ⟨_, rfl, ?_⟩; have n0_ := Aside0.mk (below_step (by repeat (first | (with_reducible first | exact HB.out | apply below_alloc | apply pw_below_drewN | apply below_drew1) | exact HB.out)) hb); clear HB; have HB := n0_; clear n0_; (try clear hb); (try clear hb2); (try clear hk); (try clear hi)) | ((with_reducible refine gate_callee (f := 8) rfl ?_); refine goesL_ (some 27) rfl rfl Try.func8 (by kernel_rfl) rfl #[.string t126] rfl (by (try simp only [List.map_toArray, List.map_cons, List.map_nil]); first | done | rfl | (simp only [List.length_drop, List.length_take]; rfl)) ?_; (with_reducible refine (Given.head_ID.calls t126 t127 true _ A9.out).mono ?_); rintro e w34 ⟨rfl, hb⟩; refine ⟨_, rfl, ?_⟩; have n0_ := Aside0.mk (below_step (by repeat (first | (with_reducible first | exact HB.out | apply below_alloc | apply pw_below_drewN | apply below_drew1) | exact HB.out)) hb); clear HB; have HB := n0_; clear n0_; (try clear hb); (try clear hb2); (try clear hk); (try clear hi)) | (go_at_call 11; (with_reducible refine (Given.head_Name.calls (wrap64 ((wrap64 (Int.tmod a0 99999999)) + 1)) t126 _ A12.out).mono ?_); rintro e w35 ⟨rfl, hb⟩; have n0_ := Aside0.mk (below_step (by repeat (first | (with_reducible first | exact HB.out | apply below_alloc | apply pw_below_drewN | apply below_drew1) | exact HB.out)) hb); clear HB; have HB := n0_; clear n0_; (try clear hb); (try clear hb2); (try clear hk); (try clear hi)) | (go_at_call 11; (with_reducible refine (Given.head_Name.calls (wrap64 ((wrap64 (Int.tmod a1 99999999)) + 1)) t130 _ A13.out).mono ?_); rintro e w36 ⟨rfl, hb⟩; have n0_ := Aside0.mk (below_step (by repeat (first | (with_reducible first | exact HB.out | apply below_alloc | apply pw_below_drewN | apply below_drew1) | exact HB.out)) hb); clear HB; have HB := n0_; clear n0_; (try clear hb); (try clear hb2); (try clear hk); (try clear hi)) | (go_at_call 10; (with_reducible refine (head_Bytes.calls k (wrap64 ((wrap64 (Int.tmod a0 99999999)) + 1)) t131 _ A15.out).mono ?_); rintro e w37 ⟨rfl, hb⟩; have n0_ := Aside0.mk (below_step (by repeat (first | (with_reducible first | exact HB.out | apply below_alloc | apply pw_below_drewN | apply below_drew1) | exact HB.out)) hb); clear HB; have HB := n0_; clear n0_; (try clear hb); (try clear hb2); (try clear hk); (try clear hi)) | (go_at_call 14; (with_reducible refine (head_Check.calls k (t131 ++ a2) (wrap64 ((wrap64 (Int.tmod a1 99999999)) + 1)) t132 _ A17.out).mono ?_); rintro e w38 ⟨rfl, hb⟩; have n0_ := Aside0.mk (below_step (by repeat (first | (with_reducible first | exact HB.out | apply below_alloc | apply pw_below_drewN | apply below_drew1) | exact HB.out)) hb); clear HB; have HB := n0_; clear n0_; (try clear hb); (try clear hb2); (try clear hk); (try clear hi)))
                go_ret
                exact ⟨by first | rfl | (simp [errW_none, errW_some] <;> rfl) | (simp [*, errW_none, errW_some] <;> rfl), by repeat (first | (with_reducible first | exact HB.out | apply below_alloc | apply pw_below_drewN | apply below_drew1) | exact HB.out)⟩
            · rw [if_neg c16] at H
              exact absurd H (by simp)
          · rw [if_neg c14] at H
            have c14b0 : ((Op.bytesLess t126.toList t130.toList) == (decide ((wrap64 ((wrap64 (Int.tmod a0 99999999)) + 1)) < (wrap64 ((wrap64 (Int.tmod a1 99999999)) + 1))))) = false := by simpa using c14
            (try (have c14b1 : decide ((Op.bytesLess t126.toList t130.toList) = (decide ((wrap64 ((wrap64 (Int.tmod a0 99999999)) + 1)) < (wrap64 ((wrap64 (Int.tmod a1 99999999)) + 1))))) = false := by simpa using c14))
            (try (have c14b2 : ((Op.bytesLess t126.toList t130.toList) == (decide ((wrap64 ((wrap64 (Int.tmod a0 99999999)) + 1)) < (wrap64 ((wrap64 (Int.tmod a1 99999999)) + 1))))) = false := by simpa using c14))
            (try (have c14b3 : ¬ ((Op.bytesLess t126.toList t130.toList) = (decide ((wrap64 ((wrap64 (Int.tmod a0 99999999)) + 1)) < (wrap64 ((wrap64 (Int.tmod a1 99999999)) + 1))))) := by simpa using c14))
            clear c14
            obtain rfl := Option.some.inj H
            go_enter Try.func4, Try.ntmps4
            go_wp2_with (first | ((with_reducible refine gate_callee (f := 7) rfl ?_); refine goesL_ (some 11) rfl rfl Try.func7 (by kernel_rfl) rfl #[] rfl (by (try simp only [List.map_toArray, List.map_cons, List.map_nil]); first | done | rfl | (simp only [List.length_drop, List.length_take]; rfl)) ?_; (with_reducible refine (ladelaw10_known.calls k  true _ A4.out).mono ?_); rintro e w39 ⟨rfl, hb⟩; refine ⟨_, rfl, ?_⟩; have n0_ := Aside0.mk (below_step (by repeat (first | (with_reducible first | exact HB.out | apply below_alloc | apply pw_below_drewN | apply below_drew1) | exact HB.out)) hb); clear HB; have HB := n0_; clear n0_; (try clear hb); (try clear hb2); (try clear hk); (try clear hi)) | ((with_reducible refine gate_callee (f := 11) rfl ?_); refine goesL_ (some 26) rfl rfl Try.func11 (by kernel_rfl) rfl #[.int .i64 (wrap64 ((wrap64 (Int.tmod a0 99999999)) + 1))] rfl (by (try simp only [List.map_toArray, List.map_cons, List.map_nil]); first | done | rfl | (simp only [List.length_drop, List.length_take]; rfl)) ?_; (with_reducible refine (Given.head_Name.calls (wrap64 ((wrap64 (Int.tmod a0 99999999)) + 1)) t126 _ A8.out).mono ?_); rintro e w40 ⟨rfl, hb⟩; refine ⟨_, rfl, ?_⟩; have n0_ := Aside0.mk (below_step (by repeat (first | (with_reducible first | exact HB.out | apply below_alloc | apply pw_below_drewN | apply below_drew1) | exact HB.out)) hb); clear HB; have HB := n0_; clear n0_; (try clear hb); (try clear hb2); (try clear hk); (try clear hi)) | ((with_reducible refine gate_callee (f := 8) rfl ?_); refine goesL_ (some 27) rfl rfl Try.func8 (by kernel_rfl) rfl #[.string t126] rfl (by (try simp only [List.map_toArray, List.map_cons, List.map_nil]); first | done | rfl | (simp only [List.length_drop, List.length_take]; rfl)) ?_; (with_reducible refine (Given.head_ID.calls t126 t127 true _ A9.out).mono ?_); rintro e w41 ⟨rfl, hb⟩; refine ⟨_, rfl, ?_⟩; have n0_ := Aside0.mk (below_step (by repeat (first | (with_reducible first | exact HB.out | apply below_alloc | apply pw_below_drewN | apply below_drew1) | exact HB.out)) hb); clear HB; have HB := n0_; clear n0_; (try clear hb); (try clear hb2); (try clear hk); (try clear hi)) | (go_at_call 11; (with_reducible refine (Given.head_Name.calls (wrap64 ((wrap64 (Int.tmod a0 99999999)) + 1)) t126 _ A12.out).mono ?_); rintro e w42 ⟨rfl, hb⟩; have n0_ := Aside0.mk (below_step (by repeat (first | (with_reducible first | exact HB.out | apply below_alloc | apply pw_below_drewN | apply below_drew1) | exact HB.out)) hb); clear HB; have HB := n0_; clear n0_; (try clear hb); (try clear hb2); (try clear hk); (try clear hi)) | (go_at_call 11; (with_reducible refine (Given.head_Name.calls (wrap64 ((wrap64 (Int.tmod a1 99999999)) + 1)) t130 _ A13.out).mono ?_); rintro e w43 ⟨rfl, hb⟩; have n0_ := Aside0.mk (below_step (by repeat (first | (with_reducible first | exact HB.out | apply below_alloc | apply pw_below_drewN | apply below_drew1) | exact HB.out)) hb); clear HB; have HB := n0_; clear n0_; (try clear hb); (try clear hb2); (try clear hk); (try clear hi)))
            go_ret
            exact ⟨by first | rfl | (simp [errW_none, errW_some] <;> rfl) | (simp [*, errW_none, errW_some] <;> rfl), by repeat (first | (with_reducible first | exact HB.out | apply below_alloc | apply pw_below_drewN | apply below_drew1) | exact HB.out)⟩
        · rw [if_neg c11] at H
          have c11b0 : (t127 == (wrap64 ((wrap64 (Int.tmod a0 99999999)) + 1))) = false := beq_eq_false_iff_ne.mpr c11
          have c11b1 : (t127 != (wrap64 ((wrap64 (Int.tmod a0 99999999)) + 1))) = true := bne_iff_ne.mpr c11
          obtain rfl := Option.some.inj H
          go_enter Try.func4, Try.ntmps4
          go_wp2_with (first | ((with_reducible refine gate_callee (f := 7) rfl ?_); refine goesL_ (some 11) rfl rfl Try.func7 (by kernel_rfl) rfl #[] rfl (by (try simp only [List.map_toArray, List.map_cons, List.map_nil]); first | done | rfl | (simp only [List.length_drop, List.length_take]; rfl)) ?_; (with_reducible refine (ladelaw10_known.calls k  true _ A4.out).mono ?_); rintro e w44 ⟨rfl, hb⟩; refine ⟨_, rfl, ?_⟩; have n0_ := Aside0.mk (below_step (by repeat (first | (with_reducible first | exact HB.out | apply below_alloc | apply pw_below_drewN | apply below_drew1) | exact HB.out)) hb); clear HB; have HB := n0_; clear n0_; (try clear hb); (try clear hb2); (try clear hk); (try clear hi)) | ((with_reducible refine gate_callee (f := 11) rfl ?_); refine goesL_ (some 26) rfl rfl Try.func11 (by kernel_rfl) rfl #[.int .i64 (wrap64 ((wrap64 (Int.tmod a0 99999999)) + 1))] rfl (by (try simp only [List.map_toArray, List.map_cons, List.map_nil]); first | done | rfl | (simp only [List.length_drop, List.length_take]; rfl)) ?_; (with_reducible refine (Given.head_Name.calls (wrap64 ((wrap64 (Int.tmod a0 99999999)) + 1)) t126 _ A8.out).mono ?_); rintro e w45 ⟨rfl, hb⟩; refine ⟨_, rfl, ?_⟩; have n0_ := Aside0.mk (below_step (by repeat (first | (with_reducible first | exact HB.out | apply below_alloc | apply pw_below_drewN | apply below_drew1) | exact HB.out)) hb); clear HB; have HB := n0_; clear n0_; (try clear hb); (try clear hb2); (try clear hk); (try clear hi)) | ((with_reducible refine gate_callee (f := 8) rfl ?_); refine goesL_ (some 27) rfl rfl Try.func8 (by kernel_rfl) rfl #[.string t126] rfl (by (try simp only [List.map_toArray, List.map_cons, List.map_nil]); first | done | rfl | (simp only [List.length_drop, List.length_take]; rfl)) ?_; (with_reducible refine (Given.head_ID.calls t126 t127 true _ A9.out).mono ?_); rintro e w46 ⟨rfl, hb⟩; refine ⟨_, rfl, ?_⟩; have n0_ := Aside0.mk (below_step (by repeat (first | (with_reducible first | exact HB.out | apply below_alloc | apply pw_below_drewN | apply below_drew1) | exact HB.out)) hb); clear HB; have HB := n0_; clear n0_; (try clear hb); (try clear hb2); (try clear hk); (try clear hi)))
          go_ret
          exact ⟨by first | rfl | (simp [errW_none, errW_some] <;> rfl) | (simp [*, errW_none, errW_some] <;> rfl), by repeat (first | (with_reducible first | exact HB.out | apply below_alloc | apply pw_below_drewN | apply below_drew1) | exact HB.out)⟩
      · replace c10 := Bool.eq_false_iff.mpr c10
        subst c10
        have H1 : (some false) = some r := by rw [if_neg (show ¬ (false = true) by decide)] at H; exact H
        clear H
        have H := H1
        clear H1
        obtain rfl := Option.some.inj H
        go_enter Try.func4, Try.ntmps4
        go_wp2_with (first | ((with_reducible refine gate_callee (f := 7) rfl ?_); refine goesL_ (some 11) rfl rfl Try.func7 (by kernel_rfl) rfl #[] rfl (by (try simp only [List.map_toArray, List.map_cons, List.map_nil]); first | done | rfl | (simp only [List.length_drop, List.length_take]; rfl)) ?_; (with_reducible refine (ladelaw10_known.calls k  true _ A4.out).mono ?_); rintro e w47 ⟨rfl, hb⟩; refine ⟨_, rfl, ?_⟩; have n0_ := Aside0.mk (below_step (by repeat (first | (with_reducible first | exact HB.out | apply below_alloc | apply pw_below_drewN | apply below_drew1) | exact HB.out)) hb); clear HB; have HB := n0_; clear n0_; (try clear hb); (try clear hb2); (try clear hk); (try clear hi)) | ((with_reducible refine gate_callee (f := 11) rfl ?_); refine goesL_ (some 26) rfl rfl Try.func11 (by kernel_rfl) rfl #[.int .i64 (wrap64 ((wrap64 (Int.tmod a0 99999999)) + 1))] rfl (by (try simp only [List.map_toArray, List.map_cons, List.map_nil]); first | done | rfl | (simp only [List.length_drop, List.length_take]; rfl)) ?_; (with_reducible refine (Given.head_Name.calls (wrap64 ((wrap64 (Int.tmod a0 99999999)) + 1)) t126 _ A8.out).mono ?_); rintro e w48 ⟨rfl, hb⟩; refine ⟨_, rfl, ?_⟩; have n0_ := Aside0.mk (below_step (by repeat (first | (with_reducible first | exact HB.out | apply below_alloc | apply pw_below_drewN | apply below_drew1) | exact HB.out)) hb); clear HB; have HB := n0_; clear n0_; (try clear hb); (try clear hb2); (try clear hk); (try clear hi)) | ((with_reducible refine gate_callee (f := 8) rfl ?_); refine goesL_ (some 27) rfl rfl Try.func8 (by kernel_rfl) rfl #[.string t126] rfl (by (try simp only [List.map_toArray, List.map_cons, List.map_nil]); first | done | rfl | (simp only [List.length_drop, List.length_take]; rfl)) ?_; (with_reducible refine (Given.head_ID.calls t126 t127 false _ A9.out).mono ?_); rintro e w49 ⟨rfl, hb⟩; refine ⟨_, rfl, ?_⟩; have n0_ := Aside0.mk (below_step (by repeat (first | (with_reducible first | exact HB.out | apply below_alloc | apply pw_below_drewN | apply below_drew1) | exact HB.out)) hb); clear HB; have HB := n0_; clear n0_; (try clear hb); (try clear hb2); (try clear hk); (try clear hi)))
        go_ret
        exact ⟨by first | rfl | (simp [errW_none, errW_some] <;> rfl) | (simp [*, errW_none, errW_some] <;> rfl), by repeat (first | (with_reducible first | exact HB.out | apply below_alloc | apply pw_below_drewN | apply below_drew1) | exact HB.out)⟩
  · replace c5 := Bool.eq_false_iff.mpr c5
    subst c5
    have H1 : (some false) = some r := by rw [if_neg (show ¬ (false = true) by decide)] at H; exact H
    clear H
    have H := H1
    clear H1
    obtain rfl := Option.some.inj H
    go_enter Try.func4, Try.ntmps4
    go_wp2_with (first | ((with_reducible refine gate_callee (f := 7) rfl ?_); refine goesL_ (some 11) rfl rfl Try.func7 (by kernel_rfl) rfl #[] rfl (by (try simp only [List.map_toArray, List.map_cons, List.map_nil]); first | done | rfl | (simp only [List.length_drop, List.length_take]; rfl)) ?_; (with_reducible refine (ladelaw10_known.calls k  false _ A4.out).mono ?_); rintro e w50 ⟨rfl, hb⟩; refine ⟨_, rfl, ?_⟩; have n0_ := Aside0.mk (below_step (by repeat (first | (with_reducible first | exact HB.out | apply below_alloc | apply pw_below_drewN | apply below_drew1) | exact HB.out)) hb); clear HB; have HB := n0_; clear n0_; (try clear hb); (try clear hb2); (try clear hk); (try clear hi)))
    go_ret
    exact ⟨by first | rfl | (simp [errW_none, errW_some] <;> rfl) | (simp [*, errW_none, errW_some] <;> rfl), by repeat (first | (with_reducible first | exact HB.out | apply below_alloc | apply pw_below_drewN | apply below_drew1) | exact HB.out)⟩

/-- THE ONE PURE STATEMENT of ladelaw10_HeadBack: yours. -/
def ladelaw10_HeadBack.Pure : Prop := ∀ (a0 : Int) (a1 : Int) (a2 : ByteArray), (Lit.int .u32 a0).wf = true → (Lit.int .u32 a1).wf = true → a2.size ≤ 140737488351232 → ∃ k, ladelaw10_HeadBack.f k a0 a1 a2 = some true
theorem ladelaw10_HeadBack.walk (P : ladelaw10_HeadBack.Pure) (a0 : Int) (a1 : Int) (a2 : ByteArray) (w : World) (w0 : (Lit.int .u32 a0).wf = true) (w1 : (Lit.int .u32 a1).wf = true) (w2 : a2.size ≤ 140737488351232) :
    Calls Try.prog 4 #[.int .u32 a0, .int .u32 a1, .string a2] w fun e w' => e = .returned (.bool true) ∧ Below w.heap.size w w' := by
  obtain ⟨k, h⟩ := P a0 a1 a2 w0 w1 w2
  refine (ladelaw10_HeadBack.calls k a0 a1 a2 true w h).mono ?_
  rintro e w' ⟨rfl, hd⟩
  exact ⟨rfl, hd⟩

end Go.Proofs.Ytjiojcoddildgaa.Q
