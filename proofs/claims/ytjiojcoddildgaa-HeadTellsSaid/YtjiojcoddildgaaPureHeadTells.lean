/- HeadTells: of every number its name, its head; of every name the number; of every bytes whether they begin so, as the reference tells. -/
import Derived.Test.YtjiojcoddildgaaQx2
import Derived.Test.YtjiojcoddildgaaHeadR
import Derived.Deep.RegionWith
import Derived.Test.YtjiojcoddildgaaReg
namespace Go.Proofs.Ytjiojcoddildgaa.Q
open Go Go.RowKit Go.Proofs.Ytjiojcoddildgaa.Reg Go.Proofs.Ytjiojcoddildgaa.CrcW Go.Proofs.Ytjiojcoddildgaa.CrcM Go.Proofs.Ytjiojcoddildgaa.HeadW Go.Proofs.Ytjiojcoddildgaa.HeadM Go.Proofs.Ytjiojcoddildgaa.HeadR Go.Proofs.YtjiojcoddildgaaW.PrintWords Go.Proofs.YtjiojcoddildgaaW.PrintLast Go.Proofs.YtjiojcoddildgaaW.PrintMore
theorem tells_known (w : World) : Calls Try.prog 7 #[] w fun e w' => e = .returned (.bool true) ∧ Below w.heap.size w w' := ladelaw10_known.calls 5 true w (known_q 0)
theorem tells_id (s : ByteArray) (hs : s.size ≤ 140737488351232) {n : Int} {b : Bool} (h : (((idN s).1 : Nat) : Int) = n ∧ (idN s).2 = b) (w : World) : Calls Try.prog 8 #[.string s] w fun e w' => e = .returned (.tuple #[.int .i64 n, .bool b]) ∧ Below w.heap.size w w' := by
  have := id_calls s hs w
  rw [h.1, h.2] at this; exact this
theorem tells_bytes (id : Int) {t : ByteArray} (h : headS (heldN id) = t) (w : World) : Calls Try.prog 10 #[.int .i64 id] w fun e w' => e = .returned (.string t) ∧ Below w.heap.size w w' := by
  rw [← h]; exact head_Bytes.calls 5 id _ w (Bytes_q id 0)
theorem tells_name (id : Int) {t : ByteArray} (h : nameS (heldN id) = t) (w : World) : Calls Try.prog 11 #[.int .i64 id] w fun e w' => e = .returned (.string t) ∧ Below w.heap.size w w' := by
  rw [← h]; exact name_calls id w
theorem tells_check (s : ByteArray) (id : Int) {c : Int} (h : checkN s (heldN id) = c) (w : World) : Calls Try.prog 14 #[.string s, .int .i64 id] w fun e w' => e = .returned (.int .i64 c) ∧ Below w.heap.size w w' := by
  rw [← h]; exact head_Check.calls 5 s id _ w (Check_q s id 0)
theorem tells_rid (s : ByteArray) {m : Int} {b : Bool} (h : laderef9_ID.f 20 s = some (m, b)) (w : World) : Calls Try.prog 9 #[.string s] w fun e w' => e = .returned (.tuple #[.int .i64 m, .bool b]) ∧ Below w.heap.size w w' := by
  refine (laderef9_ID.calls 20 s m b w h).mono ?_
  rintro e w' ⟨rfl, hd⟩
  exact ⟨rfl, hd.below⟩
theorem tells_rname (id : Int) {t : ByteArray} (h : nameS (heldN id) = t) (w : World) : Calls Try.prog 12 #[.int .i64 id] w fun e w' => e = .returned (.string t) ∧ Below w.heap.size w w' := by
  rw [← h]; exact laderef9_Name.calls 20 id _ w (ref_name id 20 (by decide))
theorem tells_rhead (id : Int) {t : ByteArray} (h : headS (heldN id) = t) (w : World) : Calls Try.prog 13 #[.int .i64 id] w fun e w' => e = .returned (.string t) ∧ Below w.heap.size w w' := by
  rw [← h]; exact laderef9_Head.calls 200 id _ w (ref_head id 200 (by decide))
theorem tells_rcheck (s : ByteArray) (id : Int) {c : Int} (h : checkN s (heldN id) = c) (w : World) : Calls Try.prog 15 #[.string s, .int .i64 id] w fun e w' => e = .returned (.int .i64 c) ∧ Below w.heap.size w w' := by
  rw [← h]; exact laderef9_Check.calls 200 s id _ w (ref_check s id 200 (by decide))
set_option maxHeartbeats 4000000 in
set_option maxRecDepth 100000 in
theorem tells_false (id other : Int) (s : ByteArray) (C : Nat) (w : World) (hs : s.size ≤ 100) (hc : C < 256) (hi : (((idN s).1 : Nat) : Int) = 0 ∧ (idN s).2 = false) (m : Int) (hm : laderef9_ID.f 20 s = some (m, false)) :
    Calls Try.prog 3 #[.int .i64 id, .int .i64 other, .string s, .int .u8 (C : Int)] w fun e w' => e = .returned (.bool true) ∧ Below w.heap.size w w' := by
  have t1 : decide ((100 : Int) < (s.size : Int)) = false := decide_eq_false (by omega)
  have t1n : decide (100 < s.size) = false := decide_eq_false (by omega)
  obtain ⟨nm, hnm⟩ : ∃ t, nameS (heldN id) = t := ⟨_, rfl⟩
  obtain ⟨h, hh⟩ : ∃ t, headS (heldN id) = t := ⟨_, rfl⟩
  have hz : h.size = 16 := by rw [← hh]; exact headS_size _
  obtain ⟨c1, hc1⟩ : ∃ c, checkN s (heldN id) = c := ⟨_, rfl⟩
  obtain ⟨c2, hc2⟩ : ∃ c, checkN (h ++ s) (heldN other) = c := ⟨_, rfl⟩
  obtain ⟨q, hq⟩ : ∃ q, C % 16 = q := ⟨_, rfl⟩
  have hq5 : q < 16 := by omega
  have HW : Aside0 (wrap64 (C : Int) = (C : Int)) := ⟨by unfold wrap64; omega⟩
  have hq1 : Int.tmod (C : Int) 16 = (q : Int) := by rw [Int.tmod_eq_emod_of_nonneg (by omega)]; omega
  have hq2 : (C : Int) % 16 = (q : Int) := by omega
  have hq3 : Int.tmod (C : Int) (h.size : Int) = (q : Int) := by rw [hz]; exact hq1
  have hq4 : (C : Int) % (h.size : Int) = (q : Int) := by rw [hz]; exact hq2
  obtain ⟨t, ht⟩ : ∃ t, h.extract 0 q = t := ⟨_, rfl⟩
  obtain ⟨c3, hc3⟩ : ∃ c, checkN t (heldN other) = c := ⟨_, rfl⟩
  have hcut : ∀ W : World, (Instr.slice 9 (.string h) none (some (.int .i64 (q : Int))) none).run Try.prog W = .ok (.string t) W := fun W => by
    rw [run_slice_string_to_if W 9 h .i64 (q : Int) Try.underlying9, if_pos (by omega), Int.toNat_natCast, ht]
  have hj : (9223372036854775807 < 16 + s.size) = False := eq_false (by omega)
  have hj0 : (16 + s.size ≤ 9223372036854775807) = True := eq_true (by omega)
  have hj1 : decide (16 + s.size ≤ 9223372036854775807) = true := decide_eq_true (by omega)
  have s1 : (nm.toList == nm.toList) = true := beq_self_eq_true _
  have s2 : (h.toList == h.toList) = true := beq_self_eq_true _
  have s3 : (c1 == c1) = true := beq_self_eq_true _
  have s4 : (c2 == c2) = true := beq_self_eq_true _
  have s5 : (c3 == c3) = true := beq_self_eq_true _
  have HT := Aside0.mk ht
  have HI := Aside0.mk hi
  have HM := Aside0.mk hm
  have HNM := Aside0.mk hnm
  have HH := Aside0.mk hh
  have HC1 := Aside0.mk hc1
  have HC2 := Aside0.mk hc2
  have HC3 := Aside0.mk hc3
  have HS := Aside0.mk hs
  clear hi hm hnm hh hc1 hc2 hc3 hs hc hq ht
  go_enter Try.func3, Try.ntmps3
  go_wp2_with (first | (go_at_call 7; refine (tells_known _).mono ?_; rintro e w1 ⟨rfl, hb1⟩) | (go_at_call 8; refine (tells_id s (by have := HS.out; omega) HI.out _).mono ?_; rintro e w2 ⟨rfl, hb2⟩) | (go_at_call 9; refine (tells_rid s HM.out _).mono ?_; rintro e w3 ⟨rfl, hb3⟩) | (go_at_call 10; refine (tells_bytes id HH.out _).mono ?_; rintro e w4 ⟨rfl, hb4⟩))
  have hb := below_cls w _ _ (below_cls w _ _ (below_cls w _ _ hb1 hb2) hb3) hb4
  refine wp_region_cls (Below w.heap.size w) (by kernel_rfl) (by kernel_rfl) (below_drew hb) ?_
  have inst : Nonempty (Cls (Below w.heap.size w)) := ⟨⟨w, Below.refl _ _⟩⟩
  dsimp only [List.append]
  have hw := HW.out
  have ht := HT.out
  repeat (go_big_quiet_step (first | (go_at_call 11; exact calls_cls (below_cls w) (tells_name id HNM.out _)) | (go_at_call 12; exact calls_cls (below_cls w) (tells_rname id HNM.out _)) | (go_at_call 13; exact calls_cls (below_cls w) (tells_rhead id HH.out _)) | (go_at_call_of 14 (Value.string s); exact calls_cls (below_cls w) (tells_check s id HC1.out _)) | (go_at_call_of 14 (Value.string (h ++ s)); exact calls_cls (below_cls w) (tells_check (h ++ s) other HC2.out _)) | (go_at_call_of 14 (Value.string t); exact calls_cls (below_cls w) (tells_check t other HC3.out _)) | (go_at_call_of 15 (Value.string s); exact calls_cls (below_cls w) (tells_rcheck s id HC1.out _)) | (go_at_call_of 15 (Value.string (h ++ s)); exact calls_cls (below_cls w) (tells_rcheck (h ++ s) other HC2.out _)) | (go_at_call_of 15 (Value.string t); exact calls_cls (below_cls w) (tells_rcheck t other HC3.out _))))
  refine wpQuiet_nil ?_
  rintro _ ⟨p, rfl⟩
  have hp := p.ok
  generalize p.w = W at hp ⊢
  clear p
  go_wp2
  go_ret
  exact ⟨rfl, hp⟩
set_option maxHeartbeats 4000000 in
set_option maxRecDepth 100000 in
theorem tells_true (id other : Int) (s : ByteArray) (C : Nat) (w : World) (hs : s.size ≤ 100) (hc : C < 256) (n : Int) (hi : (((idN s).1 : Nat) : Int) = n ∧ (idN s).2 = true) (hm : laderef9_ID.f 20 s = some (n, true)) :
    Calls Try.prog 3 #[.int .i64 id, .int .i64 other, .string s, .int .u8 (C : Int)] w fun e w' => e = .returned (.bool true) ∧ Below w.heap.size w w' := by
  have t1 : decide ((100 : Int) < (s.size : Int)) = false := decide_eq_false (by omega)
  have t1n : decide (100 < s.size) = false := decide_eq_false (by omega)
  obtain ⟨nm, hnm⟩ : ∃ t, nameS (heldN id) = t := ⟨_, rfl⟩
  obtain ⟨h, hh⟩ : ∃ t, headS (heldN id) = t := ⟨_, rfl⟩
  have hz : h.size = 16 := by rw [← hh]; exact headS_size _
  obtain ⟨c1, hc1⟩ : ∃ c, checkN s (heldN id) = c := ⟨_, rfl⟩
  obtain ⟨c2, hc2⟩ : ∃ c, checkN (h ++ s) (heldN other) = c := ⟨_, rfl⟩
  obtain ⟨q, hq⟩ : ∃ q, C % 16 = q := ⟨_, rfl⟩
  have hq5 : q < 16 := by omega
  have HW : Aside0 (wrap64 (C : Int) = (C : Int)) := ⟨by unfold wrap64; omega⟩
  have hq1 : Int.tmod (C : Int) 16 = (q : Int) := by rw [Int.tmod_eq_emod_of_nonneg (by omega)]; omega
  have hq2 : (C : Int) % 16 = (q : Int) := by omega
  have hq3 : Int.tmod (C : Int) (h.size : Int) = (q : Int) := by rw [hz]; exact hq1
  have hq4 : (C : Int) % (h.size : Int) = (q : Int) := by rw [hz]; exact hq2
  obtain ⟨t, ht⟩ : ∃ t, h.extract 0 q = t := ⟨_, rfl⟩
  obtain ⟨c3, hc3⟩ : ∃ c, checkN t (heldN other) = c := ⟨_, rfl⟩
  have hcut : ∀ W : World, (Instr.slice 9 (.string h) none (some (.int .i64 (q : Int))) none).run Try.prog W = .ok (.string t) W := fun W => by
    rw [run_slice_string_to_if W 9 h .i64 (q : Int) Try.underlying9, if_pos (by omega), Int.toNat_natCast, ht]
  have hj : (9223372036854775807 < 16 + s.size) = False := eq_false (by omega)
  have hj0 : (16 + s.size ≤ 9223372036854775807) = True := eq_true (by omega)
  have hj1 : decide (16 + s.size ≤ 9223372036854775807) = true := decide_eq_true (by omega)
  have s1 : (nm.toList == nm.toList) = true := beq_self_eq_true _
  have s2 : (h.toList == h.toList) = true := beq_self_eq_true _
  have s3 : (c1 == c1) = true := beq_self_eq_true _
  have s4 : (c2 == c2) = true := beq_self_eq_true _
  have s6 : (n == n) = true := beq_self_eq_true _
  have s5 : (c3 == c3) = true := beq_self_eq_true _
  have HT := Aside0.mk ht
  have HI := Aside0.mk hi
  have HM := Aside0.mk hm
  have HNM := Aside0.mk hnm
  have HH := Aside0.mk hh
  have HC1 := Aside0.mk hc1
  have HC2 := Aside0.mk hc2
  have HC3 := Aside0.mk hc3
  have HS := Aside0.mk hs
  clear hi hm hnm hh hc1 hc2 hc3 hs hc hq ht
  go_enter Try.func3, Try.ntmps3
  go_wp2_with (first | (go_at_call 7; refine (tells_known _).mono ?_; rintro e w1 ⟨rfl, hb1⟩) | (go_at_call 8; refine (tells_id s (by have := HS.out; omega) HI.out _).mono ?_; rintro e w2 ⟨rfl, hb2⟩) | (go_at_call 9; refine (tells_rid s HM.out _).mono ?_; rintro e w3 ⟨rfl, hb3⟩) | (go_at_call 10; refine (tells_bytes id HH.out _).mono ?_; rintro e w4 ⟨rfl, hb4⟩))
  have hb := below_cls w _ _ (below_cls w _ _ (below_cls w _ _ hb1 hb2) hb3) hb4
  refine wp_region_cls (Below w.heap.size w) (by kernel_rfl) (by kernel_rfl) (below_drew hb) ?_
  have inst : Nonempty (Cls (Below w.heap.size w)) := ⟨⟨w, Below.refl _ _⟩⟩
  dsimp only [List.append]
  have hw := HW.out
  have ht := HT.out
  repeat (go_big_quiet_step (first | (go_at_call 11; exact calls_cls (below_cls w) (tells_name id HNM.out _)) | (go_at_call 12; exact calls_cls (below_cls w) (tells_rname id HNM.out _)) | (go_at_call 13; exact calls_cls (below_cls w) (tells_rhead id HH.out _)) | (go_at_call_of 14 (Value.string s); exact calls_cls (below_cls w) (tells_check s id HC1.out _)) | (go_at_call_of 14 (Value.string (h ++ s)); exact calls_cls (below_cls w) (tells_check (h ++ s) other HC2.out _)) | (go_at_call_of 14 (Value.string t); exact calls_cls (below_cls w) (tells_check t other HC3.out _)) | (go_at_call_of 15 (Value.string s); exact calls_cls (below_cls w) (tells_rcheck s id HC1.out _)) | (go_at_call_of 15 (Value.string (h ++ s)); exact calls_cls (below_cls w) (tells_rcheck (h ++ s) other HC2.out _)) | (go_at_call_of 15 (Value.string t); exact calls_cls (below_cls w) (tells_rcheck t other HC3.out _))))
  refine wpQuiet_nil ?_
  rintro _ ⟨p, rfl⟩
  have hp := p.ok
  generalize p.w = W at hp ⊢
  clear p
  go_wp2
  go_ret
  exact ⟨rfl, hp⟩
set_option maxHeartbeats 4000000 in
set_option maxRecDepth 100000 in
theorem tells_long (id other : Int) (s : ByteArray) (C : Int) (w : World) (hs : 100 < s.size) :
    Calls Try.prog 3 #[.int .i64 id, .int .i64 other, .string s, .int .u8 C] w fun e w' => e = .returned (.bool true) ∧ Below w.heap.size w w' := by
  have t1 : decide ((100 : Int) < (s.size : Int)) = true := decide_eq_true (by omega)
  have t1n : decide (100 < s.size) = true := decide_eq_true (by omega)
  go_enter Try.func3, Try.ntmps3
  go_wp2_with (go_at_call 7; refine (tells_known _).mono ?_; rintro e w1 ⟨rfl, hb1⟩)
  go_ret
  exact ⟨rfl, hb1⟩
theorem ladelaw10_HeadTells.walk (_ : True) (id other : Int) (s : ByteArray) (cut : Int) (w : World) (_ : (Lit.int .i64 id).wf = true) (_ : (Lit.int .i64 other).wf = true) (_ : s.size ≤ 140737488351232) (w3 : (Lit.int .u8 cut).wf = true) :
    Calls Try.prog 3 #[.int .i64 id, .int .i64 other, .string s, .int .u8 cut] w fun e w' => e = .returned (.bool true) ∧ Below w.heap.size w w' := by
  have hc : 0 ≤ cut ∧ cut < 256 := by simp [Lit.wf, IntKind.min, IntKind.max, IntKind.bits, IntKind.signed] at w3; omega
  obtain ⟨C, rfl⟩ := Int.eq_ofNat_of_zero_le hc.1
  by_cases hs : s.size ≤ 100
  · obtain ⟨m, hm, hmn⟩ := ref_id s 20 (by decide)
    cases hb : (idN s).2 with
    | false => 
      rw [hb] at hm
      have := id_no hb
      exact tells_false id other s C w hs (by omega) ⟨by rw [this]; rfl, hb⟩ m hm
    | true => 
      rw [hb] at hm
      obtain rfl := hmn hb
      exact tells_true id other s C w hs (by omega) _ ⟨rfl, hb⟩ hm
  · exact tells_long id other s C w (by omega)
end Go.Proofs.Ytjiojcoddildgaa.Q
namespace Go.Proofs.Ytjiojcoddildgaa.Pure
theorem HeadTells : True := trivial
end Go.Proofs.Ytjiojcoddildgaa.Pure
