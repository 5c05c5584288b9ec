/- The walks of part.rising and of the reference's entries. -/
/- The walks of part.Is and of the reference's Is. -/
/- The walk of the reference's Is. -/
import Derived.Test.YtokjhocjemjfiaaMb
set_option linter.unusedVariables false
set_option linter.unusedSimpArgs false
namespace Go.Proofs.Ytokjhocjemjfiaa.Sp
open Go Go.RowKit Go.Proofs.Ytokjhocjemjfiaa.A Go.Proofs.YtokjhocjemjfiaaW.PrintWords Go.Proofs.YtokjhocjemjfiaaW.PrintLast Go.Proofs.YtokjhocjemjfiaaW.PrintMore
/-- the cells of entry i -/
theorem Rd.at_ {w : World} {A : Option Addr} {c : Nat} {l : List Ent} (h : Rd w A c l) {i : Nat} (hi : i < l.length) :
    ∃ ad : Addr, A = some ad ∧ w.cell? (ad.add (i * 3)) = some (.int .i64 (el l i).f0) ∧ w.cell? ⟨(ad.add (i * 3)).block, (ad.add (i * 3)).off + 1, none⟩ = some (.int .i64 (el l i).f1) ∧ w.cell? ⟨(ad.add (i * 3)).block, (ad.add (i * 3)).off + 2, none⟩ = some (.string (el l i).f2) := by
  obtain ⟨ad, e, h0, h1, h2⟩ := at_T28 h.rd (i : Int) (by omega) (by omega)
  exact ⟨ad, e, h0, h1, h2⟩
end Go.Proofs.Ytokjhocjemjfiaa.Sp
namespace Go.Proofs.Ytokjhocjemjfiaa.PartW
open Go Go.RowKit Go.Proofs.Ytokjhocjemjfiaa.A Go.Proofs.Ytokjhocjemjfiaa.Sp Go.Proofs.Ytokjhocjemjfiaa.Reg Go.Proofs.YtokjhocjemjfiaaW.PrintWords Go.Proofs.YtokjhocjemjfiaaW.PrintLast Go.Proofs.YtokjhocjemjfiaaW.PrintMore
theorem isE_calls (e : Ent) (w : World) {b : Bool} (h : isE e = b) : Calls Try.prog 16 #[.agg #[.int .i64 e.f0, .int .i64 e.f1, .string e.f2]] w fun r w' => r = .returned (.bool b) ∧ Below w.heap.size w w' :=
  part_IsEntry.calls e.f0 e.f1 e.f2 b w (by rw [isE_q, h])
theorem isE4_calls (e : Ent) (w : World) {b : Bool} (h : isE e = b) : Calls Try.prog 17 #[.agg #[.int .i64 e.f0, .int .i64 e.f1, .string e.f2]] w fun r w' => r = .returned (.bool b) ∧ Below w.heap.size w w' :=
  laderef4_IsEntry.calls e.f0 e.f1 e.f2 b w (by rw [isE_q4, h])
theorem isE_rng {q : Ent} (h : isE q = true) : 1 ≤ q.f0 ∧ q.f0 ≤ 1099511627776 := by
  unfold isE at h; rw [decide_eq_true_eq] at h; exact ⟨h.1, h.2.1⟩
theorem ris_no {dense : Bool} {l : List Ent} {k : Nat} (hk : k < l.length) (h : okR dense l k = false) : risB dense l = false := by
  unfold risB
  rw [Bool.and_eq_false_iff]
  left
  rw [List.all_eq_false]
  exact ⟨k, List.mem_range.2 hk, by rw [h]; decide⟩
theorem ris_go {dense : Bool} {l : List Ent} {k : Nat} (h : ∀ j, j < k → okR dense l j = true) (hk : okR dense l k = true) : Aside0 (∀ j, j < k + 1 → okR dense l j = true) := ⟨fun j hj => by
  rcases Nat.lt_or_ge j k with h' | h'
  · exact h j h'
  · obtain rfl : j = k := by omega
    exact hk⟩
theorem ris_end {dense : Bool} {l : List Ent} (h : ∀ j, j < l.length → okR dense l j = true) (b : Bool) (hb : b = true ↔ l.length ≤ 6) : b = risB dense l := by
  unfold risB
  rw [List.all_eq_true.2 (fun j hj => h j (List.mem_range.1 hj)), Bool.true_and]
  apply Bool.eq_iff_iff.2
  rw [hb, decide_eq_true_eq]
set_option maxHeartbeats 4000000 in
set_option maxRecDepth 100000 in
theorem part_rising (l : List Ent) (A : Option Addr) (c : Nat) (dense : Bool) (w : World) (h : Rd w A c l) :
    Calls Try.prog 36 #[.slice A l.length c, .bool dense] w fun e w' => e = .returned (.bool (risB dense l)) ∧ Below w.heap.size w w' := by
  have HR := Aside0.mk h
  have hbd := h.bd
  clear h
  go_enter Try.func36, Try.ntmps36
  go_wp2
  go_loopw [9] (fun i wr => ∃ k : Nat, k ≤ l.length ∧ i = .int .i64 k ∧ Aside0 (∀ j, j < k → okR dense l j = true) ∧ Aside0 (Below w.heap.size w wr)) (fun i _ => l.length - (intOf i).toNat)
  case atStart => exact ⟨0, Nat.zero_le _, rfl, ⟨fun j hj => by omega⟩, ⟨Below.refl _ _⟩⟩
  case round =>
    obtain ⟨k, hk, rfl, HK, HB⟩ := hrel
    by_cases hlt : k < l.length
    · obtain ⟨ad, rfl, g0, g1, g2⟩ := HR.out.at_ hlt
      replace g0 := (HB.out.cell (World.block_lt_of_cell? w _ g0)).trans g0
      replace g1 := (HB.out.cell (World.block_lt_of_cell? w _ g1)).trans g1
      replace g2 := (HB.out.cell (World.block_lt_of_cell? w _ g2)).trans g2
      have HE : Aside0 (el l k = el l k) := ⟨rfl⟩
      obtain ⟨e, he⟩ : ∃ e, el l k = e := ⟨_, rfl⟩
      rw [he] at g0 g1 g2 HE
      obtain ⟨q, hq⟩ : ∃ q, el l (k - 1) = q := ⟨_, rfl⟩
      have HOK : Aside0 (okR dense l k = (isE e && (decide (k = 0) || (decide (q.f0 < e.f0) && (!dense || decide (e.f0 = q.f0 + 1)))))) := ⟨by unfold okR; rw [he, hq]⟩
      have HQ : Aside0 (0 < k → isE q = true) := ⟨fun h => by
        have := HK.out (k - 1) (by omega)
        unfold okR at this
        rw [Bool.and_eq_true, hq] at this
        exact this.1⟩
      obtain ⟨b1, hb1⟩ : ∃ b, isE e = b := ⟨_, rfl⟩
      have HB1 := Aside0.mk hb1
      rw [hb1] at HOK
      have HG : Aside0 (0 < k → w.cell? (ad.add ((k - 1) * 3)) = some (.int .i64 q.f0)) := ⟨fun h => by
        obtain ⟨ad', e', x0, _, _⟩ := HR.out.at_ (i := k - 1) (by omega)
        cases e'
        rw [hq] at x0; exact x0⟩
      clear HE he hq hb1
      go_wp2
      obtain ⟨W0, hW0⟩ : ∃ W0, wr.alloc (.cells #[.int .i64 e.f0, .int .i64 e.f1, .string e.f2] 28) = W0 := ⟨_, rfl⟩
      have hb0 : Below wr.heap.size wr W0 := by rw [← hW0]; exact (Below.refl _ _).alloc (Nat.le_refl _) _
      have c0 : W0.cell? ⟨wr.heap.size, 0, none⟩ = some (.int .i64 e.f0) := by rw [← hW0]; simp
      have c1 : W0.cell? ⟨wr.heap.size, 1, none⟩ = some (.int .i64 e.f1) := by rw [← hW0]; simp
      have c2 : W0.cell? ⟨wr.heap.size, 2, none⟩ = some (.string e.f2) := by rw [← hW0]; simp
      rw [hW0]
      have HW := Aside0.mk (below_cls w _ _ HB.out hb0)
      refine wp_region_cls (Below W0.heap.size W0) (by kernel_rfl) (by kernel_rfl) (below_drew (Below.refl _ _)) ?_
      have inst : Nonempty (Cls (Below W0.heap.size W0)) := ⟨⟨W0, Below.refl _ _⟩⟩
      have d0 : ∀ p : Cls (Below W0.heap.size W0), p.w.cell? ⟨wr.heap.size, 0, none⟩ = some (.int .i64 e.f0) := fun p => (p.ok.cell (World.block_lt_of_cell? _ _ c0)).trans c0
      have d1 : ∀ p : Cls (Below W0.heap.size W0), p.w.cell? ⟨wr.heap.size, 1, none⟩ = some (.int .i64 e.f1) := fun p => (p.ok.cell (World.block_lt_of_cell? _ _ c1)).trans c1
      have d2 : ∀ p : Cls (Below W0.heap.size W0), p.w.cell? ⟨wr.heap.size, 2, none⟩ = some (.string e.f2) := fun p => (p.ok.cell (World.block_lt_of_cell? _ _ c2)).trans c2
      have D : Aside0 (0 < k → ∀ p : Cls (Below W0.heap.size W0), p.w.cell? (ad.add ((k - 1) * 3)) = some (.int .i64 q.f0)) := ⟨fun h p => by
        have x := HG.out h
        have x2 := (HW.out.cell (World.block_lt_of_cell? _ _ x)).trans x
        exact (p.ok.cell (World.block_lt_of_cell? _ _ x2)).trans x2⟩
      clear c0 c1 c2 hW0 hb0 g0 g1 g2
      cases b1 with
      | false =>
        repeat (go_big_quiet_step (first | (go_at_call 16; exact calls_cls (below_cls W0) (isE_calls e _ HB1.out))))
        refine wpQuiet_nil ?_
        rintro _ ⟨p, rfl⟩
        have hp := Aside0.mk (below_cls w _ _ HW.out p.ok)
        clear inst d0 d1 d2 D
        generalize p.w = W at hp ⊢
        clear p
        go_wp2
        go_ret
        exact ⟨ret_bool (ris_no hlt (by rw [HOK.out]; simp [*])).symm, hp.out⟩
      | true =>
        by_cases hk0 : k = 0
        · have z1 : decide ((0 : Int) < (k : Int)) = false := decide_eq_false (by omega)
          have z1n : decide (0 < k) = false := decide_eq_false (by omega)
          have z1m : (0 < k) = False := eq_false (by omega)
          have HK0 := Aside0.mk hk0
          clear hk0
          repeat (go_big_quiet_step (first | (go_at_call 16; exact calls_cls (below_cls W0) (isE_calls e _ HB1.out))))
          refine wpQuiet_nil ?_
          rintro _ ⟨p, rfl⟩
          have hp := Aside0.mk (below_cls w _ _ HW.out p.ok)
          clear inst d0 d1 d2 D
          generalize p.w = W at hp ⊢
          clear p
          go_wp2
          go_roundw
          case rel => exact ⟨k + 1, by omega, by go_num, ris_go HK.out (by rw [HOK.out]; rw [decide_eq_true HK0.out]; rfl), hp⟩
          case measure => simp [intOf]; omega
        · have hk1 : 0 < k := by omega
          have z1 : decide ((0 : Int) < (k : Int)) = true := decide_eq_true (by omega)
          have d3 := D.out hk1
          have hqb := isE_rng (HQ.out hk1)
          have z2 : ((k - 1 : Nat) : Int) < (l.length : Int) := by omega
          have z3 : (0 : Int) ≤ ((k - 1 : Nat) : Int) := by omega
          have Z4 : Aside0 (IntKind.i64.wrap ((k : Int) - 1) = ((k - 1 : Nat) : Int)) := ⟨by rw [IntKind.wrap_i64]; omega⟩
          have Z5 : Aside0 (wrap64 ((k : Int) - 1) = ((k - 1 : Nat) : Int)) := ⟨by unfold wrap64; omega⟩
          have Z6 : Aside0 (IntKind.i64.wrap (q.f0 + 1) = q.f0 + 1) := ⟨by rw [IntKind.wrap_i64]; omega⟩
          have Z7 : Aside0 (wrap64 (q.f0 + 1) = q.f0 + 1) := ⟨by unfold wrap64; omega⟩
          have Z8 : Aside0 ((k : Int) - 1 = ((k - 1 : Nat) : Int)) := ⟨by omega⟩
          by_cases h2 : e.f0 ≤ q.f0
          · have y1 : decide (e.f0 ≤ q.f0) = true := decide_eq_true h2
            have h3 : ¬ q.f0 < e.f0 := by omega
            have z8 := Z8.out
            have z4 := Z4.out
            have z5 := Z5.out
            repeat (go_big_quiet_step (first | (go_at_call 16; exact calls_cls (below_cls W0) (isE_calls e _ HB1.out))))
            clear z4 z5 z8
            refine wpQuiet_nil ?_
            rintro _ ⟨p, rfl⟩
            have hp := Aside0.mk (below_cls w _ _ HW.out p.ok)
            clear inst d0 d1 d2 D
            generalize p.w = W at hp ⊢
            clear p
            go_wp2
            go_ret
            exact ⟨ret_bool (ris_no hlt (by rw [HOK.out]; rw [decide_eq_false (show ¬ q.f0 < e.f0 by omega), decide_eq_false (show ¬ k = 0 by omega)]; rfl)).symm, hp.out⟩
          · have y1 : decide (e.f0 ≤ q.f0) = false := decide_eq_false h2
            have h3 : q.f0 < e.f0 := by omega
            cases dense with
            | false =>
              have z8 := Z8.out
              have z4 := Z4.out
              have z5 := Z5.out
              repeat (go_big_quiet_step (first | (go_at_call 16; exact calls_cls (below_cls W0) (isE_calls e _ HB1.out))))
              clear z4 z5 z8
              refine wpQuiet_nil ?_
              rintro _ ⟨p, rfl⟩
              have hp := Aside0.mk (below_cls w _ _ HW.out p.ok)
              clear inst d0 d1 d2 D
              generalize p.w = W at hp ⊢
              clear p
              go_wp2
              go_roundw
              case rel => exact ⟨k + 1, by omega, by go_num, ris_go HK.out (by rw [HOK.out]; simp [*]), hp⟩
              case measure => simp [intOf]; omega
            | true =>
              by_cases h4 : e.f0 = q.f0 + 1
              · have y2 : (e.f0 != q.f0 + 1) = false := bne_eq_false_iff_eq.2 h4
                have y3 : (e.f0 == q.f0 + 1) = true := beq_iff_eq.2 h4
                have H4 := Aside0.mk h4
                clear h4
                have z8 := Z8.out
                have z4 := Z4.out
                have z5 := Z5.out
                have z6 := Z6.out
                have z7 := Z7.out
                repeat (go_big_quiet_step (first | (go_at_call 16; exact calls_cls (below_cls W0) (isE_calls e _ HB1.out))))
                clear z4 z5 z6 z7 z8
                have h4 := H4.out
                clear H4
                refine wpQuiet_nil ?_
                rintro _ ⟨p, rfl⟩
                have hp := Aside0.mk (below_cls w _ _ HW.out p.ok)
                clear inst d0 d1 d2 D
                generalize p.w = W at hp ⊢
                clear p
                clear h4
                go_wp2
                have h4 : e.f0 = q.f0 + 1 := beq_iff_eq.1 y3
                go_roundw
                case rel => exact ⟨k + 1, by omega, by go_num, ris_go HK.out (by rw [HOK.out]; rw [decide_eq_true h3, decide_eq_true h4]; simp), hp⟩
                case measure => simp [intOf]; omega
              · have y2 : (e.f0 != q.f0 + 1) = true := bne_iff_ne.2 h4
                have y3 : (e.f0 == q.f0 + 1) = false := beq_eq_false_iff_ne.2 h4
                have z8 := Z8.out
                have z4 := Z4.out
                have z5 := Z5.out
                have z6 := Z6.out
                have z7 := Z7.out
                repeat (go_big_quiet_step (first | (go_at_call 16; exact calls_cls (below_cls W0) (isE_calls e _ HB1.out))))
                clear z4 z5 z6 z7 z8
                refine wpQuiet_nil ?_
                rintro _ ⟨p, rfl⟩
                have hp := Aside0.mk (below_cls w _ _ HW.out p.ok)
                clear inst d0 d1 d2 D
                generalize p.w = W at hp ⊢
                clear p
                go_wp2
                go_ret
                exact ⟨ret_bool (ris_no hlt (by rw [HOK.out]; simp [*])).symm, hp.out⟩
    · obtain rfl : k = l.length := by omega
      go_wp2
      go_ret
      exact ⟨ret_bool (ris_end HK.out _ (by rw [decide_eq_true_eq]; omega)), HB.out⟩
set_option maxHeartbeats 4000000 in
set_option maxRecDepth 100000 in
theorem ref_entries (l : List Ent) (A : Option Addr) (c : Nat) (dense : Bool) (w : World) (h : Rd w A c l) :
    Calls Try.prog 27 #[.slice A l.length c, .bool dense] w fun e w' => e = .returned (.bool (risB dense l)) ∧ Below w.heap.size w w' := by
  have HR := Aside0.mk h
  have hbd := h.bd
  clear h
  go_enter Try.func27, Try.ntmps27
  go_wp2
  go_loopw [5] (fun i wr => ∃ k : Nat, k ≤ l.length ∧ i = .int .i64 k ∧ Aside0 (∀ j, j < k → okR dense l j = true) ∧ Aside0 (Below w.heap.size w wr)) (fun i _ => l.length - (intOf i).toNat)
  case atStart => exact ⟨0, Nat.zero_le _, rfl, ⟨fun j hj => by omega⟩, ⟨Below.refl _ _⟩⟩
  case round =>
    obtain ⟨k, hk, rfl, HK, HB⟩ := hrel
    by_cases hlt : k < l.length
    · obtain ⟨ad, rfl, g0, g1, g2⟩ := HR.out.at_ hlt
      replace g0 := (HB.out.cell (World.block_lt_of_cell? w _ g0)).trans g0
      replace g1 := (HB.out.cell (World.block_lt_of_cell? w _ g1)).trans g1
      replace g2 := (HB.out.cell (World.block_lt_of_cell? w _ g2)).trans g2
      have HE : Aside0 (el l k = el l k) := ⟨rfl⟩
      obtain ⟨e, he⟩ : ∃ e, el l k = e := ⟨_, rfl⟩
      rw [he] at g0 g1 g2 HE
      obtain ⟨q, hq⟩ : ∃ q, el l (k - 1) = q := ⟨_, rfl⟩
      have HOK : Aside0 (okR dense l k = (isE e && (decide (k = 0) || (decide (q.f0 < e.f0) && (!dense || decide (e.f0 = q.f0 + 1)))))) := ⟨by unfold okR; rw [he, hq]⟩
      have HQ : Aside0 (0 < k → isE q = true) := ⟨fun h => by
        have := HK.out (k - 1) (by omega)
        unfold okR at this
        rw [Bool.and_eq_true, hq] at this
        exact this.1⟩
      obtain ⟨b1, hb1⟩ : ∃ b, isE e = b := ⟨_, rfl⟩
      have HB1 := Aside0.mk hb1
      rw [hb1] at HOK
      have HG : Aside0 (0 < k → w.cell? (ad.add ((k - 1) * 3)) = some (.int .i64 q.f0)) := ⟨fun h => by
        obtain ⟨ad', e', x0, _, _⟩ := HR.out.at_ (i := k - 1) (by omega)
        cases e'
        rw [hq] at x0; exact x0⟩
      clear HE he hq hb1
      go_wp2
      have HW := Aside0.mk HB.out
      refine wp_region_cls (Below wr.heap.size wr) (by kernel_rfl) (by kernel_rfl) (below_drew (Below.refl _ _)) ?_
      try dsimp only [List.append]
      have inst : Nonempty (Cls (Below wr.heap.size wr)) := ⟨⟨wr, Below.refl _ _⟩⟩
      have d0 : ∀ p : Cls (Below wr.heap.size wr), p.w.cell? (ad.add (k * 3)) = some (.int .i64 e.f0) := fun p => (p.ok.cell (World.block_lt_of_cell? _ _ g0)).trans g0
      have d1 : ∀ p : Cls (Below wr.heap.size wr), p.w.cell? ⟨(ad.add (k * 3)).block, (ad.add (k * 3)).off + 1, none⟩ = some (.int .i64 e.f1) := fun p => (p.ok.cell (World.block_lt_of_cell? _ _ g1)).trans g1
      have d2 : ∀ p : Cls (Below wr.heap.size wr), p.w.cell? ⟨(ad.add (k * 3)).block, (ad.add (k * 3)).off + 2, none⟩ = some (.string e.f2) := fun p => (p.ok.cell (World.block_lt_of_cell? _ _ g2)).trans g2
      have D : Aside0 (0 < k → ∀ p : Cls (Below wr.heap.size wr), p.w.cell? (ad.add ((k - 1) * 3)) = some (.int .i64 q.f0)) := ⟨fun h p => by
        have x := HG.out h
        have x2 := (HW.out.cell (World.block_lt_of_cell? _ _ x)).trans x
        exact (p.ok.cell (World.block_lt_of_cell? _ _ x2)).trans x2⟩
      clear g0 g1 g2
      cases b1 with
      | false =>
        repeat (go_big_quiet_step (first | (go_at_call 17; exact calls_cls (below_cls wr) (isE4_calls e _ HB1.out))))
        refine wpQuiet_nil ?_
        rintro _ ⟨p, rfl⟩
        have hp := Aside0.mk (below_cls w _ _ HW.out p.ok)
        clear inst d0 d1 d2 D
        generalize p.w = W at hp ⊢
        clear p
        go_wp2
        go_ret
        exact ⟨ret_bool (ris_no hlt (by rw [HOK.out]; simp [*])).symm, hp.out⟩
      | true =>
        by_cases hk0 : k = 0
        · have z1 : decide ((0 : Int) < (k : Int)) = false := decide_eq_false (by omega)
          have z1n : decide (0 < k) = false := decide_eq_false (by omega)
          have z1m : (0 < k) = False := eq_false (by omega)
          have HK0 := Aside0.mk hk0
          clear hk0
          repeat (go_big_quiet_step (first | (go_at_call 17; exact calls_cls (below_cls wr) (isE4_calls e _ HB1.out))))
          refine wpQuiet_nil ?_
          rintro _ ⟨p, rfl⟩
          have hp := Aside0.mk (below_cls w _ _ HW.out p.ok)
          clear inst d0 d1 d2 D
          generalize p.w = W at hp ⊢
          clear p
          go_wp2
          go_roundw
          case rel => exact ⟨k + 1, by omega, by go_num, ris_go HK.out (by rw [HOK.out]; rw [decide_eq_true HK0.out]; rfl), hp⟩
          case measure => simp [intOf]; omega
        · have hk1 : 0 < k := by omega
          have z1 : decide ((0 : Int) < (k : Int)) = true := decide_eq_true (by omega)
          have d3 := D.out hk1
          have hqb := isE_rng (HQ.out hk1)
          have z2 : ((k - 1 : Nat) : Int) < (l.length : Int) := by omega
          have z3 : (0 : Int) ≤ ((k - 1 : Nat) : Int) := by omega
          have Z4 : Aside0 (IntKind.i64.wrap ((k : Int) - 1) = ((k - 1 : Nat) : Int)) := ⟨by rw [IntKind.wrap_i64]; omega⟩
          have Z5 : Aside0 (wrap64 ((k : Int) - 1) = ((k - 1 : Nat) : Int)) := ⟨by unfold wrap64; omega⟩
          have Z6 : Aside0 (IntKind.i64.wrap (q.f0 + 1) = q.f0 + 1) := ⟨by rw [IntKind.wrap_i64]; omega⟩
          have Z7 : Aside0 (wrap64 (q.f0 + 1) = q.f0 + 1) := ⟨by unfold wrap64; omega⟩
          have Z8 : Aside0 ((k : Int) - 1 = ((k - 1 : Nat) : Int)) := ⟨by omega⟩
          by_cases h2 : e.f0 ≤ q.f0
          · have y1 : decide (e.f0 ≤ q.f0) = true := decide_eq_true h2
            have h3 : ¬ q.f0 < e.f0 := by omega
            have z8 := Z8.out
            have z4 := Z4.out
            have z5 := Z5.out
            repeat (go_big_quiet_step (first | (go_at_call 17; exact calls_cls (below_cls wr) (isE4_calls e _ HB1.out))))
            clear z4 z5 z8
            refine wpQuiet_nil ?_
            rintro _ ⟨p, rfl⟩
            have hp := Aside0.mk (below_cls w _ _ HW.out p.ok)
            clear inst d0 d1 d2 D
            generalize p.w = W at hp ⊢
            clear p
            go_wp2
            go_ret
            exact ⟨ret_bool (ris_no hlt (by rw [HOK.out]; rw [decide_eq_false (show ¬ q.f0 < e.f0 by omega), decide_eq_false (show ¬ k = 0 by omega)]; rfl)).symm, hp.out⟩
          · have y1 : decide (e.f0 ≤ q.f0) = false := decide_eq_false h2
            have h3 : q.f0 < e.f0 := by omega
            cases dense with
            | false =>
              have z8 := Z8.out
              have z4 := Z4.out
              have z5 := Z5.out
              repeat (go_big_quiet_step (first | (go_at_call 17; exact calls_cls (below_cls wr) (isE4_calls e _ HB1.out))))
              clear z4 z5 z8
              refine wpQuiet_nil ?_
              rintro _ ⟨p, rfl⟩
              have hp := Aside0.mk (below_cls w _ _ HW.out p.ok)
              clear inst d0 d1 d2 D
              generalize p.w = W at hp ⊢
              clear p
              go_wp2
              go_roundw
              case rel => exact ⟨k + 1, by omega, by go_num, ris_go HK.out (by rw [HOK.out]; simp [*]), hp⟩
              case measure => simp [intOf]; omega
            | true =>
              by_cases h4 : e.f0 = q.f0 + 1
              · have y2 : (e.f0 != q.f0 + 1) = false := bne_eq_false_iff_eq.2 h4
                have y3 : (e.f0 == q.f0 + 1) = true := beq_iff_eq.2 h4
                have H4 := Aside0.mk h4
                clear h4
                have z8 := Z8.out
                have z4 := Z4.out
                have z5 := Z5.out
                have z6 := Z6.out
                have z7 := Z7.out
                repeat (go_big_quiet_step (first | (go_at_call 17; exact calls_cls (below_cls wr) (isE4_calls e _ HB1.out))))
                clear z4 z5 z6 z7 z8
                have h4 := H4.out
                clear H4
                refine wpQuiet_nil ?_
                rintro _ ⟨p, rfl⟩
                have hp := Aside0.mk (below_cls w _ _ HW.out p.ok)
                clear inst d0 d1 d2 D
                generalize p.w = W at hp ⊢
                clear p
                clear h4
                go_wp2
                have h4 : e.f0 = q.f0 + 1 := beq_iff_eq.1 y3
                go_roundw
                case rel => exact ⟨k + 1, by omega, by go_num, ris_go HK.out (by rw [HOK.out]; rw [decide_eq_true h3, decide_eq_true h4]; simp), hp⟩
                case measure => simp [intOf]; omega
              · have y2 : (e.f0 != q.f0 + 1) = true := bne_iff_ne.2 h4
                have y3 : (e.f0 == q.f0 + 1) = false := beq_eq_false_iff_ne.2 h4
                have z8 := Z8.out
                have z4 := Z4.out
                have z5 := Z5.out
                have z6 := Z6.out
                have z7 := Z7.out
                repeat (go_big_quiet_step (first | (go_at_call 17; exact calls_cls (below_cls wr) (isE4_calls e _ HB1.out))))
                clear z4 z5 z6 z7 z8
                refine wpQuiet_nil ?_
                rintro _ ⟨p, rfl⟩
                have hp := Aside0.mk (below_cls w _ _ HW.out p.ok)
                clear inst d0 d1 d2 D
                generalize p.w = W at hp ⊢
                clear p
                go_wp2
                go_ret
                exact ⟨ret_bool (ris_no hlt (by rw [HOK.out]; simp [*])).symm, hp.out⟩
    · obtain rfl : k = l.length := by omega
      go_wp2
      go_ret
      exact ⟨ret_bool (ris_end HK.out _ (by rw [decide_eq_true_eq]; omega)), HB.out⟩
end Go.Proofs.Ytokjhocjemjfiaa.PartW
namespace Go.Proofs.Ytokjhocjemjfiaa.PartW
open Go Go.RowKit Go.Proofs.Ytokjhocjemjfiaa.A Go.Proofs.Ytokjhocjemjfiaa.Sp Go.Proofs.Ytokjhocjemjfiaa.Reg Go.Proofs.YtokjhocjemjfiaaW.PrintWords Go.Proofs.YtokjhocjemjfiaaW.PrintLast Go.Proofs.YtokjhocjemjfiaaW.PrintMore
theorem bcell {W w1 : World} (hb : Below W.heap.size W w1) : (∀ b o, b < W.heap.size → w1.cell? ⟨b, o, none⟩ = W.cell? ⟨b, o, none⟩) ∧ (∀ b o, b < W.heap.size → w1.frozen? ⟨b, o, none⟩ = W.frozen? ⟨b, o, none⟩) :=
  ⟨fun b o h => hb.cell (p := ⟨b, o, none⟩) h, fun b o h => hb.frozen (p := ⟨b, o, none⟩) h⟩
theorem core_rd {a : Prt} {w : World} {A : Option Addr} {c : Nat} (h : Rd w A c a.l) : Rd w (coreA a A) (coreC a c) (coreP a).l := by
  unfold coreA coreC coreP
  cases hasL a with
  | true => exact h
  | false => exact Rd.nil w
theorem sameL_self (l : List Ent) : sameL l l = true := sameL_iff.2 rfl
theorem sameL_nil (l : List Ent) : sameL l [] = decide (l.length = 0) := by
  apply Bool.eq_iff_iff.2
  rw [sameL_iff, decide_eq_true_eq, List.length_eq_zero_iff]
theorem core_same (a : Prt) : sameP a (coreP a) = ((hasL a || noL a) && ((hasH a || noH a) && ((hasM a || noM a) && (decide (a.k = 6) || (!a.mrk && !a.hed))))) := by
  unfold sameP coreP
  dsimp only
  cases hasL a <;> cases hasH a <;> cases hasM a <;> cases h6 : decide (a.k = 6) <;> cases hm : a.mrk <;> cases hh : a.hed <;>
    simp [sameL_self, sameL_nil, noL, noH, noM]
  all_goals try (by_cases q1 : a.l = [] <;> simp [q1])
  all_goals try (by_cases q2 : a.ht = 0 <;> simp [q2])
  all_goals try (by_cases q3 : a.hv = 0 <;> simp [q3])
  all_goals try (by_cases q4 : a.hc = 0 <;> simp [q4])
/-- what a part's kind asks -/
def swP (a : Prt) : Bool :=
  if a.k = 1 then decide (0 < a.l.length) && risB true a.l
  else if a.k = 2 then isH a.ht a.hv a.hc
  else if a.k = 3 then isM a.ix a.tm 0
  else if a.k = 4 then isM a.ix a.tm 1
  else if a.k = 6 then (a.mrk || (a.hed || decide (0 < a.l.length))) && (risB false a.l && ((!a.mrk || isM a.ix a.tm 1) && isH a.ht a.hv a.hc))
  else decide (a.k = 5)
theorem pos_no (a : Prt) : decide (0 < a.l.length) = !noL a := by
  unfold noL
  by_cases h : a.l.length = 0
  · rw [decide_eq_true h, decide_eq_false (by omega)]; rfl
  · rw [decide_eq_false h, decide_eq_true (by omega)]; rfl
theorem noH_isH {a : Prt} (h : noH a = true) : isH a.ht a.hv a.hc = true := by
  unfold noH at h; rw [decide_eq_true_eq] at h
  unfold isH; rw [decide_eq_true_eq]; omega
theorem isP_sw (a : Prt) : isP a = (decide (0 ≤ a.g ∧ a.g ≤ 999) && (sameP a (coreP a) && swP a)) := by
  unfold isP
  congr 1
  rw [core_same]
  unfold swP hasL hasH hasM
  rw [pos_no]
  by_cases h1 : a.k = 1
  · simp only [h1, if_true]; cases noL a <;> cases noH a <;> cases noM a <;> cases a.mrk <;> cases a.hed <;> cases risB true a.l <;> rfl
  by_cases h2 : a.k = 2
  · rw [if_neg h1, if_pos h2, if_neg h1, if_pos h2]; simp only [h2]; cases noL a <;> cases noH a <;> cases noM a <;> cases a.mrk <;> cases a.hed <;> cases isH a.ht a.hv a.hc <;> rfl
  by_cases h3 : a.k = 3
  · rw [if_neg h1, if_neg h2, if_pos h3, if_neg h1, if_neg h2, if_pos h3]; simp only [h3]; cases noL a <;> cases noH a <;> cases noM a <;> cases a.mrk <;> cases a.hed <;> cases isM a.ix a.tm 0 <;> rfl
  by_cases h4 : a.k = 4
  · rw [if_neg h1, if_neg h2, if_neg h3, if_pos h4, if_neg h1, if_neg h2, if_neg h3, if_pos h4]; simp only [h4]; cases noL a <;> cases noH a <;> cases noM a <;> cases a.mrk <;> cases a.hed <;> cases isM a.ix a.tm 1 <;> rfl
  by_cases h6 : a.k = 6
  · rw [if_neg h1, if_neg h2, if_neg h3, if_neg h4, if_neg (by omega), if_pos h6, if_neg h1, if_neg h2, if_neg h3, if_neg h4, if_pos h6]
    simp only [h6]
    have hn := @noH_isH a
    revert hn
    cases noL a <;> cases noH a <;> cases noM a <;> cases a.mrk <;> cases a.hed <;> cases isM a.ix a.tm 1 <;> cases isH a.ht a.hv a.hc <;> cases risB false a.l <;> intro hn <;> first | rfl | exact absurd (hn rfl) (by decide)
  by_cases h5 : a.k = 5
  · rw [if_neg h1, if_neg h2, if_neg h3, if_neg h4, if_pos h5, if_neg h1, if_neg h2, if_neg h3, if_neg h4, if_neg h6]; simp only [h5]; cases noL a <;> cases noH a <;> cases noM a <;> cases a.mrk <;> cases a.hed <;> rfl
  rw [if_neg h1, if_neg h2, if_neg h3, if_neg h4, if_neg h5, if_neg h6, if_neg h1, if_neg h2, if_neg h3, if_neg h4, if_neg h6, decide_eq_false h5]
  simp
theorem between_calls (x lo hi : Int) (w : World) {b : Bool} (h : decide (lo ≤ x ∧ x ≤ hi) = b) : Calls Try.prog 34 #[.int .i64 x, .int .i64 lo, .int .i64 hi] w fun e w' => e = .returned (.bool b) ∧ Drawn0 w w' :=
  part_between.calls x lo hi b w (by rw [between_q, h])
theorem isH_calls (t v c : Int) (w : World) : Calls Try.prog 37 #[.agg #[.int .i64 t, .int .i64 v, .int .i64 c]] w fun e w' => e = .returned (.bool (isH t v c)) ∧ Below w.heap.size w w' :=
  part_IsHard.calls t v c _ w (isH_q t v c)
theorem part_Same' (a b : Prt) (A : Option Addr) (c : Nat) (A' : Option Addr) (c' : Nat) (w : World) (ha : Rd w A c a.l) (hb : Rd w A' c' b.l) {r : Bool} (h : sameP a b = r) :
    Calls Try.prog 18 #[vP a A c, vP b A' c'] w fun e w' => e = .returned (.bool r) ∧ Below w.heap.size w w' := by
  rw [← h]; exact part_Same a b A c A' c' w ha hb
theorem isM_calls (i t l : Int) (w : World) : Calls Try.prog 38 #[.int .i64 i, .int .i64 t, .int .i64 l] w fun e w' => e = .returned (.bool (isM i t l)) ∧ Drawn0 w w' :=
  part_isMark.calls i t l _ w (isM_q i t l)
/-- the cells of a part in its box -/
def BoxP (a : Prt) (A : Option Addr) (c : Nat) (B : Nat) (W : World) : Prop := W.cell? ⟨B, 0, none⟩ = some (.int .i64 a.g) ∧ W.cell? ⟨B, 1, none⟩ = some (.int .i64 a.k) ∧ W.cell? ⟨B, 2, none⟩ = some (.slice A a.l.length c) ∧ W.cell? ⟨B, 3, none⟩ = some (.int .i64 a.ht) ∧ W.cell? ⟨B, 4, none⟩ = some (.int .i64 a.hv) ∧ W.cell? ⟨B, 5, none⟩ = some (.int .i64 a.hc) ∧ W.cell? ⟨B, 6, none⟩ = some (.int .i64 a.ix) ∧ W.cell? ⟨B, 7, none⟩ = some (.int .i64 a.tm) ∧ W.cell? ⟨B, 8, none⟩ = some (.bool a.mrk) ∧ W.cell? ⟨B, 9, none⟩ = some (.bool a.hed)
theorem BoxP.below {a : Prt} {A : Option Addr} {c B : Nat} {W W' : World} (h : BoxP a A c B W) (hb : Below W.heap.size W W') : BoxP a A c B W' := by
  obtain ⟨h0, h1, h2, h3, h4, h5, h6, h7, h8, h9⟩ := h
  have g : ∀ {o : Nat} {v : Value}, W.cell? ⟨B, o, none⟩ = some v → W'.cell? ⟨B, o, none⟩ = some v := fun h => (hb.cell (World.block_lt_of_cell? _ _ h)).trans h
  exact ⟨g h0, g h1, g h2, g h3, g h4, g h5, g h6, g h7, g h8, g h9⟩
theorem BoxP.new (a : Prt) (A : Option Addr) (c : Nat) (w : World) : BoxP a A c w.heap.size (w.alloc (.cells #[.int .i64 a.g, .int .i64 a.k, .slice A a.l.length c, .int .i64 a.ht, .int .i64 a.hv, .int .i64 a.hc, .int .i64 a.ix, .int .i64 a.tm, .bool a.mrk, .bool a.hed] 26)) := by
  refine ⟨?_, ?_, ?_, ?_, ?_, ?_, ?_, ?_, ?_, ?_⟩ <;> simp
set_option maxHeartbeats 4000000 in
set_option maxRecDepth 100000 in
theorem part_Is (a : Prt) (A : Option Addr) (c : Nat) (w : World) (h : Rd w A c a.l) :
    Calls Try.prog 15 #[vP a A c] w fun e w' => e = .returned (.bool (isP a)) ∧ Below w.heap.size w w' := by
  have HS := Aside0.mk (isP_sw a)
  have HR := Aside0.mk h
  obtain ⟨b0, hb0⟩ : ∃ b, decide (0 ≤ a.g ∧ a.g ≤ 999) = b := ⟨_, rfl⟩
  obtain ⟨b1, hb1⟩ : ∃ b, sameP a (coreP a) = b := ⟨_, rfl⟩
  rw [hb0, hb1] at HS
  have HB0 := Aside0.mk hb0
  have HB1 := Aside0.mk hb1
  clear h hb0 hb1
  unfold vP
  go_enter Try.func15, Try.ntmps15
  go_wp2
  have hbox := BoxP.new a A c w
  have hbel : Below w.heap.size w (w.alloc (.cells #[.int .i64 a.g, .int .i64 a.k, .slice A a.l.length c, .int .i64 a.ht, .int .i64 a.hv, .int .i64 a.hc, .int .i64 a.ix, .int .i64 a.tm, .bool a.mrk, .bool a.hed] 26)) := (Below.refl _ _).alloc (Nat.le_refl _) _
  generalize w.alloc (.cells #[.int .i64 a.g, .int .i64 a.k, .slice A a.l.length c, .int .i64 a.ht, .int .i64 a.hv, .int .i64 a.hc, .int .i64 a.ix, .int .i64 a.tm, .bool a.mrk, .bool a.hed] 26) = W0 at hbox hbel ⊢
  have HW := Aside0.mk hbel
  have HBX := Aside0.mk hbox
  refine wp_region_cls (Below W0.heap.size W0) (by kernel_rfl) (by kernel_rfl) (below_drew (Below.refl _ _)) ?_
  have inst : Nonempty (Cls (Below W0.heap.size W0)) := ⟨⟨W0, Below.refl _ _⟩⟩
  have d : ∀ p : Cls (Below W0.heap.size W0), BoxP a A c w.heap.size p.w := fun p => hbox.below p.ok
  clear hbox hbel
  have d0 := fun p => (d p).1
  have d1 := fun p => (d p).2.1
  have d2 := fun p => (d p).2.2.1
  have d3 := fun p => (d p).2.2.2.1
  have d4 := fun p => (d p).2.2.2.2.1
  have d5 := fun p => (d p).2.2.2.2.2.1
  have d6 := fun p => (d p).2.2.2.2.2.2.1
  have d7 := fun p => (d p).2.2.2.2.2.2.2.1
  have d8 := fun p => (d p).2.2.2.2.2.2.2.2.1
  have d9 := fun p => (d p).2.2.2.2.2.2.2.2.2
  clear d
  cases b0 with
  | false =>
    repeat (go_big_quiet_step (first | (go_at_call 34; exact calls_cls_drawn (below_cls W0) (between_calls _ _ _ _ HB0.out)) | (go_at_call 35; exact calls_cls (below_cls W0) (part_core a A c _)) | (go_at_call 18; exact calls_cls (below_cls W0) (part_Same' a (coreP a) _ _ _ _ _ ((HR.out.below HW.out).below (Cls.ok _)) (core_rd ((HR.out.below HW.out).below (Cls.ok _))) HB1.out))))
    refine wpQuiet_nil ?_
    rintro _ ⟨p, rfl⟩
    have HB := Aside0.mk (below_cls w _ _ HW.out p.ok)
    have hbw := HBX.out.below p.ok
    clear inst d0 d1 d2 d3 d4 d5 d6 d7 d8 d9
    generalize p.w = W at HB hbw ⊢
    clear p
    clear hbw
    go_wp2
    go_ret
    exact ⟨ret_bool (by rw [HS.out]; simp), HB.out⟩
  | true =>
    cases b1 with
    | false =>
      repeat (go_big_quiet_step (first | (go_at_call 34; exact calls_cls_drawn (below_cls W0) (between_calls _ _ _ _ HB0.out)) | (go_at_call 35; exact calls_cls (below_cls W0) (part_core a A c _)) | (go_at_call 18; exact calls_cls (below_cls W0) (part_Same' a (coreP a) _ _ _ _ _ ((HR.out.below HW.out).below (Cls.ok _)) (core_rd ((HR.out.below HW.out).below (Cls.ok _))) HB1.out))))
      refine wpQuiet_nil ?_
      rintro _ ⟨p, rfl⟩
      have HB := Aside0.mk (below_cls w _ _ HW.out p.ok)
      have hbw := HBX.out.below p.ok
      clear inst d0 d1 d2 d3 d4 d5 d6 d7 d8 d9
      generalize p.w = W at HB hbw ⊢
      clear p
      clear hbw
      go_wp2
      go_ret
      exact ⟨ret_bool (by rw [HS.out]; simp), HB.out⟩
    | true =>
      repeat (go_big_quiet_step (first | (go_at_call 34; exact calls_cls_drawn (below_cls W0) (between_calls _ _ _ _ HB0.out)) | (go_at_call 35; exact calls_cls (below_cls W0) (part_core a A c _)) | (go_at_call 18; exact calls_cls (below_cls W0) (part_Same' a (coreP a) _ _ _ _ _ ((HR.out.below HW.out).below (Cls.ok _)) (core_rd ((HR.out.below HW.out).below (Cls.ok _))) HB1.out))))
      refine wpQuiet_nil ?_
      rintro _ ⟨p, rfl⟩
      have HB := Aside0.mk (below_cls w _ _ HW.out p.ok)
      have hbw := HBX.out.below p.ok
      clear inst d0 d1 d2 d3 d4 d5 d6 d7 d8 d9
      generalize p.w = W at HB hbw ⊢
      clear p
      obtain ⟨e0, e1, e2, e3, e4, e5, e6, e7, e8, e9⟩ := id hbw
      have HBW := Aside0.mk hbw
      clear hbw
      go_wp2_with (first
        | (go_at_call 36; refine (part_rising a.l A c _ _ (HR.out.below HB.out)).mono ?_; rintro e w1 ⟨rfl, hbn⟩; have hbx1 := HBW.out.below hbn; clear e0 e1 e2 e3 e4 e5 e6 e7 e8 e9; obtain ⟨e0, e1, e2, e3, e4, e5, e6, e7, e8, e9⟩ := hbx1; have n0 := Aside0.mk (below_cls w _ _ (by repeat (first | exact HB.out | apply pw_below_drewN | apply below_drew1)) hbn); clear HB; have HB := n0; clear n0)
        | (go_at_call 37; refine (isH_calls a.ht a.hv a.hc _).mono ?_; rintro e w2 ⟨rfl, hbn⟩; have n0 := Aside0.mk (below_cls w _ _ (by repeat (first | exact HB.out | apply pw_below_drewN | apply below_drew1)) hbn); clear HB; have HB := n0; clear n0)
        | (go_at_call 38; refine (isM_calls _ _ _ _).mono ?_; rintro e w3 ⟨rfl, ⟨n, rfl⟩⟩))
      all_goals
       (go_ret
        exact ⟨ret_bool (by rw [HS.out]; unfold swP; simp only [beq_iff_eq, beq_eq_false_iff_ne, ne_eq] at *; simp [*] <;> rfl), by repeat (first | exact HB.out | apply pw_below_drewN | apply below_drew1)⟩)
end Go.Proofs.Ytokjhocjemjfiaa.PartW
namespace Go.Proofs.Ytokjhocjemjfiaa.PartW
open Go Go.RowKit Go.Proofs.Ytokjhocjemjfiaa.A Go.Proofs.Ytokjhocjemjfiaa.Sp Go.Proofs.Ytokjhocjemjfiaa.Reg Go.Proofs.YtokjhocjemjfiaaW.PrintWords Go.Proofs.YtokjhocjemjfiaaW.PrintLast Go.Proofs.YtokjhocjemjfiaaW.PrintMore
attribute [local go_sem high] eqA24
theorem within_calls (x lo hi : Int) (w : World) : Calls Try.prog 26 #[.int .i64 x, .int .i64 lo, .int .i64 hi] w fun e w' => e = .returned (.bool (decide (lo ≤ x ∧ x ≤ hi))) ∧ Drawn0 w w' :=
  laderef4_within.calls x lo hi _ w (within_q x lo hi)
theorem isH4_calls (t v c : Int) (w : World) : Calls Try.prog 28 #[.agg #[.int .i64 t, .int .i64 v, .int .i64 c]] w fun e w' => e = .returned (.bool (isH t v c)) ∧ Below w.heap.size w w' :=
  laderef4_IsHard.calls t v c _ w (isH_q4 t v c)
theorem mark_calls (g k : Int) (l : List Ent) (ht hv hc ix tm : Int) (mrk hed : Bool) (A : Option Addr) (c : Nat) (w : World) (h : Rd w A c l) :
    Calls Try.prog 29 #[.agg #[.int .i64 g, .int .i64 k, .slice A l.length c, .int .i64 ht, .int .i64 hv, .int .i64 hc, .int .i64 ix, .int .i64 tm, .bool mrk, .bool hed]] w fun e w' => e = .returned (.bool (isM ix tm 1)) ∧ Below w.heap.size w w' :=
  laderef4_mark.calls g k A c l ht hv hc ix tm mrk hed _ w h.rd h.le (by
    unfold laderef4_mark.f isM
    rw [within_q, bs, within_q, bs]
    by_cases h1 : 1 ≤ ix ∧ ix ≤ 1099511627776
    · rw [decide_eq_true h1, it]; congr 1; exact decide_eq_decide.2 (by omega)
    · rw [decide_eq_false h1, iff_, decide_eq_false (by omega)])
def isPR (a : Prt) (nl nh nm : Bool) : Bool :=
  if a.k = 1 then nh && (nm && (!nl && risB true a.l))
  else if a.k = 2 then nl && (nm && isH a.ht a.hv a.hc)
  else if a.k = 3 then nl && (nh && (decide (1 ≤ a.ix ∧ a.ix ≤ 1099511627776) && decide (0 ≤ a.tm ∧ a.tm ≤ 1099511627776)))
  else if a.k = 4 then nl && (nh && isM a.ix a.tm 1)
  else if a.k = 5 then nl && (nh && nm)
  else if a.k = 6 then risB false a.l && ((a.mrk || (a.hed || !nl)) && ((a.mrk && isM a.ix a.tm 1 || !a.mrk && nm) && (a.hed && isH a.ht a.hv a.hc || !a.hed && nh)))
  else false
theorem isM_0 (i t : Int) : isM i t 0 = (decide (1 ≤ i ∧ i ≤ 1099511627776) && decide (0 ≤ t ∧ t ≤ 1099511627776)) := by
  unfold isM
  apply Bool.eq_iff_iff.2
  simp only [Bool.and_eq_true, decide_eq_true_eq]
  omega
theorem isP_ref (a : Prt) : isP a = (decide (0 ≤ a.g ∧ a.g ≤ 999) && ((decide (a.k = 6) || (!a.mrk && !a.hed)) && isPR a (noL a) (noH a) (noM a))) := by
  unfold isP isPR
  congr 1
  rw [← isM_0]
  by_cases h1 : a.k = 1
  · simp only [h1, if_true]; cases noL a <;> cases noH a <;> cases noM a <;> cases a.mrk <;> cases a.hed <;> cases risB true a.l <;> rfl
  by_cases h2 : a.k = 2
  · rw [if_neg h1, if_pos h2, if_neg h1, if_pos h2]; simp only [h2]; cases noL a <;> cases noH a <;> cases noM a <;> cases a.mrk <;> cases a.hed <;> cases isH a.ht a.hv a.hc <;> rfl
  by_cases h3 : a.k = 3
  · rw [if_neg h1, if_neg h2, if_pos h3, if_neg h1, if_neg h2, if_pos h3]; simp only [h3]; cases noL a <;> cases noH a <;> cases noM a <;> cases a.mrk <;> cases a.hed <;> cases isM a.ix a.tm 0 <;> rfl
  by_cases h4 : a.k = 4
  · rw [if_neg h1, if_neg h2, if_neg h3, if_pos h4, if_neg h1, if_neg h2, if_neg h3, if_pos h4]; simp only [h4]; cases noL a <;> cases noH a <;> cases noM a <;> cases a.mrk <;> cases a.hed <;> cases isM a.ix a.tm 1 <;> rfl
  by_cases h5 : a.k = 5
  · rw [if_neg h1, if_neg h2, if_neg h3, if_neg h4, if_pos h5, if_neg h1, if_neg h2, if_neg h3, if_neg h4, if_pos h5]; simp only [h5]; cases noL a <;> cases noH a <;> cases noM a <;> cases a.mrk <;> cases a.hed <;> rfl
  by_cases h6 : a.k = 6
  · rw [if_neg h1, if_neg h2, if_neg h3, if_neg h4, if_neg h5, if_pos h6, if_neg h1, if_neg h2, if_neg h3, if_neg h4, if_neg h5, if_pos h6]
    simp only [h6]
    cases noL a <;> cases noH a <;> cases noM a <;> cases a.mrk <;> cases a.hed <;> cases isM a.ix a.tm 1 <;> cases isH a.ht a.hv a.hc <;> cases risB false a.l <;> rfl
  rw [if_neg h1, if_neg h2, if_neg h3, if_neg h4, if_neg h5, if_neg h6, if_neg h1, if_neg h2, if_neg h3, if_neg h4, if_neg h5, if_neg h6, Bool.and_false]
theorem noL_b (a : Prt) : ((a.l.length : Int) == 0) = noL a := by
  unfold noL; apply Bool.eq_iff_iff.2; rw [beq_iff_eq, decide_eq_true_eq]; omega
theorem noH_b (a : Prt) : (a.ht == 0 && (a.hv == 0 && (a.hc == 0))) = noH a := by
  unfold noH; apply Bool.eq_iff_iff.2; simp only [Bool.and_eq_true, beq_iff_eq, decide_eq_true_eq]
theorem noM_b (a : Prt) : noM a = ((a.ix == 0) && (a.tm == 0)) := by
  unfold noM; apply Bool.eq_iff_iff.2; simp only [Bool.and_eq_true, beq_iff_eq, decide_eq_true_eq]
theorem BoxP.drewN {a : Prt} {A : Option Addr} {c B : Nat} {W : World} (h : BoxP a A c B W) (n : Nat) : BoxP a A c B (W.drewN n) := h
set_option maxHeartbeats 8000000 in
set_option maxRecDepth 100000 in
theorem ref_Is (a : Prt) (A : Option Addr) (c : Nat) (w : World) (h : Rd w A c a.l) :
    Calls Try.prog 13 #[vP a A c] w fun e w' => e = .returned (.bool (isP a)) ∧ Below w.heap.size w w' := by
  have HS := Aside0.mk (isP_ref a)
  have HR := Aside0.mk h
  have HN := Aside0.mk (noM_b a)
  obtain ⟨nl, hnl⟩ : ∃ b, noL a = b := ⟨_, rfl⟩
  obtain ⟨nh, hnh⟩ : ∃ b, noH a = b := ⟨_, rfl⟩
  obtain ⟨nm, hnm⟩ : ∃ b, noM a = b := ⟨_, rfl⟩
  obtain ⟨i0, hi0⟩ : ∃ b, (a.ix == 0) = b := ⟨_, rfl⟩
  obtain ⟨b0, hb0⟩ : ∃ b, decide (0 ≤ a.g ∧ a.g ≤ 999) = b := ⟨_, rfl⟩
  have x1 := noL_b a
  have x2 := noH_b a
  have HB0 := Aside0.mk hb0
  rw [hnl] at x1
  rw [hnh] at x2
  rw [hi0, hnm] at HN
  rw [hnl, hnh, hnm, hb0] at HS
  clear h hnl hnh hnm hb0
  unfold vP
  go_enter Try.func13, Try.ntmps13
  cases b0 with
  | false =>
    go_wp2_with (go_at_call 26; refine (within_calls _ _ _ _).mono ?_; rw [HB0.out]; rintro e w3 ⟨rfl, ⟨n, rfl⟩⟩)
    go_ret
    exact ⟨ret_bool (by rw [HS.out]; simp), by repeat (first | exact Below.refl _ _ | apply below_alloc | apply pw_below_drewN | apply below_drew1)⟩
  | true =>
    go_wp2_with (go_at_call 26; refine (within_calls _ _ _ _).mono ?_; rw [HB0.out]; rintro e w3 ⟨rfl, ⟨n, rfl⟩⟩)
    have hbox := (BoxP.new a A c w).drewN n
    have hbel : Below w.heap.size w ((w.alloc (.cells #[.int .i64 a.g, .int .i64 a.k, .slice A a.l.length c, .int .i64 a.ht, .int .i64 a.hv, .int .i64 a.hc, .int .i64 a.ix, .int .i64 a.tm, .bool a.mrk, .bool a.hed] 26)).drewN n) := pw_below_drewN ((Below.refl _ _).alloc (Nat.le_refl _) _) n
    generalize (w.alloc (.cells #[.int .i64 a.g, .int .i64 a.k, .slice A a.l.length c, .int .i64 a.ht, .int .i64 a.hv, .int .i64 a.hc, .int .i64 a.ix, .int .i64 a.tm, .bool a.mrk, .bool a.hed] 26)).drewN n = W0 at hbox hbel ⊢
    have HB := Aside0.mk hbel
    obtain ⟨e0, e1, e2, e3, e4, e5, e6, e7, e8, e9⟩ := hbox
    clear hbel
    cases i0
    all_goals
     (go_quiet (fail)
      clear x1 x2 hi0
      go_wp2_with (first
        | (go_at_call 26; refine (within_calls _ _ _ _).mono ?_; rintro e w3 ⟨rfl, ⟨n, rfl⟩⟩)
        | (go_at_call 27; refine (ref_entries a.l A c _ _ (HR.out.below (by repeat (first | exact HB.out | apply pw_below_drewN | apply below_drew1)))).mono ?_; rintro e w1 ⟨rfl, hbn⟩; have HX := Aside0.mk (BoxP.below (by repeat (first | exact ⟨e0, e1, e2, e3, e4, e5, e6, e7, e8, e9⟩ | apply BoxP.drewN)) hbn); clear e0 e1 e2 e3 e4 e5 e6 e7 e8 e9; obtain ⟨e0, e1, e2, e3, e4, e5, e6, e7, e8, e9⟩ := HX.out; clear HX; have n0 := Aside0.mk (below_cls w _ _ (by repeat (first | exact HB.out | apply pw_below_drewN | apply below_drew1)) hbn); clear HB; have HB := n0; clear n0)
        | (go_at_call 29; refine (mark_calls _ _ a.l _ _ _ _ _ _ _ A c _ (HR.out.below (by repeat (first | exact HB.out | apply pw_below_drewN | apply below_drew1)))).mono ?_; rintro e w2 ⟨rfl, hbn⟩; have HX := Aside0.mk (BoxP.below (by repeat (first | exact ⟨e0, e1, e2, e3, e4, e5, e6, e7, e8, e9⟩ | apply BoxP.drewN)) hbn); clear e0 e1 e2 e3 e4 e5 e6 e7 e8 e9; obtain ⟨e0, e1, e2, e3, e4, e5, e6, e7, e8, e9⟩ := HX.out; clear HX; have n0 := Aside0.mk (below_cls w _ _ (by repeat (first | exact HB.out | apply pw_below_drewN | apply below_drew1)) hbn); clear HB; have HB := n0; clear n0)
        | (go_at_call 28; refine (isH4_calls a.ht a.hv a.hc _).mono ?_; rintro e w4 ⟨rfl, hbn⟩; have HX := Aside0.mk (BoxP.below (by repeat (first | exact ⟨e0, e1, e2, e3, e4, e5, e6, e7, e8, e9⟩ | apply BoxP.drewN)) hbn); clear e0 e1 e2 e3 e4 e5 e6 e7 e8 e9; obtain ⟨e0, e1, e2, e3, e4, e5, e6, e7, e8, e9⟩ := HX.out; clear HX; have n0 := Aside0.mk (below_cls w _ _ (by repeat (first | exact HB.out | apply pw_below_drewN | apply below_drew1)) hbn); clear HB; have HB := n0; clear n0))
      all_goals
       (go_ret
        exact ⟨ret_bool (by rw [HS.out, HN.out]; unfold isPR; (try simp only [beq_iff_eq, beq_eq_false_iff_ne, bne_iff_ne, bne_eq_false_iff_eq, ne_eq] at *); simp [*] <;> first | rfl | (simp_all; done)), by repeat (first | exact HB.out | apply pw_below_drewN | apply below_drew1)⟩))
end Go.Proofs.Ytokjhocjemjfiaa.PartW
