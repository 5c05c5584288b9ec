/- The walk of the reference's fill. -/
import Derived.Test.YtfnflbclhaeedaaMg
import Derived.BigRegion
set_option linter.unusedVariables false
set_option linter.unusedSimpArgs false
namespace Go.Proofs.Ytfnflbclhaeedaa.Sp
open Go Go.RowKit Go.Proofs.Ytfnflbclhaeedaa.A Go.Proofs.Ytfnflbclhaeedaa.Seq Go.Proofs.YtfnflbclhaeedaaW.PrintWords Go.Proofs.YtfnflbclhaeedaaW.PrintLast Go.Proofs.YtfnflbclhaeedaaW.PrintMore
theorem fillL_snoc (fi : Int) (l es : List Ent) (k : Nat) (hk : k < es.length) : fillL fi l (es.take (k + 1)) = stepE fi (fillL fi l (es.take k)) (el es k) := by
  unfold fillL
  rw [List.take_succ_eq_append_getElem hk, List.foldl_append, el_get hk]; rfl
theorem fillL_len (fi : Int) : ∀ (es l : List Ent), (fillL fi l es).length ≤ l.length + es.length
  | [], l => by show l.length ≤ _; simp
  | e :: es, l => by
    have h1 := fillL_len fi es (stepE fi l e)
    have h2 := step_len fi l e
    show (fillL fi (stepE fi l e) es).length ≤ _
    rw [List.length_cons]; omega
def compP (g : Grp) (p : Prt) : Grp := if p.mrk = true then compG g p.ix p.tm else g
def fillR (g : Grp) (p : Prt) : Grp := ⟨(headP (compP g p) p).id, (headP (compP g p) p).fi, (headP (compP g p) p).tm, (headP (compP g p) p).ht, (headP (compP g p) p).hv, (headP (compP g p) p).hc, fillL (headP (compP g p) p).fi (headP (compP g p) p).l p.l⟩
theorem head_len (g : Grp) (p : Prt) : (headP (compP g p) p).l.length ≤ g.l.length := by
  have h1 : (compP g p).l.length ≤ g.l.length := by
    unfold compP compG
    split
    · split
      · exact Nat.le_refl _
      · exact List.length_filter_le _ _
    · exact Nat.le_refl _
  unfold headP
  split <;> exact h1
end Go.Proofs.Ytfnflbclhaeedaa.Sp
namespace Go.Proofs.Ytfnflbclhaeedaa.PartW
open Go Go.RowKit Go.Shelf Go.Proofs.Ytfnflbclhaeedaa.A Go.Proofs.Ytfnflbclhaeedaa.Sp Go.Proofs.Ytfnflbclhaeedaa.Reg Go.Proofs.Ytfnflbclhaeedaa.Seq Go.Proofs.YtfnflbclhaeedaaW.PrintWords Go.Proofs.YtfnflbclhaeedaaW.PrintLast Go.Proofs.YtfnflbclhaeedaaW.PrintMore
/-- what holds at a round's head -/
def LoopI (g gg : Grp) (A : Option Addr) (c : Nat) (p : Prt) (Ap : Option Addr) (cp s n0 : Nat) (w : World) (k : Nat) (wr : World) : Prop :=
  Two g A c p Ap cp s w wr ∧ ∃ A' c', BlkG ⟨gg.id, gg.fi, gg.tm, gg.ht, gg.hv, gg.hc, fillL gg.fi gg.l (p.l.take k)⟩ A' c' n0 wr ∧ Rd wr A' c' (fillL gg.fi gg.l (p.l.take k))
theorem at_calls' (g : Grp) (A : Option Addr) (c : Nat) (i : Int) (w : World) (h : Rd w A c g.l) {v : Int} (hv : atL g.l i = v) : Calls Try.prog 20 #[vG g A c, .int .i64 i] w fun e w' => e = .returned (.int .i64 v) ∧ Below w.heap.size w w' := by
  rw [← hv]; exact ref_At g A c i w h
set_option maxHeartbeats 8000000 in
set_option maxRecDepth 100000 in
theorem fill_tail (g gg : Grp) (A A1 : Option Addr) (c c1 : Nat) (p : Prt) (Ap : Option Addr) (cp : Nat) (s n0 : Nat) (w W : World) (t0 t1 t6 t7 t8 t9 t10 t11 t12 t13 t14 t15 t16 t17 t18 t19 t20 t21 t22 t23 t24 t25 t26 t27 t28 t29 t30 t31 t32 t33 t34 t35 t36 t37 t38 t39 t40 t41 t42 t43 t44 t45 t46 t47 t48 t49 t50 t51 t52 t53 t54 t55 t56 t57 t58 t59 t60 t61 t62 t63 : Value)
    (hT : Two g A c p Ap cp s w W) (hg : BlkG gg A1 c1 n0 W) (hr : Rd W A1 c1 gg.l) (hn : s + 3 ≤ n0) (hl : gg.l.length + p.l.length ≤ 4398046511104)
    (C : Code) (hC : (match Try.f36.body with | some (.seq _ (.seq _ (.seq _ (.seq _ c)))) => c | _ => .skip) = C) :
    C.wp Try.prog (bodyPost Try.prog Try.f36 (GotG w ⟨gg.id, gg.fi, gg.tm, gg.ht, gg.hv, gg.hc, fillL gg.fi gg.l p.l⟩)) { tmps := #[t0, t1, .pointer (some ⟨s, 0, none⟩), .pointer (some ⟨s + 1, 0, none⟩), .pointer (some ⟨s + 2, 0, none⟩), .pointer (some ⟨n0, 0, none⟩), t6, t7, t8, t9, t10, t11, t12, t13, t14, t15, t16, t17, t18, t19, t20, t21, t22, t23, t24, t25, t26, t27, t28, t29, t30, t31, t32, t33, t34, t35, t36, t37, t38, t39, t40, t41, t42, t43, t44, t45, t46, t47, t48, t49, t50, t51, t52, t53, t54, t55, t56, t57, t58, t59, t60, t61, t62, t63], defers := [] } W := by
  simp only [Try.f36] at hC
  subst hC
  have HLN := Aside0.mk hl
  have HN0 := Aside0.mk hn
  have HI0 : Aside0 (LoopI g gg A c p Ap cp s n0 w 0 W) := ⟨hT, A1, c1, hg, hr⟩
  clear hT hg hr hl hn
  go_wp2
  go_loopw [6] (fun i wr => ∃ k : Nat, k ≤ p.l.length ∧ i = .int .i64 k ∧ Aside0 (LoopI g gg A c p Ap cp s n0 w k wr)) (fun i _ => p.l.length - (intOf i).toNat)
  case atStart => exact ⟨0, Nat.zero_le _, rfl, HI0⟩
  case round =>
    obtain ⟨k, hk, rfl, HI⟩ := hrel
    obtain ⟨hT, A', c', hg, hr⟩ := HI.out
    have HT := Aside0.mk hT
    have HG := Aside0.mk hg
    have HRD := Aside0.mk hr
    obtain ⟨y0, y1, y2, y3, y4, y5, y6⟩ := hg.box
    obtain ⟨p0, p1, p2, p3, p4, p5, p6, p7, p8, p9⟩ := hT.bp.box
    by_cases hlt : k < p.l.length
    · obtain ⟨ad, rfl, q0, q1, q2⟩ := hT.rp.at_ hlt
      have hsn := fillL_snoc gg.fi gg.l p.l k hlt
      have hL1 := fillL_len gg.fi (p.l.take k) gg.l
      have htk : (p.l.take k).length = k := by rw [List.length_take]; omega
      obtain ⟨x, hx⟩ : ∃ x, el p.l k = x := ⟨_, rfl⟩
      obtain ⟨L, hL⟩ : ∃ L, fillL gg.fi gg.l (p.l.take k) = L := ⟨_, rfl⟩
      rw [hx] at q0 q1 q2 hsn
      rw [hL] at hg hr HG HRD y6 hsn hL1
      have HLL : Aside0 (L.length + 1 ≤ 4398046511104) := ⟨by have := HLN.out; omega⟩
      have HSN := Aside0.mk hsn
      obtain ⟨n1, hn1⟩ : ∃ n, wr.heap.size = n := ⟨_, rfl⟩
      have hxn := BoxE.new x wr
      rw [hn1] at hxn
      have HXN := Aside0.mk hxn
      have HN1 : Aside0 (n0 < n1) := ⟨by rw [← hn1]; exact hg.lt⟩
      have HN1e := Aside0.mk hn1
      have l01 : n0 < n1 := HN1.out
      have l02 : n0 ≠ n1 := by omega
      have l03 : n1 ≠ n0 := by omega
      dsimp only at y0 y1 y2 y3 y4 y5 y6
      have hbd := HT.out.rp.bd
      clear hxn hsn hL1 htk hL hx hg hr hT
      by_cases c1 : x.f0 < gg.fi
      · have HST : Aside0 (stepE gg.fi L x = L) := ⟨by unfold stepE; rw [if_pos (.inl c1)]⟩
        have d1 : decide (x.f0 < gg.fi) = true := decide_eq_true c1
        clear c1
        go_wp2
        go_roundw
        case rel => exact ⟨k + 1, by omega, by go_num, ⟨HT.out.below ((Below.refl _ _).alloc (Nat.le_refl _) _), A', c', by rw [HSN.out, HST.out]; exact HG.out.alloc _, by rw [HSN.out, HST.out]; exact HRD.out.alloc _⟩⟩
        case measure => simp [intOf]; omega
      · have d1 : decide (x.f0 < gg.fi) = false := decide_eq_false c1
        obtain ⟨v, hv⟩ : ∃ v, atL L x.f0 = v := ⟨_, rfl⟩
        have HV := Aside0.mk hv
        by_cases c2 : 0 ≤ v
        · have HST : Aside0 (stepE gg.fi L x = L) := ⟨by unfold stepE; rw [if_pos (.inr (by rw [hv]; exact c2))]⟩
          have d2 : decide (0 ≤ v) = true := decide_eq_true c2
          clear c1 c2 hv
          go_wp2_with (go_at_call 20; refine (at_calls' ⟨gg.id, gg.fi, gg.tm, gg.ht, gg.hv, gg.hc, L⟩ A' c' x.f0 _ (HRD.out.alloc _) HV.out).mono ?_; rintro e w2 ⟨rfl, hw2⟩; have HW2 := Aside0.mk hw2; have HT2 := Aside0.mk ((HT.out.below ((Below.refl _ _).alloc (Nat.le_refl _) _)).below hw2); have HG2 := Aside0.mk ((HG.out.alloc _).below hw2); have HRd2 := Aside0.mk ((HRD.out.alloc _).below hw2); have HX2 := Aside0.mk (HXN.out.below hw2); clear hw2 y0 y1 y2 y3 y4 y5 y6 p0 p1 p2 p3 p4 p5 p6 p7 p8 p9 q0 q1 q2; obtain ⟨y0, y1, y2, y3, y4, y5, y6⟩ := HG2.out.box; dsimp only at y0 y1 y2 y3 y4 y5 y6; obtain ⟨f0, f1, f2⟩ := id HX2.out)
          go_roundw
          case rel => exact ⟨k + 1, by omega, by go_num, ⟨HT2.out, A', c', by rw [HSN.out, HST.out]; exact HG2.out, by rw [HSN.out, HST.out]; exact HRd2.out⟩⟩
          case measure => simp [intOf]; omega
        · have HST : Aside0 (stepE gg.fi L x = belowL L x.f0 ++ [x] ++ fromL L x.f0) := ⟨by unfold stepE; rw [if_neg (by rw [hv]; rintro (h | h); exact c1 h; exact c2 h)]⟩
          have d2 : decide (0 ≤ v) = false := decide_eq_false c2
          have h2l := two_len L x.f0
          have HT3 : Aside0 ((belowL L x.f0).length + 1 + (fromL L x.f0).length ≤ 4398046511104) := ⟨by have := HLL.out; omega⟩
          have HLN1 : Aside0 ((belowL L x.f0).length ≤ 4398046511104) := ⟨by have := HLL.out; omega⟩
          have HLN2 : Aside0 ((fromL L x.f0).length ≤ 4398046511104) := ⟨by have := HLL.out; omega⟩
          clear c1 c2 hv h2l
          go_wp2_with (go_at_call 20; refine (at_calls' ⟨gg.id, gg.fi, gg.tm, gg.ht, gg.hv, gg.hc, L⟩ A' c' x.f0 _ (HRD.out.alloc _) HV.out).mono ?_; rintro e w2 ⟨rfl, hw2⟩; have HW2 := Aside0.mk hw2; have HT2 := Aside0.mk ((HT.out.below ((Below.refl _ _).alloc (Nat.le_refl _) _)).below hw2); have HG2 := Aside0.mk ((HG.out.alloc _).below hw2); have HRd2 := Aside0.mk ((HRD.out.alloc _).below hw2); have HX2 := Aside0.mk (HXN.out.below hw2); clear hw2 y0 y1 y2 y3 y4 y5 y6 p0 p1 p2 p3 p4 p5 p6 p7 p8 p9 q0 q1 q2; obtain ⟨y0, y1, y2, y3, y4, y5, y6⟩ := HG2.out.box; dsimp only at y0 y1 y2 y3 y4 y5 y6; obtain ⟨f0, f1, f2⟩ := id HX2.out)
          clear d1 d2
          have HSZ : Aside0 (s + 3 ≤ n0 ∧ n0 < n1 ∧ n1 < w2.heap.size) := ⟨by have h1 := HN0.out; have h2 := HW2.out.size; simp at h2; have h3 := HN1e.out; have h4 := HN1.out; omega⟩
          have HRd := Aside0.mk (Rd.drew HRd2.out)
          have HHE : Aside0 ((fun w' => w'.cell? ⟨n0, 6, none⟩ = some (.slice A' L.length c') ∧ w'.cell? ⟨n1, 0, none⟩ = some (.int .i64 x.f0) ∧ w'.cell? ⟨n1, 1, none⟩ = some (.int .i64 x.f1) ∧ w'.cell? ⟨n1, 2, none⟩ = some (.string x.f2)) w2) := ⟨⟨y6, f0, f1, f2⟩⟩
          refine start_ (n := 9) (S := (fun w' => w'.cell? ⟨n0, 6, none⟩ = some (.slice A' L.length c') ∧ w'.cell? ⟨n1, 0, none⟩ = some (.int .i64 x.f0) ∧ w'.cell? ⟨n1, 1, none⟩ = some (.int .i64 x.f1) ∧ w'.cell? ⟨n1, 2, none⟩ = some (.string x.f2))) (ds := []) #[false, false, false, false, false, false, false, false, false] (by kernel_rfl) rfl rfl ⟨y6, f0, f1, f2⟩ (fun hHeld => ?_)
          clear y0 y1 y2 y3 y4 y5 y6 f0 f1 f2
          refine pure_ (i := 0) (N := some 47) (v := ?_) (a' := ?_) #[true, false, false, false, false, false, false, false, false] rfl rfl (by kernel_rfl) (fun _ _ _ h => h) (Or.inl ⟨by rfl, ?_⟩) ?_ ?_
          rotate_left
          · intro w'
            go_simp
            try with_reducible rfl
          rotate_left
          · simp only [Act.put, List.setIfInBounds_toArray, List.set_cons_zero, List.set_cons_succ]
            rfl
          refine take_ (i := 1) (N := some 48) (v := ?_) (a' := ?_) #[true, true, false, false, false, false, false, false, false] rfl rfl (by kernel_rfl) (fun _ _ _ h => h) (Or.inl ⟨by rfl, ?_⟩) hHeld ?_ ?_
          rotate_left
          · rintro w' ⟨s0, s1, s2, s3⟩
            go_simp
            try with_reducible rfl
          rotate_left
          · simp only [Act.put, List.setIfInBounds_toArray, List.set_cons_zero, List.set_cons_succ]
            rfl
          refine pure_ (i := 2) (N := some 49) (v := ?_) (a' := ?_) #[true, true, true, false, false, false, false, false, false] rfl rfl (by kernel_rfl) (fun _ _ _ h => h) (Or.inl ⟨by rfl, ?_⟩) ?_ ?_
          rotate_left
          · intro w'
            go_simp
            try with_reducible rfl
          rotate_left
          · simp only [Act.put, List.setIfInBounds_toArray, List.set_cons_zero, List.set_cons_succ]
            rfl
          refine take_ (i := 3) (N := some 50) (v := ?_) (a' := ?_) #[true, true, true, true, false, false, false, false, false] rfl rfl (by kernel_rfl) (fun _ _ _ h => h) (Or.inl ⟨by rfl, ?_⟩) hHeld ?_ ?_
          rotate_left
          · rintro w' ⟨s0, s1, s2, s3⟩
            go_simp
            try with_reducible rfl
          rotate_left
          · simp only [Act.put, List.setIfInBounds_toArray, List.set_cons_zero, List.set_cons_succ]
            rfl
          refine take_ (i := 5) (N := some 52) (v := ?_) (a' := ?_) #[true, true, true, true, false, true, false, false, false] rfl rfl (by kernel_rfl) (fun _ _ _ h => h) (Or.inl ⟨by rfl, ?_⟩) hHeld ?_ ?_
          rotate_left
          · rintro w' ⟨s0, s1, s2, s3⟩
            go_simp
            try with_reducible rfl
          rotate_left
          · simp only [Act.put, List.setIfInBounds_toArray, List.set_cons_zero, List.set_cons_succ]
            rfl
          refine two_ (i := 4) (j := 6) (Ni := some 51) (Nj := some 53) #[true, true, true, true, true, true, false, false, false] #[true, true, true, true, false, true, true, false, false] rfl rfl rfl rfl (by kernel_rfl) (by decide) (by decide) (fun K hK => ?_) (fun K hK => ?_)
          · go_simp
            refine (ref_below L A' c' x.f0 _ HRd.out).mono ?_; rintro e w3 ⟨v1, rfl, ho3, hw3⟩; obtain ⟨A1, c1, rfl, hrd3, hfr3⟩ := ho3.rd' HLN1.out; have HO3 := Aside0.mk ho3; have HW3 := Aside0.mk hw3; clear ho3 hw3 hrd3 hfr3
            refine hK.out _ _ ?_ (fun hHeld => ?_)
            · obtain ⟨s0, s1, s2, s3⟩ := hHeld; exact ⟨(HW3.out.cell (World.block_lt_of_cell? _ _ s0)).trans s0, (HW3.out.cell (World.block_lt_of_cell? _ _ s1)).trans s1, (HW3.out.cell (World.block_lt_of_cell? _ _ s2)).trans s2, (HW3.out.cell (World.block_lt_of_cell? _ _ s3)).trans s3⟩
            clear hK K
            try simp only [Act.put, List.setIfInBounds_toArray, List.set_cons_zero, List.set_cons_succ]
            refine one_ (i := 6) (N := some 53) #[true, true, true, true, true, true, true, false, false] rfl rfl (by kernel_rfl) (by decide) (fun K hK => ?_)
            go_simp
            refine hK.out _ _ ?_ (fun hHeld => ?_)
            · obtain ⟨s0, s1, s2, s3⟩ := hHeld; exact ⟨(World.cell?_alloc_lt _ _ _ (World.block_lt_of_cell? _ _ s0)).trans s0, (World.cell?_alloc_lt _ _ _ (World.block_lt_of_cell? _ _ s1)).trans s1, (World.cell?_alloc_lt _ _ _ (World.block_lt_of_cell? _ _ s2)).trans s2, (World.cell?_alloc_lt _ _ _ (World.block_lt_of_cell? _ _ s3)).trans s3⟩
            clear hK K
            try simp only [Act.put, List.setIfInBounds_toArray, List.set_cons_zero, List.set_cons_succ]
            refine one_ (i := 7) (N := some 54) #[true, true, true, true, true, true, true, true, false] rfl rfl (by kernel_rfl) (by decide) (fun K hK => ?_)
            rw [if_pos (by rfl)]
            refine wp_append_ent (l := belowL L x.f0) (m := [x]) (.tmp 51) (.tmp 53) rfl rfl (HO3.out.alloc _) rfl (Rd.one w3 x) (by have := HT3.out; simp; omega) (by have := HW3.out.size; simp at *; omega) ?_
            intro v4 w4 ho4 hg4 ha4; have hon : Only (fun q => w2.heap.size ≤ q) w2 w4 := (((only_below (U := fun q => w2.heap.size ≤ q) (below_drew (Below.refl w2.heap.size w2))).trans (only_below (U := fun q => w2.heap.size ≤ q) HW3.out)).alloc _).of_grown hg4 (fun k hk _ => by have h1 := (own_block HO3.out hk).1; simp at h1; exact h1); have HON := Aside0.mk hon; have HO4 : Aside0 (OwnE w4 w2.heap.size v4 (belowL L x.f0 ++ [x])) := ⟨ho4.mono (Nat.le_refl _)⟩; clear ho4 hg4 ha4 hon
            refine hK.out _ _ ?_ (fun hHeld => ?_)
            · obtain ⟨s0, s1, s2, s3⟩ := HHE.out; exact ⟨HON.out.cell s0 (by intro h; have h2 : w2.heap.size ≤ n0 := h; have := HSZ.out; omega), HON.out.cell s1 (by intro h; have h2 : w2.heap.size ≤ n1 := h; have := HSZ.out; omega), HON.out.cell s2 (by intro h; have h2 : w2.heap.size ≤ n1 := h; have := HSZ.out; omega), HON.out.cell s3 (by intro h; have h2 : w2.heap.size ≤ n1 := h; have := HSZ.out; omega)⟩
            clear hK K
            try simp only [Act.put, List.setIfInBounds_toArray, List.set_cons_zero, List.set_cons_succ]
            refine pure_ (i := 8) (N := some 8) (v := ?_) (a' := ?_) #[true, true, true, true, true, true, true, true, true] rfl rfl (by kernel_rfl) (fun _ _ _ h => h) (Or.inl ⟨by rfl, ?_⟩) ?_ ?_
            rotate_left
            · intro w'
              go_simp
              try with_reducible rfl
            rotate_left
            · simp only [Act.put, List.setIfInBounds_toArray, List.set_cons_zero, List.set_cons_succ]
              rfl
            refine done_ (by kernel_rfl) ?_
            have HRd4 := Aside0.mk (HRd2.out.only HON.out (fun q hq h => by have h2 : w2.heap.size ≤ q := h; have := HRd2.out.lt hq; omega))
            have g4 := HG2.out.only HON.out (fun h => by have h2 : w2.heap.size ≤ n0 := h; have := HSZ.out; omega)
            obtain ⟨y0, y1, y2, y3, y4, y5, y6⟩ := g4.box
            dsimp only at y0 y1 y2 y3 y4 y5 y6
            obtain ⟨f0, f1, f2⟩ := HX2.out.only HON.out (fun h => by have h2 : w2.heap.size ≤ n1 := h; have := HSZ.out; omega)
            clear g4
            go_wp2_with (first
                      | (go_at_call 34; refine (ref_fromO L A' c' x.f0 _ HRd4.out).mono ?_; rintro e w5 ⟨v5, rfl, ho5, hw5⟩; obtain ⟨A5, c5, rfl, hrd5, hfr5⟩ := ho5.rd' HLN2.out; have HRD5 := Aside0.mk hrd5; have HFR5 := Aside0.mk hfr5; have HW5 := Aside0.mk hw5; clear ho5 hw5 hrd5 hfr5 y0 y1 y2 y3 y4 y5 y6 f0 f1 f2)
                      | (at_builtin
                         refine wpList_append_ent (l := belowL L x.f0 ++ [x]) (m := fromL L x.f0) (b := w2.heap.size) rfl (.tmp 55) (.tmp 60) rfl rfl (HO4.out.below HW5.out) rfl HRD5.out (by have := HT3.out; simp; omega) (by have := HW5.out.size; have := HON.out.size; omega) ?_
                         intro v6 w6 ho6 hg6 ha6
                         have hon : Only (fun q => w2.heap.size ≤ q) w2 w6 := (HON.out.trans (only_below HW5.out)).of_grown hg6 (fun k hk _ => by change v4.ownBlock = some k at hk; exact (own_block HO4.out hk).1)
                         obtain ⟨M, hM⟩ : ∃ M, belowL L x.f0 ++ [x] ++ fromL L x.f0 = M := ⟨_, rfl⟩
                         have HMM : Aside0 (M.length ≤ 4398046511104) := ⟨by rw [← hM]; have := HT3.out; simp; omega⟩
                         rw [hM] at ho6
                         have HME := Aside0.mk hM
                         clear hM
                         have g6 := HG2.out.only hon (fun h => by have h2 : w2.heap.size ≤ n0 := h; have := HSZ.out; omega)
                         obtain ⟨y0, y1, y2, y3, y4, y5, y6⟩ := g6.box
                         have yf := g6.free
                         obtain ⟨A6, c6, rfl, hrd6, hfr6⟩ := ho6.rd' HMM.out
                         have HON6 := Aside0.mk hon
                         have HG6 := Aside0.mk g6
                         have HRD6 := Aside0.mk hrd6
                         have HFR6 := Aside0.mk hfr6
                         clear ho6 hg6 ha6 hon g6 hrd6 hfr6))
            have hgl := HG6.out.setL M A6 c6
            have hx := (Only.refl (fun q => q = n0) w6).setCell (p := ⟨n0, 6, none⟩) rfl (.slice A6 M.length c6)
            go_roundw
            case rel =>
              refine ⟨k + 1, by omega, by go_num, ⟨?_, A6, c6, ?_, ?_⟩⟩
              · exact ((HT2.out.only HON6.out (fun q hq h => by have h2 : w2.heap.size ≤ q := h; have := HT2.out.sz; omega)).only hx (fun q hq h => by have h2 : q = n0 := h; have := HSZ.out; omega))
              · rw [HSN.out, HST.out, HME.out]; exact hgl
              · rw [HSN.out, HST.out, HME.out]; exact Rd.only HRD6.out hx (fun q hq h => by have h2 : q = n0 := h; have h3 := HFR6.out q hq; have := HSZ.out; omega)
            case measure => simp [intOf]; omega
          · go_simp
            refine hK.out _ _ ?_ (fun hHeld => ?_)
            · obtain ⟨s0, s1, s2, s3⟩ := hHeld; exact ⟨(World.cell?_alloc_lt _ _ _ (World.block_lt_of_cell? _ _ s0)).trans s0, (World.cell?_alloc_lt _ _ _ (World.block_lt_of_cell? _ _ s1)).trans s1, (World.cell?_alloc_lt _ _ _ (World.block_lt_of_cell? _ _ s2)).trans s2, (World.cell?_alloc_lt _ _ _ (World.block_lt_of_cell? _ _ s3)).trans s3⟩
            clear hK K
            try simp only [Act.put, List.setIfInBounds_toArray, List.set_cons_zero, List.set_cons_succ]
            refine one_ (i := 4) (N := some 51) #[true, true, true, true, true, true, true, false, false] rfl rfl (by kernel_rfl) (by decide) (fun K hK => ?_)
            go_simp
            refine (ref_below L A' c' x.f0 _ (HRd.out.alloc _)).mono ?_; rintro e w3 ⟨v1, rfl, ho3, hw3⟩; obtain ⟨A1, c1, rfl, hrd3, hfr3⟩ := ho3.rd' HLN1.out; have HO3 := Aside0.mk ho3; have HW3 := Aside0.mk hw3; clear ho3 hw3 hrd3 hfr3
            refine hK.out _ _ ?_ (fun hHeld => ?_)
            · obtain ⟨s0, s1, s2, s3⟩ := hHeld; exact ⟨(HW3.out.cell (World.block_lt_of_cell? _ _ s0)).trans s0, (HW3.out.cell (World.block_lt_of_cell? _ _ s1)).trans s1, (HW3.out.cell (World.block_lt_of_cell? _ _ s2)).trans s2, (HW3.out.cell (World.block_lt_of_cell? _ _ s3)).trans s3⟩
            clear hK K
            try simp only [Act.put, List.setIfInBounds_toArray, List.set_cons_zero, List.set_cons_succ]
            refine one_ (i := 7) (N := some 54) #[true, true, true, true, true, true, true, true, false] rfl rfl (by kernel_rfl) (by decide) (fun K hK => ?_)
            rw [if_pos (by rfl)]
            refine wp_append_ent (l := belowL L x.f0) (m := [x]) (.tmp 51) (.tmp 53) rfl rfl HO3.out rfl ((Rd.one w2.drew x).below HW3.out) (by have := HT3.out; simp; omega) (by have := HW3.out.size; simp at *; omega) ?_
            intro v4 w4 ho4 hg4 ha4; have hon : Only (fun q => w2.heap.size ≤ q) w2 w4 := (((only_below (U := fun q => w2.heap.size ≤ q) (below_drew (Below.refl w2.heap.size w2))).alloc _).trans (only_below (U := fun q => w2.heap.size ≤ q) HW3.out)).of_grown hg4 (fun k hk _ => by have h1 := (own_block HO3.out hk).1; simp at h1; show w2.heap.size ≤ _; omega); have HON := Aside0.mk hon; have HO4 : Aside0 (OwnE w4 w2.heap.size v4 (belowL L x.f0 ++ [x])) := ⟨ho4.mono (by simp)⟩; clear ho4 hg4 ha4 hon
            refine hK.out _ _ ?_ (fun hHeld => ?_)
            · obtain ⟨s0, s1, s2, s3⟩ := HHE.out; exact ⟨HON.out.cell s0 (by intro h; have h2 : w2.heap.size ≤ n0 := h; have := HSZ.out; omega), HON.out.cell s1 (by intro h; have h2 : w2.heap.size ≤ n1 := h; have := HSZ.out; omega), HON.out.cell s2 (by intro h; have h2 : w2.heap.size ≤ n1 := h; have := HSZ.out; omega), HON.out.cell s3 (by intro h; have h2 : w2.heap.size ≤ n1 := h; have := HSZ.out; omega)⟩
            clear hK K
            try simp only [Act.put, List.setIfInBounds_toArray, List.set_cons_zero, List.set_cons_succ]
            refine pure_ (i := 8) (N := some 8) (v := ?_) (a' := ?_) #[true, true, true, true, true, true, true, true, true] rfl rfl (by kernel_rfl) (fun _ _ _ h => h) (Or.inl ⟨by rfl, ?_⟩) ?_ ?_
            rotate_left
            · intro w'
              go_simp
              try with_reducible rfl
            rotate_left
            · simp only [Act.put, List.setIfInBounds_toArray, List.set_cons_zero, List.set_cons_succ]
              rfl
            refine done_ (by kernel_rfl) ?_
            have HRd4 := Aside0.mk (HRd2.out.only HON.out (fun q hq h => by have h2 : w2.heap.size ≤ q := h; have := HRd2.out.lt hq; omega))
            have g4 := HG2.out.only HON.out (fun h => by have h2 : w2.heap.size ≤ n0 := h; have := HSZ.out; omega)
            obtain ⟨y0, y1, y2, y3, y4, y5, y6⟩ := g4.box
            dsimp only at y0 y1 y2 y3 y4 y5 y6
            obtain ⟨f0, f1, f2⟩ := HX2.out.only HON.out (fun h => by have h2 : w2.heap.size ≤ n1 := h; have := HSZ.out; omega)
            clear g4
            go_wp2_with (first
                      | (go_at_call 34; refine (ref_fromO L A' c' x.f0 _ HRd4.out).mono ?_; rintro e w5 ⟨v5, rfl, ho5, hw5⟩; obtain ⟨A5, c5, rfl, hrd5, hfr5⟩ := ho5.rd' HLN2.out; have HRD5 := Aside0.mk hrd5; have HFR5 := Aside0.mk hfr5; have HW5 := Aside0.mk hw5; clear ho5 hw5 hrd5 hfr5 y0 y1 y2 y3 y4 y5 y6 f0 f1 f2)
                      | (at_builtin
                         refine wpList_append_ent (l := belowL L x.f0 ++ [x]) (m := fromL L x.f0) (b := w2.heap.size) rfl (.tmp 55) (.tmp 60) rfl rfl (HO4.out.below HW5.out) rfl HRD5.out (by have := HT3.out; simp; omega) (by have := HW5.out.size; have := HON.out.size; omega) ?_
                         intro v6 w6 ho6 hg6 ha6
                         have hon : Only (fun q => w2.heap.size ≤ q) w2 w6 := (HON.out.trans (only_below HW5.out)).of_grown hg6 (fun k hk _ => by change v4.ownBlock = some k at hk; exact (own_block HO4.out hk).1)
                         obtain ⟨M, hM⟩ : ∃ M, belowL L x.f0 ++ [x] ++ fromL L x.f0 = M := ⟨_, rfl⟩
                         have HMM : Aside0 (M.length ≤ 4398046511104) := ⟨by rw [← hM]; have := HT3.out; simp; omega⟩
                         rw [hM] at ho6
                         have HME := Aside0.mk hM
                         clear hM
                         have g6 := HG2.out.only hon (fun h => by have h2 : w2.heap.size ≤ n0 := h; have := HSZ.out; omega)
                         obtain ⟨y0, y1, y2, y3, y4, y5, y6⟩ := g6.box
                         have yf := g6.free
                         obtain ⟨A6, c6, rfl, hrd6, hfr6⟩ := ho6.rd' HMM.out
                         have HON6 := Aside0.mk hon
                         have HG6 := Aside0.mk g6
                         have HRD6 := Aside0.mk hrd6
                         have HFR6 := Aside0.mk hfr6
                         clear ho6 hg6 ha6 hon g6 hrd6 hfr6))
            have hgl := HG6.out.setL M A6 c6
            have hx := (Only.refl (fun q => q = n0) w6).setCell (p := ⟨n0, 6, none⟩) rfl (.slice A6 M.length c6)
            go_roundw
            case rel =>
              refine ⟨k + 1, by omega, by go_num, ⟨?_, A6, c6, ?_, ?_⟩⟩
              · exact ((HT2.out.only HON6.out (fun q hq h => by have h2 : w2.heap.size ≤ q := h; have := HT2.out.sz; omega)).only hx (fun q hq h => by have h2 : q = n0 := h; have := HSZ.out; omega))
              · rw [HSN.out, HST.out, HME.out]; exact hgl
              · rw [HSN.out, HST.out, HME.out]; exact Rd.only HRD6.out hx (fun q hq h => by have h2 : q = n0 := h; have h3 := HFR6.out q hq; have := HSZ.out; omega)
            case measure => simp [intOf]; omega
    · obtain rfl : k = p.l.length := by omega
      rw [List.take_length] at hg hr HG HRD
      dsimp only at y0 y1 y2 y3 y4 y5 y6
      obtain ⟨z0, z1, z2, z3, z4, z5, z6⟩ := hT.bz.box
      have zf := hT.bz.free
      have hst := stored (r := ⟨gg.id, gg.fi, gg.tm, gg.ht, gg.hv, gg.hc, fillL gg.fi gg.l p.l⟩) (A' := A') (c' := c') hT.bz hr hT.b (Nat.le_add_right s 2) (by have := hT.sz; omega)
      have HST := Aside0.mk hst
      have HS := Aside0.mk hT.hs
      clear hg hr hst hT
      go_wp2
      obtain ⟨r0, r1, r2, r3, r4, r5, r6⟩ := HST.out.1.box
      dsimp only at r0 r1 r2 r3 r4 r5 r6
      refine bodyPost_ret (v := vG ⟨gg.id, gg.fi, gg.tm, gg.ht, gg.hv, gg.hc, fillL gg.fi gg.l p.l⟩ A' c') (by simp [results, Try.results36, go_sem, vG, r0, r1, r2, r3, r4, r5, r6]) rfl ⟨A', c', rfl, HST.out.2.1, by rw [HS.out]; exact HST.out.2.2⟩
set_option maxHeartbeats 8000000 in
set_option maxRecDepth 100000 in
theorem ref_fill_ff (g : Grp) (A : Option Addr) (c : Nat) (p : Prt) (Ap : Option Addr) (cp : Nat) (w : World) (h : Rd w A c g.l) (hp : Rd w Ap cp p.l) (hi : p.mrk = true → 0 ≤ p.ix ∧ p.ix ≤ 1099511627776) (hl : g.l.length + p.l.length ≤ 4398046511104) (h1 : p.mrk = false) (h2 : p.hed = false) :
    Calls Try.prog 36 #[vG g A c, vP p Ap cp] w (GotG w (fillR g p)) := by
  have HLL := Aside0.mk (head_len g p)
  have HLN := Aside0.mk hl
  have HGG : Aside0 (headP (compP g p) p = (g : Grp)) := ⟨by unfold headP compP; rw [h1, h2]; rfl⟩
  have HF : Aside0 (fillR g p = ⟨((g : Grp)).id, ((g : Grp)).fi, ((g : Grp)).tm, ((g : Grp)).ht, ((g : Grp)).hv, ((g : Grp)).hc, fillL ((g : Grp)).fi ((g : Grp)).l p.l⟩) := ⟨by unfold fillR; rw [HGG.out]⟩
  rw [HGG.out] at HLL
  rw [HF.out]
  have HT0 := Aside0.mk (Two.new g A c p Ap cp w h hp)
  have HH1 := Aside0.mk h1
  have HH2 := Aside0.mk h2
  have hi' := hi
  rw [h1] at hi'
  have HI := Aside0.mk hi'
  clear h hp hl HF HGG hi hi'
  unfold vG vP
  rw [h1, h2]
  clear h1 h2
  go_enter Try.func36, Try.ntmps36
  obtain ⟨C5, hC5⟩ : ∃ C, (match Try.f36.body with | some (.seq _ (.seq _ (.seq _ (.seq _ c)))) => c | _ => .skip) = C := ⟨_, rfl⟩
  have HC5 := Aside0.mk hC5
  simp only [Try.f36] at hC5
  rw [hC5]
  obtain ⟨C, hC⟩ : ∃ C, (match Try.f36.body with | some (.seq _ c) => c | _ => .skip) = C := ⟨_, rfl⟩
  have HC := Aside0.mk hC
  simp only [Try.f36] at hC
  rw [hC5] at hC
  rw [hC]
  clear hC5
  go_wp2
  obtain ⟨s, hs⟩ : ∃ s, w.heap.size = s := ⟨_, rfl⟩
  have HT1 := HT0.out
  rw [hs] at HT1 ⊢
  rw [HH1.out, HH2.out] at HT1
  obtain ⟨W, hW⟩ : ∃ W, (((w.alloc (.cells #[.int .i64 g.id, .int .i64 g.fi, .int .i64 g.tm, .int .i64 g.ht, .int .i64 g.hv, .int .i64 g.hc, .slice A g.l.length c] 26)).alloc (.cells #[.int .i64 p.g, .int .i64 p.k, .slice Ap p.l.length cp, .int .i64 p.ht, .int .i64 p.hv, .int .i64 p.hc, .int .i64 p.ix, .int .i64 p.tm, .bool false, .bool false] 28)).alloc (.cells #[.int .i64 0, .int .i64 0, .int .i64 0, .int .i64 0, .int .i64 0, .int .i64 0, .slice none 0 0] 26)) = W := ⟨_, rfl⟩
  rw [hW] at HT1 ⊢
  have HT := Aside0.mk HT1
  have HS := Aside0.mk hs
  subst hC
  clear hW HT1 HT0 hs HC
  obtain ⟨e0, e1, e2, e3, e4, e5, e6⟩ := HT.out.bg.box
  obtain ⟨p0, p1, p2, p3, p4, p5, p6, p7, p8, p9⟩ := HT.out.bp.box
  rw [HH1.out] at p8
  rw [HH2.out] at p9
  obtain ⟨n0, hn0⟩ : ∃ n, W.heap.size = n := ⟨_, rfl⟩
  have HN0 := Aside0.mk hn0
  have HSN0 : Aside0 (s + 3 ≤ n0) := ⟨by rw [← hn0]; exact HT.out.sz⟩
  have l1 : s < n0 := by have := HSN0.out; omega
  have l2 : s + 1 < n0 := by have := HSN0.out; omega
  have m1 : s ≠ n0 := by omega
  have m2 : s + 1 ≠ n0 := by omega
  have HTA := Aside0.mk (HT.out.below ((Below.refl _ _).alloc (Nat.le_refl _) (.cells #[.int .i64 g.id, .int .i64 g.fi, .int .i64 g.tm, .int .i64 g.ht, .int .i64 g.hv, .int .i64 g.hc, .slice A g.l.length c] 26)))
  have hgn := BlkG.new g A c W
  rw [hn0] at hgn
  have HGN := Aside0.mk hgn
  clear hgn
  go_wp2
  exact fill_tail g g A A c c p Ap cp s n0 w _ _ _ _ _ _ _ _ _ _ _ _ _ _ _ _ _ _ _ _ _ _ _ _ _ _ _ _ _ _ _ _ _ _ _ _ _ _ _ _ _ _ _ _ _ _ _ _ _ _ _ _ _ _ _ _ _ _ _ _ _ (HTA.out) (HGN.out) (HTA.out.rg) HSN0.out (Nat.le_trans (Nat.add_le_add_right HLL.out _) HLN.out) C5 HC5.out
set_option maxHeartbeats 8000000 in
set_option maxRecDepth 100000 in
theorem ref_fill_ft (g : Grp) (A : Option Addr) (c : Nat) (p : Prt) (Ap : Option Addr) (cp : Nat) (w : World) (h : Rd w A c g.l) (hp : Rd w Ap cp p.l) (hi : p.mrk = true → 0 ≤ p.ix ∧ p.ix ≤ 1099511627776) (hl : g.l.length + p.l.length ≤ 4398046511104) (h1 : p.mrk = false) (h2 : p.hed = true) :
    Calls Try.prog 36 #[vG g A c, vP p Ap cp] w (GotG w (fillR g p)) := by
  have HLL := Aside0.mk (head_len g p)
  have HLN := Aside0.mk hl
  have HGG : Aside0 (headP (compP g p) p = (⟨g.id, g.fi, g.tm, p.ht, p.hv, p.hc, g.l⟩ : Grp)) := ⟨by unfold headP compP; rw [h1, h2]; rfl⟩
  have HF : Aside0 (fillR g p = ⟨((⟨g.id, g.fi, g.tm, p.ht, p.hv, p.hc, g.l⟩ : Grp)).id, ((⟨g.id, g.fi, g.tm, p.ht, p.hv, p.hc, g.l⟩ : Grp)).fi, ((⟨g.id, g.fi, g.tm, p.ht, p.hv, p.hc, g.l⟩ : Grp)).tm, ((⟨g.id, g.fi, g.tm, p.ht, p.hv, p.hc, g.l⟩ : Grp)).ht, ((⟨g.id, g.fi, g.tm, p.ht, p.hv, p.hc, g.l⟩ : Grp)).hv, ((⟨g.id, g.fi, g.tm, p.ht, p.hv, p.hc, g.l⟩ : Grp)).hc, fillL ((⟨g.id, g.fi, g.tm, p.ht, p.hv, p.hc, g.l⟩ : Grp)).fi ((⟨g.id, g.fi, g.tm, p.ht, p.hv, p.hc, g.l⟩ : Grp)).l p.l⟩) := ⟨by unfold fillR; rw [HGG.out]⟩
  rw [HGG.out] at HLL
  rw [HF.out]
  have HT0 := Aside0.mk (Two.new g A c p Ap cp w h hp)
  have HH1 := Aside0.mk h1
  have HH2 := Aside0.mk h2
  have hi' := hi
  rw [h1] at hi'
  have HI := Aside0.mk hi'
  clear h hp hl HF HGG hi hi'
  unfold vG vP
  rw [h1, h2]
  clear h1 h2
  go_enter Try.func36, Try.ntmps36
  obtain ⟨C5, hC5⟩ : ∃ C, (match Try.f36.body with | some (.seq _ (.seq _ (.seq _ (.seq _ c)))) => c | _ => .skip) = C := ⟨_, rfl⟩
  have HC5 := Aside0.mk hC5
  simp only [Try.f36] at hC5
  rw [hC5]
  obtain ⟨C, hC⟩ : ∃ C, (match Try.f36.body with | some (.seq _ c) => c | _ => .skip) = C := ⟨_, rfl⟩
  have HC := Aside0.mk hC
  simp only [Try.f36] at hC
  rw [hC5] at hC
  rw [hC]
  clear hC5
  go_wp2
  obtain ⟨s, hs⟩ : ∃ s, w.heap.size = s := ⟨_, rfl⟩
  have HT1 := HT0.out
  rw [hs] at HT1 ⊢
  rw [HH1.out, HH2.out] at HT1
  obtain ⟨W, hW⟩ : ∃ W, (((w.alloc (.cells #[.int .i64 g.id, .int .i64 g.fi, .int .i64 g.tm, .int .i64 g.ht, .int .i64 g.hv, .int .i64 g.hc, .slice A g.l.length c] 26)).alloc (.cells #[.int .i64 p.g, .int .i64 p.k, .slice Ap p.l.length cp, .int .i64 p.ht, .int .i64 p.hv, .int .i64 p.hc, .int .i64 p.ix, .int .i64 p.tm, .bool false, .bool true] 28)).alloc (.cells #[.int .i64 0, .int .i64 0, .int .i64 0, .int .i64 0, .int .i64 0, .int .i64 0, .slice none 0 0] 26)) = W := ⟨_, rfl⟩
  rw [hW] at HT1 ⊢
  have HT := Aside0.mk HT1
  have HS := Aside0.mk hs
  subst hC
  clear hW HT1 HT0 hs HC
  obtain ⟨e0, e1, e2, e3, e4, e5, e6⟩ := HT.out.bg.box
  obtain ⟨p0, p1, p2, p3, p4, p5, p6, p7, p8, p9⟩ := HT.out.bp.box
  rw [HH1.out] at p8
  rw [HH2.out] at p9
  obtain ⟨n0, hn0⟩ : ∃ n, W.heap.size = n := ⟨_, rfl⟩
  have HN0 := Aside0.mk hn0
  have HSN0 : Aside0 (s + 3 ≤ n0) := ⟨by rw [← hn0]; exact HT.out.sz⟩
  have l1 : s < n0 := by have := HSN0.out; omega
  have l2 : s + 1 < n0 := by have := HSN0.out; omega
  have m1 : s ≠ n0 := by omega
  have m2 : s + 1 ≠ n0 := by omega
  have HTA := Aside0.mk (HT.out.below ((Below.refl _ _).alloc (Nat.le_refl _) (.cells #[.int .i64 g.id, .int .i64 g.fi, .int .i64 g.tm, .int .i64 g.ht, .int .i64 g.hv, .int .i64 g.hc, .slice A g.l.length c] 26)))
  have hgn := BlkG.new g A c W
  rw [hn0] at hgn
  have HGN := Aside0.mk hgn
  clear hgn
  go_wp2
  have hgh := BlkG.new ⟨g.id, g.fi, g.tm, p.ht, p.hv, p.hc, g.l⟩ A c W
  rw [HN0.out] at hgh
  have hta := HT.out.below ((Below.refl _ _).alloc (Nat.le_refl _) (.cells #[.int .i64 g.id, .int .i64 g.fi, .int .i64 g.tm, .int .i64 p.ht, .int .i64 p.hv, .int .i64 p.hc, .slice A g.l.length c] 26))
  exact fill_tail g ⟨g.id, g.fi, g.tm, p.ht, p.hv, p.hc, g.l⟩ A A c c p Ap cp s n0 w _ _ _ _ _ _ _ _ _ _ _ _ _ _ _ _ _ _ _ _ _ _ _ _ _ _ _ _ _ _ _ _ _ _ _ _ _ _ _ _ _ _ _ _ _ _ _ _ _ _ _ _ _ _ _ _ _ _ _ _ _ (hta) (hgh) (hta.rg) HSN0.out (Nat.le_trans (Nat.add_le_add_right HLL.out _) HLN.out) C5 HC5.out
set_option maxHeartbeats 8000000 in
set_option maxRecDepth 100000 in
theorem ref_fill_tf (g : Grp) (A : Option Addr) (c : Nat) (p : Prt) (Ap : Option Addr) (cp : Nat) (w : World) (h : Rd w A c g.l) (hp : Rd w Ap cp p.l) (hi : p.mrk = true → 0 ≤ p.ix ∧ p.ix ≤ 1099511627776) (hl : g.l.length + p.l.length ≤ 4398046511104) (h1 : p.mrk = true) (h2 : p.hed = false) :
    Calls Try.prog 36 #[vG g A c, vP p Ap cp] w (GotG w (fillR g p)) := by
  have HLL := Aside0.mk (head_len g p)
  have HLN := Aside0.mk hl
  have HGG : Aside0 (headP (compP g p) p = ((compG g p.ix p.tm) : Grp)) := ⟨by unfold headP compP; rw [h1, h2]; rfl⟩
  have HF : Aside0 (fillR g p = ⟨(((compG g p.ix p.tm) : Grp)).id, (((compG g p.ix p.tm) : Grp)).fi, (((compG g p.ix p.tm) : Grp)).tm, (((compG g p.ix p.tm) : Grp)).ht, (((compG g p.ix p.tm) : Grp)).hv, (((compG g p.ix p.tm) : Grp)).hc, fillL (((compG g p.ix p.tm) : Grp)).fi (((compG g p.ix p.tm) : Grp)).l p.l⟩) := ⟨by unfold fillR; rw [HGG.out]⟩
  rw [HGG.out] at HLL
  rw [HF.out]
  have HT0 := Aside0.mk (Two.new g A c p Ap cp w h hp)
  have HH1 := Aside0.mk h1
  have HH2 := Aside0.mk h2
  have hi' := hi
  rw [h1] at hi'
  have HI := Aside0.mk hi'
  clear h hp hl HF HGG hi hi'
  unfold vG vP
  rw [h1, h2]
  clear h1 h2
  go_enter Try.func36, Try.ntmps36
  obtain ⟨C5, hC5⟩ : ∃ C, (match Try.f36.body with | some (.seq _ (.seq _ (.seq _ (.seq _ c)))) => c | _ => .skip) = C := ⟨_, rfl⟩
  have HC5 := Aside0.mk hC5
  simp only [Try.f36] at hC5
  rw [hC5]
  obtain ⟨C, hC⟩ : ∃ C, (match Try.f36.body with | some (.seq _ c) => c | _ => .skip) = C := ⟨_, rfl⟩
  have HC := Aside0.mk hC
  simp only [Try.f36] at hC
  rw [hC5] at hC
  rw [hC]
  clear hC5
  go_wp2
  obtain ⟨s, hs⟩ : ∃ s, w.heap.size = s := ⟨_, rfl⟩
  have HT1 := HT0.out
  rw [hs] at HT1 ⊢
  rw [HH1.out, HH2.out] at HT1
  obtain ⟨W, hW⟩ : ∃ W, (((w.alloc (.cells #[.int .i64 g.id, .int .i64 g.fi, .int .i64 g.tm, .int .i64 g.ht, .int .i64 g.hv, .int .i64 g.hc, .slice A g.l.length c] 26)).alloc (.cells #[.int .i64 p.g, .int .i64 p.k, .slice Ap p.l.length cp, .int .i64 p.ht, .int .i64 p.hv, .int .i64 p.hc, .int .i64 p.ix, .int .i64 p.tm, .bool true, .bool false] 28)).alloc (.cells #[.int .i64 0, .int .i64 0, .int .i64 0, .int .i64 0, .int .i64 0, .int .i64 0, .slice none 0 0] 26)) = W := ⟨_, rfl⟩
  rw [hW] at HT1 ⊢
  have HT := Aside0.mk HT1
  have HS := Aside0.mk hs
  subst hC
  clear hW HT1 HT0 hs HC
  obtain ⟨e0, e1, e2, e3, e4, e5, e6⟩ := HT.out.bg.box
  obtain ⟨p0, p1, p2, p3, p4, p5, p6, p7, p8, p9⟩ := HT.out.bp.box
  rw [HH1.out] at p8
  rw [HH2.out] at p9
  obtain ⟨n0, hn0⟩ : ∃ n, W.heap.size = n := ⟨_, rfl⟩
  have HN0 := Aside0.mk hn0
  have HSN0 : Aside0 (s + 3 ≤ n0) := ⟨by rw [← hn0]; exact HT.out.sz⟩
  have l1 : s < n0 := by have := HSN0.out; omega
  have l2 : s + 1 < n0 := by have := HSN0.out; omega
  have m1 : s ≠ n0 := by omega
  have m2 : s + 1 ≠ n0 := by omega
  have HTA := Aside0.mk (HT.out.below ((Below.refl _ _).alloc (Nat.le_refl _) (.cells #[.int .i64 g.id, .int .i64 g.fi, .int .i64 g.tm, .int .i64 g.ht, .int .i64 g.hv, .int .i64 g.hc, .slice A g.l.length c] 26)))
  have hgn := BlkG.new g A c W
  rw [hn0] at hgn
  have HGN := Aside0.mk hgn
  clear hgn
  go_wp2_with (go_at_call 35; refine (ref_compact g A c p.ix p.tm _ HTA.out.rg (HI.out (by first | rfl | trivial)).1 (HI.out (by first | rfl | trivial)).2).mono ?_; rintro e w1 ⟨A1, c1, rfl, hrd1, hw1⟩; have HRD1 := Aside0.mk hrd1; have HW1 := Aside0.mk hw1; have HT1 := Aside0.mk (HTA.out.below hw1); have HG1 := Aside0.mk (HGN.out.below hw1); clear e0 e1 e2 e3 e4 e5 e6 p0 p1 p2 p3 p4 p5 p6 p7 p8 p9; obtain ⟨e0, e1, e2, e3, e4, e5, e6⟩ := HG1.out.box; have ef := HG1.out.free; obtain ⟨p0, p1, p2, p3, p4, p5, p6, p7, p8, p9⟩ := HT1.out.bp.box; rw [HH1.out] at p8; rw [HH2.out] at p9; clear hrd1 hw1)
  have hx := only_store (compG g p.ix p.tm) A1 c1 n0 w1
  exact fill_tail g (compG g p.ix p.tm) A A1 c c1 p Ap cp s n0 w _ _ _ _ _ _ _ _ _ _ _ _ _ _ _ _ _ _ _ _ _ _ _ _ _ _ _ _ _ _ _ _ _ _ _ _ _ _ _ _ _ _ _ _ _ _ _ _ _ _ _ _ _ _ _ _ _ _ _ _ _ (HT1.out.only hx (fun q hq h => by have h3 : q = n0 := h; have := HSN0.out; omega)) (HG1.out.store (g := (compG g p.ix p.tm)) (A := A1) (c := c1)) (Rd.only HRD1.out hx (fun q hq h => by have h3 : q = n0 := h; subst h3; exact Rd.apartG HRD1.out HG1.out hq)) HSN0.out (Nat.le_trans (Nat.add_le_add_right HLL.out _) HLN.out) C5 HC5.out
set_option maxHeartbeats 8000000 in
set_option maxRecDepth 100000 in
theorem ref_fill_tt (g : Grp) (A : Option Addr) (c : Nat) (p : Prt) (Ap : Option Addr) (cp : Nat) (w : World) (h : Rd w A c g.l) (hp : Rd w Ap cp p.l) (hi : p.mrk = true → 0 ≤ p.ix ∧ p.ix ≤ 1099511627776) (hl : g.l.length + p.l.length ≤ 4398046511104) (h1 : p.mrk = true) (h2 : p.hed = true) :
    Calls Try.prog 36 #[vG g A c, vP p Ap cp] w (GotG w (fillR g p)) := by
  have HLL := Aside0.mk (head_len g p)
  have HLN := Aside0.mk hl
  have HGG : Aside0 (headP (compP g p) p = (⟨(compG g p.ix p.tm).id, (compG g p.ix p.tm).fi, (compG g p.ix p.tm).tm, p.ht, p.hv, p.hc, (compG g p.ix p.tm).l⟩ : Grp)) := ⟨by unfold headP compP; rw [h1, h2]; rfl⟩
  have HF : Aside0 (fillR g p = ⟨((⟨(compG g p.ix p.tm).id, (compG g p.ix p.tm).fi, (compG g p.ix p.tm).tm, p.ht, p.hv, p.hc, (compG g p.ix p.tm).l⟩ : Grp)).id, ((⟨(compG g p.ix p.tm).id, (compG g p.ix p.tm).fi, (compG g p.ix p.tm).tm, p.ht, p.hv, p.hc, (compG g p.ix p.tm).l⟩ : Grp)).fi, ((⟨(compG g p.ix p.tm).id, (compG g p.ix p.tm).fi, (compG g p.ix p.tm).tm, p.ht, p.hv, p.hc, (compG g p.ix p.tm).l⟩ : Grp)).tm, ((⟨(compG g p.ix p.tm).id, (compG g p.ix p.tm).fi, (compG g p.ix p.tm).tm, p.ht, p.hv, p.hc, (compG g p.ix p.tm).l⟩ : Grp)).ht, ((⟨(compG g p.ix p.tm).id, (compG g p.ix p.tm).fi, (compG g p.ix p.tm).tm, p.ht, p.hv, p.hc, (compG g p.ix p.tm).l⟩ : Grp)).hv, ((⟨(compG g p.ix p.tm).id, (compG g p.ix p.tm).fi, (compG g p.ix p.tm).tm, p.ht, p.hv, p.hc, (compG g p.ix p.tm).l⟩ : Grp)).hc, fillL ((⟨(compG g p.ix p.tm).id, (compG g p.ix p.tm).fi, (compG g p.ix p.tm).tm, p.ht, p.hv, p.hc, (compG g p.ix p.tm).l⟩ : Grp)).fi ((⟨(compG g p.ix p.tm).id, (compG g p.ix p.tm).fi, (compG g p.ix p.tm).tm, p.ht, p.hv, p.hc, (compG g p.ix p.tm).l⟩ : Grp)).l p.l⟩) := ⟨by unfold fillR; rw [HGG.out]⟩
  rw [HGG.out] at HLL
  rw [HF.out]
  have HT0 := Aside0.mk (Two.new g A c p Ap cp w h hp)
  have HH1 := Aside0.mk h1
  have HH2 := Aside0.mk h2
  have hi' := hi
  rw [h1] at hi'
  have HI := Aside0.mk hi'
  clear h hp hl HF HGG hi hi'
  unfold vG vP
  rw [h1, h2]
  clear h1 h2
  go_enter Try.func36, Try.ntmps36
  obtain ⟨C5, hC5⟩ : ∃ C, (match Try.f36.body with | some (.seq _ (.seq _ (.seq _ (.seq _ c)))) => c | _ => .skip) = C := ⟨_, rfl⟩
  have HC5 := Aside0.mk hC5
  simp only [Try.f36] at hC5
  rw [hC5]
  obtain ⟨C, hC⟩ : ∃ C, (match Try.f36.body with | some (.seq _ c) => c | _ => .skip) = C := ⟨_, rfl⟩
  have HC := Aside0.mk hC
  simp only [Try.f36] at hC
  rw [hC5] at hC
  rw [hC]
  clear hC5
  go_wp2
  obtain ⟨s, hs⟩ : ∃ s, w.heap.size = s := ⟨_, rfl⟩
  have HT1 := HT0.out
  rw [hs] at HT1 ⊢
  rw [HH1.out, HH2.out] at HT1
  obtain ⟨W, hW⟩ : ∃ W, (((w.alloc (.cells #[.int .i64 g.id, .int .i64 g.fi, .int .i64 g.tm, .int .i64 g.ht, .int .i64 g.hv, .int .i64 g.hc, .slice A g.l.length c] 26)).alloc (.cells #[.int .i64 p.g, .int .i64 p.k, .slice Ap p.l.length cp, .int .i64 p.ht, .int .i64 p.hv, .int .i64 p.hc, .int .i64 p.ix, .int .i64 p.tm, .bool true, .bool true] 28)).alloc (.cells #[.int .i64 0, .int .i64 0, .int .i64 0, .int .i64 0, .int .i64 0, .int .i64 0, .slice none 0 0] 26)) = W := ⟨_, rfl⟩
  rw [hW] at HT1 ⊢
  have HT := Aside0.mk HT1
  have HS := Aside0.mk hs
  subst hC
  clear hW HT1 HT0 hs HC
  obtain ⟨e0, e1, e2, e3, e4, e5, e6⟩ := HT.out.bg.box
  obtain ⟨p0, p1, p2, p3, p4, p5, p6, p7, p8, p9⟩ := HT.out.bp.box
  rw [HH1.out] at p8
  rw [HH2.out] at p9
  obtain ⟨n0, hn0⟩ : ∃ n, W.heap.size = n := ⟨_, rfl⟩
  have HN0 := Aside0.mk hn0
  have HSN0 : Aside0 (s + 3 ≤ n0) := ⟨by rw [← hn0]; exact HT.out.sz⟩
  have l1 : s < n0 := by have := HSN0.out; omega
  have l2 : s + 1 < n0 := by have := HSN0.out; omega
  have m1 : s ≠ n0 := by omega
  have m2 : s + 1 ≠ n0 := by omega
  have HTA := Aside0.mk (HT.out.below ((Below.refl _ _).alloc (Nat.le_refl _) (.cells #[.int .i64 g.id, .int .i64 g.fi, .int .i64 g.tm, .int .i64 g.ht, .int .i64 g.hv, .int .i64 g.hc, .slice A g.l.length c] 26)))
  have hgn := BlkG.new g A c W
  rw [hn0] at hgn
  have HGN := Aside0.mk hgn
  clear hgn
  go_wp2_with (go_at_call 35; refine (ref_compact g A c p.ix p.tm _ HTA.out.rg (HI.out (by first | rfl | trivial)).1 (HI.out (by first | rfl | trivial)).2).mono ?_; rintro e w1 ⟨A1, c1, rfl, hrd1, hw1⟩; have HRD1 := Aside0.mk hrd1; have HW1 := Aside0.mk hw1; have HT1 := Aside0.mk (HTA.out.below hw1); have HG1 := Aside0.mk (HGN.out.below hw1); clear e0 e1 e2 e3 e4 e5 e6 p0 p1 p2 p3 p4 p5 p6 p7 p8 p9; obtain ⟨e0, e1, e2, e3, e4, e5, e6⟩ := HG1.out.box; have ef := HG1.out.free; obtain ⟨p0, p1, p2, p3, p4, p5, p6, p7, p8, p9⟩ := HT1.out.bp.box; rw [HH1.out] at p8; rw [HH2.out] at p9; clear hrd1 hw1)
  have hx0 := only_store (compG g p.ix p.tm) A1 c1 n0 w1
  have hx := hx0.trans (only_hard p.ht p.hv p.hc n0 _)
  exact fill_tail g ⟨(compG g p.ix p.tm).id, (compG g p.ix p.tm).fi, (compG g p.ix p.tm).tm, p.ht, p.hv, p.hc, (compG g p.ix p.tm).l⟩ A A1 c c1 p Ap cp s n0 w _ _ _ _ _ _ _ _ _ _ _ _ _ _ _ _ _ _ _ _ _ _ _ _ _ _ _ _ _ _ _ _ _ _ _ _ _ _ _ _ _ _ _ _ _ _ _ _ _ _ _ _ _ _ _ _ _ _ _ _ _ (HT1.out.only hx (fun q hq h => by have h3 : q = n0 := h; have := HSN0.out; omega)) ((HG1.out.store (g := (compG g p.ix p.tm)) (A := A1) (c := c1)).hard p.ht p.hv p.hc) (Rd.only HRD1.out hx (fun q hq h => by have h3 : q = n0 := h; subst h3; exact Rd.apartG HRD1.out HG1.out hq)) HSN0.out (Nat.le_trans (Nat.add_le_add_right HLL.out _) HLN.out) C5 HC5.out
theorem ref_fill (g : Grp) (A : Option Addr) (c : Nat) (p : Prt) (Ap : Option Addr) (cp : Nat) (w : World) (h : Rd w A c g.l) (hp : Rd w Ap cp p.l) (hi : p.mrk = true → 0 ≤ p.ix ∧ p.ix ≤ 1099511627776) (hl : g.l.length + p.l.length ≤ 4398046511104) :
    Calls Try.prog 36 #[vG g A c, vP p Ap cp] w (GotG w (fillR g p)) := by
  cases h1 : p.mrk <;> cases h2 : p.hed
  · exact ref_fill_ff g A c p Ap cp w h hp hi hl h1 h2
  · exact ref_fill_ft g A c p Ap cp w h hp hi hl h1 h2
  · exact ref_fill_tf g A c p Ap cp w h hp hi hl h1 h2
  · exact ref_fill_tt g A c p Ap cp w h hp hi hl h1 h2
end Go.Proofs.Ytfnflbclhaeedaa.PartW
