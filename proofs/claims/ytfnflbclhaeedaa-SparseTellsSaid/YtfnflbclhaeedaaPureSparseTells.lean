/- The statement SparseTells: of every group with holes and every part whether it is one, what it makes; no condition beyond the row's. -/
import Derived.Test.YtfnflbclhaeedaaKnown
import Derived.Test.YtfnflbclhaeedaaLoose
import Derived.Test.YtfnflbclhaeedaaFew
set_option linter.unusedVariables false
set_option linter.unusedSimpArgs false
namespace Go.Proofs.Ytfnflbclhaeedaa.PartW
open Go Go.RowKit Go.Shelf Go.Proofs.Ytfnflbclhaeedaa.A Go.Proofs.Ytfnflbclhaeedaa.Sp Go.Proofs.Ytfnflbclhaeedaa.Reg Go.Proofs.Ytfnflbclhaeedaa.Seq Go.Proofs.YtfnflbclhaeedaaW.PrintWords Go.Proofs.YtfnflbclhaeedaaW.PrintLast Go.Proofs.YtfnflbclhaeedaaW.PrintMore
theorem dense_calls' (g : Grp) (A : Option Addr) (c : Nat) (w : World) (h : Rd w A c g.l) {b : Bool} (hb : isG true g = b) : Calls Try.prog 15 #[vG g A c] w fun e w' => e = .returned (.bool b) ∧ Below w.heap.size w w' := by
  rw [← hb]; exact sparse_Dense g A c w h
theorem is6_calls' (g : Grp) (A : Option Addr) (c : Nat) (w : World) (h : Rd w A c g.l) {b : Bool} (hb : isG true g = b) : Calls Try.prog 16 #[vG g A c] w fun e w' => e = .returned (.bool b) ∧ Below w.heap.size w w' := by
  rw [← hb]; exact ref_Is6 g A c w h
theorem same_calls' (a b : Grp) (A : Option Addr) (c : Nat) (A' : Option Addr) (c' : Nat) (w : World) (ha : Rd w A c a.l) (hb : Rd w A' c' b.l) {r : Bool} (hr : sameG a b = r) : Calls Try.prog 17 #[vG a A c, vG b A' c'] w fun e w' => e = .returned (.bool r) ∧ Below w.heap.size w w' := by
  rw [← hr]; exact ref_SameG a b A c A' c' w ha hb
set_option maxHeartbeats 8000000 in
set_option maxRecDepth 100000 in
theorem tells_walk (g : Grp) (A : Option Addr) (c : Nat) (p : Prt) (Ap : Option Addr) (cp : Nat) (w : World) (h : Rd w A c g.l) (hp : Rd w Ap cp p.l) :
    Calls Try.prog 3 #[vG g A c, vP p Ap cp] w fun e w' => e = .returned (.bool true) ∧ Below w.heap.size w w' := by
  obtain ⟨r1, hq1, hf1⟩ := few_group g h.bd
  obtain ⟨r2, hq2, hf2⟩ := few_part p hp.bd
  obtain ⟨s, hs⟩ : ∃ s, w.heap.size = s := ⟨_, rfl⟩
  have hg0 := GP.new g A c p Ap cp w h hp
  rw [hs] at hg0
  have HP0 := Aside0.mk hg0
  have HF1 := Aside0.mk hf1
  have HF2 := Aside0.mk hf2
  have HQ1 := Aside0.mk hq1
  have HQ2 := Aside0.mk hq2
  have HS := Aside0.mk hs
  clear h hp hf1 hf2 hq1 hq2 hg0
  unfold vG vP
  cases r1 with
  | false =>
    go_enter Try.func3, Try.ntmps3
    go_wp2_with (first | (go_at_call 9; refine (known12 _).mono ?_; rintro e w1 ⟨rfl, hw1⟩; have HP1 := Aside0.mk (HP0.out.below hw1); clear hw1; obtain ⟨e0, e1, e2, e3, e4, e5, e6⟩ := HP1.out.bg.box; obtain ⟨p0, p1, p2, p3, p4, p5, p6, p7, p8, p9⟩ := HP1.out.bp.box) | (go_at_call 10; refine (HF1.out A c _ HP1.out.rg).mono ?_; rintro e w2 ⟨rfl, hw2⟩; have HP2 := Aside0.mk (HP1.out.below hw2); clear hw2; clear e0 e1 e2 e3 e4 e5 e6 p0 p1 p2 p3 p4 p5 p6 p7 p8 p9; obtain ⟨e0, e1, e2, e3, e4, e5, e6⟩ := HP2.out.bg.box; obtain ⟨p0, p1, p2, p3, p4, p5, p6, p7, p8, p9⟩ := HP2.out.bp.box))
    go_ret
    exact ⟨rfl, by rw [HS.out]; exact HP2.out.b⟩
  | true =>
    cases r2 with
    | false =>
      go_enter Try.func3, Try.ntmps3
      go_wp2_with (first | (go_at_call 9; refine (known12 _).mono ?_; rintro e w1 ⟨rfl, hw1⟩; have HP1 := Aside0.mk (HP0.out.below hw1); clear hw1; obtain ⟨e0, e1, e2, e3, e4, e5, e6⟩ := HP1.out.bg.box; obtain ⟨p0, p1, p2, p3, p4, p5, p6, p7, p8, p9⟩ := HP1.out.bp.box) | (go_at_call 10; refine (HF1.out A c _ HP1.out.rg).mono ?_; rintro e w2 ⟨rfl, hw2⟩; have HP2 := Aside0.mk (HP1.out.below hw2); clear hw2; clear e0 e1 e2 e3 e4 e5 e6 p0 p1 p2 p3 p4 p5 p6 p7 p8 p9; obtain ⟨e0, e1, e2, e3, e4, e5, e6⟩ := HP2.out.bg.box; obtain ⟨p0, p1, p2, p3, p4, p5, p6, p7, p8, p9⟩ := HP2.out.bp.box) | (go_at_call 11; refine (HF2.out Ap cp _ HP2.out.rp).mono ?_; rintro e w3 ⟨rfl, hw3⟩; have HP3 := Aside0.mk (HP2.out.below hw3); clear hw3; clear e0 e1 e2 e3 e4 e5 e6 p0 p1 p2 p3 p4 p5 p6 p7 p8 p9; obtain ⟨e0, e1, e2, e3, e4, e5, e6⟩ := HP3.out.bg.box; obtain ⟨p0, p1, p2, p3, p4, p5, p6, p7, p8, p9⟩ := HP3.out.bp.box; obtain ⟨n5, hn5⟩ : ∃ n, w3.heap.size = n := ⟨_, rfl⟩; have HN5 := Aside0.mk hn5; have HS5 : Aside0 (s + 2 ≤ n5) := ⟨(by rw [← hn5]; exact HP3.out.sz)⟩; have q1 : s < n5 := (by have := HS5.out; omega); have q2 : s + 1 < n5 := (by have := HS5.out; omega); have u1 := Nat.ne_of_lt q1; have u2 := Nat.ne_of_lt q2; have hb5 := BlkG.new g A c w3; rw [hn5] at hb5; have HB5 := Aside0.mk hb5; clear hb5; have HP5 := Aside0.mk (HP3.out.alloc (.cells #[.int .i64 g.id, .int .i64 g.fi, .int .i64 g.tm, .int .i64 g.ht, .int .i64 g.hv, .int .i64 g.hc, .slice A g.l.length c] 26))))
      go_ret
      exact ⟨rfl, by rw [HS.out]; exact HP3.out.b⟩
    | true =>
      have HL1 : Aside0 (g.l.length + p.l.length ≤ 4398046511104) := ⟨by have := HQ1.out rfl; have := HQ2.out rfl; omega⟩
      clear HQ1 HQ2
      go_enter Try.func3, Try.ntmps3
      go_wp2_with (first
        | (go_at_call 9; refine (known12 _).mono ?_; rintro e w1 ⟨rfl, hw1⟩; have HP1 := Aside0.mk (HP0.out.below hw1); clear hw1; obtain ⟨e0, e1, e2, e3, e4, e5, e6⟩ := HP1.out.bg.box; obtain ⟨p0, p1, p2, p3, p4, p5, p6, p7, p8, p9⟩ := HP1.out.bp.box)
        | (go_at_call 10; refine (HF1.out A c _ HP1.out.rg).mono ?_; rintro e w2 ⟨rfl, hw2⟩; have HP2 := Aside0.mk (HP1.out.below hw2); clear hw2; clear e0 e1 e2 e3 e4 e5 e6 p0 p1 p2 p3 p4 p5 p6 p7 p8 p9; obtain ⟨e0, e1, e2, e3, e4, e5, e6⟩ := HP2.out.bg.box; obtain ⟨p0, p1, p2, p3, p4, p5, p6, p7, p8, p9⟩ := HP2.out.bp.box)
        | (go_at_call 11; refine (HF2.out Ap cp _ HP2.out.rp).mono ?_; rintro e w3 ⟨rfl, hw3⟩; have HP3 := Aside0.mk (HP2.out.below hw3); clear hw3; clear e0 e1 e2 e3 e4 e5 e6 p0 p1 p2 p3 p4 p5 p6 p7 p8 p9; obtain ⟨e0, e1, e2, e3, e4, e5, e6⟩ := HP3.out.bg.box; obtain ⟨p0, p1, p2, p3, p4, p5, p6, p7, p8, p9⟩ := HP3.out.bp.box; obtain ⟨n5, hn5⟩ : ∃ n, w3.heap.size = n := ⟨_, rfl⟩; have HN5 := Aside0.mk hn5; have HS5 : Aside0 (s + 2 ≤ n5) := ⟨(by rw [← hn5]; exact HP3.out.sz)⟩; have q1 : s < n5 := (by have := HS5.out; omega); have q2 : s + 1 < n5 := (by have := HS5.out; omega); have u1 := Nat.ne_of_lt q1; have u2 := Nat.ne_of_lt q2; have hb5 := BlkG.new g A c w3; rw [hn5] at hb5; have HB5 := Aside0.mk hb5; clear hb5; have HP5 := Aside0.mk (HP3.out.alloc (.cells #[.int .i64 g.id, .int .i64 g.fi, .int .i64 g.tm, .int .i64 g.ht, .int .i64 g.hv, .int .i64 g.hc, .slice A g.l.length c] 26)))
        | (at_builtin; refine wpList_append_ent (v := .slice none 0 0) (l := []) (m := g.l) (b := n5 + 1) rfl (.const (.slice none 0 0)) (.tmp 19) rfl rfl (OwnE.nil _ _) rfl HP5.out.rg (by rw [List.length_nil, Nat.zero_add]; exact HP5.out.rg.bd) (Nat.le_of_eq (by rw [World.size_alloc, HN5.out])) ?_; intro v4 w4 ho4 hg4 ha4; have hon : Only (fun _ => False) (w3.alloc (.cells #[.int .i64 g.id, .int .i64 g.fi, .int .i64 g.tm, .int .i64 g.ht, .int .i64 g.hv, .int .i64 g.hc, .slice A g.l.length c] 26)) w4 := (Only.refl _ _).of_grown hg4 (fun k hk _ => by simp [Value.ownBlock] at hk); have hp6 := HP5.out.only hon (fun _ _ h => h); have hb6 := HB5.out.only hon (fun h => h); obtain ⟨A2, c2, rfl, hrd2, hfr2⟩ := ho4.rd' (by have := HP5.out.rg.bd; simpa using this); have HP6 := Aside0.mk hp6; have HB6 := Aside0.mk hb6; have HRD2 := Aside0.mk hrd2; have HFR2 := Aside0.mk hfr2; clear hon hp6 hb6 hrd2 hfr2 ho4 hg4 ha4; clear e0 e1 e2 e3 e4 e5 e6 p0 p1 p2 p3 p4 p5 p6 p7 p8 p9; obtain ⟨e0, e1, e2, e3, e4, e5, e6⟩ := HP6.out.bg.box; obtain ⟨p0, p1, p2, p3, p4, p5, p6, p7, p8, p9⟩ := HP6.out.bp.box; obtain ⟨b0, b1, b2, b3, b4, b5, b6⟩ := HB6.out.box; have bf := HB6.out.free; simp only [List.nil_append]))
      have hx := (Only.refl (fun q => q = n5) w4).setCell (p := ⟨n5, 6, none⟩) rfl (.slice A2 g.l.length c2)
      have HP7 := Aside0.mk (HP6.out.only hx (fun q hq h => by have h2 : q = n5 := h; have := HS5.out; omega))
      have HB7 := Aside0.mk (HB6.out.setL g.l A2 c2)
      have HRD7 := Aside0.mk (Rd.only HRD2.out hx (fun q hq h => by have h2 : q = n5 := h; subst h2; exact Rd.apartG HRD2.out HB6.out hq))
      clear hx e0 e1 e2 e3 e4 e5 e6 p0 p1 p2 p3 p4 p5 p6 p7 p8 p9 b0 b1 b2 b3 b4 b5 b6 bf
      go_at_call 12
      refine (sparse_Do g A c p Ap cp _ HP7.out.rg HP7.out.rp HL1.out).mono ?_
      rintro e w6 ⟨A3, c3, rfl, hrd3, hw6⟩
      have HP8 := Aside0.mk (HP7.out.below hw6)
      have HB8 := Aside0.mk (BlkG.below HB7.out hw6)
      have HRD8 := Aside0.mk (HRD7.out.below hw6)
      have HRD3 := Aside0.mk hrd3
      clear hw6 hrd3
      obtain ⟨n6, hn6⟩ : ∃ n, w6.heap.size = n := ⟨_, rfl⟩
      have HN6 := Aside0.mk hn6
      go_wp2_with fail
      obtain ⟨b1, hb1⟩ : ∃ b, isG false g = b := ⟨_, rfl⟩
      obtain ⟨b2, hb2⟩ : ∃ b, isG true g = b := ⟨_, rfl⟩
      have HB1 := Aside0.mk hb1
      have HB2 := Aside0.mk hb2
      have HSM : Aside0 (sameG (doG g p) (looseG g p) = true) := ⟨by rw [do_loose]; exact sameG_iff.2 rfl⟩
      have HSG : Aside0 (sameG g g = true) := ⟨sameG_iff.2 rfl⟩
      have hd0 := BlkG.new (doG g p) A3 c3 w6
      rw [hn6] at hd0
      have HPX0 := Aside0.mk ((HP8.out.alloc (.cells #[.int .i64 (doG g p).id, .int .i64 (doG g p).fi, .int .i64 (doG g p).tm, .int .i64 (doG g p).ht, .int .i64 (doG g p).hv, .int .i64 (doG g p).hc, .slice A3 (doG g p).l.length c3] 26)).drew)
      have HBX0 := Aside0.mk ((HB8.out.alloc (.cells #[.int .i64 (doG g p).id, .int .i64 (doG g p).fi, .int .i64 (doG g p).tm, .int .i64 (doG g p).ht, .int .i64 (doG g p).hv, .int .i64 (doG g p).hc, .slice A3 (doG g p).l.length c3] 26)).below (below_drew (Below.refl _ _)))
      have HDX0 := Aside0.mk (hd0.below (below_drew (Below.refl _ _)))
      have HR2X0 := Aside0.mk ((HRD8.out.alloc (.cells #[.int .i64 (doG g p).id, .int .i64 (doG g p).fi, .int .i64 (doG g p).tm, .int .i64 (doG g p).ht, .int .i64 (doG g p).hv, .int .i64 (doG g p).hc, .slice A3 (doG g p).l.length c3] 26)).drew)
      have HR3X0 := Aside0.mk ((HRD3.out.alloc (.cells #[.int .i64 (doG g p).id, .int .i64 (doG g p).fi, .int .i64 (doG g p).tm, .int .i64 (doG g p).ht, .int .i64 (doG g p).hv, .int .i64 (doG g p).hc, .slice A3 (doG g p).l.length c3] 26)).drew)
      clear hd0 hn6 hb1 hb2
      refine start_ (n := 25) (S := (fun w' => BoxG g A c s w' ∧ BoxP p Ap cp (s + 1) w' ∧ BoxG g A2 c2 n5 w' ∧ BoxG (doG g p) A3 c3 n6 w')) (ds := []) #[false, false, false, false, false, false, false, false, false, false, false, false, false, false, false, false, false, false, false, false, false, false, false, false, false] (by kernel_rfl) rfl rfl ⟨HPX0.out.bg.box, HPX0.out.bp.box, HBX0.out.box, HDX0.out.box⟩ (fun hHeld => ?_)
      refine take_ (i := 0) (N := some 25) (v := ?_) (a' := ?_) #[true, false, false, false, false, false, false, false, false, false, false, false, false, false, false, false, false, false, false, false, false, false, false, false, false] rfl rfl (by kernel_rfl) (fun _ _ _ h => h) (Or.inl ⟨by rfl, ?_⟩) hHeld ?_ ?_
      rotate_left
      · rintro w' ⟨⟨e0, e1, e2, e3, e4, e5, e6⟩, ⟨p0, p1, p2, p3, p4, p5, p6, p7, p8, p9⟩, ⟨b0, b1, b2, b3, b4, b5, b6⟩, ⟨d0, d1, d2, d3, d4, d5, d6⟩⟩
        go_simp
        try with_reducible rfl
      rotate_left
      · simp only [Act.put, List.setIfInBounds_toArray, List.set_cons_zero, List.set_cons_succ]
        rfl
      refine take_ (i := 2) (N := some 27) (v := ?_) (a' := ?_) #[true, false, true, false, false, false, false, false, false, false, false, false, false, false, false, false, false, false, false, false, false, false, false, false, false] rfl rfl (by kernel_rfl) (fun _ _ _ h => h) (Or.inl ⟨by rfl, ?_⟩) hHeld ?_ ?_
      rotate_left
      · rintro w' ⟨⟨e0, e1, e2, e3, e4, e5, e6⟩, ⟨p0, p1, p2, p3, p4, p5, p6, p7, p8, p9⟩, ⟨b0, b1, b2, b3, b4, b5, b6⟩, ⟨d0, d1, d2, d3, d4, d5, d6⟩⟩
        go_simp
        try with_reducible rfl
      rotate_left
      · simp only [Act.put, List.setIfInBounds_toArray, List.set_cons_zero, List.set_cons_succ]
        rfl
      refine one_ (i := 1) (N := some 26) #[true, true, true, false, false, false, false, false, false, false, false, false, false, false, false, false, false, false, false, false, false, false, false, false, false] rfl rfl (by kernel_rfl) (by decide) (fun K hK => ?_)
      go_simp
      refine (is_calls' g A c _ HPX0.out.rg HB1.out).mono ?_; rintro e x1 ⟨rfl, hx⟩; have HX1 := Aside0.mk hx; have HPX1 := Aside0.mk (HPX0.out.below hx); have HBX1 := Aside0.mk (HBX0.out.below hx); have HDX1 := Aside0.mk (HDX0.out.below hx); have HR2X1 := Aside0.mk (HR2X0.out.below hx); have HR3X1 := Aside0.mk (HR3X0.out.below hx); clear hx
      refine hK.out _ _ ?_ (fun hHeld => ?_)
      · exact ⟨HPX1.out.bg.box, HPX1.out.bp.box, HBX1.out.box, HDX1.out.box⟩
      clear hK K
      try simp only [Act.put, List.setIfInBounds_toArray, List.set_cons_zero, List.set_cons_succ]
      refine one_ (i := 3) (N := some 28) #[true, true, true, true, false, false, false, false, false, false, false, false, false, false, false, false, false, false, false, false, false, false, false, false, false] rfl rfl (by kernel_rfl) (by decide) (fun K hK => ?_)
      go_simp
      refine (iss_calls' g A c _ HPX1.out.rg HB1.out).mono ?_; rintro e x2 ⟨rfl, hx⟩; have HX2 := Aside0.mk hx; have HPX2 := Aside0.mk (HPX1.out.below hx); have HBX2 := Aside0.mk (HBX1.out.below hx); have HDX2 := Aside0.mk (HDX1.out.below hx); have HR2X2 := Aside0.mk (HR2X1.out.below hx); have HR3X2 := Aside0.mk (HR3X1.out.below hx); clear hx
      refine hK.out _ _ ?_ (fun hHeld => ?_)
      · exact ⟨HPX2.out.bg.box, HPX2.out.bp.box, HBX2.out.box, HDX2.out.box⟩
      clear hK K
      try simp only [Act.put, List.setIfInBounds_toArray, List.set_cons_zero, List.set_cons_succ]
      refine pure_ (i := 4) (N := some 29) (v := ?_) (a' := ?_) #[true, true, true, true, true, false, false, false, false, false, false, false, false, false, false, false, false, false, false, false, false, false, false, false, false] rfl rfl (by kernel_rfl) (fun _ _ _ h => h) (Or.inl ⟨by rfl, ?_⟩) ?_ ?_
      rotate_left
      · intro w'
        go_simp
        try with_reducible rfl
      rotate_left
      · simp only [Act.put, List.setIfInBounds_toArray, List.set_cons_zero, List.set_cons_succ]
        rfl
      refine pure_ (i := 5) (N := some 30) (v := ?_) (a' := ?_) #[true, true, true, true, true, true, false, false, false, false, false, false, false, false, false, false, false, false, false, false, false, false, false, false, false] rfl rfl (by kernel_rfl) (fun _ _ _ h => h) (Or.inl ⟨by rfl, ?_⟩) ?_ ?_
      rotate_left
      · intro w'
        go_simp
        try with_reducible rfl
      rotate_left
      · simp only [Act.put, List.setIfInBounds_toArray, List.set_cons_zero, List.set_cons_succ]
        rfl
      refine take_ (i := 6) (N := some 31) (v := ?_) (a' := ?_) #[true, true, true, true, true, true, true, false, false, false, false, false, false, false, false, false, false, false, false, false, false, false, false, false, false] rfl rfl (by kernel_rfl) (fun _ _ _ h => h) (Or.inl ⟨by rfl, ?_⟩) hHeld ?_ ?_
      rotate_left
      · rintro w' ⟨⟨e0, e1, e2, e3, e4, e5, e6⟩, ⟨p0, p1, p2, p3, p4, p5, p6, p7, p8, p9⟩, ⟨b0, b1, b2, b3, b4, b5, b6⟩, ⟨d0, d1, d2, d3, d4, d5, d6⟩⟩
        go_simp
        try with_reducible rfl
      rotate_left
      · simp only [Act.put, List.setIfInBounds_toArray, List.set_cons_zero, List.set_cons_succ]
        rfl
      refine take_ (i := 8) (N := some 33) (v := ?_) (a' := ?_) #[true, true, true, true, true, true, true, false, true, false, false, false, false, false, false, false, false, false, false, false, false, false, false, false, false] rfl rfl (by kernel_rfl) (fun _ _ _ h => h) (Or.inl ⟨by rfl, ?_⟩) hHeld ?_ ?_
      rotate_left
      · rintro w' ⟨⟨e0, e1, e2, e3, e4, e5, e6⟩, ⟨p0, p1, p2, p3, p4, p5, p6, p7, p8, p9⟩, ⟨b0, b1, b2, b3, b4, b5, b6⟩, ⟨d0, d1, d2, d3, d4, d5, d6⟩⟩
        go_simp
        try with_reducible rfl
      rotate_left
      · simp only [Act.put, List.setIfInBounds_toArray, List.set_cons_zero, List.set_cons_succ]
        rfl
      refine one_ (i := 7) (N := some 32) #[true, true, true, true, true, true, true, true, true, false, false, false, false, false, false, false, false, false, false, false, false, false, false, false, false] rfl rfl (by kernel_rfl) (by decide) (fun K hK => ?_)
      go_simp
      refine (dense_calls' g A c _ HPX2.out.rg HB2.out).mono ?_; rintro e x3 ⟨rfl, hx⟩; have HX3 := Aside0.mk hx; have HPX3 := Aside0.mk (HPX2.out.below hx); have HBX3 := Aside0.mk (HBX2.out.below hx); have HDX3 := Aside0.mk (HDX2.out.below hx); have HR2X3 := Aside0.mk (HR2X2.out.below hx); have HR3X3 := Aside0.mk (HR3X2.out.below hx); clear hx
      refine hK.out _ _ ?_ (fun hHeld => ?_)
      · exact ⟨HPX3.out.bg.box, HPX3.out.bp.box, HBX3.out.box, HDX3.out.box⟩
      clear hK K
      try simp only [Act.put, List.setIfInBounds_toArray, List.set_cons_zero, List.set_cons_succ]
      refine one_ (i := 9) (N := some 34) #[true, true, true, true, true, true, true, true, true, true, false, false, false, false, false, false, false, false, false, false, false, false, false, false, false] rfl rfl (by kernel_rfl) (by decide) (fun K hK => ?_)
      go_simp
      refine (is6_calls' g A c _ HPX3.out.rg HB2.out).mono ?_; rintro e x4 ⟨rfl, hx⟩; have HX4 := Aside0.mk hx; have HPX4 := Aside0.mk (HPX3.out.below hx); have HBX4 := Aside0.mk (HBX3.out.below hx); have HDX4 := Aside0.mk (HDX3.out.below hx); have HR2X4 := Aside0.mk (HR2X3.out.below hx); have HR3X4 := Aside0.mk (HR3X3.out.below hx); clear hx
      refine hK.out _ _ ?_ (fun hHeld => ?_)
      · exact ⟨HPX4.out.bg.box, HPX4.out.bp.box, HBX4.out.box, HDX4.out.box⟩
      clear hK K
      try simp only [Act.put, List.setIfInBounds_toArray, List.set_cons_zero, List.set_cons_succ]
      refine pure_ (i := 10) (N := some 35) (v := ?_) (a' := ?_) #[true, true, true, true, true, true, true, true, true, true, true, false, false, false, false, false, false, false, false, false, false, false, false, false, false] rfl rfl (by kernel_rfl) (fun _ _ _ h => h) (Or.inl ⟨by rfl, ?_⟩) ?_ ?_
      rotate_left
      · intro w'
        go_simp
        try with_reducible rfl
      rotate_left
      · simp only [Act.put, List.setIfInBounds_toArray, List.set_cons_zero, List.set_cons_succ]
        rfl
      refine pure_ (i := 11) (N := some 36) (v := ?_) (a' := ?_) #[true, true, true, true, true, true, true, true, true, true, true, true, false, false, false, false, false, false, false, false, false, false, false, false, false] rfl rfl (by kernel_rfl) (fun _ _ _ h => h) (Or.inl ⟨by rfl, ?_⟩) ?_ ?_
      rotate_left
      · intro w'
        go_simp
        try with_reducible rfl
      rotate_left
      · simp only [Act.put, List.setIfInBounds_toArray, List.set_cons_zero, List.set_cons_succ]
        rfl
      refine pure_ (i := 12) (N := some 37) (v := ?_) (a' := ?_) #[true, true, true, true, true, true, true, true, true, true, true, true, true, false, false, false, false, false, false, false, false, false, false, false, false] rfl rfl (by kernel_rfl) (fun _ _ _ h => h) (Or.inl ⟨by rfl, ?_⟩) ?_ ?_
      rotate_left
      · intro w'
        go_simp
        try with_reducible rfl
      rotate_left
      · simp only [Act.put, List.setIfInBounds_toArray, List.set_cons_zero, List.set_cons_succ]
        rfl
      refine take_ (i := 13) (N := some 38) (v := ?_) (a' := ?_) #[true, true, true, true, true, true, true, true, true, true, true, true, true, true, false, false, false, false, false, false, false, false, false, false, false] rfl rfl (by kernel_rfl) (fun _ _ _ h => h) (Or.inl ⟨by rfl, ?_⟩) hHeld ?_ ?_
      rotate_left
      · rintro w' ⟨⟨e0, e1, e2, e3, e4, e5, e6⟩, ⟨p0, p1, p2, p3, p4, p5, p6, p7, p8, p9⟩, ⟨b0, b1, b2, b3, b4, b5, b6⟩, ⟨d0, d1, d2, d3, d4, d5, d6⟩⟩
        go_simp
        try with_reducible rfl
      rotate_left
      · simp only [Act.put, List.setIfInBounds_toArray, List.set_cons_zero, List.set_cons_succ]
        rfl
      refine take_ (i := 14) (N := some 39) (v := ?_) (a' := ?_) #[true, true, true, true, true, true, true, true, true, true, true, true, true, true, true, false, false, false, false, false, false, false, false, false, false] rfl rfl (by kernel_rfl) (fun _ _ _ h => h) (Or.inl ⟨by rfl, ?_⟩) hHeld ?_ ?_
      rotate_left
      · rintro w' ⟨⟨e0, e1, e2, e3, e4, e5, e6⟩, ⟨p0, p1, p2, p3, p4, p5, p6, p7, p8, p9⟩, ⟨b0, b1, b2, b3, b4, b5, b6⟩, ⟨d0, d1, d2, d3, d4, d5, d6⟩⟩
        go_simp
        try with_reducible rfl
      rotate_left
      · simp only [Act.put, List.setIfInBounds_toArray, List.set_cons_zero, List.set_cons_succ]
        rfl
      refine take_ (i := 15) (N := some 40) (v := ?_) (a' := ?_) #[true, true, true, true, true, true, true, true, true, true, true, true, true, true, true, true, false, false, false, false, false, false, false, false, false] rfl rfl (by kernel_rfl) (fun _ _ _ h => h) (Or.inl ⟨by rfl, ?_⟩) hHeld ?_ ?_
      rotate_left
      · rintro w' ⟨⟨e0, e1, e2, e3, e4, e5, e6⟩, ⟨p0, p1, p2, p3, p4, p5, p6, p7, p8, p9⟩, ⟨b0, b1, b2, b3, b4, b5, b6⟩, ⟨d0, d1, d2, d3, d4, d5, d6⟩⟩
        go_simp
        try with_reducible rfl
      rotate_left
      · simp only [Act.put, List.setIfInBounds_toArray, List.set_cons_zero, List.set_cons_succ]
        rfl
      refine one_ (i := 16) (N := some 41) #[true, true, true, true, true, true, true, true, true, true, true, true, true, true, true, true, true, false, false, false, false, false, false, false, false] rfl rfl (by kernel_rfl) (by decide) (fun K hK => ?_)
      go_simp
      refine (ref_Loose g A c p Ap cp _ HPX4.out.rg HPX4.out.rp HL1.out).mono ?_; rintro e x5 ⟨A4, c4, rfl, hrd4, hx⟩; have HRD4 := Aside0.mk hrd4; have HPX5 := Aside0.mk (HPX4.out.below hx); have HBX5 := Aside0.mk (HBX4.out.below hx); have HDX5 := Aside0.mk (HDX4.out.below hx); have HR2X5 := Aside0.mk (HR2X4.out.below hx); have HR3X5 := Aside0.mk (HR3X4.out.below hx); clear hx hrd4
      refine hK.out _ _ ?_ (fun hHeld => ?_)
      · exact ⟨HPX5.out.bg.box, HPX5.out.bp.box, HBX5.out.box, HDX5.out.box⟩
      clear hK K
      try simp only [Act.put, List.setIfInBounds_toArray, List.set_cons_zero, List.set_cons_succ]
      refine one_ (i := 17) (N := some 42) #[true, true, true, true, true, true, true, true, true, true, true, true, true, true, true, true, true, true, false, false, false, false, false, false, false] rfl rfl (by kernel_rfl) (by decide) (fun K hK => ?_)
      go_simp
      refine (same_calls' (doG g p) (looseG g p) A3 c3 A4 c4 _ HR3X5.out HRD4.out HSM.out).mono ?_; rintro e x6 ⟨rfl, hx⟩; have HX6 := Aside0.mk hx; have HPX6 := Aside0.mk (HPX5.out.below hx); have HBX6 := Aside0.mk (HBX5.out.below hx); have HDX6 := Aside0.mk (HDX5.out.below hx); have HR2X6 := Aside0.mk (HR2X5.out.below hx); have HR3X6 := Aside0.mk (HR3X5.out.below hx); clear hx
      refine hK.out _ _ ?_ (fun hHeld => ?_)
      · exact ⟨HPX6.out.bg.box, HPX6.out.bp.box, HBX6.out.box, HDX6.out.box⟩
      clear hK K
      try simp only [Act.put, List.setIfInBounds_toArray, List.set_cons_zero, List.set_cons_succ]
      refine pure_ (i := 18) (N := some 43) (v := ?_) (a' := ?_) #[true, true, true, true, true, true, true, true, true, true, true, true, true, true, true, true, true, true, true, false, false, false, false, false, false] rfl rfl (by kernel_rfl) (fun _ _ _ h => h) (Or.inl ⟨by rfl, ?_⟩) ?_ ?_
      rotate_left
      · intro w'
        go_simp
        try with_reducible rfl
      rotate_left
      · simp only [Act.put, List.setIfInBounds_toArray, List.set_cons_zero, List.set_cons_succ]
        rfl
      refine pure_ (i := 19) (N := some 44) (v := ?_) (a' := ?_) #[true, true, true, true, true, true, true, true, true, true, true, true, true, true, true, true, true, true, true, true, false, false, false, false, false] rfl rfl (by kernel_rfl) (fun _ _ _ h => h) (Or.inl ⟨by rfl, ?_⟩) ?_ ?_
      rotate_left
      · intro w'
        go_simp
        try with_reducible rfl
      rotate_left
      · simp only [Act.put, List.setIfInBounds_toArray, List.set_cons_zero, List.set_cons_succ]
        rfl
      refine take_ (i := 20) (N := some 45) (v := ?_) (a' := ?_) #[true, true, true, true, true, true, true, true, true, true, true, true, true, true, true, true, true, true, true, true, true, false, false, false, false] rfl rfl (by kernel_rfl) (fun _ _ _ h => h) (Or.inl ⟨by rfl, ?_⟩) hHeld ?_ ?_
      rotate_left
      · rintro w' ⟨⟨e0, e1, e2, e3, e4, e5, e6⟩, ⟨p0, p1, p2, p3, p4, p5, p6, p7, p8, p9⟩, ⟨b0, b1, b2, b3, b4, b5, b6⟩, ⟨d0, d1, d2, d3, d4, d5, d6⟩⟩
        go_simp
        try with_reducible rfl
      rotate_left
      · simp only [Act.put, List.setIfInBounds_toArray, List.set_cons_zero, List.set_cons_succ]
        rfl
      refine take_ (i := 21) (N := some 46) (v := ?_) (a' := ?_) #[true, true, true, true, true, true, true, true, true, true, true, true, true, true, true, true, true, true, true, true, true, true, false, false, false] rfl rfl (by kernel_rfl) (fun _ _ _ h => h) (Or.inl ⟨by rfl, ?_⟩) hHeld ?_ ?_
      rotate_left
      · rintro w' ⟨⟨e0, e1, e2, e3, e4, e5, e6⟩, ⟨p0, p1, p2, p3, p4, p5, p6, p7, p8, p9⟩, ⟨b0, b1, b2, b3, b4, b5, b6⟩, ⟨d0, d1, d2, d3, d4, d5, d6⟩⟩
        go_simp
        try with_reducible rfl
      rotate_left
      · simp only [Act.put, List.setIfInBounds_toArray, List.set_cons_zero, List.set_cons_succ]
        rfl
      refine one_ (i := 22) (N := some 47) #[true, true, true, true, true, true, true, true, true, true, true, true, true, true, true, true, true, true, true, true, true, true, true, false, false] rfl rfl (by kernel_rfl) (by decide) (fun K hK => ?_)
      go_simp
      refine (same_calls' g g A c A2 c2 _ HPX6.out.rg HR2X6.out HSG.out).mono ?_; rintro e x7 ⟨rfl, hx⟩; have HX7 := Aside0.mk hx; have HPX7 := Aside0.mk (HPX6.out.below hx); have HBX7 := Aside0.mk (HBX6.out.below hx); have HDX7 := Aside0.mk (HDX6.out.below hx); have HR2X7 := Aside0.mk (HR2X6.out.below hx); have HR3X7 := Aside0.mk (HR3X6.out.below hx); clear hx
      refine hK.out _ _ ?_ (fun hHeld => ?_)
      · exact ⟨HPX7.out.bg.box, HPX7.out.bp.box, HBX7.out.box, HDX7.out.box⟩
      clear hK K
      try simp only [Act.put, List.setIfInBounds_toArray, List.set_cons_zero, List.set_cons_succ]
      refine pure_ (i := 23) (N := some 48) (v := ?_) (a' := ?_) #[true, true, true, true, true, true, true, true, true, true, true, true, true, true, true, true, true, true, true, true, true, true, true, true, false] rfl rfl (by kernel_rfl) (fun _ _ _ h => h) (Or.inl ⟨by rfl, ?_⟩) ?_ ?_
      rotate_left
      · intro w'
        go_simp
        try with_reducible rfl
      rotate_left
      · simp only [Act.put, List.setIfInBounds_toArray, List.set_cons_zero, List.set_cons_succ]
        rfl
      refine pure_ (i := 24) (N := some 4) (v := ?_) (a' := ?_) #[true, true, true, true, true, true, true, true, true, true, true, true, true, true, true, true, true, true, true, true, true, true, true, true, true] rfl rfl (by kernel_rfl) (fun _ _ _ h => h) (Or.inl ⟨by rfl, ?_⟩) ?_ ?_
      rotate_left
      · intro w'
        go_simp
        try with_reducible rfl
      rotate_left
      · simp only [Act.put, List.setIfInBounds_toArray, List.set_cons_zero, List.set_cons_succ]
        rfl
      refine done_ (by kernel_rfl) ?_
      go_wp2
      go_ret
      exact ⟨rfl, by rw [HS.out]; exact HPX7.out.b⟩
end Go.Proofs.Ytfnflbclhaeedaa.PartW
namespace Go.Proofs.Ytfnflbclhaeedaa.Pure
open Go Go.RowKit Go.Proofs.Ytfnflbclhaeedaa.Sp Go.Proofs.Ytfnflbclhaeedaa.PartW
theorem SparseTells.walk (g : Grp) (A : Option Addr) (c : Nat) (p : Prt) (Ap : Option Addr) (cp : Nat) (w : World) (h : Rd w A c g.l) (hp : Rd w Ap cp p.l) :
    Calls Try.prog 3 #[vG g A c, vP p Ap cp] w fun e w' => e = .returned (.bool true) ∧ Below w.heap.size w w' := tells_walk g A c p Ap cp w h hp
end Go.Proofs.Ytfnflbclhaeedaa.Pure
