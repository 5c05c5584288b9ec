/- The statement SparseAppends: an append lays its entries wherever they are; no condition beyond the row's. -/
import Derived.Test.YtfnflbclhaeedaaAppQ
import Derived.Test.YtfnflbclhaeedaaFew
import Derived.Test.YtfnflbclhaeedaaLast
set_option linter.unusedVariables false
set_option linter.unusedSimpArgs false
namespace Go.Proofs.Ytfnflbclhaeedaa.PartW
open Go Go.RowKit Go.Shelf Go.Proofs.Ytfnflbclhaeedaa.A Go.Proofs.Ytfnflbclhaeedaa.Sp Go.Proofs.Ytfnflbclhaeedaa.Reg Go.Proofs.Ytfnflbclhaeedaa.Seq Go.Proofs.YtfnflbclhaeedaaW.PrintWords Go.Proofs.YtfnflbclhaeedaaW.PrintLast Go.Proofs.YtfnflbclhaeedaaW.PrintMore
/-- what holds while entries are laid, one by one -/
def ApI (id : Int) (w : World) (n10 k : Nat) (W : World) : Prop :=
  Bel w W ∧ ∃ L B d, AppOk L ∧ L.length ≤ k ∧ BlkG ⟨id, 1, 0, 0, 0, 0, L⟩ B d n10 W ∧ Rd W B d L
/-- what holds while the part is laid -/
def ApJ (id f : Int) (L : List Ent) (B : Option Addr) (d n10 n13 k : Nat) (w W : World) : Prop :=
  BlkG ⟨id, 1, 0, 0, 0, 0, L⟩ B d n10 W ∧ Rd W B d L ∧ Bel w W ∧ ∃ A c, BlkP ⟨id, 1, (appF f k), 0, 0, 0, 0, 0, false, false⟩ A c n13 W ∧ OwnE W (n13 + 1) (.slice A (appF f k).length c) (appF f k)
theorem BlkP.lt' {p : Prt} {A : Option Addr} {c B : Nat} {W : World} (h : BlkP p A c B W) : B < W.heap.size := (Array.getElem?_eq_some_iff.1 h).1
theorem BlkP.free' {p : Prt} {A : Option Addr} {c B : Nat} {W : World} (h : BlkP p A c B W) (o : Nat) : W.frozen? ⟨B, o, none⟩ = false := by
  unfold BlkP at h
  simp [World.frozen?, h]
theorem BlkP.setL' {p : Prt} {A : Option Addr} {c B : Nat} {W : World} (h : BlkP p A c B W) (l : List Ent) (A' : Option Addr) (c' : Nat) : BlkP ⟨p.g, p.k, l, p.ht, p.hv, p.hc, p.ix, p.tm, p.mrk, p.hed⟩ A' c' B (W.setCell ⟨B, 2, none⟩ (.slice A' l.length c')) := by
  unfold BlkP at h ⊢
  simp [World.setCell, Array.getElem?_modify, h]
theorem rsp_c (a b : Prt) (A : Option Addr) (c : Nat) (A' : Option Addr) (c' : Nat) (w : World) (ha : Rd w A c a.l) (hb : Rd w A' c' b.l) {r : Bool} (hr : sameP a b = r) : Calls Try.prog 23 #[vP a A c, vP b A' c'] w fun e w' => e = .returned (.bool r) ∧ Below w.heap.size w w' := by
  rw [← hr]; exact ref_SamePart a b A c A' c' w ha hb
set_option maxHeartbeats 8000000 in
set_option maxRecDepth 100000 in
theorem appends_walk (id fs n : Int) (a : Option Addr) (len cap : Nat) (w : World) (h0 : 0 ≤ id ∧ id < 256) (h1 : 0 ≤ fs ∧ fs < 256) (h2 : 0 ≤ n ∧ n < 256) (hz : ∀ i, i < len → ∃ x z, a = some x ∧ w.cell? (x.add i) = some (.int .u8 z) ∧ 0 ≤ z ∧ z < 256) :
  Calls Try.prog 8 #[.int .u8 id, .slice a len cap, .int .u8 fs, .int .u8 n] w fun e w' => e = .returned (.bool true) ∧ Below w.heap.size w w' := by
 have HI0 := Aside0.mk h0
 have HZ := Aside0.mk hz
 obtain ⟨f, hf⟩ : ∃ f, fs + 1 = f := ⟨_, rfl⟩
 have HFE := Aside0.mk hf
 have HF : Aside0 (1 ≤ f ∧ f ≤ 256) := ⟨by omega⟩
 obtain ⟨M, hM5, hM⟩ : ∃ M : Nat, M ≤ 5 ∧ n % 6 = (M : Int) := ⟨(n % 6).toNat, by omega, by omega⟩
 have HM := Aside0.mk (And.intro hM5 hM)
 obtain ⟨i0, i1⟩ := h0
 obtain ⟨i2, i3⟩ := h1
 obtain ⟨i4, i5⟩ := h2
 clear hz hf hM5 hM
 go_enter Try.func8, Try.ntmps8
 have HB := Aside0.mk (Bel.refl w)
 obtain ⟨C7, hC7⟩ : ∃ C, (match Try.f8.body with | some (.seq _ (.seq _ (.seq _ (.seq _ (.seq _ c))))) => c | _ => .skip) = C := ⟨_, rfl⟩
 have HC7 := Aside0.mk hC7
 simp only [Try.f8] at hC7
 rw [hC7]
 clear hC7
 go_wp2_with fail
 go_at_call 9
 refine (known12 _).mono ?_
 rintro e w1 ⟨rfl, hw1⟩
 replace HB := lbB HB hw1
 clear hw1
 by_cases hl30 : (30 : Int) < (len : Int)
 · have d0 : decide ((30 : Int) < (len : Int)) = true := decide_eq_true hl30
   have d0' : decide ((len : Int) > (30 : Int)) = true := d0
   have d0'' : decide (30 < len) = true := decide_eq_true (by omega)
   go_wp2_with fail
   go_ret
   exact ⟨rfl, HB.out.b⟩
 have d0 : decide ((30 : Int) < (len : Int)) = false := decide_eq_false hl30
 have d0'' : decide (30 < len) = false := decide_eq_false (by omega)
 have HL30 : Aside0 (len ≤ 30) := ⟨by omega⟩
 obtain ⟨n10, hn10⟩ : ∃ n, w1.heap.size = n := ⟨_, rfl⟩
 have HSn10 := Aside0.mk hn10
 have HW10 : Aside0 (w.heap.size ≤ n10) := ⟨by rw [← hn10]; exact HB.out.b.size⟩
 go_wp2_with fail
 replace HB := laB HB (.cells #[.int .i64 id, .int .i64 1, .int .i64 0, .int .i64 0, .int .i64 0, .int .i64 0, .slice none 0 0] 26)
 have HV : Aside0 (BlkG ⟨id, 1, 0, 0, 0, 0, []⟩ none 0 n10 (w1.alloc (.cells #[.int .i64 id, .int .i64 1, .int .i64 0, .int .i64 0, .int .i64 0, .int .i64 0, .slice none 0 0] 26))) := ⟨(by have hq := BlkG.new ⟨id, 1, 0, 0, 0, 0, []⟩ none 0 w1; rw [HSn10.out] at hq; exact hq)⟩
 obtain ⟨W0, hW0⟩ : ∃ W, w1.alloc (.cells #[.int .i64 id, .int .i64 1, .int .i64 0, .int .i64 0, .int .i64 0, .int .i64 0, .slice none 0 0] 26) = W := ⟨_, rfl⟩
 rw [hW0] at HB HV ⊢
 clear hW0
 clear hn10 d0 d0'' hl30
 have HI1 : Aside0 (ApI id w n10 0 W0) := ⟨⟨HB.out, [], none, 0, ⟨List.Pairwise.nil, fun e he => by cases he⟩, Nat.le_refl _, HV.out, Rd.nil _⟩⟩
 clear HV HB
 have hC7 := HC7.out
 simp only [Try.f8] at hC7
 subst hC7
 clear HC7
 obtain ⟨C11, hC11⟩ : ∃ C, (match Try.f8.body with | some (.seq _ (.seq _ (.seq _ (.seq _ (.seq _ (.seq _ c)))))) => c | _ => .skip) = C := ⟨_, rfl⟩
 have HC11 := Aside0.mk hC11
 simp only [Try.f8] at hC11
 rw [hC11]
 clear hC11
 go_wp2_with fail
 go_loopw [11] (fun v wr => ∃ j : Nat, j ≤ len ∧ v = .int .i64 (j : Int) ∧ Aside0 (ApI id w n10 j wr)) (fun v _ => len - (intOf v).toNat)
 case atStart => exact ⟨0, Nat.zero_le _, rfl, HI1⟩
 case round =>
   clear HI1
   obtain ⟨j, hj, rfl, HI⟩ := hrel
   obtain ⟨hb, L, B, d, hok, hle, hv, hl⟩ := HI.out
   have HB := Aside0.mk hb
   have HOK := Aside0.mk (And.intro hok hle)
   have HV := Aside0.mk hv
   have HL := Aside0.mk hl
   clear HI hb hok hle hv hl
   by_cases hlt : j < len
   · obtain ⟨x, z, rfl, hz, hz0, hz1⟩ := HZ.out j hlt
     have HZC := Aside0.mk hz
     have hzc := (HB.out.b.cell (World.block_lt_of_cell? _ _ hz)).trans hz
     have hb30 := HL30.out
     have d1 : decide ((j : Int) < (len : Int)) = true := decide_eq_true (by omega)
     have hlt2 : (j : Int) < (len : Int) := by omega
     have hj4 : IntKind.i64.wrap ((j : Int) + 1) = (j : Int) + 1 := by rw [i64_w]; unfold wrap64; omega
     have hzw : IntKind.i64.wrap z = z := by rw [i64_w]; unfold wrap64; omega
     have hzj : IntKind.i64.wrap (z + 1) = z + 1 := by rw [i64_w]; unfold wrap64; omega
     obtain ⟨M1, hM1⟩ : ∃ M1, stepE 1 L (entA (z + 1)) = M1 := ⟨_, rfl⟩
     obtain ⟨R, hR⟩ : ∃ R : Grp, (⟨id, 1, 0, 0, 0, 0, M1⟩ : Grp) = R := ⟨_, rfl⟩
     have KD : Aside0 (doG ⟨id, 1, 0, 0, 0, 0, L⟩ ⟨id, 6, [entA (z + 1)], 0, 0, 0, 0, 0, false, false⟩ = R) := ⟨by rw [← hR, ← hM1]; exact app_do HOK.out.1 HI0.out (by omega) (by omega)⟩
     have KO : Aside0 (AppOk M1 ∧ M1.length ≤ j + 1) := ⟨by rw [← hM1]; exact ⟨HOK.out.1.step (by omega) (by omega), Nat.le_trans (step_len _ _ _) (by have := HOK.out.2; omega)⟩⟩
     have HLE : Aside0 (L.length + 1 ≤ 4398046511104) := ⟨by have := HOK.out.2; omega⟩
     have HRE := Aside0.mk hR
     have HRL : Aside0 (R.l = M1) := ⟨by rw [← hR]⟩
     clear hz hM1 hR
     obtain ⟨hv0, hv1, hv2, hv3, hv4, hv5, hv6⟩ := HV.out.box
     dsimp only at hv0 hv1 hv2 hv3 hv4 hv5 hv6
     go_wp2_with fail
     clear hv0 hv1 hv2 hv3 hv4 hv5 hv6
     clear hzc
     obtain ⟨m, hm⟩ : ∃ n, wr.drew.heap.size = n := ⟨_, rfl⟩
     have HMm := Aside0.mk hm
     replace HB := ldB HB
     replace HV := ldG HV
     replace HL := ldR HL
     refine start_ (n := 13) (S := (fun w' => BoxG ⟨id, 1, 0, 0, 0, 0, L⟩ B d n10 w' ∧ w'.cell? (x.add j) = some (.int .u8 z))) (ds := [12]) #[false,false,false,false,false,false,false,false,false,false,false,false,false] (by kernel_rfl) rfl rfl ⟨HV.out.box, (HB.out.b.cell (World.block_lt_of_cell? _ _ HZC.out)).trans HZC.out⟩ (fun hHeld => ?_)
     refine take_ (i := 0) (N := some 33) (v := ?_) (a' := ?_) #[true,false,false,false,false,false,false,false,false,false,false,false,false] rfl rfl (by kernel_rfl) (fun _ _ _ h => h) (Or.inl ⟨by rfl, ?_⟩) hHeld ?_ ?_
     rotate_left
     · rintro w' ⟨⟨hv0, hv1, hv2, hv3, hv4, hv5, hv6⟩, hc⟩
       go_simp
       try with_reducible rfl
     rotate_left
     · simp only [Act.put, sA, sB, sC]
       rfl
     refine pure_ (i := 1) (N := some 34) (v := ?_) (a' := ?_) #[true,true,false,false,false,false,false,false,false,false,false,false,false] rfl rfl (by kernel_rfl) (fun _ _ _ h => h) (Or.inl ⟨by rfl, ?_⟩) ?_ ?_
     rotate_left
     · intro w'
       go_simp
       try with_reducible rfl
     rotate_left
     · simp only [Act.put, sA, sB, sC]
       rfl
     refine pure_ (i := 2) (N := some 35) (v := ?_) (a' := ?_) #[true,true,true,false,false,false,false,false,false,false,false,false,false] rfl rfl (by kernel_rfl) (fun _ _ _ h => h) (Or.inl ⟨by rfl, ?_⟩) ?_ ?_
     rotate_left
     · intro w'
       go_simp
       try with_reducible rfl
     rotate_left
     · simp only [Act.put, sA, sB, sC]
       rfl
     refine pure_ (i := 3) (N := some 36) (v := ?_) (a' := ?_) #[true,true,true,true,false,false,false,false,false,false,false,false,false] rfl rfl (by kernel_rfl) (fun _ _ _ h => h) (Or.inl ⟨by rfl, ?_⟩) ?_ ?_
     rotate_left
     · intro w'
       go_simp
       try with_reducible rfl
     rotate_left
     · simp only [Act.put, sA, sB, sC]
       rfl
     refine pure_ (i := 4) (N := some 37) (v := ?_) (a' := ?_) #[true,true,true,true,true,false,false,false,false,false,false,false,false] rfl rfl (by kernel_rfl) (fun _ _ _ h => h) (Or.inl ⟨by rfl, ?_⟩) ?_ ?_
     rotate_left
     · intro w'
       go_simp
       try with_reducible rfl
     rotate_left
     · simp only [Act.put, sA, sB, sC]
       rfl
     refine take_ (i := 5) (N := some 38) (v := ?_) (a' := ?_) #[true,true,true,true,true,true,false,false,false,false,false,false,false] rfl rfl (by kernel_rfl) (fun _ _ _ h => h) (Or.inl ⟨by rfl, ?_⟩) hHeld ?_ ?_
     rotate_left
     · rintro w' ⟨⟨hv0, hv1, hv2, hv3, hv4, hv5, hv6⟩, hc⟩
       go_simp
       try with_reducible rfl
     rotate_left
     · simp only [Act.put, sA, sB, sC]
       rfl
     refine pure_ (i := 6) (N := some 39) (v := ?_) (a' := ?_) #[true,true,true,true,true,true,true,false,false,false,false,false,false] rfl rfl (by kernel_rfl) (fun _ _ _ h => h) (Or.inl ⟨by rfl, ?_⟩) ?_ ?_
     rotate_left
     · intro w'
       go_simp
       try with_reducible rfl
     rotate_left
     · simp only [Act.put, sA, sB, sC]
       rfl
     refine pure_ (i := 7) (N := some 40) (v := ?_) (a' := ?_) #[true,true,true,true,true,true,true,true,false,false,false,false,false] rfl rfl (by kernel_rfl) (fun _ _ _ h => h) (Or.inl ⟨by rfl, ?_⟩) ?_ ?_
     rotate_left
     · intro w'
       go_simp
       try with_reducible rfl
     rotate_left
     · simp only [Act.put, sA, sB, sC]
       rfl
     refine pure_ (i := 8) (N := some 41) (v := ?_) (a' := ?_) #[true,true,true,true,true,true,true,true,true,false,false,false,false] rfl rfl (by kernel_rfl) (fun _ _ _ h => h) (Or.inl ⟨by rfl, ?_⟩) ?_ ?_
     rotate_left
     · intro w'
       go_simp
       try with_reducible rfl
     rotate_left
     · simp only [Act.put, sA, sB, sC]
       rfl
     refine one_ (i := 9) (N := some 42) #[true,true,true,true,true,true,true,true,true,true,false,false,false] rfl rfl (by kernel_rfl) (by decide) (fun K hK => ?_)
     go_simp
     refine hK.out _ _ ?_ (fun hHeld => ?_)
     · exact ⟨(laG HV (.cells #[.int .i64 (z + 1), .int .i64 1, .string ⟨#[]⟩] 38)).out.box, ((laB HB (.cells #[.int .i64 (z + 1), .int .i64 1, .string ⟨#[]⟩] 38)).out.b.cell (World.block_lt_of_cell? _ _ HZC.out)).trans HZC.out⟩
     clear hK K
     try simp only [Act.put, sA, sB, sC]
     replace HB := laB HB (.cells #[.int .i64 (z + 1), .int .i64 1, .string ⟨#[]⟩] 38); replace HV := laG HV (.cells #[.int .i64 (z + 1), .int .i64 1, .string ⟨#[]⟩] 38); replace HL := laR HL (.cells #[.int .i64 (z + 1), .int .i64 1, .string ⟨#[]⟩] 38)
     have HE1 : Aside0 (Rd (wr.drew.alloc (.cells #[.int .i64 (z + 1), .int .i64 1, .string ⟨#[]⟩] 38)) (some ⟨m, 0, none⟩) 1 [entA (z + 1)]) := ⟨by have hq := Rd.one wr.drew (entA (z + 1)); rw [HMm.out] at hq; exact hq⟩
     try rw [HMm.out]
     obtain ⟨w5, hw5⟩ : ∃ W, (wr.alloc (.cells #[.int .i64 (z + 1), .int .i64 1, .string ⟨#[]⟩] 38)).drew = W := ⟨_, rfl⟩
     have hda : wr.drew.alloc (.cells #[.int .i64 (z + 1), .int .i64 1, .string ⟨#[]⟩] 38) = w5 := by rw [← hw5]; rfl
     rw [hda] at HB HV HL HE1
     rw [hw5]
     clear hw5 hda
     refine pure_ (i := 10) (N := some 43) (v := ?_) (a' := ?_) #[true,true,true,true,true,true,true,true,true,true,true,false,false] rfl rfl (by kernel_rfl) (fun _ _ _ h => h) (Or.inl ⟨by rfl, ?_⟩) ?_ ?_
     rotate_left
     · intro w'
       go_simp
       try with_reducible rfl
     rotate_left
     · simp only [Act.put, sA, sB, sC]
       rfl
     refine one_ (i := 11) (N := some 44) #[true,true,true,true,true,true,true,true,true,true,true,true,false] rfl rfl (by kernel_rfl) (by decide) (fun K hK => ?_)
     go_simp
     refine (sdo_c ⟨id, 1, 0, 0, 0, 0, L⟩ B d ⟨id, 6, [entA (z + 1)], 0, 0, 0, 0, 0, false, false⟩ (some ⟨m, 0, none⟩) 1 _ HL.out HE1.out HLE.out KD.out).mono ?_; rintro e w6 ⟨A3, c3, rfl, hrd, hw⟩; have HRR := Aside0.mk hrd; replace HV := lbG HV hw; replace HB := lbB HB hw; clear hrd hw HE1 HL
     refine hK.out _ _ ?_ (fun hHeld => ?_)
     · exact ⟨HV.out.box, (HB.out.b.cell (World.block_lt_of_cell? _ _ HZC.out)).trans HZC.out⟩
     clear hK K
     try simp only [Act.put, sA, sB, sC]
     obtain ⟨y0, y1, y2, y3, y4, y5, y6⟩ := HV.out.box
     have yf := HV.out.free
     refine last_ (i := 12) (N := none) #[true,true,true,true,true,true,true,true,true,true,true,true,true] rfl rfl (by kernel_rfl) (by decide) (fun K hK => ?_)
     go_simp
     refine hK.out _ _ ?_
     clear hK K
     try simp only [Act.put, sA, sB, sC]
     refine done_ (by kernel_rfl) ?_
     clear y0 y1 y2 y3 y4 y5 y6 yf
     have hx := only_store R A3 c3 n10 w6
     go_wp2_with fail
     go_roundw
     case rel => exact ⟨j + 1, by omega, by go_num, ⟨HB.out.only hx (fun q hq h => by have h2 : q = n10 := h; have := HW10.out; omega), M1, A3, c3, KO.out.1, KO.out.2, by rw [HRE.out]; exact BlkG.store (g := R) (A := A3) (c := c3) HV.out, by rw [← HRL.out]; exact Rd.only HRR.out hx (fun q hq h => by have h3 : q = n10 := h; subst h3; exact Rd.apartG HRR.out HV.out hq)⟩⟩
     case measure => simp [intOf]; omega
   · obtain rfl : j = len := by omega
     have d1 : decide ((j : Int) < (j : Int)) = false := decide_eq_false (by omega)
     have hfw : IntKind.i64.wrap (fs + 1) = fs + 1 := by rw [i64_w]; unfold wrap64; omega
     obtain ⟨n13, hn13⟩ : ∃ n, wr.heap.size = n := ⟨_, rfl⟩
     have HS13 := Aside0.mk hn13
     have l1013 : n10 < n13 := by rw [← hn13]; exact HV.out.lt
     have HBL : Aside0 (∀ q, inA B L q → q < n13) := ⟨fun q hq => by rw [← HS13.out]; exact HL.out.lt hq⟩
     have HLL : Aside0 (L.length ≤ 30) := ⟨by have := HOK.out.2; have := HL30.out; omega⟩
     go_wp2_with fail
     have hC11 := HC11.out
     simp only [Try.f8] at hC11
     subst hC11
     clear HC11
     obtain ⟨C14, hC14⟩ : ∃ C, (match Try.f8.body with | some (.seq _ (.seq _ (.seq _ (.seq _ (.seq _ (.seq _ (.seq _ (.seq _ c)))))))) => c | _ => .skip) = C := ⟨_, rfl⟩
     have HC14 := Aside0.mk hC14
     simp only [Try.f8] at hC14
     rw [hC14]
     clear hC14
     go_wp2_with fail
     try rw [HFE.out]
     replace HB := laB HB (.cells #[.int .i64 id, .int .i64 1, .slice none 0 0, .int .i64 0, .int .i64 0, .int .i64 0, .int .i64 0, .int .i64 0, .bool false, .bool false] 28)
     replace HV := laG HV (.cells #[.int .i64 id, .int .i64 1, .slice none 0 0, .int .i64 0, .int .i64 0, .int .i64 0, .int .i64 0, .int .i64 0, .bool false, .bool false] 28)
     replace HL := laR HL (.cells #[.int .i64 id, .int .i64 1, .slice none 0 0, .int .i64 0, .int .i64 0, .int .i64 0, .int .i64 0, .int .i64 0, .bool false, .bool false] 28)
     have HP : Aside0 (BlkP ⟨id, 1, (appF f 0), 0, 0, 0, 0, 0, false, false⟩ none 0 n13 (wr.alloc (.cells #[.int .i64 id, .int .i64 1, .slice none 0 0, .int .i64 0, .int .i64 0, .int .i64 0, .int .i64 0, .int .i64 0, .bool false, .bool false] 28))) := ⟨(by have hq := BlkP.new ⟨id, 1, (appF f 0), 0, 0, 0, 0, 0, false, false⟩ none 0 wr; rw [HS13.out] at hq; exact hq)⟩
     obtain ⟨W2, hW2⟩ : ∃ W, wr.alloc (.cells #[.int .i64 id, .int .i64 1, .slice none 0 0, .int .i64 0, .int .i64 0, .int .i64 0, .int .i64 0, .int .i64 0, .bool false, .bool false] 28) = W := ⟨_, rfl⟩
     rw [hW2] at HB HV HL HP ⊢
     clear hW2
     clear hn13
     have HJ1 : Aside0 (ApJ id f L B d n10 n13 0 w W2) := ⟨⟨HV.out, HL.out, HB.out, none, 0, HP.out, OwnE.nil _ _⟩⟩
     clear HV HL HB HP
     have hC14 := HC14.out
     simp only [Try.f8] at hC14
     subst hC14
     clear HC14
     obtain ⟨C17, hC17⟩ : ∃ C, (match Try.f8.body with | some (.seq _ (.seq _ (.seq _ (.seq _ (.seq _ (.seq _ (.seq _ (.seq _ (.seq _ c))))))))) => c | _ => .skip) = C := ⟨_, rfl⟩
     have HC17 := Aside0.mk hC17
     simp only [Try.f8] at hC17
     rw [hC17]
     clear hC17
     go_wp2_with fail
     go_loopw [14] (fun v wr => ∃ k : Nat, k ≤ M + 1 ∧ v = .int .i64 (k : Int) ∧ Aside0 (ApJ id f L B d n10 n13 k w wr)) (fun v _ => M + 1 - (intOf v).toNat)
     case atStart => exact ⟨0, Nat.zero_le _, rfl, HJ1⟩
     case round =>
       clear HJ1
       obtain ⟨k, hk, rfl, HI⟩ := hrel
       obtain ⟨hv, hl, hb, A, c, hp, ho⟩ := HI.out
       have HV := Aside0.mk hv
       have HL := Aside0.mk hl
       have HB := Aside0.mk hb
       have HP := Aside0.mk hp
       have HO := Aside0.mk ho
       clear HI hv hl hb hp ho
       have hm5 := HM.out
       have hf6 := HF.out
       by_cases hlt : k < M + 1
       · have d1 : decide ((k : Int) ≤ n % 6) = true := decide_eq_true (by omega)
         have hik : IntKind.i64.wrap (f + (k : Int)) = f + (k : Int) := by rw [i64_w]; unfold wrap64; omega
         have hk4 : IntKind.i64.wrap ((k : Int) + 1) = (k : Int) + 1 := by rw [i64_w]; unfold wrap64; omega
         obtain ⟨K, hK⟩ : ∃ K, appF f k = K := ⟨_, rfl⟩
         have HLK : Aside0 (K.length = k) := ⟨by rw [← hK]; exact appF_len f k⟩
         have HLS : Aside0 (appF f (k + 1) = K ++ [entF f k]) := ⟨by rw [← hK]; exact appF_succ f k⟩
         have HP2 : Aside0 (BlkP ⟨id, 1, K, 0, 0, 0, 0, 0, false, false⟩ A c n13 wr) := ⟨by rw [← hK]; exact HP.out⟩
         rw [hK] at HO
         clear hK HP
         obtain ⟨y0, y1, y2, y3, y4, y5, y6, y7, y8, y9⟩ := HP2.out.box
         have yf := BlkP.free' HP2.out
         obtain ⟨m, hm⟩ : ∃ n, wr.heap.size = n := ⟨_, rfl⟩
         have HMm := Aside0.mk hm
         have l9 : n13 < m := by rw [← hm]; exact BlkP.lt' HP2.out
         have l9a : n13 ≠ m := by omega
         have l9b : m ≠ n13 := by omega
         dsimp only at y0 y1 y2 y3 y4 y5 y6 y7 y8 y9
         go_wp2_with (at_builtin; refine wpList_append_ent (l := K) (m := [entF f k]) (b := n13 + 1) rfl (.tmp 58) (.tmp 63) rfl rfl (HO.out.alloc _) rfl (by have hq := Rd.one wr (entF f k); rw [HMm.out] at hq; exact hq) (by have h1 := HLK.out; have h2 := HM.out; rw [h1]; show k + 1 ≤ _; omega) (by rw [World.size_alloc, HMm.out]; omega) ?_; intro v6 w6 ho6 hgr ha6; have hon : Only (fun q => n13 + 1 ≤ q) wr w6 := ((Only.refl _ wr).alloc _).of_grown hgr (fun q hq _ => by change (Value.slice A K.length c).ownBlock = some q at hq; exact (own_block HO.out hq).1); rw [← HLS.out] at ho6; have hlen : (appF f (k + 1)).length ≤ 4398046511104 := (by rw [appF_len]; have := HM.out; omega); obtain ⟨A6, c6, hv6, hrd6, _⟩ := ho6.rd' hlen; subst hv6; have HO6 := Aside0.mk ho6; have hV6 := BlkP.only HP2.out hon (fun h => by have h2 : n13 + 1 ≤ n13 := h; omega); replace HV := Aside0.mk (HV.out.only hon (fun h => by have h2 : n13 + 1 ≤ n10 := h; omega)); replace HL := Aside0.mk (Rd.only HL.out hon (fun q hq h => by have h2 : n13 + 1 ≤ q := h; have := HBL.out q hq; omega)); replace HB := Aside0.mk (HB.out.only hon (fun q hq h => by have h2 : n13 + 1 ≤ q := h; have := HW10.out; omega)); clear y0 y1 y2 y3 y4 y5 y6 y7 y8 y9 yf; obtain ⟨y0, y1, y2, y3, y4, y5, y6, y7, y8, y9⟩ := hV6.box; have yf := BlkP.free' hV6; have HV6 := Aside0.mk hV6; clear ho6 hgr ha6 hon hrd6 hV6 hlen)
         have hgl := BlkP.setL' HV6.out (appF f (k + 1)) A6 c6
         have hx := (Only.refl (fun q => q = n13) w6).setCell (p := ⟨n13, 2, none⟩) rfl (.slice A6 (appF f (k + 1)).length c6)
         go_roundw
         case rel => exact ⟨k + 1, by omega, by go_num, ⟨HV.out.only hx (fun h => by have h2 : n10 = n13 := h; omega), Rd.only HL.out hx (fun q hq h => by have h2 : q = n13 := h; have := HBL.out q hq; omega), HB.out.only hx (fun q hq h => by have h2 : q = n13 := h; have := HW10.out; omega), A6, c6, hgl, HO6.out.only hx (fun q hq h => by have h2 : q = n13 := h; omega)⟩⟩
         case measure => simp [intOf]; omega
       · obtain rfl : k = M + 1 := by omega
         have d1 : decide (((M + 1 : Nat) : Int) ≤ n % 6) = false := decide_eq_false (by omega)
         obtain ⟨P, hP⟩ : ∃ P : Prt, (⟨id, 1, (appF f (M + 1)), 0, 0, 0, 0, 0, false, false⟩ : Prt) = P := ⟨_, rfl⟩
         have HPL : Aside0 (P.l = appF f (M + 1)) := ⟨by rw [← hP]⟩
         have HRP : Aside0 (Rd wr A c P.l) := ⟨by rw [HPL.out]; obtain ⟨A', c', e1, hrd, _⟩ := HO.out.rd' (by rw [appF_len]; omega); injection e1 with e2 e3 e4; subst e2; subst e4; exact hrd⟩
         rw [hP] at HP
         have HPE := Aside0.mk hP
         obtain ⟨q, hq1, hq2, hq3, hq4⟩ := below_pre f HOK.out.1.1
         have HQ := Aside0.mk (And.intro hq1 (And.intro hq2 (And.intro hq3 hq4)))
         obtain ⟨T, hT⟩ : ∃ T : Grp, (⟨id, 1, 0, 0, 0, 0, (belowL L f ++ appF f (M + 1))⟩ : Grp) = T := ⟨_, rfl⟩
         have HTL : Aside0 (T.l = L.take q ++ appF f (M + 1)) := ⟨by rw [← hT, ← hq2]⟩
         have KD : Aside0 (doG ⟨id, 1, 0, 0, 0, 0, L⟩ P = T) := ⟨by rw [← hP, ← hT]; exact app_all HOK.out.1 HI0.out hf6.1 hf6.2 ⟨by omega, by omega⟩⟩
         have KI : Aside0 (isG false T = true) := ⟨by rw [← hT]; exact app_isG HOK.out.1 HI0.out hf6.1 hf6.2 (by omega)⟩
         have HTN : Aside0 (T.l.length = q + (M + 1)) := ⟨by rw [HTL.out, List.length_append, List.length_take, appF_len]; omega⟩
         have HLE : Aside0 (L.length + P.l.length ≤ 4398046511104) := ⟨by rw [HPL.out, appF_len]; have := HLL.out; omega⟩
         clear hP hT hq2 hq3 hq4 HO
         go_wp2_with fail
         have hC17 := HC17.out
         simp only [Try.f8] at hC17
         subst hC17
         clear HC17
         obtain ⟨C18, hC18⟩ : ∃ C, (match Try.f8.body with | some (.seq _ (.seq _ (.seq _ (.seq _ (.seq _ (.seq _ (.seq _ (.seq _ (.seq _ (.seq _ c)))))))))) => c | _ => .skip) = C := ⟨_, rfl⟩
         have HC18 := Aside0.mk hC18
         simp only [Try.f8] at hC18
         rw [hC18]
         clear hC18
         obtain ⟨hv0, hv1, hv2, hv3, hv4, hv5, hv6⟩ := HV.out.box
         obtain ⟨hp0, hp1, hp2, hp3, hp4, hp5, hp6, hp7, hp8, hp9⟩ := HP.out.box
         dsimp only at hv0 hv1 hv2 hv3 hv4 hv5 hv6 hp0 hp1 hp2 hp3 hp4 hp5 hp6 hp7 hp8 hp9
         go_wp2_with fail
         go_at_call 12
         refine (sdo_c ⟨id, 1, 0, 0, 0, 0, L⟩ B d P A c _ HL.out HRP.out HLE.out KD.out).mono ?_
         rintro e w41 ⟨A5, c5, rfl, hrd, hw41⟩
         replace HB := lbB HB hw41
         replace HV := lbG HV hw41
         replace HL := lbR HL hw41
         replace HP := lbP HP hw41
         replace HRP := lbR HRP hw41
         have HRT := Aside0.mk (hrd)
         clear hrd
         clear hw41
         obtain ⟨n15, hn15⟩ : ∃ n, w41.heap.size = n := ⟨_, rfl⟩
         have HSn15 := Aside0.mk hn15
         clear hv0 hv1 hv2 hv3 hv4 hv5 hv6 hp0 hp1 hp2 hp3 hp4 hp5 hp6 hp7 hp8 hp9
         obtain ⟨hv0, hv1, hv2, hv3, hv4, hv5, hv6⟩ := HV.out.box
         obtain ⟨hp0, hp1, hp2, hp3, hp4, hp5, hp6, hp7, hp8, hp9⟩ := HP.out.box
         dsimp only at hv0 hv1 hv2 hv3 hv4 hv5 hv6 hp0 hp1 hp2 hp3 hp4 hp5 hp6 hp7 hp8 hp9
         go_wp2_with fail
         clear hv0 hv1 hv2 hv3 hv4 hv5 hv6 hp0 hp1 hp2 hp3 hp4 hp5 hp6 hp7 hp8 hp9
         replace HB := laB HB (.cells #[.int .i64 T.id, .int .i64 T.fi, .int .i64 T.tm, .int .i64 T.ht, .int .i64 T.hv, .int .i64 T.hc, .slice A5 T.l.length c5] 26)
         replace HV := laG HV (.cells #[.int .i64 T.id, .int .i64 T.fi, .int .i64 T.tm, .int .i64 T.ht, .int .i64 T.hv, .int .i64 T.hc, .slice A5 T.l.length c5] 26)
         replace HL := laR HL (.cells #[.int .i64 T.id, .int .i64 T.fi, .int .i64 T.tm, .int .i64 T.ht, .int .i64 T.hv, .int .i64 T.hc, .slice A5 T.l.length c5] 26)
         replace HP := laP HP (.cells #[.int .i64 T.id, .int .i64 T.fi, .int .i64 T.tm, .int .i64 T.ht, .int .i64 T.hv, .int .i64 T.hc, .slice A5 T.l.length c5] 26)
         replace HRP := laR HRP (.cells #[.int .i64 T.id, .int .i64 T.fi, .int .i64 T.tm, .int .i64 T.ht, .int .i64 T.hv, .int .i64 T.hc, .slice A5 T.l.length c5] 26)
         replace HRT := laR HRT (.cells #[.int .i64 T.id, .int .i64 T.fi, .int .i64 T.tm, .int .i64 T.ht, .int .i64 T.hv, .int .i64 T.hc, .slice A5 T.l.length c5] 26)
         have HT : Aside0 (BlkG T A5 c5 n15 (w41.alloc (.cells #[.int .i64 T.id, .int .i64 T.fi, .int .i64 T.tm, .int .i64 T.ht, .int .i64 T.hv, .int .i64 T.hc, .slice A5 T.l.length c5] 26))) := ⟨(by have hq := BlkG.new T A5 c5 w41; rw [HSn15.out] at hq; exact hq : BlkG T A5 c5 n15 (w41.alloc (.cells #[.int .i64 T.id, .int .i64 T.fi, .int .i64 T.tm, .int .i64 T.ht, .int .i64 T.hv, .int .i64 T.hc, .slice A5 T.l.length c5] 26)))⟩
         obtain ⟨W5, hW5⟩ : ∃ W, w41.alloc (.cells #[.int .i64 T.id, .int .i64 T.fi, .int .i64 T.tm, .int .i64 T.ht, .int .i64 T.hv, .int .i64 T.hc, .slice A5 T.l.length c5] 26) = W := ⟨_, rfl⟩
         rw [hW5] at HB HV HL HP HRP HRT HT ⊢
         clear hW5
         clear hn15
         have hC18 := HC18.out
         simp only [Try.f8] at hC18
         subst hC18
         clear HC18
         obtain ⟨C26, hC26⟩ : ∃ C, (match Try.f8.body with | some (.seq _ (.seq _ (.seq _ (.seq _ (.seq _ (.seq _ (.seq _ (.seq _ (.seq _ (.seq _ (.seq _ (.seq _ c)))))))))))) => c | _ => .skip) = C := ⟨_, rfl⟩
         have HC26 := Aside0.mk hC26
         simp only [Try.f8] at hC26
         rw [hC26]
         clear hC26
         have HQ0 : Aside0 (Bel W5 W5) := ⟨Bel.refl _⟩
         go_wp2_with fail
         go_loopw [16, 17] (fun v u wr => ∃ i mm : Nat, i ≤ L.length ∧ mm = min i q ∧ u = .int .i64 (i : Int) ∧ v = .int .i64 (mm : Int) ∧ Aside0 (Bel W5 wr)) (fun v u _ => L.length - (intOf u).toNat)
         case atStart => exact ⟨0, 0, Nat.zero_le _, by omega, rfl, rfl, HQ0⟩
         case round =>
           clear HQ0
           obtain ⟨i, mm, hi, hmm, rfl, rfl, HI⟩ := hrel
           have hb5 := HI.out.b
           replace HB := lbB HB hb5
           replace HV := lbG HV hb5
           replace HL := lbR HL hb5
           replace HP := lbP HP hb5
           replace HRP := lbR HRP hb5
           replace HRT := lbR HRT hb5
           replace HT := lbG HT hb5
           have HI5 := HI
           clear HI hb5
           have hq1 := HQ.out.1
           have hll := HLL.out
           have htn := HTN.out
           by_cases hlt : i < L.length
           · obtain ⟨ad, rfl, hc⟩ := HL.out.cel hlt
             obtain ⟨x, hx⟩ : ∃ x, el L i = x := ⟨_, rfl⟩
             have HXE := Aside0.mk hx
             rw [hx] at hc
             have HC0 := Aside0.mk hc
             clear hx hc
             have d1 : decide ((i : Int) < (L.length : Int)) = true := decide_eq_true (by omega)
             have hlt2 : (i : Int) < (L.length : Int) := by omega
             have hi4 : IntKind.i64.wrap ((i : Int) + 1) = (i : Int) + 1 := by rw [i64_w]; unfold wrap64; omega
             by_cases hqi : i < q
             · have d2 : decide (x.f0 < f) = true := decide_eq_true (by rw [← HXE.out]; have h9 := HQ.out.2.2.1 i hqi; omega)
               obtain rfl : mm = i := by omega
               clear hmm
               have htl : mm < T.l.length := by omega
               obtain ⟨hd, rfl, hc2⟩ := HRT.out.cel htl
               have hx2 : el T.l mm = x := by rw [HTL.out, el_pre (by rw [List.length_take]; omega), el_tk (by omega) (by omega), HXE.out]
               rw [hx2] at hc2
               have HC1 := Aside0.mk hc2
               have hlt3 : (mm : Int) < (T.l.length : Int) := by omega
               have d3 : decide ((T.l.length : Int) ≤ (mm : Int)) = false := decide_eq_false (by omega)
               have d4 : decide ((mm : Int) ≥ (T.l.length : Int)) = false := d3
               have d5 : decide (T.l.length ≤ mm) = false := decide_eq_false (by omega)
               clear hc2 hx2 htn
               obtain ⟨hv0, hv1, hv2, hv3, hv4, hv5, hv6⟩ := HV.out.box
               obtain ⟨hp0, hp1, hp2, hp3, hp4, hp5, hp6, hp7, hp8, hp9⟩ := HP.out.box
               obtain ⟨ht0, ht1, ht2, ht3, ht4, ht5, ht6⟩ := HT.out.box
               try dsimp only at hv0 hv1 hv2 hv3 hv4 hv5 hv6 hp0 hp1 hp2 hp3 hp4 hp5 hp6 hp7 hp8 hp9 ht0 ht1 ht2 ht3 ht4 ht5 ht6
               obtain ⟨m0, m1, m2⟩ := HC0.out
               go_wp2_with fail
               clear m0 m1 m2
               clear hv0 hv1 hv2 hv3 hv4 hv5 hv6 hp0 hp1 hp2 hp3 hp4 hp5 hp6 hp7 hp8 hp9 ht0 ht1 ht2 ht3 ht4 ht5 ht6
               replace HB := ldB HB
               replace HV := ldG HV
               replace HL := ldR HL
               replace HP := ldP HP
               replace HRP := ldR HRP
               replace HRT := ldR HRT
               replace HT := ldG HT
               replace HC0 := Aside0.mk (HC0.out.below (below_drew (Below.refl _ _)))
               replace HC1 := Aside0.mk (HC1.out.below (below_drew (Below.refl _ _)))
               replace HI5 : Aside0 (Bel W5 wr.drew) := ⟨HI5.out.drew⟩
               refine start_ (n := 18) (S := (fun w' => BoxG ⟨id, 1, 0, 0, 0, 0, L⟩ (some ad) d n10 w' ∧ BoxG T (some hd) c5 n15 w' ∧ CelE x (ad.add (mm * 3)) w' ∧ CelE x (hd.add (mm * 3)) w')) (ds := []) #[false,false,false,false,false,false,false,false,false,false,false,false,false,false,false,false,false,false] (by kernel_rfl) rfl rfl ⟨HV.out.box, HT.out.box, HC0.out, HC1.out⟩ (fun hHeld => ?_)
               refine pure_ (i := 0) (N := some 84) (v := ?_) (a' := ?_) #[true,false,false,false,false,false,false,false,false,false,false,false,false,false,false,false,false,false] rfl rfl (by kernel_rfl) (fun _ _ _ h => h) (Or.inl ⟨by rfl, ?_⟩) ?_ ?_
               rotate_left
               · intro w'
                 go_simp
                 try with_reducible rfl
               rotate_left
               · simp only [Act.put, sA, sB, sC]
                 rfl
               refine pure_ (i := 1) (N := some 85) (v := ?_) (a' := ?_) #[true,true,false,false,false,false,false,false,false,false,false,false,false,false,false,false,false,false] rfl rfl (by kernel_rfl) (fun _ _ _ h => h) (Or.inl ⟨by rfl, ?_⟩) ?_ ?_
               rotate_left
               · intro w'
                 go_simp
                 try with_reducible rfl
               rotate_left
               · simp only [Act.put, sA, sB, sC]
                 rfl
               refine take_ (i := 2) (N := some 86) (v := ?_) (a' := ?_) #[true,true,true,false,false,false,false,false,false,false,false,false,false,false,false,false,false,false] rfl rfl (by kernel_rfl) (fun _ _ _ h => h) (Or.inl ⟨by rfl, ?_⟩) hHeld ?_ ?_
               rotate_left
               · rintro w' ⟨⟨v0, v1, v2, v3, v4, v5, v6⟩, ⟨t0, t1, t2, t3, t4, t5, t6⟩, ⟨m0, m1, m2⟩, ⟨k0, k1, k2⟩⟩
                 go_simp
                 try with_reducible rfl
               rotate_left
               · simp only [Act.put, sA, sB, sC]
                 rfl
               refine pure_ (i := 3) (N := some 87) (v := ?_) (a' := ?_) #[true,true,true,true,false,false,false,false,false,false,false,false,false,false,false,false,false,false] rfl rfl (by kernel_rfl) (fun _ _ _ h => h) (Or.inl ⟨by rfl, ?_⟩) ?_ ?_
               rotate_left
               · intro w'
                 go_simp
                 try with_reducible rfl
               rotate_left
               · simp only [Act.put, sA, sB, sC]
                 rfl
               refine pure_ (i := 4) (N := some 88) (v := ?_) (a' := ?_) #[true,true,true,true,true,false,false,false,false,false,false,false,false,false,false,false,false,false] rfl rfl (by kernel_rfl) (fun _ _ _ h => h) (Or.inl ⟨by rfl, ?_⟩) ?_ ?_
               rotate_left
               · intro w'
                 go_simp
                 try with_reducible rfl
               rotate_left
               · simp only [Act.put, sA, sB, sC]
                 rfl
               refine pure_ (i := 5) (N := some 89) (v := ?_) (a' := ?_) #[true,true,true,true,true,true,false,false,false,false,false,false,false,false,false,false,false,false] rfl rfl (by kernel_rfl) (fun _ _ _ h => h) (Or.inl ⟨by rfl, ?_⟩) ?_ ?_
               rotate_left
               · intro w'
                 go_simp
                 try with_reducible rfl
               rotate_left
               · simp only [Act.put, sA, sB, sC]
                 rfl
               refine pure_ (i := 6) (N := some 90) (v := ?_) (a' := ?_) #[true,true,true,true,true,true,true,false,false,false,false,false,false,false,false,false,false,false] rfl rfl (by kernel_rfl) (fun _ _ _ h => h) (Or.inl ⟨by rfl, ?_⟩) ?_ ?_
               rotate_left
               · intro w'
                 go_simp
                 try with_reducible rfl
               rotate_left
               · simp only [Act.put, sA, sB, sC]
                 rfl
               refine take_ (i := 7) (N := some 91) (v := ?_) (a' := ?_) #[true,true,true,true,true,true,true,true,false,false,false,false,false,false,false,false,false,false] rfl rfl (by kernel_rfl) (fun _ _ _ h => h) (Or.inl ⟨by rfl, ?_⟩) hHeld ?_ ?_
               rotate_left
               · rintro w' ⟨⟨v0, v1, v2, v3, v4, v5, v6⟩, ⟨t0, t1, t2, t3, t4, t5, t6⟩, ⟨m0, m1, m2⟩, ⟨k0, k1, k2⟩⟩
                 go_simp
                 try with_reducible rfl
               rotate_left
               · simp only [Act.put, sA, sB, sC]
                 rfl
               refine pure_ (i := 8) (N := some 92) (v := ?_) (a' := ?_) #[true,true,true,true,true,true,true,true,true,false,false,false,false,false,false,false,false,false] rfl rfl (by kernel_rfl) (fun _ _ _ h => h) (Or.inl ⟨by rfl, ?_⟩) ?_ ?_
               rotate_left
               · intro w'
                 go_simp
                 try with_reducible rfl
               rotate_left
               · simp only [Act.put, sA, sB, sC]
                 rfl
               refine pure_ (i := 9) (N := some 93) (v := ?_) (a' := ?_) #[true,true,true,true,true,true,true,true,true,true,false,false,false,false,false,false,false,false] rfl rfl (by kernel_rfl) (fun _ _ _ h => h) (Or.inl ⟨by rfl, ?_⟩) ?_ ?_
               rotate_left
               · intro w'
                 go_simp
                 try with_reducible rfl
               rotate_left
               · simp only [Act.put, sA, sB, sC]
                 rfl
               refine take_ (i := 10) (N := some 94) (v := ?_) (a' := ?_) #[true,true,true,true,true,true,true,true,true,true,true,false,false,false,false,false,false,false] rfl rfl (by kernel_rfl) (fun _ _ _ h => h) (Or.inl ⟨by rfl, ?_⟩) hHeld ?_ ?_
               rotate_left
               · rintro w' ⟨⟨v0, v1, v2, v3, v4, v5, v6⟩, ⟨t0, t1, t2, t3, t4, t5, t6⟩, ⟨m0, m1, m2⟩, ⟨k0, k1, k2⟩⟩
                 go_simp
                 try with_reducible rfl
               rotate_left
               · simp only [Act.put, sA, sB, sC]
                 rfl
               refine pure_ (i := 11) (N := some 95) (v := ?_) (a' := ?_) #[true,true,true,true,true,true,true,true,true,true,true,true,false,false,false,false,false,false] rfl rfl (by kernel_rfl) (fun _ _ _ h => h) (Or.inl ⟨by rfl, ?_⟩) ?_ ?_
               rotate_left
               · intro w'
                 go_simp
                 try with_reducible rfl
               rotate_left
               · simp only [Act.put, sA, sB, sC]
                 rfl
               refine take_ (i := 12) (N := some 96) (v := ?_) (a' := ?_) #[true,true,true,true,true,true,true,true,true,true,true,true,true,false,false,false,false,false] rfl rfl (by kernel_rfl) (fun _ _ _ h => h) (Or.inl ⟨by rfl, ?_⟩) hHeld ?_ ?_
               rotate_left
               · rintro w' ⟨⟨v0, v1, v2, v3, v4, v5, v6⟩, ⟨t0, t1, t2, t3, t4, t5, t6⟩, ⟨m0, m1, m2⟩, ⟨k0, k1, k2⟩⟩
                 go_simp
                 try with_reducible rfl
               rotate_left
               · simp only [Act.put, sA, sB, sC]
                 rfl
               refine pure_ (i := 13) (N := some 97) (v := ?_) (a' := ?_) #[true,true,true,true,true,true,true,true,true,true,true,true,true,true,false,false,false,false] rfl rfl (by kernel_rfl) (fun _ _ _ h => h) (Or.inl ⟨by rfl, ?_⟩) ?_ ?_
               rotate_left
               · intro w'
                 go_simp
                 try with_reducible rfl
               rotate_left
               · simp only [Act.put, sA, sB, sC]
                 rfl
               refine pure_ (i := 14) (N := some 98) (v := ?_) (a' := ?_) #[true,true,true,true,true,true,true,true,true,true,true,true,true,true,true,false,false,false] rfl rfl (by kernel_rfl) (fun _ _ _ h => h) (Or.inl ⟨by rfl, ?_⟩) ?_ ?_
               rotate_left
               · intro w'
                 go_simp
                 try with_reducible rfl
               rotate_left
               · simp only [Act.put, sA, sB, sC]
                 rfl
               refine take_ (i := 15) (N := some 99) (v := ?_) (a' := ?_) #[true,true,true,true,true,true,true,true,true,true,true,true,true,true,true,true,false,false] rfl rfl (by kernel_rfl) (fun _ _ _ h => h) (Or.inl ⟨by rfl, ?_⟩) hHeld ?_ ?_
               rotate_left
               · rintro w' ⟨⟨v0, v1, v2, v3, v4, v5, v6⟩, ⟨t0, t1, t2, t3, t4, t5, t6⟩, ⟨m0, m1, m2⟩, ⟨k0, k1, k2⟩⟩
                 go_simp
                 try with_reducible rfl
               rotate_left
               · simp only [Act.put, sA, sB, sC]
                 rfl
               refine pure_ (i := 16) (N := some 100) (v := ?_) (a' := ?_) #[true,true,true,true,true,true,true,true,true,true,true,true,true,true,true,true,true,false] rfl rfl (by kernel_rfl) (fun _ _ _ h => h) (Or.inl ⟨by rfl, ?_⟩) ?_ ?_
               rotate_left
               · intro w'
                 go_simp
                 try with_reducible rfl
               rotate_left
               · simp only [Act.put, sA, sB, sC]
                 rfl
               refine pure_ (i := 17) (N := some 101) (v := ?_) (a' := ?_) #[true,true,true,true,true,true,true,true,true,true,true,true,true,true,true,true,true,true] rfl rfl (by kernel_rfl) (fun _ _ _ h => h) (Or.inl ⟨by rfl, ?_⟩) ?_ ?_
               rotate_left
               · intro w'
                 go_simp
                 try with_reducible rfl
               rotate_left
               · simp only [Act.put, sA, sB, sC]
                 rfl
               refine done_ (by kernel_rfl) ?_
               go_wp2_with fail
               go_roundw
               case rel => exact ⟨mm + 1, mm + 1, by omega, by omega, by go_num, by go_num, HI5⟩
               case measure => simp [intOf]; omega
             · have d2 : decide (x.f0 < f) = false := decide_eq_false (by rw [← HXE.out]; have h9 := HQ.out.2.2.2 i (by omega) hlt; omega)
               obtain rfl : mm = q := by omega
               clear hmm htn
               obtain ⟨hv0, hv1, hv2, hv3, hv4, hv5, hv6⟩ := HV.out.box
               obtain ⟨hp0, hp1, hp2, hp3, hp4, hp5, hp6, hp7, hp8, hp9⟩ := HP.out.box
               obtain ⟨ht0, ht1, ht2, ht3, ht4, ht5, ht6⟩ := HT.out.box
               try dsimp only at hv0 hv1 hv2 hv3 hv4 hv5 hv6 hp0 hp1 hp2 hp3 hp4 hp5 hp6 hp7 hp8 hp9 ht0 ht1 ht2 ht3 ht4 ht5 ht6
               obtain ⟨m0, m1, m2⟩ := HC0.out
               go_wp2_with fail
               go_roundw
               case rel => exact ⟨i + 1, mm, by omega, by omega, by go_num, rfl, HI5⟩
               case measure => simp [intOf]; omega
           · obtain rfl : i = L.length := by omega
             obtain rfl : mm = q := by omega
             clear hmm
             have d1 : decide ((L.length : Int) < (L.length : Int)) = false := decide_eq_false (by omega)
             have hcc := HRT.out.le
             have k1 : (0 : Int) ≤ (mm : Int) := by omega
             have k2 : (mm : Int) ≤ (T.l.length : Int) := by omega
             have k3 : mm ≤ T.l.length := by omega
             have k4 : (mm : Int) ≤ (c5 : Int) := by omega
             have k5 : (T.l.length : Int) ≤ (c5 : Int) := by omega
             clear htn
             obtain ⟨hv0, hv1, hv2, hv3, hv4, hv5, hv6⟩ := HV.out.box
             obtain ⟨hp0, hp1, hp2, hp3, hp4, hp5, hp6, hp7, hp8, hp9⟩ := HP.out.box
             obtain ⟨ht0, ht1, ht2, ht3, ht4, ht5, ht6⟩ := HT.out.box
             try dsimp only at hv0 hv1 hv2 hv3 hv4 hv5 hv6 hp0 hp1 hp2 hp3 hp4 hp5 hp6 hp7 hp8 hp9 ht0 ht1 ht2 ht3 ht4 ht5 ht6
             go_wp2_with fail
             have hC26 := HC26.out
             simp only [Try.f8] at hC26
             subst hC26
             clear HC26
             go_wp2_with fail
             clear hv0 hv1 hv2 hv3 hv4 hv5 hv6 hp0 hp1 hp2 hp3 hp4 hp5 hp6 hp7 hp8 hp9 ht0 ht1 ht2 ht3 ht4 ht5 ht6
             replace HB := ldB HB
             replace HV := ldG HV
             replace HL := ldR HL
             replace HP := ldP HP
             replace HRP := ldR HRP
             replace HRT := ldR HRT
             replace HT := ldG HT
             obtain ⟨C, hC⟩ : ∃ C, (T.l.drop mm).take (T.l.length - mm) = C := ⟨_, rfl⟩
             have HCL : Aside0 (T.l.length - mm = C.length) := ⟨by rw [← hC, List.length_take, List.length_drop]; omega⟩
             have HCE : Aside0 (C = P.l) := ⟨by rw [← hC, List.take_of_length_le (by rw [List.length_drop]; exact Nat.le_refl _), HTL.out, HPL.out, List.drop_append_of_le_length (by rw [List.length_take]; omega), List.drop_of_length_le (by rw [List.length_take]; omega)]; rfl⟩
             have KS : Aside0 (sameP ⟨0, 0, C, 0, 0, 0, 0, 0, false, false⟩ ⟨0, 0, P.l, 0, 0, 0, 0, 0, false, false⟩ = true) := ⟨by rw [HCE.out]; exact sameP_iff.2 rfl⟩
             have HRC := Aside0.mk (HRT.out.sub mm T.l.length k3 (Nat.le_refl _))
             rw [hC] at HRC
             clear hC
             refine start_ (n := 14) (S := (fun w' => BoxG T A5 c5 n15 w' ∧ BoxP P A c n13 w')) (ds := []) #[false,false,false,false,false,false,false,false,false,false,false,false,false,false] (by kernel_rfl) rfl rfl ⟨HT.out.box, HP.out.box⟩ (fun hHeld => ?_)
             refine pure_ (i := 0) (N := some 104) (v := ?_) (a' := ?_) #[true,false,false,false,false,false,false,false,false,false,false,false,false,false] rfl rfl (by kernel_rfl) (fun _ _ _ h => h) (Or.inl ⟨by rfl, ?_⟩) ?_ ?_
             rotate_left
             · intro w'
               go_simp
               try with_reducible rfl
             rotate_left
             · simp only [Act.put, sA, sB, sC]
               rfl
             refine take_ (i := 1) (N := some 105) (v := ?_) (a' := ?_) #[true,true,false,false,false,false,false,false,false,false,false,false,false,false] rfl rfl (by kernel_rfl) (fun _ _ _ h => h) (Or.inl ⟨by rfl, ?_⟩) hHeld ?_ ?_
             rotate_left
             · rintro w' ⟨⟨t0, t1, t2, t3, t4, t5, t6⟩, ⟨p0, p1, p2, p3, p4, p5, p6, p7, p8, p9⟩⟩
               go_simp
               try with_reducible rfl
             rotate_left
             · simp only [Act.put, sA, sB, sC]
               rfl
             refine pure_ (i := 2) (N := some 106) (v := ?_) (a' := ?_) #[true,true,true,false,false,false,false,false,false,false,false,false,false,false] rfl rfl (by kernel_rfl) (fun _ _ _ h => h) (Or.inl ⟨by rfl, ?_⟩) ?_ ?_
             rotate_left
             · intro w'
               go_simp
               try with_reducible rfl
             rotate_left
             · simp only [Act.put, sA, sB, sC]
               rfl
             refine pure_ (i := 3) (N := some 107) (v := ?_) (a' := ?_) #[true,true,true,true,false,false,false,false,false,false,false,false,false,false] rfl rfl (by kernel_rfl) (fun _ _ _ h => h) (Or.inl ⟨by rfl, ?_⟩) ?_ ?_
             rotate_left
             · intro w'
               go_simp
               try with_reducible rfl
             rotate_left
             · simp only [Act.put, sA, sB, sC]
               rfl
             refine pure_ (i := 4) (N := some 108) (v := ?_) (a' := ?_) #[true,true,true,true,true,false,false,false,false,false,false,false,false,false] rfl rfl (by kernel_rfl) (fun _ _ _ h => h) (Or.inl ⟨by rfl, ?_⟩) ?_ ?_
             rotate_left
             · intro w'
               go_simp
               try with_reducible rfl
             rotate_left
             · simp only [Act.put, sA, sB, sC]
               rfl
             refine pure_ (i := 5) (N := some 109) (v := ?_) (a' := ?_) #[true,true,true,true,true,true,false,false,false,false,false,false,false,false] rfl rfl (by kernel_rfl) (fun _ _ _ h => h) (Or.inl ⟨by rfl, ?_⟩) ?_ ?_
             rotate_left
             · intro w'
               go_simp
               try with_reducible rfl
             rotate_left
             · simp only [Act.put, sA, sB, sC]
               rfl
             refine take_ (i := 6) (N := some 110) (v := ?_) (a' := ?_) #[true,true,true,true,true,true,true,false,false,false,false,false,false,false] rfl rfl (by kernel_rfl) (fun _ _ _ h => h) (Or.inl ⟨by rfl, ?_⟩) hHeld ?_ ?_
             rotate_left
             · rintro w' ⟨⟨t0, t1, t2, t3, t4, t5, t6⟩, ⟨p0, p1, p2, p3, p4, p5, p6, p7, p8, p9⟩⟩
               go_simp
               try with_reducible rfl
             rotate_left
             · simp only [Act.put, sA, sB, sC]
               rfl
             refine pure_ (i := 7) (N := some 111) (v := ?_) (a' := ?_) #[true,true,true,true,true,true,true,true,false,false,false,false,false,false] rfl rfl (by kernel_rfl) (fun _ _ _ h => h) (Or.inl ⟨by rfl, ?_⟩) ?_ ?_
             rotate_left
             · intro w'
               go_simp
               try with_reducible rfl
             rotate_left
             · simp only [Act.put, sA, sB, sC]
               rfl
             refine one_ (i := 8) (N := some 112) #[true,true,true,true,true,true,true,true,true,false,false,false,false,false] rfl rfl (by kernel_rfl) (by decide) (fun K hK => ?_)
             go_simp
             rw [HCL.out]; refine (rsp_c ⟨0, 0, C, 0, 0, 0, 0, 0, false, false⟩ ⟨0, 0, P.l, 0, 0, 0, 0, 0, false, false⟩ (if c5 = mm then A5 else Option.map (fun x => x.add (mm * 3)) A5) (c5 - mm) A c _ HRC.out HRP.out KS.out).mono ?_; rintro e w81 ⟨rfl, hw⟩; replace HB := lbB HB hw; replace HV := lbG HV hw; replace HL := lbR HL hw; replace HP := lbP HP hw; replace HRP := lbR HRP hw; replace HRT := lbR HRT hw; replace HT := lbG HT hw; replace HRC := lbR HRC hw; clear hw
             refine hK.out _ _ ?_ (fun hHeld => ?_)
             · exact ⟨HT.out.box, HP.out.box⟩
             clear hK K
             try simp only [Act.put, sA, sB, sC]
             refine pure_ (i := 9) (N := some 113) (v := ?_) (a' := ?_) #[true,true,true,true,true,true,true,true,true,true,false,false,false,false] rfl rfl (by kernel_rfl) (fun _ _ _ h => h) (Or.inl ⟨by rfl, ?_⟩) ?_ ?_
             rotate_left
             · intro w'
               go_simp
               try with_reducible rfl
             rotate_left
             · simp only [Act.put, sA, sB, sC]
               rfl
             refine take_ (i := 10) (N := some 114) (v := ?_) (a' := ?_) #[true,true,true,true,true,true,true,true,true,true,true,false,false,false] rfl rfl (by kernel_rfl) (fun _ _ _ h => h) (Or.inl ⟨by rfl, ?_⟩) hHeld ?_ ?_
             rotate_left
             · rintro w' ⟨⟨t0, t1, t2, t3, t4, t5, t6⟩, ⟨p0, p1, p2, p3, p4, p5, p6, p7, p8, p9⟩⟩
               go_simp
               try with_reducible rfl
             rotate_left
             · simp only [Act.put, sA, sB, sC]
               rfl
             refine one_ (i := 11) (N := some 115) #[true,true,true,true,true,true,true,true,true,true,true,true,false,false] rfl rfl (by kernel_rfl) (by decide) (fun K hK => ?_)
             go_simp
             refine (is_calls' T A5 c5 _ HRT.out KI.out).mono ?_; rintro e w82 ⟨rfl, hw⟩; replace HB := lbB HB hw; replace HV := lbG HV hw; replace HL := lbR HL hw; replace HP := lbP HP hw; replace HRP := lbR HRP hw; replace HRT := lbR HRT hw; replace HT := lbG HT hw; replace HRC := lbR HRC hw; clear hw
             refine hK.out _ _ ?_ (fun hHeld => ?_)
             · exact ⟨HT.out.box, HP.out.box⟩
             clear hK K
             try simp only [Act.put, sA, sB, sC]
             refine pure_ (i := 12) (N := some 116) (v := ?_) (a' := ?_) #[true,true,true,true,true,true,true,true,true,true,true,true,true,false] rfl rfl (by kernel_rfl) (fun _ _ _ h => h) (Or.inl ⟨by rfl, ?_⟩) ?_ ?_
             rotate_left
             · intro w'
               go_simp
               try with_reducible rfl
             rotate_left
             · simp only [Act.put, sA, sB, sC]
               rfl
             refine pure_ (i := 13) (N := some 8) (v := ?_) (a' := ?_) #[true,true,true,true,true,true,true,true,true,true,true,true,true,true] rfl rfl (by kernel_rfl) (fun _ _ _ h => h) (Or.inl ⟨by rfl, ?_⟩) ?_ ?_
             rotate_left
             · intro w'
               go_simp
               try with_reducible rfl
             rotate_left
             · simp only [Act.put, sA, sB, sC]
               rfl
             refine done_ (by kernel_rfl) ?_
             go_wp2_with fail
             all_goals (go_ret; exact ⟨rfl, HB.out.b⟩)
end Go.Proofs.Ytfnflbclhaeedaa.PartW
namespace Go.Proofs.Ytfnflbclhaeedaa.Pure
theorem SparseAppends : True := trivial
end Go.Proofs.Ytfnflbclhaeedaa.Pure
namespace Go.Proofs.Ytfnflbclhaeedaa.A
open Go Go.RowKit Go.Proofs.Ytfnflbclhaeedaa.PartW
theorem ladelaw12_SparseAppends.walk (_ : True) (id : Int) (a : Option Addr) (len cap : Nat) (zs : List Int) (fs n : Int) (w : World) (w0 : (Lit.int .u8 id).wf = true)
  (w1 : (a = none ∧ len = 0 ∧ cap = 0 ∧ zs = []) ∨ ∃ x, a = some x ∧ len ≤ cap ∧ cap ≤ maxLen ∧ zs.length = cap ∧ (∀ i, i < zs.length → w.cell? (x.add i) = some (.int .u8 (zs.getD i 0))) ∧ ∀ n ∈ zs, (Lit.int .u8 n).wf = true) (y1 : len * 1 ≤ 140737488351232) (w2 : (Lit.int .u8 fs).wf = true) (w3 : (Lit.int .u8 n).wf = true) :
  Calls Try.prog 8 #[.int .u8 id, .slice a len cap, .int .u8 fs, .int .u8 n] w fun e w' => e = .returned (.bool true) ∧ Below w.heap.size w w' := by
  have h0 : 0 ≤ id ∧ id < 256 := by simp [Lit.wf, IntKind.min, IntKind.max, IntKind.bits, IntKind.signed] at w0; omega
  have h1 : 0 ≤ fs ∧ fs < 256 := by simp [Lit.wf, IntKind.min, IntKind.max, IntKind.bits, IntKind.signed] at w2; omega
  have h2 : 0 ≤ n ∧ n < 256 := by simp [Lit.wf, IntKind.min, IntKind.max, IntKind.bits, IntKind.signed] at w3; omega
  refine appends_walk id fs n a len cap w h0 h1 h2 (fun i hi => ?_)
  rcases w1 with ⟨_, h, _⟩ | ⟨x, rfl, h2, _, h4, h5, h6⟩
  · omega
  · have h7 := h6 (zs.getD i 0) (by rw [List.getD_eq_getElem?_getD, List.getElem?_eq_getElem (by omega)]; exact List.getElem_mem _)
    have h8 := h5 i (by omega)
    obtain ⟨z, hz⟩ : ∃ z, zs.getD i 0 = z := ⟨_, rfl⟩
    rw [hz] at h7 h8
    exact ⟨x, z, rfl, h8, by simp [Lit.wf, IntKind.min, IntKind.max, IntKind.bits, IntKind.signed] at h7; omega⟩
end Go.Proofs.Ytfnflbclhaeedaa.A
