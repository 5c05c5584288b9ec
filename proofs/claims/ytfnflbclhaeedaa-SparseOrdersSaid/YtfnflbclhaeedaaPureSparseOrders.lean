/- The statement SparseOrders: entries written anew come in whatever order; no condition beyond the row's. -/
import Derived.Test.YtfnflbclhaeedaaOrdQ
set_option linter.unusedVariables false
set_option linter.unusedSimpArgs false
namespace Go.Proofs.Ytfnflbclhaeedaa.PartW
open Go Go.RowKit Go.Shelf Go.Proofs.Ytfnflbclhaeedaa.A Go.Proofs.Ytfnflbclhaeedaa.Sp Go.Proofs.Ytfnflbclhaeedaa.Reg Go.Proofs.Ytfnflbclhaeedaa.Seq Go.Proofs.YtfnflbclhaeedaaW.PrintWords Go.Proofs.YtfnflbclhaeedaaW.PrintLast Go.Proofs.YtfnflbclhaeedaaW.PrintMore
/-- what holds while the entries wanted are laid -/
def OrdI (id : Int) (w : World) (n8 n9 k : Nat) (W : World) : Prop :=
  BlkG ⟨id, 1, 0, 0, 0, 0, []⟩ none 0 n8 W ∧ Bel w W ∧ ∃ A c, BlkG ⟨id, 1, 0, 0, 0, 0, ordL k⟩ A c n9 W ∧ OwnE W (n9 + 1) (.slice A (ordL k).length c) (ordL k)
/-- what holds while entries are written anew: those above j are there -/
def OrdJ (id : Int) (N : Nat) (w : World) (n8 n9 : Nat) (A : Option Addr) (c j : Nat) (W : World) : Prop :=
  BlkG ⟨id, 1, 0, 0, 0, 0, ordL N⟩ A c n9 W ∧ Rd W A c (ordL N) ∧ Bel w W ∧ ∃ L B d, OrdOk N L ∧ (∀ m, j < m → m ≤ N → entO m ∈ L) ∧ BlkG ⟨id, 1, 0, 0, 0, 0, L⟩ B d n8 W ∧ Rd W B d L
set_option maxHeartbeats 8000000 in
set_option maxRecDepth 100000 in
theorem orders_walk (id n : Int) (a : Option Addr) (len cap : Nat) (zs : List Int) (w : World) (h0 : 0 ≤ id ∧ id < 256) (h1 : 0 ≤ n ∧ n < 256) (hz : ∀ i, i < len → ∃ x z, a = some x ∧ w.cell? (x.add i) = some (.int .u8 z) ∧ 0 ≤ z ∧ z < 256) :
  Calls Try.prog 6 #[.int .u8 id, .int .u8 n, .slice a len cap] w fun e w' => e = .returned (.bool true) ∧ Below w.heap.size w w' := by
 have HI0 := Aside0.mk h0
 have HZ := Aside0.mk hz
 obtain ⟨N, hN1, hN2, hN⟩ : ∃ N : Nat, 1 ≤ N ∧ N ≤ 12 ∧ n % 12 + 1 = (N : Int) := ⟨(n % 12 + 1).toNat, by omega, by omega, by omega⟩
 have HN := Aside0.mk (And.intro hN1 hN2)
 have HNE := Aside0.mk hN
 obtain ⟨i0, i1⟩ := h0
 obtain ⟨i2, i3⟩ := h1
 clear hz hN1 hN2 hN
 go_enter Try.func6, Try.ntmps6
 have HB := Aside0.mk (Bel.refl w)
 obtain ⟨C8, hC8⟩ : ∃ C, (match Try.f6.body with | some (.seq _ (.seq _ (.seq _ (.seq _ (.seq _ (.seq _ c)))))) => c | _ => .skip) = C := ⟨_, rfl⟩
 have HC8 := Aside0.mk hC8
 simp only [Try.f6] at hC8
 rw [hC8]
 clear hC8
 go_wp2_with fail
 go_at_call 9
 refine (known12 _).mono ?_
 rintro e w1 ⟨rfl, hw1⟩
 replace HB := lbB HB hw1
 clear hw1
 by_cases hl40 : (40 : Int) < (len : Int)
 · have d0 : decide ((40 : Int) < (len : Int)) = true := decide_eq_true hl40
   go_wp2_with fail
   go_ret
   exact ⟨rfl, HB.out.b⟩
 have d0 : decide ((40 : Int) < (len : Int)) = false := decide_eq_false hl40
 have HL40 : Aside0 (len ≤ 40) := ⟨by omega⟩
 obtain ⟨n8, hn8⟩ : ∃ n, w1.heap.size = n := ⟨_, rfl⟩
 have HSn8 := Aside0.mk hn8
 have HW8 : Aside0 (w.heap.size ≤ n8) := ⟨by rw [← hn8]; exact HB.out.b.size⟩
 go_wp2_with fail
 rw [HNE.out]
 replace HB := laB HB (.cells #[.int .i64 id, .int .i64 1, .int .i64 0, .int .i64 0, .int .i64 0, .int .i64 0, .slice none 0 0] 26)
 replace HB := laB HB (.cells #[.int .i64 id, .int .i64 1, .int .i64 0, .int .i64 0, .int .i64 0, .int .i64 0, .slice none 0 0] 26)
 have HG : Aside0 (BlkG ⟨id, 1, 0, 0, 0, 0, []⟩ none 0 n8 ((w1.alloc (.cells #[.int .i64 id, .int .i64 1, .int .i64 0, .int .i64 0, .int .i64 0, .int .i64 0, .slice none 0 0] 26)).alloc (.cells #[.int .i64 id, .int .i64 1, .int .i64 0, .int .i64 0, .int .i64 0, .int .i64 0, .slice none 0 0] 26))) := ⟨(by have hq := BlkG.new ⟨id, 1, 0, 0, 0, 0, []⟩ none 0 w1; rw [HSn8.out] at hq; exact hq.alloc (.cells #[.int .i64 id, .int .i64 1, .int .i64 0, .int .i64 0, .int .i64 0, .int .i64 0, .slice none 0 0] 26))⟩
 have HV : Aside0 (BlkG ⟨id, 1, 0, 0, 0, 0, []⟩ none 0 (n8 + 1) ((w1.alloc (.cells #[.int .i64 id, .int .i64 1, .int .i64 0, .int .i64 0, .int .i64 0, .int .i64 0, .slice none 0 0] 26)).alloc (.cells #[.int .i64 id, .int .i64 1, .int .i64 0, .int .i64 0, .int .i64 0, .int .i64 0, .slice none 0 0] 26))) := ⟨(by have hq := BlkG.new ⟨id, 1, 0, 0, 0, 0, []⟩ none 0 (w1.alloc (.cells #[.int .i64 id, .int .i64 1, .int .i64 0, .int .i64 0, .int .i64 0, .int .i64 0, .slice none 0 0] 26)); rw [World.size_alloc, HSn8.out] at hq; exact hq)⟩
 obtain ⟨W0, hW0⟩ : ∃ W, (w1.alloc (.cells #[.int .i64 id, .int .i64 1, .int .i64 0, .int .i64 0, .int .i64 0, .int .i64 0, .slice none 0 0] 26)).alloc (.cells #[.int .i64 id, .int .i64 1, .int .i64 0, .int .i64 0, .int .i64 0, .int .i64 0, .slice none 0 0] 26) = W := ⟨_, rfl⟩
 rw [hW0] at HB HG HV ⊢
 clear hW0
 clear hn8 d0 hl40 i2 i3
 have HI1 : Aside0 (OrdI id w n8 (n8 + 1) 0 W0) := ⟨⟨HG.out, HB.out, none, 0, HV.out, OwnE.nil _ _⟩⟩
 obtain ⟨n9, hn9⟩ : ∃ x, n8 + 1 = x := ⟨_, rfl⟩
 rw [hn9] at HI1 ⊢
 have l89 : n8 < n9 := by omega
 clear hn9 HG HV HB
 have hC8 := HC8.out
 simp only [Try.f6] at hC8
 subst hC8
 clear HC8
 obtain ⟨C12, hC12⟩ : ∃ C, (match Try.f6.body with | some (.seq _ (.seq _ (.seq _ (.seq _ (.seq _ (.seq _ (.seq _ c))))))) => c | _ => .skip) = C := ⟨_, rfl⟩
 have HC12 := Aside0.mk hC12
 simp only [Try.f6] at hC12
 rw [hC12]
 clear hC12
 go_wp2
 go_loopw [10] (fun i wr => ∃ k : Nat, k ≤ N ∧ i = .int .i64 ((k : Int) + 1) ∧ Aside0 (OrdI id w n8 n9 k wr)) (fun i _ => N + 1 - (intOf i).toNat)
 case atStart => exact ⟨0, Nat.zero_le _, rfl, HI1⟩
 case round =>
   obtain ⟨k, hk, rfl, HI⟩ := hrel
   obtain ⟨hg, hbe, A, c, hv, ho⟩ := HI.out
   have HG := Aside0.mk hg
   have HB := Aside0.mk hbe
   have HV := Aside0.mk hv
   have HO := Aside0.mk ho
   have hn12 := HN.out
   clear HI hg hbe hv ho
   by_cases hlt : k < N
   · have d1 : decide ((k : Int) + 1 ≤ (N : Int)) = true := decide_eq_true (by omega)
     obtain ⟨L, hL⟩ : ∃ L, ordL k = L := ⟨_, rfl⟩
     have HLK : Aside0 (L.length = k) := ⟨by rw [← hL]; exact ordL_len k⟩
     have HLS : Aside0 (ordL (k + 1) = L ++ [entO (k + 1)]) := ⟨by rw [← hL]; exact ordL_succ k⟩
     rw [hL] at HV HO
     clear hL
     obtain ⟨y0, y1, y2, y3, y4, y5, y6⟩ := HV.out.box
     have yf := HV.out.free
     obtain ⟨m, hm⟩ : ∃ n, wr.heap.size = n := ⟨_, rfl⟩
     have HM := Aside0.mk hm
     have l9 : n9 < m := by rw [← hm]; exact HV.out.lt
     have l9a : n9 ≠ m := by omega
     have l9b : m ≠ n9 := by omega
     dsimp only at y0 y1 y2 y3 y4 y5 y6
     go_wp2_with (at_builtin; refine wpList_append_ent (l := L) (m := [entO (k + 1)]) (b := n9 + 1) rfl (.tmp 33) (.tmp 37) rfl rfl (HO.out.alloc _) rfl (by have hq := Rd.one wr (entO (k + 1)); rw [HM.out] at hq; exact hq) (by have h1 := HLK.out; have h2 := HN.out; rw [h1]; show k + 1 ≤ _; omega) (by rw [World.size_alloc, HM.out]; omega) ?_; intro v6 w6 ho6 hg6 ha6; have hon : Only (fun q => n9 + 1 ≤ q) wr w6 := ((Only.refl _ wr).alloc _).of_grown hg6 (fun q hq _ => by change (Value.slice A L.length c).ownBlock = some q at hq; exact (own_block HO.out hq).1); rw [← HLS.out] at ho6; have hlen : (ordL (k + 1)).length ≤ 4398046511104 := (by rw [ordL_len]; have := HN.out; omega); obtain ⟨A6, c6, hv6, hrd6, _⟩ := ho6.rd' hlen; subst hv6; have HO6 := Aside0.mk ho6; have hV6 := HV.out.only hon (fun h => by have h2 : n9 + 1 ≤ n9 := h; omega); have HG6 := Aside0.mk (HG.out.only hon (fun h => by have h2 : n9 + 1 ≤ n8 := h; omega)); have HB6 := Aside0.mk (HB.out.only hon (fun q hq h => by have h2 : n9 + 1 ≤ q := h; have := HW8.out; omega)); clear y0 y1 y2 y3 y4 y5 y6 yf; obtain ⟨y0, y1, y2, y3, y4, y5, y6⟩ := hV6.box; have yf := hV6.free; have HV6 := Aside0.mk hV6; clear ho6 hg6 ha6 hon hrd6 hV6 hlen)
     have hgl := HV6.out.setL (ordL (k + 1)) A6 c6
     have hx := (Only.refl (fun q => q = n9) w6).setCell (p := ⟨n9, 6, none⟩) rfl (.slice A6 (ordL (k + 1)).length c6)
     go_roundw
     case rel => exact ⟨k + 1, by omega, by go_num, ⟨HG6.out.only hx (fun h => by have h2 : n8 = n9 := h; omega), HB6.out.only hx (fun q hq h => by have h2 : q = n9 := h; have := HW8.out; omega), A6, c6, hgl, HO6.out.only hx (fun q hq h => by have h2 : q = n9 := h; omega)⟩⟩
     case measure => simp [intOf]; omega
   · obtain rfl : k = N := by omega
     have d1 : decide ((k : Int) + 1 ≤ (k : Int)) = false := decide_eq_false (by omega)
     obtain ⟨v0, hv0⟩ : ∃ v : Nat, v = 0 := ⟨_, rfl⟩
     have HJ0 : Aside0 (OrdJ id k w n8 n9 A c k wr) := ⟨by obtain ⟨A', c', e1, hrd, _⟩ := HO.out.rd' (by rw [ordL_len]; omega); injection e1 with e2 e3 e4; subst e2; subst e4; exact ⟨HV.out, hrd, HB.out, [], none, 0, OrdOk.nil _, fun m a b => absurd a (by omega), HG.out, Rd.nil _⟩⟩
     clear HG HB HV HO hv0
     go_wp2
     have hC12 := HC12.out
     simp only [Try.f6] at hC12
     subst hC12
     clear HC12
     obtain ⟨C19, hC19⟩ : ∃ C, (match Try.f6.body with | some (.seq _ (.seq _ (.seq _ (.seq _ (.seq _ (.seq _ (.seq _ (.seq _ c)))))))) => c | _ => .skip) = C := ⟨_, rfl⟩
     have HC19 := Aside0.mk hC19
     simp only [Try.f6] at hC19
     rw [hC19]
     clear hC19
     go_wp2
     go_loopw [11] (fun i wr => ∃ j : Nat, j ≤ len ∧ i = .int .i64 (j : Int) ∧ Aside0 (OrdJ id k w n8 n9 A c k wr)) (fun i _ => len - (intOf i).toNat)
     case atStart => exact ⟨0, Nat.zero_le _, rfl, HJ0⟩
     case round =>
       obtain ⟨j, hj, rfl, HI⟩ := hrel
       obtain ⟨hv, hr, hbe, L, B, d, hok, hall, hg, hl⟩ := HI.out
       have HV := Aside0.mk hv
       have HR := Aside0.mk hr
       have HB := Aside0.mk hbe
       have HG := Aside0.mk hg
       have HL := Aside0.mk hl
       have HOK := Aside0.mk (And.intro hok hall)
       clear HI hv hr hg hl hok hall HJ0
       by_cases hlt : j < len
       · obtain ⟨x, z, rfl, hz, hz0, hz1⟩ := HZ.out j hlt
         have hzc := (hbe.b.cell (World.block_lt_of_cell? _ _ hz)).trans hz
         have hlt2 : (j : Int) < (len : Int) := by omega
         have hk1 := HN.out
         have hb40 := HL40.out
         obtain ⟨J, hJ⟩ : ∃ J : Nat, z % (k : Int) + 1 = (J : Int) := ⟨(z % (k : Int) + 1).toNat, by have := Int.emod_nonneg z (b := (k : Int)) (by omega); omega⟩
         have HJ : Aside0 (1 ≤ J ∧ J ≤ k) := ⟨by have h1 := Int.emod_nonneg z (b := (k : Int)) (by omega); have h2 := Int.emod_lt_of_pos z (b := (k : Int)) (by omega); omega⟩
         have hk0 : ((k : Int) == 0) = false := beq_eq_false_iff_ne.2 (by omega)
         have hk9 : (k : Int) ≠ 0 := by omega
         have htm : z.tmod (k : Int) = z % (k : Int) := Int.tmod_eq_emod_of_nonneg hz0
         have hzw : IntKind.i64.wrap z = z := by rw [i64_w]; unfold wrap64; omega
         have hzk : IntKind.i64.wrap (z % (k : Int)) = z % (k : Int) := by have h1 := Int.emod_nonneg z (b := (k : Int)) (by omega); have h2 := Int.emod_lt_of_pos z (b := (k : Int)) (by omega); rw [i64_w]; unfold wrap64; omega
         have hzj : IntKind.i64.wrap (z % (k : Int) + 1) = (J : Int) := by rw [hJ, i64_w]; have := HJ.out; unfold wrap64; omega
         have hwJ : wrap64 (J : Int) = (J : Int) := by have := HJ.out; unfold wrap64; omega
         clear hbe hz
         obtain ⟨M, hM⟩ : ∃ M, stepE 1 L (entO J) = M := ⟨_, rfl⟩
         have HOM : Aside0 (OrdOk k M ∧ ∀ e, e ∈ M ↔ e ∈ L ∨ e = entO J) := ⟨by rw [← hM]; exact ⟨HOK.out.1.step (by have := HN.out; omega) HJ.out.1 HJ.out.2, step_mem HOK.out.1 HJ.out.1 HJ.out.2⟩⟩
         have HDO : Aside0 (doG ⟨id, 1, 0, 0, 0, 0, L⟩ ⟨id, 6, [entO J], 0, 0, 0, 0, 0, false, false⟩ = ⟨id, 1, 0, 0, 0, 0, M⟩) := ⟨by rw [← hM]; exact ord_do HOK.out.1 (by have := HN.out; omega) HI0.out HJ.out.1 HJ.out.2⟩
         have HLE : Aside0 (L.length + 1 ≤ 4398046511104) := ⟨by have := HOK.out.1.len; have := HN.out; omega⟩
         clear hM
         obtain ⟨hv0, hv1, hv2, hv3, hv4, hv5, hv6⟩ := HV.out.box
         obtain ⟨hg0, hg1, hg2, hg3, hg4, hg5, hg6⟩ := HG.out.box
         dsimp only at hv0 hv1 hv2 hv3 hv4 hv5 hv6 hg0 hg1 hg2 hg3 hg4 hg5 hg6
         obtain ⟨m, hm⟩ : ∃ n, wr.heap.size = n := ⟨_, rfl⟩
         have HSm := Aside0.mk hm
         go_wp2_with fail
         replace HV := laG HV (.cells #[.int .i64 (J : Int), .int .i64 (J : Int), .string ⟨#[]⟩] 38)
         replace HR := laR HR (.cells #[.int .i64 (J : Int), .int .i64 (J : Int), .string ⟨#[]⟩] 38)
         replace HB := laB HB (.cells #[.int .i64 (J : Int), .int .i64 (J : Int), .string ⟨#[]⟩] 38)
         replace HG := laG HG (.cells #[.int .i64 (J : Int), .int .i64 (J : Int), .string ⟨#[]⟩] 38)
         replace HL := laR HL (.cells #[.int .i64 (J : Int), .int .i64 (J : Int), .string ⟨#[]⟩] 38)
         go_at_call 12
         refine (sdo_c ⟨id, 1, 0, 0, 0, 0, L⟩ B d ⟨id, 6, [entO J], 0, 0, 0, 0, 0, false, false⟩ (some ⟨m, 0, none⟩) 1 _ HL.out (by have hq := Rd.one wr (entO J); rw [HSm.out] at hq; exact hq) HLE.out HDO.out).mono ?_
         rintro e w11 ⟨A3, c3, rfl, hrd, hw11⟩
         replace HV := lbG HV hw11
         replace HR := lbR HR hw11
         replace HB := lbB HB hw11
         replace HG := lbG HG hw11
         replace HL := lbR HL hw11
         have HM := Aside0.mk (hrd)
         clear hrd
         clear hw11
         clear hv0 hv1 hv2 hv3 hv4 hv5 hv6 hg0 hg1 hg2 hg3 hg4 hg5 hg6
         obtain ⟨hv0, hv1, hv2, hv3, hv4, hv5, hv6⟩ := HV.out.box
         obtain ⟨hg0, hg1, hg2, hg3, hg4, hg5, hg6⟩ := HG.out.box
         obtain ⟨R, hR⟩ : ∃ R : Grp, (⟨id, 1, 0, 0, 0, 0, M⟩ : Grp) = R := ⟨_, rfl⟩
         have hRl : R.l = M := by rw [← hR]
         rw [hR]
         rw [← hRl] at HM
         have HRE := Aside0.mk hR
         clear hR hRl hm
         have yf := HG.out.free
         dsimp only at hv0 hv1 hv2 hv3 hv4 hv5 hv6 hg0 hg1 hg2 hg3 hg4 hg5 hg6
         go_wp2_with fail
         clear yf
         clear hv0 hv1 hv2 hv3 hv4 hv5 hv6 hg0 hg1 hg2 hg3 hg4 hg5 hg6
         have hx := only_store R A3 c3 n8 w11
         replace HV := Aside0.mk (BlkG.only HV.out hx (fun h => by have h2 : n9 = n8 := h; omega))
         replace HR := Aside0.mk (Rd.only HR.out hx (fun q hq h => by have h3 : q = n8 := h; subst h3; exact Rd.apartG HR.out HG.out hq))
         replace HB := Aside0.mk (Bel.only HB.out hx (fun q hq h => by have h2 : q = n8 := h; have := HW8.out; omega))
         replace HL := Aside0.mk (Rd.only HL.out hx (fun q hq h => by have h3 : q = n8 := h; subst h3; exact Rd.apartG HL.out HG.out hq))
         replace HM := Aside0.mk (Rd.only HM.out hx (fun q hq h => by have h3 : q = n8 := h; subst h3; exact Rd.apartG HM.out HG.out hq))
         replace HG := Aside0.mk (BlkG.store (g := R) (A := A3) (c := c3) HG.out)
         clear hx
         obtain ⟨W5, hW5⟩ : ∃ W, (((((((w11.setCell ⟨n8, 0, none⟩ (.int .i64 R.id)).setCell ⟨n8, 1, none⟩ (.int .i64 R.fi)).setCell ⟨n8, 2, none⟩ (.int .i64 R.tm)).setCell ⟨n8, 3, none⟩ (.int .i64 R.ht)).setCell ⟨n8, 4, none⟩ (.int .i64 R.hv)).setCell ⟨n8, 5, none⟩ (.int .i64 R.hc)).setCell ⟨n8, 6, none⟩ (.slice A3 R.l.length c3)) = W := ⟨_, rfl⟩
         rw [hW5] at HV HR HB HG HL HM ⊢
         clear hW5
         have HM2 : Aside0 (Rd W5 A3 c3 M) := ⟨by have := HM.out; rw [← HRE.out] at this; exact this⟩
         have HG2 : Aside0 (BlkG ⟨id, 1, 0, 0, 0, 0, M⟩ A3 c3 n8 W5) := ⟨by have := HG.out; rw [← HRE.out] at this; exact this⟩
         have HIS : Aside0 (isG false R = true) := ⟨by rw [← HRE.out]; exact HOM.out.1.isG (by have := HN.out; omega) HI0.out⟩
         clear HG HM
         go_at_call 13
         refine (is_calls' R A3 c3 _ (by rw [← HRE.out]; exact HM2.out) HIS.out).mono ?_
         rintro e w21 ⟨rfl, hw21⟩
         replace HV := lbG HV hw21
         replace HR := lbR HR hw21
         replace HB := lbB HB hw21
         replace HL := lbR HL hw21
         replace HG2 := lbG HG2 hw21
         replace HM2 := lbR HM2 hw21
         clear hw21
         obtain ⟨hv0, hv1, hv2, hv3, hv4, hv5, hv6⟩ := HV.out.box
         obtain ⟨hg20, hg21, hg22, hg23, hg24, hg25, hg26⟩ := HG2.out.box
         dsimp only at hv0 hv1 hv2 hv3 hv4 hv5 hv6 hg20 hg21 hg22 hg23 hg24 hg25 hg26
         go_wp2_with fail
         go_roundw
         case rel => exact ⟨j + 1, by omega, by go_num, ⟨HV.out, HR.out, HB.out, M, A3, c3, HOM.out.1, fun m a b => absurd a (by omega), HG2.out, HM2.out⟩⟩
         case measure => simp [intOf]; omega
       · obtain rfl : j = len := by omega
         have HJ1 : Aside0 (OrdJ id k w n8 n9 A c k wr) := ⟨⟨HV.out, HR.out, hbe, L, B, d, HOK.out.1, HOK.out.2, HG.out, HL.out⟩⟩
         clear HV HR HB HG HL HOK hbe
         go_wp2
         have hC19 := HC19.out
         simp only [Try.f6] at hC19
         subst hC19
         clear HC19
         go_wp2
         go_loopw [13] (fun i wr => ∃ j : Nat, j ≤ k ∧ i = .int .i64 (j : Int) ∧ Aside0 (OrdJ id k w n8 n9 A c j wr)) (fun i _ => (intOf i).toNat)
         case atStart => exact ⟨k, Nat.le_refl _, rfl, HJ1⟩
         case round =>
           obtain ⟨J, hj, rfl, HI⟩ := hrel
           obtain ⟨hv, hr, hbe, L, B, d, hok, hall, hg, hl⟩ := HI.out
           have HV := Aside0.mk hv
           have HR := Aside0.mk hr
           have HB := Aside0.mk hbe
           have HG := Aside0.mk hg
           have HL := Aside0.mk hl
           have HOK := Aside0.mk (And.intro hok hall)
           clear HI hv hr hg hl hok hall hbe HJ1
           by_cases hlt : 1 ≤ J
           · have d1 : decide ((1 : Int) ≤ (J : Int)) = true := decide_eq_true (by omega)
             have HJ : Aside0 (1 ≤ J ∧ J ≤ k) := ⟨⟨hlt, hj⟩⟩
             obtain ⟨M, hM⟩ : ∃ M, stepE 1 L (entO J) = M := ⟨_, rfl⟩
             have HOM : Aside0 (OrdOk k M ∧ ∀ e, e ∈ M ↔ e ∈ L ∨ e = entO J) := ⟨by rw [← hM]; exact ⟨HOK.out.1.step (by have := HN.out; omega) HJ.out.1 HJ.out.2, step_mem HOK.out.1 HJ.out.1 HJ.out.2⟩⟩
             have HDO : Aside0 (doG ⟨id, 1, 0, 0, 0, 0, L⟩ ⟨id, 6, [entO J], 0, 0, 0, 0, 0, false, false⟩ = ⟨id, 1, 0, 0, 0, 0, M⟩) := ⟨by rw [← hM]; exact ord_do HOK.out.1 (by have := HN.out; omega) HI0.out HJ.out.1 HJ.out.2⟩
             have HLE : Aside0 (L.length + 1 ≤ 4398046511104) := ⟨by have := HOK.out.1.len; have := HN.out; omega⟩
             clear hM
             obtain ⟨hv0, hv1, hv2, hv3, hv4, hv5, hv6⟩ := HV.out.box
             obtain ⟨hg0, hg1, hg2, hg3, hg4, hg5, hg6⟩ := HG.out.box
             dsimp only at hv0 hv1 hv2 hv3 hv4 hv5 hv6 hg0 hg1 hg2 hg3 hg4 hg5 hg6
             obtain ⟨m, hm⟩ : ∃ n, wr.heap.size = n := ⟨_, rfl⟩
             have HSm := Aside0.mk hm
             go_wp2_with fail
             replace HV := laG HV (.cells #[.int .i64 (J : Int), .int .i64 (J : Int), .string ⟨#[]⟩] 38)
             replace HR := laR HR (.cells #[.int .i64 (J : Int), .int .i64 (J : Int), .string ⟨#[]⟩] 38)
             replace HB := laB HB (.cells #[.int .i64 (J : Int), .int .i64 (J : Int), .string ⟨#[]⟩] 38)
             replace HG := laG HG (.cells #[.int .i64 (J : Int), .int .i64 (J : Int), .string ⟨#[]⟩] 38)
             replace HL := laR HL (.cells #[.int .i64 (J : Int), .int .i64 (J : Int), .string ⟨#[]⟩] 38)
             go_at_call 12
             refine (sdo_c ⟨id, 1, 0, 0, 0, 0, L⟩ B d ⟨id, 6, [entO J], 0, 0, 0, 0, 0, false, false⟩ (some ⟨m, 0, none⟩) 1 _ HL.out (by have hq := Rd.one wr (entO J); rw [HSm.out] at hq; exact hq) HLE.out HDO.out).mono ?_
             rintro e w11 ⟨A3, c3, rfl, hrd, hw11⟩
             replace HV := lbG HV hw11
             replace HR := lbR HR hw11
             replace HB := lbB HB hw11
             replace HG := lbG HG hw11
             replace HL := lbR HL hw11
             have HM := Aside0.mk (hrd)
             clear hrd
             clear hw11
             clear hv0 hv1 hv2 hv3 hv4 hv5 hv6 hg0 hg1 hg2 hg3 hg4 hg5 hg6
             obtain ⟨hv0, hv1, hv2, hv3, hv4, hv5, hv6⟩ := HV.out.box
             obtain ⟨hg0, hg1, hg2, hg3, hg4, hg5, hg6⟩ := HG.out.box
             obtain ⟨R, hR⟩ : ∃ R : Grp, (⟨id, 1, 0, 0, 0, 0, M⟩ : Grp) = R := ⟨_, rfl⟩
             have hRl : R.l = M := by rw [← hR]
             rw [hR]
             rw [← hRl] at HM
             have HRE := Aside0.mk hR
             clear hR hRl hm
             have yf := HG.out.free
             dsimp only at hv0 hv1 hv2 hv3 hv4 hv5 hv6 hg0 hg1 hg2 hg3 hg4 hg5 hg6
             go_wp2_with fail
             clear yf
             clear hv0 hv1 hv2 hv3 hv4 hv5 hv6 hg0 hg1 hg2 hg3 hg4 hg5 hg6
             have hx := only_store R A3 c3 n8 w11
             replace HV := Aside0.mk (BlkG.only HV.out hx (fun h => by have h2 : n9 = n8 := h; omega))
             replace HR := Aside0.mk (Rd.only HR.out hx (fun q hq h => by have h3 : q = n8 := h; subst h3; exact Rd.apartG HR.out HG.out hq))
             replace HB := Aside0.mk (Bel.only HB.out hx (fun q hq h => by have h2 : q = n8 := h; have := HW8.out; omega))
             replace HL := Aside0.mk (Rd.only HL.out hx (fun q hq h => by have h3 : q = n8 := h; subst h3; exact Rd.apartG HL.out HG.out hq))
             replace HM := Aside0.mk (Rd.only HM.out hx (fun q hq h => by have h3 : q = n8 := h; subst h3; exact Rd.apartG HM.out HG.out hq))
             replace HG := Aside0.mk (BlkG.store (g := R) (A := A3) (c := c3) HG.out)
             clear hx
             obtain ⟨W5, hW5⟩ : ∃ W, (((((((w11.setCell ⟨n8, 0, none⟩ (.int .i64 R.id)).setCell ⟨n8, 1, none⟩ (.int .i64 R.fi)).setCell ⟨n8, 2, none⟩ (.int .i64 R.tm)).setCell ⟨n8, 3, none⟩ (.int .i64 R.ht)).setCell ⟨n8, 4, none⟩ (.int .i64 R.hv)).setCell ⟨n8, 5, none⟩ (.int .i64 R.hc)).setCell ⟨n8, 6, none⟩ (.slice A3 R.l.length c3)) = W := ⟨_, rfl⟩
             rw [hW5] at HV HR HB HG HL HM ⊢
             clear hW5
             have HM2 : Aside0 (Rd W5 A3 c3 M) := ⟨by have := HM.out; rw [← HRE.out] at this; exact this⟩
             have HG2 : Aside0 (BlkG ⟨id, 1, 0, 0, 0, 0, M⟩ A3 c3 n8 W5) := ⟨by have := HG.out; rw [← HRE.out] at this; exact this⟩
             have HIS : Aside0 (isG false R = true) := ⟨by rw [← HRE.out]; exact HOM.out.1.isG (by have := HN.out; omega) HI0.out⟩
             clear HG HM
             go_roundw
             case rel => exact ⟨J - 1, by omega, by have h9 : ((J : Int) - 1) = ((J - 1 : Nat) : Int) := (by omega); first | (rw [← h9]; go_num) | go_num, ⟨HV.out, HR.out, HB.out, M, A3, c3, HOM.out.1, fun m a b => (HOM.out.2 _).2 (by rcases Nat.lt_or_ge J m with h3 | h3; exact .inl (HOK.out.2 m h3 b); have h4 : m = J := (by omega); subst h4; exact .inr rfl), HG2.out, HM2.out⟩⟩
             case measure => simp [intOf]; omega
           · obtain rfl : J = 0 := by omega
             have d1 : decide ((1 : Int) ≤ ((0 : Nat) : Int)) = false := rfl
             obtain rfl : L = ordL k := ord_all HOK.out.1 (fun m a b => HOK.out.2 m (by omega) b)
             obtain ⟨L, hL⟩ : ∃ L, ordL k = L := ⟨_, rfl⟩
             have HDE : Aside0 (isG true ⟨id, 1, 0, 0, 0, 0, L⟩ = true) := ⟨by rw [← hL]; exact ord_dense (by have := HN.out; omega) HI0.out⟩
             rw [hL] at HV HR HG HL
             clear hL HOK
             have HSA : Aside0 (sameG ⟨id, 1, 0, 0, 0, 0, L⟩ ⟨id, 1, 0, 0, 0, 0, L⟩ = true) := ⟨sameG_iff.2 rfl⟩
             obtain ⟨hv0, hv1, hv2, hv3, hv4, hv5, hv6⟩ := HV.out.box
             obtain ⟨hg0, hg1, hg2, hg3, hg4, hg5, hg6⟩ := HG.out.box
             dsimp only at hv0 hv1 hv2 hv3 hv4 hv5 hv6 hg0 hg1 hg2 hg3 hg4 hg5 hg6
             go_wp2_with fail
             go_at_call 15
             refine (sdense_c ⟨id, 1, 0, 0, 0, 0, L⟩ B d _ HL.out HDE.out).mono ?_
             rintro e w31 ⟨rfl, hw31⟩
             replace HV := lbG HV hw31
             replace HR := lbR HR hw31
             replace HB := lbB HB hw31
             replace HG := lbG HG hw31
             replace HL := lbR HL hw31
             clear hw31
             clear hv0 hv1 hv2 hv3 hv4 hv5 hv6 hg0 hg1 hg2 hg3 hg4 hg5 hg6
             obtain ⟨hv0, hv1, hv2, hv3, hv4, hv5, hv6⟩ := HV.out.box
             obtain ⟨hg0, hg1, hg2, hg3, hg4, hg5, hg6⟩ := HG.out.box
             dsimp only at hv0 hv1 hv2 hv3 hv4 hv5 hv6 hg0 hg1 hg2 hg3 hg4 hg5 hg6
             go_wp2_with fail
             go_at_call 17
             refine (ssame_c ⟨id, 1, 0, 0, 0, 0, L⟩ ⟨id, 1, 0, 0, 0, 0, L⟩ B d A c _ HL.out HR.out HSA.out).mono ?_
             rintro e w32 ⟨rfl, hw32⟩
             replace HV := lbG HV hw32
             replace HR := lbR HR hw32
             replace HB := lbB HB hw32
             replace HG := lbG HG hw32
             replace HL := lbR HL hw32
             clear hw32
             clear hv0 hv1 hv2 hv3 hv4 hv5 hv6 hg0 hg1 hg2 hg3 hg4 hg5 hg6
             obtain ⟨hv0, hv1, hv2, hv3, hv4, hv5, hv6⟩ := HV.out.box
             obtain ⟨hg0, hg1, hg2, hg3, hg4, hg5, hg6⟩ := HG.out.box
             dsimp only at hv0 hv1 hv2 hv3 hv4 hv5 hv6 hg0 hg1 hg2 hg3 hg4 hg5 hg6
             go_wp2_with fail
             go_ret
             exact ⟨rfl, HB.out.b⟩
end Go.Proofs.Ytfnflbclhaeedaa.PartW
namespace Go.Proofs.Ytfnflbclhaeedaa.Pure
theorem SparseOrders : True := trivial
end Go.Proofs.Ytfnflbclhaeedaa.Pure
namespace Go.Proofs.Ytfnflbclhaeedaa.A
open Go Go.RowKit Go.Proofs.Ytfnflbclhaeedaa.PartW
theorem ladelaw12_SparseOrders.walk (_ : True) (id n : Int) (a : Option Addr) (len cap : Nat) (zs : List Int) (w : World) (w0 : (Lit.int .u8 id).wf = true) (w1 : (Lit.int .u8 n).wf = true)
  (w2 : (a = none ∧ len = 0 ∧ cap = 0 ∧ zs = []) ∨ ∃ x, a = some x ∧ len ≤ cap ∧ cap ≤ maxLen ∧ zs.length = cap ∧ (∀ i, i < zs.length → w.cell? (x.add i) = some (.int .u8 (zs.getD i 0))) ∧ ∀ n ∈ zs, (Lit.int .u8 n).wf = true) (y2 : len * 1 ≤ 140737488351232) :
  Calls Try.prog 6 #[.int .u8 id, .int .u8 n, .slice a len cap] w fun e w' => e = .returned (.bool true) ∧ Below w.heap.size w w' := by
  have h0 : 0 ≤ id ∧ id < 256 := by simp [Lit.wf, IntKind.min, IntKind.max, IntKind.bits, IntKind.signed] at w0; omega
  have h1 : 0 ≤ n ∧ n < 256 := by simp [Lit.wf, IntKind.min, IntKind.max, IntKind.bits, IntKind.signed] at w1; omega
  refine orders_walk id n a len cap zs w h0 h1 (fun i hi => ?_)
  rcases w2 with ⟨_, h, _⟩ | ⟨x, rfl, h2, _, h4, h5, h6⟩
  · omega
  · have h7 := h6 (zs.getD i 0) (by rw [List.getD_eq_getElem?_getD, List.getElem?_eq_getElem (by omega)]; exact List.getElem_mem _)
    have h8 := h5 i (by omega)
    obtain ⟨z, hz⟩ : ∃ z, zs.getD i 0 = z := ⟨_, rfl⟩
    rw [hz] at h7 h8
    exact ⟨x, z, rfl, h8, by simp [Lit.wf, IntKind.min, IntKind.max, IntKind.bits, IntKind.signed] at h7; omega⟩
end Go.Proofs.Ytfnflbclhaeedaa.A
