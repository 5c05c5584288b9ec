/- The walks of the laws' app and grown. -/
import Derived.Test.YtlfdmlacadoolaaCalls6
import Derived.Test.YtlfdmlacadoolaaStay
set_option linter.unusedVariables false
set_option linter.unusedSimpArgs false
namespace Go.Proofs.Ytlfdmlacadoolaa.Sp
open Go Go.RowKit Go.Proofs.Ytlfdmlacadoolaa.A Go.Proofs.YtlfdmlacadoolaaW.PrintWords Go.Proofs.YtlfdmlacadoolaaW.PrintLast Go.Proofs.YtlfdmlacadoolaaW.PrintMore
def appE (i t : Int) (k : Nat) : Ent := ⟨i + (k : Int), t, ⟨#[]⟩⟩
def appL (i t : Int) (k : Nat) : List Ent := (List.range k).map (appE i t)
theorem appL_succ (i t : Int) (k : Nat) : appL i t (k + 1) = appL i t k ++ [appE i t k] := by
  unfold appL
  rw [List.range_succ, List.map_append]; rfl
theorem appL_len (i t : Int) (k : Nat) : (appL i t k).length = k := by unfold appL; simp
theorem appL_el {i t : Int} {N j : Nat} (h : j < N) : el (appL i t N) j = appE i t j := by
  rw [el_get (by rw [appL_len]; exact h)]
  unfold appL
  simp
/-- the part that app makes -/
def appP (id i t : Int) (N : Nat) : Prt := ⟨id, 1, appL i t N, 0, 0, 0, 0, 0, false, false⟩
theorem isE_app {i t : Int} {k : Nat} (h1 : 1 ≤ i) (h2 : i ≤ 1000000) (h3 : 1 ≤ t ∧ t ≤ 1000000) (hk : k ≤ 1000) : isE (appE i t k) = true := by
  unfold isE appE
  apply decide_eq_true
  refine ⟨by show 1 ≤ i + (k : Int); omega, by show i + (k : Int) ≤ _; omega, h3.1, by show t ≤ _; omega, by show (0 : Nat) ≤ 40; omega⟩
theorem appP_is {id i t : Int} {N : Nat} (hid : 0 ≤ id ∧ id ≤ 999) (h1 : 1 ≤ i) (h2 : i ≤ 1000000) (h3 : 1 ≤ t ∧ t ≤ 1000000) (hN : 1 ≤ N ∧ N ≤ 6) : isP (appP id i t N) = true := by
  have hr : risB true (appL i t N) = true := by
    unfold risB
    rw [Bool.and_eq_true]
    refine ⟨List.all_eq_true.2 (fun j hj => ?_), decide_eq_true (by rw [appL_len]; exact hN.2)⟩
    have hj := List.mem_range.1 hj
    rw [appL_len] at hj
    unfold okR
    rw [appL_el hj, isE_app h1 h2 h3 (by omega), Bool.true_and, Bool.or_eq_true]
    rcases Nat.eq_zero_or_pos j with h | h
    · exact .inl (decide_eq_true h)
    · refine .inr ?_
      rw [appL_el (show j - 1 < N by omega), Bool.and_eq_true, Bool.not_true, Bool.false_or]
      unfold appE
      exact ⟨decide_eq_true (by dsimp only; omega), decide_eq_true (by dsimp only; omega)⟩
  unfold isP appP
  rw [Bool.and_eq_true]
  refine ⟨decide_eq_true hid, ?_⟩
  dsimp only
  rw [if_pos rfl, hr]
  have : noL ⟨id, 1, appL i t N, 0, 0, 0, 0, 0, false, false⟩ = false := by unfold noL; rw [appL_len]; exact decide_eq_false (by omega)
  rw [this]
  rfl
/-- the group that grown makes -/
def groG (id : Int) (k : Nat) : Grp := ⟨id, 1, 0, 0, 0, 0, (List.range k).map fun (j : Nat) => (⟨(j : Int) + 1, (j : Int) + 1, ⟨#[]⟩⟩ : Ent)⟩
theorem gro_len (id : Int) (k : Nat) : (groG id k).l.length = k := by unfold groG; simp
theorem gro_el {id : Int} {k j : Nat} (h : j < k) : el (groG id k).l j = ⟨(j : Int) + 1, (j : Int) + 1, ⟨#[]⟩⟩ := by
  rw [el_get (by rw [gro_len]; exact h)]
  unfold groG
  simp
theorem gro_dense {id : Int} {k : Nat} (hid : 0 ≤ id ∧ id ≤ 999) (hk : k ≤ 1000) : isG true (groG id k) = true := by
  refine isG_mk ?_ (fun i hi => ?_)
  · unfold headG groG isH
    dsimp only
    rw [decide_eq_true (by omega), decide_eq_true (by omega)]; rfl
  · rw [gro_len] at hi
    rw [gro_el hi]
    refine ⟨?_, by show (i : Int) + 1 = 1 + i; omega⟩
    unfold isE
    apply decide_eq_true
    refine ⟨by show 1 ≤ (i : Int) + 1; omega, by show (i : Int) + 1 ≤ _; omega, by show 1 ≤ (i : Int) + 1; omega, by show (i : Int) + 1 ≤ _; omega, by show (0 : Nat) ≤ 40; omega⟩
theorem gro_last {id : Int} {k : Nat} (hid : 0 ≤ id ∧ id ≤ 999) (hk : k ≤ 1000) : lastG (groG id k) = k := by
  rw [dense_last (gro_dense hid hk), gro_len]
  show (1 : Int) + k - 1 = k
  omega
/-- why entries can't be appended -/
theorem app_chk {g : Grp} {i t : Int} {N : Nat} (hD : isG true g = true) (h1 : 1 ≤ i) (h2 : i ≤ 1000000) (h3 : 1 ≤ t ∧ t ≤ 1000000) (hN : 1 ≤ N ∧ N ≤ 6) (hid : 0 ≤ g.id ∧ g.id ≤ 999) :
    chkG g (appP g.id i t N) = if i < g.fi then 15 else if g.fi + g.l.length - 1 < i - 1 then 14 else 0 := by
  unfold chkG
  rw [if_pos ⟨appP_is hid h1 h2 h3 hN, by show ¬ (1 : Int) = 6; decide, by show ¬ (1 : Int) = 5; decide, rfl⟩]
  unfold chkK
  rw [if_pos (show (appP g.id i t N).k = 1 from rfl), dense_last hD]
  have he : (el (appP g.id i t N).l 0).f0 = i := by
    show (el (appL i t N) 0).f0 = i
    rw [appL_el (by omega)]
    show i + ((0 : Nat) : Int) = i
    omega
  have hw : wrap64 (i - 1) = i - 1 := by unfold wrap64; omega
  rw [he, hw]
theorem gro_step {id : Int} {k : Nat} (hid : 0 ≤ id ∧ id ≤ 999) (hk : k < 1000) : chwG (groG id k) (appP id ((k : Int) + 1) ((k : Int) + 1) 1) = 0 ∧ dwG (groG id k) (appP id ((k : Int) + 1) ((k : Int) + 1) 1) = groG id (k + 1) := by
  have hD := gro_dense hid (k := k) (by omega)
  have hc : chkG (groG id k) (appP id ((k : Int) + 1) ((k : Int) + 1) 1) = 0 := by
    have := app_chk (g := groG id k) (i := (k : Int) + 1) (t := (k : Int) + 1) (N := 1) hD (by omega) (by omega) ⟨by omega, by omega⟩ ⟨by omega, by omega⟩ hid
    rw [gro_len] at this
    refine this.trans ?_
    rw [if_neg (show ¬ ((k : Int) + 1 < (groG id k).fi) from by show ¬ ((k : Int) + 1 < 1); omega), if_neg (show ¬ ((groG id k).fi + (k : Int) - 1 < (k : Int) + 1 - 1) from by show ¬ ((1 : Int) + (k : Int) - 1 < (k : Int) + 1 - 1); omega)]
  refine ⟨by rw [chw_chk hD]; exact hc, ?_⟩
  rw [app_list hD hc rfl]
  have he : (el (appP id ((k : Int) + 1) ((k : Int) + 1) 1).l 0).f0 = (k : Int) + 1 := by
    show (el (appL _ _ 1) 0).f0 = _
    rw [appL_el (by omega)]
    show (k : Int) + 1 + ((0 : Nat) : Int) = _
    omega
  rw [he, show ((k : Int) + 1 - (groG id k).fi).toNat = k from by show ((k : Int) + 1 - 1).toNat = k; omega, List.take_of_length_le (by rw [gro_len]; exact Nat.le_refl _)]
  unfold groG
  dsimp only
  rw [List.range_succ, List.map_append]
  congr 2
end Go.Proofs.Ytlfdmlacadoolaa.Sp
namespace Go.Proofs.Ytlfdmlacadoolaa.PartW
open Go Go.RowKit Go.Shelf Go.Proofs.Ytlfdmlacadoolaa.A Go.Proofs.Ytlfdmlacadoolaa.Sp Go.Proofs.Ytlfdmlacadoolaa.Reg Go.Proofs.Ytlfdmlacadoolaa.Seq Go.Proofs.YtlfdmlacadoolaaW.PrintWords Go.Proofs.YtlfdmlacadoolaaW.PrintLast Go.Proofs.YtlfdmlacadoolaaW.PrintMore
/-- a part is given back -/
def GotP (w : World) (p : Prt) (e : Ending) (w' : World) : Prop := ∃ A c, e = .returned (vP p A c) ∧ Rd w' A c p.l ∧ Below w.heap.size w w'
theorem BlkP.lt' {p : Prt} {A : Option Addr} {c B : Nat} {W : World} (h : BlkP p A c B W) : B < W.heap.size := (Array.getElem?_eq_some_iff.1 h).1
theorem BlkP.free' {p : Prt} {A : Option Addr} {c B : Nat} {W : World} (h : BlkP p A c B W) (o : Nat) : W.frozen? ⟨B, o, none⟩ = false := by
  unfold BlkP at h
  simp [World.frozen?, h]
theorem BlkP.setL' {p : Prt} {A : Option Addr} {c B : Nat} {W : World} (h : BlkP p A c B W) (l : List Ent) (A' : Option Addr) (c' : Nat) : BlkP ⟨p.g, p.k, l, p.ht, p.hv, p.hc, p.ix, p.tm, p.mrk, p.hed⟩ A' c' B (W.setCell ⟨B, 2, none⟩ (.slice A' l.length c')) := by
  unfold BlkP at h ⊢
  simp [World.setCell, Array.getElem?_modify, h]
/-- what holds while entries are laid -/
def AppI (id i t : Int) (w : World) (n8 n9 k : Nat) (W : World) : Prop :=
  BlkP ⟨0, 0, [], 0, 0, 0, 0, 0, false, false⟩ none 0 n8 W ∧ Bel w W ∧ ∃ A c, BlkP (appP id i t k) A c n9 W ∧ OwnE W (n9 + 1) (.slice A (appL i t k).length c) (appL i t k)
set_option maxHeartbeats 8000000 in
set_option maxRecDepth 100000 in
theorem app_calls (id i t : Int) (N : Nat) (w : World) (hN : N ≤ 1000) (hi : -1000000 ≤ i ∧ i ≤ 1000000) : Calls Try.prog 34 #[.int .i64 id, .int .i64 i, .int .i64 t, .int .i64 (N : Int)] w (GotP w (appP id i t N)) := by
 have HN := Aside0.mk hN
 have HI := Aside0.mk hi
 clear hN hi
 go_enter Try.func34, Try.ntmps34
 obtain ⟨C2, hC2⟩ : ∃ C, (match Try.f34.body with | some (.seq _ (.seq _ c)) => c | _ => .skip) = C := ⟨_, rfl⟩
 have HC2 := Aside0.mk hC2
 simp only [Try.f34] at hC2
 rw [hC2]
 clear hC2
 obtain ⟨n8, hn8⟩ : ∃ n, w.heap.size = n := ⟨_, rfl⟩
 have HSn8 := Aside0.mk hn8
 go_wp2
 have HB := Aside0.mk (Bel.refl w)
 replace HB := laB HB (.cells #[.int .i64 0, .int .i64 0, .slice none 0 0, .int .i64 0, .int .i64 0, .int .i64 0, .int .i64 0, .int .i64 0, .bool false, .bool false] 28)
 replace HB := laB HB (.cells #[.int .i64 id, .int .i64 1, .slice none 0 0, .int .i64 0, .int .i64 0, .int .i64 0, .int .i64 0, .int .i64 0, .bool false, .bool false] 28)
 have HZ : Aside0 (BlkP ⟨0, 0, [], 0, 0, 0, 0, 0, false, false⟩ none 0 n8 ((w.alloc (.cells #[.int .i64 0, .int .i64 0, .slice none 0 0, .int .i64 0, .int .i64 0, .int .i64 0, .int .i64 0, .int .i64 0, .bool false, .bool false] 28)).alloc (.cells #[.int .i64 id, .int .i64 1, .slice none 0 0, .int .i64 0, .int .i64 0, .int .i64 0, .int .i64 0, .int .i64 0, .bool false, .bool false] 28))) := ⟨(by have hq := BlkP.new ⟨0, 0, [], 0, 0, 0, 0, 0, false, false⟩ none 0 w; rw [HSn8.out] at hq; exact hq.alloc (.cells #[.int .i64 id, .int .i64 1, .slice none 0 0, .int .i64 0, .int .i64 0, .int .i64 0, .int .i64 0, .int .i64 0, .bool false, .bool false] 28))⟩
 have HP : Aside0 (BlkP (appP id i t 0) none 0 (n8 + 1) ((w.alloc (.cells #[.int .i64 0, .int .i64 0, .slice none 0 0, .int .i64 0, .int .i64 0, .int .i64 0, .int .i64 0, .int .i64 0, .bool false, .bool false] 28)).alloc (.cells #[.int .i64 id, .int .i64 1, .slice none 0 0, .int .i64 0, .int .i64 0, .int .i64 0, .int .i64 0, .int .i64 0, .bool false, .bool false] 28))) := ⟨(by have hq := BlkP.new (appP id i t 0) none 0 (w.alloc (.cells #[.int .i64 0, .int .i64 0, .slice none 0 0, .int .i64 0, .int .i64 0, .int .i64 0, .int .i64 0, .int .i64 0, .bool false, .bool false] 28)); rw [World.size_alloc, HSn8.out] at hq; exact hq)⟩
 obtain ⟨W0, hW0⟩ : ∃ W, (w.alloc (.cells #[.int .i64 0, .int .i64 0, .slice none 0 0, .int .i64 0, .int .i64 0, .int .i64 0, .int .i64 0, .int .i64 0, .bool false, .bool false] 28)).alloc (.cells #[.int .i64 id, .int .i64 1, .slice none 0 0, .int .i64 0, .int .i64 0, .int .i64 0, .int .i64 0, .int .i64 0, .bool false, .bool false] 28) = W := ⟨_, rfl⟩
 rw [hW0] at HB HZ HP ⊢
 clear hW0
 clear hn8
 have HI1 : Aside0 (AppI id i t w n8 (n8 + 1) 0 W0) := ⟨⟨HZ.out, HB.out, none, 0, HP.out, OwnE.nil _ _⟩⟩
 obtain ⟨n9, hn9⟩ : ∃ x, n8 + 1 = x := ⟨_, rfl⟩
 rw [hn9] at HI1 ⊢
 have l89 : n8 < n9 := by omega
 clear hn9 HZ HP HB
 have hC2 := HC2.out
 simp only [Try.f34] at hC2
 subst hC2
 clear HC2
 obtain ⟨C6, hC6⟩ : ∃ C, (match Try.f34.body with | some (.seq _ (.seq _ (.seq _ c))) => c | _ => .skip) = C := ⟨_, rfl⟩
 have HC6 := Aside0.mk hC6
 simp only [Try.f34] at hC6
 rw [hC6]
 clear hC6
 go_wp2
 go_loopw [10] (fun v wr => ∃ k : Nat, k ≤ N ∧ v = .int .i64 (k : Int) ∧ Aside0 (AppI id i t w n8 n9 k wr)) (fun v _ => N - (intOf v).toNat)
 case atStart => exact ⟨0, Nat.zero_le _, rfl, HI1⟩
 case round =>
   obtain ⟨k, hk, rfl, HK⟩ := hrel
   obtain ⟨hz, hbe, A, c, hp, ho⟩ := HK.out
   have HZ := Aside0.mk hz
   have HB := Aside0.mk hbe
   have HP := Aside0.mk hp
   have HO := Aside0.mk ho
   have hn12 := HN.out
   have hi12 := HI.out
   have HS8 : Aside0 (w.heap.size ≤ n8) := ⟨Nat.le_of_eq HSn8.out⟩
   clear HK hz hbe hp ho
   by_cases hlt : k < N
   · have hlt2 : (k : Int) < (N : Int) := by omega
     have d1 : decide ((k : Int) < (N : Int)) = true := decide_eq_true hlt2
     have hik : IntKind.i64.wrap (i + (k : Int)) = i + (k : Int) := by rw [i64_w]; unfold wrap64; omega
     obtain ⟨L, hL⟩ : ∃ L, appL i t k = L := ⟨_, rfl⟩
     have HLK : Aside0 (L.length = k) := ⟨by rw [← hL]; exact appL_len i t k⟩
     have HLS : Aside0 (appL i t (k + 1) = L ++ [appE i t k]) := ⟨by rw [← hL]; exact appL_succ i t k⟩
     have HP2 : Aside0 (BlkP ⟨id, 1, L, 0, 0, 0, 0, 0, false, false⟩ A c n9 wr) := ⟨by rw [← hL]; exact HP.out⟩
     rw [hL] at HO
     clear hL HP
     obtain ⟨y0, y1, y2, y3, y4, y5, y6, y7, y8, y9⟩ := HP2.out.box
     have yf := BlkP.free' HP2.out
     obtain ⟨m, hm⟩ : ∃ n, wr.heap.size = n := ⟨_, rfl⟩
     have HM := Aside0.mk hm
     have l9 : n9 < m := by rw [← hm]; exact BlkP.lt' HP2.out
     have l9a : n9 ≠ m := by omega
     have l9b : m ≠ n9 := by omega
     dsimp only at y0 y1 y2 y3 y4 y5 y6 y7 y8 y9
     go_wp2_with (at_builtin; refine wpList_append_ent (l := L) (m := [appE i t k]) (b := n9 + 1) rfl (.tmp 19) (.tmp 25) rfl rfl (HO.out.alloc _) rfl (by have hq := Rd.one wr (appE i t k); rw [HM.out] at hq; exact hq) (by have h1 := HLK.out; have h2 := HN.out; rw [h1]; show k + 1 ≤ _; omega) (by rw [World.size_alloc, HM.out]; omega) ?_; intro v6 w6 ho6 hg6 ha6; have hon : Only (fun q => n9 + 1 ≤ q) wr w6 := ((Only.refl _ wr).alloc _).of_grown hg6 (fun q hq _ => by change (Value.slice A L.length c).ownBlock = some q at hq; exact (own_block HO.out hq).1); rw [← HLS.out] at ho6; have hlen : (appL i t (k + 1)).length ≤ 4398046511104 := (by rw [appL_len]; have := HN.out; omega); obtain ⟨A6, c6, hv6, hrd6, _⟩ := ho6.rd' hlen; subst hv6; have HO6 := Aside0.mk ho6; have hV6 := BlkP.only HP2.out hon (fun h => by have h2 : n9 + 1 ≤ n9 := h; omega); have HZ6 := Aside0.mk (BlkP.only HZ.out hon (fun h => by have h2 : n9 + 1 ≤ n8 := h; omega)); have HB6 := Aside0.mk (HB.out.only hon (fun q hq h => by have h2 : n9 + 1 ≤ q := h; have := HS8.out; omega)); clear y0 y1 y2 y3 y4 y5 y6 y7 y8 y9 yf; obtain ⟨y0, y1, y2, y3, y4, y5, y6, y7, y8, y9⟩ := hV6.box; have yf := BlkP.free' hV6; have HV6 := Aside0.mk hV6; clear ho6 hg6 ha6 hon hrd6 hV6 hlen)
     have hgl := BlkP.setL' HV6.out (appL i t (k + 1)) A6 c6
     have hx := (Only.refl (fun q => q = n9) w6).setCell (p := ⟨n9, 2, none⟩) rfl (.slice A6 (appL i t (k + 1)).length c6)
     go_roundw
     case rel => exact ⟨k + 1, by omega, by go_num, ⟨BlkP.only HZ6.out hx (fun h => by have h2 : n8 = n9 := h; omega), HB6.out.only hx (fun q hq h => by have h2 : q = n9 := h; have := HS8.out; omega), A6, c6, hgl, HO6.out.only hx (fun q hq h => by have h2 : q = n9 := h; omega)⟩⟩
     case measure => simp [intOf]; omega
   · obtain rfl : k = N := by omega
     have d1 : decide ((k : Int) < (k : Int)) = false := decide_eq_false (by omega)
     obtain ⟨P, hP⟩ : ∃ P, appP id i t k = P := ⟨_, rfl⟩
     have HR : Aside0 (Rd wr A c P.l) := ⟨by rw [← hP]; obtain ⟨A', c', e1, hrd, _⟩ := HO.out.rd' (by rw [appL_len]; omega); injection e1 with e2 e3 e4; subst e2; subst e4; exact hrd⟩
     rw [hP] at HP
     have HPE := Aside0.mk hP
     clear HO hP
     obtain ⟨y0, y1, y2, y3, y4, y5, y6, y7, y8, y9⟩ := HP.out.box
     obtain ⟨z0, z1, z2, z3, z4, z5, z6, z7, z8, z9⟩ := HZ.out.box
     have zf := BlkP.free' HZ.out
     go_wp2
     have hC6 := HC6.out
     simp only [Try.f34] at hC6
     subst hC6
     clear HC6
     go_wp2
     have hx : Only (fun q => q = n8) wr ((((((((((wr.setCell ⟨n8, 0, none⟩ (.int .i64 P.g)).setCell ⟨n8, 1, none⟩ (.int .i64 P.k)).setCell ⟨n8, 2, none⟩ (.slice A P.l.length c)).setCell ⟨n8, 3, none⟩ (.int .i64 P.ht)).setCell ⟨n8, 4, none⟩ (.int .i64 P.hv)).setCell ⟨n8, 5, none⟩ (.int .i64 P.hc)).setCell ⟨n8, 6, none⟩ (.int .i64 P.ix)).setCell ⟨n8, 7, none⟩ (.int .i64 P.tm)).setCell ⟨n8, 8, none⟩ (.bool P.mrk)).setCell ⟨n8, 9, none⟩ (.bool P.hed)) := by (iterate 10 (refine Only.setCell (U := fun q => q = n8) ?_ rfl _)); exact Only.refl _ _
     have hb : BlkP P A c n8 ((((((((((wr.setCell ⟨n8, 0, none⟩ (.int .i64 P.g)).setCell ⟨n8, 1, none⟩ (.int .i64 P.k)).setCell ⟨n8, 2, none⟩ (.slice A P.l.length c)).setCell ⟨n8, 3, none⟩ (.int .i64 P.ht)).setCell ⟨n8, 4, none⟩ (.int .i64 P.hv)).setCell ⟨n8, 5, none⟩ (.int .i64 P.hc)).setCell ⟨n8, 6, none⟩ (.int .i64 P.ix)).setCell ⟨n8, 7, none⟩ (.int .i64 P.tm)).setCell ⟨n8, 8, none⟩ (.bool P.mrk)).setCell ⟨n8, 9, none⟩ (.bool P.hed)) := by have hq := HZ.out; unfold BlkP at hq ⊢; simp [World.setCell, Array.getElem?_modify, hq]
     have hr := Rd.only HR.out hx (fun q hq h => by have h3 : q = n8 := h; subst h3; exact Rd.apartP HR.out HZ.out hq)
     have hbe := HB.out.only hx (fun q hq h => by have h2 : q = n8 := h; have := HS8.out; omega)
     obtain ⟨r0, r1, r2, r3, r4, r5, r6, r7, r8, r9⟩ := hb.box
     refine bodyPost_ret (v := vP P A c) (by simp [results, Try.results34, go_sem, vP, r0, r1, r2, r3, r4, r5, r6, r7, r8, r9]) rfl ⟨A, c, by rw [HPE.out], by rw [HPE.out]; exact hr, hbe.b⟩
/-- what holds while a group grows -/
def GroI (id : Int) (w : World) (n4 n6 k : Nat) (W : World) : Prop :=
  BlkG ⟨0, 0, 0, 0, 0, 0, []⟩ none 0 n4 W ∧ Bel w W ∧ ∃ A c, BlkG (groG id k) A c n6 W ∧ Rd W A c (groG id k).l
theorem appc (id i t : Int) (N : Nat) (w : World) (hN : N ≤ 1000) (hi : -1000000 ≤ i ∧ i ≤ 1000000) {P : Prt} {v : Int} (hP : appP id i t N = P) (hv : v = (N : Int)) : Calls Try.prog 34 #[.int .i64 id, .int .i64 i, .int .i64 t, .int .i64 v] w (GotP w P) := by
  rw [← hP, hv]; exact app_calls id i t N w hN hi
set_option maxHeartbeats 8000000 in
set_option maxRecDepth 100000 in
theorem grown_calls (id : Int) (N : Nat) (w : World) (hid : 0 ≤ id ∧ id ≤ 999) (hN : N ≤ 900) : Calls Try.prog 33 #[.int .i64 id, .int .i64 (N : Int)] w fun e w' => ∃ A c, e = .returned (.tuple #[vG (groG id N) A c, .bool true]) ∧ Rd w' A c (groG id N).l ∧ Below w.heap.size w w' := by
 have HN := Aside0.mk hN
 have HID := Aside0.mk hid
 clear hN hid
 go_enter Try.func33, Try.ntmps33
 obtain ⟨C1, hC1⟩ : ∃ C, (match Try.f33.body with | some (.seq _ c) => c | _ => .skip) = C := ⟨_, rfl⟩
 have HC1 := Aside0.mk hC1
 simp only [Try.f33] at hC1
 rw [hC1]
 clear hC1
 obtain ⟨n4, hn4⟩ : ∃ n, w.heap.size = n := ⟨_, rfl⟩
 have HSn4 := Aside0.mk hn4
 go_wp2
 have HB := Aside0.mk (Bel.refl w)
 replace HB := laB HB (.cells #[.int .i64 0, .int .i64 0, .int .i64 0, .int .i64 0, .int .i64 0, .int .i64 0, .slice none 0 0] 26)
 have HZ : Aside0 (BlkG ⟨0, 0, 0, 0, 0, 0, []⟩ none 0 n4 (w.alloc (.cells #[.int .i64 0, .int .i64 0, .int .i64 0, .int .i64 0, .int .i64 0, .int .i64 0, .slice none 0 0] 26))) := ⟨(by have hq := BlkG.new ⟨0, 0, 0, 0, 0, 0, []⟩ none 0 w; rw [HSn4.out] at hq; exact hq)⟩
 obtain ⟨W0, hW0⟩ : ∃ W, w.alloc (.cells #[.int .i64 0, .int .i64 0, .int .i64 0, .int .i64 0, .int .i64 0, .int .i64 0, .slice none 0 0] 26) = W := ⟨_, rfl⟩
 rw [hW0] at HB HZ ⊢
 clear hW0
 clear hn4
 have hC1 := HC1.out
 simp only [Try.f33] at hC1
 subst hC1
 clear HC1
 obtain ⟨C2, hC2⟩ : ∃ C, (match Try.f33.body with | some (.seq _ (.seq _ c)) => c | _ => .skip) = C := ⟨_, rfl⟩
 have HC2 := Aside0.mk hC2
 simp only [Try.f33] at hC2
 rw [hC2]
 clear hC2
 obtain ⟨G, hG⟩ : ∃ G : Grp, (⟨id, 1, 0, 0, 0, 0, []⟩ : Grp) = G := ⟨_, rfl⟩
 have HG := Aside0.mk hG
 clear hG
 go_wp2_with fail
 go_at_call 19
 refine (new_c id _ HG.out).mono ?_
 rintro e w1 ⟨A1, c1, rfl, hrd, hw1⟩
 replace HB := lbB HB hw1
 replace HZ := lbG HZ hw1
 have HR := Aside0.mk (hrd)
 clear hrd
 clear hw1
 obtain ⟨n6, hn6⟩ : ∃ n, w1.heap.size = n := ⟨_, rfl⟩
 have HSn6 := Aside0.mk hn6
 have l46 : n4 < n6 := by rw [← hn6]; exact HZ.out.lt
 go_wp2_with fail
 replace HB := laB HB (.cells #[.int .i64 G.id, .int .i64 G.fi, .int .i64 G.tm, .int .i64 G.ht, .int .i64 G.hv, .int .i64 G.hc, .slice A1 G.l.length c1] 26)
 replace HZ := laG HZ (.cells #[.int .i64 G.id, .int .i64 G.fi, .int .i64 G.tm, .int .i64 G.ht, .int .i64 G.hv, .int .i64 G.hc, .slice A1 G.l.length c1] 26)
 replace HR := laR HR (.cells #[.int .i64 G.id, .int .i64 G.fi, .int .i64 G.tm, .int .i64 G.ht, .int .i64 G.hv, .int .i64 G.hc, .slice A1 G.l.length c1] 26)
 have HV : Aside0 (BlkG G A1 c1 n6 (w1.alloc (.cells #[.int .i64 G.id, .int .i64 G.fi, .int .i64 G.tm, .int .i64 G.ht, .int .i64 G.hv, .int .i64 G.hc, .slice A1 G.l.length c1] 26))) := ⟨(by have hq := BlkG.new G A1 c1 w1; rw [HSn6.out] at hq; exact hq : BlkG G A1 c1 n6 (w1.alloc (.cells #[.int .i64 G.id, .int .i64 G.fi, .int .i64 G.tm, .int .i64 G.ht, .int .i64 G.hv, .int .i64 G.hc, .slice A1 G.l.length c1] 26)))⟩
 obtain ⟨W1, hW1⟩ : ∃ W, w1.alloc (.cells #[.int .i64 G.id, .int .i64 G.fi, .int .i64 G.tm, .int .i64 G.ht, .int .i64 G.hv, .int .i64 G.hc, .slice A1 G.l.length c1] 26) = W := ⟨_, rfl⟩
 rw [hW1] at HB HZ HR HV ⊢
 clear hW1
 clear hn6
 have HI1 : Aside0 (GroI id w n4 n6 0 W1) := ⟨⟨HZ.out, HB.out, A1, c1, by have := HV.out; rw [← HG.out] at this; exact this, by have := HR.out; rw [← HG.out] at this; exact this⟩⟩
 clear HZ HB HV HR HG
 have hC2 := HC2.out
 simp only [Try.f33] at hC2
 subst hC2
 clear HC2
 obtain ⟨C9, hC9⟩ : ∃ C, (match Try.f33.body with | some (.seq _ (.seq _ (.seq _ c))) => c | _ => .skip) = C := ⟨_, rfl⟩
 have HC9 := Aside0.mk hC9
 simp only [Try.f33] at hC9
 rw [hC9]
 clear hC9
 go_wp2
 go_loopw [7] (fun v wr => ∃ k : Nat, k ≤ N ∧ v = .int .i64 ((k : Int) + 1) ∧ Aside0 (GroI id w n4 n6 k wr)) (fun v _ => N + 1 - (intOf v).toNat)
 case atStart => exact ⟨0, Nat.zero_le _, rfl, HI1⟩
 case round =>
   obtain ⟨k, hk, rfl, HK⟩ := hrel
   obtain ⟨hz, hbe, A, c, hv, hr⟩ := HK.out
   have HZ := Aside0.mk hz
   have HB := Aside0.mk hbe
   have HV := Aside0.mk hv
   have HR := Aside0.mk hr
   have hn12 := HN.out
   have HS4 : Aside0 (w.heap.size ≤ n4) := ⟨Nat.le_of_eq HSn4.out⟩
   clear HK hz hbe hv hr
   by_cases hlt : k < N
   · have d1 : decide ((k : Int) + 1 ≤ (N : Int)) = true := decide_eq_true (by omega)
     have hst := gro_step HID.out (k := k) (by omega)
     obtain ⟨G, hG⟩ : ∃ G, groG id k = G := ⟨_, rfl⟩
     obtain ⟨X, hX⟩ : ∃ X, groG id (k + 1) = X := ⟨_, rfl⟩
     obtain ⟨P, hP⟩ : ∃ P, appP id ((k : Int) + 1) ((k : Int) + 1) 1 = P := ⟨_, rfl⟩
     have HLE : Aside0 (G.l.length + P.l.length ≤ 4398046511104) := ⟨by rw [← hG, ← hP, gro_len]; show k + (appL _ _ 1).length ≤ _; rw [appL_len]; omega⟩
     rw [hG, hP] at hst
     rw [hX] at hst
     rw [hG] at HV HR
     have HST := Aside0.mk hst
     have HX := Aside0.mk hX
     have HP := Aside0.mk hP
     have HKK : Aside0 (-1000000 ≤ (k : Int) + 1 ∧ (k : Int) + 1 ≤ 1000000) := ⟨by omega⟩
     clear hst hG hX hP
     obtain ⟨hz0, hz1, hz2, hz3, hz4, hz5, hz6⟩ := HZ.out.box
     obtain ⟨hv0, hv1, hv2, hv3, hv4, hv5, hv6⟩ := HV.out.box
     go_wp2_with fail
     have HXE := HX
     clear HX
     obtain ⟨nX, hXB⟩ : ∃ n, wr.heap.size = n := ⟨_, rfl⟩
     have hXB2 : wr.drew.heap.size = nX := hXB
     clear hz0 hz1 hz2 hz3 hz4 hz5 hz6 hv0 hv1 hv2 hv3 hv4 hv5 hv6
     replace HZ := ldG HZ
     replace HB := ldB HB
     replace HV := ldG HV
     replace HR := ldR HR
     refine start_ (n := 12) (S := (fun w' => BoxG G A c n6 w')) (ds := [10]) #[false,false,false,false,false,false,false,false,false,false,false,false] (by kernel_rfl) rfl rfl HV.out.box (fun hHeld => ?_)
     refine take_ (i := 0) (N := some 18) (v := ?_) (a' := ?_) #[true,false,false,false,false,false,false,false,false,false,false,false] rfl rfl (by kernel_rfl) (fun _ _ _ h => h) (Or.inl ⟨by rfl, ?_⟩) hHeld ?_ ?_
     rotate_left
     · rintro w' ⟨e0, e1, e2, e3, e4, e5, e6⟩
       go_simp
       try with_reducible rfl
     rotate_left
     · simp only [Act.put, sA, sB, sC]
       rfl
     refine pure_ (i := 1) (N := some 19) (v := ?_) (a' := ?_) #[true,true,false,false,false,false,false,false,false,false,false,false] rfl rfl (by kernel_rfl) (fun _ _ _ h => h) (Or.inl ⟨by rfl, ?_⟩) ?_ ?_
     rotate_left
     · intro w'
       go_simp
       try with_reducible rfl
     rotate_left
     · simp only [Act.put, sA, sB, sC]
       rfl
     refine pure_ (i := 2) (N := some 20) (v := ?_) (a' := ?_) #[true,true,true,false,false,false,false,false,false,false,false,false] rfl rfl (by kernel_rfl) (fun _ _ _ h => h) (Or.inl ⟨by rfl, ?_⟩) ?_ ?_
     rotate_left
     · intro w'
       go_simp
       try with_reducible rfl
     rotate_left
     · simp only [Act.put, sA, sB, sC]
       rfl
     refine pure_ (i := 3) (N := some 21) (v := ?_) (a' := ?_) #[true,true,true,true,false,false,false,false,false,false,false,false] rfl rfl (by kernel_rfl) (fun _ _ _ h => h) (Or.inl ⟨by rfl, ?_⟩) ?_ ?_
     rotate_left
     · intro w'
       go_simp
       try with_reducible rfl
     rotate_left
     · simp only [Act.put, sA, sB, sC]
       rfl
     refine two_ (i := 4) (j := 9) (Ni := some 22) (Nj := some 8) #[true,true,true,true,true,false,false,false,false,false,false,false] #[true,true,true,true,false,false,false,false,false,true,false,false] rfl rfl rfl rfl (by kernel_rfl) (by decide) (by decide) (fun K hK => ?_) (fun K hK => ?_)
     · go_simp
       refine (appc id ((k : Int) + 1) ((k : Int) + 1) 1 _ (by omega) HKK.out HP.out rfl).mono ?_; rintro e w11 ⟨Ap, cp, rfl, hrp, hw⟩; have HRP := Aside0.mk hrp; replace HZ := lbG HZ hw; replace HB := lbB HB hw; replace HV := lbG HV hw; replace HR := lbR HR hw; clear hrp hw
       refine hK.out _ _ ?_ (fun hHeld => ?_)
       · exact HV.out.box
       clear hK K
       try simp only [Act.put, sA, sB, sC]
       obtain ⟨nX, hXw11⟩ : ∃ n, w11.heap.size = n := ⟨_, rfl⟩
       refine two_ (i := 5) (j := 9) (Ni := some 23) (Nj := some 8) #[true,true,true,true,true,true,false,false,false,false,false,false] #[true,true,true,true,true,false,false,false,false,true,false,false] rfl rfl rfl rfl (by kernel_rfl) (by decide) (by decide) (fun K hK => ?_) (fun K hK => ?_)
       · go_simp
         refine (gdo_calls G A c P Ap cp _ HR.out HRP.out HLE.out HST.out.2 HST.out.1).mono ?_; rintro e w12 ⟨A3, c3, rfl, hr3, hw⟩; have HR3 := Aside0.mk hr3; replace HZ := lbG HZ hw; replace HB := lbB HB hw; replace HV := lbG HV hw; replace HR := lbR HR hw; clear hr3 hw
         refine hK.out _ _ ?_ (fun hHeld => ?_)
         · exact HV.out.box
         clear hK K
         try simp only [Act.put, sA, sB, sC]
         clear hXw11
         obtain ⟨nX, hXw12⟩ : ∃ n, w12.heap.size = n := ⟨_, rfl⟩
         refine pure_ (i := 6) (N := some 17) (v := ?_) (a' := ?_) #[true,true,true,true,true,true,true,false,false,false,false,false] rfl rfl (by kernel_rfl) (fun _ _ _ h => h) (Or.inl ⟨by rfl, ?_⟩) ?_ ?_
         rotate_left
         · intro w'
           go_simp
           try with_reducible rfl
         rotate_left
         · simp only [Act.put, sA, sB, sC]
           rfl
         refine pure_ (i := 7) (N := some 24) (v := ?_) (a' := ?_) #[true,true,true,true,true,true,true,true,false,false,false,false] rfl rfl (by kernel_rfl) (fun _ _ _ h => h) (Or.inl ⟨by rfl, ?_⟩) ?_ ?_
         rotate_left
         · intro w'
           go_simp
           try with_reducible rfl
         rotate_left
         · simp only [Act.put, sA, sB, sC]
           rfl
         refine pure_ (i := 8) (N := some 25) (v := ?_) (a' := ?_) #[true,true,true,true,true,true,true,true,true,false,false,false] rfl rfl (by kernel_rfl) (fun _ _ _ h => h) (Or.inl ⟨by rfl, ?_⟩) ?_ ?_
         rotate_left
         · intro w'
           go_simp
           try with_reducible rfl
         rotate_left
         · simp only [Act.put, sA, sB, sC]
           rfl
         refine one_ (i := 9) (N := some 8) #[true,true,true,true,true,true,true,true,true,true,false,false] rfl rfl (by kernel_rfl) (by decide) (fun K hK => ?_)
         go_simp
         refine hK.out _ _ ?_ (fun hHeld => ?_)
         · exact (laG HV (.cells #[.int .i64 0, .int .i64 0, .int .i64 0, .int .i64 0, .int .i64 0, .int .i64 0, .slice none 0 0] 26)).out.box
         clear hK K
         try simp only [Act.put, sA, sB, sC]
         have HX : Aside0 (BlkG ⟨0, 0, 0, 0, 0, 0, []⟩ none 0 nX (w12.alloc (.cells #[.int .i64 0, .int .i64 0, .int .i64 0, .int .i64 0, .int .i64 0, .int .i64 0, .slice none 0 0] 26))) := ⟨by have hq := BlkG.new ⟨0, 0, 0, 0, 0, 0, []⟩ none 0 w12; rw [hXw12] at hq; exact hq⟩
         have l6x : n6 < nX := by rw [← hXw12]; exact HV.out.lt
         replace HZ := laG HZ (.cells #[.int .i64 0, .int .i64 0, .int .i64 0, .int .i64 0, .int .i64 0, .int .i64 0, .slice none 0 0] 26)
         replace HB := laB HB (.cells #[.int .i64 0, .int .i64 0, .int .i64 0, .int .i64 0, .int .i64 0, .int .i64 0, .slice none 0 0] 26)
         replace HV := laG HV (.cells #[.int .i64 0, .int .i64 0, .int .i64 0, .int .i64 0, .int .i64 0, .int .i64 0, .slice none 0 0] 26)
         replace HR := laR HR (.cells #[.int .i64 0, .int .i64 0, .int .i64 0, .int .i64 0, .int .i64 0, .int .i64 0, .slice none 0 0] 26)
         replace HR3 := laR HR3 (.cells #[.int .i64 0, .int .i64 0, .int .i64 0, .int .i64 0, .int .i64 0, .int .i64 0, .slice none 0 0] 26)
         clear hXw12
         obtain ⟨w12, hW3⟩ : ∃ W, w12.alloc (.cells #[.int .i64 0, .int .i64 0, .int .i64 0, .int .i64 0, .int .i64 0, .int .i64 0, .slice none 0 0] 26) = W := ⟨_, rfl⟩
         rw [hW3] at HZ HB HV HR HR3 HX ⊢
         clear hW3
         obtain ⟨x0, x1, x2, x3, x4, x5, x6⟩ := HX.out.box
         have xf := HX.out.free
         refine last_ (i := 10) (N := none) #[true,true,true,true,true,true,true,true,true,true,true,false] rfl rfl (by kernel_rfl) (by decide) (fun K hK => ?_)
         go_simp
         refine hK.out _ _ ?_
         clear hK K
         try simp only [Act.put, sA, sB, sC]
         refine pure_ (i := 11) (N := some 9) (v := ?_) (a' := ?_) #[true,true,true,true,true,true,true,true,true,true,true,true] rfl rfl (by kernel_rfl) (fun _ _ _ h => h) (Or.inl ⟨by rfl, ?_⟩) ?_ ?_
         rotate_left
         · intro w'
           go_simp
           try with_reducible rfl
         rotate_left
         · simp only [Act.put, sA, sB, sC]
           rfl
         refine done_ (by kernel_rfl) ?_
         clear x0 x1 x2 x3 x4 x5 x6 xf
         have hx := only_store X A3 c3 nX w12
         replace HZ := Aside0.mk (HZ.out.only hx (fun h => by have h2 : n4 = nX := h; omega))
         replace HB := Aside0.mk (HB.out.only hx (fun q hq h => by have h2 : q = nX := h; have := HS4.out; omega))
         replace HV := Aside0.mk (HV.out.only hx (fun h => by have h2 : n6 = nX := h; omega))
         replace HR3 := Aside0.mk (Rd.only HR3.out hx (fun q hq h => by have h3 : q = nX := h; subst h3; exact Rd.apartG HR3.out HX.out hq))
         replace HX := Aside0.mk (BlkG.store (g := X) (A := A3) (c := c3) HX.out)
         obtain ⟨W5, hW5⟩ : ∃ W, (((((((w12.setCell ⟨nX, 0, none⟩ (.int .i64 X.id)).setCell ⟨nX, 1, none⟩ (.int .i64 X.fi)).setCell ⟨nX, 2, none⟩ (.int .i64 X.tm)).setCell ⟨nX, 3, none⟩ (.int .i64 X.ht)).setCell ⟨nX, 4, none⟩ (.int .i64 X.hv)).setCell ⟨nX, 5, none⟩ (.int .i64 X.hc)).setCell ⟨nX, 6, none⟩ (.slice A3 X.l.length c3)) = W := ⟨_, rfl⟩
         clear hx HR
         rw [hW5] at HZ HB HV HR3 HX ⊢
         clear hW5
         obtain ⟨x0, x1, x2, x3, x4, x5, x6⟩ := HX.out.box
         have xf := HX.out.free
         obtain ⟨v0, v1, v2, v3, v4, v5, v6⟩ := HV.out.box
         have vf := HV.out.free
         go_wp2
         have hx := only_store X A3 c3 n6 W5
         go_roundw
         case rel => exact ⟨k + 1, by omega, by go_num, ⟨HZ.out.only hx (fun h => by have h2 : n4 = n6 := h; omega), HB.out.only hx (fun q hq h => by have h2 : q = n6 := h; have := HS4.out; omega), A3, c3, by rw [HXE.out]; exact BlkG.store (g := X) (A := A3) (c := c3) HV.out, by rw [HXE.out]; exact Rd.only HR3.out hx (fun q hq h => by have h3 : q = n6 := h; subst h3; exact Rd.apartG HR3.out HV.out hq)⟩⟩
         case measure => simp [intOf]; omega
       · go_simp
         refine hK.out _ _ ?_ (fun hHeld => ?_)
         · exact (laG HV (.cells #[.int .i64 0, .int .i64 0, .int .i64 0, .int .i64 0, .int .i64 0, .int .i64 0, .slice none 0 0] 26)).out.box
         clear hK K
         try simp only [Act.put, sA, sB, sC]
         have HX : Aside0 (BlkG ⟨0, 0, 0, 0, 0, 0, []⟩ none 0 nX (w11.alloc (.cells #[.int .i64 0, .int .i64 0, .int .i64 0, .int .i64 0, .int .i64 0, .int .i64 0, .slice none 0 0] 26))) := ⟨by have hq := BlkG.new ⟨0, 0, 0, 0, 0, 0, []⟩ none 0 w11; rw [hXw11] at hq; exact hq⟩
         have l6x : n6 < nX := by rw [← hXw11]; exact HV.out.lt
         replace HZ := laG HZ (.cells #[.int .i64 0, .int .i64 0, .int .i64 0, .int .i64 0, .int .i64 0, .int .i64 0, .slice none 0 0] 26)
         replace HB := laB HB (.cells #[.int .i64 0, .int .i64 0, .int .i64 0, .int .i64 0, .int .i64 0, .int .i64 0, .slice none 0 0] 26)
         replace HV := laG HV (.cells #[.int .i64 0, .int .i64 0, .int .i64 0, .int .i64 0, .int .i64 0, .int .i64 0, .slice none 0 0] 26)
         replace HR := laR HR (.cells #[.int .i64 0, .int .i64 0, .int .i64 0, .int .i64 0, .int .i64 0, .int .i64 0, .slice none 0 0] 26)
         replace HRP := laR HRP (.cells #[.int .i64 0, .int .i64 0, .int .i64 0, .int .i64 0, .int .i64 0, .int .i64 0, .slice none 0 0] 26)
         clear hXw11
         refine one_ (i := 5) (N := some 23) #[true,true,true,true,true,true,false,false,false,true,false,false] rfl rfl (by kernel_rfl) (by decide) (fun K hK => ?_)
         go_simp
         refine (gdo_calls G A c P Ap cp _ HR.out HRP.out HLE.out HST.out.2 HST.out.1).mono ?_; rintro e w12 ⟨A3, c3, rfl, hr3, hw⟩; have HR3 := Aside0.mk hr3; replace HZ := lbG HZ hw; replace HB := lbB HB hw; replace HV := lbG HV hw; replace HR := lbR HR hw; replace HX := lbG HX hw; clear hr3 hw
         refine hK.out _ _ ?_ (fun hHeld => ?_)
         · exact HV.out.box
         clear hK K
         try simp only [Act.put, sA, sB, sC]
         obtain ⟨x0, x1, x2, x3, x4, x5, x6⟩ := HX.out.box
         have xf := HX.out.free
         refine pure_ (i := 6) (N := some 17) (v := ?_) (a' := ?_) #[true,true,true,true,true,true,true,false,false,true,false,false] rfl rfl (by kernel_rfl) (fun _ _ _ h => h) (Or.inl ⟨by rfl, ?_⟩) ?_ ?_
         rotate_left
         · intro w'
           go_simp
           try with_reducible rfl
         rotate_left
         · simp only [Act.put, sA, sB, sC]
           rfl
         refine pure_ (i := 7) (N := some 24) (v := ?_) (a' := ?_) #[true,true,true,true,true,true,true,true,false,true,false,false] rfl rfl (by kernel_rfl) (fun _ _ _ h => h) (Or.inl ⟨by rfl, ?_⟩) ?_ ?_
         rotate_left
         · intro w'
           go_simp
           try with_reducible rfl
         rotate_left
         · simp only [Act.put, sA, sB, sC]
           rfl
         refine pure_ (i := 8) (N := some 25) (v := ?_) (a' := ?_) #[true,true,true,true,true,true,true,true,true,true,false,false] rfl rfl (by kernel_rfl) (fun _ _ _ h => h) (Or.inl ⟨by rfl, ?_⟩) ?_ ?_
         rotate_left
         · intro w'
           go_simp
           try with_reducible rfl
         rotate_left
         · simp only [Act.put, sA, sB, sC]
           rfl
         refine last_ (i := 10) (N := none) #[true,true,true,true,true,true,true,true,true,true,true,false] rfl rfl (by kernel_rfl) (by decide) (fun K hK => ?_)
         go_simp
         refine hK.out _ _ ?_
         clear hK K
         try simp only [Act.put, sA, sB, sC]
         refine pure_ (i := 11) (N := some 9) (v := ?_) (a' := ?_) #[true,true,true,true,true,true,true,true,true,true,true,true] rfl rfl (by kernel_rfl) (fun _ _ _ h => h) (Or.inl ⟨by rfl, ?_⟩) ?_ ?_
         rotate_left
         · intro w'
           go_simp
           try with_reducible rfl
         rotate_left
         · simp only [Act.put, sA, sB, sC]
           rfl
         refine done_ (by kernel_rfl) ?_
         clear x0 x1 x2 x3 x4 x5 x6 xf
         have hx := only_store X A3 c3 nX w12
         replace HZ := Aside0.mk (HZ.out.only hx (fun h => by have h2 : n4 = nX := h; omega))
         replace HB := Aside0.mk (HB.out.only hx (fun q hq h => by have h2 : q = nX := h; have := HS4.out; omega))
         replace HV := Aside0.mk (HV.out.only hx (fun h => by have h2 : n6 = nX := h; omega))
         replace HR3 := Aside0.mk (Rd.only HR3.out hx (fun q hq h => by have h3 : q = nX := h; subst h3; exact Rd.apartG HR3.out HX.out hq))
         replace HX := Aside0.mk (BlkG.store (g := X) (A := A3) (c := c3) HX.out)
         obtain ⟨W5, hW5⟩ : ∃ W, (((((((w12.setCell ⟨nX, 0, none⟩ (.int .i64 X.id)).setCell ⟨nX, 1, none⟩ (.int .i64 X.fi)).setCell ⟨nX, 2, none⟩ (.int .i64 X.tm)).setCell ⟨nX, 3, none⟩ (.int .i64 X.ht)).setCell ⟨nX, 4, none⟩ (.int .i64 X.hv)).setCell ⟨nX, 5, none⟩ (.int .i64 X.hc)).setCell ⟨nX, 6, none⟩ (.slice A3 X.l.length c3)) = W := ⟨_, rfl⟩
         clear hx HR
         rw [hW5] at HZ HB HV HR3 HX ⊢
         clear hW5
         obtain ⟨x0, x1, x2, x3, x4, x5, x6⟩ := HX.out.box
         have xf := HX.out.free
         obtain ⟨v0, v1, v2, v3, v4, v5, v6⟩ := HV.out.box
         have vf := HV.out.free
         go_wp2
         have hx := only_store X A3 c3 n6 W5
         go_roundw
         case rel => exact ⟨k + 1, by omega, by go_num, ⟨HZ.out.only hx (fun h => by have h2 : n4 = n6 := h; omega), HB.out.only hx (fun q hq h => by have h2 : q = n6 := h; have := HS4.out; omega), A3, c3, by rw [HXE.out]; exact BlkG.store (g := X) (A := A3) (c := c3) HV.out, by rw [HXE.out]; exact Rd.only HR3.out hx (fun q hq h => by have h3 : q = n6 := h; subst h3; exact Rd.apartG HR3.out HV.out hq)⟩⟩
         case measure => simp [intOf]; omega
     · go_simp
       refine hK.out _ _ ?_ (fun hHeld => ?_)
       · exact (laG HV (.cells #[.int .i64 0, .int .i64 0, .int .i64 0, .int .i64 0, .int .i64 0, .int .i64 0, .slice none 0 0] 26)).out.box
       clear hK K
       try simp only [Act.put, sA, sB, sC]
       have HX : Aside0 (BlkG ⟨0, 0, 0, 0, 0, 0, []⟩ none 0 nX (wr.drew.alloc (.cells #[.int .i64 0, .int .i64 0, .int .i64 0, .int .i64 0, .int .i64 0, .int .i64 0, .slice none 0 0] 26))) := ⟨by have hq := BlkG.new ⟨0, 0, 0, 0, 0, 0, []⟩ none 0 wr.drew; rw [hXB2] at hq; exact hq⟩
       have l6x : n6 < nX := by rw [← hXB2]; exact HV.out.lt
       replace HZ := laG HZ (.cells #[.int .i64 0, .int .i64 0, .int .i64 0, .int .i64 0, .int .i64 0, .int .i64 0, .slice none 0 0] 26)
       replace HB := laB HB (.cells #[.int .i64 0, .int .i64 0, .int .i64 0, .int .i64 0, .int .i64 0, .int .i64 0, .slice none 0 0] 26)
       replace HV := laG HV (.cells #[.int .i64 0, .int .i64 0, .int .i64 0, .int .i64 0, .int .i64 0, .int .i64 0, .slice none 0 0] 26)
       replace HR := laR HR (.cells #[.int .i64 0, .int .i64 0, .int .i64 0, .int .i64 0, .int .i64 0, .int .i64 0, .slice none 0 0] 26)
       clear hXB2
       clear hXB
       refine one_ (i := 4) (N := some 22) #[true,true,true,true,true,false,false,false,false,true,false,false] rfl rfl (by kernel_rfl) (by decide) (fun K hK => ?_)
       go_simp
       refine (appc id ((k : Int) + 1) ((k : Int) + 1) 1 _ (by omega) HKK.out HP.out rfl).mono ?_; rintro e w11 ⟨Ap, cp, rfl, hrp, hw⟩; have HRP := Aside0.mk hrp; replace HZ := lbG HZ hw; replace HB := lbB HB hw; replace HV := lbG HV hw; replace HR := lbR HR hw; replace HX := lbG HX hw; clear hrp hw
       refine hK.out _ _ ?_ (fun hHeld => ?_)
       · exact HV.out.box
       clear hK K
       try simp only [Act.put, sA, sB, sC]
       refine one_ (i := 5) (N := some 23) #[true,true,true,true,true,true,false,false,false,true,false,false] rfl rfl (by kernel_rfl) (by decide) (fun K hK => ?_)
       go_simp
       refine (gdo_calls G A c P Ap cp _ HR.out HRP.out HLE.out HST.out.2 HST.out.1).mono ?_; rintro e w12 ⟨A3, c3, rfl, hr3, hw⟩; have HR3 := Aside0.mk hr3; replace HZ := lbG HZ hw; replace HB := lbB HB hw; replace HV := lbG HV hw; replace HR := lbR HR hw; replace HX := lbG HX hw; clear hr3 hw
       refine hK.out _ _ ?_ (fun hHeld => ?_)
       · exact HV.out.box
       clear hK K
       try simp only [Act.put, sA, sB, sC]
       obtain ⟨x0, x1, x2, x3, x4, x5, x6⟩ := HX.out.box
       have xf := HX.out.free
       refine pure_ (i := 6) (N := some 17) (v := ?_) (a' := ?_) #[true,true,true,true,true,true,true,false,false,true,false,false] rfl rfl (by kernel_rfl) (fun _ _ _ h => h) (Or.inl ⟨by rfl, ?_⟩) ?_ ?_
       rotate_left
       · intro w'
         go_simp
         try with_reducible rfl
       rotate_left
       · simp only [Act.put, sA, sB, sC]
         rfl
       refine pure_ (i := 7) (N := some 24) (v := ?_) (a' := ?_) #[true,true,true,true,true,true,true,true,false,true,false,false] rfl rfl (by kernel_rfl) (fun _ _ _ h => h) (Or.inl ⟨by rfl, ?_⟩) ?_ ?_
       rotate_left
       · intro w'
         go_simp
         try with_reducible rfl
       rotate_left
       · simp only [Act.put, sA, sB, sC]
         rfl
       refine pure_ (i := 8) (N := some 25) (v := ?_) (a' := ?_) #[true,true,true,true,true,true,true,true,true,true,false,false] rfl rfl (by kernel_rfl) (fun _ _ _ h => h) (Or.inl ⟨by rfl, ?_⟩) ?_ ?_
       rotate_left
       · intro w'
         go_simp
         try with_reducible rfl
       rotate_left
       · simp only [Act.put, sA, sB, sC]
         rfl
       refine last_ (i := 10) (N := none) #[true,true,true,true,true,true,true,true,true,true,true,false] rfl rfl (by kernel_rfl) (by decide) (fun K hK => ?_)
       go_simp
       refine hK.out _ _ ?_
       clear hK K
       try simp only [Act.put, sA, sB, sC]
       refine pure_ (i := 11) (N := some 9) (v := ?_) (a' := ?_) #[true,true,true,true,true,true,true,true,true,true,true,true] rfl rfl (by kernel_rfl) (fun _ _ _ h => h) (Or.inl ⟨by rfl, ?_⟩) ?_ ?_
       rotate_left
       · intro w'
         go_simp
         try with_reducible rfl
       rotate_left
       · simp only [Act.put, sA, sB, sC]
         rfl
       refine done_ (by kernel_rfl) ?_
       clear x0 x1 x2 x3 x4 x5 x6 xf
       have hx := only_store X A3 c3 nX w12
       replace HZ := Aside0.mk (HZ.out.only hx (fun h => by have h2 : n4 = nX := h; omega))
       replace HB := Aside0.mk (HB.out.only hx (fun q hq h => by have h2 : q = nX := h; have := HS4.out; omega))
       replace HV := Aside0.mk (HV.out.only hx (fun h => by have h2 : n6 = nX := h; omega))
       replace HR3 := Aside0.mk (Rd.only HR3.out hx (fun q hq h => by have h3 : q = nX := h; subst h3; exact Rd.apartG HR3.out HX.out hq))
       replace HX := Aside0.mk (BlkG.store (g := X) (A := A3) (c := c3) HX.out)
       obtain ⟨W5, hW5⟩ : ∃ W, (((((((w12.setCell ⟨nX, 0, none⟩ (.int .i64 X.id)).setCell ⟨nX, 1, none⟩ (.int .i64 X.fi)).setCell ⟨nX, 2, none⟩ (.int .i64 X.tm)).setCell ⟨nX, 3, none⟩ (.int .i64 X.ht)).setCell ⟨nX, 4, none⟩ (.int .i64 X.hv)).setCell ⟨nX, 5, none⟩ (.int .i64 X.hc)).setCell ⟨nX, 6, none⟩ (.slice A3 X.l.length c3)) = W := ⟨_, rfl⟩
       clear hx HR
       rw [hW5] at HZ HB HV HR3 HX ⊢
       clear hW5
       obtain ⟨x0, x1, x2, x3, x4, x5, x6⟩ := HX.out.box
       have xf := HX.out.free
       obtain ⟨v0, v1, v2, v3, v4, v5, v6⟩ := HV.out.box
       have vf := HV.out.free
       go_wp2
       have hx := only_store X A3 c3 n6 W5
       go_roundw
       case rel => exact ⟨k + 1, by omega, by go_num, ⟨HZ.out.only hx (fun h => by have h2 : n4 = n6 := h; omega), HB.out.only hx (fun q hq h => by have h2 : q = n6 := h; have := HS4.out; omega), A3, c3, by rw [HXE.out]; exact BlkG.store (g := X) (A := A3) (c := c3) HV.out, by rw [HXE.out]; exact Rd.only HR3.out hx (fun q hq h => by have h3 : q = n6 := h; subst h3; exact Rd.apartG HR3.out HV.out hq)⟩⟩
       case measure => simp [intOf]; omega
   · obtain rfl : k = N := by omega
     have d1 : decide ((k : Int) + 1 ≤ (k : Int)) = false := decide_eq_false (by omega)
     obtain ⟨G, hG⟩ : ∃ G, groG id k = G := ⟨_, rfl⟩
     have HG := Aside0.mk hG
     rw [hG] at HV HR
     clear hG
     obtain ⟨v0, v1, v2, v3, v4, v5, v6⟩ := HV.out.box
     obtain ⟨z0, z1, z2, z3, z4, z5, z6⟩ := HZ.out.box
     have zf := HZ.out.free
     go_wp2
     have hC9 := HC9.out
     simp only [Try.f33] at hC9
     subst hC9
     clear HC9
     go_wp2
     have hst := stored (r := G) (A' := A) (c' := c) HZ.out HR.out HB.out.b HS4.out HB.out.b.size
     obtain ⟨r0, r1, r2, r3, r4, r5, r6⟩ := hst.1.box
     refine bodyPost_ret (v := .tuple #[vG G A c, .bool true]) (by simp [results, Try.results33, go_sem, vG, r0, r1, r2, r3, r4, r5, r6]) rfl ⟨A, c, by rw [HG.out], by rw [HG.out]; exact hst.2.1, hst.2.2⟩
end Go.Proofs.Ytlfdmlacadoolaa.PartW
