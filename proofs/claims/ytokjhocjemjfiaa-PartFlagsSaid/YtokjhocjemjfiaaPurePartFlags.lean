/- The statement PartFlags: the walk; no condition beyond the row's. -/
import Derived.Test.YtokjhocjemjfiaaLw4
set_option linter.unusedVariables false
set_option linter.unusedSimpArgs false
namespace Go.Proofs.Ytokjhocjemjfiaa.PartW
open Go Go.RowKit Go.Shelf Go.Proofs.Ytokjhocjemjfiaa.A Go.Proofs.Ytokjhocjemjfiaa.Sp Go.Proofs.Ytokjhocjemjfiaa.Reg Go.Proofs.Ytokjhocjemjfiaa.Seq Go.Proofs.Ytokjhocjemjfiaa.CodeW Go.Proofs.Ytokjhocjemjfiaa.CodeQ Go.Proofs.Ytokjhocjemjfiaa.Given Go.Proofs.YtokjhocjemjfiaaW.PrintWords Go.Proofs.YtokjhocjemjfiaaW.PrintLast Go.Proofs.YtokjhocjemjfiaaW.PrintMore
theorem BlkP.cel0 {p : Prt} {A : Option Addr} {c B : Nat} {W : World} (h : BlkP p A c B W) (x : Int) : BlkP ⟨x, p.k, p.l, p.ht, p.hv, p.hc, p.ix, p.tm, p.mrk, p.hed⟩ A c B (W.setCell ⟨B, 0, none⟩ (.int .i64 x)) := by
  unfold BlkP at h ⊢
  simp [World.setCell, Array.getElem?_modify, h]
theorem BlkP.cel1 {p : Prt} {A : Option Addr} {c B : Nat} {W : World} (h : BlkP p A c B W) (x : Int) : BlkP ⟨p.g, x, p.l, p.ht, p.hv, p.hc, p.ix, p.tm, p.mrk, p.hed⟩ A c B (W.setCell ⟨B, 1, none⟩ (.int .i64 x)) := by
  unfold BlkP at h ⊢
  simp [World.setCell, Array.getElem?_modify, h]
theorem BlkP.cel4 {p : Prt} {A : Option Addr} {c B : Nat} {W : World} (h : BlkP p A c B W) (x : Int) : BlkP ⟨p.g, p.k, p.l, p.ht, x, p.hc, p.ix, p.tm, p.mrk, p.hed⟩ A c B (W.setCell ⟨B, 4, none⟩ (.int .i64 x)) := by
  unfold BlkP at h ⊢
  simp [World.setCell, Array.getElem?_modify, h]
theorem BlkP.cel6 {p : Prt} {A : Option Addr} {c B : Nat} {W : World} (h : BlkP p A c B W) (x : Int) : BlkP ⟨p.g, p.k, p.l, p.ht, p.hv, p.hc, x, p.tm, p.mrk, p.hed⟩ A c B (W.setCell ⟨B, 6, none⟩ (.int .i64 x)) := by
  unfold BlkP at h ⊢
  simp [World.setCell, Array.getElem?_modify, h]
theorem BlkP.cel7 {p : Prt} {A : Option Addr} {c B : Nat} {W : World} (h : BlkP p A c B W) (x : Int) : BlkP ⟨p.g, p.k, p.l, p.ht, p.hv, p.hc, p.ix, x, p.mrk, p.hed⟩ A c B (W.setCell ⟨B, 7, none⟩ (.int .i64 x)) := by
  unfold BlkP at h ⊢
  simp [World.setCell, Array.getElem?_modify, h]
theorem bytesP_sz {p : Prt} (h : isP p = true) : 2 ≤ (bytesP p).size ∧ (bytesP p).size ≤ 1000 := by
  have hi := isP_all h
  have hL := congrArg List.length (bytes_L hi)
  rw [CodeM.ba_len, List.length_append, List.length_append] at hL
  have a1 := CodeM.putB_pos p.g.toNat
  have a2 := CodeM.putB_pos p.k.toNat
  refine ⟨by omega, ?_⟩
  obtain ⟨hg, hk, hr, hl, he, hp⟩ := isP_rng h
  have zg := putS_le (n := p.g) (by omega)
  have zk := putS_le (n := p.k) (by omega)
  have r3 := putS_le (hr 3)
  have r4 := putS_le (hr 4)
  have r5 := putS_le (hr 5)
  have r6 := putS_le (hr 6)
  have r7 := putS_le (hr 7)
  simp only [getA] at r3 r4 r5 r6 r7
  have zl := putS_leN (n := p.l.length) (by omega)
  have zf := putS_leN (n := flagN p) (by unfold flagN; cases p.mrk <;> cases p.hed <;> decide)
  have hent : ∀ (six : Bool) (l : List Ent) (s : ByteArray), (∀ e ∈ l, isE e = true) → (entsB six l s).size ≤ s.size + 67 * l.length := by
    intro six l
    induction l with
    | nil => intro s _; exact Nat.le_refl _
    | cons e l ih =>
      intro s h
      have he := isE_rng' (h e (by simp))
      have a0 := putS_le he.1
      have a1 := putS_le he.2.1
      have a2 := putS_leN (n := e.f2.size) (by omega)
      have := ih (entB six e s) (fun x hx => h x (by simp [hx]))
      show (entsB six l (entB six e s)).size ≤ _
      have hb : (entB six e s).size ≤ s.size + 67 := by unfold entB; cases six <;> simp only [Bool.false_eq_true, if_false, if_true, CodeM.app_size] <;> omega
      simp only [List.length_cons]
      omega
  have h1 := hent (p.k == 6) p.l (lenB p (midB p (flagB p (headB p)))) (ent_mem hi)
  have zh : (headB p).size ≤ 18 := by unfold headB; rw [CodeM.app_size]; omega
  have zfl : (flagB p (headB p)).size ≤ 27 := by unfold flagB; split <;> (try simp only [CodeM.app_size]) <;> omega
  have zm : (midB p (flagB p (headB p))).size ≤ 72 := by
    unfold midB
    cases atK p.k p.mrk <;> cases hdK p.k p.hed <;> simp [numA, numsB, getA, CodeM.app_size] <;> omega
  have zle : (lenB p (midB p (flagB p (headB p)))).size ≤ 90 := by
    unfold lenB
    split
    · next h1 =>
      have := putS_le (isE_rng' (he 0 (hp h1))).1
      simp only [CodeM.app_size]; omega
    · split <;> (try simp only [CodeM.app_size]) <;> omega
  unfold bytesP
  omega
def flL (k : Nat) : List Ent := (List.range k).map (fun (i : Nat) => ⟨10 + 3 * (i : Int), 2, ⟨#[]⟩⟩)
theorem flL_len (k : Nat) : (flL k).length = k := by unfold flL; simp
theorem flL_succ (k : Nat) : flL k ++ [⟨10 + 3 * (k : Int), 2, ⟨#[]⟩⟩] = flL (k + 1) := by unfold flL; rw [List.range_succ, List.map_append]; rfl
def flP (m h : Bool) (t : Int) (l : List Ent) : Prt := ⟨2, 6, l, if h then t else 0, if h then 3 else 0, 0, if m then 9 else 0, if m then t + 1 else 0, m, h⟩
theorem flR {k : Nat} (hk : k ≤ 3) : risB false (flL k) = true := by
  obtain rfl | rfl | rfl | rfl : k = 0 ∨ k = 1 ∨ k = 2 ∨ k = 3 := by omega
  all_goals decide
theorem flP_is (m h : Bool) {t : Int} (ht : 0 ≤ t ∧ t ≤ 65535) {k : Nat} (hk : k ≤ 3) : isP (flP m h t (flL k)) = (m || h || decide (0 < k)) := by
  have r := flR hk
  have hM : isM 9 (t + 1) 1 = true := decide_eq_true (by omega)
  have hH : isH t 3 0 = true := decide_eq_true (by omega)
  have hn : (!decide (k = 0)) = decide (0 < k) := by
    by_cases h : k = 0
    · rw [decide_eq_true h, decide_eq_false (by omega)]; rfl
    · rw [decide_eq_false h, decide_eq_true (by omega)]; rfl
  unfold isP flP
  dsimp only
  rw [if_neg (show ¬ (6 : Int) = 1 by decide), if_neg (show ¬ (6 : Int) = 2 by decide), if_neg (show ¬ (6 : Int) = 3 by decide), if_neg (show ¬ (6 : Int) = 4 by decide), if_neg (show ¬ (6 : Int) = 5 by decide), if_pos (show (6 : Int) = 6 from rfl)]
  unfold noL noM noH
  dsimp only
  rw [r, flL_len, hn]
  cases m <;> cases h <;> simp [hM, hH]
theorem flB_is (m h : Bool) {t : Int} (ht : 0 ≤ t ∧ t ≤ 65535) {k : Nat} (hk : k ≤ 3) : isP ⟨2, 6, flL k, if h then t else 0, if h then 3 else 0, 0, if m then 9 else 0, if m then t + 1 else 0, false, false⟩ = (!m && !h && decide (0 < k)) := by
  have r := flR hk
  have hn : (!decide (k = 0)) = decide (0 < k) := by
    by_cases h : k = 0
    · rw [decide_eq_true h, decide_eq_false (by omega)]; rfl
    · rw [decide_eq_false h, decide_eq_true (by omega)]; rfl
  unfold isP
  dsimp only
  rw [if_neg (show ¬ (6 : Int) = 1 by decide), if_neg (show ¬ (6 : Int) = 2 by decide), if_neg (show ¬ (6 : Int) = 3 by decide), if_neg (show ¬ (6 : Int) = 4 by decide), if_neg (show ¬ (6 : Int) = 5 by decide), if_pos (show (6 : Int) = 6 from rfl)]
  unfold noL noM noH
  dsimp only
  rw [r, flL_len, hn]
  cases m <;> cases h <;> simp
theorem read_self {p : Prt} (hp : isP p = true) : progR (bytesP p) = (p, ((bytesP p).size, 0)) := by
  have h := read_back hp ⟨#[]⟩
  rwa [show bytesP p ++ (⟨#[]⟩ : ByteArray) = bytesP p from CodeM.ba_ext (by rw [CodeM.app_data]; exact List.append_nil _)] at h
theorem tmod4 {n : Int} (h : 0 ≤ n) : n.tmod 4 = ((n.toNat % 4 : Nat) : Int) := by
  obtain ⟨k, rfl⟩ := Int.eq_ofNat_of_zero_le h
  rfl
set_option maxHeartbeats 8000000 in
set_option maxRecDepth 100000 in
theorem fl4_tt (n t : Int) (w : World) (hn : 0 ≤ n ∧ n ≤ 255) (ht : 0 ≤ t ∧ t ≤ 65535) :
  Calls Try.prog 9 #[.bool true, .bool true, .int .u8 n, .int .u16 t] w fun e w' => e = .returned (.bool true) ∧ Below w.heap.size w w' := by
 have hn4 : n.tmod 4 = ((n.toNat % 4 : Nat) : Int) := tmod4 hn.1
 obtain ⟨K, hK⟩ : ∃ K, n.toNat % 4 = K := ⟨_, rfl⟩
 rw [hK] at hn4
 have HK3 : Aside0 (K ≤ 3) := ⟨by rw [← hK]; have := Nat.mod_lt n.toNat (show 0 < 4 by omega); omega⟩
 clear hK
 have hu8 : IntKind.u8.wrap (K : Int) = (K : Int) := by have := HK3.out; simp [IntKind.wrap, IntKind.bits, IntKind.signed]; omega
 have hi8 : IntKind.i64.wrap (K : Int) = (K : Int) := by rw [i64_w]; unfold wrap64; have := HK3.out; omega
 have hwt : IntKind.i64.wrap t = t := by rw [i64_w]; unfold wrap64; omega
 have hwt1 : IntKind.i64.wrap (t + 1) = t + 1 := by rw [i64_w]; unfold wrap64; omega
 have HT := Aside0.mk (And.intro ht.1 ht.2)
 obtain ⟨P, hP⟩ : ∃ P, flP true true t (flL K) = P := ⟨_, rfl⟩
 have HP0 := Aside0.mk hP
 have hpb : isP P = true := by rw [← hP, flP_is _ _ ht HK3.out]; rfl
 have HPB := Aside0.mk hpb
 have HBB : Aside0 (isP ⟨P.g, P.k, P.l, P.ht, P.hv, P.hc, P.ix, P.tm, false, false⟩ = false) := ⟨by rw [← hP]; have := flB_is true true ht HK3.out; unfold flP; rw [this]; rfl⟩
 obtain ⟨S, hS⟩ : ∃ S, bytesP P = S := ⟨_, rfl⟩
 have HBR : Aside0 (bytesR P = (S, 0)) := ⟨by unfold bytesR; rw [if_pos hpb, hS]⟩
 have HRS : Aside0 (progR S = (P, (S.size, 0))) := ⟨by rw [← hS]; exact read_self hpb⟩
 have HSZ : Aside0 (S.size ≤ 1000) := ⟨by rw [← hS]; exact (bytesP_sz hpb).2⟩
 clear hS
 have HB := Aside0.mk (Bel.refl w)
 clear hn ht hP hpb
 go_enter Try.func9, Try.ntmps9
 obtain ⟨C3, hC3⟩ : ∃ C, (match Try.f9.body with | some (.seq _ (.seq _ (.seq _ c))) => c | _ => .skip) = C := ⟨_, rfl⟩
 have HC3 := Aside0.mk hC3
 simp only [Try.f9] at hC3
 rw [hC3]
 clear hC3
 go_wp2_with fail
 go_at_call 10
 refine (known4 _).mono ?_
 rintro e w1 ⟨rfl, hw1⟩
 replace HB := lbB HB hw1
 clear hw1
 go_wp2_with fail
 obtain ⟨n9, hn9⟩ : ∃ n, w1.heap.size = n := ⟨_, rfl⟩
 have HW9 : Aside0 (w.heap.size ≤ n9) := ⟨by rw [← hn9]; exact HB.out.b.size⟩
 try rw [hn9]
 replace HB := laB HB (.cells #[.int .i64 2, .int .i64 6, .slice none 0 0, .int .i64 0, .int .i64 0, .int .i64 0, .int .i64 0, .int .i64 0, .bool true, .bool true] 26)
 have HP : Aside0 (BlkP ⟨2, 6, [], 0, 0, 0, 0, 0, true, true⟩ none 0 n9 (w1.alloc (.cells #[.int .i64 2, .int .i64 6, .slice none 0 0, .int .i64 0, .int .i64 0, .int .i64 0, .int .i64 0, .int .i64 0, .bool true, .bool true] 26))) := ⟨(by have hq := BlkP.new ⟨2, 6, [], 0, 0, 0, 0, 0, true, true⟩ none 0 w1; rw [hn9] at hq; exact hq)⟩
 obtain ⟨W1, hW1⟩ : ∃ W, w1.alloc (.cells #[.int .i64 2, .int .i64 6, .slice none 0 0, .int .i64 0, .int .i64 0, .int .i64 0, .int .i64 0, .int .i64 0, .bool true, .bool true] 26) = W := ⟨_, rfl⟩
 rw [hW1] at HB HP ⊢
 clear hW1
 clear hn9
 have hC3 := HC3.out
 simp only [Try.f9] at hC3
 subst hC3
 clear HC3
 obtain ⟨C5, hC5⟩ : ∃ C, (match Try.f9.body with | some (.seq _ (.seq _ (.seq _ (.seq _ (.seq _ c))))) => c | _ => .skip) = C := ⟨_, rfl⟩
 have HC5 := Aside0.mk hC5
 simp only [Try.f9] at hC5
 rw [hC5]
 clear hC5
 obtain ⟨hp0, hp1, hp2, hp3, hp4, hp5, hp6, hp7, hp8, hp9⟩ := HP.out.box
 dsimp only [List.length_nil] at hp0 hp1 hp2 hp3 hp4 hp5 hp6 hp7 hp8 hp9
 have yf := BlkP.free' HP.out
 go_wp2_with fail
 clear yf
 clear hp0 hp1 hp2 hp3 hp4 hp5 hp6 hp7 hp8 hp9
 have hx : Only (fun q => q = n9) W1 (((((W1.setCell ⟨n9, 6, none⟩ (.int .i64 9)).setCell ⟨n9, 7, none⟩ (.int .i64 (t + 1))).setCell ⟨n9, 3, none⟩ (.int .i64 t)).setCell ⟨n9, 4, none⟩ (.int .i64 3)).setCell ⟨n9, 5, none⟩ (.int .i64 0)) := by (iterate 5 (refine Only.setCell (U := fun q => q = n9) ?_ rfl _)); exact Only.refl _ _
 replace HB := Aside0.mk (Bel.only HB.out hx (fun q hq h => by have h2 : q = n9 := h; have := HW9.out; omega))
 have hp9 := (BlkP.set345 (BlkP.cel7 (BlkP.cel6 HP.out 9) (t + 1)) t 3 0)
 clear HP
 have HP : Aside0 (BlkP (flP true true t []) none 0 n9 (((((W1.setCell ⟨n9, 6, none⟩ (.int .i64 9)).setCell ⟨n9, 7, none⟩ (.int .i64 (t + 1))).setCell ⟨n9, 3, none⟩ (.int .i64 t)).setCell ⟨n9, 4, none⟩ (.int .i64 3)).setCell ⟨n9, 5, none⟩ (.int .i64 0))) := ⟨hp9⟩
 obtain ⟨W2, hW⟩ : ∃ X, ((((W1.setCell ⟨n9, 6, none⟩ (.int .i64 9)).setCell ⟨n9, 7, none⟩ (.int .i64 (t + 1))).setCell ⟨n9, 3, none⟩ (.int .i64 t)).setCell ⟨n9, 4, none⟩ (.int .i64 3)).setCell ⟨n9, 5, none⟩ (.int .i64 0) = X := ⟨_, rfl⟩
 rw [hW] at HB HP ⊢
 clear hW hx hp9
 have hC5 := HC5.out
 simp only [Try.f9] at hC5
 subst hC5
 clear HC5
 obtain ⟨C6, hC6⟩ : ∃ C, (match Try.f9.body with | some (.seq _ (.seq _ (.seq _ (.seq _ (.seq _ (.seq _ c)))))) => c | _ => .skip) = C := ⟨_, rfl⟩
 have HC6 := Aside0.mk hC6
 simp only [Try.f9] at hC6
 rw [hC6]
 clear hC6
 obtain ⟨b0, hb0⟩ : ∃ n, W2.heap.size = n := ⟨_, rfl⟩
 have HB0 : Aside0 (b0 ≤ W2.heap.size ∧ n9 < b0 ∧ w.heap.size ≤ b0) := ⟨by rw [← hb0]; exact ⟨Nat.le_refl _, BlkP.lt' HP.out, HB.out.b.size⟩⟩
 clear hb0
 have HI1 : Aside0 (∃ A c, BlkP (flP true true t (flL 0)) A c n9 W2 ∧ OwnE W2 b0 (.slice A (flL 0).length c) (flL 0) ∧ Bel w W2 ∧ b0 ≤ W2.heap.size) := ⟨⟨none, 0, HP.out, OwnE.nil _ _, HB.out, HB0.out.1⟩⟩
 clear HP HB
 go_wp2_with fail
 go_loopw [10] (fun v wr => ∃ k : Nat, k ≤ K ∧ v = .int .i64 (k : Int) ∧ Aside0 (∃ A c, BlkP (flP true true t (flL k)) A c n9 wr ∧ OwnE wr b0 (.slice A (flL k).length c) (flL k) ∧ Bel w wr ∧ b0 ≤ wr.heap.size)) (fun v _ => K - (intOf v).toNat)
 case atStart => exact ⟨0, Nat.zero_le _, rfl, HI1⟩
 case round =>
   clear HI1
   obtain ⟨k, hk, rfl, HI⟩ := hrel
   obtain ⟨A, c, hp, hw, hb, hz9⟩ := HI.out
   have HP := Aside0.mk hp
   have HW := Aside0.mk hw
   have HB := Aside0.mk hb
   clear HI hp hw hb
   by_cases hlt : k < K
   · have d1 : decide ((k : Int) < (K : Int)) = true := decide_eq_true (by omega)
     have d2 : decide (k < K) = true := decide_eq_true (by omega)
     have hk4 : IntKind.i64.wrap ((k : Int) + 1) = (k : Int) + 1 := by rw [i64_w]; unfold wrap64; have := HK3.out; omega
     have h3k : IntKind.i64.wrap (3 * (k : Int)) = 3 * (k : Int) := by rw [i64_w]; unfold wrap64; have := HK3.out; omega
     have h10 : IntKind.i64.wrap (10 + 3 * (k : Int)) = 10 + 3 * (k : Int) := by rw [i64_w]; unfold wrap64; have := HK3.out; omega
     have HWZ : Aside0 (b0 ≤ wr.heap.size) := ⟨hz9⟩
     have HKK : Aside0 (k < K) := ⟨hlt⟩
     obtain ⟨y0, y1, y2, y3, y4, y5, y6, y7, y8, y9⟩ := HP.out.box
     have yf := BlkP.free' HP.out
     unfold flP at y2
     dsimp only at y2
     clear y0 y1 y3 y4 y5 y6 y7 y8 y9
     obtain ⟨VS, hVS⟩ : ∃ v, Value.slice A (flL k).length c = v := ⟨_, rfl⟩
     rw [hVS] at y2 HW
     clear hVS
     obtain ⟨m9, hm9⟩ : ∃ n, wr.heap.size = n := ⟨_, rfl⟩
     have HM9 := Aside0.mk hm9
     have HM9 := Aside0.mk hm9
     go_wp2_with (at_builtin; refine wpList_append_ent (v := VS) (l := flL k) (m := [⟨10 + 3 * (k : Int), 2, ⟨#[]⟩⟩]) (b := b0) rfl (.tmp 41) (.tmp 46) rfl rfl (HW.out.alloc _) rfl (by have hq := Rd.one wr ⟨10 + 3 * (k : Int), 2, ⟨#[]⟩⟩; rw [HM9.out] at hq; exact hq) (by rw [flL_len]; show k + 1 ≤ _; have := HK3.out; have := HKK.out; omega) (Nat.le_trans HWZ.out (by rw [World.size_alloc]; omega)) ?_; intro v6 w6 ho6 hgr ha6; rw [flL_succ] at ho6; have hon : Only (fun q => VS.ownBlock = some q) (wr.alloc (.cells #[.int .i64 (10 + 3 * (k : Int)), .int .i64 2, .string ⟨#[]⟩] 28)) w6 := (Only.refl _ _).of_grown hgr (fun q hq _ => hq); have HOB : Aside0 (∀ q, VS.ownBlock = some q → b0 ≤ q) := ⟨fun q hq => (own_block HW.out hq).1⟩; have h00 := HB0.out; replace HB := Aside0.mk (Bel.only (HB.out.alloc (.cells #[.int .i64 (10 + 3 * (k : Int)), .int .i64 2, .string ⟨#[]⟩] 28)) hon (fun q hq h => by have := HOB.out _ h; omega)); replace HP := Aside0.mk (BlkP.only (HP.out.alloc (.cells #[.int .i64 (10 + 3 * (k : Int)), .int .i64 2, .string ⟨#[]⟩] 28)) hon (fun h => by have := HOB.out _ h; omega)); obtain ⟨A6, c6, hv6, hrd6, _⟩ := ho6.rd' (by rw [flL_len]; have := HK3.out; have := HKK.out; omega); subst hv6; have HO6 := Aside0.mk ho6; have HS6 : Aside0 (b0 ≤ w6.heap.size) := ⟨Nat.le_trans HWZ.out (Nat.le_trans (by rw [World.size_alloc]; omega) hon.size)⟩; clear ho6 hgr ha6 hon hrd6 h00 hm9; obtain ⟨z0, z1, z2, z3, z4, z5, z6, z7, z8, z9⟩ := HP.out.box; have zf := BlkP.free' HP.out)
     clear z0 z1 z2 z3 z4 z5 z6 z7 z8 z9 zf
     have hx := (Only.refl (fun q => q = n9) w6).setCell (p := ⟨n9, 2, none⟩) rfl (.slice A6 (flL (k + 1)).length c6)
     have hp6 := BlkP.setL' HP.out (flL (k + 1)) A6 c6
     have hb6 := Bel.only HB.out hx (fun q hq h => by have h2 : q = n9 := h; have := HW9.out; omega)
     have hw6 := OwnE.only' HO6.out hx (fun q hq h => by have h2 : q = n9 := h; have h3 := (own_block HO6.out hq).1; have := HB0.out; omega)
     go_roundw
     case rel => exact ⟨k + 1, by omega, by go_num, ⟨A6, c6, hp6, hw6, hb6, Nat.le_trans HS6.out hx.size⟩⟩
     case measure => simp [intOf]; omega
   · have d1 : decide ((k : Int) < (K : Int)) = false := decide_eq_false (by omega)
     have d2 : decide (k < K) = false := decide_eq_false (by omega)
     obtain rfl : k = K := by omega
     obtain ⟨A6, c6, hv6, hrd6, _⟩ := HW.out.rd' (by rw [flL_len]; have := HK3.out; omega)
     injection hv6 with e1 e2 e3
     subst e1
     subst e3
     rw [HP0.out] at HP
     have HR : Aside0 (Rd wr A c P.l) := ⟨by rw [← HP0.out]; exact hrd6⟩
     clear hrd6 e2 HW
     go_wp2_with fail
     have hC6 := HC6.out
     simp only [Try.f9] at hC6
     subst hC6
     clear HC6
     obtain ⟨hp0, hp1, hp2, hp3, hp4, hp5, hp6, hp7, hp8, hp9⟩ := HP.out.box
     obtain ⟨C8, hC8⟩ : ∃ C, (match Try.f9.body with | some (.seq _ (.seq _ (.seq _ (.seq _ (.seq _ (.seq _ (.seq _ (.seq _ c)))))))) => c | _ => .skip) = C := ⟨_, rfl⟩
     have HC8 := Aside0.mk hC8
     simp only [Try.f9] at hC8
     rw [hC8]
     clear hC8
     go_wp2_with fail
     go_at_call 12
     refine (part_Bytes P A c _ HR.out HBR.out).mono ?_
     rintro e w31 ⟨rfl, hw31⟩
     replace HP := lbP HP hw31
     replace HB := lbB HB hw31
     replace HR := lbR HR hw31
     clear hw31
     clear hp0 hp1 hp2 hp3 hp4 hp5 hp6 hp7 hp8 hp9
     obtain ⟨hp0, hp1, hp2, hp3, hp4, hp5, hp6, hp7, hp8, hp9⟩ := HP.out.box
     go_wp2_with fail
     have hC8 := HC8.out
     simp only [Try.f9] at hC8
     subst hC8
     clear HC8
     obtain ⟨C9, hC9⟩ : ∃ C, (match Try.f9.body with | some (.seq _ (.seq _ (.seq _ (.seq _ (.seq _ (.seq _ (.seq _ (.seq _ (.seq _ c))))))))) => c | _ => .skip) = C := ⟨_, rfl⟩
     have HC9 := Aside0.mk hC9
     simp only [Try.f9] at hC9
     rw [hC9]
     clear hC9
     go_wp2_with fail
     go_at_call 20
     refine (readc S _ (by have := HSZ.out; omega) HRS.out).mono ?_
     rintro e w32 ⟨A3, c3, rfl, hrd, hw32⟩
     replace HP := lbP HP hw32
     replace HB := lbB HB hw32
     replace HR := lbR HR hw32
     have HR3 := Aside0.mk hrd
     clear hrd
     clear hw32
     clear hp0 hp1 hp2 hp3 hp4 hp5 hp6 hp7 hp8 hp9
     obtain ⟨hp0, hp1, hp2, hp3, hp4, hp5, hp6, hp7, hp8, hp9⟩ := HP.out.box
     unfold vP
     go_wp2_with fail
     obtain ⟨n3, hn3⟩ : ∃ n, w32.heap.size = n := ⟨_, rfl⟩
     try rw [hn3]
     clear hp0 hp1 hp2 hp3 hp4 hp5 hp6 hp7 hp8 hp9
     replace HP := laP HP (.cells #[.int .i64 P.g, .int .i64 P.k, .slice A3 P.l.length c3, .int .i64 P.ht, .int .i64 P.hv, .int .i64 P.hc, .int .i64 P.ix, .int .i64 P.tm, .bool P.mrk, .bool P.hed] 26)
     replace HB := laB HB (.cells #[.int .i64 P.g, .int .i64 P.k, .slice A3 P.l.length c3, .int .i64 P.ht, .int .i64 P.hv, .int .i64 P.hc, .int .i64 P.ix, .int .i64 P.tm, .bool P.mrk, .bool P.hed] 26)
     replace HR := laR HR (.cells #[.int .i64 P.g, .int .i64 P.k, .slice A3 P.l.length c3, .int .i64 P.ht, .int .i64 P.hv, .int .i64 P.hc, .int .i64 P.ix, .int .i64 P.tm, .bool P.mrk, .bool P.hed] 26)
     replace HR3 := laR HR3 (.cells #[.int .i64 P.g, .int .i64 P.k, .slice A3 P.l.length c3, .int .i64 P.ht, .int .i64 P.hv, .int .i64 P.hc, .int .i64 P.ix, .int .i64 P.tm, .bool P.mrk, .bool P.hed] 26)
     have HX : Aside0 (BlkP P A3 c3 n3 (w32.alloc (.cells #[.int .i64 P.g, .int .i64 P.k, .slice A3 P.l.length c3, .int .i64 P.ht, .int .i64 P.hv, .int .i64 P.hc, .int .i64 P.ix, .int .i64 P.tm, .bool P.mrk, .bool P.hed] 26))) := ⟨(by have hq := BlkP.new P A3 c3 w32; rw [hn3] at hq; exact hq)⟩
     obtain ⟨W3, hW3⟩ : ∃ W, w32.alloc (.cells #[.int .i64 P.g, .int .i64 P.k, .slice A3 P.l.length c3, .int .i64 P.ht, .int .i64 P.hv, .int .i64 P.hc, .int .i64 P.ix, .int .i64 P.tm, .bool P.mrk, .bool P.hed] 26) = W := ⟨_, rfl⟩
     rw [hW3] at HP HB HR HR3 HX ⊢
     clear hW3
     clear hn3
     have hC9 := HC9.out
     simp only [Try.f9] at hC9
     subst hC9
     clear HC9
     obtain ⟨C10, hC10⟩ : ∃ C, (match Try.f9.body with | some (.seq _ (.seq _ (.seq _ (.seq _ (.seq _ (.seq _ (.seq _ (.seq _ (.seq _ (.seq _ c)))))))))) => c | _ => .skip) = C := ⟨_, rfl⟩
     have HC10 := Aside0.mk hC10
     simp only [Try.f9] at hC10
     rw [hC10]
     clear hC10
     obtain ⟨hp0, hp1, hp2, hp3, hp4, hp5, hp6, hp7, hp8, hp9⟩ := HP.out.box
     obtain ⟨hx0, hx1, hx2, hx3, hx4, hx5, hx6, hx7, hx8, hx9⟩ := HX.out.box
     have HNE : Aside0 (n9 < W3.heap.size ∧ n3 < W3.heap.size ∧ w.heap.size ≤ W3.heap.size) := ⟨BlkP.lt' HP.out, BlkP.lt' HX.out, HB.out.b.size⟩
     go_wp2_with fail
     obtain ⟨n4, hn4⟩ : ∃ n, W3.heap.size = n := ⟨_, rfl⟩
     rw [hn4] at HNE
     try rw [hn4]
     clear hp0 hp1 hp2 hp3 hp4 hp5 hp6 hp7 hp8 hp9 hx0 hx1 hx2 hx3 hx4 hx5 hx6 hx7 hx8 hx9
     replace HP := laP HP (.cells #[.int .i64 P.g, .int .i64 P.k, .slice A P.l.length c, .int .i64 P.ht, .int .i64 P.hv, .int .i64 P.hc, .int .i64 P.ix, .int .i64 P.tm, .bool P.mrk, .bool P.hed] 26)
     replace HB := laB HB (.cells #[.int .i64 P.g, .int .i64 P.k, .slice A P.l.length c, .int .i64 P.ht, .int .i64 P.hv, .int .i64 P.hc, .int .i64 P.ix, .int .i64 P.tm, .bool P.mrk, .bool P.hed] 26)
     replace HR := laR HR (.cells #[.int .i64 P.g, .int .i64 P.k, .slice A P.l.length c, .int .i64 P.ht, .int .i64 P.hv, .int .i64 P.hc, .int .i64 P.ix, .int .i64 P.tm, .bool P.mrk, .bool P.hed] 26)
     replace HR3 := laR HR3 (.cells #[.int .i64 P.g, .int .i64 P.k, .slice A P.l.length c, .int .i64 P.ht, .int .i64 P.hv, .int .i64 P.hc, .int .i64 P.ix, .int .i64 P.tm, .bool P.mrk, .bool P.hed] 26)
     replace HX := laP HX (.cells #[.int .i64 P.g, .int .i64 P.k, .slice A P.l.length c, .int .i64 P.ht, .int .i64 P.hv, .int .i64 P.hc, .int .i64 P.ix, .int .i64 P.tm, .bool P.mrk, .bool P.hed] 26)
     have HY : Aside0 (BlkP P A c n4 (W3.alloc (.cells #[.int .i64 P.g, .int .i64 P.k, .slice A P.l.length c, .int .i64 P.ht, .int .i64 P.hv, .int .i64 P.hc, .int .i64 P.ix, .int .i64 P.tm, .bool P.mrk, .bool P.hed] 26))) := ⟨(by have hq := BlkP.new P A c W3; rw [hn4] at hq; exact hq)⟩
     obtain ⟨W4, hW4⟩ : ∃ W, W3.alloc (.cells #[.int .i64 P.g, .int .i64 P.k, .slice A P.l.length c, .int .i64 P.ht, .int .i64 P.hv, .int .i64 P.hc, .int .i64 P.ix, .int .i64 P.tm, .bool P.mrk, .bool P.hed] 26) = W := ⟨_, rfl⟩
     rw [hW4] at HP HB HR HR3 HX HY ⊢
     clear hW4
     clear hn4
     have hC10 := HC10.out
     simp only [Try.f9] at hC10
     subst hC10
     clear HC10
     obtain ⟨C11, hC11⟩ : ∃ C, (match Try.f9.body with | some (.seq _ (.seq _ (.seq _ (.seq _ (.seq _ (.seq _ (.seq _ (.seq _ (.seq _ (.seq _ (.seq _ c))))))))))) => c | _ => .skip) = C := ⟨_, rfl⟩
     have HC11 := Aside0.mk hC11
     simp only [Try.f9] at hC11
     rw [hC11]
     clear hC11
     obtain ⟨hp0, hp1, hp2, hp3, hp4, hp5, hp6, hp7, hp8, hp9⟩ := HP.out.box
     obtain ⟨hx0, hx1, hx2, hx3, hx4, hx5, hx6, hx7, hx8, hx9⟩ := HX.out.box
     obtain ⟨hy0, hy1, hy2, hy3, hy4, hy5, hy6, hy7, hy8, hy9⟩ := HY.out.box
     have yf := BlkP.free' HY.out
     go_wp2_with fail
     clear yf
     clear hp0 hp1 hp2 hp3 hp4 hp5 hp6 hp7 hp8 hp9 hx0 hx1 hx2 hx3 hx4 hx5 hx6 hx7 hx8 hx9 hy0 hy1 hy2 hy3 hy4 hy5 hy6 hy7 hy8 hy9
     have hx : Only (fun q => q = n4) W4 ((W4.setCell ⟨n4, 8, none⟩ (.bool false)).setCell ⟨n4, 9, none⟩ (.bool false)) := ((Only.refl (fun q => q = n4) W4).setCell (p := ⟨n4, 8, none⟩) rfl _).setCell (p := ⟨n4, 9, none⟩) rfl _
     have hne := HNE.out
     replace HB := Aside0.mk (Bel.only HB.out hx (fun q hq h => by have h2 : q = n4 := h; omega))
     replace HP := Aside0.mk (BlkP.only HP.out hx (fun h => by have h2 : n9 = n4 := h; omega))
     replace HX := Aside0.mk (BlkP.only HX.out hx (fun h => by have h2 : n3 = n4 := h; omega))
     replace HR := Aside0.mk (Rd.only HR.out hx (fun q hq h => by have h3 : q = n4 := h; subst h3; exact Rd.apartP HR.out HY.out hq))
     replace HR3 := Aside0.mk (Rd.only HR3.out hx (fun q hq h => by have h3 : q = n4 := h; subst h3; exact Rd.apartP HR3.out HY.out hq))
     replace HY := Aside0.mk (BlkP.set89 HY.out false false)
     clear hx hne
     obtain ⟨W5, hW⟩ : ∃ X, (W4.setCell ⟨n4, 8, none⟩ (.bool false)).setCell ⟨n4, 9, none⟩ (.bool false) = X := ⟨_, rfl⟩
     rw [hW] at HB HP HX HR HR3 HY ⊢
     clear hW
     have hC11 := HC11.out
     simp only [Try.f9] at hC11
     subst hC11
     clear HC11
     obtain ⟨hp0, hp1, hp2, hp3, hp4, hp5, hp6, hp7, hp8, hp9⟩ := HP.out.box
     obtain ⟨hx0, hx1, hx2, hx3, hx4, hx5, hx6, hx7, hx8, hx9⟩ := HX.out.box
     obtain ⟨hy0, hy1, hy2, hy3, hy4, hy5, hy6, hy7, hy8, hy9⟩ := HY.out.box
     try dsimp only at hp0 hp1 hp2 hp3 hp4 hp5 hp6 hp7 hp8 hp9 hx0 hx1 hx2 hx3 hx4 hx5 hx6 hx7 hx8 hx9 hy0 hy1 hy2 hy3 hy4 hy5 hy6 hy7 hy8 hy9
     go_wp2_with fail
     go_at_call 15
     refine (isp4 P A c _ HR.out HPB.out).mono ?_
     rintro e w33 ⟨rfl, hw33⟩
     replace HP := lbP HP hw33
     replace HB := lbB HB hw33
     replace HR := lbR HR hw33
     replace HR3 := lbR HR3 hw33
     replace HX := lbP HX hw33
     replace HY := lbP HY hw33
     clear hw33
     clear hp0 hp1 hp2 hp3 hp4 hp5 hp6 hp7 hp8 hp9 hx0 hx1 hx2 hx3 hx4 hx5 hx6 hx7 hx8 hx9 hy0 hy1 hy2 hy3 hy4 hy5 hy6 hy7 hy8 hy9
     obtain ⟨hp0, hp1, hp2, hp3, hp4, hp5, hp6, hp7, hp8, hp9⟩ := HP.out.box
     obtain ⟨hx0, hx1, hx2, hx3, hx4, hx5, hx6, hx7, hx8, hx9⟩ := HX.out.box
     obtain ⟨hy0, hy1, hy2, hy3, hy4, hy5, hy6, hy7, hy8, hy9⟩ := HY.out.box
     try dsimp only at hp0 hp1 hp2 hp3 hp4 hp5 hp6 hp7 hp8 hp9 hx0 hx1 hx2 hx3 hx4 hx5 hx6 hx7 hx8 hx9 hy0 hy1 hy2 hy3 hy4 hy5 hy6 hy7 hy8 hy9
     go_wp2_with fail
     go_at_call 19
     refine (rsamep P P A c A3 c3 _ HR.out HR3.out (sameP_iff.2 rfl)).mono ?_
     rintro e w34 ⟨rfl, hw34⟩
     replace HP := lbP HP hw34
     replace HB := lbB HB hw34
     replace HR := lbR HR hw34
     replace HR3 := lbR HR3 hw34
     replace HX := lbP HX hw34
     replace HY := lbP HY hw34
     clear hw34
     clear hp0 hp1 hp2 hp3 hp4 hp5 hp6 hp7 hp8 hp9 hx0 hx1 hx2 hx3 hx4 hx5 hx6 hx7 hx8 hx9 hy0 hy1 hy2 hy3 hy4 hy5 hy6 hy7 hy8 hy9
     obtain ⟨hp0, hp1, hp2, hp3, hp4, hp5, hp6, hp7, hp8, hp9⟩ := HP.out.box
     obtain ⟨hx0, hx1, hx2, hx3, hx4, hx5, hx6, hx7, hx8, hx9⟩ := HX.out.box
     obtain ⟨hy0, hy1, hy2, hy3, hy4, hy5, hy6, hy7, hy8, hy9⟩ := HY.out.box
     try dsimp only at hp0 hp1 hp2 hp3 hp4 hp5 hp6 hp7 hp8 hp9 hx0 hx1 hx2 hx3 hx4 hx5 hx6 hx7 hx8 hx9 hy0 hy1 hy2 hy3 hy4 hy5 hy6 hy7 hy8 hy9
     go_wp2_with fail
     go_at_call 15
     refine (isp4 ⟨P.g, P.k, P.l, P.ht, P.hv, P.hc, P.ix, P.tm, false, false⟩ A c _ HR.out HBB.out).mono ?_
     rintro e w35 ⟨rfl, hw35⟩
     replace HP := lbP HP hw35
     replace HB := lbB HB hw35
     replace HR := lbR HR hw35
     replace HR3 := lbR HR3 hw35
     replace HX := lbP HX hw35
     replace HY := lbP HY hw35
     clear hw35
     go_wp2_with fail
     go_ret
     exact ⟨rfl, HB.out.b⟩
set_option maxHeartbeats 8000000 in
set_option maxRecDepth 100000 in
theorem fl4_tf (n t : Int) (w : World) (hn : 0 ≤ n ∧ n ≤ 255) (ht : 0 ≤ t ∧ t ≤ 65535) :
  Calls Try.prog 9 #[.bool true, .bool false, .int .u8 n, .int .u16 t] w fun e w' => e = .returned (.bool true) ∧ Below w.heap.size w w' := by
 have hn4 : n.tmod 4 = ((n.toNat % 4 : Nat) : Int) := tmod4 hn.1
 obtain ⟨K, hK⟩ : ∃ K, n.toNat % 4 = K := ⟨_, rfl⟩
 rw [hK] at hn4
 have HK3 : Aside0 (K ≤ 3) := ⟨by rw [← hK]; have := Nat.mod_lt n.toNat (show 0 < 4 by omega); omega⟩
 clear hK
 have hu8 : IntKind.u8.wrap (K : Int) = (K : Int) := by have := HK3.out; simp [IntKind.wrap, IntKind.bits, IntKind.signed]; omega
 have hi8 : IntKind.i64.wrap (K : Int) = (K : Int) := by rw [i64_w]; unfold wrap64; have := HK3.out; omega
 have hwt : IntKind.i64.wrap t = t := by rw [i64_w]; unfold wrap64; omega
 have hwt1 : IntKind.i64.wrap (t + 1) = t + 1 := by rw [i64_w]; unfold wrap64; omega
 have HT := Aside0.mk (And.intro ht.1 ht.2)
 obtain ⟨P, hP⟩ : ∃ P, flP true false t (flL K) = P := ⟨_, rfl⟩
 have HP0 := Aside0.mk hP
 have hpb : isP P = true := by rw [← hP, flP_is _ _ ht HK3.out]; rfl
 have HPB := Aside0.mk hpb
 have HBB : Aside0 (isP ⟨P.g, P.k, P.l, P.ht, P.hv, P.hc, P.ix, P.tm, false, false⟩ = false) := ⟨by rw [← hP]; have := flB_is true false ht HK3.out; unfold flP; rw [this]; rfl⟩
 obtain ⟨S, hS⟩ : ∃ S, bytesP P = S := ⟨_, rfl⟩
 have HBR : Aside0 (bytesR P = (S, 0)) := ⟨by unfold bytesR; rw [if_pos hpb, hS]⟩
 have HRS : Aside0 (progR S = (P, (S.size, 0))) := ⟨by rw [← hS]; exact read_self hpb⟩
 have HSZ : Aside0 (S.size ≤ 1000) := ⟨by rw [← hS]; exact (bytesP_sz hpb).2⟩
 clear hS
 have HB := Aside0.mk (Bel.refl w)
 clear hn ht hP hpb
 go_enter Try.func9, Try.ntmps9
 obtain ⟨C3, hC3⟩ : ∃ C, (match Try.f9.body with | some (.seq _ (.seq _ (.seq _ c))) => c | _ => .skip) = C := ⟨_, rfl⟩
 have HC3 := Aside0.mk hC3
 simp only [Try.f9] at hC3
 rw [hC3]
 clear hC3
 go_wp2_with fail
 go_at_call 10
 refine (known4 _).mono ?_
 rintro e w1 ⟨rfl, hw1⟩
 replace HB := lbB HB hw1
 clear hw1
 go_wp2_with fail
 obtain ⟨n9, hn9⟩ : ∃ n, w1.heap.size = n := ⟨_, rfl⟩
 have HW9 : Aside0 (w.heap.size ≤ n9) := ⟨by rw [← hn9]; exact HB.out.b.size⟩
 try rw [hn9]
 replace HB := laB HB (.cells #[.int .i64 2, .int .i64 6, .slice none 0 0, .int .i64 0, .int .i64 0, .int .i64 0, .int .i64 0, .int .i64 0, .bool true, .bool false] 26)
 have HP : Aside0 (BlkP ⟨2, 6, [], 0, 0, 0, 0, 0, true, false⟩ none 0 n9 (w1.alloc (.cells #[.int .i64 2, .int .i64 6, .slice none 0 0, .int .i64 0, .int .i64 0, .int .i64 0, .int .i64 0, .int .i64 0, .bool true, .bool false] 26))) := ⟨(by have hq := BlkP.new ⟨2, 6, [], 0, 0, 0, 0, 0, true, false⟩ none 0 w1; rw [hn9] at hq; exact hq)⟩
 obtain ⟨W1, hW1⟩ : ∃ W, w1.alloc (.cells #[.int .i64 2, .int .i64 6, .slice none 0 0, .int .i64 0, .int .i64 0, .int .i64 0, .int .i64 0, .int .i64 0, .bool true, .bool false] 26) = W := ⟨_, rfl⟩
 rw [hW1] at HB HP ⊢
 clear hW1
 clear hn9
 have hC3 := HC3.out
 simp only [Try.f9] at hC3
 subst hC3
 clear HC3
 obtain ⟨C5, hC5⟩ : ∃ C, (match Try.f9.body with | some (.seq _ (.seq _ (.seq _ (.seq _ (.seq _ c))))) => c | _ => .skip) = C := ⟨_, rfl⟩
 have HC5 := Aside0.mk hC5
 simp only [Try.f9] at hC5
 rw [hC5]
 clear hC5
 obtain ⟨hp0, hp1, hp2, hp3, hp4, hp5, hp6, hp7, hp8, hp9⟩ := HP.out.box
 dsimp only [List.length_nil] at hp0 hp1 hp2 hp3 hp4 hp5 hp6 hp7 hp8 hp9
 have yf := BlkP.free' HP.out
 go_wp2_with fail
 clear yf
 clear hp0 hp1 hp2 hp3 hp4 hp5 hp6 hp7 hp8 hp9
 have hx : Only (fun q => q = n9) W1 ((W1.setCell ⟨n9, 6, none⟩ (.int .i64 9)).setCell ⟨n9, 7, none⟩ (.int .i64 (t + 1))) := by (iterate 2 (refine Only.setCell (U := fun q => q = n9) ?_ rfl _)); exact Only.refl _ _
 replace HB := Aside0.mk (Bel.only HB.out hx (fun q hq h => by have h2 : q = n9 := h; have := HW9.out; omega))
 have hp9 := (BlkP.cel7 (BlkP.cel6 HP.out 9) (t + 1))
 clear HP
 have HP : Aside0 (BlkP (flP true false t []) none 0 n9 ((W1.setCell ⟨n9, 6, none⟩ (.int .i64 9)).setCell ⟨n9, 7, none⟩ (.int .i64 (t + 1)))) := ⟨hp9⟩
 obtain ⟨W2, hW⟩ : ∃ X, (W1.setCell ⟨n9, 6, none⟩ (.int .i64 9)).setCell ⟨n9, 7, none⟩ (.int .i64 (t + 1)) = X := ⟨_, rfl⟩
 rw [hW] at HB HP ⊢
 clear hW hx hp9
 have hC5 := HC5.out
 simp only [Try.f9] at hC5
 subst hC5
 clear HC5
 obtain ⟨C6, hC6⟩ : ∃ C, (match Try.f9.body with | some (.seq _ (.seq _ (.seq _ (.seq _ (.seq _ (.seq _ c)))))) => c | _ => .skip) = C := ⟨_, rfl⟩
 have HC6 := Aside0.mk hC6
 simp only [Try.f9] at hC6
 rw [hC6]
 clear hC6
 obtain ⟨b0, hb0⟩ : ∃ n, W2.heap.size = n := ⟨_, rfl⟩
 have HB0 : Aside0 (b0 ≤ W2.heap.size ∧ n9 < b0 ∧ w.heap.size ≤ b0) := ⟨by rw [← hb0]; exact ⟨Nat.le_refl _, BlkP.lt' HP.out, HB.out.b.size⟩⟩
 clear hb0
 have HI1 : Aside0 (∃ A c, BlkP (flP true false t (flL 0)) A c n9 W2 ∧ OwnE W2 b0 (.slice A (flL 0).length c) (flL 0) ∧ Bel w W2 ∧ b0 ≤ W2.heap.size) := ⟨⟨none, 0, HP.out, OwnE.nil _ _, HB.out, HB0.out.1⟩⟩
 clear HP HB
 go_wp2_with fail
 go_loopw [10] (fun v wr => ∃ k : Nat, k ≤ K ∧ v = .int .i64 (k : Int) ∧ Aside0 (∃ A c, BlkP (flP true false t (flL k)) A c n9 wr ∧ OwnE wr b0 (.slice A (flL k).length c) (flL k) ∧ Bel w wr ∧ b0 ≤ wr.heap.size)) (fun v _ => K - (intOf v).toNat)
 case atStart => exact ⟨0, Nat.zero_le _, rfl, HI1⟩
 case round =>
   clear HI1
   obtain ⟨k, hk, rfl, HI⟩ := hrel
   obtain ⟨A, c, hp, hw, hb, hz9⟩ := HI.out
   have HP := Aside0.mk hp
   have HW := Aside0.mk hw
   have HB := Aside0.mk hb
   clear HI hp hw hb
   by_cases hlt : k < K
   · have d1 : decide ((k : Int) < (K : Int)) = true := decide_eq_true (by omega)
     have d2 : decide (k < K) = true := decide_eq_true (by omega)
     have hk4 : IntKind.i64.wrap ((k : Int) + 1) = (k : Int) + 1 := by rw [i64_w]; unfold wrap64; have := HK3.out; omega
     have h3k : IntKind.i64.wrap (3 * (k : Int)) = 3 * (k : Int) := by rw [i64_w]; unfold wrap64; have := HK3.out; omega
     have h10 : IntKind.i64.wrap (10 + 3 * (k : Int)) = 10 + 3 * (k : Int) := by rw [i64_w]; unfold wrap64; have := HK3.out; omega
     have HWZ : Aside0 (b0 ≤ wr.heap.size) := ⟨hz9⟩
     have HKK : Aside0 (k < K) := ⟨hlt⟩
     obtain ⟨y0, y1, y2, y3, y4, y5, y6, y7, y8, y9⟩ := HP.out.box
     have yf := BlkP.free' HP.out
     unfold flP at y2
     dsimp only at y2
     clear y0 y1 y3 y4 y5 y6 y7 y8 y9
     obtain ⟨VS, hVS⟩ : ∃ v, Value.slice A (flL k).length c = v := ⟨_, rfl⟩
     rw [hVS] at y2 HW
     clear hVS
     obtain ⟨m9, hm9⟩ : ∃ n, wr.heap.size = n := ⟨_, rfl⟩
     have HM9 := Aside0.mk hm9
     have HM9 := Aside0.mk hm9
     go_wp2_with (at_builtin; refine wpList_append_ent (v := VS) (l := flL k) (m := [⟨10 + 3 * (k : Int), 2, ⟨#[]⟩⟩]) (b := b0) rfl (.tmp 41) (.tmp 46) rfl rfl (HW.out.alloc _) rfl (by have hq := Rd.one wr ⟨10 + 3 * (k : Int), 2, ⟨#[]⟩⟩; rw [HM9.out] at hq; exact hq) (by rw [flL_len]; show k + 1 ≤ _; have := HK3.out; have := HKK.out; omega) (Nat.le_trans HWZ.out (by rw [World.size_alloc]; omega)) ?_; intro v6 w6 ho6 hgr ha6; rw [flL_succ] at ho6; have hon : Only (fun q => VS.ownBlock = some q) (wr.alloc (.cells #[.int .i64 (10 + 3 * (k : Int)), .int .i64 2, .string ⟨#[]⟩] 28)) w6 := (Only.refl _ _).of_grown hgr (fun q hq _ => hq); have HOB : Aside0 (∀ q, VS.ownBlock = some q → b0 ≤ q) := ⟨fun q hq => (own_block HW.out hq).1⟩; have h00 := HB0.out; replace HB := Aside0.mk (Bel.only (HB.out.alloc (.cells #[.int .i64 (10 + 3 * (k : Int)), .int .i64 2, .string ⟨#[]⟩] 28)) hon (fun q hq h => by have := HOB.out _ h; omega)); replace HP := Aside0.mk (BlkP.only (HP.out.alloc (.cells #[.int .i64 (10 + 3 * (k : Int)), .int .i64 2, .string ⟨#[]⟩] 28)) hon (fun h => by have := HOB.out _ h; omega)); obtain ⟨A6, c6, hv6, hrd6, _⟩ := ho6.rd' (by rw [flL_len]; have := HK3.out; have := HKK.out; omega); subst hv6; have HO6 := Aside0.mk ho6; have HS6 : Aside0 (b0 ≤ w6.heap.size) := ⟨Nat.le_trans HWZ.out (Nat.le_trans (by rw [World.size_alloc]; omega) hon.size)⟩; clear ho6 hgr ha6 hon hrd6 h00 hm9; obtain ⟨z0, z1, z2, z3, z4, z5, z6, z7, z8, z9⟩ := HP.out.box; have zf := BlkP.free' HP.out)
     clear z0 z1 z2 z3 z4 z5 z6 z7 z8 z9 zf
     have hx := (Only.refl (fun q => q = n9) w6).setCell (p := ⟨n9, 2, none⟩) rfl (.slice A6 (flL (k + 1)).length c6)
     have hp6 := BlkP.setL' HP.out (flL (k + 1)) A6 c6
     have hb6 := Bel.only HB.out hx (fun q hq h => by have h2 : q = n9 := h; have := HW9.out; omega)
     have hw6 := OwnE.only' HO6.out hx (fun q hq h => by have h2 : q = n9 := h; have h3 := (own_block HO6.out hq).1; have := HB0.out; omega)
     go_roundw
     case rel => exact ⟨k + 1, by omega, by go_num, ⟨A6, c6, hp6, hw6, hb6, Nat.le_trans HS6.out hx.size⟩⟩
     case measure => simp [intOf]; omega
   · have d1 : decide ((k : Int) < (K : Int)) = false := decide_eq_false (by omega)
     have d2 : decide (k < K) = false := decide_eq_false (by omega)
     obtain rfl : k = K := by omega
     obtain ⟨A6, c6, hv6, hrd6, _⟩ := HW.out.rd' (by rw [flL_len]; have := HK3.out; omega)
     injection hv6 with e1 e2 e3
     subst e1
     subst e3
     rw [HP0.out] at HP
     have HR : Aside0 (Rd wr A c P.l) := ⟨by rw [← HP0.out]; exact hrd6⟩
     clear hrd6 e2 HW
     go_wp2_with fail
     have hC6 := HC6.out
     simp only [Try.f9] at hC6
     subst hC6
     clear HC6
     obtain ⟨hp0, hp1, hp2, hp3, hp4, hp5, hp6, hp7, hp8, hp9⟩ := HP.out.box
     obtain ⟨C8, hC8⟩ : ∃ C, (match Try.f9.body with | some (.seq _ (.seq _ (.seq _ (.seq _ (.seq _ (.seq _ (.seq _ (.seq _ c)))))))) => c | _ => .skip) = C := ⟨_, rfl⟩
     have HC8 := Aside0.mk hC8
     simp only [Try.f9] at hC8
     rw [hC8]
     clear hC8
     go_wp2_with fail
     go_at_call 12
     refine (part_Bytes P A c _ HR.out HBR.out).mono ?_
     rintro e w31 ⟨rfl, hw31⟩
     replace HP := lbP HP hw31
     replace HB := lbB HB hw31
     replace HR := lbR HR hw31
     clear hw31
     clear hp0 hp1 hp2 hp3 hp4 hp5 hp6 hp7 hp8 hp9
     obtain ⟨hp0, hp1, hp2, hp3, hp4, hp5, hp6, hp7, hp8, hp9⟩ := HP.out.box
     go_wp2_with fail
     have hC8 := HC8.out
     simp only [Try.f9] at hC8
     subst hC8
     clear HC8
     obtain ⟨C9, hC9⟩ : ∃ C, (match Try.f9.body with | some (.seq _ (.seq _ (.seq _ (.seq _ (.seq _ (.seq _ (.seq _ (.seq _ (.seq _ c))))))))) => c | _ => .skip) = C := ⟨_, rfl⟩
     have HC9 := Aside0.mk hC9
     simp only [Try.f9] at hC9
     rw [hC9]
     clear hC9
     go_wp2_with fail
     go_at_call 20
     refine (readc S _ (by have := HSZ.out; omega) HRS.out).mono ?_
     rintro e w32 ⟨A3, c3, rfl, hrd, hw32⟩
     replace HP := lbP HP hw32
     replace HB := lbB HB hw32
     replace HR := lbR HR hw32
     have HR3 := Aside0.mk hrd
     clear hrd
     clear hw32
     clear hp0 hp1 hp2 hp3 hp4 hp5 hp6 hp7 hp8 hp9
     obtain ⟨hp0, hp1, hp2, hp3, hp4, hp5, hp6, hp7, hp8, hp9⟩ := HP.out.box
     unfold vP
     go_wp2_with fail
     obtain ⟨n3, hn3⟩ : ∃ n, w32.heap.size = n := ⟨_, rfl⟩
     try rw [hn3]
     clear hp0 hp1 hp2 hp3 hp4 hp5 hp6 hp7 hp8 hp9
     replace HP := laP HP (.cells #[.int .i64 P.g, .int .i64 P.k, .slice A3 P.l.length c3, .int .i64 P.ht, .int .i64 P.hv, .int .i64 P.hc, .int .i64 P.ix, .int .i64 P.tm, .bool P.mrk, .bool P.hed] 26)
     replace HB := laB HB (.cells #[.int .i64 P.g, .int .i64 P.k, .slice A3 P.l.length c3, .int .i64 P.ht, .int .i64 P.hv, .int .i64 P.hc, .int .i64 P.ix, .int .i64 P.tm, .bool P.mrk, .bool P.hed] 26)
     replace HR := laR HR (.cells #[.int .i64 P.g, .int .i64 P.k, .slice A3 P.l.length c3, .int .i64 P.ht, .int .i64 P.hv, .int .i64 P.hc, .int .i64 P.ix, .int .i64 P.tm, .bool P.mrk, .bool P.hed] 26)
     replace HR3 := laR HR3 (.cells #[.int .i64 P.g, .int .i64 P.k, .slice A3 P.l.length c3, .int .i64 P.ht, .int .i64 P.hv, .int .i64 P.hc, .int .i64 P.ix, .int .i64 P.tm, .bool P.mrk, .bool P.hed] 26)
     have HX : Aside0 (BlkP P A3 c3 n3 (w32.alloc (.cells #[.int .i64 P.g, .int .i64 P.k, .slice A3 P.l.length c3, .int .i64 P.ht, .int .i64 P.hv, .int .i64 P.hc, .int .i64 P.ix, .int .i64 P.tm, .bool P.mrk, .bool P.hed] 26))) := ⟨(by have hq := BlkP.new P A3 c3 w32; rw [hn3] at hq; exact hq)⟩
     obtain ⟨W3, hW3⟩ : ∃ W, w32.alloc (.cells #[.int .i64 P.g, .int .i64 P.k, .slice A3 P.l.length c3, .int .i64 P.ht, .int .i64 P.hv, .int .i64 P.hc, .int .i64 P.ix, .int .i64 P.tm, .bool P.mrk, .bool P.hed] 26) = W := ⟨_, rfl⟩
     rw [hW3] at HP HB HR HR3 HX ⊢
     clear hW3
     clear hn3
     have hC9 := HC9.out
     simp only [Try.f9] at hC9
     subst hC9
     clear HC9
     obtain ⟨C10, hC10⟩ : ∃ C, (match Try.f9.body with | some (.seq _ (.seq _ (.seq _ (.seq _ (.seq _ (.seq _ (.seq _ (.seq _ (.seq _ (.seq _ c)))))))))) => c | _ => .skip) = C := ⟨_, rfl⟩
     have HC10 := Aside0.mk hC10
     simp only [Try.f9] at hC10
     rw [hC10]
     clear hC10
     obtain ⟨hp0, hp1, hp2, hp3, hp4, hp5, hp6, hp7, hp8, hp9⟩ := HP.out.box
     obtain ⟨hx0, hx1, hx2, hx3, hx4, hx5, hx6, hx7, hx8, hx9⟩ := HX.out.box
     have HNE : Aside0 (n9 < W3.heap.size ∧ n3 < W3.heap.size ∧ w.heap.size ≤ W3.heap.size) := ⟨BlkP.lt' HP.out, BlkP.lt' HX.out, HB.out.b.size⟩
     go_wp2_with fail
     obtain ⟨n4, hn4⟩ : ∃ n, W3.heap.size = n := ⟨_, rfl⟩
     rw [hn4] at HNE
     try rw [hn4]
     clear hp0 hp1 hp2 hp3 hp4 hp5 hp6 hp7 hp8 hp9 hx0 hx1 hx2 hx3 hx4 hx5 hx6 hx7 hx8 hx9
     replace HP := laP HP (.cells #[.int .i64 P.g, .int .i64 P.k, .slice A P.l.length c, .int .i64 P.ht, .int .i64 P.hv, .int .i64 P.hc, .int .i64 P.ix, .int .i64 P.tm, .bool P.mrk, .bool P.hed] 26)
     replace HB := laB HB (.cells #[.int .i64 P.g, .int .i64 P.k, .slice A P.l.length c, .int .i64 P.ht, .int .i64 P.hv, .int .i64 P.hc, .int .i64 P.ix, .int .i64 P.tm, .bool P.mrk, .bool P.hed] 26)
     replace HR := laR HR (.cells #[.int .i64 P.g, .int .i64 P.k, .slice A P.l.length c, .int .i64 P.ht, .int .i64 P.hv, .int .i64 P.hc, .int .i64 P.ix, .int .i64 P.tm, .bool P.mrk, .bool P.hed] 26)
     replace HR3 := laR HR3 (.cells #[.int .i64 P.g, .int .i64 P.k, .slice A P.l.length c, .int .i64 P.ht, .int .i64 P.hv, .int .i64 P.hc, .int .i64 P.ix, .int .i64 P.tm, .bool P.mrk, .bool P.hed] 26)
     replace HX := laP HX (.cells #[.int .i64 P.g, .int .i64 P.k, .slice A P.l.length c, .int .i64 P.ht, .int .i64 P.hv, .int .i64 P.hc, .int .i64 P.ix, .int .i64 P.tm, .bool P.mrk, .bool P.hed] 26)
     have HY : Aside0 (BlkP P A c n4 (W3.alloc (.cells #[.int .i64 P.g, .int .i64 P.k, .slice A P.l.length c, .int .i64 P.ht, .int .i64 P.hv, .int .i64 P.hc, .int .i64 P.ix, .int .i64 P.tm, .bool P.mrk, .bool P.hed] 26))) := ⟨(by have hq := BlkP.new P A c W3; rw [hn4] at hq; exact hq)⟩
     obtain ⟨W4, hW4⟩ : ∃ W, W3.alloc (.cells #[.int .i64 P.g, .int .i64 P.k, .slice A P.l.length c, .int .i64 P.ht, .int .i64 P.hv, .int .i64 P.hc, .int .i64 P.ix, .int .i64 P.tm, .bool P.mrk, .bool P.hed] 26) = W := ⟨_, rfl⟩
     rw [hW4] at HP HB HR HR3 HX HY ⊢
     clear hW4
     clear hn4
     have hC10 := HC10.out
     simp only [Try.f9] at hC10
     subst hC10
     clear HC10
     obtain ⟨C11, hC11⟩ : ∃ C, (match Try.f9.body with | some (.seq _ (.seq _ (.seq _ (.seq _ (.seq _ (.seq _ (.seq _ (.seq _ (.seq _ (.seq _ (.seq _ c))))))))))) => c | _ => .skip) = C := ⟨_, rfl⟩
     have HC11 := Aside0.mk hC11
     simp only [Try.f9] at hC11
     rw [hC11]
     clear hC11
     obtain ⟨hp0, hp1, hp2, hp3, hp4, hp5, hp6, hp7, hp8, hp9⟩ := HP.out.box
     obtain ⟨hx0, hx1, hx2, hx3, hx4, hx5, hx6, hx7, hx8, hx9⟩ := HX.out.box
     obtain ⟨hy0, hy1, hy2, hy3, hy4, hy5, hy6, hy7, hy8, hy9⟩ := HY.out.box
     have yf := BlkP.free' HY.out
     go_wp2_with fail
     clear yf
     clear hp0 hp1 hp2 hp3 hp4 hp5 hp6 hp7 hp8 hp9 hx0 hx1 hx2 hx3 hx4 hx5 hx6 hx7 hx8 hx9 hy0 hy1 hy2 hy3 hy4 hy5 hy6 hy7 hy8 hy9
     have hx : Only (fun q => q = n4) W4 ((W4.setCell ⟨n4, 8, none⟩ (.bool false)).setCell ⟨n4, 9, none⟩ (.bool false)) := ((Only.refl (fun q => q = n4) W4).setCell (p := ⟨n4, 8, none⟩) rfl _).setCell (p := ⟨n4, 9, none⟩) rfl _
     have hne := HNE.out
     replace HB := Aside0.mk (Bel.only HB.out hx (fun q hq h => by have h2 : q = n4 := h; omega))
     replace HP := Aside0.mk (BlkP.only HP.out hx (fun h => by have h2 : n9 = n4 := h; omega))
     replace HX := Aside0.mk (BlkP.only HX.out hx (fun h => by have h2 : n3 = n4 := h; omega))
     replace HR := Aside0.mk (Rd.only HR.out hx (fun q hq h => by have h3 : q = n4 := h; subst h3; exact Rd.apartP HR.out HY.out hq))
     replace HR3 := Aside0.mk (Rd.only HR3.out hx (fun q hq h => by have h3 : q = n4 := h; subst h3; exact Rd.apartP HR3.out HY.out hq))
     replace HY := Aside0.mk (BlkP.set89 HY.out false false)
     clear hx hne
     obtain ⟨W5, hW⟩ : ∃ X, (W4.setCell ⟨n4, 8, none⟩ (.bool false)).setCell ⟨n4, 9, none⟩ (.bool false) = X := ⟨_, rfl⟩
     rw [hW] at HB HP HX HR HR3 HY ⊢
     clear hW
     have hC11 := HC11.out
     simp only [Try.f9] at hC11
     subst hC11
     clear HC11
     obtain ⟨hp0, hp1, hp2, hp3, hp4, hp5, hp6, hp7, hp8, hp9⟩ := HP.out.box
     obtain ⟨hx0, hx1, hx2, hx3, hx4, hx5, hx6, hx7, hx8, hx9⟩ := HX.out.box
     obtain ⟨hy0, hy1, hy2, hy3, hy4, hy5, hy6, hy7, hy8, hy9⟩ := HY.out.box
     try dsimp only at hp0 hp1 hp2 hp3 hp4 hp5 hp6 hp7 hp8 hp9 hx0 hx1 hx2 hx3 hx4 hx5 hx6 hx7 hx8 hx9 hy0 hy1 hy2 hy3 hy4 hy5 hy6 hy7 hy8 hy9
     go_wp2_with fail
     go_at_call 15
     refine (isp4 P A c _ HR.out HPB.out).mono ?_
     rintro e w33 ⟨rfl, hw33⟩
     replace HP := lbP HP hw33
     replace HB := lbB HB hw33
     replace HR := lbR HR hw33
     replace HR3 := lbR HR3 hw33
     replace HX := lbP HX hw33
     replace HY := lbP HY hw33
     clear hw33
     clear hp0 hp1 hp2 hp3 hp4 hp5 hp6 hp7 hp8 hp9 hx0 hx1 hx2 hx3 hx4 hx5 hx6 hx7 hx8 hx9 hy0 hy1 hy2 hy3 hy4 hy5 hy6 hy7 hy8 hy9
     obtain ⟨hp0, hp1, hp2, hp3, hp4, hp5, hp6, hp7, hp8, hp9⟩ := HP.out.box
     obtain ⟨hx0, hx1, hx2, hx3, hx4, hx5, hx6, hx7, hx8, hx9⟩ := HX.out.box
     obtain ⟨hy0, hy1, hy2, hy3, hy4, hy5, hy6, hy7, hy8, hy9⟩ := HY.out.box
     try dsimp only at hp0 hp1 hp2 hp3 hp4 hp5 hp6 hp7 hp8 hp9 hx0 hx1 hx2 hx3 hx4 hx5 hx6 hx7 hx8 hx9 hy0 hy1 hy2 hy3 hy4 hy5 hy6 hy7 hy8 hy9
     go_wp2_with fail
     go_at_call 19
     refine (rsamep P P A c A3 c3 _ HR.out HR3.out (sameP_iff.2 rfl)).mono ?_
     rintro e w34 ⟨rfl, hw34⟩
     replace HP := lbP HP hw34
     replace HB := lbB HB hw34
     replace HR := lbR HR hw34
     replace HR3 := lbR HR3 hw34
     replace HX := lbP HX hw34
     replace HY := lbP HY hw34
     clear hw34
     clear hp0 hp1 hp2 hp3 hp4 hp5 hp6 hp7 hp8 hp9 hx0 hx1 hx2 hx3 hx4 hx5 hx6 hx7 hx8 hx9 hy0 hy1 hy2 hy3 hy4 hy5 hy6 hy7 hy8 hy9
     obtain ⟨hp0, hp1, hp2, hp3, hp4, hp5, hp6, hp7, hp8, hp9⟩ := HP.out.box
     obtain ⟨hx0, hx1, hx2, hx3, hx4, hx5, hx6, hx7, hx8, hx9⟩ := HX.out.box
     obtain ⟨hy0, hy1, hy2, hy3, hy4, hy5, hy6, hy7, hy8, hy9⟩ := HY.out.box
     try dsimp only at hp0 hp1 hp2 hp3 hp4 hp5 hp6 hp7 hp8 hp9 hx0 hx1 hx2 hx3 hx4 hx5 hx6 hx7 hx8 hx9 hy0 hy1 hy2 hy3 hy4 hy5 hy6 hy7 hy8 hy9
     go_wp2_with fail
     go_at_call 15
     refine (isp4 ⟨P.g, P.k, P.l, P.ht, P.hv, P.hc, P.ix, P.tm, false, false⟩ A c _ HR.out HBB.out).mono ?_
     rintro e w35 ⟨rfl, hw35⟩
     replace HP := lbP HP hw35
     replace HB := lbB HB hw35
     replace HR := lbR HR hw35
     replace HR3 := lbR HR3 hw35
     replace HX := lbP HX hw35
     replace HY := lbP HY hw35
     clear hw35
     go_wp2_with fail
     go_ret
     exact ⟨rfl, HB.out.b⟩
set_option maxHeartbeats 8000000 in
set_option maxRecDepth 100000 in
theorem fl4_ft (n t : Int) (w : World) (hn : 0 ≤ n ∧ n ≤ 255) (ht : 0 ≤ t ∧ t ≤ 65535) :
  Calls Try.prog 9 #[.bool false, .bool true, .int .u8 n, .int .u16 t] w fun e w' => e = .returned (.bool true) ∧ Below w.heap.size w w' := by
 have hn4 : n.tmod 4 = ((n.toNat % 4 : Nat) : Int) := tmod4 hn.1
 obtain ⟨K, hK⟩ : ∃ K, n.toNat % 4 = K := ⟨_, rfl⟩
 rw [hK] at hn4
 have HK3 : Aside0 (K ≤ 3) := ⟨by rw [← hK]; have := Nat.mod_lt n.toNat (show 0 < 4 by omega); omega⟩
 clear hK
 have hu8 : IntKind.u8.wrap (K : Int) = (K : Int) := by have := HK3.out; simp [IntKind.wrap, IntKind.bits, IntKind.signed]; omega
 have hi8 : IntKind.i64.wrap (K : Int) = (K : Int) := by rw [i64_w]; unfold wrap64; have := HK3.out; omega
 have hwt : IntKind.i64.wrap t = t := by rw [i64_w]; unfold wrap64; omega
 have hwt1 : IntKind.i64.wrap (t + 1) = t + 1 := by rw [i64_w]; unfold wrap64; omega
 have HT := Aside0.mk (And.intro ht.1 ht.2)
 obtain ⟨P, hP⟩ : ∃ P, flP false true t (flL K) = P := ⟨_, rfl⟩
 have HP0 := Aside0.mk hP
 have hpb : isP P = true := by rw [← hP, flP_is _ _ ht HK3.out]; rfl
 have HPB := Aside0.mk hpb
 have HBB : Aside0 (isP ⟨P.g, P.k, P.l, P.ht, P.hv, P.hc, P.ix, P.tm, false, false⟩ = false) := ⟨by rw [← hP]; have := flB_is false true ht HK3.out; unfold flP; rw [this]; rfl⟩
 obtain ⟨S, hS⟩ : ∃ S, bytesP P = S := ⟨_, rfl⟩
 have HBR : Aside0 (bytesR P = (S, 0)) := ⟨by unfold bytesR; rw [if_pos hpb, hS]⟩
 have HRS : Aside0 (progR S = (P, (S.size, 0))) := ⟨by rw [← hS]; exact read_self hpb⟩
 have HSZ : Aside0 (S.size ≤ 1000) := ⟨by rw [← hS]; exact (bytesP_sz hpb).2⟩
 clear hS
 have HB := Aside0.mk (Bel.refl w)
 clear hn ht hP hpb
 go_enter Try.func9, Try.ntmps9
 obtain ⟨C3, hC3⟩ : ∃ C, (match Try.f9.body with | some (.seq _ (.seq _ (.seq _ c))) => c | _ => .skip) = C := ⟨_, rfl⟩
 have HC3 := Aside0.mk hC3
 simp only [Try.f9] at hC3
 rw [hC3]
 clear hC3
 go_wp2_with fail
 go_at_call 10
 refine (known4 _).mono ?_
 rintro e w1 ⟨rfl, hw1⟩
 replace HB := lbB HB hw1
 clear hw1
 go_wp2_with fail
 obtain ⟨n9, hn9⟩ : ∃ n, w1.heap.size = n := ⟨_, rfl⟩
 have HW9 : Aside0 (w.heap.size ≤ n9) := ⟨by rw [← hn9]; exact HB.out.b.size⟩
 try rw [hn9]
 replace HB := laB HB (.cells #[.int .i64 2, .int .i64 6, .slice none 0 0, .int .i64 0, .int .i64 0, .int .i64 0, .int .i64 0, .int .i64 0, .bool false, .bool true] 26)
 have HP : Aside0 (BlkP ⟨2, 6, [], 0, 0, 0, 0, 0, false, true⟩ none 0 n9 (w1.alloc (.cells #[.int .i64 2, .int .i64 6, .slice none 0 0, .int .i64 0, .int .i64 0, .int .i64 0, .int .i64 0, .int .i64 0, .bool false, .bool true] 26))) := ⟨(by have hq := BlkP.new ⟨2, 6, [], 0, 0, 0, 0, 0, false, true⟩ none 0 w1; rw [hn9] at hq; exact hq)⟩
 obtain ⟨W1, hW1⟩ : ∃ W, w1.alloc (.cells #[.int .i64 2, .int .i64 6, .slice none 0 0, .int .i64 0, .int .i64 0, .int .i64 0, .int .i64 0, .int .i64 0, .bool false, .bool true] 26) = W := ⟨_, rfl⟩
 rw [hW1] at HB HP ⊢
 clear hW1
 clear hn9
 have hC3 := HC3.out
 simp only [Try.f9] at hC3
 subst hC3
 clear HC3
 obtain ⟨C5, hC5⟩ : ∃ C, (match Try.f9.body with | some (.seq _ (.seq _ (.seq _ (.seq _ (.seq _ c))))) => c | _ => .skip) = C := ⟨_, rfl⟩
 have HC5 := Aside0.mk hC5
 simp only [Try.f9] at hC5
 rw [hC5]
 clear hC5
 obtain ⟨hp0, hp1, hp2, hp3, hp4, hp5, hp6, hp7, hp8, hp9⟩ := HP.out.box
 dsimp only [List.length_nil] at hp0 hp1 hp2 hp3 hp4 hp5 hp6 hp7 hp8 hp9
 have yf := BlkP.free' HP.out
 go_wp2_with fail
 clear yf
 clear hp0 hp1 hp2 hp3 hp4 hp5 hp6 hp7 hp8 hp9
 have hx : Only (fun q => q = n9) W1 (((W1.setCell ⟨n9, 3, none⟩ (.int .i64 t)).setCell ⟨n9, 4, none⟩ (.int .i64 3)).setCell ⟨n9, 5, none⟩ (.int .i64 0)) := by (iterate 3 (refine Only.setCell (U := fun q => q = n9) ?_ rfl _)); exact Only.refl _ _
 replace HB := Aside0.mk (Bel.only HB.out hx (fun q hq h => by have h2 : q = n9 := h; have := HW9.out; omega))
 have hp9 := (BlkP.set345 HP.out t 3 0)
 clear HP
 have HP : Aside0 (BlkP (flP false true t []) none 0 n9 (((W1.setCell ⟨n9, 3, none⟩ (.int .i64 t)).setCell ⟨n9, 4, none⟩ (.int .i64 3)).setCell ⟨n9, 5, none⟩ (.int .i64 0))) := ⟨hp9⟩
 obtain ⟨W2, hW⟩ : ∃ X, ((W1.setCell ⟨n9, 3, none⟩ (.int .i64 t)).setCell ⟨n9, 4, none⟩ (.int .i64 3)).setCell ⟨n9, 5, none⟩ (.int .i64 0) = X := ⟨_, rfl⟩
 rw [hW] at HB HP ⊢
 clear hW hx hp9
 have hC5 := HC5.out
 simp only [Try.f9] at hC5
 subst hC5
 clear HC5
 obtain ⟨C6, hC6⟩ : ∃ C, (match Try.f9.body with | some (.seq _ (.seq _ (.seq _ (.seq _ (.seq _ (.seq _ c)))))) => c | _ => .skip) = C := ⟨_, rfl⟩
 have HC6 := Aside0.mk hC6
 simp only [Try.f9] at hC6
 rw [hC6]
 clear hC6
 obtain ⟨b0, hb0⟩ : ∃ n, W2.heap.size = n := ⟨_, rfl⟩
 have HB0 : Aside0 (b0 ≤ W2.heap.size ∧ n9 < b0 ∧ w.heap.size ≤ b0) := ⟨by rw [← hb0]; exact ⟨Nat.le_refl _, BlkP.lt' HP.out, HB.out.b.size⟩⟩
 clear hb0
 have HI1 : Aside0 (∃ A c, BlkP (flP false true t (flL 0)) A c n9 W2 ∧ OwnE W2 b0 (.slice A (flL 0).length c) (flL 0) ∧ Bel w W2 ∧ b0 ≤ W2.heap.size) := ⟨⟨none, 0, HP.out, OwnE.nil _ _, HB.out, HB0.out.1⟩⟩
 clear HP HB
 go_wp2_with fail
 go_loopw [10] (fun v wr => ∃ k : Nat, k ≤ K ∧ v = .int .i64 (k : Int) ∧ Aside0 (∃ A c, BlkP (flP false true t (flL k)) A c n9 wr ∧ OwnE wr b0 (.slice A (flL k).length c) (flL k) ∧ Bel w wr ∧ b0 ≤ wr.heap.size)) (fun v _ => K - (intOf v).toNat)
 case atStart => exact ⟨0, Nat.zero_le _, rfl, HI1⟩
 case round =>
   clear HI1
   obtain ⟨k, hk, rfl, HI⟩ := hrel
   obtain ⟨A, c, hp, hw, hb, hz9⟩ := HI.out
   have HP := Aside0.mk hp
   have HW := Aside0.mk hw
   have HB := Aside0.mk hb
   clear HI hp hw hb
   by_cases hlt : k < K
   · have d1 : decide ((k : Int) < (K : Int)) = true := decide_eq_true (by omega)
     have d2 : decide (k < K) = true := decide_eq_true (by omega)
     have hk4 : IntKind.i64.wrap ((k : Int) + 1) = (k : Int) + 1 := by rw [i64_w]; unfold wrap64; have := HK3.out; omega
     have h3k : IntKind.i64.wrap (3 * (k : Int)) = 3 * (k : Int) := by rw [i64_w]; unfold wrap64; have := HK3.out; omega
     have h10 : IntKind.i64.wrap (10 + 3 * (k : Int)) = 10 + 3 * (k : Int) := by rw [i64_w]; unfold wrap64; have := HK3.out; omega
     have HWZ : Aside0 (b0 ≤ wr.heap.size) := ⟨hz9⟩
     have HKK : Aside0 (k < K) := ⟨hlt⟩
     obtain ⟨y0, y1, y2, y3, y4, y5, y6, y7, y8, y9⟩ := HP.out.box
     have yf := BlkP.free' HP.out
     unfold flP at y2
     dsimp only at y2
     clear y0 y1 y3 y4 y5 y6 y7 y8 y9
     obtain ⟨VS, hVS⟩ : ∃ v, Value.slice A (flL k).length c = v := ⟨_, rfl⟩
     rw [hVS] at y2 HW
     clear hVS
     obtain ⟨m9, hm9⟩ : ∃ n, wr.heap.size = n := ⟨_, rfl⟩
     have HM9 := Aside0.mk hm9
     have HM9 := Aside0.mk hm9
     go_wp2_with (at_builtin; refine wpList_append_ent (v := VS) (l := flL k) (m := [⟨10 + 3 * (k : Int), 2, ⟨#[]⟩⟩]) (b := b0) rfl (.tmp 41) (.tmp 46) rfl rfl (HW.out.alloc _) rfl (by have hq := Rd.one wr ⟨10 + 3 * (k : Int), 2, ⟨#[]⟩⟩; rw [HM9.out] at hq; exact hq) (by rw [flL_len]; show k + 1 ≤ _; have := HK3.out; have := HKK.out; omega) (Nat.le_trans HWZ.out (by rw [World.size_alloc]; omega)) ?_; intro v6 w6 ho6 hgr ha6; rw [flL_succ] at ho6; have hon : Only (fun q => VS.ownBlock = some q) (wr.alloc (.cells #[.int .i64 (10 + 3 * (k : Int)), .int .i64 2, .string ⟨#[]⟩] 28)) w6 := (Only.refl _ _).of_grown hgr (fun q hq _ => hq); have HOB : Aside0 (∀ q, VS.ownBlock = some q → b0 ≤ q) := ⟨fun q hq => (own_block HW.out hq).1⟩; have h00 := HB0.out; replace HB := Aside0.mk (Bel.only (HB.out.alloc (.cells #[.int .i64 (10 + 3 * (k : Int)), .int .i64 2, .string ⟨#[]⟩] 28)) hon (fun q hq h => by have := HOB.out _ h; omega)); replace HP := Aside0.mk (BlkP.only (HP.out.alloc (.cells #[.int .i64 (10 + 3 * (k : Int)), .int .i64 2, .string ⟨#[]⟩] 28)) hon (fun h => by have := HOB.out _ h; omega)); obtain ⟨A6, c6, hv6, hrd6, _⟩ := ho6.rd' (by rw [flL_len]; have := HK3.out; have := HKK.out; omega); subst hv6; have HO6 := Aside0.mk ho6; have HS6 : Aside0 (b0 ≤ w6.heap.size) := ⟨Nat.le_trans HWZ.out (Nat.le_trans (by rw [World.size_alloc]; omega) hon.size)⟩; clear ho6 hgr ha6 hon hrd6 h00 hm9; obtain ⟨z0, z1, z2, z3, z4, z5, z6, z7, z8, z9⟩ := HP.out.box; have zf := BlkP.free' HP.out)
     clear z0 z1 z2 z3 z4 z5 z6 z7 z8 z9 zf
     have hx := (Only.refl (fun q => q = n9) w6).setCell (p := ⟨n9, 2, none⟩) rfl (.slice A6 (flL (k + 1)).length c6)
     have hp6 := BlkP.setL' HP.out (flL (k + 1)) A6 c6
     have hb6 := Bel.only HB.out hx (fun q hq h => by have h2 : q = n9 := h; have := HW9.out; omega)
     have hw6 := OwnE.only' HO6.out hx (fun q hq h => by have h2 : q = n9 := h; have h3 := (own_block HO6.out hq).1; have := HB0.out; omega)
     go_roundw
     case rel => exact ⟨k + 1, by omega, by go_num, ⟨A6, c6, hp6, hw6, hb6, Nat.le_trans HS6.out hx.size⟩⟩
     case measure => simp [intOf]; omega
   · have d1 : decide ((k : Int) < (K : Int)) = false := decide_eq_false (by omega)
     have d2 : decide (k < K) = false := decide_eq_false (by omega)
     obtain rfl : k = K := by omega
     obtain ⟨A6, c6, hv6, hrd6, _⟩ := HW.out.rd' (by rw [flL_len]; have := HK3.out; omega)
     injection hv6 with e1 e2 e3
     subst e1
     subst e3
     rw [HP0.out] at HP
     have HR : Aside0 (Rd wr A c P.l) := ⟨by rw [← HP0.out]; exact hrd6⟩
     clear hrd6 e2 HW
     go_wp2_with fail
     have hC6 := HC6.out
     simp only [Try.f9] at hC6
     subst hC6
     clear HC6
     obtain ⟨hp0, hp1, hp2, hp3, hp4, hp5, hp6, hp7, hp8, hp9⟩ := HP.out.box
     obtain ⟨C8, hC8⟩ : ∃ C, (match Try.f9.body with | some (.seq _ (.seq _ (.seq _ (.seq _ (.seq _ (.seq _ (.seq _ (.seq _ c)))))))) => c | _ => .skip) = C := ⟨_, rfl⟩
     have HC8 := Aside0.mk hC8
     simp only [Try.f9] at hC8
     rw [hC8]
     clear hC8
     go_wp2_with fail
     go_at_call 12
     refine (part_Bytes P A c _ HR.out HBR.out).mono ?_
     rintro e w31 ⟨rfl, hw31⟩
     replace HP := lbP HP hw31
     replace HB := lbB HB hw31
     replace HR := lbR HR hw31
     clear hw31
     clear hp0 hp1 hp2 hp3 hp4 hp5 hp6 hp7 hp8 hp9
     obtain ⟨hp0, hp1, hp2, hp3, hp4, hp5, hp6, hp7, hp8, hp9⟩ := HP.out.box
     go_wp2_with fail
     have hC8 := HC8.out
     simp only [Try.f9] at hC8
     subst hC8
     clear HC8
     obtain ⟨C9, hC9⟩ : ∃ C, (match Try.f9.body with | some (.seq _ (.seq _ (.seq _ (.seq _ (.seq _ (.seq _ (.seq _ (.seq _ (.seq _ c))))))))) => c | _ => .skip) = C := ⟨_, rfl⟩
     have HC9 := Aside0.mk hC9
     simp only [Try.f9] at hC9
     rw [hC9]
     clear hC9
     go_wp2_with fail
     go_at_call 20
     refine (readc S _ (by have := HSZ.out; omega) HRS.out).mono ?_
     rintro e w32 ⟨A3, c3, rfl, hrd, hw32⟩
     replace HP := lbP HP hw32
     replace HB := lbB HB hw32
     replace HR := lbR HR hw32
     have HR3 := Aside0.mk hrd
     clear hrd
     clear hw32
     clear hp0 hp1 hp2 hp3 hp4 hp5 hp6 hp7 hp8 hp9
     obtain ⟨hp0, hp1, hp2, hp3, hp4, hp5, hp6, hp7, hp8, hp9⟩ := HP.out.box
     unfold vP
     go_wp2_with fail
     obtain ⟨n3, hn3⟩ : ∃ n, w32.heap.size = n := ⟨_, rfl⟩
     try rw [hn3]
     clear hp0 hp1 hp2 hp3 hp4 hp5 hp6 hp7 hp8 hp9
     replace HP := laP HP (.cells #[.int .i64 P.g, .int .i64 P.k, .slice A3 P.l.length c3, .int .i64 P.ht, .int .i64 P.hv, .int .i64 P.hc, .int .i64 P.ix, .int .i64 P.tm, .bool P.mrk, .bool P.hed] 26)
     replace HB := laB HB (.cells #[.int .i64 P.g, .int .i64 P.k, .slice A3 P.l.length c3, .int .i64 P.ht, .int .i64 P.hv, .int .i64 P.hc, .int .i64 P.ix, .int .i64 P.tm, .bool P.mrk, .bool P.hed] 26)
     replace HR := laR HR (.cells #[.int .i64 P.g, .int .i64 P.k, .slice A3 P.l.length c3, .int .i64 P.ht, .int .i64 P.hv, .int .i64 P.hc, .int .i64 P.ix, .int .i64 P.tm, .bool P.mrk, .bool P.hed] 26)
     replace HR3 := laR HR3 (.cells #[.int .i64 P.g, .int .i64 P.k, .slice A3 P.l.length c3, .int .i64 P.ht, .int .i64 P.hv, .int .i64 P.hc, .int .i64 P.ix, .int .i64 P.tm, .bool P.mrk, .bool P.hed] 26)
     have HX : Aside0 (BlkP P A3 c3 n3 (w32.alloc (.cells #[.int .i64 P.g, .int .i64 P.k, .slice A3 P.l.length c3, .int .i64 P.ht, .int .i64 P.hv, .int .i64 P.hc, .int .i64 P.ix, .int .i64 P.tm, .bool P.mrk, .bool P.hed] 26))) := ⟨(by have hq := BlkP.new P A3 c3 w32; rw [hn3] at hq; exact hq)⟩
     obtain ⟨W3, hW3⟩ : ∃ W, w32.alloc (.cells #[.int .i64 P.g, .int .i64 P.k, .slice A3 P.l.length c3, .int .i64 P.ht, .int .i64 P.hv, .int .i64 P.hc, .int .i64 P.ix, .int .i64 P.tm, .bool P.mrk, .bool P.hed] 26) = W := ⟨_, rfl⟩
     rw [hW3] at HP HB HR HR3 HX ⊢
     clear hW3
     clear hn3
     have hC9 := HC9.out
     simp only [Try.f9] at hC9
     subst hC9
     clear HC9
     obtain ⟨C10, hC10⟩ : ∃ C, (match Try.f9.body with | some (.seq _ (.seq _ (.seq _ (.seq _ (.seq _ (.seq _ (.seq _ (.seq _ (.seq _ (.seq _ c)))))))))) => c | _ => .skip) = C := ⟨_, rfl⟩
     have HC10 := Aside0.mk hC10
     simp only [Try.f9] at hC10
     rw [hC10]
     clear hC10
     obtain ⟨hp0, hp1, hp2, hp3, hp4, hp5, hp6, hp7, hp8, hp9⟩ := HP.out.box
     obtain ⟨hx0, hx1, hx2, hx3, hx4, hx5, hx6, hx7, hx8, hx9⟩ := HX.out.box
     have HNE : Aside0 (n9 < W3.heap.size ∧ n3 < W3.heap.size ∧ w.heap.size ≤ W3.heap.size) := ⟨BlkP.lt' HP.out, BlkP.lt' HX.out, HB.out.b.size⟩
     go_wp2_with fail
     obtain ⟨n4, hn4⟩ : ∃ n, W3.heap.size = n := ⟨_, rfl⟩
     rw [hn4] at HNE
     try rw [hn4]
     clear hp0 hp1 hp2 hp3 hp4 hp5 hp6 hp7 hp8 hp9 hx0 hx1 hx2 hx3 hx4 hx5 hx6 hx7 hx8 hx9
     replace HP := laP HP (.cells #[.int .i64 P.g, .int .i64 P.k, .slice A P.l.length c, .int .i64 P.ht, .int .i64 P.hv, .int .i64 P.hc, .int .i64 P.ix, .int .i64 P.tm, .bool P.mrk, .bool P.hed] 26)
     replace HB := laB HB (.cells #[.int .i64 P.g, .int .i64 P.k, .slice A P.l.length c, .int .i64 P.ht, .int .i64 P.hv, .int .i64 P.hc, .int .i64 P.ix, .int .i64 P.tm, .bool P.mrk, .bool P.hed] 26)
     replace HR := laR HR (.cells #[.int .i64 P.g, .int .i64 P.k, .slice A P.l.length c, .int .i64 P.ht, .int .i64 P.hv, .int .i64 P.hc, .int .i64 P.ix, .int .i64 P.tm, .bool P.mrk, .bool P.hed] 26)
     replace HR3 := laR HR3 (.cells #[.int .i64 P.g, .int .i64 P.k, .slice A P.l.length c, .int .i64 P.ht, .int .i64 P.hv, .int .i64 P.hc, .int .i64 P.ix, .int .i64 P.tm, .bool P.mrk, .bool P.hed] 26)
     replace HX := laP HX (.cells #[.int .i64 P.g, .int .i64 P.k, .slice A P.l.length c, .int .i64 P.ht, .int .i64 P.hv, .int .i64 P.hc, .int .i64 P.ix, .int .i64 P.tm, .bool P.mrk, .bool P.hed] 26)
     have HY : Aside0 (BlkP P A c n4 (W3.alloc (.cells #[.int .i64 P.g, .int .i64 P.k, .slice A P.l.length c, .int .i64 P.ht, .int .i64 P.hv, .int .i64 P.hc, .int .i64 P.ix, .int .i64 P.tm, .bool P.mrk, .bool P.hed] 26))) := ⟨(by have hq := BlkP.new P A c W3; rw [hn4] at hq; exact hq)⟩
     obtain ⟨W4, hW4⟩ : ∃ W, W3.alloc (.cells #[.int .i64 P.g, .int .i64 P.k, .slice A P.l.length c, .int .i64 P.ht, .int .i64 P.hv, .int .i64 P.hc, .int .i64 P.ix, .int .i64 P.tm, .bool P.mrk, .bool P.hed] 26) = W := ⟨_, rfl⟩
     rw [hW4] at HP HB HR HR3 HX HY ⊢
     clear hW4
     clear hn4
     have hC10 := HC10.out
     simp only [Try.f9] at hC10
     subst hC10
     clear HC10
     obtain ⟨C11, hC11⟩ : ∃ C, (match Try.f9.body with | some (.seq _ (.seq _ (.seq _ (.seq _ (.seq _ (.seq _ (.seq _ (.seq _ (.seq _ (.seq _ (.seq _ c))))))))))) => c | _ => .skip) = C := ⟨_, rfl⟩
     have HC11 := Aside0.mk hC11
     simp only [Try.f9] at hC11
     rw [hC11]
     clear hC11
     obtain ⟨hp0, hp1, hp2, hp3, hp4, hp5, hp6, hp7, hp8, hp9⟩ := HP.out.box
     obtain ⟨hx0, hx1, hx2, hx3, hx4, hx5, hx6, hx7, hx8, hx9⟩ := HX.out.box
     obtain ⟨hy0, hy1, hy2, hy3, hy4, hy5, hy6, hy7, hy8, hy9⟩ := HY.out.box
     have yf := BlkP.free' HY.out
     go_wp2_with fail
     clear yf
     clear hp0 hp1 hp2 hp3 hp4 hp5 hp6 hp7 hp8 hp9 hx0 hx1 hx2 hx3 hx4 hx5 hx6 hx7 hx8 hx9 hy0 hy1 hy2 hy3 hy4 hy5 hy6 hy7 hy8 hy9
     have hx : Only (fun q => q = n4) W4 ((W4.setCell ⟨n4, 8, none⟩ (.bool false)).setCell ⟨n4, 9, none⟩ (.bool false)) := ((Only.refl (fun q => q = n4) W4).setCell (p := ⟨n4, 8, none⟩) rfl _).setCell (p := ⟨n4, 9, none⟩) rfl _
     have hne := HNE.out
     replace HB := Aside0.mk (Bel.only HB.out hx (fun q hq h => by have h2 : q = n4 := h; omega))
     replace HP := Aside0.mk (BlkP.only HP.out hx (fun h => by have h2 : n9 = n4 := h; omega))
     replace HX := Aside0.mk (BlkP.only HX.out hx (fun h => by have h2 : n3 = n4 := h; omega))
     replace HR := Aside0.mk (Rd.only HR.out hx (fun q hq h => by have h3 : q = n4 := h; subst h3; exact Rd.apartP HR.out HY.out hq))
     replace HR3 := Aside0.mk (Rd.only HR3.out hx (fun q hq h => by have h3 : q = n4 := h; subst h3; exact Rd.apartP HR3.out HY.out hq))
     replace HY := Aside0.mk (BlkP.set89 HY.out false false)
     clear hx hne
     obtain ⟨W5, hW⟩ : ∃ X, (W4.setCell ⟨n4, 8, none⟩ (.bool false)).setCell ⟨n4, 9, none⟩ (.bool false) = X := ⟨_, rfl⟩
     rw [hW] at HB HP HX HR HR3 HY ⊢
     clear hW
     have hC11 := HC11.out
     simp only [Try.f9] at hC11
     subst hC11
     clear HC11
     obtain ⟨hp0, hp1, hp2, hp3, hp4, hp5, hp6, hp7, hp8, hp9⟩ := HP.out.box
     obtain ⟨hx0, hx1, hx2, hx3, hx4, hx5, hx6, hx7, hx8, hx9⟩ := HX.out.box
     obtain ⟨hy0, hy1, hy2, hy3, hy4, hy5, hy6, hy7, hy8, hy9⟩ := HY.out.box
     try dsimp only at hp0 hp1 hp2 hp3 hp4 hp5 hp6 hp7 hp8 hp9 hx0 hx1 hx2 hx3 hx4 hx5 hx6 hx7 hx8 hx9 hy0 hy1 hy2 hy3 hy4 hy5 hy6 hy7 hy8 hy9
     go_wp2_with fail
     go_at_call 15
     refine (isp4 P A c _ HR.out HPB.out).mono ?_
     rintro e w33 ⟨rfl, hw33⟩
     replace HP := lbP HP hw33
     replace HB := lbB HB hw33
     replace HR := lbR HR hw33
     replace HR3 := lbR HR3 hw33
     replace HX := lbP HX hw33
     replace HY := lbP HY hw33
     clear hw33
     clear hp0 hp1 hp2 hp3 hp4 hp5 hp6 hp7 hp8 hp9 hx0 hx1 hx2 hx3 hx4 hx5 hx6 hx7 hx8 hx9 hy0 hy1 hy2 hy3 hy4 hy5 hy6 hy7 hy8 hy9
     obtain ⟨hp0, hp1, hp2, hp3, hp4, hp5, hp6, hp7, hp8, hp9⟩ := HP.out.box
     obtain ⟨hx0, hx1, hx2, hx3, hx4, hx5, hx6, hx7, hx8, hx9⟩ := HX.out.box
     obtain ⟨hy0, hy1, hy2, hy3, hy4, hy5, hy6, hy7, hy8, hy9⟩ := HY.out.box
     try dsimp only at hp0 hp1 hp2 hp3 hp4 hp5 hp6 hp7 hp8 hp9 hx0 hx1 hx2 hx3 hx4 hx5 hx6 hx7 hx8 hx9 hy0 hy1 hy2 hy3 hy4 hy5 hy6 hy7 hy8 hy9
     go_wp2_with fail
     go_at_call 19
     refine (rsamep P P A c A3 c3 _ HR.out HR3.out (sameP_iff.2 rfl)).mono ?_
     rintro e w34 ⟨rfl, hw34⟩
     replace HP := lbP HP hw34
     replace HB := lbB HB hw34
     replace HR := lbR HR hw34
     replace HR3 := lbR HR3 hw34
     replace HX := lbP HX hw34
     replace HY := lbP HY hw34
     clear hw34
     clear hp0 hp1 hp2 hp3 hp4 hp5 hp6 hp7 hp8 hp9 hx0 hx1 hx2 hx3 hx4 hx5 hx6 hx7 hx8 hx9 hy0 hy1 hy2 hy3 hy4 hy5 hy6 hy7 hy8 hy9
     obtain ⟨hp0, hp1, hp2, hp3, hp4, hp5, hp6, hp7, hp8, hp9⟩ := HP.out.box
     obtain ⟨hx0, hx1, hx2, hx3, hx4, hx5, hx6, hx7, hx8, hx9⟩ := HX.out.box
     obtain ⟨hy0, hy1, hy2, hy3, hy4, hy5, hy6, hy7, hy8, hy9⟩ := HY.out.box
     try dsimp only at hp0 hp1 hp2 hp3 hp4 hp5 hp6 hp7 hp8 hp9 hx0 hx1 hx2 hx3 hx4 hx5 hx6 hx7 hx8 hx9 hy0 hy1 hy2 hy3 hy4 hy5 hy6 hy7 hy8 hy9
     go_wp2_with fail
     go_at_call 15
     refine (isp4 ⟨P.g, P.k, P.l, P.ht, P.hv, P.hc, P.ix, P.tm, false, false⟩ A c _ HR.out HBB.out).mono ?_
     rintro e w35 ⟨rfl, hw35⟩
     replace HP := lbP HP hw35
     replace HB := lbB HB hw35
     replace HR := lbR HR hw35
     replace HR3 := lbR HR3 hw35
     replace HX := lbP HX hw35
     replace HY := lbP HY hw35
     clear hw35
     go_wp2_with fail
     go_ret
     exact ⟨rfl, HB.out.b⟩
set_option maxHeartbeats 8000000 in
set_option maxRecDepth 100000 in
theorem fl4_ffz (n t : Int) (w : World) (hn : 0 ≤ n ∧ n ≤ 255) (ht : 0 ≤ t ∧ t ≤ 65535) (hk0 : n.toNat % 4 = 0) :
  Calls Try.prog 9 #[.bool false, .bool false, .int .u8 n, .int .u16 t] w fun e w' => e = .returned (.bool true) ∧ Below w.heap.size w w' := by
 have hn4 : n.tmod 4 = ((n.toNat % 4 : Nat) : Int) := tmod4 hn.1
 obtain ⟨K, hK⟩ : ∃ K, n.toNat % 4 = K := ⟨_, rfl⟩
 rw [hK] at hn4 hk0
 have HK3 : Aside0 (K ≤ 3) := ⟨by rw [← hK]; have := Nat.mod_lt n.toNat (show 0 < 4 by omega); omega⟩
 clear hK
 have hu8 : IntKind.u8.wrap (K : Int) = (K : Int) := by have := HK3.out; simp [IntKind.wrap, IntKind.bits, IntKind.signed]; omega
 have hi8 : IntKind.i64.wrap (K : Int) = (K : Int) := by rw [i64_w]; unfold wrap64; have := HK3.out; omega
 have hwt : IntKind.i64.wrap t = t := by rw [i64_w]; unfold wrap64; omega
 have hwt1 : IntKind.i64.wrap (t + 1) = t + 1 := by rw [i64_w]; unfold wrap64; omega
 have HT := Aside0.mk (And.intro ht.1 ht.2)
 have hkz : ((K : Int) == 0) = true := beq_iff_eq.2 (by omega)
 have hkn : (K == 0) = true := beq_iff_eq.2 (by omega)
 have HK0 := Aside0.mk hk0
 clear hk0
 obtain ⟨P, hP⟩ : ∃ P, flP false false t (flL K) = P := ⟨_, rfl⟩
 have HP0 := Aside0.mk hP
 have hpb : isP P = false := by rw [← hP, flP_is _ _ ht HK3.out]; rw [decide_eq_false (by have := HK0.out; omega)]; rfl
 have HPB := Aside0.mk hpb
 have HB := Aside0.mk (Bel.refl w)
 clear hn ht hP hpb
 go_enter Try.func9, Try.ntmps9
 obtain ⟨C3, hC3⟩ : ∃ C, (match Try.f9.body with | some (.seq _ (.seq _ (.seq _ c))) => c | _ => .skip) = C := ⟨_, rfl⟩
 have HC3 := Aside0.mk hC3
 simp only [Try.f9] at hC3
 rw [hC3]
 clear hC3
 go_wp2_with fail
 go_at_call 10
 refine (known4 _).mono ?_
 rintro e w1 ⟨rfl, hw1⟩
 replace HB := lbB HB hw1
 clear hw1
 go_wp2_with fail
 obtain ⟨n9, hn9⟩ : ∃ n, w1.heap.size = n := ⟨_, rfl⟩
 have HW9 : Aside0 (w.heap.size ≤ n9) := ⟨by rw [← hn9]; exact HB.out.b.size⟩
 try rw [hn9]
 replace HB := laB HB (.cells #[.int .i64 2, .int .i64 6, .slice none 0 0, .int .i64 0, .int .i64 0, .int .i64 0, .int .i64 0, .int .i64 0, .bool false, .bool false] 26)
 have HP : Aside0 (BlkP ⟨2, 6, [], 0, 0, 0, 0, 0, false, false⟩ none 0 n9 (w1.alloc (.cells #[.int .i64 2, .int .i64 6, .slice none 0 0, .int .i64 0, .int .i64 0, .int .i64 0, .int .i64 0, .int .i64 0, .bool false, .bool false] 26))) := ⟨(by have hq := BlkP.new ⟨2, 6, [], 0, 0, 0, 0, 0, false, false⟩ none 0 w1; rw [hn9] at hq; exact hq)⟩
 obtain ⟨W1, hW1⟩ : ∃ W, w1.alloc (.cells #[.int .i64 2, .int .i64 6, .slice none 0 0, .int .i64 0, .int .i64 0, .int .i64 0, .int .i64 0, .int .i64 0, .bool false, .bool false] 26) = W := ⟨_, rfl⟩
 rw [hW1] at HB HP ⊢
 clear hW1
 clear hn9
 have hC3 := HC3.out
 simp only [Try.f9] at hC3
 subst hC3
 clear HC3
 obtain ⟨C5, hC5⟩ : ∃ C, (match Try.f9.body with | some (.seq _ (.seq _ (.seq _ (.seq _ (.seq _ c))))) => c | _ => .skip) = C := ⟨_, rfl⟩
 have HC5 := Aside0.mk hC5
 simp only [Try.f9] at hC5
 rw [hC5]
 clear hC5
 obtain ⟨hp0, hp1, hp2, hp3, hp4, hp5, hp6, hp7, hp8, hp9⟩ := HP.out.box
 dsimp only [List.length_nil] at hp0 hp1 hp2 hp3 hp4 hp5 hp6 hp7 hp8 hp9
 have yf := BlkP.free' HP.out
 go_wp2_with fail
 clear yf
 clear hp0 hp1 hp2 hp3 hp4 hp5 hp6 hp7 hp8 hp9
 have hp9 : BlkP (flP false false t []) none 0 n9 W1 := HP.out
 clear HP
 have HP := Aside0.mk hp9
 clear hp9
 have hC5 := HC5.out
 simp only [Try.f9] at hC5
 subst hC5
 clear HC5
 obtain ⟨C6, hC6⟩ : ∃ C, (match Try.f9.body with | some (.seq _ (.seq _ (.seq _ (.seq _ (.seq _ (.seq _ c)))))) => c | _ => .skip) = C := ⟨_, rfl⟩
 have HC6 := Aside0.mk hC6
 simp only [Try.f9] at hC6
 rw [hC6]
 clear hC6
 obtain ⟨b0, hb0⟩ : ∃ n, W1.heap.size = n := ⟨_, rfl⟩
 have HB0 : Aside0 (b0 ≤ W1.heap.size ∧ n9 < b0 ∧ w.heap.size ≤ b0) := ⟨by rw [← hb0]; exact ⟨Nat.le_refl _, BlkP.lt' HP.out, HB.out.b.size⟩⟩
 clear hb0
 have HI1 : Aside0 (∃ A c, BlkP (flP false false t (flL 0)) A c n9 W1 ∧ OwnE W1 b0 (.slice A (flL 0).length c) (flL 0) ∧ Bel w W1 ∧ b0 ≤ W1.heap.size) := ⟨⟨none, 0, HP.out, OwnE.nil _ _, HB.out, HB0.out.1⟩⟩
 clear HP HB
 go_wp2_with fail
 go_loopw [10] (fun v wr => ∃ k : Nat, k ≤ K ∧ v = .int .i64 (k : Int) ∧ Aside0 (∃ A c, BlkP (flP false false t (flL k)) A c n9 wr ∧ OwnE wr b0 (.slice A (flL k).length c) (flL k) ∧ Bel w wr ∧ b0 ≤ wr.heap.size)) (fun v _ => K - (intOf v).toNat)
 case atStart => exact ⟨0, Nat.zero_le _, rfl, HI1⟩
 case round =>
   clear HI1
   obtain ⟨k, hk, rfl, HI⟩ := hrel
   obtain ⟨A, c, hp, hw, hb, hz9⟩ := HI.out
   have HP := Aside0.mk hp
   have HW := Aside0.mk hw
   have HB := Aside0.mk hb
   clear HI hp hw hb
   by_cases hlt : k < K
   · have d1 : decide ((k : Int) < (K : Int)) = true := decide_eq_true (by omega)
     have d2 : decide (k < K) = true := decide_eq_true (by omega)
     have hk4 : IntKind.i64.wrap ((k : Int) + 1) = (k : Int) + 1 := by rw [i64_w]; unfold wrap64; have := HK3.out; omega
     have h3k : IntKind.i64.wrap (3 * (k : Int)) = 3 * (k : Int) := by rw [i64_w]; unfold wrap64; have := HK3.out; omega
     have h10 : IntKind.i64.wrap (10 + 3 * (k : Int)) = 10 + 3 * (k : Int) := by rw [i64_w]; unfold wrap64; have := HK3.out; omega
     have HWZ : Aside0 (b0 ≤ wr.heap.size) := ⟨hz9⟩
     have HKK : Aside0 (k < K) := ⟨hlt⟩
     obtain ⟨y0, y1, y2, y3, y4, y5, y6, y7, y8, y9⟩ := HP.out.box
     have yf := BlkP.free' HP.out
     unfold flP at y2
     dsimp only at y2
     clear y0 y1 y3 y4 y5 y6 y7 y8 y9
     obtain ⟨VS, hVS⟩ : ∃ v, Value.slice A (flL k).length c = v := ⟨_, rfl⟩
     rw [hVS] at y2 HW
     clear hVS
     obtain ⟨m9, hm9⟩ : ∃ n, wr.heap.size = n := ⟨_, rfl⟩
     have HM9 := Aside0.mk hm9
     have HM9 := Aside0.mk hm9
     go_wp2_with (at_builtin; refine wpList_append_ent (v := VS) (l := flL k) (m := [⟨10 + 3 * (k : Int), 2, ⟨#[]⟩⟩]) (b := b0) rfl (.tmp 41) (.tmp 46) rfl rfl (HW.out.alloc _) rfl (by have hq := Rd.one wr ⟨10 + 3 * (k : Int), 2, ⟨#[]⟩⟩; rw [HM9.out] at hq; exact hq) (by rw [flL_len]; show k + 1 ≤ _; have := HK3.out; have := HKK.out; omega) (Nat.le_trans HWZ.out (by rw [World.size_alloc]; omega)) ?_; intro v6 w6 ho6 hgr ha6; rw [flL_succ] at ho6; have hon : Only (fun q => VS.ownBlock = some q) (wr.alloc (.cells #[.int .i64 (10 + 3 * (k : Int)), .int .i64 2, .string ⟨#[]⟩] 28)) w6 := (Only.refl _ _).of_grown hgr (fun q hq _ => hq); have HOB : Aside0 (∀ q, VS.ownBlock = some q → b0 ≤ q) := ⟨fun q hq => (own_block HW.out hq).1⟩; have h00 := HB0.out; replace HB := Aside0.mk (Bel.only (HB.out.alloc (.cells #[.int .i64 (10 + 3 * (k : Int)), .int .i64 2, .string ⟨#[]⟩] 28)) hon (fun q hq h => by have := HOB.out _ h; omega)); replace HP := Aside0.mk (BlkP.only (HP.out.alloc (.cells #[.int .i64 (10 + 3 * (k : Int)), .int .i64 2, .string ⟨#[]⟩] 28)) hon (fun h => by have := HOB.out _ h; omega)); obtain ⟨A6, c6, hv6, hrd6, _⟩ := ho6.rd' (by rw [flL_len]; have := HK3.out; have := HKK.out; omega); subst hv6; have HO6 := Aside0.mk ho6; have HS6 : Aside0 (b0 ≤ w6.heap.size) := ⟨Nat.le_trans HWZ.out (Nat.le_trans (by rw [World.size_alloc]; omega) hon.size)⟩; clear ho6 hgr ha6 hon hrd6 h00 hm9; obtain ⟨z0, z1, z2, z3, z4, z5, z6, z7, z8, z9⟩ := HP.out.box; have zf := BlkP.free' HP.out)
     clear z0 z1 z2 z3 z4 z5 z6 z7 z8 z9 zf
     have hx := (Only.refl (fun q => q = n9) w6).setCell (p := ⟨n9, 2, none⟩) rfl (.slice A6 (flL (k + 1)).length c6)
     have hp6 := BlkP.setL' HP.out (flL (k + 1)) A6 c6
     have hb6 := Bel.only HB.out hx (fun q hq h => by have h2 : q = n9 := h; have := HW9.out; omega)
     have hw6 := OwnE.only' HO6.out hx (fun q hq h => by have h2 : q = n9 := h; have h3 := (own_block HO6.out hq).1; have := HB0.out; omega)
     go_roundw
     case rel => exact ⟨k + 1, by omega, by go_num, ⟨A6, c6, hp6, hw6, hb6, Nat.le_trans HS6.out hx.size⟩⟩
     case measure => simp [intOf]; omega
   · have d1 : decide ((k : Int) < (K : Int)) = false := decide_eq_false (by omega)
     have d2 : decide (k < K) = false := decide_eq_false (by omega)
     obtain rfl : k = K := by omega
     obtain ⟨A6, c6, hv6, hrd6, _⟩ := HW.out.rd' (by rw [flL_len]; have := HK3.out; omega)
     injection hv6 with e1 e2 e3
     subst e1
     subst e3
     rw [HP0.out] at HP
     have HR : Aside0 (Rd wr A c P.l) := ⟨by rw [← HP0.out]; exact hrd6⟩
     clear hrd6 e2 HW
     go_wp2_with fail
     have hC6 := HC6.out
     simp only [Try.f9] at hC6
     subst hC6
     clear HC6
     obtain ⟨hp0, hp1, hp2, hp3, hp4, hp5, hp6, hp7, hp8, hp9⟩ := HP.out.box
     go_wp2_with fail
     go_at_call 15
     refine (isp4 P A c _ HR.out HPB.out).mono ?_
     rintro e w31 ⟨rfl, hw31⟩
     replace HP := lbP HP hw31
     replace HB := lbB HB hw31
     replace HR := lbR HR hw31
     clear hw31
     clear hp0 hp1 hp2 hp3 hp4 hp5 hp6 hp7 hp8 hp9
     obtain ⟨hp0, hp1, hp2, hp3, hp4, hp5, hp6, hp7, hp8, hp9⟩ := HP.out.box
     go_wp2_with fail
     go_ret
     exact ⟨rfl, HB.out.b⟩
set_option maxHeartbeats 8000000 in
set_option maxRecDepth 100000 in
theorem fl4_ffn (n t : Int) (w : World) (hn : 0 ≤ n ∧ n ≤ 255) (ht : 0 ≤ t ∧ t ≤ 65535) (hk0 : n.toNat % 4 ≠ 0) :
  Calls Try.prog 9 #[.bool false, .bool false, .int .u8 n, .int .u16 t] w fun e w' => e = .returned (.bool true) ∧ Below w.heap.size w w' := by
 have hn4 : n.tmod 4 = ((n.toNat % 4 : Nat) : Int) := tmod4 hn.1
 obtain ⟨K, hK⟩ : ∃ K, n.toNat % 4 = K := ⟨_, rfl⟩
 rw [hK] at hn4 hk0
 have HK3 : Aside0 (K ≤ 3) := ⟨by rw [← hK]; have := Nat.mod_lt n.toNat (show 0 < 4 by omega); omega⟩
 clear hK
 have hu8 : IntKind.u8.wrap (K : Int) = (K : Int) := by have := HK3.out; simp [IntKind.wrap, IntKind.bits, IntKind.signed]; omega
 have hi8 : IntKind.i64.wrap (K : Int) = (K : Int) := by rw [i64_w]; unfold wrap64; have := HK3.out; omega
 have hwt : IntKind.i64.wrap t = t := by rw [i64_w]; unfold wrap64; omega
 have hwt1 : IntKind.i64.wrap (t + 1) = t + 1 := by rw [i64_w]; unfold wrap64; omega
 have HT := Aside0.mk (And.intro ht.1 ht.2)
 have hkz : ((K : Int) == 0) = false := beq_eq_false_iff_ne.2 (by omega)
 have hkn : (K == 0) = false := beq_eq_false_iff_ne.2 (by omega)
 have HK0 := Aside0.mk hk0
 clear hk0
 obtain ⟨P, hP⟩ : ∃ P, flP false false t (flL K) = P := ⟨_, rfl⟩
 have HP0 := Aside0.mk hP
 have hpb : isP P = true := by rw [← hP, flP_is _ _ ht HK3.out]; rw [decide_eq_true (by have := HK0.out; omega)]; rfl
 have HPB := Aside0.mk hpb
 have HBB : Aside0 (isP ⟨P.g, P.k, P.l, P.ht, P.hv, P.hc, P.ix, P.tm, false, false⟩ = true) := ⟨by rw [← hP]; have := flB_is false false ht HK3.out; unfold flP; rw [this]; rw [decide_eq_true (by have := HK0.out; omega)]; rfl⟩
 obtain ⟨S, hS⟩ : ∃ S, bytesP P = S := ⟨_, rfl⟩
 have HBR : Aside0 (bytesR P = (S, 0)) := ⟨by unfold bytesR; rw [if_pos hpb, hS]⟩
 have HRS : Aside0 (progR S = (P, (S.size, 0))) := ⟨by rw [← hS]; exact read_self hpb⟩
 have HSZ : Aside0 (S.size ≤ 1000) := ⟨by rw [← hS]; exact (bytesP_sz hpb).2⟩
 clear hS
 have HB := Aside0.mk (Bel.refl w)
 clear hn ht hP hpb
 go_enter Try.func9, Try.ntmps9
 obtain ⟨C3, hC3⟩ : ∃ C, (match Try.f9.body with | some (.seq _ (.seq _ (.seq _ c))) => c | _ => .skip) = C := ⟨_, rfl⟩
 have HC3 := Aside0.mk hC3
 simp only [Try.f9] at hC3
 rw [hC3]
 clear hC3
 go_wp2_with fail
 go_at_call 10
 refine (known4 _).mono ?_
 rintro e w1 ⟨rfl, hw1⟩
 replace HB := lbB HB hw1
 clear hw1
 go_wp2_with fail
 obtain ⟨n9, hn9⟩ : ∃ n, w1.heap.size = n := ⟨_, rfl⟩
 have HW9 : Aside0 (w.heap.size ≤ n9) := ⟨by rw [← hn9]; exact HB.out.b.size⟩
 try rw [hn9]
 replace HB := laB HB (.cells #[.int .i64 2, .int .i64 6, .slice none 0 0, .int .i64 0, .int .i64 0, .int .i64 0, .int .i64 0, .int .i64 0, .bool false, .bool false] 26)
 have HP : Aside0 (BlkP ⟨2, 6, [], 0, 0, 0, 0, 0, false, false⟩ none 0 n9 (w1.alloc (.cells #[.int .i64 2, .int .i64 6, .slice none 0 0, .int .i64 0, .int .i64 0, .int .i64 0, .int .i64 0, .int .i64 0, .bool false, .bool false] 26))) := ⟨(by have hq := BlkP.new ⟨2, 6, [], 0, 0, 0, 0, 0, false, false⟩ none 0 w1; rw [hn9] at hq; exact hq)⟩
 obtain ⟨W1, hW1⟩ : ∃ W, w1.alloc (.cells #[.int .i64 2, .int .i64 6, .slice none 0 0, .int .i64 0, .int .i64 0, .int .i64 0, .int .i64 0, .int .i64 0, .bool false, .bool false] 26) = W := ⟨_, rfl⟩
 rw [hW1] at HB HP ⊢
 clear hW1
 clear hn9
 have hC3 := HC3.out
 simp only [Try.f9] at hC3
 subst hC3
 clear HC3
 obtain ⟨C5, hC5⟩ : ∃ C, (match Try.f9.body with | some (.seq _ (.seq _ (.seq _ (.seq _ (.seq _ c))))) => c | _ => .skip) = C := ⟨_, rfl⟩
 have HC5 := Aside0.mk hC5
 simp only [Try.f9] at hC5
 rw [hC5]
 clear hC5
 obtain ⟨hp0, hp1, hp2, hp3, hp4, hp5, hp6, hp7, hp8, hp9⟩ := HP.out.box
 dsimp only [List.length_nil] at hp0 hp1 hp2 hp3 hp4 hp5 hp6 hp7 hp8 hp9
 have yf := BlkP.free' HP.out
 go_wp2_with fail
 clear yf
 clear hp0 hp1 hp2 hp3 hp4 hp5 hp6 hp7 hp8 hp9
 have hp9 : BlkP (flP false false t []) none 0 n9 W1 := HP.out
 clear HP
 have HP := Aside0.mk hp9
 clear hp9
 have hC5 := HC5.out
 simp only [Try.f9] at hC5
 subst hC5
 clear HC5
 obtain ⟨C6, hC6⟩ : ∃ C, (match Try.f9.body with | some (.seq _ (.seq _ (.seq _ (.seq _ (.seq _ (.seq _ c)))))) => c | _ => .skip) = C := ⟨_, rfl⟩
 have HC6 := Aside0.mk hC6
 simp only [Try.f9] at hC6
 rw [hC6]
 clear hC6
 obtain ⟨b0, hb0⟩ : ∃ n, W1.heap.size = n := ⟨_, rfl⟩
 have HB0 : Aside0 (b0 ≤ W1.heap.size ∧ n9 < b0 ∧ w.heap.size ≤ b0) := ⟨by rw [← hb0]; exact ⟨Nat.le_refl _, BlkP.lt' HP.out, HB.out.b.size⟩⟩
 clear hb0
 have HI1 : Aside0 (∃ A c, BlkP (flP false false t (flL 0)) A c n9 W1 ∧ OwnE W1 b0 (.slice A (flL 0).length c) (flL 0) ∧ Bel w W1 ∧ b0 ≤ W1.heap.size) := ⟨⟨none, 0, HP.out, OwnE.nil _ _, HB.out, HB0.out.1⟩⟩
 clear HP HB
 go_wp2_with fail
 go_loopw [10] (fun v wr => ∃ k : Nat, k ≤ K ∧ v = .int .i64 (k : Int) ∧ Aside0 (∃ A c, BlkP (flP false false t (flL k)) A c n9 wr ∧ OwnE wr b0 (.slice A (flL k).length c) (flL k) ∧ Bel w wr ∧ b0 ≤ wr.heap.size)) (fun v _ => K - (intOf v).toNat)
 case atStart => exact ⟨0, Nat.zero_le _, rfl, HI1⟩
 case round =>
   clear HI1
   obtain ⟨k, hk, rfl, HI⟩ := hrel
   obtain ⟨A, c, hp, hw, hb, hz9⟩ := HI.out
   have HP := Aside0.mk hp
   have HW := Aside0.mk hw
   have HB := Aside0.mk hb
   clear HI hp hw hb
   by_cases hlt : k < K
   · have d1 : decide ((k : Int) < (K : Int)) = true := decide_eq_true (by omega)
     have d2 : decide (k < K) = true := decide_eq_true (by omega)
     have hk4 : IntKind.i64.wrap ((k : Int) + 1) = (k : Int) + 1 := by rw [i64_w]; unfold wrap64; have := HK3.out; omega
     have h3k : IntKind.i64.wrap (3 * (k : Int)) = 3 * (k : Int) := by rw [i64_w]; unfold wrap64; have := HK3.out; omega
     have h10 : IntKind.i64.wrap (10 + 3 * (k : Int)) = 10 + 3 * (k : Int) := by rw [i64_w]; unfold wrap64; have := HK3.out; omega
     have HWZ : Aside0 (b0 ≤ wr.heap.size) := ⟨hz9⟩
     have HKK : Aside0 (k < K) := ⟨hlt⟩
     obtain ⟨y0, y1, y2, y3, y4, y5, y6, y7, y8, y9⟩ := HP.out.box
     have yf := BlkP.free' HP.out
     unfold flP at y2
     dsimp only at y2
     clear y0 y1 y3 y4 y5 y6 y7 y8 y9
     obtain ⟨VS, hVS⟩ : ∃ v, Value.slice A (flL k).length c = v := ⟨_, rfl⟩
     rw [hVS] at y2 HW
     clear hVS
     obtain ⟨m9, hm9⟩ : ∃ n, wr.heap.size = n := ⟨_, rfl⟩
     have HM9 := Aside0.mk hm9
     have HM9 := Aside0.mk hm9
     go_wp2_with (at_builtin; refine wpList_append_ent (v := VS) (l := flL k) (m := [⟨10 + 3 * (k : Int), 2, ⟨#[]⟩⟩]) (b := b0) rfl (.tmp 41) (.tmp 46) rfl rfl (HW.out.alloc _) rfl (by have hq := Rd.one wr ⟨10 + 3 * (k : Int), 2, ⟨#[]⟩⟩; rw [HM9.out] at hq; exact hq) (by rw [flL_len]; show k + 1 ≤ _; have := HK3.out; have := HKK.out; omega) (Nat.le_trans HWZ.out (by rw [World.size_alloc]; omega)) ?_; intro v6 w6 ho6 hgr ha6; rw [flL_succ] at ho6; have hon : Only (fun q => VS.ownBlock = some q) (wr.alloc (.cells #[.int .i64 (10 + 3 * (k : Int)), .int .i64 2, .string ⟨#[]⟩] 28)) w6 := (Only.refl _ _).of_grown hgr (fun q hq _ => hq); have HOB : Aside0 (∀ q, VS.ownBlock = some q → b0 ≤ q) := ⟨fun q hq => (own_block HW.out hq).1⟩; have h00 := HB0.out; replace HB := Aside0.mk (Bel.only (HB.out.alloc (.cells #[.int .i64 (10 + 3 * (k : Int)), .int .i64 2, .string ⟨#[]⟩] 28)) hon (fun q hq h => by have := HOB.out _ h; omega)); replace HP := Aside0.mk (BlkP.only (HP.out.alloc (.cells #[.int .i64 (10 + 3 * (k : Int)), .int .i64 2, .string ⟨#[]⟩] 28)) hon (fun h => by have := HOB.out _ h; omega)); obtain ⟨A6, c6, hv6, hrd6, _⟩ := ho6.rd' (by rw [flL_len]; have := HK3.out; have := HKK.out; omega); subst hv6; have HO6 := Aside0.mk ho6; have HS6 : Aside0 (b0 ≤ w6.heap.size) := ⟨Nat.le_trans HWZ.out (Nat.le_trans (by rw [World.size_alloc]; omega) hon.size)⟩; clear ho6 hgr ha6 hon hrd6 h00 hm9; obtain ⟨z0, z1, z2, z3, z4, z5, z6, z7, z8, z9⟩ := HP.out.box; have zf := BlkP.free' HP.out)
     clear z0 z1 z2 z3 z4 z5 z6 z7 z8 z9 zf
     have hx := (Only.refl (fun q => q = n9) w6).setCell (p := ⟨n9, 2, none⟩) rfl (.slice A6 (flL (k + 1)).length c6)
     have hp6 := BlkP.setL' HP.out (flL (k + 1)) A6 c6
     have hb6 := Bel.only HB.out hx (fun q hq h => by have h2 : q = n9 := h; have := HW9.out; omega)
     have hw6 := OwnE.only' HO6.out hx (fun q hq h => by have h2 : q = n9 := h; have h3 := (own_block HO6.out hq).1; have := HB0.out; omega)
     go_roundw
     case rel => exact ⟨k + 1, by omega, by go_num, ⟨A6, c6, hp6, hw6, hb6, Nat.le_trans HS6.out hx.size⟩⟩
     case measure => simp [intOf]; omega
   · have d1 : decide ((k : Int) < (K : Int)) = false := decide_eq_false (by omega)
     have d2 : decide (k < K) = false := decide_eq_false (by omega)
     obtain rfl : k = K := by omega
     obtain ⟨A6, c6, hv6, hrd6, _⟩ := HW.out.rd' (by rw [flL_len]; have := HK3.out; omega)
     injection hv6 with e1 e2 e3
     subst e1
     subst e3
     rw [HP0.out] at HP
     have HR : Aside0 (Rd wr A c P.l) := ⟨by rw [← HP0.out]; exact hrd6⟩
     clear hrd6 e2 HW
     go_wp2_with fail
     have hC6 := HC6.out
     simp only [Try.f9] at hC6
     subst hC6
     clear HC6
     obtain ⟨hp0, hp1, hp2, hp3, hp4, hp5, hp6, hp7, hp8, hp9⟩ := HP.out.box
     obtain ⟨C8, hC8⟩ : ∃ C, (match Try.f9.body with | some (.seq _ (.seq _ (.seq _ (.seq _ (.seq _ (.seq _ (.seq _ (.seq _ c)))))))) => c | _ => .skip) = C := ⟨_, rfl⟩
     have HC8 := Aside0.mk hC8
     simp only [Try.f9] at hC8
     rw [hC8]
     clear hC8
     go_wp2_with fail
     go_at_call 12
     refine (part_Bytes P A c _ HR.out HBR.out).mono ?_
     rintro e w31 ⟨rfl, hw31⟩
     replace HP := lbP HP hw31
     replace HB := lbB HB hw31
     replace HR := lbR HR hw31
     clear hw31
     clear hp0 hp1 hp2 hp3 hp4 hp5 hp6 hp7 hp8 hp9
     obtain ⟨hp0, hp1, hp2, hp3, hp4, hp5, hp6, hp7, hp8, hp9⟩ := HP.out.box
     go_wp2_with fail
     have hC8 := HC8.out
     simp only [Try.f9] at hC8
     subst hC8
     clear HC8
     obtain ⟨C9, hC9⟩ : ∃ C, (match Try.f9.body with | some (.seq _ (.seq _ (.seq _ (.seq _ (.seq _ (.seq _ (.seq _ (.seq _ (.seq _ c))))))))) => c | _ => .skip) = C := ⟨_, rfl⟩
     have HC9 := Aside0.mk hC9
     simp only [Try.f9] at hC9
     rw [hC9]
     clear hC9
     go_wp2_with fail
     go_at_call 20
     refine (readc S _ (by have := HSZ.out; omega) HRS.out).mono ?_
     rintro e w32 ⟨A3, c3, rfl, hrd, hw32⟩
     replace HP := lbP HP hw32
     replace HB := lbB HB hw32
     replace HR := lbR HR hw32
     have HR3 := Aside0.mk hrd
     clear hrd
     clear hw32
     clear hp0 hp1 hp2 hp3 hp4 hp5 hp6 hp7 hp8 hp9
     obtain ⟨hp0, hp1, hp2, hp3, hp4, hp5, hp6, hp7, hp8, hp9⟩ := HP.out.box
     unfold vP
     go_wp2_with fail
     obtain ⟨n3, hn3⟩ : ∃ n, w32.heap.size = n := ⟨_, rfl⟩
     try rw [hn3]
     clear hp0 hp1 hp2 hp3 hp4 hp5 hp6 hp7 hp8 hp9
     replace HP := laP HP (.cells #[.int .i64 P.g, .int .i64 P.k, .slice A3 P.l.length c3, .int .i64 P.ht, .int .i64 P.hv, .int .i64 P.hc, .int .i64 P.ix, .int .i64 P.tm, .bool P.mrk, .bool P.hed] 26)
     replace HB := laB HB (.cells #[.int .i64 P.g, .int .i64 P.k, .slice A3 P.l.length c3, .int .i64 P.ht, .int .i64 P.hv, .int .i64 P.hc, .int .i64 P.ix, .int .i64 P.tm, .bool P.mrk, .bool P.hed] 26)
     replace HR := laR HR (.cells #[.int .i64 P.g, .int .i64 P.k, .slice A3 P.l.length c3, .int .i64 P.ht, .int .i64 P.hv, .int .i64 P.hc, .int .i64 P.ix, .int .i64 P.tm, .bool P.mrk, .bool P.hed] 26)
     replace HR3 := laR HR3 (.cells #[.int .i64 P.g, .int .i64 P.k, .slice A3 P.l.length c3, .int .i64 P.ht, .int .i64 P.hv, .int .i64 P.hc, .int .i64 P.ix, .int .i64 P.tm, .bool P.mrk, .bool P.hed] 26)
     have HX : Aside0 (BlkP P A3 c3 n3 (w32.alloc (.cells #[.int .i64 P.g, .int .i64 P.k, .slice A3 P.l.length c3, .int .i64 P.ht, .int .i64 P.hv, .int .i64 P.hc, .int .i64 P.ix, .int .i64 P.tm, .bool P.mrk, .bool P.hed] 26))) := ⟨(by have hq := BlkP.new P A3 c3 w32; rw [hn3] at hq; exact hq)⟩
     obtain ⟨W3, hW3⟩ : ∃ W, w32.alloc (.cells #[.int .i64 P.g, .int .i64 P.k, .slice A3 P.l.length c3, .int .i64 P.ht, .int .i64 P.hv, .int .i64 P.hc, .int .i64 P.ix, .int .i64 P.tm, .bool P.mrk, .bool P.hed] 26) = W := ⟨_, rfl⟩
     rw [hW3] at HP HB HR HR3 HX ⊢
     clear hW3
     clear hn3
     have hC9 := HC9.out
     simp only [Try.f9] at hC9
     subst hC9
     clear HC9
     obtain ⟨C10, hC10⟩ : ∃ C, (match Try.f9.body with | some (.seq _ (.seq _ (.seq _ (.seq _ (.seq _ (.seq _ (.seq _ (.seq _ (.seq _ (.seq _ c)))))))))) => c | _ => .skip) = C := ⟨_, rfl⟩
     have HC10 := Aside0.mk hC10
     simp only [Try.f9] at hC10
     rw [hC10]
     clear hC10
     obtain ⟨hp0, hp1, hp2, hp3, hp4, hp5, hp6, hp7, hp8, hp9⟩ := HP.out.box
     obtain ⟨hx0, hx1, hx2, hx3, hx4, hx5, hx6, hx7, hx8, hx9⟩ := HX.out.box
     have HNE : Aside0 (n9 < W3.heap.size ∧ n3 < W3.heap.size ∧ w.heap.size ≤ W3.heap.size) := ⟨BlkP.lt' HP.out, BlkP.lt' HX.out, HB.out.b.size⟩
     go_wp2_with fail
     obtain ⟨n4, hn4⟩ : ∃ n, W3.heap.size = n := ⟨_, rfl⟩
     rw [hn4] at HNE
     try rw [hn4]
     clear hp0 hp1 hp2 hp3 hp4 hp5 hp6 hp7 hp8 hp9 hx0 hx1 hx2 hx3 hx4 hx5 hx6 hx7 hx8 hx9
     replace HP := laP HP (.cells #[.int .i64 P.g, .int .i64 P.k, .slice A P.l.length c, .int .i64 P.ht, .int .i64 P.hv, .int .i64 P.hc, .int .i64 P.ix, .int .i64 P.tm, .bool P.mrk, .bool P.hed] 26)
     replace HB := laB HB (.cells #[.int .i64 P.g, .int .i64 P.k, .slice A P.l.length c, .int .i64 P.ht, .int .i64 P.hv, .int .i64 P.hc, .int .i64 P.ix, .int .i64 P.tm, .bool P.mrk, .bool P.hed] 26)
     replace HR := laR HR (.cells #[.int .i64 P.g, .int .i64 P.k, .slice A P.l.length c, .int .i64 P.ht, .int .i64 P.hv, .int .i64 P.hc, .int .i64 P.ix, .int .i64 P.tm, .bool P.mrk, .bool P.hed] 26)
     replace HR3 := laR HR3 (.cells #[.int .i64 P.g, .int .i64 P.k, .slice A P.l.length c, .int .i64 P.ht, .int .i64 P.hv, .int .i64 P.hc, .int .i64 P.ix, .int .i64 P.tm, .bool P.mrk, .bool P.hed] 26)
     replace HX := laP HX (.cells #[.int .i64 P.g, .int .i64 P.k, .slice A P.l.length c, .int .i64 P.ht, .int .i64 P.hv, .int .i64 P.hc, .int .i64 P.ix, .int .i64 P.tm, .bool P.mrk, .bool P.hed] 26)
     have HY : Aside0 (BlkP P A c n4 (W3.alloc (.cells #[.int .i64 P.g, .int .i64 P.k, .slice A P.l.length c, .int .i64 P.ht, .int .i64 P.hv, .int .i64 P.hc, .int .i64 P.ix, .int .i64 P.tm, .bool P.mrk, .bool P.hed] 26))) := ⟨(by have hq := BlkP.new P A c W3; rw [hn4] at hq; exact hq)⟩
     obtain ⟨W4, hW4⟩ : ∃ W, W3.alloc (.cells #[.int .i64 P.g, .int .i64 P.k, .slice A P.l.length c, .int .i64 P.ht, .int .i64 P.hv, .int .i64 P.hc, .int .i64 P.ix, .int .i64 P.tm, .bool P.mrk, .bool P.hed] 26) = W := ⟨_, rfl⟩
     rw [hW4] at HP HB HR HR3 HX HY ⊢
     clear hW4
     clear hn4
     have hC10 := HC10.out
     simp only [Try.f9] at hC10
     subst hC10
     clear HC10
     obtain ⟨C11, hC11⟩ : ∃ C, (match Try.f9.body with | some (.seq _ (.seq _ (.seq _ (.seq _ (.seq _ (.seq _ (.seq _ (.seq _ (.seq _ (.seq _ (.seq _ c))))))))))) => c | _ => .skip) = C := ⟨_, rfl⟩
     have HC11 := Aside0.mk hC11
     simp only [Try.f9] at hC11
     rw [hC11]
     clear hC11
     obtain ⟨hp0, hp1, hp2, hp3, hp4, hp5, hp6, hp7, hp8, hp9⟩ := HP.out.box
     obtain ⟨hx0, hx1, hx2, hx3, hx4, hx5, hx6, hx7, hx8, hx9⟩ := HX.out.box
     obtain ⟨hy0, hy1, hy2, hy3, hy4, hy5, hy6, hy7, hy8, hy9⟩ := HY.out.box
     have yf := BlkP.free' HY.out
     go_wp2_with fail
     clear yf
     clear hp0 hp1 hp2 hp3 hp4 hp5 hp6 hp7 hp8 hp9 hx0 hx1 hx2 hx3 hx4 hx5 hx6 hx7 hx8 hx9 hy0 hy1 hy2 hy3 hy4 hy5 hy6 hy7 hy8 hy9
     have hx : Only (fun q => q = n4) W4 ((W4.setCell ⟨n4, 8, none⟩ (.bool false)).setCell ⟨n4, 9, none⟩ (.bool false)) := ((Only.refl (fun q => q = n4) W4).setCell (p := ⟨n4, 8, none⟩) rfl _).setCell (p := ⟨n4, 9, none⟩) rfl _
     have hne := HNE.out
     replace HB := Aside0.mk (Bel.only HB.out hx (fun q hq h => by have h2 : q = n4 := h; omega))
     replace HP := Aside0.mk (BlkP.only HP.out hx (fun h => by have h2 : n9 = n4 := h; omega))
     replace HX := Aside0.mk (BlkP.only HX.out hx (fun h => by have h2 : n3 = n4 := h; omega))
     replace HR := Aside0.mk (Rd.only HR.out hx (fun q hq h => by have h3 : q = n4 := h; subst h3; exact Rd.apartP HR.out HY.out hq))
     replace HR3 := Aside0.mk (Rd.only HR3.out hx (fun q hq h => by have h3 : q = n4 := h; subst h3; exact Rd.apartP HR3.out HY.out hq))
     replace HY := Aside0.mk (BlkP.set89 HY.out false false)
     clear hx hne
     obtain ⟨W5, hW⟩ : ∃ X, (W4.setCell ⟨n4, 8, none⟩ (.bool false)).setCell ⟨n4, 9, none⟩ (.bool false) = X := ⟨_, rfl⟩
     rw [hW] at HB HP HX HR HR3 HY ⊢
     clear hW
     have hC11 := HC11.out
     simp only [Try.f9] at hC11
     subst hC11
     clear HC11
     obtain ⟨hp0, hp1, hp2, hp3, hp4, hp5, hp6, hp7, hp8, hp9⟩ := HP.out.box
     obtain ⟨hx0, hx1, hx2, hx3, hx4, hx5, hx6, hx7, hx8, hx9⟩ := HX.out.box
     obtain ⟨hy0, hy1, hy2, hy3, hy4, hy5, hy6, hy7, hy8, hy9⟩ := HY.out.box
     try dsimp only at hp0 hp1 hp2 hp3 hp4 hp5 hp6 hp7 hp8 hp9 hx0 hx1 hx2 hx3 hx4 hx5 hx6 hx7 hx8 hx9 hy0 hy1 hy2 hy3 hy4 hy5 hy6 hy7 hy8 hy9
     go_wp2_with fail
     go_at_call 15
     refine (isp4 P A c _ HR.out HPB.out).mono ?_
     rintro e w33 ⟨rfl, hw33⟩
     replace HP := lbP HP hw33
     replace HB := lbB HB hw33
     replace HR := lbR HR hw33
     replace HR3 := lbR HR3 hw33
     replace HX := lbP HX hw33
     replace HY := lbP HY hw33
     clear hw33
     clear hp0 hp1 hp2 hp3 hp4 hp5 hp6 hp7 hp8 hp9 hx0 hx1 hx2 hx3 hx4 hx5 hx6 hx7 hx8 hx9 hy0 hy1 hy2 hy3 hy4 hy5 hy6 hy7 hy8 hy9
     obtain ⟨hp0, hp1, hp2, hp3, hp4, hp5, hp6, hp7, hp8, hp9⟩ := HP.out.box
     obtain ⟨hx0, hx1, hx2, hx3, hx4, hx5, hx6, hx7, hx8, hx9⟩ := HX.out.box
     obtain ⟨hy0, hy1, hy2, hy3, hy4, hy5, hy6, hy7, hy8, hy9⟩ := HY.out.box
     try dsimp only at hp0 hp1 hp2 hp3 hp4 hp5 hp6 hp7 hp8 hp9 hx0 hx1 hx2 hx3 hx4 hx5 hx6 hx7 hx8 hx9 hy0 hy1 hy2 hy3 hy4 hy5 hy6 hy7 hy8 hy9
     go_wp2_with fail
     go_at_call 19
     refine (rsamep P P A c A3 c3 _ HR.out HR3.out (sameP_iff.2 rfl)).mono ?_
     rintro e w34 ⟨rfl, hw34⟩
     replace HP := lbP HP hw34
     replace HB := lbB HB hw34
     replace HR := lbR HR hw34
     replace HR3 := lbR HR3 hw34
     replace HX := lbP HX hw34
     replace HY := lbP HY hw34
     clear hw34
     clear hp0 hp1 hp2 hp3 hp4 hp5 hp6 hp7 hp8 hp9 hx0 hx1 hx2 hx3 hx4 hx5 hx6 hx7 hx8 hx9 hy0 hy1 hy2 hy3 hy4 hy5 hy6 hy7 hy8 hy9
     obtain ⟨hp0, hp1, hp2, hp3, hp4, hp5, hp6, hp7, hp8, hp9⟩ := HP.out.box
     obtain ⟨hx0, hx1, hx2, hx3, hx4, hx5, hx6, hx7, hx8, hx9⟩ := HX.out.box
     obtain ⟨hy0, hy1, hy2, hy3, hy4, hy5, hy6, hy7, hy8, hy9⟩ := HY.out.box
     try dsimp only at hp0 hp1 hp2 hp3 hp4 hp5 hp6 hp7 hp8 hp9 hx0 hx1 hx2 hx3 hx4 hx5 hx6 hx7 hx8 hx9 hy0 hy1 hy2 hy3 hy4 hy5 hy6 hy7 hy8 hy9
     go_wp2_with fail
     go_at_call 15
     refine (isp4 ⟨P.g, P.k, P.l, P.ht, P.hv, P.hc, P.ix, P.tm, false, false⟩ A c _ HR.out HBB.out).mono ?_
     rintro e w35 ⟨rfl, hw35⟩
     replace HP := lbP HP hw35
     replace HB := lbB HB hw35
     replace HR := lbR HR hw35
     replace HR3 := lbR HR3 hw35
     replace HX := lbP HX hw35
     replace HY := lbP HY hw35
     clear hw35
     go_wp2_with fail
     go_ret
     exact ⟨rfl, HB.out.b⟩
theorem fl4_walk (m h : Bool) (n t : Int) (w : World) (hn : 0 ≤ n ∧ n ≤ 255) (ht : 0 ≤ t ∧ t ≤ 65535) : Calls Try.prog 9 #[.bool m, .bool h, .int .u8 n, .int .u16 t] w fun e w' => e = .returned (.bool true) ∧ Below w.heap.size w w' := by
  cases m <;> cases h
  · by_cases hk : n.toNat % 4 = 0
    · exact fl4_ffz n t w hn ht hk
    · exact fl4_ffn n t w hn ht hk
  · exact fl4_ft n t w hn ht
  · exact fl4_tf n t w hn ht
  · exact fl4_tt n t w hn ht
end Go.Proofs.Ytokjhocjemjfiaa.PartW
namespace Go.Proofs.Ytokjhocjemjfiaa.Pure
open Go Go.RowKit Go.Proofs.Ytokjhocjemjfiaa.Sp Go.Proofs.Ytokjhocjemjfiaa.PartW
theorem PartFlags.walk (m h : Bool) (n t : Int) (w : World) (hn : (Lit.int .u8 n).wf = true) (ht : (Lit.int .u16 t).wf = true) :
    Calls Try.prog 9 #[.bool m, .bool h, .int .u8 n, .int .u16 t] w fun e w' => e = .returned (.bool true) ∧ Below w.heap.size w w' := fl4_walk m h n t w (CodeM.wf_u8 hn) (by have := CodeM.wf_u16 ht; omega)
end Go.Proofs.Ytokjhocjemjfiaa.Pure
