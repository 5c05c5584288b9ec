/- The statement PartSizes: the walk; no condition beyond the row's. -/
import Derived.Test.YtokjhocjemjfiaaLw4
set_option linter.unusedVariables false
set_option linter.unusedSimpArgs false
namespace Go.Proofs.Ytokjhocjemjfiaa.PartW
open Go Go.RowKit Go.Shelf Go.Proofs.Ytokjhocjemjfiaa.A Go.Proofs.Ytokjhocjemjfiaa.Sp Go.Proofs.Ytokjhocjemjfiaa.Reg Go.Proofs.Ytokjhocjemjfiaa.Seq Go.Proofs.Ytokjhocjemjfiaa.CodeW Go.Proofs.Ytokjhocjemjfiaa.CodeQ Go.Proofs.Ytokjhocjemjfiaa.Given Go.Proofs.YtokjhocjemjfiaaW.PrintWords Go.Proofs.YtokjhocjemjfiaaW.PrintLast Go.Proofs.YtokjhocjemjfiaaW.PrintMore
theorem BlkP.cel0 {p : Prt} {A : Option Addr} {c B : Nat} {W : World} (h : BlkP p A c B W) (x : Int) : BlkP ⟨x, p.k, p.l, p.ht, p.hv, p.hc, p.ix, p.tm, p.mrk, p.hed⟩ A c B (W.setCell ⟨B, 0, none⟩ (.int .i64 x)) := by
  unfold BlkP at h ⊢
  simp [World.setCell, Array.getElem?_modify, h]
theorem BlkP.cel1 {p : Prt} {A : Option Addr} {c B : Nat} {W : World} (h : BlkP p A c B W) (x : Int) : BlkP ⟨p.g, x, p.l, p.ht, p.hv, p.hc, p.ix, p.tm, p.mrk, p.hed⟩ A c B (W.setCell ⟨B, 1, none⟩ (.int .i64 x)) := by
  unfold BlkP at h ⊢
  simp [World.setCell, Array.getElem?_modify, h]
theorem BlkP.cel4 {p : Prt} {A : Option Addr} {c B : Nat} {W : World} (h : BlkP p A c B W) (x : Int) : BlkP ⟨p.g, p.k, p.l, p.ht, x, p.hc, p.ix, p.tm, p.mrk, p.hed⟩ A c B (W.setCell ⟨B, 4, none⟩ (.int .i64 x)) := by
  unfold BlkP at h ⊢
  simp [World.setCell, Array.getElem?_modify, h]
theorem BlkP.cel6 {p : Prt} {A : Option Addr} {c B : Nat} {W : World} (h : BlkP p A c B W) (x : Int) : BlkP ⟨p.g, p.k, p.l, p.ht, p.hv, p.hc, x, p.tm, p.mrk, p.hed⟩ A c B (W.setCell ⟨B, 6, none⟩ (.int .i64 x)) := by
  unfold BlkP at h ⊢
  simp [World.setCell, Array.getElem?_modify, h]
theorem BlkP.cel7 {p : Prt} {A : Option Addr} {c B : Nat} {W : World} (h : BlkP p A c B W) (x : Int) : BlkP ⟨p.g, p.k, p.l, p.ht, p.hv, p.hc, p.ix, x, p.mrk, p.hed⟩ A c B (W.setCell ⟨B, 7, none⟩ (.int .i64 x)) := by
  unfold BlkP at h ⊢
  simp [World.setCell, Array.getElem?_modify, h]
def szL (ix : Int) (D : ByteArray) (k : Nat) : List Ent := (List.range k).map (fun (i : Nat) => ⟨ix + 1 + (i : Int), 7, D⟩)
theorem szL_len (ix : Int) (D : ByteArray) (k : Nat) : (szL ix D k).length = k := by unfold szL; simp
theorem szL_succ (ix : Int) (D : ByteArray) (k : Nat) : szL ix D k ++ [⟨ix + 1 + (k : Int), 7, D⟩] = szL ix D (k + 1) := by unfold szL; rw [List.range_succ, List.map_append]; rfl
theorem szL_el (ix : Int) (D : ByteArray) {k i : Nat} (h : i < k) : el (szL ix D k) i = ⟨ix + 1 + (i : Int), 7, D⟩ := by
  rw [el_get (by rw [szL_len]; exact h)]
  unfold szL
  rw [List.getElem_map, List.getElem_range]
theorem szL_ris (dense : Bool) {ix : Int} (hx : 0 ≤ ix ∧ ix < 4294967296) (D : ByteArray) {k : Nat} (h0 : 0 < k) (h7 : k ≤ 7) : risB dense (szL ix D k) = (decide (D.size ≤ 40) && decide (k ≤ 6)) := by
  have hE : ∀ i : Nat, i < k → isE ⟨ix + 1 + (i : Int), 7, D⟩ = decide (D.size ≤ 40) := fun i hi => by
    unfold isE
    exact decide_eq_decide.2 ⟨fun h => h.2.2.2.2, fun h => ⟨by dsimp only; omega, by dsimp only; omega, by dsimp only; omega, by dsimp only; omega, h⟩⟩
  have hO : ∀ i : Nat, i < k → okR dense (szL ix D k) i = decide (D.size ≤ 40) := fun i hi => by
    unfold okR
    rw [szL_el ix D hi, hE i hi]
    by_cases hz : i = 0
    · rw [decide_eq_true hz, Bool.true_or, Bool.and_true]
    · rw [szL_el ix D (show i - 1 < k by omega), decide_eq_false hz, Bool.false_or]
      dsimp only
      rw [decide_eq_true (show ix + 1 + ((i - 1 : Nat) : Int) < ix + 1 + (i : Int) by omega), decide_eq_true (show ix + 1 + (i : Int) = ix + 1 + ((i - 1 : Nat) : Int) + 1 by omega)]
      simp
  unfold risB
  rw [szL_len]
  congr 1
  by_cases hD : D.size ≤ 40
  · rw [decide_eq_true hD, List.all_eq_true]
    intro i hi
    rw [hO i (List.mem_range.1 hi), decide_eq_true hD]
  · rw [decide_eq_false hD, List.all_eq_false]
    exact ⟨0, List.mem_range.2 h0, by rw [hO 0 h0, decide_eq_false hD]; decide⟩
theorem sz_is {ix : Int} (hx : 0 ≤ ix ∧ ix < 4294967296) (D : ByteArray) {k : Nat} (h0 : 0 < k) (h7 : k ≤ 7) :
    isP ⟨1, 1, szL ix D k, 0, 0, 0, 0, 0, false, false⟩ = (decide (k ≤ 6) && decide (D.size ≤ 40)) ∧ isP ⟨1, 6, szL ix D k, 0, 0, 0, 0, 0, false, false⟩ = (decide (k ≤ 6) && decide (D.size ≤ 40)) := by
  have hn : decide (k = 0) = false := decide_eq_false (by omega)
  constructor
  · unfold isP noL noH noM
    dsimp only
    rw [if_pos (show (1 : Int) = 1 from rfl), szL_ris true hx D h0 h7, szL_len, hn]
    cases decide (k ≤ 6) <;> cases decide (D.size ≤ 40) <;> first | rfl | simp
  · unfold isP noL noH noM
    dsimp only
    rw [if_neg (show ¬ (6 : Int) = 1 by decide), if_neg (show ¬ (6 : Int) = 2 by decide), if_neg (show ¬ (6 : Int) = 3 by decide), if_neg (show ¬ (6 : Int) = 4 by decide), if_neg (show ¬ (6 : Int) = 5 by decide), if_pos (show (6 : Int) = 6 from rfl), szL_ris false hx D h0 h7, szL_len, hn]
    cases decide (k ≤ 6) <;> cases decide (D.size ≤ 40) <;> first | rfl | simp
theorem tmod3 {n : Int} (h : 0 ≤ n) : n.tmod 3 = ((n.toNat % 3 : Nat) : Int) := by
  obtain ⟨k, rfl⟩ := Int.eq_ofNat_of_zero_le h
  rfl
set_option maxHeartbeats 8000000 in
set_option maxRecDepth 100000 in
theorem sz4_walk (n m ix : Int) (w : World) (hn : 0 ≤ n ∧ n ≤ 255) (hm : 0 ≤ m ∧ m ≤ 255) (hx : 0 ≤ ix ∧ ix < 4294967296) :
  Calls Try.prog 8 #[.int .u8 n, .int .u8 m, .int .u32 ix] w fun e w' => e = .returned (.bool true) ∧ Below w.heap.size w w' := by
 have hn3 := tmod3 hn.1
 have hm3 := tmod3 hm.1
 obtain ⟨a, ha⟩ : ∃ a, n.toNat % 3 = a := ⟨_, rfl⟩
 obtain ⟨b, hb⟩ : ∃ b, m.toNat % 3 = b := ⟨_, rfl⟩
 rw [ha] at hn3
 rw [hb] at hm3
 have ha3 : a < 3 := by rw [← ha]; exact Nat.mod_lt _ (by decide)
 have hb3 : b < 3 := by rw [← hb]; exact Nat.mod_lt _ (by decide)
 clear ha hb
 obtain ⟨K, hK⟩ : ∃ K, a + 5 = K := ⟨_, rfl⟩
 obtain ⟨Z, hZ⟩ : ∃ Z, b + 39 = Z := ⟨_, rfl⟩
 have hua : IntKind.u8.wrap (a : Int) = (a : Int) := by simp [IntKind.wrap, IntKind.bits, IntKind.signed]; omega
 have hub : IntKind.u8.wrap (b : Int) = (b : Int) := by simp [IntKind.wrap, IntKind.bits, IntKind.signed]; omega
 have w1 : IntKind.i64.wrap ((a : Int)) = (a : Int) := by rw [i64_w]; unfold wrap64; omega
 have w2 : IntKind.i64.wrap ((a : Int) + 6) = (a : Int) + 6 := by rw [i64_w]; unfold wrap64; omega
 have w3 : IntKind.i64.wrap ((a : Int) + 6 - 1) = (K : Int) := by rw [i64_w]; unfold wrap64; omega
 have w4 : IntKind.i64.wrap ((b : Int)) = (b : Int) := by rw [i64_w]; unfold wrap64; omega
 have w5 : IntKind.i64.wrap ((b : Int) + 40) = (b : Int) + 40 := by rw [i64_w]; unfold wrap64; omega
 have w6 : IntKind.i64.wrap ((b : Int) + 40 - 1) = (Z : Int) := by rw [i64_w]; unfold wrap64; omega
 have w7 : IntKind.i64.wrap (ix) = ix := by rw [i64_w]; unfold wrap64; omega
 have w8 : IntKind.i64.wrap (ix + 1) = ix + 1 := by rw [i64_w]; unfold wrap64; omega
 have HKZ : Aside0 (5 ≤ K ∧ K ≤ 7 ∧ 39 ≤ Z ∧ Z ≤ 41) := ⟨by omega⟩
 have HIX := Aside0.mk hx
 obtain ⟨D, hD⟩ : ∃ D, strOfNums (List.replicate Z 0) = D := ⟨_, rfl⟩
 have HD := Aside0.mk hD
 have hDz : D.size = Z := by rw [← hD, strOfNums_size, List.length_replicate]
 have his := sz_is hx D (k := K) (by omega) (by omega)
 rw [hDz] at his
 obtain ⟨ok, hok⟩ : ∃ ok, (decide (K ≤ 6) && decide (Z ≤ 40)) = ok := ⟨_, rfl⟩
 rw [hok] at his
 have HIS := Aside0.mk his
 obtain ⟨S, y, hS⟩ : ∃ S y, bytesR ⟨1, 1, szL ix D K, 0, 0, 0, 0, 0, false, false⟩ = (S, y) := ⟨_, _, rfl⟩
 have HBR := Aside0.mk hS
 have hy : ((y : Int) == 0) = ok := by unfold bytesR at hS; rw [his.1] at hS; cases ok with | false => (rw [if_neg (by decide)] at hS; injection hS with h1 h2; subst h2; rfl) | true => (rw [if_pos rfl] at hS; injection hS with h1 h2; subst h2; rfl)
 have HY := Aside0.mk hy
 have HOK : Aside0 ((if (K : Int) ≤ 6 then decide ((Z : Int) ≤ 40) else false) = ok) := ⟨by rw [← hok]; by_cases h : K ≤ 6; (rw [if_pos (by omega), decide_eq_true h, Bool.true_and]; exact decide_eq_decide.2 (by omega)); (rw [if_neg (by omega), decide_eq_false h, Bool.false_and])⟩
 have HOK2 := Aside0.mk hok
 have HZZ : Aside0 (K = a + 5 ∧ Z = b + 39 ∧ a < 3 ∧ b < 3) := ⟨by omega⟩
 have hZ0 : (0 : Int) ≤ (Z : Int) := by omega
 clear hK hZ ha3 hb3 hD hDz his hok hS hy hx
 have HB := Aside0.mk (Bel.refl w)
 clear hn hm
 go_enter Try.func8, Try.ntmps8
 obtain ⟨C6, hC6⟩ : ∃ C, (match Try.f8.body with | some (.seq _ (.seq _ (.seq _ (.seq _ (.seq _ c))))) => c | _ => .skip) = C := ⟨_, rfl⟩
 have HC6 := Aside0.mk hC6
 simp only [Try.f8] at hC6
 rw [hC6]
 clear hC6
 go_wp2_with fail
 go_at_call 10
 refine (known4 _).mono ?_
 rintro e w1 ⟨rfl, hw1⟩
 replace HB := lbB HB hw1
 clear hw1
 go_wp2_with fail
 obtain ⟨b0, hb0⟩ : ∃ n, w1.heap.size = n := ⟨_, rfl⟩
 have HB0 : Aside0 (b0 ≤ w1.heap.size ∧ w.heap.size ≤ b0) := ⟨by rw [← hb0]; exact ⟨Nat.le_refl _, HB.out.b.size⟩⟩
 clear hb0
 have HI1 : Aside0 (OwnE w1 b0 (.slice none 0 0) (szL ix D 0) ∧ Bel w w1 ∧ b0 ≤ w1.heap.size) := ⟨OwnE.nil _ _, HB.out, HB0.out.1⟩
 clear HB
 go_loopw [9, 10] (fun v u wr => ∃ k : Nat, k ≤ K ∧ u = .int .i64 (k : Int) ∧ Aside0 (OwnE wr b0 v (szL ix D k) ∧ Bel w wr ∧ b0 ≤ wr.heap.size)) (fun _ u _ => K - (intOf u).toNat)
 case atStart => exact ⟨0, Nat.zero_le _, rfl, HI1⟩
 case round =>
   clear HI1
   obtain ⟨k, hk, rfl, HI⟩ := hrel
   obtain ⟨hw, hbl, hz9⟩ := HI.out
   have HW := Aside0.mk hw
   have HB := Aside0.mk hbl
   have HWZ := Aside0.mk hz9
   clear HI hw hbl hz9
   by_cases hlt : k < K
   · have d1 : decide ((k : Int) < (K : Int)) = true := decide_eq_true (by omega)
     have d2 : decide (k < K) = true := decide_eq_true (by omega)
     have hk4 : IntKind.i64.wrap ((k : Int) + 1) = (k : Int) + 1 := by rw [i64_w]; unfold wrap64; have := HKZ.out; omega
     have hkx : IntKind.i64.wrap (ix + 1 + (k : Int)) = ix + 1 + (k : Int) := by rw [i64_w]; unfold wrap64; have := HKZ.out; have := HIX.out; omega
     have HKK : Aside0 (k < K) := ⟨hlt⟩
     have mk := print_make (P := Try.prog) 48 5 .u8 1 Try.underlying48 (by kernel_rfl) (by decide) Z (by have := HKZ.out; omega)
     obtain ⟨m7, hm7⟩ : ∃ x, wr.heap.size = x := ⟨_, rfl⟩
     have hrow := own_made wr 0 5 .u8 Z (Nat.zero_le _) (by have := HKZ.out; omega)
     have hcv := own_string (P := Try.prog) Try.underlying48 Try.underlying5 Try.underlying9 hrow
     rw [HD.out, hm7] at hcv
     have hm8 : (wr.alloc (.cells (madeCells #[.int .u8 0] Z) 5)).heap.size = m7 + 1 := by rw [World.size_alloc, hm7]
     have HM8 := Aside0.mk hm8
     clear hrow
     go_wp2_with (at_builtin; refine wpList_append_ent (l := szL ix D k) (m := [⟨ix + 1 + (k : Int), 7, D⟩]) (b := b0) rfl (.tmp 33) (.tmp 43) rfl rfl ((HW.out.alloc _).alloc _) rfl (by have hq := Rd.one (wr.alloc (.cells (madeCells #[.int .u8 0] Z) 5)) ⟨ix + 1 + (k : Int), 7, D⟩; rw [HM8.out] at hq; exact hq) (by rw [szL_len]; show k + 1 ≤ _; have := HKZ.out; have := HKK.out; omega) (Nat.le_trans HWZ.out (by rw [World.size_alloc, World.size_alloc]; omega)) ?_; intro v6 w6 ho6 hgr ha6; rw [szL_succ] at ho6; have hon : Only (fun q => u9.ownBlock = some q) ((wr.alloc (.cells (madeCells #[.int .u8 0] Z) 5)).alloc (.cells #[.int .i64 (ix + 1 + (k : Int)), .int .i64 7, .string D] 28)) w6 := (Only.refl _ _).of_grown hgr (fun q hq _ => hq); have HOB : Aside0 (∀ q, u9.ownBlock = some q → b0 ≤ q) := ⟨fun q hq => (own_block HW.out hq).1⟩; have h00 := HB0.out; replace HB := Aside0.mk (Bel.only ((HB.out.alloc (.cells (madeCells #[.int .u8 0] Z) 5)).alloc (.cells #[.int .i64 (ix + 1 + (k : Int)), .int .i64 7, .string D] 28)) hon (fun q hq h => by have := HOB.out _ h; omega)); have HO6 := Aside0.mk ho6; have HS6 : Aside0 (b0 ≤ w6.heap.size) := ⟨Nat.le_trans HWZ.out (Nat.le_trans (by rw [World.size_alloc, World.size_alloc]; omega) hon.size)⟩; clear ho6 hgr ha6 hon h00 hm7 hm8 mk hcv)
     go_roundw
     case rel => exact ⟨k + 1, by omega, by go_num, ⟨HO6.out, HB.out, HS6.out⟩⟩
     case measure => simp [intOf]; omega
   · have d1 : decide ((k : Int) < (K : Int)) = false := decide_eq_false (by omega)
     have d2 : decide (k < K) = false := decide_eq_false (by omega)
     obtain rfl : k = K := by omega
     obtain ⟨A, c, hv6, hrd6, _⟩ := HW.out.rd' (by rw [szL_len]; have := HKZ.out; omega)
     subst hv6
     have HR := Aside0.mk hrd6
     clear hrd6 HW
     go_wp2_with fail
     have hC6 := HC6.out
     simp only [Try.f8] at hC6
     subst hC6
     clear HC6
     obtain ⟨C7, hC7⟩ : ∃ C, (match Try.f8.body with | some (.seq _ (.seq _ (.seq _ (.seq _ (.seq _ (.seq _ c)))))) => c | _ => .skip) = C := ⟨_, rfl⟩
     have HC7 := Aside0.mk hC7
     simp only [Try.f8] at hC7
     rw [hC7]
     clear hC7
     go_wp2_with fail
     obtain ⟨n1, hn1⟩ : ∃ n, wr.heap.size = n := ⟨_, rfl⟩
     have HN1 : Aside0 (w.heap.size ≤ n1) := ⟨by rw [← hn1]; exact HB.out.b.size⟩
     try rw [hn1]
     replace HB := laB HB (.cells #[.int .i64 1, .int .i64 1, .slice A (szL ix D k).length c, .int .i64 0, .int .i64 0, .int .i64 0, .int .i64 0, .int .i64 0, .bool false, .bool false] 26)
     replace HR := laR HR (.cells #[.int .i64 1, .int .i64 1, .slice A (szL ix D k).length c, .int .i64 0, .int .i64 0, .int .i64 0, .int .i64 0, .int .i64 0, .bool false, .bool false] 26)
     have HP : Aside0 (BlkP ⟨1, 1, szL ix D k, 0, 0, 0, 0, 0, false, false⟩ A c n1 (wr.alloc (.cells #[.int .i64 1, .int .i64 1, .slice A (szL ix D k).length c, .int .i64 0, .int .i64 0, .int .i64 0, .int .i64 0, .int .i64 0, .bool false, .bool false] 26))) := ⟨(by have hq := BlkP.new ⟨1, 1, szL ix D k, 0, 0, 0, 0, 0, false, false⟩ A c wr; rw [hn1] at hq; exact hq)⟩
     obtain ⟨W1, hW1⟩ : ∃ W, wr.alloc (.cells #[.int .i64 1, .int .i64 1, .slice A (szL ix D k).length c, .int .i64 0, .int .i64 0, .int .i64 0, .int .i64 0, .int .i64 0, .bool false, .bool false] 26) = W := ⟨_, rfl⟩
     rw [hW1] at HB HR HP ⊢
     clear hW1
     clear hn1
     have hC7 := HC7.out
     simp only [Try.f8] at hC7
     subst hC7
     clear HC7
     obtain ⟨C8, hC8⟩ : ∃ C, (match Try.f8.body with | some (.seq _ (.seq _ (.seq _ (.seq _ (.seq _ (.seq _ (.seq _ c))))))) => c | _ => .skip) = C := ⟨_, rfl⟩
     have HC8 := Aside0.mk hC8
     simp only [Try.f8] at hC8
     rw [hC8]
     clear hC8
     obtain ⟨hp0, hp1, hp2, hp3, hp4, hp5, hp6, hp7, hp8, hp9⟩ := HP.out.box
     try dsimp only at hp0 hp1 hp2 hp3 hp4 hp5 hp6 hp7 hp8 hp9
     go_wp2_with fail
     obtain ⟨n2, hn2⟩ : ∃ n, W1.heap.size = n := ⟨_, rfl⟩
     have HN2 : Aside0 (n1 < n2) := ⟨by rw [← hn2]; exact BlkP.lt' HP.out⟩
     try rw [hn2]
     clear hp0 hp1 hp2 hp3 hp4 hp5 hp6 hp7 hp8 hp9
     replace HB := laB HB (.cells #[.int .i64 1, .int .i64 1, .slice A (szL ix D k).length c, .int .i64 0, .int .i64 0, .int .i64 0, .int .i64 0, .int .i64 0, .bool false, .bool false] 26)
     replace HR := laR HR (.cells #[.int .i64 1, .int .i64 1, .slice A (szL ix D k).length c, .int .i64 0, .int .i64 0, .int .i64 0, .int .i64 0, .int .i64 0, .bool false, .bool false] 26)
     replace HP := laP HP (.cells #[.int .i64 1, .int .i64 1, .slice A (szL ix D k).length c, .int .i64 0, .int .i64 0, .int .i64 0, .int .i64 0, .int .i64 0, .bool false, .bool false] 26)
     have HQ : Aside0 (BlkP ⟨1, 1, szL ix D k, 0, 0, 0, 0, 0, false, false⟩ A c n2 (W1.alloc (.cells #[.int .i64 1, .int .i64 1, .slice A (szL ix D k).length c, .int .i64 0, .int .i64 0, .int .i64 0, .int .i64 0, .int .i64 0, .bool false, .bool false] 26))) := ⟨(by have hq := BlkP.new ⟨1, 1, szL ix D k, 0, 0, 0, 0, 0, false, false⟩ A c W1; rw [hn2] at hq; exact hq)⟩
     obtain ⟨W2, hW2⟩ : ∃ W, W1.alloc (.cells #[.int .i64 1, .int .i64 1, .slice A (szL ix D k).length c, .int .i64 0, .int .i64 0, .int .i64 0, .int .i64 0, .int .i64 0, .bool false, .bool false] 26) = W := ⟨_, rfl⟩
     rw [hW2] at HB HR HP HQ ⊢
     clear hW2
     clear hn2
     have hC8 := HC8.out
     simp only [Try.f8] at hC8
     subst hC8
     clear HC8
     obtain ⟨C9, hC9⟩ : ∃ C, (match Try.f8.body with | some (.seq _ (.seq _ (.seq _ (.seq _ (.seq _ (.seq _ (.seq _ (.seq _ c)))))))) => c | _ => .skip) = C := ⟨_, rfl⟩
     have HC9 := Aside0.mk hC9
     simp only [Try.f8] at hC9
     rw [hC9]
     clear hC9
     obtain ⟨hp0, hp1, hp2, hp3, hp4, hp5, hp6, hp7, hp8, hp9⟩ := HP.out.box
     obtain ⟨hq0, hq1, hq2, hq3, hq4, hq5, hq6, hq7, hq8, hq9⟩ := HQ.out.box
     try dsimp only at hp0 hp1 hp2 hp3 hp4 hp5 hp6 hp7 hp8 hp9 hq0 hq1 hq2 hq3 hq4 hq5 hq6 hq7 hq8 hq9
     have yf := BlkP.free' HQ.out
     go_wp2_with fail
     clear yf
     clear hp0 hp1 hp2 hp3 hp4 hp5 hp6 hp7 hp8 hp9 hq0 hq1 hq2 hq3 hq4 hq5 hq6 hq7 hq8 hq9
     have hx := (Only.refl (fun q => q = n2) W2).setCell (p := ⟨n2, 1, none⟩) rfl (.int .i64 6)
     have h12 := HN2.out
     have h11 := HN1.out
     replace HB := Aside0.mk (Bel.only HB.out hx (fun q hq h => by have h2 : q = n2 := h; omega))
     replace HP := Aside0.mk (BlkP.only HP.out hx (fun h => by have h2 : n1 = n2 := h; omega))
     replace HR := Aside0.mk (Rd.only HR.out hx (fun q hq h => by have h3 : q = n2 := h; subst h3; exact Rd.apartP HR.out HQ.out hq))
     replace HQ := Aside0.mk (BlkP.cel1 HQ.out 6)
     clear hx h12 h11
     obtain ⟨W3, hW⟩ : ∃ X, W2.setCell ⟨n2, 1, none⟩ (.int .i64 6) = X := ⟨_, rfl⟩
     rw [hW] at HB HP HR HQ ⊢
     clear hW
     have hC9 := HC9.out
     simp only [Try.f8] at hC9
     subst hC9
     clear HC9
     obtain ⟨C10, hC10⟩ : ∃ C, (match Try.f8.body with | some (.seq _ (.seq _ (.seq _ (.seq _ (.seq _ (.seq _ (.seq _ (.seq _ (.seq _ c))))))))) => c | _ => .skip) = C := ⟨_, rfl⟩
     have HC10 := Aside0.mk hC10
     simp only [Try.f8] at hC10
     rw [hC10]
     clear hC10
     by_cases hc1 : k ≤ 6
     · by_cases hc2 : Z ≤ 40
       · have c1 : decide ((k : Int) ≤ 6) = true := decide_eq_true (by omega)
         have c3 : decide (k ≤ 6) = true := decide_eq_true (by omega)
         have c2 : decide ((Z : Int) ≤ 40) = true := decide_eq_true (by omega)
         have c4 : decide (Z ≤ 40) = true := decide_eq_true (by omega)
         have hok2 := HOK2.out
         rw [c3, c4] at hok2
         have hok3 : ok = true := hok2.symm
         subst hok3
         have hyy := HY.out
         clear hok2
         go_wp2_with fail
         have hC10 := HC10.out
         simp only [Try.f8] at hC10
         subst hC10
         clear HC10
         obtain ⟨hp0, hp1, hp2, hp3, hp4, hp5, hp6, hp7, hp8, hp9⟩ := HP.out.box
         obtain ⟨hq0, hq1, hq2, hq3, hq4, hq5, hq6, hq7, hq8, hq9⟩ := HQ.out.box
         try dsimp only at hp0 hp1 hp2 hp3 hp4 hp5 hp6 hp7 hp8 hp9 hq0 hq1 hq2 hq3 hq4 hq5 hq6 hq7 hq8 hq9
         go_wp2_with fail
         go_at_call 12
         refine (part_Bytes ⟨1, 1, szL ix D k, 0, 0, 0, 0, 0, false, false⟩ A c _ HR.out HBR.out).mono ?_
         rintro e w31 ⟨rfl, hw31⟩
         replace HB := lbB HB hw31
         replace HR := lbR HR hw31
         replace HP := lbP HP hw31
         replace HQ := lbP HQ hw31
         clear hw31
         clear hp0 hp1 hp2 hp3 hp4 hp5 hp6 hp7 hp8 hp9 hq0 hq1 hq2 hq3 hq4 hq5 hq6 hq7 hq8 hq9
         obtain ⟨hp0, hp1, hp2, hp3, hp4, hp5, hp6, hp7, hp8, hp9⟩ := HP.out.box
         obtain ⟨hq0, hq1, hq2, hq3, hq4, hq5, hq6, hq7, hq8, hq9⟩ := HQ.out.box
         try dsimp only at hp0 hp1 hp2 hp3 hp4 hp5 hp6 hp7 hp8 hp9 hq0 hq1 hq2 hq3 hq4 hq5 hq6 hq7 hq8 hq9
         go_wp2_with fail
         go_at_call 15
         refine (isp4 ⟨1, 1, szL ix D k, 0, 0, 0, 0, 0, false, false⟩ A c _ HR.out HIS.out.1).mono ?_
         rintro e w32 ⟨rfl, hw32⟩
         replace HB := lbB HB hw32
         replace HR := lbR HR hw32
         replace HP := lbP HP hw32
         replace HQ := lbP HQ hw32
         clear hw32
         clear hp0 hp1 hp2 hp3 hp4 hp5 hp6 hp7 hp8 hp9 hq0 hq1 hq2 hq3 hq4 hq5 hq6 hq7 hq8 hq9
         obtain ⟨hp0, hp1, hp2, hp3, hp4, hp5, hp6, hp7, hp8, hp9⟩ := HP.out.box
         obtain ⟨hq0, hq1, hq2, hq3, hq4, hq5, hq6, hq7, hq8, hq9⟩ := HQ.out.box
         try dsimp only at hp0 hp1 hp2 hp3 hp4 hp5 hp6 hp7 hp8 hp9 hq0 hq1 hq2 hq3 hq4 hq5 hq6 hq7 hq8 hq9
         go_wp2_with fail
         go_at_call 15
         refine (isp4 ⟨1, 6, szL ix D k, 0, 0, 0, 0, 0, false, false⟩ A c _ HR.out HIS.out.2).mono ?_
         rintro e w33 ⟨rfl, hw33⟩
         replace HB := lbB HB hw33
         replace HR := lbR HR hw33
         replace HP := lbP HP hw33
         replace HQ := lbP HQ hw33
         clear hw33
         go_wp2_with fail
         go_ret
         exact ⟨rfl, HB.out.b⟩
       · have c1 : decide ((k : Int) ≤ 6) = true := decide_eq_true (by omega)
         have c3 : decide (k ≤ 6) = true := decide_eq_true (by omega)
         have c2 : decide ((Z : Int) ≤ 40) = false := decide_eq_false (by omega)
         have c4 : decide (Z ≤ 40) = false := decide_eq_false (by omega)
         have hok2 := HOK2.out
         rw [c3, c4] at hok2
         have hok3 : ok = false := hok2.symm
         subst hok3
         have hyy := HY.out
         clear hok2
         go_wp2_with fail
         have hC10 := HC10.out
         simp only [Try.f8] at hC10
         subst hC10
         clear HC10
         obtain ⟨hp0, hp1, hp2, hp3, hp4, hp5, hp6, hp7, hp8, hp9⟩ := HP.out.box
         obtain ⟨hq0, hq1, hq2, hq3, hq4, hq5, hq6, hq7, hq8, hq9⟩ := HQ.out.box
         try dsimp only at hp0 hp1 hp2 hp3 hp4 hp5 hp6 hp7 hp8 hp9 hq0 hq1 hq2 hq3 hq4 hq5 hq6 hq7 hq8 hq9
         go_wp2_with fail
         go_at_call 12
         refine (part_Bytes ⟨1, 1, szL ix D k, 0, 0, 0, 0, 0, false, false⟩ A c _ HR.out HBR.out).mono ?_
         rintro e w31 ⟨rfl, hw31⟩
         replace HB := lbB HB hw31
         replace HR := lbR HR hw31
         replace HP := lbP HP hw31
         replace HQ := lbP HQ hw31
         clear hw31
         clear hp0 hp1 hp2 hp3 hp4 hp5 hp6 hp7 hp8 hp9 hq0 hq1 hq2 hq3 hq4 hq5 hq6 hq7 hq8 hq9
         obtain ⟨hp0, hp1, hp2, hp3, hp4, hp5, hp6, hp7, hp8, hp9⟩ := HP.out.box
         obtain ⟨hq0, hq1, hq2, hq3, hq4, hq5, hq6, hq7, hq8, hq9⟩ := HQ.out.box
         try dsimp only at hp0 hp1 hp2 hp3 hp4 hp5 hp6 hp7 hp8 hp9 hq0 hq1 hq2 hq3 hq4 hq5 hq6 hq7 hq8 hq9
         go_wp2_with fail
         go_at_call 15
         refine (isp4 ⟨1, 1, szL ix D k, 0, 0, 0, 0, 0, false, false⟩ A c _ HR.out HIS.out.1).mono ?_
         rintro e w32 ⟨rfl, hw32⟩
         replace HB := lbB HB hw32
         replace HR := lbR HR hw32
         replace HP := lbP HP hw32
         replace HQ := lbP HQ hw32
         clear hw32
         clear hp0 hp1 hp2 hp3 hp4 hp5 hp6 hp7 hp8 hp9 hq0 hq1 hq2 hq3 hq4 hq5 hq6 hq7 hq8 hq9
         obtain ⟨hp0, hp1, hp2, hp3, hp4, hp5, hp6, hp7, hp8, hp9⟩ := HP.out.box
         obtain ⟨hq0, hq1, hq2, hq3, hq4, hq5, hq6, hq7, hq8, hq9⟩ := HQ.out.box
         try dsimp only at hp0 hp1 hp2 hp3 hp4 hp5 hp6 hp7 hp8 hp9 hq0 hq1 hq2 hq3 hq4 hq5 hq6 hq7 hq8 hq9
         go_wp2_with fail
         go_at_call 15
         refine (isp4 ⟨1, 6, szL ix D k, 0, 0, 0, 0, 0, false, false⟩ A c _ HR.out HIS.out.2).mono ?_
         rintro e w33 ⟨rfl, hw33⟩
         replace HB := lbB HB hw33
         replace HR := lbR HR hw33
         replace HP := lbP HP hw33
         replace HQ := lbP HQ hw33
         clear hw33
         go_wp2_with fail
         go_ret
         exact ⟨rfl, HB.out.b⟩
     · by_cases hc2 : Z ≤ 40
       · have c1 : decide ((k : Int) ≤ 6) = false := decide_eq_false (by omega)
         have c3 : decide (k ≤ 6) = false := decide_eq_false (by omega)
         have c2 : decide ((Z : Int) ≤ 40) = true := decide_eq_true (by omega)
         have c4 : decide (Z ≤ 40) = true := decide_eq_true (by omega)
         have hok2 := HOK2.out
         rw [c3, c4] at hok2
         have hok3 : ok = false := hok2.symm
         subst hok3
         have hyy := HY.out
         clear hok2
         go_wp2_with fail
         have hC10 := HC10.out
         simp only [Try.f8] at hC10
         subst hC10
         clear HC10
         obtain ⟨hp0, hp1, hp2, hp3, hp4, hp5, hp6, hp7, hp8, hp9⟩ := HP.out.box
         obtain ⟨hq0, hq1, hq2, hq3, hq4, hq5, hq6, hq7, hq8, hq9⟩ := HQ.out.box
         try dsimp only at hp0 hp1 hp2 hp3 hp4 hp5 hp6 hp7 hp8 hp9 hq0 hq1 hq2 hq3 hq4 hq5 hq6 hq7 hq8 hq9
         go_wp2_with fail
         go_at_call 12
         refine (part_Bytes ⟨1, 1, szL ix D k, 0, 0, 0, 0, 0, false, false⟩ A c _ HR.out HBR.out).mono ?_
         rintro e w31 ⟨rfl, hw31⟩
         replace HB := lbB HB hw31
         replace HR := lbR HR hw31
         replace HP := lbP HP hw31
         replace HQ := lbP HQ hw31
         clear hw31
         clear hp0 hp1 hp2 hp3 hp4 hp5 hp6 hp7 hp8 hp9 hq0 hq1 hq2 hq3 hq4 hq5 hq6 hq7 hq8 hq9
         obtain ⟨hp0, hp1, hp2, hp3, hp4, hp5, hp6, hp7, hp8, hp9⟩ := HP.out.box
         obtain ⟨hq0, hq1, hq2, hq3, hq4, hq5, hq6, hq7, hq8, hq9⟩ := HQ.out.box
         try dsimp only at hp0 hp1 hp2 hp3 hp4 hp5 hp6 hp7 hp8 hp9 hq0 hq1 hq2 hq3 hq4 hq5 hq6 hq7 hq8 hq9
         go_wp2_with fail
         go_at_call 15
         refine (isp4 ⟨1, 1, szL ix D k, 0, 0, 0, 0, 0, false, false⟩ A c _ HR.out HIS.out.1).mono ?_
         rintro e w32 ⟨rfl, hw32⟩
         replace HB := lbB HB hw32
         replace HR := lbR HR hw32
         replace HP := lbP HP hw32
         replace HQ := lbP HQ hw32
         clear hw32
         clear hp0 hp1 hp2 hp3 hp4 hp5 hp6 hp7 hp8 hp9 hq0 hq1 hq2 hq3 hq4 hq5 hq6 hq7 hq8 hq9
         obtain ⟨hp0, hp1, hp2, hp3, hp4, hp5, hp6, hp7, hp8, hp9⟩ := HP.out.box
         obtain ⟨hq0, hq1, hq2, hq3, hq4, hq5, hq6, hq7, hq8, hq9⟩ := HQ.out.box
         try dsimp only at hp0 hp1 hp2 hp3 hp4 hp5 hp6 hp7 hp8 hp9 hq0 hq1 hq2 hq3 hq4 hq5 hq6 hq7 hq8 hq9
         go_wp2_with fail
         go_at_call 15
         refine (isp4 ⟨1, 6, szL ix D k, 0, 0, 0, 0, 0, false, false⟩ A c _ HR.out HIS.out.2).mono ?_
         rintro e w33 ⟨rfl, hw33⟩
         replace HB := lbB HB hw33
         replace HR := lbR HR hw33
         replace HP := lbP HP hw33
         replace HQ := lbP HQ hw33
         clear hw33
         go_wp2_with fail
         go_ret
         exact ⟨rfl, HB.out.b⟩
       · have c1 : decide ((k : Int) ≤ 6) = false := decide_eq_false (by omega)
         have c3 : decide (k ≤ 6) = false := decide_eq_false (by omega)
         have c2 : decide ((Z : Int) ≤ 40) = false := decide_eq_false (by omega)
         have c4 : decide (Z ≤ 40) = false := decide_eq_false (by omega)
         have hok2 := HOK2.out
         rw [c3, c4] at hok2
         have hok3 : ok = false := hok2.symm
         subst hok3
         have hyy := HY.out
         clear hok2
         go_wp2_with fail
         have hC10 := HC10.out
         simp only [Try.f8] at hC10
         subst hC10
         clear HC10
         obtain ⟨hp0, hp1, hp2, hp3, hp4, hp5, hp6, hp7, hp8, hp9⟩ := HP.out.box
         obtain ⟨hq0, hq1, hq2, hq3, hq4, hq5, hq6, hq7, hq8, hq9⟩ := HQ.out.box
         try dsimp only at hp0 hp1 hp2 hp3 hp4 hp5 hp6 hp7 hp8 hp9 hq0 hq1 hq2 hq3 hq4 hq5 hq6 hq7 hq8 hq9
         go_wp2_with fail
         go_at_call 12
         refine (part_Bytes ⟨1, 1, szL ix D k, 0, 0, 0, 0, 0, false, false⟩ A c _ HR.out HBR.out).mono ?_
         rintro e w31 ⟨rfl, hw31⟩
         replace HB := lbB HB hw31
         replace HR := lbR HR hw31
         replace HP := lbP HP hw31
         replace HQ := lbP HQ hw31
         clear hw31
         clear hp0 hp1 hp2 hp3 hp4 hp5 hp6 hp7 hp8 hp9 hq0 hq1 hq2 hq3 hq4 hq5 hq6 hq7 hq8 hq9
         obtain ⟨hp0, hp1, hp2, hp3, hp4, hp5, hp6, hp7, hp8, hp9⟩ := HP.out.box
         obtain ⟨hq0, hq1, hq2, hq3, hq4, hq5, hq6, hq7, hq8, hq9⟩ := HQ.out.box
         try dsimp only at hp0 hp1 hp2 hp3 hp4 hp5 hp6 hp7 hp8 hp9 hq0 hq1 hq2 hq3 hq4 hq5 hq6 hq7 hq8 hq9
         go_wp2_with fail
         go_at_call 15
         refine (isp4 ⟨1, 1, szL ix D k, 0, 0, 0, 0, 0, false, false⟩ A c _ HR.out HIS.out.1).mono ?_
         rintro e w32 ⟨rfl, hw32⟩
         replace HB := lbB HB hw32
         replace HR := lbR HR hw32
         replace HP := lbP HP hw32
         replace HQ := lbP HQ hw32
         clear hw32
         clear hp0 hp1 hp2 hp3 hp4 hp5 hp6 hp7 hp8 hp9 hq0 hq1 hq2 hq3 hq4 hq5 hq6 hq7 hq8 hq9
         obtain ⟨hp0, hp1, hp2, hp3, hp4, hp5, hp6, hp7, hp8, hp9⟩ := HP.out.box
         obtain ⟨hq0, hq1, hq2, hq3, hq4, hq5, hq6, hq7, hq8, hq9⟩ := HQ.out.box
         try dsimp only at hp0 hp1 hp2 hp3 hp4 hp5 hp6 hp7 hp8 hp9 hq0 hq1 hq2 hq3 hq4 hq5 hq6 hq7 hq8 hq9
         go_wp2_with fail
         go_at_call 15
         refine (isp4 ⟨1, 6, szL ix D k, 0, 0, 0, 0, 0, false, false⟩ A c _ HR.out HIS.out.2).mono ?_
         rintro e w33 ⟨rfl, hw33⟩
         replace HB := lbB HB hw33
         replace HR := lbR HR hw33
         replace HP := lbP HP hw33
         replace HQ := lbP HQ hw33
         clear hw33
         go_wp2_with fail
         go_ret
         exact ⟨rfl, HB.out.b⟩
end Go.Proofs.Ytokjhocjemjfiaa.PartW
namespace Go.Proofs.Ytokjhocjemjfiaa.Pure
open Go Go.RowKit Go.Proofs.Ytokjhocjemjfiaa.Sp Go.Proofs.Ytokjhocjemjfiaa.PartW
theorem PartSizes.walk (n m ix : Int) (w : World) (hn : (Lit.int .u8 n).wf = true) (hm : (Lit.int .u8 m).wf = true) (hx : (Lit.int .u32 ix).wf = true) :
    Calls Try.prog 8 #[.int .u8 n, .int .u8 m, .int .u32 ix] w fun e w' => e = .returned (.bool true) ∧ Below w.heap.size w w' := sz4_walk n m ix w (CodeM.wf_u8 hn) (CodeM.wf_u8 hm) (CodeM.wf_u32 hx)
end Go.Proofs.Ytokjhocjemjfiaa.Pure
