/- What the laws of layer 4 need; the walk of ladelaw4.known. -/
import Derived.Test.YtokjhocjemjfiaaBack2
set_option linter.unusedVariables false
set_option linter.unusedSimpArgs false
namespace Go.Proofs.Ytokjhocjemjfiaa.Sp
open Go Go.RowKit Go.Proofs.Ytokjhocjemjfiaa.A Go.Proofs.Ytokjhocjemjfiaa.PartW Go.Proofs.Ytokjhocjemjfiaa.Reg Go.Proofs.Ytokjhocjemjfiaa.Seq Go.Proofs.Ytokjhocjemjfiaa.CodeW Go.Proofs.Ytokjhocjemjfiaa.CodeQ Go.Proofs.Ytokjhocjemjfiaa.Given Go.Proofs.YtokjhocjemjfiaaW.PrintWords Go.Proofs.YtokjhocjemjfiaaW.PrintLast Go.Proofs.YtokjhocjemjfiaaW.PrintMore
/-- what stays as it was since a world -/
structure Bel (w W : World) : Prop where
  b : Below w.heap.size w W
theorem Bel.below {w W W' : World} (h : Bel w W) (hb : Below W.heap.size W W') : Bel w W' := ⟨h.b.trans (hb.mono h.b.size)⟩
theorem Bel.alloc {w W : World} (h : Bel w W) (o : Obj) : Bel w (W.alloc o) := ⟨h.b.alloc h.b.size o⟩
theorem Bel.drew {w W : World} (h : Bel w W) : Bel w W.drew := h.below (below_drew (Below.refl _ _))
theorem Bel.only {U : Nat → Prop} {w W W' : World} (h : Bel w W) (ho : Only U W W') (hU : ∀ q, q < w.heap.size → ¬ U q) : Bel w W' := ⟨h.b.trans (ho.below h.b.size hU)⟩
theorem Bel.refl (w : World) : Bel w w := ⟨Below.refl _ _⟩
theorem fewP_l (p : Prt) (hl : p.l.length ≤ 4398046511104) : ∀ (d i : Nat), i + d = p.l.length → ∃ r, ladelaw4_fewPart.l0 (d + 1) (i : Int) p.g p.k p.l p.ht p.hv p.hc p.ix p.tm p.mrk p.hed = some r ∧ (r = true → p.l.length ≤ 8)
  | 0, i, hi => ⟨decide ((p.l.length : Int) ≤ 8), by rw [ladelaw4_fewPart.l0, if_neg (by omega)], fun h => by have := of_decide_eq_true h; omega⟩
  | d + 1, i, hi => by
    rw [ladelaw4_fewPart.l0, if_pos (by omega), if_pos (by omega)]
    split
    · exact ⟨false, rfl, fun h => by cases h⟩
    · rw [wr1 (by omega) hl]
      exact fewP_l p hl d (i + 1) (by omega)
def p5 : Prt := ⟨5, 5, [], 0, 0, 0, 0, 0, false, false⟩
def a4 : Prt := ⟨1, 1, [⟨3, 1, ⟨#[97, 98]⟩⟩], 0, 0, 0, 0, 0, false, false⟩
theorem putB_lit {n : Nat} (h : n < 128) : CodeM.putB n = [UInt8.ofNat n] := CodeM.putB_small h
theorem isP_p5 : isP p5 = true := by decide
theorem isP_a4 : isP a4 = true := by decide
theorem bytes_p5 : bytesP p5 = ⟨#[5, 5]⟩ := CodeM.ba_ext (by
  rw [bytes_L (isP_all isP_p5)]
  unfold restL p5
  simp [putB_lit])
theorem bytes_a4 : bytesP a4 = ⟨#[1, 1, 1, 3, 1, 2, 97, 98]⟩ := CodeM.ba_ext (by
  rw [bytes_L (isP_all isP_a4)]
  unfold restL a4
  simp [entsL, textB, el]
  rw [putB_lit (show ByteArray.size ⟨#[97, 98]⟩ < 128 by decide), putB_lit (show 1 < 128 by omega), putB_lit (show 3 < 128 by omega)]
  decide)
theorem kb_1 : bytesR p5 = (⟨#[5, 5]⟩, 0) := by unfold bytesR; rw [if_pos isP_p5, bytes_p5]
theorem kb_2 : bytesR a4 = (⟨#[1, 1, 1, 3, 1, 2, 97, 98]⟩, 0) := by unfold bytesR; rw [if_pos isP_a4, bytes_a4]
theorem kb_3 : bytesR ZP = (⟨#[]⟩, 11) := by unfold bytesR; rw [if_neg (by decide)]
theorem kb_4 : progR ((⟨#[5, 5]⟩ : ByteArray) ++ ⟨#[120]⟩) = (p5, (2, 0)) := by
  have := read_back isP_p5 ⟨#[120]⟩
  rw [bytes_p5] at this
  exact this
end Go.Proofs.Ytokjhocjemjfiaa.Sp
namespace Go.Proofs.Ytokjhocjemjfiaa.PartW
open Go Go.RowKit Go.Shelf Go.Proofs.Ytokjhocjemjfiaa.A Go.Proofs.Ytokjhocjemjfiaa.Sp Go.Proofs.Ytokjhocjemjfiaa.Reg Go.Proofs.Ytokjhocjemjfiaa.Seq Go.Proofs.Ytokjhocjemjfiaa.CodeW Go.Proofs.Ytokjhocjemjfiaa.CodeQ Go.Proofs.Ytokjhocjemjfiaa.Given Go.Proofs.YtokjhocjemjfiaaW.PrintWords Go.Proofs.YtokjhocjemjfiaaW.PrintLast Go.Proofs.YtokjhocjemjfiaaW.PrintMore
theorem BlkE.alloc {x : Ent} {B : Nat} {W : World} (h : BlkE x B W) (o : Obj) : BlkE x B (W.alloc o) := h.below' ((Below.refl _ _).alloc (Nat.le_refl _) _)
theorem BlkE.drew {x : Ent} {B : Nat} {W : World} (h : BlkE x B W) : BlkE x B W.drew := h.below' (below_drew (Below.refl _ _))
theorem lbR {w w' : World} {A : Option Addr} {c : Nat} {l : List Ent} (h : Aside0 (Rd w A c l)) (hb : Below w.heap.size w w') : Aside0 (Rd w' A c l) := ⟨h.out.below hb⟩
theorem lbE {x : Ent} {B : Nat} {w w' : World} (h : Aside0 (BlkE x B w)) (hb : Below w.heap.size w w') : Aside0 (BlkE x B w') := ⟨h.out.below' hb⟩
theorem lbB {w0 w w' : World} (h : Aside0 (Bel w0 w)) (hb : Below w.heap.size w w') : Aside0 (Bel w0 w') := ⟨h.out.below hb⟩
theorem laR {w : World} {A : Option Addr} {c : Nat} {l : List Ent} (h : Aside0 (Rd w A c l)) (o : Obj) : Aside0 (Rd (w.alloc o) A c l) := ⟨h.out.alloc o⟩
theorem laE {x : Ent} {B : Nat} {w : World} (h : Aside0 (BlkE x B w)) (o : Obj) : Aside0 (BlkE x B (w.alloc o)) := ⟨h.out.alloc o⟩
theorem laB {w0 w : World} (h : Aside0 (Bel w0 w)) (o : Obj) : Aside0 (Bel w0 (w.alloc o)) := ⟨h.out.alloc o⟩
theorem ldR {w : World} {A : Option Addr} {c : Nat} {l : List Ent} (h : Aside0 (Rd w A c l)) : Aside0 (Rd w.drew A c l) := ⟨h.out.drew⟩
theorem ldE {x : Ent} {B : Nat} {w : World} (h : Aside0 (BlkE x B w)) : Aside0 (BlkE x B w.drew) := ⟨h.out.drew⟩
theorem ldB {w0 w : World} (h : Aside0 (Bel w0 w)) : Aside0 (Bel w0 w.drew) := ⟨h.out.drew⟩
theorem few_part (p : Prt) (hl : p.l.length ≤ 4398046511104) : ∃ r, (r = true → p.l.length ≤ 8) ∧ ∀ (A : Option Addr) (c : Nat) (w : World), Rd w A c p.l → Calls Try.prog 11 #[vP p A c] w fun e w' => e = .returned (.bool r) ∧ Below w.heap.size w w' := by
  obtain ⟨r, h1, h2⟩ := fewP_l p hl p.l.length 0 (by omega)
  exact ⟨r, h2, fun A c w h => ladelaw4_fewPart.calls _ _ _ _ _ _ _ _ _ _ _ _ _ _ w h.rd h.le h1⟩
theorem readc (s : ByteArray) (w : World) (hs : s.size ≤ 140737488351232) {P : Prt} {n e : Nat} (h : progR s = (P, (n, e))) : Calls Try.prog 20 #[.string s] w fun r w' => ∃ A c, r = .returned (.tuple #[vP P A c, .int .i64 (n : Int), .int .i64 (e : Int)]) ∧ Rd w' A c P.l ∧ Below w.heap.size w w' := by
  have := part_Read s w hs
  rw [h] at this; exact this
theorem samep (a b : Prt) (A : Option Addr) (c : Nat) (A' : Option Addr) (c' : Nat) (w : World) (ha : Rd w A c a.l) (hb : Rd w A' c' b.l) {r : Bool} (hr : sameP a b = r) : Calls Try.prog 18 #[vP a A c, vP b A' c'] w fun e w' => e = .returned (.bool r) ∧ Below w.heap.size w w' := part_Same' a b A c A' c' w ha hb hr
theorem rsamep (a b : Prt) (A : Option Addr) (c : Nat) (A' : Option Addr) (c' : Nat) (w : World) (ha : Rd w A c a.l) (hb : Rd w A' c' b.l) {r : Bool} (hr : sameP a b = r) : Calls Try.prog 19 #[vP a A c, vP b A' c'] w fun e w' => e = .returned (.bool r) ∧ Below w.heap.size w w' := by
  rw [← hr]; exact ref_SamePart a b A c A' c' w ha hb
set_option maxHeartbeats 8000000 in
set_option maxRecDepth 100000 in
theorem known4 (w : World) :
  Calls Try.prog 10 #[] w fun e w' => e = .returned (.bool true) ∧ Below w.heap.size w w' := by
 have HB := Aside0.mk (Bel.refl w)
 go_enter Try.func10, Try.ntmps10
 obtain ⟨C2, hC2⟩ : ∃ C, (match Try.f10.body with | some (.seq _ (.seq _ c)) => c | _ => .skip) = C := ⟨_, rfl⟩
 have HC2 := Aside0.mk hC2
 simp only [Try.f10] at hC2
 rw [hC2]
 clear hC2
 go_wp2_with fail
 replace HB := laB HB (.cells #[.int .i64 5, .int .i64 5, .slice none 0 0, .int .i64 0, .int .i64 0, .int .i64 0, .int .i64 0, .int .i64 0, .bool false, .bool false] 26)
 obtain ⟨n1, hn1⟩ : ∃ n, w.heap.size = n := ⟨_, rfl⟩
 try rw [hn1]
 have HP : Aside0 (BlkP ⟨5, 5, [], 0, 0, 0, 0, 0, false, false⟩ none 0 n1 (w.alloc (.cells #[.int .i64 5, .int .i64 5, .slice none 0 0, .int .i64 0, .int .i64 0, .int .i64 0, .int .i64 0, .int .i64 0, .bool false, .bool false] 26))) := ⟨(by have hq := BlkP.new ⟨5, 5, [], 0, 0, 0, 0, 0, false, false⟩ none 0 w; rw [hn1] at hq; exact hq)⟩
 obtain ⟨W1, hW1⟩ : ∃ W, w.alloc (.cells #[.int .i64 5, .int .i64 5, .slice none 0 0, .int .i64 0, .int .i64 0, .int .i64 0, .int .i64 0, .int .i64 0, .bool false, .bool false] 26) = W := ⟨_, rfl⟩
 rw [hW1] at HB HP ⊢
 clear hW1
 clear hn1
 obtain ⟨hp0, hp1, hp2, hp3, hp4, hp5, hp6, hp7, hp8, hp9⟩ := HP.out.box
 dsimp only [List.length_nil] at hp0 hp1 hp2 hp3 hp4 hp5 hp6 hp7 hp8 hp9
 have hC2 := HC2.out
 simp only [Try.f10] at hC2
 subst hC2
 clear HC2
 obtain ⟨C4, hC4⟩ : ∃ C, (match Try.f10.body with | some (.seq _ (.seq _ (.seq _ (.seq _ c)))) => c | _ => .skip) = C := ⟨_, rfl⟩
 have HC4 := Aside0.mk hC4
 simp only [Try.f10] at hC4
 rw [hC4]
 clear hC4
 go_wp2_with fail
 go_at_call 12
 refine (part_Bytes p5 none 0 _ (Rd.nil _) kb_1).mono ?_
 rintro e w1 ⟨rfl, hw1⟩
 replace HB := lbB HB hw1
 replace HP := lbP HP hw1
 clear hw1
 clear hp0 hp1 hp2 hp3 hp4 hp5 hp6 hp7 hp8 hp9
 obtain ⟨hp0, hp1, hp2, hp3, hp4, hp5, hp6, hp7, hp8, hp9⟩ := HP.out.box
 go_wp2_with fail
 go_at_call 20
 refine (readc _ _ (by decide) kb_4).mono ?_
 rintro e w2 ⟨A3, c3, rfl, hrd, hw2⟩
 replace HB := lbB HB hw2
 replace HP := lbP HP hw2
 have HR3 := Aside0.mk hrd
 clear hrd
 clear hw2
 unfold p5 vP
 dsimp only [List.length_nil]
 go_wp2_with fail
 obtain ⟨n3, hn3⟩ : ∃ n, w2.heap.size = n := ⟨_, rfl⟩
 try rw [hn3]
 replace HB := laB HB (.cells #[.int .i64 5, .int .i64 5, .slice A3 0 c3, .int .i64 0, .int .i64 0, .int .i64 0, .int .i64 0, .int .i64 0, .bool false, .bool false] 26)
 replace HP := laP HP (.cells #[.int .i64 5, .int .i64 5, .slice A3 0 c3, .int .i64 0, .int .i64 0, .int .i64 0, .int .i64 0, .int .i64 0, .bool false, .bool false] 26)
 replace HR3 := laR HR3 (.cells #[.int .i64 5, .int .i64 5, .slice A3 0 c3, .int .i64 0, .int .i64 0, .int .i64 0, .int .i64 0, .int .i64 0, .bool false, .bool false] 26)
 have HQ : Aside0 (BlkP ⟨5, 5, [], 0, 0, 0, 0, 0, false, false⟩ A3 c3 n3 (w2.alloc (.cells #[.int .i64 5, .int .i64 5, .slice A3 0 c3, .int .i64 0, .int .i64 0, .int .i64 0, .int .i64 0, .int .i64 0, .bool false, .bool false] 26))) := ⟨(by have hq := BlkP.new ⟨5, 5, [], 0, 0, 0, 0, 0, false, false⟩ A3 c3 w2; rw [hn3] at hq; exact hq)⟩
 obtain ⟨W3, hW3⟩ : ∃ W, w2.alloc (.cells #[.int .i64 5, .int .i64 5, .slice A3 0 c3, .int .i64 0, .int .i64 0, .int .i64 0, .int .i64 0, .int .i64 0, .bool false, .bool false] 26) = W := ⟨_, rfl⟩
 rw [hW3] at HB HP HR3 HQ ⊢
 clear hW3
 clear hn3
 have hC4 := HC4.out
 simp only [Try.f10] at hC4
 subst hC4
 clear HC4
 obtain ⟨C5, hC5⟩ : ∃ C, (match Try.f10.body with | some (.seq _ (.seq _ (.seq _ (.seq _ (.seq _ c))))) => c | _ => .skip) = C := ⟨_, rfl⟩
 have HC5 := Aside0.mk hC5
 simp only [Try.f10] at hC5
 rw [hC5]
 clear hC5
 go_wp2_with fail
 obtain ⟨n4, hn4⟩ : ∃ n, W3.heap.size = n := ⟨_, rfl⟩
 have hre := Rd.one W3 ⟨3, 1, ⟨#[97, 98]⟩⟩
 rw [hn4] at hre
 have hn5 : (W3.alloc (.cells #[.int .i64 3, .int .i64 1, .string ⟨#[97, 98]⟩] 28)).heap.size = n4 + 1 := by rw [World.size_alloc, hn4]
 try rw [hn4]
 try rw [hn5]
 try rw [World.size_alloc, hn4]
 replace HB := laB HB (.cells #[.int .i64 3, .int .i64 1, .string ⟨#[97, 98]⟩] 28)
 replace HP := laP HP (.cells #[.int .i64 3, .int .i64 1, .string ⟨#[97, 98]⟩] 28)
 replace HR3 := laR HR3 (.cells #[.int .i64 3, .int .i64 1, .string ⟨#[97, 98]⟩] 28)
 replace HQ := laP HQ (.cells #[.int .i64 3, .int .i64 1, .string ⟨#[97, 98]⟩] 28)
 have HRE := Aside0.mk hre
 obtain ⟨W4, hW4⟩ : ∃ W, W3.alloc (.cells #[.int .i64 3, .int .i64 1, .string ⟨#[97, 98]⟩] 28) = W := ⟨_, rfl⟩
 rw [hW4] at hn5 HB HP HR3 HQ HRE ⊢
 clear hW4 hre hn4
 replace HB := laB HB (.cells #[.int .i64 1, .int .i64 1, .slice (some ⟨n4, 0, none⟩) 1 1, .int .i64 0, .int .i64 0, .int .i64 0, .int .i64 0, .int .i64 0, .bool false, .bool false] 26)
 replace HP := laP HP (.cells #[.int .i64 1, .int .i64 1, .slice (some ⟨n4, 0, none⟩) 1 1, .int .i64 0, .int .i64 0, .int .i64 0, .int .i64 0, .int .i64 0, .bool false, .bool false] 26)
 replace HR3 := laR HR3 (.cells #[.int .i64 1, .int .i64 1, .slice (some ⟨n4, 0, none⟩) 1 1, .int .i64 0, .int .i64 0, .int .i64 0, .int .i64 0, .int .i64 0, .bool false, .bool false] 26)
 replace HQ := laP HQ (.cells #[.int .i64 1, .int .i64 1, .slice (some ⟨n4, 0, none⟩) 1 1, .int .i64 0, .int .i64 0, .int .i64 0, .int .i64 0, .int .i64 0, .bool false, .bool false] 26)
 replace HRE := laR HRE (.cells #[.int .i64 1, .int .i64 1, .slice (some ⟨n4, 0, none⟩) 1 1, .int .i64 0, .int .i64 0, .int .i64 0, .int .i64 0, .int .i64 0, .bool false, .bool false] 26)
 have HA : Aside0 (BlkP ⟨1, 1, [⟨3, 1, ⟨#[97, 98]⟩⟩], 0, 0, 0, 0, 0, false, false⟩ (some ⟨n4, 0, none⟩) 1 (n4 + 1) (W4.alloc (.cells #[.int .i64 1, .int .i64 1, .slice (some ⟨n4, 0, none⟩) 1 1, .int .i64 0, .int .i64 0, .int .i64 0, .int .i64 0, .int .i64 0, .bool false, .bool false] 26))) := ⟨(by have hq := BlkP.new ⟨1, 1, [⟨3, 1, ⟨#[97, 98]⟩⟩], 0, 0, 0, 0, 0, false, false⟩ (some ⟨n4, 0, none⟩) 1 W4; rw [hn5] at hq; exact hq)⟩
 obtain ⟨W5, hW5⟩ : ∃ W, W4.alloc (.cells #[.int .i64 1, .int .i64 1, .slice (some ⟨n4, 0, none⟩) 1 1, .int .i64 0, .int .i64 0, .int .i64 0, .int .i64 0, .int .i64 0, .bool false, .bool false] 26) = W := ⟨_, rfl⟩
 rw [hW5] at HB HP HR3 HQ HRE HA ⊢
 clear hW5
 clear hn5
 have hC5 := HC5.out
 simp only [Try.f10] at hC5
 subst hC5
 clear HC5
 clear hp0 hp1 hp2 hp3 hp4 hp5 hp6 hp7 hp8 hp9
 obtain ⟨hp0, hp1, hp2, hp3, hp4, hp5, hp6, hp7, hp8, hp9⟩ := HP.out.box
 obtain ⟨hq0, hq1, hq2, hq3, hq4, hq5, hq6, hq7, hq8, hq9⟩ := HQ.out.box
 obtain ⟨ha0, ha1, ha2, ha3, ha4, ha5, ha6, ha7, ha8, ha9⟩ := HA.out.box
 dsimp only [List.length_nil, List.length_cons, Nat.zero_add] at hp0 hp1 hp2 hp3 hp4 hp5 hp6 hp7 hp8 hp9 hq0 hq1 hq2 hq3 hq4 hq5 hq6 hq7 hq8 hq9 ha0 ha1 ha2 ha3 ha4 ha5 ha6 ha7 ha8 ha9
 go_wp2_with fail
 go_at_call 12
 refine (part_Bytes a4 (some ⟨n4, 0, none⟩) 1 _ HRE.out kb_2).mono ?_
 rintro e w3 ⟨rfl, hw3⟩
 replace HB := lbB HB hw3
 replace HP := lbP HP hw3
 replace HR3 := lbR HR3 hw3
 replace HQ := lbP HQ hw3
 replace HRE := lbR HRE hw3
 replace HA := lbP HA hw3
 clear hw3
 clear hp0 hp1 hp2 hp3 hp4 hp5 hp6 hp7 hp8 hp9 hq0 hq1 hq2 hq3 hq4 hq5 hq6 hq7 hq8 hq9 ha0 ha1 ha2 ha3 ha4 ha5 ha6 ha7 ha8 ha9
 obtain ⟨hp0, hp1, hp2, hp3, hp4, hp5, hp6, hp7, hp8, hp9⟩ := HP.out.box
 obtain ⟨hq0, hq1, hq2, hq3, hq4, hq5, hq6, hq7, hq8, hq9⟩ := HQ.out.box
 obtain ⟨ha0, ha1, ha2, ha3, ha4, ha5, ha6, ha7, ha8, ha9⟩ := HA.out.box
 dsimp only [List.length_nil, List.length_cons, Nat.zero_add] at hp0 hp1 hp2 hp3 hp4 hp5 hp6 hp7 hp8 hp9 hq0 hq1 hq2 hq3 hq4 hq5 hq6 hq7 hq8 hq9 ha0 ha1 ha2 ha3 ha4 ha5 ha6 ha7 ha8 ha9
 go_wp2_with fail
 go_at_call 12
 refine (part_Bytes ZP none 0 _ (Rd.nil _) kb_3).mono ?_
 rintro e w4 ⟨rfl, hw4⟩
 replace HB := lbB HB hw4
 replace HP := lbP HP hw4
 replace HR3 := lbR HR3 hw4
 replace HQ := lbP HQ hw4
 replace HRE := lbR HRE hw4
 replace HA := lbP HA hw4
 clear hw4
 clear hp0 hp1 hp2 hp3 hp4 hp5 hp6 hp7 hp8 hp9 hq0 hq1 hq2 hq3 hq4 hq5 hq6 hq7 hq8 hq9 ha0 ha1 ha2 ha3 ha4 ha5 ha6 ha7 ha8 ha9
 obtain ⟨hp0, hp1, hp2, hp3, hp4, hp5, hp6, hp7, hp8, hp9⟩ := HP.out.box
 obtain ⟨hq0, hq1, hq2, hq3, hq4, hq5, hq6, hq7, hq8, hq9⟩ := HQ.out.box
 obtain ⟨ha0, ha1, ha2, ha3, ha4, ha5, ha6, ha7, ha8, ha9⟩ := HA.out.box
 dsimp only [List.length_nil, List.length_cons, Nat.zero_add] at hp0 hp1 hp2 hp3 hp4 hp5 hp6 hp7 hp8 hp9 hq0 hq1 hq2 hq3 hq4 hq5 hq6 hq7 hq8 hq9 ha0 ha1 ha2 ha3 ha4 ha5 ha6 ha7 ha8 ha9
 go_wp2_with fail
 go_at_call 15
 refine (isp4 a4 (some ⟨n4, 0, none⟩) 1 _ HRE.out isP_a4).mono ?_
 rintro e w5 ⟨rfl, hw5⟩
 replace HB := lbB HB hw5
 replace HP := lbP HP hw5
 replace HR3 := lbR HR3 hw5
 replace HQ := lbP HQ hw5
 replace HRE := lbR HRE hw5
 replace HA := lbP HA hw5
 clear hw5
 clear hp0 hp1 hp2 hp3 hp4 hp5 hp6 hp7 hp8 hp9 hq0 hq1 hq2 hq3 hq4 hq5 hq6 hq7 hq8 hq9 ha0 ha1 ha2 ha3 ha4 ha5 ha6 ha7 ha8 ha9
 obtain ⟨hp0, hp1, hp2, hp3, hp4, hp5, hp6, hp7, hp8, hp9⟩ := HP.out.box
 obtain ⟨hq0, hq1, hq2, hq3, hq4, hq5, hq6, hq7, hq8, hq9⟩ := HQ.out.box
 obtain ⟨ha0, ha1, ha2, ha3, ha4, ha5, ha6, ha7, ha8, ha9⟩ := HA.out.box
 dsimp only [List.length_nil, List.length_cons, Nat.zero_add] at hp0 hp1 hp2 hp3 hp4 hp5 hp6 hp7 hp8 hp9 hq0 hq1 hq2 hq3 hq4 hq5 hq6 hq7 hq8 hq9 ha0 ha1 ha2 ha3 ha4 ha5 ha6 ha7 ha8 ha9
 go_wp2_with fail
 go_at_call 18
 refine (samep a4 a4 (some ⟨n4, 0, none⟩) 1 (some ⟨n4, 0, none⟩) 1 _ HRE.out HRE.out (sameP_iff.2 rfl)).mono ?_
 rintro e w6 ⟨rfl, hw6⟩
 replace HB := lbB HB hw6
 replace HP := lbP HP hw6
 replace HR3 := lbR HR3 hw6
 replace HQ := lbP HQ hw6
 replace HRE := lbR HRE hw6
 replace HA := lbP HA hw6
 clear hw6
 go_wp2_with fail
 go_at_call 16
 refine (isE_calls ⟨1, 1, ⟨#[]⟩⟩ _ (b := true) (by decide)).mono ?_
 rintro e w7 ⟨rfl, hw7⟩
 replace HB := lbB HB hw7
 replace HP := lbP HP hw7
 replace HR3 := lbR HR3 hw7
 replace HQ := lbP HQ hw7
 replace HRE := lbR HRE hw7
 replace HA := lbP HA hw7
 clear hw7
 go_wp2_with fail
 go_at_call 16
 refine (isE_calls ⟨0, 0, ⟨#[]⟩⟩ _ (b := false) (by decide)).mono ?_
 rintro e w8 ⟨rfl, hw8⟩
 replace HB := lbB HB hw8
 replace HP := lbP HP hw8
 replace HR3 := lbR HR3 hw8
 replace HQ := lbP HQ hw8
 replace HRE := lbR HRE hw8
 replace HA := lbP HA hw8
 clear hw8
 go_wp2_with fail
 go_ret
 exact ⟨rfl, HB.out.b⟩
end Go.Proofs.Ytokjhocjemjfiaa.PartW
