/- HeadNames: other names, longer ones, without digits, of number nought aren't any segment's. -/
import Derived.Test.YtjiojcoddildgaaQx1
import Derived.Test.YtjiojcoddildgaaHeadM
import Derived.Laws.BytesArg
import Derived.Test.YtjiojcoddildgaaReg
namespace Go.Proofs.Ytjiojcoddildgaa.Q
open Go Go.RowKit Go.Proofs.Ytjiojcoddildgaa.Reg Go.Proofs.Ytjiojcoddildgaa.CrcW Go.Proofs.Ytjiojcoddildgaa.CrcM Go.Proofs.Ytjiojcoddildgaa.Seq Go.Proofs.Ytjiojcoddildgaa.HeadW Go.Proofs.Ytjiojcoddildgaa.HeadM Go.Proofs.YtjiojcoddildgaaW.PrintWords Go.Proofs.YtjiojcoddildgaaW.PrintLast Go.Proofs.YtjiojcoddildgaaW.PrintMore
theorem names_known (w : World) : Calls Try.prog 7 #[] w fun e w' => e = .returned (.bool true) ∧ Below w.heap.size w w' := ladelaw10_known.calls 5 true w (known_q 0)
theorem names_id (s : ByteArray) (hs : s.size ≤ 140737488351232) {n : Int} {b : Bool} (h : (((idN s).1 : Nat) : Int) = n ∧ (idN s).2 = b) (w : World) : Calls Try.prog 8 #[.string s] w fun e w' => e = .returned (.tuple #[.int .i64 n, .bool b]) ∧ Below w.heap.size w w' := by
  have := id_calls s hs w
  rw [h.1, h.2] at this; exact this
theorem names_name (id : Int) {t : ByteArray} (h : nameS (heldN id) = t) (w : World) : Calls Try.prog 11 #[.int .i64 id] w fun e w' => e = .returned (.string t) ∧ Below w.heap.size w w' := by
  rw [← h]; exact name_calls id w
theorem id_size {s : ByteArray} (h : s.size ≠ 12) : (((idN s).1 : Nat) : Int) = 0 ∧ (idN s).2 = false := by
  have hb : (idN s).2 = false := by
    cases hh : (idN s).2 with
    | false => rfl
    | true => exact absurd ((congrArg ByteArray.size (id_ok hh).2.2).symm.trans (nameS_size _)) h
  exact ⟨by rw [id_no hb]; rfl, hb⟩
def zeroS : ByteArray := ⟨#[115, 101, 103, 45, 48, 48, 48, 48, 48, 48, 48, 48]⟩
theorem id_zero : (((idN zeroS).1 : Nat) : Int) = 0 ∧ (idN zeroS).2 = false := by
  have h : decN zeroS = 0 := by decide +kernel
  have : idN zeroS = (0, false) := by unfold idN; rw [if_pos (.inr (.inl h))]
  rw [this]; exact ⟨rfl, rfl⟩
theorem names_s0 (s : ByteArray) (hs : s.size = 12) (w : World) : Calls Try.prog 8 #[.string (s ++ ⟨#[48]⟩)] w fun e w' => e = .returned (.tuple #[.int .i64 0, .bool false]) ∧ Below w.heap.size w w' := by
  have hz : (s ++ (⟨#[48]⟩ : ByteArray)).size = 13 := by rw [app_size, hs]; rfl
  exact names_id _ (by rw [hz]; decide) (id_size (by rw [hz]; decide)) w
theorem names_zero (w : World) : Calls Try.prog 8 #[.string ⟨#[115, 101, 103, 45, 48, 48, 48, 48, 48, 48, 48, 48]⟩] w fun e w' => e = .returned (.tuple #[.int .i64 0, .bool false]) ∧ Below w.heap.size w w' := names_id zeroS (by decide) id_zero w
/-- bytes of which one is another -/
def turnS (l : List UInt8) (k : Nat) (y : UInt8) (m : Nat) : ByteArray := strOfNums ((List.range m).map fun j => ((if j = k then y else l.getD j 0).toNat : Int))
theorem turnS_size (l : List UInt8) (k : Nat) (y : UInt8) (m : Nat) : (turnS l k y m).size = m := by unfold turnS; rw [strOfNums_size]; simp
theorem turnS_at (l : List UInt8) (k : Nat) (y : UInt8) (m j : Nat) (h : j < m) : (turnS l k y m).data.toList.getD j 0 = if j = k then y else l.getD j 0 := by
  unfold turnS
  rw [strOfNums_data, List.map_map, List.getD, List.getElem?_map, List.getElem?_range h]
  show UInt8.ofNat ((if j = k then y else l.getD j 0).toNat : Int).toNat = _
  rw [Int.toNat_natCast, UInt8.ofNat_toNat]
theorem list_at {a b : ByteArray} (hz : a.size = b.size) (h : ∀ j, j < a.size → a.data.toList.getD j 0 = b.data.toList.getD j 0) : a = b := by
  apply bytes_eq
  apply List.ext_getElem
  · rw [ba_len, ba_len, hz]
  · intro j h1 h2
    have := h j (by rw [← ba_len]; exact h1)
    rwa [List.getD, List.getD, List.getElem?_eq_getElem h1, List.getElem?_eq_getElem h2] at this
theorem names_cells {W0 : World} {B k : Nat} {l : List UInt8} {y : UInt8} {N : Nat} (hk : k < N) (hcell : ∀ j, j < N → W0.cell? ⟨B, j, none⟩ = some (.int .u8 (l.getD j 0).toNat)) :
    ∀ j, j < N → (W0.setCell ⟨B, k, none⟩ (.int .u8 (y.toNat : Int))).cell? ⟨B, j, none⟩ = some (if j = k then .int .u8 (y.toNat : Int) else .int .u8 (l.getD j 0).toNat) := by
  intro j hj
  split
  · rename_i e; subst e
    exact World.cell?_setCell_same' _ _ _ (by rw [hcell j hj]; rfl)
  · rename_i e
    rw [World.cell?_setCell_other W0 ⟨B, k, none⟩ ⟨B, j, none⟩ _ (fun x => e (by cases x; rfl))]
    exact hcell j hj
def TurnedAt (W : World) (B : Nat) (l : List UInt8) (k : Nat) (y : UInt8) : Prop := ∀ j, j < 12 → W.cell? ⟨B, j, none⟩ = some (if j = k then .int .u8 (y.toNat : Int) else .int .u8 (l.getD j 0).toNat)
theorem TurnedAt.below {W W' : World} {B : Nat} {l : List UInt8} {k : Nat} {y : UInt8} (h : TurnedAt W B l k y) (hb : Below W.heap.size W W') : TurnedAt W' B l k y := fun j hj =>
  (hb.cell (p := ⟨B, j, none⟩) (World.block_lt_of_cell? _ _ (h j hj))).trans (h j hj)
theorem TurnedAt.conv {W : World} {B k : Nat} {l : List UInt8} {y : UInt8} (hcell : TurnedAt W B l k y) (cap : Nat) :
    (convert 30 9 (.slice (some ⟨B, 0, none⟩) 12 cap)).run Try.prog W = .ok (.string (turnS l k y 12)) W :=
  run_convert_bytes_arg (P := Try.prog) _ 30 5 Try.underlying30 Try.underlying5 B 0 12 cap _ (by simp) (fun i hi => by
    rw [Nat.zero_add, hcell i (by omega)]
    simp only [List.getD, List.getElem?_map, List.getElem?_range hi]
    show some (if i = k then Value.int .u8 (y.toNat : Int) else Value.int .u8 ((l[i]?.getD 0).toNat : Int)) = some (Value.int .u8 (((if i = k then y else l[i]?.getD 0).toNat : Nat) : Int))
    split <;> rfl) 9 Try.underlying9
set_option maxHeartbeats 4000000 in
set_option maxRecDepth 100000 in
theorem names_same (I A : Nat) (y : UInt8) (w : World) (hi : I < 4294967296) (ha : A < 256) (x k : Nat) (hx : I % 99999999 + 1 = x) (hk : A % 12 = k) (s t : ByteArray) (hs : nameS x = s) (ht : turnS s.data.toList k y 12 = t) (hst : t = s) :
    Calls Try.prog 5 #[.int .u32 (I : Int), .int .u8 (A : Int), .int .u8 (y.toNat : Int)] w fun e w' => e = .returned (.bool true) ∧ Below w.heap.size w w' := by
  have hx1 : 1 ≤ x := by omega
  have hx2 : x ≤ 99999999 := by omega
  obtain ⟨r, hr⟩ : ∃ r : Nat, I % 99999999 = r := ⟨_, rfl⟩
  have hr1 : Int.tmod (I : Int) 99999999 = (r : Int) := by rw [Int.tmod_eq_emod_of_nonneg (by omega)]; omega
  have hr2 : (I : Int) % 99999999 = (r : Int) := by omega
  have hrx : (r : Int) + 1 = (x : Int) := by omega
  have hk12 : k < 12 := by omega
  have hk1 : Int.tmod (A : Int) 12 = (k : Int) := by rw [Int.tmod_eq_emod_of_nonneg (by omega)]; omega
  have hk2 : (A : Int) % 12 = (k : Int) := by omega
  have hrl : r < 99999999 := by omega
  have hsz : s.size = 12 := by rw [← hs]; exact nameS_size x
  have HTZ := Aside0.mk (show t.size = 12 by rw [← ht]; exact turnS_size _ _ _ _)
  have HNX := Aside0.mk (show nameS (heldN (x : Int)) = s by rw [held_same hx1 hx2]; exact hs)
  have HS := Aside0.mk hs
  have HTE := Aside0.mk ht
  obtain rfl : s = t := hst.symm
  have HID := Aside0.mk (show (((idN s).1 : Nat) : Int) = (x : Int) ∧ (idN s).2 = true by rw [← hs, id_name x hx1 hx2]; exact ⟨rfl, rfl⟩)
  have e1 : (s.toList == s.toList) = true := beq_self_eq_true _
  have e2 : ((x : Int) == (x : Int)) = true := beq_self_eq_true _
  clear hst
  clear hs ht hi ha hx hk hx1 hr
  go_enter Try.func5, Try.ntmps5
  go_wp2_with (first | (go_at_call 7; refine (names_known _).mono ?_; rintro e w1 ⟨rfl, hb1⟩) | (go_at_call_of 11 (Value.int .i64 (x : Int)); refine (names_name (x : Int) HNX.out _).mono ?_; rintro e w2 ⟨rfl, hb2⟩) | (refine wpList_bytes _ rfl 9 30 _ rfl 5 s rfl Try.underlying9 Try.underlying30 Try.underlying5 ?_; intro cap W0 hon hsz0 hcell hfr; have hc := hcell k (by omega); have hf := hfr k (by omega); have hcells : TurnedAt _ _ _ _ _ := names_cells (y := y) hk12 (fun j hj => hcell j (by omega)); have hcv1 := hcells.conv cap; rw [HTE.out] at hcv1; have HCS := Aside0.mk hcells; have HON := Aside0.mk hon; clear hcells hcell hfr hon hsz0) | (go_at_call_of 8 (Value.string s); refine (names_id s (by have := HTZ.out; omega) HID.out _).mono ?_; rintro e w3 ⟨rfl, hb3⟩; have HCS3 := Aside0.mk (HCS.out.below hb3); have hcv3 := HCS3.out.conv cap; rw [HTE.out] at hcv3) | (go_at_call 8; with_reducible refine (names_s0 s hsz _).mono ?_; rintro e w4 ⟨rfl, hb4⟩; have HCS4 := Aside0.mk (HCS3.out.below hb4)) | (go_at_call 8; with_reducible refine (names_zero _).mono ?_; rintro e w5 ⟨rfl, hb5⟩; have HCS5 := Aside0.mk (HCS4.out.below hb5)))
  all_goals
   (go_ret
    have g2 := below_cls w _ _ hb1 hb2
    have g3 : Below w.heap.size w W0 := g2.trans ((HON.out (fun _ => False)).below g2.size (fun _ _ h => h))
    have g4 := g3.setCell (p := ⟨w2.heap.size, k, none⟩) g2.size (.int .u8 (y.toNat : Int))
    have g5 := below_cls w _ _ g4 hb3
    exact ⟨rfl, g5⟩)
set_option maxHeartbeats 4000000 in
set_option maxRecDepth 100000 in
theorem names_no (I A : Nat) (y : UInt8) (w : World) (hi : I < 4294967296) (ha : A < 256) (x k : Nat) (hx : I % 99999999 + 1 = x) (hk : A % 12 = k) (s t : ByteArray) (hs : nameS x = s) (ht : turnS s.data.toList k y 12 = t) (hst : t ≠ s) (b1 b2 b3 : Bool) (d1 : decide ((48 : Int) ≤ (y.toNat : Int)) = b1) (d2 : decide ((y.toNat : Int) ≤ 57) = b2) (d3 : decide ((4 : Int) ≤ (k : Int)) = b3) (hid : (idN t).2 = false) :
    Calls Try.prog 5 #[.int .u32 (I : Int), .int .u8 (A : Int), .int .u8 (y.toNat : Int)] w fun e w' => e = .returned (.bool true) ∧ Below w.heap.size w w' := by
  have hx1 : 1 ≤ x := by omega
  have hx2 : x ≤ 99999999 := by omega
  obtain ⟨r, hr⟩ : ∃ r : Nat, I % 99999999 = r := ⟨_, rfl⟩
  have hr1 : Int.tmod (I : Int) 99999999 = (r : Int) := by rw [Int.tmod_eq_emod_of_nonneg (by omega)]; omega
  have hr2 : (I : Int) % 99999999 = (r : Int) := by omega
  have hrx : (r : Int) + 1 = (x : Int) := by omega
  have hk12 : k < 12 := by omega
  have hk1 : Int.tmod (A : Int) 12 = (k : Int) := by rw [Int.tmod_eq_emod_of_nonneg (by omega)]; omega
  have hk2 : (A : Int) % 12 = (k : Int) := by omega
  have hrl : r < 99999999 := by omega
  have hsz : s.size = 12 := by rw [← hs]; exact nameS_size x
  have HTZ := Aside0.mk (show t.size = 12 by rw [← ht]; exact turnS_size _ _ _ _)
  have HNX := Aside0.mk (show nameS (heldN (x : Int)) = s by rw [held_same hx1 hx2]; exact hs)
  have HS := Aside0.mk hs
  have HTE := Aside0.mk ht
  have HID := Aside0.mk (show (((idN t).1 : Nat) : Int) = 0 ∧ (idN t).2 = false from ⟨by rw [id_no hid]; rfl, hid⟩)
  have e1 : (t.toList == s.toList) = false := beq_eq_false_iff_ne.2 (fun e => hst (list_inj.1 e))
  have hj : (9223372036854775807 < 12 + 1) = False := eq_false (by omega)
  have hj0 : (12 + 1 ≤ 9223372036854775807) = True := eq_true (by omega)
  clear hst hid
  cases b1 <;> cases b2 <;> cases b3
  all_goals
   (clear hs ht hi ha hx hk hx1 hr
    go_enter Try.func5, Try.ntmps5
    go_wp2_with (first | (go_at_call 7; refine (names_known _).mono ?_; rintro e w1 ⟨rfl, hb1⟩) | (go_at_call_of 11 (Value.int .i64 (x : Int)); refine (names_name (x : Int) HNX.out _).mono ?_; rintro e w2 ⟨rfl, hb2⟩) | (refine wpList_bytes _ rfl 9 30 _ rfl 5 s rfl Try.underlying9 Try.underlying30 Try.underlying5 ?_; intro cap W0 hon hsz0 hcell hfr; have hc := hcell k (by omega); have hf := hfr k (by omega); have hcells : TurnedAt _ _ _ _ _ := names_cells (y := y) hk12 (fun j hj => hcell j (by omega)); have hcv1 := hcells.conv cap; rw [HTE.out] at hcv1; have HCS := Aside0.mk hcells; have HON := Aside0.mk hon; clear hcells hcell hfr hon hsz0) | (go_at_call_of 8 (Value.string t); refine (names_id t (by have := HTZ.out; omega) HID.out _).mono ?_; rintro e w3 ⟨rfl, hb3⟩; have HCS3 := Aside0.mk (HCS.out.below hb3); have hcv3 := HCS3.out.conv cap; rw [HTE.out] at hcv3) | (go_at_call 8; with_reducible refine (names_s0 s hsz _).mono ?_; rintro e w4 ⟨rfl, hb4⟩; have HCS4 := Aside0.mk (HCS3.out.below hb4)) | (go_at_call 8; with_reducible refine (names_zero _).mono ?_; rintro e w5 ⟨rfl, hb5⟩; have HCS5 := Aside0.mk (HCS4.out.below hb5)))
    have g2 := below_cls w _ _ hb1 hb2
    have g3 : Below w.heap.size w W0 := g2.trans ((HON.out (fun _ => False)).below g2.size (fun _ _ h => h))
    have g4 := g3.setCell (p := ⟨w2.heap.size, k, none⟩) g2.size (.int .u8 (y.toNat : Int))
    have g5 := below_cls w _ _ g4 hb3
    have g6 := below_cls w _ _ (below_cls w _ _ g5 hb4) hb5
    (refine wp_region_cls (Below w.heap.size w) (by kernel_rfl) (by kernel_rfl) (below_drew g6) ?_)
    have inst : Nonempty (Cls (Below w.heap.size w)) := ⟨⟨w, Below.refl _ _⟩⟩
    repeat (go_big_quiet_step (fail))
    refine wpQuiet_nil ?_
    rintro _ ⟨p, rfl⟩
    have hp := p.ok
    generalize p.w = W at hp ⊢
    clear p
    go_wp2
    go_ret
    exact ⟨rfl, hp⟩)
set_option maxHeartbeats 4000000 in
set_option maxRecDepth 100000 in
theorem names_ok (I A : Nat) (y : UInt8) (w : World) (hi : I < 4294967296) (ha : A < 256) (x k : Nat) (hx : I % 99999999 + 1 = x) (hk : A % 12 = k) (s t : ByteArray) (hs : nameS x = s) (ht : turnS s.data.toList k y 12 = t) (hst : t ≠ s) (n : Int) (d1 : decide ((48 : Int) ≤ (y.toNat : Int)) = true) (d2 : decide ((y.toNat : Int) ≤ 57) = true) (d3 : decide ((4 : Int) ≤ (k : Int)) = true) (hid : (((idN t).1 : Nat) : Int) = n ∧ (idN t).2 = true) (hn : nameS (heldN n) = t) :
    Calls Try.prog 5 #[.int .u32 (I : Int), .int .u8 (A : Int), .int .u8 (y.toNat : Int)] w fun e w' => e = .returned (.bool true) ∧ Below w.heap.size w w' := by
  have hx1 : 1 ≤ x := by omega
  have hx2 : x ≤ 99999999 := by omega
  obtain ⟨r, hr⟩ : ∃ r : Nat, I % 99999999 = r := ⟨_, rfl⟩
  have hr1 : Int.tmod (I : Int) 99999999 = (r : Int) := by rw [Int.tmod_eq_emod_of_nonneg (by omega)]; omega
  have hr2 : (I : Int) % 99999999 = (r : Int) := by omega
  have hrx : (r : Int) + 1 = (x : Int) := by omega
  have hk12 : k < 12 := by omega
  have hk1 : Int.tmod (A : Int) 12 = (k : Int) := by rw [Int.tmod_eq_emod_of_nonneg (by omega)]; omega
  have hk2 : (A : Int) % 12 = (k : Int) := by omega
  have hrl : r < 99999999 := by omega
  have hsz : s.size = 12 := by rw [← hs]; exact nameS_size x
  have HTZ := Aside0.mk (show t.size = 12 by rw [← ht]; exact turnS_size _ _ _ _)
  have HNX := Aside0.mk (show nameS (heldN (x : Int)) = s by rw [held_same hx1 hx2]; exact hs)
  have HS := Aside0.mk hs
  have HTE := Aside0.mk ht
  have HID := Aside0.mk hid
  have HNN := Aside0.mk hn
  have e1 : (t.toList == s.toList) = false := beq_eq_false_iff_ne.2 (fun e => hst (list_inj.1 e))
  have e2 : (t.toList == t.toList) = true := beq_self_eq_true _
  have hj : (9223372036854775807 < 12 + 1) = False := eq_false (by omega)
  have hj0 : (12 + 1 ≤ 9223372036854775807) = True := eq_true (by omega)
  clear hst hid hn
  clear hs ht hi ha hx hk hx1 hr
  go_enter Try.func5, Try.ntmps5
  go_wp2_with (first | (go_at_call 7; refine (names_known _).mono ?_; rintro e w1 ⟨rfl, hb1⟩) | (go_at_call_of 11 (Value.int .i64 (x : Int)); refine (names_name (x : Int) HNX.out _).mono ?_; rintro e w2 ⟨rfl, hb2⟩) | (refine wpList_bytes _ rfl 9 30 _ rfl 5 s rfl Try.underlying9 Try.underlying30 Try.underlying5 ?_; intro cap W0 hon hsz0 hcell hfr; have hc := hcell k (by omega); have hf := hfr k (by omega); have hcells : TurnedAt _ _ _ _ _ := names_cells (y := y) hk12 (fun j hj => hcell j (by omega)); have hcv1 := hcells.conv cap; rw [HTE.out] at hcv1; have HCS := Aside0.mk hcells; have HON := Aside0.mk hon; clear hcells hcell hfr hon hsz0) | (go_at_call_of 8 (Value.string t); refine (names_id t (by have := HTZ.out; omega) HID.out _).mono ?_; rintro e w3 ⟨rfl, hb3⟩; have HCS3 := Aside0.mk (HCS.out.below hb3); have hcv3 := HCS3.out.conv cap; rw [HTE.out] at hcv3) | (go_at_call 8; with_reducible refine (names_s0 s hsz _).mono ?_; rintro e w4 ⟨rfl, hb4⟩; have HCS4 := Aside0.mk (HCS3.out.below hb4)) | (go_at_call 8; with_reducible refine (names_zero _).mono ?_; rintro e w5 ⟨rfl, hb5⟩; have HCS5 := Aside0.mk (HCS4.out.below hb5)))
  have g2 := below_cls w _ _ hb1 hb2
  have g3 : Below w.heap.size w W0 := g2.trans ((HON.out (fun _ => False)).below g2.size (fun _ _ h => h))
  have g4 := g3.setCell (p := ⟨w2.heap.size, k, none⟩) g2.size (.int .u8 (y.toNat : Int))
  have g5 := below_cls w _ _ g4 hb3
  have g6 := below_cls w _ _ (below_cls w _ _ g5 hb4) hb5
  refine wp_region_cls (fun W => Below w.heap.size w W ∧ TurnedAt W w2.heap.size s.data.toList k y) (by kernel_rfl) (by kernel_rfl) ⟨below_drew g6, fun j hj => HCS5.out j hj⟩ ?_
  have inst : Nonempty (Cls (fun W => Below w.heap.size w W ∧ TurnedAt W w2.heap.size s.data.toList k y)) := ⟨⟨w5, ⟨g6, HCS5.out⟩⟩⟩
  have hcl : ∀ A B : World, (Below w.heap.size w A ∧ TurnedAt A w2.heap.size s.data.toList k y) → Below A.heap.size A B → (Below w.heap.size w B ∧ TurnedAt B w2.heap.size s.data.toList k y) := fun A B h hb => ⟨below_cls w _ _ h.1 hb, h.2.below hb⟩
  have HCL := Aside0.mk hcl
  have hcvp : ∀ p : Cls (fun W => Below w.heap.size w W ∧ TurnedAt W w2.heap.size s.data.toList k y), (convert 30 9 (.slice (some ⟨w2.heap.size, 0, none⟩) 12 cap)).run Try.prog p.w = .ok (.string t) p.w := fun p => by
    have := p.ok.2.conv cap; rwa [HTE.out] at this
  clear hcl
  repeat (go_big_quiet_step (first | (go_at_call 11; exact calls_cls HCL.out (names_name n HNN.out _))))
  refine wpQuiet_nil ?_
  rintro _ ⟨p, rfl⟩
  have hp := p.ok
  clear hcvp
  generalize p.w = W at hp ⊢
  clear p
  have HP := Aside0.mk hp
  clear hp
  go_wp2
  go_ret
  exact ⟨rfl, HP.out.1⟩
theorem name_low (n k : Nat) (h : k < 4) : (nameS n).data.toList.getD k 0 = [115, 101, 103, 45].getD k (0 : UInt8) := by
  rw [nameS_data]
  match k, h with
  | 0, _ => rfl
  | 1, _ => rfl
  | 2, _ => rfl
  | 3, _ => rfl
theorem name_high (n k : Nat) (h : 4 ≤ k) (h2 : k < 12) : (nameS n).data.toList.getD k 0 = UInt8.ofNat (dg n (7 - (k - 4))) := by
  rw [nameS_data, List.getD, List.getElem?_append_right (by exact h), List.getElem?_map, List.getElem?_range (by simp; omega)]
  rfl
theorem turn_back (s : ByteArray) (k : Nat) (y : UInt8) (hz : s.size = 12) (h : y = s.data.toList.getD k 0) : turnS s.data.toList k y 12 = s :=
  list_at (by rw [turnS_size, hz]) (fun j hj => by
    rw [turnS_size] at hj
    rw [turnS_at _ _ _ _ _ hj]
    split
    · rename_i e; rw [e, h]
    · rfl)
theorem ladelaw10_HeadNames.walk (_ : True) (id at_ c : Int) (w : World) (w0 : (Lit.int .u32 id).wf = true) (w1 : (Lit.int .u8 at_).wf = true) (w2 : (Lit.int .u8 c).wf = true) :
    Calls Try.prog 5 #[.int .u32 id, .int .u8 at_, .int .u8 c] w fun e w' => e = .returned (.bool true) ∧ Below w.heap.size w w' := by
  have h0 := wf_u32 w0
  have h1 : 0 ≤ at_ ∧ at_ < 256 := by simp [Lit.wf, IntKind.min, IntKind.max, IntKind.bits, IntKind.signed] at w1; omega
  have h2 : 0 ≤ c ∧ c < 256 := by simp [Lit.wf, IntKind.min, IntKind.max, IntKind.bits, IntKind.signed] at w2; omega
  obtain ⟨I, rfl⟩ := Int.eq_ofNat_of_zero_le h0.1
  obtain ⟨A, rfl⟩ := Int.eq_ofNat_of_zero_le h1.1
  obtain ⟨C, rfl⟩ := Int.eq_ofNat_of_zero_le h2.1
  obtain ⟨y, hy⟩ : ∃ y : UInt8, y.toNat = C := ⟨UInt8.ofNat C, ofNat_u8 (by omega)⟩
  subst hy
  obtain ⟨x, hx⟩ : ∃ x : Nat, I % 99999999 + 1 = x := ⟨_, rfl⟩
  obtain ⟨k, hk⟩ : ∃ k : Nat, A % 12 = k := ⟨_, rfl⟩
  obtain ⟨s, hs⟩ : ∃ s, nameS x = s := ⟨_, rfl⟩
  obtain ⟨t, ht⟩ : ∃ t, turnS s.data.toList k y 12 = t := ⟨_, rfl⟩
  have hsz : s.size = 12 := by rw [← hs]; exact nameS_size x
  have hk12 : k < 12 := by omega
  by_cases hst : t = s
  · exact names_same I A y w (by omega) (by omega) x k hx hk s t hs ht hst
  · cases hb : (idN t).2 with
    | false => exact names_no I A y w (by omega) (by omega) x k hx hk s t hs ht hst _ _ _ rfl rfl rfl hb
    | true =>
      obtain ⟨g1, g2, g3⟩ := id_ok hb
      have hty : (nameS (idN t).1).data.toList.getD k 0 = y := by
        rw [g3, ← ht, turnS_at _ _ _ _ _ hk12, if_pos rfl]
      have h4 : 4 ≤ k := by
        apply Classical.byContradiction
        intro h
        rw [name_low _ _ (by omega), ← name_low x k (by omega), hs] at hty
        exact hst (ht.symm.trans (turn_back s k y hsz hty.symm))
      rw [name_high _ _ h4 hk12] at hty
      have hd : y.toNat = dg (idN t).1 (7 - (k - 4)) := by rw [← hty, ofNat_u8 (dg_lt _ _)]
      unfold dg at hd
      exact names_ok I A y w (by omega) (by omega) x k hx hk s t hs ht hst _ (decide_eq_true (by omega)) (decide_eq_true (by omega)) (decide_eq_true (by omega)) ⟨rfl, hb⟩ (by rw [held_same g1 g2]; exact g3)
end Go.Proofs.Ytjiojcoddildgaa.Q
namespace Go.Proofs.Ytjiojcoddildgaa.Pure
theorem HeadNames : True := trivial
end Go.Proofs.Ytjiojcoddildgaa.Pure
