/- HeadTurned: a head with a byte turned is none, of whatever number. -/
import Derived.Test.YtjiojcoddildgaaQx1
import Derived.Test.YtjiojcoddildgaaHeadM
import Derived.Laws.BytesArg
import Derived.Test.YtjiojcoddildgaaReg
namespace Go.Proofs.Ytjiojcoddildgaa.Q
open Go Go.RowKit Go.Proofs.Ytjiojcoddildgaa.Reg Go.Proofs.Ytjiojcoddildgaa.CrcW Go.Proofs.Ytjiojcoddildgaa.CrcM Go.Proofs.Ytjiojcoddildgaa.Seq Go.Proofs.Ytjiojcoddildgaa.HeadW Go.Proofs.Ytjiojcoddildgaa.HeadM Go.Proofs.YtjiojcoddildgaaW.PrintWords Go.Proofs.YtjiojcoddildgaaW.PrintLast Go.Proofs.YtjiojcoddildgaaW.PrintMore
theorem turned_known (w : World) : Calls Try.prog 7 #[] w fun e w' => e = .returned (.bool true) ∧ Below w.heap.size w w' := ladelaw10_known.calls 5 true w (known_q 0)
theorem turned_bytes (id : Int) {t : ByteArray} (h : headS (heldN id) = t) (w : World) : Calls Try.prog 10 #[.int .i64 id] w fun e w' => e = .returned (.string t) ∧ Below w.heap.size w w' := by
  rw [← h]; exact head_Bytes.calls 5 id _ w (Bytes_q id 0)
theorem turned_check (s : ByteArray) (id : Int) {c : Int} (h : checkN s (heldN id) = c) (w : World) : Calls Try.prog 14 #[.string s, .int .i64 id] w fun e w' => e = .returned (.int .i64 c) ∧ Below w.heap.size w w' := by
  rw [← h]; exact head_Check.calls 5 s id _ w (Check_q s id 0)
theorem cell_turn {W : World} {B j k n : Nat} {v u : Value} {g : Nat → Value} (hj : j < n) (hc : W.cell? ⟨B, k, none⟩ = some u) (h : ∀ j, j < n → W.cell? ⟨B, j, none⟩ = some (g j)) :
    (W.setCell ⟨B, k, none⟩ v).cell? ⟨B, j, none⟩ = some (if j = k then v else g j) := by
  split
  · rename_i e; subst e
    exact World.cell?_setCell_same' _ _ _ (by rw [hc]; rfl)
  · rename_i e
    rw [World.cell?_setCell_other W ⟨B, k, none⟩ ⟨B, j, none⟩ v (fun x => e (by cases x; rfl))]
    exact h j hj
/-- bytes of which one is another -/
def turnS (l : List UInt8) (k : Nat) (y : UInt8) (m : Nat) : ByteArray := strOfNums ((List.range m).map fun j => ((if j = k then y else l.getD j 0).toNat : Int))
theorem turnS_size (l : List UInt8) (k : Nat) (y : UInt8) (m : Nat) : (turnS l k y m).size = m := by unfold turnS; rw [strOfNums_size]; simp
theorem turnS_at (l : List UInt8) (k : Nat) (y : UInt8) (m j : Nat) (h : j < m) : (turnS l k y m).data.toList.getD j 0 = if j = k then y else l.getD j 0 := by
  unfold turnS
  rw [strOfNums_data, List.map_map, List.getD, List.getElem?_map, List.getElem?_range h]
  show UInt8.ofNat ((if j = k then y else l.getD j 0).toNat : Int).toNat = _
  rw [Int.toNat_natCast, UInt8.ofNat_toNat]
theorem list_at {a b : ByteArray} (hz : a.size = b.size) (h : ∀ j, j < a.size → a.data.toList.getD j 0 = b.data.toList.getD j 0) : a = b := by
  apply bytes_eq
  apply List.ext_getElem
  · rw [ba_len, ba_len, hz]
  · intro j h1 h2
    have := h j (by rw [← ba_len]; exact h1)
    rwa [List.getD, List.getD, List.getElem?_eq_getElem h1, List.getElem?_eq_getElem h2] at this
theorem xor_ne {x y : UInt8} (h : y ≠ 0) : x ^^^ y ≠ x := by
  intro e
  have e2 : x ^^^ (x ^^^ y) = x ^^^ x := by rw [e]
  rw [← UInt8.xor_assoc, UInt8.xor_self, UInt8.zero_xor] at e2
  exact h e2
theorem turned_bad (x k : Nat) (y : UInt8) (tail : ByteArray) (hk : k < 16) (hy : y ≠ (headS x).data.toList.getD k 0) : checkN (turnS (headS x).data.toList k y 16 ++ tail) x = 4 := by
  have hz := headS_size x
  have hne : turnS (headS x).data.toList k y 16 ≠ headS x := fun e => by
    have := turnS_at (headS x).data.toList k y 16 k hk
    rw [e, if_pos rfl] at this
    exact hy this.symm
  have hs := turnS_size (headS x).data.toList k y 16
  unfold checkN hasP
  rw [hz, app_size, hs]
  have e1 : (turnS (headS x).data.toList k y 16 ++ tail).extract 0 16 = turnS (headS x).data.toList k y 16 := by
    have := ext_pre (turnS (headS x).data.toList k y 16) tail
    rw [hs] at this; exact this
  rw [e1, decide_eq_false hne, Bool.and_false, if_neg (by decide), if_neg]
  intro h
  rw [Bool.and_eq_true, decide_eq_true_eq, decide_eq_true_eq] at h
  obtain ⟨h1, h2⟩ := h
  have e3 : (headS x).extract 0 (16 + tail.size) = headS x := bytes_eq (by rw [ext_data, List.take_of_length_le (by rw [ba_len]; omega)]; rfl)
  rw [e3] at h2
  have h3 : (headS x).extract 0 16 = turnS (headS x).data.toList k y 16 := (congrArg (fun z : ByteArray => z.extract 0 16) h2).trans e1
  have e4 : (headS x).extract 0 16 = headS x := bytes_eq (by rw [ext_data, List.take_of_length_le (by rw [ba_len]; omega)]; rfl)
  exact hne (by rw [← h3, e4])
theorem turned_cut (x k : Nat) (y : UInt8) (hk : k < 16) : checkN (turnS (headS x).data.toList k y k) x = 3 := by
  have hz := headS_size x
  have hs := turnS_size (headS x).data.toList k y k
  have e : turnS (headS x).data.toList k y k = (headS x).extract 0 k := list_at (by rw [hs, ByteArray.size_extract, hz]; omega) (fun j hj => by
    rw [hs] at hj
    rw [turnS_at _ _ _ _ _ hj, if_neg (by omega), ext_data, List.drop_zero, List.getD, List.getD, List.getElem?_take, if_pos hj])
  unfold checkN hasP
  rw [hz, hs, decide_eq_false (show ¬ 16 ≤ k by omega), Bool.false_and, if_neg (by decide), decide_eq_true (show k ≤ 16 by omega), Bool.true_and, decide_eq_true e.symm, if_pos rfl]
theorem xor_at {c y : UInt8} {Y : Nat} (hY : Y < 256) (h : c ^^^ UInt8.ofNat Y = y) : Go.bits .xor .u8 (c.toNat : Int) (Y : Int) = (y.toNat : Int) := by
  have e : ((UInt8.ofNat Y).toNat : Int) = (Y : Int) := by rw [ofNat_u8 hY]
  rw [← e, xor_u8, h]
theorem wpList_bytes_cap {P : Program} (w : World) {ops : Array Oper} {rest : List Oper} {o : Oper} {a : Act} {Q : Exit → Act → World → Prop}
    (hg : o.guard = none) (src dst : TypeId) (x : Operand) (hop : o.op = Op.convert src dst x) (e : TypeId) (s : ByteArray) (hx : a.eval x = .string s)
    (hs : P.underlying src = some .string) (hd : P.underlying dst = some (.slice e)) (he : P.underlying e = some (.int .u8))
    (hK : ∀ cap w', s.size ≤ cap → (∀ U, Only U w w') → w'.heap.size = w.heap.size + 1 → (∀ j, j < s.size → w'.cell? ⟨w.heap.size, j, none⟩ = some (.int .u8 (s.data.toList.getD j 0).toNat)) → (∀ j, j < s.size → w'.frozen? ⟨w.heap.size, j, none⟩ = false) →
      wpList P ops Q rest (a.put o.dst (.slice (some ⟨w.heap.size, 0, none⟩) s.size cap)) w') :
    wpList P ops Q (o :: rest) a w := by
  refine wpList_plain hg fun K hK' => ?_
  unfold Oper.wp
  simp [execOp, hop, hx, Lib.run_convert_string_bytes (P := P) w src dst e s hs hd he, Result.andThen]
  exact hK' _ _ (hK _ _ (grownCap_ge _ _ _ _) (fun U => Only.bytesWorld w e s) (Lib.bytesWorld_size w e s) (fun j hj => Lib.bytesWorld_cell w e s j hj) (fun j hj => bytes_free w e s j hj))
theorem turned_y {l : List UInt8} {k : Nat} {c y : UInt8} {Y : Nat} (hc : l.getD k 0 = c) (hy : c ^^^ UInt8.ofNat Y = y) (h1 : Y < 256) (h0 : Y ≠ 0) : y ≠ l.getD k 0 := by
  rw [hc, ← hy]
  exact xor_ne (fun e => h0 (by have := congrArg UInt8.toNat e; rw [ofNat_u8 h1] at this; exact this))
theorem turned_cells {W0 : World} {B k : Nat} {l : List UInt8} {y : UInt8} {N : Nat} (hk : k < N) (hcell : ∀ j, j < N → W0.cell? ⟨B, j, none⟩ = some (.int .u8 (l.getD j 0).toNat)) :
    ∀ j, j < N → (W0.setCell ⟨B, k, none⟩ (.int .u8 (y.toNat : Int))).cell? ⟨B, j, none⟩ = some (if j = k then .int .u8 (y.toNat : Int) else .int .u8 (l.getD j 0).toNat) := fun _ hj => cell_turn hj (hcell k hk) hcell
theorem turned_conv {W : World} {B k cap : Nat} {l : List UInt8} {y : UInt8} {N : Nat} (hcell : ∀ j, j < N → W.cell? ⟨B, j, none⟩ = some (if j = k then .int .u8 (y.toNat : Int) else .int .u8 (l.getD j 0).toNat)) (m : Nat) (hm : m ≤ N) :
    (convert 30 9 (.slice (some ⟨B, 0, none⟩) m cap)).run Try.prog W = .ok (.string (turnS l k y m)) W :=
  run_convert_bytes_arg (P := Try.prog) _ 30 5 Try.underlying30 Try.underlying5 B 0 m cap _ (by simp) (fun i hi => by
    rw [Nat.zero_add, hcell i (by omega)]
    simp only [List.getD, List.getElem?_map, List.getElem?_range hi]
    show some (if i = k then Value.int .u8 (y.toNat : Int) else Value.int .u8 ((l[i]?.getD 0).toNat : Int)) = some (Value.int .u8 (((if i = k then y else l[i]?.getD 0).toNat : Nat) : Int))
    split <;> rfl) 9 Try.underlying9
set_option maxHeartbeats 4000000 in
set_option maxRecDepth 100000 in
theorem turned_main (I A Y : Nat) (tail : ByteArray) (w : World) (hi : I < 65536) (ha : A < 256) (hb : Y < 256) (h0 : Y ≠ 0) (ht : tail.size ≤ 50) :
    Calls Try.prog 6 #[.int .u16 (I : Int), .int .u8 (A : Int), .int .u8 (Y : Int), .string tail] w fun e w' => e = .returned (.bool true) ∧ Below w.heap.size w w' := by
  have t1 : ((Y : Int) == 0) = false := beq_eq_false_iff_ne.2 (by omega)
  have t2 : decide ((50 : Int) < (tail.size : Int)) = false := decide_eq_false (by omega)
  have t2n : decide (50 < tail.size) = false := decide_eq_false (by omega)
  obtain ⟨x, hx⟩ : ∃ x : Nat, I + 1 = x := ⟨_, rfl⟩
  have hx1 : 1 ≤ x := by omega
  have hx2 : x ≤ 99999999 := by omega
  have hxi : (I : Int) + 1 = (x : Int) := by omega
  obtain ⟨k, hk⟩ : ∃ k : Nat, A % 16 = k := ⟨_, rfl⟩
  have hk16 : k < 16 := by omega
  have hk1 : Int.tmod (A : Int) 16 = (k : Int) := by rw [Int.tmod_eq_emod_of_nonneg (by omega)]; omega
  have hk2 : (A : Int) % 16 = (k : Int) := by omega
  obtain ⟨s, hs⟩ : ∃ s, headS x = s := ⟨_, rfl⟩
  have hsz : s.size = 16 := by rw [← hs]; exact headS_size x
  have hheld : heldN (x : Int) = x := held_same hx1 hx2
  have HS := Aside0.mk hs
  have HX := Aside0.mk hheld
  have HXS := Aside0.mk (show headS (heldN (x : Int)) = s by rw [hheld]; exact hs)
  have HT := Aside0.mk ht
  have HY := Aside0.mk (show Y < 256 ∧ Y ≠ 0 by omega)
  have HW : Aside0 (wrap64 (I : Int) = (I : Int)) := ⟨by unfold wrap64; omega⟩
  clear hs ht hb h0 hx hx1 hheld hk
  go_enter Try.func6, Try.ntmps6
  go_wp2_with (first | (go_at_call 7; refine (turned_known _).mono ?_; rintro e w1 ⟨rfl, hb1⟩) | (go_at_call 10; refine (turned_bytes (x : Int) HXS.out _).mono ?_; rintro e w2 ⟨rfl, hb2⟩) | (refine wpList_bytes_cap _ rfl 9 30 _ rfl 5 s rfl Try.underlying9 Try.underlying30 Try.underlying5 ?_; intro cap W0 hcap hon hsz0 hcell hfr; have hcap2 : (k : Int) ≤ (cap : Int) := (by omega); have hc := hcell k (by omega); have hf := hfr k (by omega); obtain ⟨c, hce⟩ : ∃ c, s.data.toList.getD k 0 = c := ⟨_, rfl⟩; rw [hce] at hc; obtain ⟨y, hye⟩ : ∃ y, c ^^^ UInt8.ofNat Y = y := ⟨_, rfl⟩; have hxv : Go.bits .xor .u8 (c.toNat : Int) (Y : Int) = (y.toNat : Int) := xor_at HY.out.1 hye; have hcells := turned_cells (y := y) hk16 (fun j hj => hcell j (by omega)); have hcv1 := turned_conv (cap := cap) hcells 16 (Nat.le_refl _); have HCS := Aside0.mk hcells; have ho : (9223372036854775807 < (turnS s.data.toList k y 16).size + tail.size) = False := eq_false (by have h1 := HT.out; have h2 := turnS_size s.data.toList k y 16; omega); clear hcells; have HCE := Aside0.mk hce; have HYE := Aside0.mk hye; have HON := Aside0.mk hon; clear hcell hfr hce hye hon hsz0) | (go_at_call_of 14 (Value.string (turnS s.data.toList k y 16 ++ tail)); refine (turned_check _ (x : Int) (c := 4) (by rw [HX.out, ← HS.out]; exact turned_bad x k y tail hk16 (by rw [HS.out]; exact turned_y HCE.out HYE.out HY.out.1 HY.out.2)) _).mono ?_; rintro e w5 ⟨rfl, hb5⟩; have hcv2 := turned_conv (cap := cap) (W := w5) (fun j hj => (hb5.cell (p := ⟨w2.heap.size, j, none⟩) (World.block_lt_of_cell? _ _ (HCS.out j hj))).trans (HCS.out j hj)) k (by omega)) | (go_at_call_of 14 (Value.string (turnS s.data.toList k y k)); refine (turned_check _ (x : Int) (c := 3) (by rw [HX.out, ← HS.out]; exact turned_cut x k y hk16) _).mono ?_; rintro e w6 ⟨rfl, hb6⟩))
  go_ret
  have g2 := below_cls w _ _ hb1 hb2
  have g3 : Below w.heap.size w W0 := g2.trans ((HON.out (fun _ => False)).below g2.size (fun _ _ h => h))
  have g4 := g3.setCell (p := ⟨w2.heap.size, k, none⟩) g2.size (.int .u8 (y.toNat : Int))
  exact ⟨rfl, below_cls w _ _ (below_cls w _ _ g4 hb5) hb6⟩
set_option maxHeartbeats 4000000 in
set_option maxRecDepth 100000 in
theorem turned_else (I A Y : Int) (tail : ByteArray) (w : World) (h : Y = 0 ∨ Y ≠ 0 ∧ 50 < tail.size) :
    Calls Try.prog 6 #[.int .u16 I, .int .u8 A, .int .u8 Y, .string tail] w fun e w' => e = .returned (.bool true) ∧ Below w.heap.size w w' := by
  rcases h with rfl | ⟨h0, ht⟩
  · go_enter Try.func6, Try.ntmps6
    go_wp2_with (go_at_call 7; refine (turned_known _).mono ?_; rintro e w1 ⟨rfl, hb1⟩)
    go_ret
    exact ⟨rfl, hb1⟩
  · have t1 : (Y == 0) = false := beq_eq_false_iff_ne.2 h0
    have t2 : decide ((50 : Int) < (tail.size : Int)) = true := decide_eq_true (by omega)
    have t2n : decide (50 < tail.size) = true := decide_eq_true (by omega)
    clear h0 ht
    go_enter Try.func6, Try.ntmps6
    go_wp2_with (go_at_call 7; refine (turned_known _).mono ?_; rintro e w1 ⟨rfl, hb1⟩)
    go_ret
    exact ⟨rfl, hb1⟩
theorem ladelaw10_HeadTurned.walk (_ : True) (id at_ by_ : Int) (tail : ByteArray) (w : World) (w0 : (Lit.int .u16 id).wf = true) (w1 : (Lit.int .u8 at_).wf = true) (w2 : (Lit.int .u8 by_).wf = true) (_ : tail.size ≤ 140737488351232) :
    Calls Try.prog 6 #[.int .u16 id, .int .u8 at_, .int .u8 by_, .string tail] w fun e w' => e = .returned (.bool true) ∧ Below w.heap.size w w' := by
  have h0 : 0 ≤ id ∧ id < 65536 := by simp [Lit.wf, IntKind.min, IntKind.max, IntKind.bits, IntKind.signed] at w0; omega
  have h1 : 0 ≤ at_ ∧ at_ < 256 := by simp [Lit.wf, IntKind.min, IntKind.max, IntKind.bits, IntKind.signed] at w1; omega
  have h2 : 0 ≤ by_ ∧ by_ < 256 := by simp [Lit.wf, IntKind.min, IntKind.max, IntKind.bits, IntKind.signed] at w2; omega
  by_cases c : by_ = 0
  · exact turned_else id at_ by_ tail w (.inl c)
  by_cases d : 50 < tail.size
  · exact turned_else id at_ by_ tail w (.inr ⟨c, d⟩)
  obtain ⟨I, rfl⟩ := Int.eq_ofNat_of_zero_le h0.1
  obtain ⟨A, rfl⟩ := Int.eq_ofNat_of_zero_le h1.1
  obtain ⟨Y, rfl⟩ := Int.eq_ofNat_of_zero_le h2.1
  exact turned_main I A Y tail w (by omega) (by omega) (by omega) (by omega) (by omega)
end Go.Proofs.Ytjiojcoddildgaa.Q
namespace Go.Proofs.Ytjiojcoddildgaa.Pure
theorem HeadTurned : True := trivial
end Go.Proofs.Ytjiojcoddildgaa.Pure
