/- The walk of head.ID. -/
import Derived.Test.YtjiojcoddildgaaHeadW
import Derived.Test.YtjiojcoddildgaaAx1
import Derived.Test.YtjiojcoddildgaaCrcM
namespace Go.Proofs.Ytjiojcoddildgaa.HeadW
open Go Go.RowKit Go.Shelf Go.Proofs.Ytjiojcoddildgaa.Seq Go.Proofs.Ytjiojcoddildgaa.CrcM Go.Proofs.YtjiojcoddildgaaW.PrintWords Go.Proofs.YtjiojcoddildgaaW.PrintLast Go.Proofs.YtjiojcoddildgaaW.PrintMore
attribute [local go_sem] Oper.semAt_some
attribute [local go_sem] max2_int min2_int max_two min_two
def segS : ByteArray := ⟨#[115, 101, 103, 45]⟩
def preB (s : ByteArray) : Bool := decide (4 ≤ s.size) && ((s.extract 0 4).toList == segS.toList)
def cutS (s : ByteArray) : ByteArray := if preB s = true then s.extract 4 s.size else s
theorem cut_calls (s : ByteArray) (w : World) : Calls Try.prog 16 #[.string s, .string ⟨#[115, 101, 103, 45]⟩] w fun e w' => e = .returned (.tuple #[.string (cutS s), .bool (preB s)]) ∧ Below w.heap.size w w' := by
  refine (A.strings_CutPrefix.calls s ⟨#[115, 101, 103, 45]⟩ (cutS s) (preB s) w ?_).mono ?_
  · unfold A.strings_CutPrefix.f A.stringslite_CutPrefix.f A.stringslite_HasPrefix.f cutS preB
    have hz : (⟨#[115, 101, 103, 45]⟩ : ByteArray).size = 4 := rfl
    rw [hz]
    show _ = some (if (decide (4 ≤ s.size) && ((s.extract 0 4).toList == (⟨#[115, 101, 103, 45]⟩ : ByteArray).toList)) = true then s.extract 4 s.size else s, (decide (4 ≤ s.size) && ((s.extract 0 4).toList == (⟨#[115, 101, 103, 45]⟩ : ByteArray).toList)))
    have h4 : (((4 : Nat) : Int)).toNat = 4 := rfl
    rw [h4]
    by_cases h : 4 ≤ s.size
    · rw [if_pos (show (s.size : Int) ≥ ((4 : Nat) : Int) by omega), if_pos (by omega), if_pos (show ((4 : Nat) : Int) ≤ (s.size : Int) by omega), decide_eq_true h, Bool.true_and, bs]
      cases ((s.extract 0 4).toList == (⟨#[115, 101, 103, 45]⟩ : ByteArray).toList)
      · rw [if_neg (by decide), bs, if_neg (by decide)]
      · rw [if_pos rfl, if_pos (by omega), if_pos (show ((4 : Nat) : Int) ≤ (s.size : Int) by omega), bs, if_pos rfl]
    · rw [if_neg (show ¬ (s.size : Int) ≥ ((4 : Nat) : Int) by omega), decide_eq_false h, Bool.false_and, bs, if_neg (by decide), bs, if_neg (by decide)]
  · rintro e w' ⟨rfl, hd⟩
    exact ⟨rfl, hd.below⟩
def decP (l : List UInt8) : Nat → Nat
  | 0 => 0
  | i + 1 => decP l i * 10 + ((l.getD i 0).toNat + 208) % 256 % 10
theorem decP_lt (l : List UInt8) : ∀ i, decP l i < 10 ^ i
  | 0 => by show 0 < 1; decide
  | i + 1 => by
    have h := decP_lt l i
    show decP l i * 10 + ((l.getD i 0).toNat + 208) % 256 % 10 < 10 ^ (i + 1)
    rw [Nat.pow_succ]; omega
/-- the number that a name's digits make -/
def decN (s : ByteArray) : Nat := decP ((cutS s).data.toList.take 8) (min (cutS s).size 8)
/-- whose name it is -/
def idN (s : ByteArray) : Nat × Bool := if preB s = false ∨ decN s = 0 ∨ nameS (heldN (decN s)) ≠ s then (0, false) else (decN s, true)
theorem cutS_size (s : ByteArray) : (cutS s).size ≤ s.size := by
  unfold cutS; split
  · rw [ByteArray.size_extract]; omega
  · exact Nat.le_refl _
theorem bytes_eq {a b : ByteArray} (h : a.data.toList = b.data.toList) : a = b := by
  cases a; cases b; congr 1; exact Array.toList_inj.1 h
theorem name_at {n : Nat} {t : ByteArray} (h : nameS (heldN (n : Int)) = t) (w : World) : Calls Try.prog 11 #[.int .i64 n] w fun e w' => e = .returned (.string t) ∧ Below w.heap.size w w' := by
  rw [← h]; exact name_calls n w
theorem cut_at {s r : ByteArray} {b : Bool} (h1 : cutS s = r) (h2 : preB s = b) (w : World) : Calls Try.prog 16 #[.string s, .string ⟨#[115, 101, 103, 45]⟩] w fun e w' => e = .returned (.tuple #[.string r, .bool b]) ∧ Below w.heap.size w w' := by
  rw [← h1, ← h2]; exact cut_calls s w
theorem tuple2 {a : Int} {b : Bool} {R : Nat × Bool} (h : R = (a.toNat, b)) (ha : 0 ≤ a) : Ending.returned (.tuple #[.int .i64 a, .bool b]) = Ending.returned (.tuple #[.int .i64 (R.1 : Int), .bool R.2]) := by
  subst h; simp only; rw [Int.toNat_of_nonneg ha]
set_option maxHeartbeats 4000000 in
set_option maxRecDepth 100000 in
theorem id_calls (s : ByteArray) (hs : s.size ≤ 140737488351232) (w : World) :
    Calls Try.prog 8 #[.string s] w fun e w' => e = .returned (.tuple #[.int .i64 (idN s).1, .bool (idN s).2]) ∧ Below w.heap.size w w' := by
  obtain ⟨R, hR⟩ : ∃ R, idN s = R := ⟨_, rfl⟩
  rw [hR]
  unfold idN decN at hR
  obtain ⟨r, hr⟩ : ∃ r, cutS s = r := ⟨_, rfl⟩
  obtain ⟨b, hb⟩ : ∃ b, preB s = b := ⟨_, rfl⟩
  have hrs : r.size ≤ 140737488351232 := by rw [← hr]; exact Nat.le_trans (cutS_size s) hs
  rw [hr, hb] at hR
  obtain ⟨z, hz⟩ : ∃ z, min r.size 8 = z := ⟨_, rfl⟩
  obtain ⟨t, ht⟩ : ∃ t, r.extract 0 z = t := ⟨_, rfl⟩
  have htz : t.size = z := by rw [← ht, ByteArray.size_extract]; omega
  have htl : t.data.toList = r.data.toList.take 8 := by
    rw [← ht, ByteArray.data_extract, Array.toList_extract, List.extract_eq_take_drop, List.drop_zero, Nat.sub_zero]
    rw [← hz]
    rcases Nat.le_total r.size 8 with h | h
    · rw [Nat.min_eq_left h, List.take_of_length_le (by simp), List.take_of_length_le (by simpa using h)]
    · rw [Nat.min_eq_right h]
  rw [hz, ← htl] at hR
  have hz8 : z ≤ 8 := by omega
  have hmin1 : (if (8 : Int) < (r.size : Int) then (8 : Int) else (r.size : Int)) = (z : Int) := by split <;> omega
  have hmin2 : (if (r.size : Int) < (8 : Int) then (r.size : Int) else (8 : Int)) = (z : Int) := by split <;> omega
  have hcut : ∀ W : World, (Instr.slice 9 (.string r) none (some (.int .i64 (z : Int))) none).run Try.prog W = .ok (.string t) W := fun W => by
    rw [run_slice_string_to_if W 9 r .i64 (z : Int) Try.underlying9, if_pos (by omega), Int.toNat_natCast, ht]
  have HR := Aside0.mk hR
  have HRR := Aside0.mk hr
  have HB := Aside0.mk hb
  have HT := Aside0.mk htz
  clear hR hr hb htl ht hz hrs
  go_enter Try.func8, Try.ntmps8
  go_wp2_with (first | (go_at_call 16; refine (cut_at HRR.out HB.out _).mono ?_; rintro e w1 ⟨rfl, hb1⟩) | (refine wpList_bytes _ rfl 9 30 _ rfl 5 t rfl Try.underlying9 Try.underlying30 Try.underlying5 ?_; intro cap W0 hon hsz hcell hfr; clear hfr))
  have hB0 : Below w.heap.size w W0 := hb1.trans ((hon (fun _ => False)).below hb1.size (fun _ _ h => h))
  have HC0 : Aside0 (∀ j, j < z → W0.cell? ⟨w1.heap.size, j, none⟩ = some (.int .u8 (t.data.toList.getD j 0).toNat)) := ⟨fun j hj => hcell j (by rw [HT.out]; exact hj)⟩
  clear hon hcell hsz hmin1 hmin2 hcut hb1
  generalize w1.heap.size = B at HC0 ⊢
  go_loopw [6, 21] (fun v6 v21 wr => ∃ i : Nat, i ≤ z ∧ v6 = .int .i64 (decP t.data.toList i : Nat) ∧ v21 = .int .i64 i ∧ Aside0 (∀ j, j < z → wr.cell? ⟨B, j, none⟩ = some (.int .u8 (t.data.toList.getD j 0).toNat)) ∧ Below w.heap.size w wr) (fun _ v21 _ => z - (intOf v21).toNat)
  case atStart => exact ⟨0, by omega, rfl, rfl, HC0, hB0⟩
  case round =>
    clear HC0 hB0
    obtain ⟨i, hi, rfl, rfl, HC, hbel⟩ := hrel
    by_cases hlt : i < z
    · have hc := HC.out i hlt
      have hlow := decP_lt t.data.toList i
      have hp : 10 ^ i ≤ 10 ^ 8 := Nat.pow_le_pow_right (by omega) (by omega)
      have hnext : Aside0 (decP t.data.toList (i + 1) = decP t.data.toList i * 10 + ((t.data.toList.getD i 0).toNat + 208) % 256 % 10) := ⟨rfl⟩
      have hx := (t.data.toList.getD i 0).toNat_lt
      obtain ⟨x, hxe⟩ : ∃ x, (t.data.toList.getD i 0).toNat = x := ⟨_, rfl⟩
      rw [hxe] at hc hnext hx
      obtain ⟨acc, hacc⟩ : ∃ a, decP t.data.toList i = a := ⟨_, rfl⟩
      rw [hacc] at hnext hlow ⊢
      have hal : acc < 100000000 := by omega
      obtain ⟨y, hy⟩ : ∃ y, (x + 208) % 256 = y := ⟨_, rfl⟩
      obtain ⟨d, hd⟩ : ∃ d, y % 10 = d := ⟨_, rfl⟩
      have e1 : ((x : Int) - 48) % 256 = (y : Int) := by omega
      have e1' : ((x : Int) + -48) % 256 = (y : Int) := by omega
      have e2 : Int.tmod (y : Int) 10 = (d : Int) := by rw [Int.tmod_eq_emod_of_nonneg (by omega)]; omega
      have e2' : (y : Int) % 10 = (d : Int) := by omega
      have hd10 : d < 10 := by omega
      have hy256 : y < 256 := by omega
      rw [hy, hd] at hnext
      clear hxe hacc hy hd hlow hp hx HR
      go_wp2
      go_roundw
      case rel => exact ⟨i + 1, by omega, by rw [hnext.out]; go_num, by go_num, HC, hbel⟩
      case measure => simp [intOf]; omega
    · obtain rfl : i = z := by omega
      have hR := HR.out
      have hlow := decP_lt t.data.toList i
      have hp : 10 ^ i ≤ 10 ^ 8 := Nat.pow_le_pow_right (by omega) (by omega)
      obtain ⟨acc, hacc⟩ : ∃ a, decP t.data.toList i = a := ⟨_, rfl⟩
      rw [hacc] at hR hlow ⊢
      obtain ⟨nm, hnm⟩ : ∃ x, nameS (heldN (acc : Int)) = x := ⟨_, rfl⟩
      have HNM := Aside0.mk hnm
      rw [hnm] at hR
      have HR2 := Aside0.mk hR
      clear hacc hnm hR HR HC hlow hp
      cases b with
      | false =>
        have hr2 : Aside0 (R = (0, false)) := ⟨by rw [← HR2.out, if_pos (.inl rfl)]⟩
        clear HR2
        go_wp2
        go_ret2
        exact ⟨tuple2 hr2.out (by omega), hbel⟩
      | true =>
        by_cases h0 : acc = 0
        · have hr2 : Aside0 (R = (0, false)) := ⟨by rw [← HR2.out, if_pos (.inr (.inl h0))]⟩
          have t1 : ((acc : Int) == 0) = true := beq_iff_eq.2 (by omega)
          clear HR2 h0
          go_wp2
          go_ret2
          exact ⟨tuple2 hr2.out (by omega), hbel⟩
        · have t1 : ((acc : Int) == 0) = false := beq_eq_false_iff_ne.2 (by omega)
          by_cases h1 : nm = s
          · have hr2 : Aside0 (R = (acc, true)) := ⟨by rw [← HR2.out, if_neg (by intro h; rcases h with h | h | h; exact absurd h (by decide); exact h0 h; exact h h1)]⟩
            have t2 : (nm.toList != s.toList) = false := bne_eq_false_iff_eq.2 (by rw [h1])
            have t3 : (nm.toList == s.toList) = true := beq_iff_eq.2 (by rw [h1])
            clear HR2 h0 h1
            go_wp2_with (go_at_call 11; refine (name_at HNM.out _).mono ?_; rintro e w4 ⟨rfl, hb4⟩)
            go_ret2
            exact ⟨tuple2 hr2.out (by omega), hbel.trans (hb4.mono hbel.size)⟩
          · have hr2 : Aside0 (R = (0, false)) := ⟨by rw [← HR2.out, if_pos (.inr (.inr h1))]⟩
            have hne : nm.toList ≠ s.toList := fun h => h1 (bytes_eq (by rw [ByteArray.toList_eq, ByteArray.toList_eq] at h; exact h))
            have t2 : (nm.toList != s.toList) = true := bne_iff_ne.2 hne
            have t3 : (nm.toList == s.toList) = false := beq_eq_false_iff_ne.2 hne
            clear HR2 h0 h1 hne
            go_wp2_with (go_at_call 11; refine (name_at HNM.out _).mono ?_; rintro e w4 ⟨rfl, hb4⟩)
            go_ret2
            exact ⟨tuple2 hr2.out (by omega), hbel.trans (hb4.mono hbel.size)⟩
end Go.Proofs.Ytjiojcoddildgaa.HeadW
namespace Go.Proofs.Ytjiojcoddildgaa.Given
open Go Go.RowKit Go.Proofs.Ytjiojcoddildgaa.HeadW
def head_Name.f (n : Int) : Option ByteArray := some (nameS (heldN n))
theorem head_Name.calls (n : Int) (r : ByteArray) (w : World) (h : head_Name.f n = some r) :
    Calls Try.prog 11 #[.int .i64 n] w fun e w' => e = .returned (.string r) ∧ Below w.heap.size w w' := by
  unfold head_Name.f at h; cases h; exact name_calls n w
def head_ID.f (s : ByteArray) : Option (Int × Bool) := if s.size ≤ 140737488351232 then some (((idN s).1 : Int), (idN s).2) else none
theorem head_ID.calls (s : ByteArray) (r1 : Int) (r2 : Bool) (w : World) (h : head_ID.f s = some (r1, r2)) :
    Calls Try.prog 8 #[.string s] w fun e w' => e = .returned (.tuple #[.int .i64 r1, .bool r2]) ∧ Below w.heap.size w w' := by
  unfold head_ID.f at h
  split at h
  · rename_i hc; cases h; exact id_calls s hc w
  · cases h
end Go.Proofs.Ytjiojcoddildgaa.Given
