/- The walks of code.Get and code.Fix. -/
import Derived.Test.YtokjhocjemjfiaaCodeW
set_option linter.unusedVariables false
set_option linter.unusedSimpArgs false
namespace Go.Proofs.Ytokjhocjemjfiaa.CodeW
open Go Go.RowKit Go.Shelf Go.Proofs.Ytokjhocjemjfiaa.Seq Go.Proofs.YtokjhocjemjfiaaW.PrintWords Go.Proofs.YtokjhocjemjfiaaW.PrintLast Go.Proofs.YtokjhocjemjfiaaW.PrintMore

/-- a number at the beginning of bytes, i bytes of it read, acc their number: the number, how many bytes, the error -/
def getN : List UInt8 → Nat → Nat → Nat × Nat × Nat
  | [], _, _ => (0, 0, 10)
  | c :: r, i, acc =>
    if (i = 8 ∧ 128 ≤ c.toNat) ∨ (0 < i ∧ c.toNat = 0) then (0, 0, 11)
    else if c.toNat < 128 then (acc + c.toNat * 128 ^ i, i + 1, 0)
    else getN r (i + 1) (acc + (c.toNat - 128) * 128 ^ i)
theorem pow128 (i : Nat) : 128 ^ i = 2 ^ (7 * i) := by rw [Nat.pow_mul]
theorem getD_cons (l : List UInt8) {i : Nat} (h : i < l.length) : l.drop i = l.getD i 0 :: l.drop (i + 1) := by
  rw [List.drop_eq_getElem_cons h]; simp [List.getD, h]
theorem drop128 (x : Nat) (h : 128 ≤ x) (h2 : x < 256) : Go.bits .andNot .u8 (x : Int) 128 = ((x - 128 : Nat) : Int) := by
  have e : (x : Int) % 256 = x := by omega
  have h3 := low7 x
  rw [e] at h3
  rw [h3, show x % 128 = x - 128 from by omega]
theorem or_comm' (k : IntKind) (a b : Int) : Go.bits .or k a b = Go.bits .or k b a := by
  simp only [Go.bits]; rw [BitVec.or_comm]
theorem pow_le56 {i : Nat} (hi : i ≤ 8) : 2 ^ (7 * i) ≤ 72057594037927936 := Nat.le_trans (Nat.pow_le_pow_right (by omega) (by omega : 7 * i ≤ 56)) (by decide)
theorem or_acc {acc x i : Nat} (hi : i ≤ 8) (ha : acc < 128 ^ i) (hx : x < 128) : Go.bits .or .i64 (acc : Int) (wrap64 ((x : Int) * 2 ^ (7 * i))) = ((acc + x * 128 ^ i : Nat) : Int) := by
  have hp := pow_le56 hi
  have e : (2 : Int) ^ (7 * i) = ((2 ^ (7 * i) : Nat) : Int) := by simp
  rw [pow128] at ha ⊢
  have hm : x * 2 ^ (7 * i) ≤ 127 * 2 ^ (7 * i) := Nat.mul_le_mul_right _ (by omega)
  rw [e]
  have hw : wrap64 ((x : Int) * ((2 ^ (7 * i) : Nat) : Int)) = ((x * 2 ^ (7 * i) : Nat) : Int) := by
    rw [← Int.natCast_mul]; unfold wrap64; omega
  rw [hw, or_comm']
  have hj := bits_join .i64 63 (by decide) (fun n h0 h1 => by rw [IntKind.wrap_i64]; omega) (7 * i) ((x * 2 ^ (7 * i) : Nat) : Int) (acc : Int) (by omega)
    (by rw [e, ← Int.natCast_emod, Nat.mul_mod_left]; rfl) (by omega) (by omega) (by rw [e]; omega) (by omega)
  rw [hj]; omega
theorem tuple3 {a b c : Int} {R : Nat × Nat × Nat} (h : R = (a.toNat, b.toNat, c.toNat)) (ha : 0 ≤ a) (hb : 0 ≤ b) (hc : 0 ≤ c) :
    Ending.returned (.tuple #[.int .i64 a, .int .i64 b, .int .i64 c]) = Ending.returned (.tuple #[.int .i64 (R.1 : Int), .int .i64 (R.2.1 : Int), .int .i64 (R.2.2 : Int)]) := by
  subst h; simp only; rw [Int.toNat_of_nonneg ha, Int.toNat_of_nonneg hb, Int.toNat_of_nonneg hc]

set_option maxHeartbeats 4000000 in
set_option maxRecDepth 100000 in
theorem get_calls (s : ByteArray) (hs : s.size ≤ 140737488351232) (w : World) :
    Calls Try.prog 55 #[.string s] w fun e w' => e = .returned (.tuple #[.int .i64 (getN s.data.toList 0 0).1, .int .i64 (getN s.data.toList 0 0).2.1, .int .i64 (getN s.data.toList 0 0).2.2]) ∧ Below w.heap.size w w' := by
  obtain ⟨R, hR⟩ : ∃ R, getN s.data.toList 0 0 = R := ⟨_, rfl⟩
  rw [hR]
  have hR0 : Aside0 (getN (s.data.toList.drop 0) 0 0 = R) := ⟨hR⟩
  clear hR
  go_enter Try.func55, Try.ntmps55
  go_wp2_with (refine wpList_bytes _ rfl 9 48 _ rfl 5 s rfl Try.underlying9 Try.underlying48 Try.underlying5 ?_; intro cap W0 hon hsz hcell hfr; clear hfr)
  have hB0 : Below w.heap.size w W0 := (hon (fun _ => False)).below (Nat.le_refl _) (fun _ _ h => h)
  clear hon
  obtain ⟨l, hl⟩ : ∃ l, s.data.toList = l := ⟨_, rfl⟩
  have hlen : l.length = s.size := by rw [← hl]; simp
  rw [hl] at hcell hR0
  have HL := Aside0.mk hlen
  have HC := Aside0.mk hcell
  clear hl hlen hcell hsz
  go_loopw [5, 11] (fun v5 v11 wr => ∃ i acc : Nat, i ≤ s.size ∧ i ≤ 8 ∧ Aside0 (acc < 128 ^ i) ∧ v5 = .int .i64 acc ∧ v11 = .int .i64 i ∧ Aside0 (getN (l.drop i) i acc = R) ∧ Aside0 (∀ j, j < s.size → wr.cell? ⟨w.heap.size, j, none⟩ = some (.int .u8 (l.getD j 0).toNat)) ∧ Below w.heap.size w wr) (fun _ v11 _ => s.size - (intOf v11).toNat)
  case atStart => exact ⟨0, 0, by omega, by omega, ⟨by decide⟩, rfl, rfl, hR0, HC, hB0⟩
  case round =>
    clear hR0 HC hB0
    obtain ⟨i, acc, hi, hi8, hacc, rfl, rfl, hget, HC, hbel⟩ := hrel
    by_cases hlt : i < s.size
    · have hc := HC.out i hlt
      have hx : (l.getD i 0).toNat < 256 := (l.getD i 0).toNat_lt
      have hstep := hget.out
      rw [getD_cons l (by rw [HL.out]; exact hlt)] at hstep
      generalize l.getD i 0 = c at hc hx hstep
      obtain ⟨x, hcx⟩ : ∃ x, c.toNat = x := ⟨_, rfl⟩
      unfold getN at hstep
      rw [hcx] at hc hx hstep
      obtain ⟨b8, h8⟩ : ∃ b, ((i : Int) == 8) = b := ⟨_, rfl⟩
      obtain ⟨b0, h0⟩ : ∃ b, ((x : Int) == 0) = b := ⟨_, rfl⟩
      obtain ⟨bp, hp⟩ : ∃ b, decide (0 < i) = b := ⟨_, rfl⟩
      by_cases hbad : (i = 8 ∧ 128 ≤ x) ∨ (0 < i ∧ x = 0)
      · rw [if_pos hbad] at hstep
        have hst := Aside0.mk hstep
        clear hget HC hstep hacc
        rcases hbad with ⟨e8, e128⟩ | ⟨ep, e0⟩
        · obtain rfl : b8 = true := by rw [← h8]; exact beq_iff_eq.2 (by omega)
          have t1 : decide ((x : Int) ≥ 128) = true := decide_eq_true (by omega)
          clear e8 e128 h0 hp hi8
          go_wp2
          go_ret3
          exact ⟨tuple3 hst.out.symm (by omega) (by omega) (by omega), hbel⟩
        · obtain rfl : b0 = true := by rw [← h0]; exact beq_iff_eq.2 (by omega)
          obtain rfl : bp = true := by rw [← hp]; exact decide_eq_true ep
          have t1 : decide ((x : Int) ≥ 128) = false := decide_eq_false (by omega)
          clear e0 ep hi8
          cases b8
          all_goals
            go_wp2
            go_ret3
            exact ⟨tuple3 hst.out.symm (by omega) (by omega) (by omega), hbel⟩
      · rw [if_neg hbad] at hstep
        by_cases hlow : x < 128
        · rw [if_pos hlow] at hstep
          have hst := Aside0.mk hstep
          have hor := or_acc hi8 hacc.out hlow
          have t1 : decide ((x : Int) ≥ 128) = false := decide_eq_false (by omega)
          have t2 : decide ((x : Int) < 128) = true := decide_eq_true (by omega)
          have hok : b0 = false ∨ bp = false := by
            rcases Nat.eq_zero_or_pos i with e | e
            · right; rw [← hp]; exact decide_eq_false (by omega)
            · left; rw [← h0]; exact beq_eq_false_iff_ne.2 (by omega)
          generalize acc + x * 128 ^ i = y at hst hor
          clear hstep hget HC hlow hbad hacc
          rcases hok with rfl | rfl
          · cases b8 <;> cases bp
            all_goals
              go_wp2
              go_ret3
              exact ⟨tuple3 (by rw [← hst.out]; simp <;> omega) (by omega) (by omega) (by omega), hbel⟩
          · cases b8 <;> cases b0
            all_goals
              go_wp2
              go_ret3
              exact ⟨tuple3 (by rw [← hst.out]; simp <;> omega) (by omega) (by omega) (by omega), hbel⟩
        · rw [if_neg hlow] at hstep
          have hst := Aside0.mk hstep
          have hdr := drop128 x (by omega) hx
          obtain ⟨y, hy⟩ : ∃ y, x - 128 = y := ⟨_, rfl⟩
          rw [hy] at hdr hst
          have hor := or_acc hi8 hacc.out (show y < 128 by omega)
          obtain ⟨z, hz⟩ : ∃ z, acc + y * 128 ^ i = z := ⟨_, rfl⟩
          have hzl : Aside0 (z < 128 ^ (i + 1)) := ⟨by
            rw [← hz, Nat.pow_succ]
            have h1 := hacc.out
            have h2 : y * 128 ^ i ≤ 127 * 128 ^ i := Nat.mul_le_mul_right _ (by omega)
            omega⟩
          rw [hz] at hor hst
          have t1 : decide ((x : Int) ≥ 128) = true := decide_eq_true (by omega)
          have t2 : decide ((x : Int) < 128) = false := decide_eq_false (by omega)
          have hi7 : i < 8 := by omega
          obtain rfl : b8 = false := by rw [← h8]; exact beq_eq_false_iff_ne.2 (by omega)
          obtain rfl : b0 = false := by rw [← h0]; exact beq_eq_false_iff_ne.2 (by omega)
          have hyl : y < 128 := by omega
          clear hstep hget hlow hbad hacc hi8 hy hz
          cases bp
          all_goals
            go_wp2
            go_roundw
            case rel => exact ⟨i + 1, z, by omega, by omega, hzl, rfl, by go_num, hst, HC, hbel⟩
            case measure => simp [intOf]; omega
    · obtain rfl : i = s.size := by omega
      have hst := hget.out
      rw [List.drop_of_length_le (by rw [HL.out]; omega)] at hst
      have hst2 := Aside0.mk hst
      clear hst hget HC hacc hi8
      go_wp2
      go_ret3
      exact ⟨tuple3 hst2.out.symm (by omega) (by omega) (by omega), hbel⟩

end Go.Proofs.Ytokjhocjemjfiaa.CodeW
