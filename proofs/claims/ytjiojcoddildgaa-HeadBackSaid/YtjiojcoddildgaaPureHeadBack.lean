/- HeadBack: names and heads are those of one number alone; names rise as numbers do. -/
import Derived.Test.YtjiojcoddildgaaQx2
import Derived.Test.YtjiojcoddildgaaHeadM
namespace Go.Proofs.Ytjiojcoddildgaa.Pure
open Go Go.RowKit Go.Proofs.Ytjiojcoddildgaa.Q Go.Proofs.Ytjiojcoddildgaa.CrcW Go.Proofs.Ytjiojcoddildgaa.CrcM Go.Proofs.Ytjiojcoddildgaa.HeadW Go.Proofs.Ytjiojcoddildgaa.HeadM Go.Proofs.YtjiojcoddildgaaW.PrintWords Go.Proofs.YtjiojcoddildgaaW.PrintLast Go.Proofs.YtjiojcoddildgaaW.PrintMore
def digs : Nat → Nat → List UInt8
  | 0, _ => []
  | m + 1, x => UInt8.ofNat (dg x m) :: digs m x
theorem less_digs (x y : Nat) : ∀ m, Op.bytesLess (digs m x) (digs m y) = decide (x % 10 ^ m < y % 10 ^ m)
  | 0 => by rw [Nat.pow_zero, Nat.mod_one, Nat.mod_one]; rfl
  | m + 1 => by
    have ih := less_digs x y m
    have hx : (UInt8.ofNat (dg x m)).toNat = 48 + x / 10 ^ m % 10 := ofNat_u8 (dg_lt x m)
    have hy : (UInt8.ofNat (dg y m)).toNat = 48 + y / 10 ^ m % 10 := ofNat_u8 (dg_lt y m)
    have ex : x % 10 ^ (m + 1) = x % 10 ^ m + 10 ^ m * (x / 10 ^ m % 10) := by rw [Nat.pow_succ, Nat.mod_mul]
    have ey : y % 10 ^ (m + 1) = y % 10 ^ m + 10 ^ m * (y / 10 ^ m % 10) := by rw [Nat.pow_succ, Nat.mod_mul]
    have hp : 0 < 10 ^ m := Nat.pow_pos (by decide)
    have hu := Nat.mod_lt x hp
    have hv := Nat.mod_lt y hp
    show (decide (UInt8.ofNat (dg x m) < UInt8.ofNat (dg y m)) || (UInt8.ofNat (dg x m) == UInt8.ofNat (dg y m) && Op.bytesLess (digs m x) (digs m y))) = _
    rw [ih, ex, ey]
    generalize x % 10 ^ m = u at *
    generalize y % 10 ^ m = v at *
    generalize x / 10 ^ m % 10 = p at *
    generalize y / 10 ^ m % 10 = q at *
    generalize 10 ^ m = P at *
    generalize UInt8.ofNat (dg x m) = a at *
    generalize UInt8.ofNat (dg y m) = b at *
    rcases Nat.lt_trichotomy p q with h | h | h
    · have h1 : a < b := UInt8.lt_iff_toNat_lt.2 (by omega)
      have h2 := Nat.mul_le_mul_left P (show p + 1 ≤ q from h)
      rw [Nat.mul_add, Nat.mul_one] at h2
      rw [decide_eq_true h1, Bool.true_or, decide_eq_true (by omega)]
    · have h1 : a = b := UInt8.toNat_inj.1 (by omega)
      subst h h1
      rw [decide_eq_false (show ¬ a < a from fun h => Nat.lt_irrefl _ (UInt8.lt_iff_toNat_lt.1 h)), Bool.false_or, beq_self_eq_true, Bool.true_and]
      by_cases huv : u < v
      · rw [decide_eq_true huv, decide_eq_true (by omega)]
      · rw [decide_eq_false huv, decide_eq_false (by omega)]
    · have h1 : ¬ a < b := fun h' => by have := UInt8.lt_iff_toNat_lt.1 h'; omega
      have h3 : (a == b) = false := beq_eq_false_iff_ne.2 (fun e => by subst e; omega)
      have h2 := Nat.mul_le_mul_left P (show q + 1 ≤ p from h)
      rw [Nat.mul_add, Nat.mul_one] at h2
      rw [decide_eq_false h1, Bool.false_or, h3, Bool.false_and, decide_eq_false (by omega)]
theorem less_pre : ∀ (p a b : List UInt8), Op.bytesLess (p ++ a) (p ++ b) = Op.bytesLess a b
  | [], a, b => rfl
  | x :: p, a, b => by
    show (decide (x < x) || (x == x && Op.bytesLess (p ++ a) (p ++ b))) = _
    rw [decide_eq_false (show ¬ x < x from fun h => Nat.lt_irrefl _ (UInt8.lt_iff_toNat_lt.1 h)), Bool.false_or, beq_self_eq_true, Bool.true_and, less_pre p a b]
theorem less_name {x y : Nat} (hx : x ≤ 99999999) (hy : y ≤ 99999999) : Op.bytesLess (nameS x).toList (nameS y).toList = decide (x < y) := by
  have e : ∀ z, (List.range 8).map (fun j => UInt8.ofNat (dg z (7 - j))) = digs 8 z := fun z => rfl
  rw [ByteArray.toList_eq, ByteArray.toList_eq, nameS_data, nameS_data, less_pre, e, e, less_digs, Nat.mod_eq_of_lt (show x < 10 ^ 8 by omega), Nat.mod_eq_of_lt (show y < 10 ^ 8 by omega)]
theorem one_more {a : Int} (h : 0 ≤ a ∧ a < 4294967296) : ∃ x : Nat, 1 ≤ x ∧ x ≤ 99999999 ∧ wrap64 ((wrap64 (Int.tmod a 99999999)) + 1) = (x : Int) := by
  have e : Int.tmod a 99999999 = a % 99999999 := Int.tmod_eq_emod_of_nonneg h.1
  refine ⟨(a % 99999999).toNat + 1, by omega, by omega, ?_⟩
  rw [e]
  have w1 : wrap64 (a % 99999999) = a % 99999999 := by unfold wrap64; omega
  rw [w1]; unfold wrap64; omega
theorem check_short (x : Nat) : checkN ((headS x).extract 0 15) x = 3 := by
  have hz : ((headS x).extract 0 15).size = 15 := by rw [ByteArray.size_extract, headS_size]; omega
  unfold checkN hasP
  rw [headS_size, hz, decide_eq_false (show ¬ 16 ≤ 15 by decide), Bool.false_and, if_neg (by decide), decide_eq_true (show 15 ≤ 16 by decide), decide_eq_true rfl, if_pos (by decide)]
theorem HeadBack : ladelaw10_HeadBack.Pure := by
  intro a b tail ha hb ht
  have ha := wf_u32 ha
  have hb := wf_u32 hb
  obtain ⟨x, hx1, hx2, ex⟩ := one_more ha
  obtain ⟨y, hy1, hy2, ey⟩ := one_more hb
  refine ⟨5, ?_⟩
  unfold ladelaw10_HeadBack.f
  rw [show 5 = 0 + 5 from rfl, known_q, bs, itt, ex, ey]
  by_cases h0 : (tail.size : Int) > 50
  · rw [if_pos h0]
  · have gx : Given.head_Name.f (x : Int) = some (nameS x) := by unfold Given.head_Name.f; rw [held_same hx1 hx2]
    have gy : Given.head_Name.f (y : Int) = some (nameS y) := by unfold Given.head_Name.f; rw [held_same hy1 hy2]
    have gi : Given.head_ID.f (nameS x) = some ((x : Int), true) := by
      unfold Given.head_ID.f; rw [if_pos (by rw [nameS_size]; decide), id_name x hx1 hx2]
    rw [if_neg h0, gx, bs, gi]; simp only [bs]
    rw [it, it, gy, bs, less_name hx2 hy2, show (decide (x < y) == decide ((x : Int) < (y : Int))) = true from by
      by_cases h : x < y
      · rw [decide_eq_true h, decide_eq_true (by omega)]; rfl
      · rw [decide_eq_false h, decide_eq_false (by omega)]; rfl]
    rw [itt, Bytes_q, held_same hx1 hx2, bs, if_pos (by rw [headS_size]; omega), Check_q, held_same hy1 hy2, bs]
    have hc : ((checkN (headS x ++ tail) y == 1) == ((x : Int) == (y : Int))) = true := by
      unfold checkN
      rw [head_has x y hx2 hy2]
      by_cases h : x = y
      · subst h; rw [if_pos (by rw [decide_eq_true rfl]), show ((x : Int) == (x : Int)) = true from beq_self_eq_true _]; rfl
      · rw [decide_eq_false h, if_neg (by decide), show ((x : Int) == (y : Int)) = false from beq_eq_false_iff_ne.2 (by omega)]
        split <;> rfl
    rw [hc, itt, bs, if_pos (by decide), if_pos (by rw [headS_size]; decide), Check_q, held_same hx1 hx2, check_short, bs]
    rfl
end Go.Proofs.Ytjiojcoddildgaa.Pure
