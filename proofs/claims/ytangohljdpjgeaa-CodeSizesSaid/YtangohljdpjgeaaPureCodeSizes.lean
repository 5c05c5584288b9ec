/- CodeSizes: a number has as many bytes as it has sevens of bits, and none is the beginning of another one. -/
import Derived.Test.YtangohljdpjgeaaQx5
import Derived.Test.YtangohljdpjgeaaCodeKnown
namespace Go.Proofs.Ytangohljdpjgeaa.Pure
open Go Go.RowKit Go.Proofs.Ytangohljdpjgeaa.Q Go.Proofs.Ytangohljdpjgeaa.CodeW Go.Proofs.Ytangohljdpjgeaa.CodeM Go.Proofs.Ytangohljdpjgeaa.CodeQ Go.Proofs.YtangohljdpjgeaaW.PrintWords Go.Proofs.YtangohljdpjgeaaW.PrintLast Go.Proofs.YtangohljdpjgeaaW.PrintMore
theorem u64_small {n : Int} (h : 0 ≤ n ∧ n < 9223372036854775808) : IntKind.u64.wrap n = n := by simp [IntKind.wrap, IntKind.bits, IntKind.signed]; omega
theorem and_mask (low : Int) (k : Nat) (hk : k < 62) : ∃ m : Nat, Go.bits .and .i64 low ((2 : Int) ^ k - 1) = m ∧ m < 2 ^ k := by
  have hp : 2 ^ k ≤ 2 ^ 62 := Nat.pow_le_pow_right (by omega) (by omega)
  have hp0 := Nat.two_pow_pos k
  have e : (2 : Int) ^ k - 1 = ((2 ^ k - 1 : Nat) : Int) := by rw [Int.natCast_sub hp0]; simp
  refine ⟨(BitVec.ofInt 64 low).toNat % 2 ^ k, ?_, Nat.mod_lt _ hp0⟩
  have h2 : (BitVec.ofInt 64 ((2 ^ k - 1 : Nat) : Int)).toNat = 2 ^ k - 1 := by
    rw [BitVec.ofInt_natCast, BitVec.toNat_ofNat, Nat.mod_eq_of_lt]
    omega
  rw [e]
  show IntKind.i64.wrap ((BitVec.ofInt 64 low &&& BitVec.ofInt 64 ((2 ^ k - 1 : Nat) : Int)).toNat : Int) = _
  rw [BitVec.toNat_and, h2, Nat.and_two_pow_sub_one_eq_mod, IntKind.wrap_i64]
  have := Nat.mod_lt (BitVec.ofInt 64 low).toNat hp0
  omega
theorem or_top (k m : Nat) (hk : k < 62) (hm : m < 2 ^ k) : Go.bits .or .i64 ((2 ^ k : Nat) : Int) (m : Int) = ((2 ^ k + m : Nat) : Int) := by
  have hp : 2 ^ k ≤ 2 ^ 61 := Nat.pow_le_pow_right (by omega) (by omega)
  have e : (2 : Int) ^ k = ((2 ^ k : Nat) : Int) := by simp
  have hj := bits_join .i64 63 (by decide) (fun n h0 h1 => by rw [IntKind.wrap_i64]; omega) k ((2 ^ k : Nat) : Int) (m : Int) (by omega)
    (by rw [e, ← Int.natCast_emod, Nat.mod_self]; rfl) (by omega) (by omega) (by rw [e]; omega) (by omega)
  rw [hj]; omega
theorem bt_put (n : Nat) (i : Nat) (h : i < (putB n).length) : bt (putS n) i = ((putB n).getD i 0).toNat := by
  have h1 : i < (putS n).size := by rw [putS_size]; exact h
  have e : (putB n).getD i 0 = (putS n)[i] := by
    rw [← putS_data]
    show ((putS n).data.toList[i]?).getD 0 = _
    rw [List.getElem?_eq_getElem (by simpa using h1)]; rfl
  rw [e]; unfold bt; simp [h1]
theorem toList_eq {a b : ByteArray} (h : a = b) : a.toList = b.toList := by rw [h]
theorem ext_eq {n m : Nat} {l : Nat} (hn : n < 9223372036854775808) (hm : m < 9223372036854775808) (hl : l = (putB m).length) (hle : (putB m).length ≤ (putB n).length) :
    ((putS n).extract 0 l = putS m) ↔ m = n := by
  constructor
  · intro h
    have h2 := congrArg (fun b => b.data.toList) h
    simp only [ext_data, putS_data, List.drop_zero] at h2
    refine put_prefix hm hn (r := (putB n).drop l) (r' := []) ?_
    rw [← h2, List.take_append_drop, List.append_nil]
  · rintro rfl
    apply ba_ext
    rw [ext_data, List.drop_zero, List.take_of_length_le (by rw [putS_data]; omega)]

theorem sizes_l (other : Int) (n m : Nat) (hn : n < 9223372036854775808) (hm : m < 9223372036854775808) (ho : mx 0 other = m) : ∀ (d k i : Nat), i + d = (putB n).length → d < k →
    ladelaw1_CodeSizes.l0 k other n (putS n) (putS m) i = some true := by
  have sn := putS_size n
  have sm := putS_size m
  have h9 := putB_nine hn
  intro d
  induction d with
  | zero =>
    intro k i hi hk
    obtain ⟨k, rfl⟩ : ∃ m, k = m + 1 := ⟨k - 1, by omega⟩
    rw [ladelaw1_CodeSizes.l0, if_neg (by omega), ho]
    by_cases h : (putB n).length < (putB m).length
    · rw [if_pos (by omega), if_pos (by omega), if_pos (by omega)]
      have hne : ¬ ((putS m).extract 0 ((putS n).size : Int).toNat).toList = (putS n).toList := by
        intro e
        have e2 : ((putS m).extract 0 ((putS n).size : Int).toNat) = putS n := ba_toList e
        rw [Int.toNat_natCast] at e2
        have := (ext_eq (l := (putS n).size) hm hn sn (by omega)).1 e2
        subst this; omega
      rw [if_neg hne]
    · rw [if_neg (by omega), if_pos (by omega), if_pos (by omega), Int.toNat_natCast]
      congr 1
      by_cases e : m = n
      · subst e
        have := (ext_eq (l := (putS m).size) hm hm sm (by omega)).2 rfl
        rw [this]; simp
      · have : ¬ ((putS n).extract 0 (putS m).size).toList = (putS m).toList := fun h2 => e ((ext_eq (l := (putS m).size) hn hm sm (by omega)).1 (ba_toList h2))
        rw [beq_eq_false_iff_ne.2 this, beq_eq_false_iff_ne.2 (show ¬ (m : Int) = (n : Int) by omega)]; rfl
  | succ d ih =>
    intro k i hi hk
    obtain ⟨k, rfl⟩ : ∃ m, k = m + 1 := ⟨k - 1, by omega⟩
    have hh := put_high n i (by omega)
    rw [ladelaw1_CodeSizes.l0, if_pos (by omega), if_pos (by omega), bt_put n i (by omega), show wrap64 (((putS n).size : Int) - 1) = ((putS n).size : Int) - 1 from by unfold wrap64; omega]
    have hb : (decide ((((putB n).getD i 0).toNat : Int) ≥ 128) != decide ((i : Int) < ((putS n).size : Int) - 1)) = false := by
      by_cases h : i + 1 < (putB n).length
      · rw [decide_eq_true (show (((putB n).getD i 0).toNat : Int) ≥ 128 by have := hh.2 h; omega), decide_eq_true (by omega)]; rfl
      · rw [decide_eq_false (show ¬ (((putB n).getD i 0).toNat : Int) ≥ 128 by intro h2; exact h (hh.1 (by omega))), decide_eq_false (by omega)]; rfl
    rw [hb, if_neg (by decide), show wrap64 ((i : Int) + 1) = ((i + 1 : Nat) : Int) from by unfold wrap64; omega]
    exact ih k (i + 1) (by omega) (by omega)

theorem seventh (k : Nat) (h : k < 62) : ((k / 7 + 1 : Nat) : Int) = wrap64 (wrap64 (Int.tdiv (k : Int) 7) + 1) := by
  rw [Int.tdiv_eq_ediv_of_nonneg (by omega)]; unfold wrap64; omega
theorem CodeSizes : ladelaw1_CodeSizes.Pure := by
  intro bits low other hb hl ho
  have hb := wf_u8 hb
  have hl := wf_i64 hl
  have ho := wf_i64 ho
  obtain ⟨k, hk⟩ : ∃ k : Nat, bits % 62 = k := ⟨(bits % 62).toNat, by omega⟩
  have hk62 : k < 62 := by omega
  have hp : 2 ^ k ≤ 2 ^ 61 := Nat.pow_le_pow_right (by omega) (by omega)
  obtain ⟨a, ha, hak⟩ := and_mask low k hk62
  have e : (2 : Int) ^ k = ((2 ^ k : Nat) : Int) := by simp
  have hsh : shl .i64 1 (k : Int) = ((2 ^ k : Nat) : Int) := by
    show IntKind.i64.wrap (1 * 2 ^ min (k : Int).toNat 64) = _
    rw [Int.toNat_natCast, Nat.min_eq_left (by omega), Int.one_mul, e, IntKind.wrap_i64]; omega
  obtain ⟨n, hn⟩ : ∃ n : Nat, 2 ^ k + a = n := ⟨_, rfl⟩
  have h2k : 2 ^ (k + 1) = 2 * 2 ^ k := by rw [Nat.pow_succ]; omega
  obtain ⟨m, hm⟩ : ∃ m : Nat, mx 0 other = m := ⟨(mx 0 other).toNat, by rw [mx_eq]; omega⟩
  have hm2 : other.toNat = m := by rw [mx_eq] at hm; omega
  refine ⟨(putB n).length + 5, ?_⟩
  unfold ladelaw1_CodeSizes.f
  rw [known_f, bs, itt, Int.tmod_eq_emod_of_nonneg hb.1, hk, show wrap64 (k : Int) = k from by unfold wrap64; omega, u64_small (by omega), if_pos (by omega), hsh, show wrap64 (((2 ^ k : Nat) : Int) - 1) = (2 : Int) ^ k - 1 from by unfold wrap64; omega,
    ha, or_top k a hk62 hak, hn, Put_f (by omega) (by omega)]; simp only [bs]
  rw [Put_f ho.1 ho.2, hm2, Int.toNat_natCast]; simp only [bs]
  have hs := put_size k n (by omega) (by omega)
  have h7 := seventh k hk62
  have hln := sizes_l other n m (by omega) (by omega) hm (putB n).length ((putB n).length + 5) 0 (by omega) (by omega)
  rw [putS_size, if_pos (by rw [hs]; exact h7)]
  exact hln
end Go.Proofs.Ytangohljdpjgeaa.Pure
