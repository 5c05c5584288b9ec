/- What the functions of package head tell: plain laws. -/
import Derived.Test.YtjiojcoddildgaaQx1
namespace Go.Proofs.Ytjiojcoddildgaa.HeadM
open Go Go.RowKit Go.Proofs.Ytjiojcoddildgaa.Q Go.Proofs.Ytjiojcoddildgaa.CrcW Go.Proofs.Ytjiojcoddildgaa.CrcM Go.Proofs.Ytjiojcoddildgaa.HeadW Go.Proofs.YtjiojcoddildgaaW.PrintWords Go.Proofs.YtjiojcoddildgaaW.PrintLast Go.Proofs.YtjiojcoddildgaaW.PrintMore
theorem iff_ {α : Type} (a b : α) : (if false = true then a else b) = b := if_neg (by decide)
theorem ofNat_u8 {x : Nat} (h : x < 256) : (UInt8.ofNat x).toNat = x := by rw [UInt8.toNat_ofNat']; exact Nat.mod_eq_of_lt h
theorem w64' {n m : Int} (e : n = m) (h : -9223372036854775808 ≤ m ∧ m < 9223372036854775808) : wrap64 n = m := by subst e; unfold wrap64; omega
theorem wpos {n : Int} (h : 0 ≤ n ∧ n < 9223372036854775808) : 0 ≤ wrap64 n := by unfold wrap64; omega
/-- a number of 32 bits as four bytes -/
def fixL (n : Int) : List Int := [n % 256, n / 256 % 256, n / 65536 % 256, n / 16777216 % 256]
def fixS (n : Int) : ByteArray := strOfNums (fixL n)
theorem Fixed_q (n : Int) (k : Nat) : code_Fixed.f (k + 5) n = some (fixS n) := by
  unfold code_Fixed.f
  rw [if_pos (by decide), bs, show k + 5 = (k + 1 + 1 + 1 + 1) + 1 from rfl,
    code_Fixed.l0, if_pos (by decide), if_pos (wpos (by decide)), if_pos (by decide), if_pos (by decide), show wrap64 (0 + 1) = 1 from w64' (by decide) (by decide),
    code_Fixed.l0, if_pos (by decide), if_pos (wpos (by decide)), if_pos (by decide), if_pos (by rw [List.length_set]; decide), show wrap64 (1 + 1) = 2 from w64' (by decide) (by decide),
    code_Fixed.l0, if_pos (by decide), if_pos (wpos (by decide)), if_pos (by decide), if_pos (by rw [List.length_set, List.length_set]; decide), show wrap64 (2 + 1) = 3 from w64' (by decide) (by decide),
    code_Fixed.l0, if_pos (by decide), if_pos (wpos (by decide)), if_pos (by decide), if_pos (by rw [List.length_set, List.length_set, List.length_set]; decide), show wrap64 (3 + 1) = 4 from w64' (by decide) (by decide),
    code_Fixed.l0, if_neg (by decide)]
  have e : ∀ j i : Int, 8 * j = i → (0 ≤ i ∧ i < 9223372036854775808) → shr .u32 n (wrap64 (8 * j)) = n / 2 ^ min i.toNat 32 := fun j i h h2 => by rw [w64' h (by omega)]; rfl
  have h0 : shr .u32 n (wrap64 (8 * 0)) = n := by rw [e 0 0 (by decide) (by decide)]; exact Int.ediv_one n
  have h1 : shr .u32 n (wrap64 (8 * 1)) = n / 256 := by rw [e 1 8 (by decide) (by decide)]; rfl
  have h2 : shr .u32 n (wrap64 (8 * 2)) = n / 65536 := by rw [e 2 16 (by decide) (by decide)]; rfl
  have h3 : shr .u32 n (wrap64 (8 * 3)) = n / 16777216 := by rw [e 3 24 (by decide) (by decide)]; rfl
  rw [h0, h1, h2, h3]; rfl
theorem fixS_size (n : Int) : (fixS n).size = 4 := by unfold fixS; rw [strOfNums_size]; rfl
theorem fixS_data (n : Int) : (fixS n).data.toList = (fixL n).map fun x => UInt8.ofNat x.toNat := by unfold fixS; rw [strOfNums_data]

theorem fixS_inj {x y : Int} (hx : 0 ≤ x ∧ x < 4294967296) (hy : 0 ≤ y ∧ y < 4294967296) (h : fixS x = fixS y) : x = y := by
  have e : (fixS x).data.toList = (fixS y).data.toList := by rw [h]
  rw [fixS_data, fixS_data] at e
  have b : ∀ q : Int, 0 ≤ q → q < 256 → ((UInt8.ofNat q.toNat).toNat : Int) = q := fun q a c => by rw [ofNat_u8 (by omega)]; omega
  simp only [fixL, List.map_cons, List.map_nil, List.cons.injEq, and_true] at e
  obtain ⟨e0, e1, e2, e3⟩ := e
  have f : ∀ {p q : Int}, 0 ≤ p → p < 256 → 0 ≤ q → q < 256 → UInt8.ofNat p.toNat = UInt8.ofNat q.toNat → p = q := fun {p q} a1 a2 a3 a4 e => by rw [← b p a1 a2, ← b q a3 a4, e]
  have g0 := f (by omega) (by omega) (by omega) (by omega) e0
  have g1 := f (by omega) (by omega) (by omega) (by omega) e1
  have g2 := f (by omega) (by omega) (by omega) (by omega) e2
  have g3 := f (by omega) (by omega) (by omega) (by omega) e3
  omega
/-- a text's sum -/
def sum (b : ByteArray) : Int := uv (more 0#32 b.data.toList)
theorem Of_q (b : ByteArray) (h : b.size ≤ 140737488351232) : crc_Of.f b = some (sum b) := by
  unfold crc_Of.f; rw [Of_f _ h, bs]; rfl
theorem ba_len (s : ByteArray) : s.data.toList.length = s.size := by simp
theorem ext_data (s : ByteArray) (a e : Nat) : (s.extract a e).data.toList = (s.data.toList.take e).drop a := by
  rw [ByteArray.data_extract, Array.toList_extract, List.extract_eq_take_drop, List.drop_take]
theorem list_inj {a b : ByteArray} : a.toList = b.toList ↔ a = b :=
  ⟨fun h => bytes_eq (by rw [ByteArray.toList_eq, ByteArray.toList_eq] at h; exact h), fun h => by rw [h]⟩
theorem held_rng (id : Int) : 1 ≤ heldN id ∧ heldN id ≤ 99999999 := by unfold heldN; omega
theorem held_same {n : Nat} (h1 : 1 ≤ n) (h2 : n ≤ 99999999) : heldN (n : Int) = n := by unfold heldN; omega
theorem held_q (id : Int) : head_held.f id = some ((heldN id : Nat) : Int) := by
  unfold head_held.f heldN mn mx
  congr 1
  repeat' split
  all_goals omega
def headP (x : Nat) : ByteArray := ⟨#[76, 65, 68, 69]⟩ ++ fixS x ++ fixS 0
def headS (x : Nat) : ByteArray := headP x ++ fixS (sum (headP x))
theorem headP_size (x : Nat) : (headP x).size = 12 := by unfold headP; rw [app_size, app_size, fixS_size, fixS_size]; rfl
theorem headS_size (x : Nat) : (headS x).size = 16 := by unfold headS; rw [app_size, headP_size, fixS_size]
theorem Bytes_q (id : Int) (k : Nat) : head_Bytes.f (k + 5) id = some (headS (heldN id)) := by
  unfold head_Bytes.f
  have hr := held_rng id
  have hz := headP_size (heldN id)
  unfold headP at hz
  have h4 : (⟨#[76, 65, 68, 69]⟩ : ByteArray).size = 4 := rfl
  rw [held_q, bs, show ((heldN id : Nat) : Int) % 4294967296 = (heldN id : Nat) from by omega, Fixed_q, bs, if_pos (by rw [fixS_size]; decide), Fixed_q, bs, if_pos (by rw [app_size, fixS_size, fixS_size, h4]; decide), Of_q _ (by rw [hz]; decide), bs, Fixed_q, bs, if_pos (by rw [hz, fixS_size]; decide)]
  rfl
/-- does a begin as b does -/
def hasP (a b : ByteArray) : Bool := decide (b.size ≤ a.size) && decide (a.extract 0 b.size = b)
theorem beq_list (a b : ByteArray) : (a.toList == b.toList) = decide (a = b) := by
  by_cases h : a = b
  · rw [decide_eq_true h]; exact beq_iff_eq.2 (by rw [h])
  · rw [decide_eq_false h]; exact beq_eq_false_iff_ne.2 (fun e => h (list_inj.1 e))
theorem Has_q (a b : ByteArray) : strings_HasPrefix.f a b = some (hasP a b) := by
  unfold strings_HasPrefix.f stringslite_HasPrefix.f hasP
  by_cases h : b.size ≤ a.size
  · rw [if_pos (show (a.size : Int) ≥ (b.size : Int) by omega), if_pos (by omega), if_pos (show (b.size : Int) ≤ (a.size : Int) by omega), bs, Int.toNat_natCast, beq_list, decide_eq_true h, Bool.true_and]
  · rw [if_neg (show ¬ (a.size : Int) ≥ (b.size : Int) by omega), bs, decide_eq_false h, Bool.false_and]
def checkN (s : ByteArray) (x : Nat) : Int := if hasP s (headS x) = true then 1 else if hasP (headS x) s = true then 3 else 4
theorem Check_q (s : ByteArray) (id : Int) (k : Nat) : head_Check.f (k + 5) s id = some (checkN s (heldN id)) := by
  unfold head_Check.f checkN
  rw [Bytes_q, bs, Has_q, bs]
  split
  · rfl
  · rw [Has_q, bs]; split <;> rfl
theorem ext_pre (a b : ByteArray) : (a ++ b).extract 0 a.size = a := bytes_eq (by
  rw [ext_data, app_data, ← ba_len a, List.take_left']
  · rfl
  · rfl)
theorem ext_low (x y : ByteArray) (a e : Nat) (h : e ≤ x.size) : (x ++ y).extract a e = x.extract a e := bytes_eq (by
  rw [ext_data, ext_data, app_data, List.take_append_of_le_length (by rw [ba_len]; exact h)])
theorem ext_ext (s : ByteArray) (a b : Nat) (h : b ≤ a) : (s.extract 0 a).extract 0 b = s.extract 0 b := bytes_eq (by
  rw [ext_data, ext_data, ext_data]; simp only [List.drop_zero]; rw [List.take_take, Nat.min_eq_left h])
theorem headS_inj {x y : Nat} (hx : x ≤ 99999999) (hy : y ≤ 99999999) (h : headS x = headS y) : x = y := by
  have e : ∀ z : Nat, (headS z).extract 4 8 = fixS z := fun z => bytes_eq (by
    unfold headS headP
    have h4 : (⟨#[76, 65, 68, 69]⟩ : ByteArray).data.toList.length = 4 := rfl
    have h5 : (fixS (z : Int)).data.toList.length = 4 := by rw [ba_len, fixS_size]
    rw [ext_data, app_data, app_data, app_data, List.append_assoc, List.append_assoc, List.drop_take, List.drop_left' h4, List.take_left' (by rw [h5])])
  have := fixS_inj (x := (x : Int)) (y := (y : Int)) (by omega) (by omega) (by rw [← e, ← e, h])
  omega
theorem head_has (x y : Nat) (hx : x ≤ 99999999) (hy : y ≤ 99999999) (tail : ByteArray) : hasP (headS x ++ tail) (headS y) = decide (x = y) := by
  unfold hasP
  have hz : (headS y).size = (headS x).size := by rw [headS_size, headS_size]
  rw [hz, ext_pre, decide_eq_true (by rw [app_size]; omega), Bool.true_and]
  by_cases h : x = y
  · subst h; rw [decide_eq_true rfl, decide_eq_true rfl]
  · rw [decide_eq_false h, decide_eq_false (fun e => h (headS_inj hx hy e))]
/-- names -/
theorem nameS_size (n : Nat) : (nameS n).size = 12 := by unfold nameS; rw [app_size, strOfNums_size]; rfl
theorem dg_lt (n k : Nat) : dg n k < 256 := by unfold dg; omega
theorem nameS_data (n : Nat) : (nameS n).data.toList = [115, 101, 103, 45] ++ (List.range 8).map fun j => UInt8.ofNat (dg n (7 - j)) := by
  unfold nameS digL
  rw [app_data, strOfNums_data, List.map_map]
  rfl
theorem pre_name (n : Nat) : preB (nameS n) = true := by
  unfold preB
  rw [decide_eq_true (by rw [nameS_size]; decide), Bool.true_and]
  refine beq_iff_eq.2 (list_inj.2 ?_)
  exact ext_pre _ _
theorem cut_name (n : Nat) : (cutS (nameS n)).data.toList = (List.range 8).map fun j => UInt8.ofNat (dg n (7 - j)) := by
  unfold cutS
  rw [if_pos (pre_name n), ext_data, List.take_of_length_le (by rw [ba_len]; exact Nat.le_refl _), nameS_data]
  rfl
theorem range8 {α : Type} (f : Nat → α) : (List.range 8).map f = [f 0, f 1, f 2, f 3, f 4, f 5, f 6, f 7] := rfl
theorem decP_name (n : Nat) (h : n ≤ 99999999) : decP ((List.range 8).map fun j => UInt8.ofNat (dg n (7 - j))) 8 = n := by
  rw [range8]
  have hd : ∀ k, ((UInt8.ofNat (dg n k)).toNat + 208) % 256 % 10 = n / 10 ^ k % 10 := fun k => by
    rw [ofNat_u8 (dg_lt n k)]; unfold dg; omega
  simp only [decP, List.getD_cons_zero, List.getD_cons_succ]
  rw [hd, hd, hd, hd, hd, hd, hd, hd]
  have p0 : n / 10 ^ (7 - 7) = n := by rw [show 10 ^ (7 - 7) = 1 from rfl, Nat.div_one]
  have p1 : n / 10 ^ (7 - 6) = n / 10 := rfl
  have p2 : n / 10 ^ (7 - 5) = n / 100 := rfl
  have p3 : n / 10 ^ (7 - 4) = n / 1000 := rfl
  have p4 : n / 10 ^ (7 - 3) = n / 10000 := rfl
  have p5 : n / 10 ^ (7 - 2) = n / 100000 := rfl
  have p6 : n / 10 ^ (7 - 1) = n / 1000000 := rfl
  have p7 : n / 10 ^ (7 - 0) = n / 10000000 := rfl
  rw [p0, p1, p2, p3, p4, p5, p6, p7]
  omega
theorem dec_name (n : Nat) (h : n ≤ 99999999) : decN (nameS n) = n := by
  unfold decN
  have hl : (cutS (nameS n)).size = 8 := by rw [← ba_len, cut_name]; rfl
  rw [hl, cut_name]
  exact decP_name n h
theorem id_name (n : Nat) (h1 : 1 ≤ n) (h2 : n ≤ 99999999) : idN (nameS n) = (n, true) := by
  unfold idN
  rw [dec_name n h2, held_same h1 h2, pre_name, if_neg (by intro h; rcases h with h | h | h; exact absurd h (by decide); omega; exact h rfl)]
theorem decN_lt (s : ByteArray) : decN s ≤ 99999999 := by
  unfold decN
  have h := decP_lt ((cutS s).data.toList.take 8) (min (cutS s).size 8)
  have hp : 10 ^ (min (cutS s).size 8) ≤ 10 ^ 8 := Nat.pow_le_pow_right (by omega) (by omega)
  omega
/-- what has a number has its name -/
theorem id_ok {s : ByteArray} (h : (idN s).2 = true) : 1 ≤ (idN s).1 ∧ (idN s).1 ≤ 99999999 ∧ nameS (idN s).1 = s := by
  unfold idN at h ⊢
  split at h
  · exact absurd h (by decide)
  · rename_i hc
    rw [if_neg hc]
    have h1 : decN s ≠ 0 := fun e => hc (.inr (.inl e))
    have hl := decN_lt s
    have hs : heldN (decN s : Int) = decN s := held_same (by omega) hl
    have h2 : nameS (heldN (decN s)) = s := Classical.byContradiction fun e => hc (.inr (.inr e))
    rw [hs] at h2
    exact ⟨by show 1 ≤ decN s; omega, hl, h2⟩
theorem id_no {s : ByteArray} (h : (idN s).2 = false) : idN s = (0, false) := by
  unfold idN at h ⊢
  split at h
  · rename_i hc; rw [if_pos hc]
  · exact absurd (show true = false from h) (by decide)
theorem known_q (k : Nat) : ladelaw10_known.f (k + 5) = some true := by
  unfold ladelaw10_known.f
  have n7 : nameS 7 = ⟨#[115, 101, 103, 45, 48, 48, 48, 48, 48, 48, 48, 55]⟩ := bytes_eq (by decide +kernel)
  have i7 := id_name 7 (by decide) (by decide)
  rw [n7] at i7
  have g7 : Given.head_ID.f ⟨#[115, 101, 103, 45, 48, 48, 48, 48, 48, 48, 48, 55]⟩ = some (7, true) := by
    unfold Given.head_ID.f; rw [if_pos (by decide), i7]; rfl
  have b7 : (idN ⟨#[115, 101, 103, 45, 48, 48, 48, 48, 48, 48, 55]⟩).2 = false := by
    cases h : (idN ⟨#[115, 101, 103, 45, 48, 48, 48, 48, 48, 48, 55]⟩).2 with
    | false => rfl
    | true =>
      have := congrArg ByteArray.size (id_ok h).2.2
      rw [nameS_size] at this
      exact absurd this (by decide)
  have g8 : Given.head_ID.f ⟨#[115, 101, 103, 45, 48, 48, 48, 48, 48, 48, 55]⟩ = some (0, false) := by
    unfold Given.head_ID.f; rw [if_pos (by decide), id_no b7]; rfl
  have h7 : heldN 7 = 7 := by decide
  have gn : Given.head_Name.f 7 = some ⟨#[115, 101, 103, 45, 48, 48, 48, 48, 48, 48, 48, 55]⟩ := by unfold Given.head_Name.f; rw [h7, n7]
  rw [g7]; simp only [bs]
  rw [g8]; simp only [bs]
  rw [gn, bs, if_pos (by decide +kernel), it, it, if_neg (by decide), Bytes_q, h7, bs, if_pos (by rw [headS_size]; rfl), bs, if_pos (by rw [headS_size]; decide), Check_q, h7, bs]
  have c1 : checkN (headS 7 ++ ⟨#[120]⟩) 7 = 1 := by unfold checkN; rw [head_has 7 7 (by decide) (by decide), if_pos (by decide)]
  have c2 : checkN ⟨#[]⟩ 7 = 3 := by
    unfold checkN hasP
    rw [headS_size, if_neg (by rw [decide_eq_false (show ¬ 16 ≤ (⟨#[]⟩ : ByteArray).size by decide), Bool.false_and]; decide), if_pos]
    rw [decide_eq_true (show (⟨#[]⟩ : ByteArray).size ≤ 16 by decide), Bool.true_and]
    exact decide_eq_true (bytes_eq (by rw [ext_data]; rfl))
  have c3 : checkN ⟨#[120]⟩ 7 = 4 := by
    unfold checkN hasP
    rw [headS_size, if_neg (by rw [decide_eq_false (show ¬ 16 ≤ (⟨#[120]⟩ : ByteArray).size by decide), Bool.false_and]; decide), if_neg]
    rw [decide_eq_true (show (⟨#[120]⟩ : ByteArray).size ≤ 16 by decide), Bool.true_and, decide_eq_false]
    · decide
    · intro e
      have : ((headS 7).extract 0 (⟨#[120]⟩ : ByteArray).size).data.toList = (⟨#[120]⟩ : ByteArray).data.toList := by rw [e]
      rw [ext_data, show (⟨#[120]⟩ : ByteArray).size = 1 from rfl] at this
      unfold headS headP at this
      rw [app_data, app_data, app_data] at this
      simp at this
  rw [c1, if_pos rfl, Check_q, h7, c2, bs, if_pos rfl, Check_q, h7, c3, bs]
  rfl
end Go.Proofs.Ytjiojcoddildgaa.HeadM
