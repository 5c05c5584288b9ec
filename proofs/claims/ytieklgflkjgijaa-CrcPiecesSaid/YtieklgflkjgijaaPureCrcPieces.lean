/- CrcPieces: a text's sum is that of its pieces, one behind the other, however it is cut. -/
import Derived.Test.YtieklgflkjgijaaQx3
import Derived.Test.YtieklgflkjgijaaCrcM
namespace Go.Proofs.Ytieklgflkjgijaa.Pure
open Go Go.RowKit Go.Proofs.Ytieklgflkjgijaa.Q Go.Proofs.YtieklgflkjgijaaW.PrintWords Go.Proofs.YtieklgflkjgijaaW.PrintLast Go.Proofs.YtieklgflkjgijaaW.PrintMore Go.Proofs.Ytieklgflkjgijaa.CrcM Go.Proofs.Ytieklgflkjgijaa.CrcW

theorem known_pieces : ladelaw2_known.f = some true := by
  unfold ladelaw2_known.f crc_Of.f
  rw [known1]; simp only [bs]; rw [it, known2]; simp only [bs]; rfl

theorem ext_data (b : ByteArray) (i j : Nat) : (b.extract i j).data.toList = (b.data.toList.take j).drop i := by
  rw [ByteArray.data_extract, Array.toList_extract, List.extract_eq_take_drop, List.drop_take]
theorem ext_size (b : ByteArray) (i j : Nat) : (b.extract i j).size ≤ b.size := by rw [ByteArray.size_extract]; omega
theorem take_drop (l : List UInt8) (i j : Nat) (h : i ≤ j) : l.take i ++ (l.take j).drop i = l.take j := by
  rw [show l.take i = (l.take j).take i from by rw [List.take_take, Nat.min_eq_left h], List.take_append_drop]
theorem mn_le (a b : Int) : mn a b ≤ a ∧ mn a b ≤ b ∧ (mn a b = a ∨ mn a b = b) := by unfold mn; split <;> omega

theorem piece_l (b : ByteArray) (l : List Int) (hb : b.size ≤ 300) (hl : l.length ≤ 20) (hw : ∀ x ∈ l, 0 ≤ x ∧ x ≤ 255) : ∀ (d k : Nat) (at_ i : Nat), at_ ≤ b.size → i + d = l.length → d < k →
    ladelaw2_CrcPieces.l0 k b l (uv (more 0#32 (b.data.toList.take at_))) at_ i = some true := by
  have fin : ∀ at_ : Nat, at_ ≤ b.size → (if 0 ≤ (at_ : Int) then (if (at_ : Int) ≤ (b.size : Int) then ((Given.crc_More.f (uv (more 0#32 (b.data.toList.take at_))) (b.extract (at_ : Int).toNat b.size)).bind fun t129 => ((crc_Of.f b).bind fun t130 => (some (t129 == t130)))) else (none)) else (none)) = some true := by
    intro at_ ha
    have := ext_size b (at_ : Int).toNat b.size
    rw [if_pos (by omega), if_pos (by omega), More_f _ _ (by omega)]; simp only [bs]
    unfold crc_Of.f
    rw [Of_f _ (by omega)]; simp only [bs]
    rw [← more_append, ext_data, show (at_ : Int).toNat = at_ from by omega, take_drop _ _ _ ha, List.take_of_length_le (by simp), beq_self_eq_true]
  intro d
  induction d with
  | zero =>
    intro k at_ i ha hi hk
    obtain ⟨k, rfl⟩ : ∃ m, k = m + 1 := ⟨k - 1, by omega⟩
    unfold ladelaw2_CrcPieces.l0
    rw [if_neg (by omega), fin at_ ha]
  | succ d ih =>
    intro k at_ i ha hi hk
    obtain ⟨k, rfl⟩ : ∃ m, k = m + 1 := ⟨k - 1, by omega⟩
    unfold ladelaw2_CrcPieces.l0
    rw [if_pos (by omega)]
    by_cases hlt : (at_ : Int) < (b.size : Int)
    · rw [if_pos hlt]
      have hx : 0 ≤ rd l i ∧ rd l i ≤ 255 := by
        have h1 : (i : Int).toNat < l.length := by omega
        unfold rd
        rw [List.getD, List.getElem?_eq_getElem h1]
        exact hw _ (List.getElem_mem h1)
      have ht : Int.tmod (rd l i) 40 = rd l i % 40 := Int.tmod_eq_emod_of_nonneg hx.1
      have hm := mn_le (rd l i % 40) ((b.size : Int) - at_)
      rw [ht, show wrap64 ((b.size : Int) - at_) = (b.size : Int) - at_ from by unfold wrap64; omega, show wrap64 (rd l i % 40) = rd l i % 40 from by unfold wrap64; omega]
      obtain ⟨n, hn⟩ : ∃ n : Nat, mn (rd l i % 40) ((b.size : Int) - at_) = n := ⟨(mn (rd l i % 40) ((b.size : Int) - at_)).toNat, by omega⟩
      rw [hn] at hm ⊢
      rw [show wrap64 ((at_ : Int) + (n : Int)) = ((at_ + n : Nat) : Int) from by unfold wrap64; omega, show wrap64 ((i : Int) + 1) = ((i + 1 : Nat) : Int) from by unfold wrap64; omega]
      have := ext_size b (at_ : Int).toNat ((at_ + n : Nat) : Int).toNat
      rw [if_pos (by omega), if_pos (by omega), if_pos (by omega), if_pos (by omega), More_f _ _ (by omega)]; simp only [bs]
      rw [← more_append, ext_data, show (at_ : Int).toNat = at_ from by omega, show ((at_ + n : Nat) : Int).toNat = at_ + n from by omega, take_drop _ _ _ (by omega)]
      exact ih k (at_ + n) (i + 1) (by omega) (by omega) (by omega)
    · rw [if_neg hlt, fin at_ ha]

theorem CrcPieces : ladelaw2_CrcPieces.Pure := by
  intro b l hb _ _ hw
  have hw' : ∀ x ∈ l, 0 ≤ x ∧ x ≤ 255 := fun x hx => by
    have := hw x hx
    simp [Lit.wf, IntKind.min, IntKind.max, IntKind.bits, IntKind.signed] at this; omega
  refine ⟨(l.length + 1) + 1, ?_⟩
  have hj : ∀ x, ladelaw2_CrcPieces.j0 ((l.length + 1) + 1) b l x = if x = true then (some true) else (ladelaw2_CrcPieces.l0 (l.length + 1) b l 0 0 0) := fun x => by rw [ladelaw2_CrcPieces.j0]
  unfold ladelaw2_CrcPieces.f
  rw [known_pieces, bs, itt]
  by_cases h1 : (b.size : Int) > 300
  · rw [if_pos h1, hj, itt]
  · rw [if_neg h1, hj]
    by_cases h2 : (l.length : Int) > 20
    · rw [decide_eq_true h2, itt]
    · rw [decide_eq_false h2, if_neg (by decide)]
      have := piece_l b l (by omega) (by omega) hw' l.length (l.length + 1) 0 0 (by omega) (by omega) (by omega)
      rw [List.take_zero, more_nil, ← zero_uv] at this
      exact this

end Go.Proofs.Ytieklgflkjgijaa.Pure
