/- CrcLinear: the sum of three texts of one length, bit by bit put together, is that of the three sums, for texts of 100 bytes at most. -/
import Derived.Test.YtieklgflkjgijaaQx2
import Derived.Test.YtieklgflkjgijaaCrcM
namespace Go.Proofs.Ytieklgflkjgijaa.Pure
open Go Go.RowKit Go.Proofs.Ytieklgflkjgijaa.Q Go.Proofs.YtieklgflkjgijaaW.PrintWords Go.Proofs.YtieklgflkjgijaaW.PrintLast Go.Proofs.YtieklgflkjgijaaW.PrintMore Go.Proofs.Ytieklgflkjgijaa.CrcM Go.Proofs.Ytieklgflkjgijaa.CrcW

theorem known_linear : ladelaw2_known.f = some true := by
  unfold ladelaw2_known.f crc_Of.f
  rw [known1]; simp only [bs]; rw [it, known2]; simp only [bs]; rfl

theorem byte3 (p q r : BitVec 32) (x y z : UInt8) : byteStep (p ^^^ q ^^^ r) (x ^^^ y ^^^ z) = byteStep p x ^^^ byteStep q y ^^^ byteStep r z := by
  unfold byteStep
  rw [UInt8.toBitVec_xor, UInt8.toBitVec_xor, BitVec.zeroExtend_eq_setWidth, BitVec.setWidth_xor, BitVec.setWidth_xor, ← sts_xor, ← sts_xor]
  congr 1
  simp only [BitVec.zeroExtend_eq_setWidth]; ac_rfl
theorem fold3 : ∀ (l : List (UInt8 × UInt8 × UInt8)) (p q r : BitVec 32),
    (l.map fun t => t.1 ^^^ t.2.1 ^^^ t.2.2).foldl byteStep (p ^^^ q ^^^ r) = (l.map fun t => t.1).foldl byteStep p ^^^ (l.map fun t => t.2.1).foldl byteStep q ^^^ (l.map fun t => t.2.2).foldl byteStep r
  | [], _, _, _ => rfl
  | t :: l, p, q, r => by
    simp only [List.map_cons, List.foldl_cons]
    rw [byte3, fold3 l]
theorem not3 (p q r : BitVec 32) : ~~~ (p ^^^ q ^^^ r) = ~~~ p ^^^ ~~~ q ^^^ ~~~ r := by
  ext i hi; simp only [BitVec.getElem_not, BitVec.getElem_xor]; cases p[i] <;> cases q[i] <;> cases r[i] <;> rfl
theorem more3 (l : List (UInt8 × UInt8 × UInt8)) : more 0#32 (l.map fun t => t.1 ^^^ t.2.1 ^^^ t.2.2) = more 0#32 (l.map fun t => t.1) ^^^ more 0#32 (l.map fun t => t.2.1) ^^^ more 0#32 (l.map fun t => t.2.2) := by
  unfold more
  rw [← not3, ← fold3]
  congr 2
theorem xor_u8 (x y : UInt8) : Go.bits .xor .u8 (x.toNat : Int) (y.toNat : Int) = ((x ^^^ y).toNat : Int) := by
  show IntKind.u8.wrap ((BitVec.ofInt 8 (x.toNat : Int) ^^^ BitVec.ofInt 8 (y.toNat : Int)).toNat : Int) = _
  have h : ∀ x : UInt8, BitVec.ofInt 8 (x.toNat : Int) = x.toBitVec := fun x => by rw [BitVec.ofInt_natCast]; exact BitVec.ofNat_toNat _ _ |>.trans (by simp)
  rw [h, h, IntKind.wrap_u8, UInt8.toNat_xor, BitVec.toNat_xor]
  have h1 := (x ^^^ y).toNat_lt
  rw [UInt8.toNat_xor] at h1
  show ((x.toNat ^^^ y.toNat : Nat) : Int) % 256 = _
  omega
def byteAt (b : ByteArray) (i : Nat) : UInt8 := b.data.toList.getD i 0
theorem bt_at' (b : ByteArray) {i : Nat} (h : i < b.size) : bt b i = ((byteAt b i).toNat : Int) := by
  have e : byteAt b i = b[i] := by
    show (b.data.toList[i]?).getD 0 = _
    rw [List.getElem?_eq_getElem (by simpa using h)]; rfl
  rw [e]; unfold bt; simp [h]
theorem take_map (b : ByteArray) {n : Nat} (h : n ≤ b.size) : b.data.toList.take n = (List.range n).map (byteAt b) := by
  apply List.ext_getElem
  · simp; omega
  · intro i h1 h2
    have hi : i < n := by simpa using h2
    simp only [List.getElem_take, List.getElem_map, List.getElem_range, byteAt, List.getD]
    rw [List.getElem?_eq_getElem (by simp; omega)]; rfl

def trip (a b c : ByteArray) (n : Nat) : List (UInt8 × UInt8 × UInt8) := (List.range n).map fun i => (byteAt a i, byteAt b i, byteAt c i)
def mixed (a b c : ByteArray) (n : Nat) : List Int := (List.range n).map fun i => ((byteAt a i ^^^ byteAt b i ^^^ byteAt c i).toNat : Int)
theorem mixed_succ (a b c : ByteArray) (i n : Nat) (h : i < n) : (mixed a b c i ++ List.replicate (n - i) 0).set i ((byteAt a i ^^^ byteAt b i ^^^ byteAt c i).toNat : Int) = mixed a b c (i + 1) ++ List.replicate (n - (i + 1)) 0 := by
  have hl : (mixed a b c i).length = i := by simp [mixed]
  rw [List.set_append_right _ _ (by omega), hl, Nat.sub_self, show n - i = (n - (i + 1)) + 1 from by omega, List.replicate_succ, List.set_cons_zero]
  simp [mixed, List.range_succ]
theorem mixed_str (a b c : ByteArray) (n : Nat) : (strOfNums (mixed a b c n)).data.toList = (trip a b c n).map fun t => t.1 ^^^ t.2.1 ^^^ t.2.2 := by
  rw [strOfNums_data, mixed, trip, List.map_map, List.map_map]
  apply List.map_congr_left
  intro i _
  simp
theorem ext0 (b : ByteArray) (n : Nat) : (b.extract 0 n).data.toList = b.data.toList.take n := by
  rw [ByteArray.data_extract, Array.toList_extract, List.extract_eq_take_drop, List.drop_zero, Nat.sub_zero]
theorem ext0_size (b : ByteArray) (n : Nat) : (b.extract 0 n).size ≤ b.size := by rw [ByteArray.size_extract]; omega

theorem linear_l (a b c : ByteArray) (ha : a.size ≤ 140737488351232) (hb : b.size ≤ 140737488351232) (hc : c.size ≤ 140737488351232) (n : Nat) (na : n ≤ a.size) (nb : n ≤ b.size) (nc : n ≤ c.size) :
    ∀ (d k i : Nat), i + d = n → d < k → ladelaw2_CrcLinear.l0 k a b c n (mixed a b c i ++ List.replicate (n - i) 0) i = some true := by
  intro d
  induction d with
  | zero =>
    intro k i hi hk
    obtain ⟨k, rfl⟩ : ∃ m, k = m + 1 := ⟨k - 1, by omega⟩
    obtain rfl : i = n := by omega
    rw [ladelaw2_CrcLinear.l0, if_neg (by omega), Nat.sub_self, List.replicate_zero, List.append_nil]
    have hs : (strOfNums (mixed a b c i)).size ≤ 140737488351232 := by rw [strOfNums_size]; simp [mixed]; omega
    have e1 := ext0_size a i
    have e2 := ext0_size b i
    have e3 := ext0_size c i
    unfold crc_Of.f
    rw [Of_f _ hs, show ((i : Nat) : Int).toNat = i from by omega]; simp only [bs]
    rw [if_pos (by omega), if_pos (by omega), Of_f _ (by omega)]; simp only [bs]
    rw [if_pos (by omega), Of_f _ (by omega)]; simp only [bs]
    rw [if_pos (by omega), Of_f _ (by omega)]; simp only [bs]
    rw [mixed_str, ext0, ext0, ext0, take_map a na, take_map b nb, take_map c nc, xor_uv, xor_uv, more3]
    simp only [trip, List.map_map, Function.comp_def]
    rw [beq_self_eq_true]
  | succ d ih =>
    intro k i hi hk
    obtain ⟨k, rfl⟩ : ∃ m, k = m + 1 := ⟨k - 1, by omega⟩
    have hlen : (mixed a b c i ++ List.replicate (n - i) 0).length = n := by simp [mixed]; omega
    rw [ladelaw2_CrcLinear.l0, hlen, if_pos (by omega), if_pos (by omega), if_pos (by omega), if_pos (by omega), if_pos (by omega), if_pos (by omega), bt_at' a (by omega), bt_at' b (by omega), bt_at' c (by omega), xor_u8, xor_u8,
      show ((i : Nat) : Int).toNat = i from by omega, mixed_succ a b c i n (by omega), show wrap64 ((i : Int) + 1) = ((i + 1 : Nat) : Int) from by unfold wrap64; omega]
    exact ih k (i + 1) (by omega) (by omega)

theorem mn_le' (a b : Int) : mn a b ≤ a ∧ mn a b ≤ b ∧ (mn a b = a ∨ mn a b = b) := by unfold mn; split <;> omega
theorem CrcLinear : ladelaw2_CrcLinear.Pure := by
  intro a b c ha hb hc
  have h1 := mn_le' (a.size : Int) b.size
  have h2 := mn_le' (mn (a.size : Int) b.size) c.size
  have h3 := mn_le' (mn (mn (a.size : Int) b.size) c.size) 100
  obtain ⟨n, hn⟩ : ∃ n : Nat, mn (mn (mn (a.size : Int) b.size) c.size) 100 = n := ⟨(mn (mn (mn (a.size : Int) b.size) c.size) 100).toNat, by omega⟩
  refine ⟨n + 1, ?_⟩
  unfold ladelaw2_CrcLinear.f
  rw [known_linear, bs, itt, hn]
  rw [hn] at h3
  have := linear_l a b c ha hb hc n (by omega) (by omega) (by omega) n (n + 1) 0 (by omega) (by omega)
  rw [if_pos (by omega), show ((n : Nat) : Int).toNat = n from by omega, if_pos (by omega)]
  exact this

end Go.Proofs.Ytieklgflkjgijaa.Pure
