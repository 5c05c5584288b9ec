/- The walks of package crc: steps, More, Of. -/
import Derived.Test.YtjiojcoddildgaaProg
import Derived.Test.YtjiojcoddildgaaSeq
import Derived.Outline
namespace Go.Proofs.Ytjiojcoddildgaa.CrcW
open Go Go.RowKit Go.Shelf Go.Proofs.Ytjiojcoddildgaa.Seq
attribute [local go_sem] Oper.semAt_some

/-- A number of 32 bits as the machine has it. -/
def uv (c : BitVec 32) : Int := c.toNat
def st (c : BitVec 32) : BitVec 32 := if c &&& 1#32 = 1#32 then (c >>> 1) ^^^ 2197175160#32 else c >>> 1
def sts (c : BitVec 32) : Nat → BitVec 32
  | 0 => c
  | k + 1 => st (sts c k)
theorem uv_lo (c : BitVec 32) : 0 ≤ uv c := by unfold uv; omega
theorem uv_hi (c : BitVec 32) : uv c < 4294967296 := by unfold uv; have := c.isLt; omega
theorem ofInt_uv (c : BitVec 32) : BitVec.ofInt 32 (uv c) = c := by
  unfold uv; rw [BitVec.ofInt_natCast]; simp
theorem bits_uv (c : BitVec 32) : IntKind.u32.wrap (c.toNat : Int) = uv c := by
  rw [IntKind.wrap_u32]; unfold uv; have := c.isLt; omega
theorem and_uv (a b : BitVec 32) : Go.bits .and .u32 (uv a) (uv b) = uv (a &&& b) := by
  show IntKind.u32.wrap ((BitVec.ofInt 32 (uv a) &&& BitVec.ofInt 32 (uv b)).toNat : Int) = _
  rw [ofInt_uv, ofInt_uv, bits_uv]
theorem xor_uv (a b : BitVec 32) : Go.bits .xor .u32 (uv a) (uv b) = uv (a ^^^ b) := by
  show IntKind.u32.wrap ((BitVec.ofInt 32 (uv a) ^^^ BitVec.ofInt 32 (uv b)).toNat : Int) = _
  rw [ofInt_uv, ofInt_uv, bits_uv]
theorem shr_uv (a : BitVec 32) : uv a / (2 : Int) = uv (a >>> (1 : Nat)) := by
  unfold uv; rw [BitVec.toNat_ushiftRight, Nat.shiftRight_eq_div_pow]; rfl
theorem uv_inj {a b : BitVec 32} : uv a = uv b ↔ a = b := by
  unfold uv; constructor
  · intro h; exact BitVec.eq_of_toNat_eq (by omega)
  · intro h; rw [h]

theorem lit_one : (1 : Int) = uv 1#32 := by decide
theorem lit_poly : (2197175160 : Int) = uv 2197175160#32 := by decide
theorem test_yes {c : BitVec 32} (h : (Go.bits .and .u32 (uv c) 1 == 1) = true) : Go.bits .xor .u32 (uv c / 2) 2197175160 = uv (st c) := by
  rw [lit_one, and_uv, beq_iff_eq, uv_inj] at h
  rw [shr_uv, lit_poly, xor_uv, st, if_pos h]
theorem test_no {c : BitVec 32} (h : (Go.bits .and .u32 (uv c) 1 == 1) = false) : uv c / 2 = uv (st c) := by
  rw [lit_one, and_uv, beq_eq_false_iff_ne, ne_eq, uv_inj] at h
  rw [shr_uv, st, if_neg h]
theorem sts_at (c : BitVec 32) {k : Nat} (h : k < 8) : ((List.range 8).map fun k => sts c (k + 1))[k]? = some (sts c (k + 1)) := by
  rw [List.getElem?_map, List.getElem?_range h]; rfl
set_option maxHeartbeats 1000000 in
theorem steps1_iter (B : Nat) (c : BitVec 32) (w : World) (hb : Boxed w B 28 (.int .u32 (uv c))) :
    Iter Try.prog 29 #[.pointer (some ⟨B, 0, none⟩)] (fun x : BitVec 32 => #[.int .u32 (uv x)]) ((List.range 8).map fun k => sts c (k + 1)) (fun b => b = B) w := by
  intro l J Jx W hK hJ hJx hY h0
  have hb' := hK.boxed hb rfl
  clear hK hb
  refine callsIn_of_wp Try.func29 rfl trivial ?_
  simp only [Try.ntmps29, List.size_toArray, List.length_cons, List.length_nil, Nat.reduceAdd, Nat.reduceSub, Array.replicate_succ, Array.replicate_zero, List.push_toArray, List.append_toArray, List.nil_append, List.cons_append]
  gi_wp2
  gi_loopw [4] (fun i wr => ∃ k : Nat, k ≤ 8 ∧ i = .int .i64 k ∧ Boxed wr B 28 (.int .u32 (uv (sts c k))) ∧ J k wr) (fun i _ => 8 - (intOf i).toNat)
  case atStart => exact ⟨0, by omega, rfl, hb', h0⟩
  case round =>
    obtain ⟨k, hk, rfl, hbk, hJk⟩ := hrel
    by_cases hlt : k < 8
    · have hc := hbk.cell
      have hf := hbk.frozen
      have hx := sts_at c hlt
      gi_wp2
      · rename_i ht _ _ _ _
        have e1 := test_yes ht
        rw [e1]
        refine yield_at (hY k _ _ hx (hJ k wr _ hJk (only2 B _ _ _))) ?_
        rintro e W3 (⟨rfl, hJ3, hk3⟩ | ⟨rfl, hJx3⟩)
        · have hb3 := hk3.boxed ((hbk.set _).set _) rfl
          clear hx hk3 hc hf
          gi_wp2
          go_roundw
          case rel => exact ⟨k + 1, by omega, by go_num, hb3, hJ3⟩
          case measure => simp [intOf]; omega
        · clear hc hf
          gi_wp2
          refine bodyPost_ret (results_none rfl _ _ _) rfl ?_
          exact ⟨⟨_, rfl⟩, .inr ⟨k, _, hx, hJx3⟩⟩
      · rename_i ht _ _ _ _
        have e1 := test_no ht
        rw [e1]
        refine yield_at (hY k _ _ hx (hJ k wr _ hJk (only1 B _ _))) ?_
        rintro e W3 (⟨rfl, hJ3, hk3⟩ | ⟨rfl, hJx3⟩)
        · have hb3 := hk3.boxed (hbk.set _) rfl
          clear hx hk3 hc hf
          gi_wp2
          go_roundw
          case rel => exact ⟨k + 1, by omega, by go_num, hb3, hJ3⟩
          case measure => simp [intOf]; omega
        · clear hc hf
          gi_wp2
          refine bodyPost_ret (results_none rfl _ _ _) rfl ?_
          exact ⟨⟨_, rfl⟩, .inr ⟨k, _, hx, hJx3⟩⟩
    · obtain rfl : k = 8 := by omega
      gi_wp2
      go_end0
      exact ⟨⟨_, rfl⟩, .inl (by simpa using hJk)⟩

theorem steps_calls (c : BitVec 32) (w : World) :
    CallsIn Fence.wide 0 Try.prog 28 #[.int .u32 (uv c)] w fun e w' => e = .returned (.func (.func 29) #[] #[.pointer (some ⟨w.heap.size, 0, none⟩)]) ∧ w' = w.alloc (.cells #[.int .u32 (uv c)] 28) := by
  refine callsIn_of_wp Try.func28 rfl trivial ?_
  simp only [Try.ntmps28, List.size_toArray, List.length_cons, List.length_nil, Nat.reduceAdd, Nat.reduceSub, Array.replicate_succ, Array.replicate_zero, List.push_toArray, List.append_toArray, List.nil_append, List.cons_append]
  gi_wp2
  go_ret
  exact ⟨rfl, rfl⟩

def byteStep (c : BitVec 32) (x : UInt8) : BitVec 32 := sts (c ^^^ (x.toBitVec.zeroExtend 32)) 8
def more (c : BitVec 32) (l : List UInt8) : BitVec 32 := ~~~ (l.foldl byteStep (~~~ c))

theorem unary_uv (c : BitVec 32) : Op.unary .xor (.int .u32 (uv c)) = pure (.int .u32 (uv (~~~ c))) := by
  show pure (Value.int .u32 (Go.bits .xor .u32 (if IntKind.u32.signed then -1 else IntKind.u32.max) (uv c))) = _
  have h : (if IntKind.u32.signed then -1 else IntKind.u32.max) = uv (BitVec.allOnes 32) := by decide
  rw [h, xor_uv, BitVec.allOnes_xor]
theorem byte_uv (x : UInt8) : ((x.toNat : Int)) = uv (x.toBitVec.zeroExtend 32) := by
  unfold uv; simp
theorem take_fold (c : BitVec 32) (l : List UInt8) {k : Nat} (h : k < l.length) : (l.take (k + 1)).foldl byteStep c = byteStep ((l.take k).foldl byteStep c) (l.getD k 0) := by
  rw [List.take_succ_eq_append_getElem h, List.foldl_append]
  simp [List.getD, h]
theorem uv_mod (c : BitVec 32) : uv c % 4294967296 = uv c := Int.emod_eq_of_lt (uv_lo c) (uv_hi c)
attribute [local go_sem high] unary_uv xor_uv uv_mod

set_option maxHeartbeats 1000000 in
theorem more_calls (c : BitVec 32) (b : ByteArray) (hb : b.size ≤ 140737488351232) (w : World) :
    Calls Try.prog 25 #[.int .u32 (uv c), .string b] w fun e w' => e = .returned (.int .u32 (uv (more c b.data.toList))) ∧ Below w.heap.size w w' := by
  refine (callsIn_wide (n := 0)).1 ?_
  refine callsIn_of_wp_marks Try.func25 rfl trivial ?_
  simp only [Try.ntmps25, List.size_toArray, List.length_cons, List.length_nil, Nat.reduceAdd, Nat.reduceSub, Array.replicate_succ, Array.replicate_zero, List.push_toArray, List.append_toArray, List.nil_append, List.cons_append]
  gi_wp2_with (refine wpListIn_bytes _ rfl 9 30 _ rfl 5 b rfl Try.underlying9 Try.underlying30 Try.underlying5 ?_; intro cap W0 hon hsz hcell hfr; clear hfr)
  have hB0 : Boxed W0 w.heap.size 28 (.int .u32 (uv (~~~ c))) := (hon (fun _ => False)).boxed (Boxed.new w _ _) (fun h => h)
  have hW0 : Below w.heap.size w W0 := ((Below.refl _ w).alloc (Nat.le_refl _) _).trans ((hon (fun _ => False)).below (by simp) (fun _ _ h => h))
  simp only [World.size_alloc] at hcell hsz
  clear hon
  refine wpIn_loop (fun a' W => ∃ (k : Nat) (ds : List Deferred) (u6 u7 u14 u15 u16 u17 u18 u19 u20 u21 u22 u23 u24 : Value), (k ≤ b.size ∧ Boxed W w.heap.size 28 (.int .u32 (uv ((b.data.toList.take k).foldl byteStep (~~~ c)))) ∧
      (∀ j, j < b.size → W.cell? ⟨w.heap.size + 1, j, none⟩ = some (.int .u8 (b.data.toList.getD j 0).toNat)) ∧ w.heap.size + 2 ≤ W.heap.size ∧ Marks (w.heap.size + 2) ds W ∧ Below w.heap.size w W) ∧
      a' = { tmps := #[.int .u32 (uv c), .string b, .pointer (some ⟨w.heap.size, 0, none⟩), undef, .int .u32 0, undef, u6, u7, .int .u32 (uv c), .int .u32 (uv (~~~ c)), .string b, .slice (some ⟨w.heap.size + 1, 0, none⟩) b.size cap, .int .i64 b.size, .int .i64 k, u14, u15, u16, u17, u18, u19, u20, u21, u22, u23, u24, undef, undef], defers := ds })
    (fun a' _ => b.size - (intOf (a'.tmps.getD 13 undef)).toNat) ?start ?round
  case start => exact ⟨0, [], _, _, _, _, _, _, _, _, _, _, _, _, _, ⟨by omega, hB0, hcell, by omega, trivial, hW0⟩, rfl⟩
  case round =>
    clear hB0 hW0 hcell hsz W0
    rintro a' W ⟨k, ds, u6, u7, u14, u15, u16, u17, u18, u19, u20, u21, u22, u23, u24, ⟨hk, hbox, hcell, hsz, hm, hbel⟩, rfl⟩
    by_cases hlt : k < b.size
    · have hcx := hcell k hlt
      rw [byte_uv] at hcx
      have hfold : Hid ((b.data.toList.take (k + 1)).foldl byteStep (~~~ c) = byteStep ((b.data.toList.take k).foldl byteStep (~~~ c)) (b.data.toList.getD k 0)) := take_fold _ _ (by simpa using hlt)
      have hcell' : Hid (∀ j, j < b.size → W.cell? ⟨w.heap.size + 1, j, none⟩ = some (.int .u8 (b.data.toList.getD j 0).toNat)) := hcell
      clear hcell
      revert hcx hfold hbox
      generalize b.data.toList.getD k 0 = x
      generalize (b.data.toList.take k).foldl byteStep (~~~ c) = s
      intro hbox hcx hfold
      have hfold' : Hid (∀ v, v = sts (s ^^^ (x.toBitVec.zeroExtend 32)) 8 → Value.int .u32 (uv v) = .int .u32 (uv ((b.data.toList.take (k + 1)).foldl byteStep (~~~ c)))) := by
        rintro v rfl; rw [hfold.out]; rfl
      clear hfold
      revert hcx hfold'
      generalize x.toBitVec.zeroExtend 32 = y
      intro hcx hfold
      have hc := hbox.cell
      gi_wp2_with (refine ⟨trivial, rfl, ?_⟩; gi_at_call 28; refine (steps_calls _ _).mono ?_; rintro e w' ⟨rfl, rfl⟩)
      refine range_outer (gf := 29) (lb := #[.pointer (some ⟨W.heap.size, 0, none⟩)]) rfl (enters_of Try.func29 (by kernel_rfl) rfl) (steps1_iter W.heap.size (s ^^^ y) _ (Boxed.new W _ _)) (fun q h => by subst h; simp) (fun _ => rfl)
        (fun j W' => Only (fun q => q = w.heap.size ∨ W.heap.size ≤ q) W W' ∧ Boxed W' w.heap.size 28 (.int .u32 (uv (if j = 0 then s else sts (s ^^^ y) j))))
        (fun _ _ _ => False) ?hI (fun _ _ _ _ h _ => h) ?h0
        (fun v a' _ => a' = { tmps := #[.int .u32 (uv c), .string b, .pointer (some ⟨w.heap.size, 0, none⟩), undef, .int .u32 0, undef, .int .u8 (uv y), .int .u32 (uv v), .int .u32 (uv c), .int .u32 (uv (~~~ c)), .string b, .slice (some ⟨w.heap.size + 1, 0, none⟩) b.size cap, .int .i64 b.size, .int .i64 k,
          .bool true, .pointer (some ⟨w.heap.size + 1, k, none⟩), .int .u8 (uv y), .int .u32 (uv s), .int .u8 (uv y), .int .u32 (uv y), .int .u32 (uv (s ^^^ y)), .func (.func 29) #[] #[.pointer (some ⟨W.heap.size, 0, none⟩)], .int .u32 (uv v), u23, u24, undef, undef], defers := [] })
        (fun _ _ _ _ h _ => h) ?assign ?body ?done ?stop
      case hI =>
        rintro j A B ⟨h1, h2⟩ h
        simp only [World.size_alloc] at h
        exact ⟨h1.trans (h.mono fun q _ hq => .inr (by omega)), h.boxed h2 (by omega)⟩
      case h0 => exact ⟨(Only.refl _ _).alloc _, hbox.alloc _⟩
      case assign =>
        rintro l j v W' K hx hi hsz' hK
        gi_wp2
        exact hK _ _ (Keeps.refl _ _) hi rfl
      case body =>
        rintro l j v a' W' hx rfl ⟨r, hr⟩ ⟨hon, hbx⟩ rfl
        have hj : j < 8 := by
          rcases Nat.lt_or_ge j 8 with h | h
          · exact h
          · rw [List.getElem?_eq_none (by simpa using h)] at hx; cases hx
        rw [sts_at _ hj] at hx
        cases hx
        have hc2 := hbx.cell
        have hf2 := hbx.frozen
        gi_wp2
        exact ⟨Keeps.setCell _ _ (by simp; omega) _, hon.setCell (p := ⟨w.heap.size, 0, none⟩) (by simp) _, by simpa using hbx.set _⟩
      case done =>
        rintro W' ⟨hon, hbx⟩ hD
        simp only [World.size_alloc] at hD
        have hlen : ((List.range 8).map fun k => sts (s ^^^ y) (k + 1)).length = 8 := by simp
        rw [hlen] at hbx
        rw [if_neg (by omega), hfold.out _ rfl] at hbx
        gi_wp2
        simp only [World.size_alloc, show (k : Int) + 1 = ((k + 1 : Nat) : Int) from by omega]
        refine ⟨⟨k + 1, { target := .collected (W.heap.size + 1), args := #[] } :: ds, _, _, _, _, _, _, _, _, _, _, _, _, _, ⟨by omega, hbx, fun j hj => hon.cell (hcell'.out j hj) (by simp; omega), by have := hon.size; omega, (hm.only hon (by simp; omega)).cons hD (by omega) (fun d' hd r' e => by have := hm.lt d' hd r' e; omega), hbel.trans (hon.below (by omega) (by omega))⟩, rfl⟩, ?_⟩
        simp [intOf]; omega
      case stop => exact fun _ _ _ _ _ h => h.elim
    · obtain rfl : k = b.size := by omega
      have hc := hbox.cell
      gi_wp2
      refine hm.leaves fun W' hW' => ?_
      refine ⟨_, results_tmp rfl _ _ _, ?_, hbel.trans (hW'.below (by omega) (fun q hq => by omega))⟩
      rw [List.take_of_length_le (by simp)]
      rfl
end Go.Proofs.Ytjiojcoddildgaa.CrcW
