/- The program's reader: numbers, texts, entries; what both readers read. -/
import Derived.Test.YtokjhocjemjfiaaCodeA
import Derived.Test.YtokjhocjemjfiaaMc
import Derived.Test.YtokjhocjemjfiaaMr
set_option linter.unusedVariables false
set_option linter.unusedSimpArgs false
namespace Go.Proofs.Ytokjhocjemjfiaa.Sp
open Go Go.RowKit Go.Proofs.Ytokjhocjemjfiaa.A Go.Proofs.Ytokjhocjemjfiaa.Seq Go.Proofs.Ytokjhocjemjfiaa.CodeW Go.Proofs.Ytokjhocjemjfiaa.CodeM Go.Proofs.Ytokjhocjemjfiaa.CodeQ Go.Proofs.Ytokjhocjemjfiaa.Given Go.Proofs.YtokjhocjemjfiaaW.PrintWords Go.Proofs.YtokjhocjemjfiaaW.PrintLast Go.Proofs.YtokjhocjemjfiaaW.PrintMore
/-- the number at a place: what it is, how many bytes, the error -/
def getT (s : ByteArray) (i : Nat) : Nat × Nat × Nat := getN (s.data.toList.drop i) 0 0
/-- a number is read: where it was, the first error -/
def numR (s : ByteArray) (st : Nat × Nat) : Nat × (Nat × Nat) := if st.2 = 0 then ((getT s st.1).1, (st.1 + (getT s st.1).2.1, (getT s st.1).2.2)) else (0, st)
def txtT (s : ByteArray) (i : Nat) : ByteArray × Int × Int := textsN (s.extract i s.size) 40
/-- a text is read -/
def txtR (s : ByteArray) (st : Nat × Nat) : ByteArray × (Nat × Nat) := if st.2 = 0 then ((txtT s st.1).1, (st.1 + (txtT s st.1).2.1.toNat, (txtT s st.1).2.2.toNat)) else (⟨#[]⟩, st)
theorem ext_drop (s : ByteArray) (i : Nat) : (s.extract i s.size).data.toList = s.data.toList.drop i := by
  rw [ext_data, List.take_of_length_le (by rw [ba_len]; exact Nat.le_refl _)]
theorem ext_size (s : ByteArray) {i : Nat} (h : i ≤ s.size) : (s.extract i s.size).size = s.size - i := by
  rw [← ba_len, ext_drop, List.length_drop, ba_len]
theorem getT_ok (s : ByteArray) {i : Nat} (h : i ≤ s.size) : (getT s i).1 < 9223372036854775808 ∧ i + (getT s i).2.1 ≤ s.size ∧ (getT s i).2.1 ≤ 9 := by
  obtain ⟨h1, h2, h3, _⟩ := getN_ok (s.data.toList.drop i)
  rw [List.length_drop, ba_len] at h2
  exact ⟨h1, by unfold getT; omega, h3⟩
theorem txtT_ok (s : ByteArray) {i : Nat} (h : i ≤ s.size) : 0 ≤ (txtT s i).2.1 ∧ (i : Int) + (txtT s i).2.1 ≤ s.size ∧ 0 ≤ (txtT s i).2.2 := by
  obtain ⟨h1, h2, h3, _⟩ := getN_ok (s.extract i s.size).data.toList
  have hz := ext_size s h
  rw [ba_len] at h2
  unfold txtT textsN
  split
  · split
    · exact ⟨by decide, by show (i : Int) + 0 ≤ _; omega, by decide⟩
    · split
      · exact ⟨by decide, by show (i : Int) + 0 ≤ _; omega, by decide⟩
      · next h4 h5 => exact ⟨by dsimp only; omega, by dsimp only; omega, Int.le_refl _⟩
  · exact ⟨Int.le_refl _, by show (i : Int) + 0 ≤ _; omega, Int.natCast_nonneg _⟩
theorem numR_ok (s : ByteArray) {st : Nat × Nat} (h : st.1 ≤ s.size) : (numR s st).1 < 9223372036854775808 ∧ (numR s st).2.1 ≤ s.size := by
  unfold numR
  split
  · exact ⟨(getT_ok s h).1, (getT_ok s h).2.1⟩
  · exact ⟨by show (0 : Nat) < _; decide, h⟩
theorem txtR_ok (s : ByteArray) {st : Nat × Nat} (h : st.1 ≤ s.size) : (txtR s st).2.1 ≤ s.size := by
  unfold txtR
  have := txtT_ok s h
  split
  · dsimp only; omega
  · exact h
end Go.Proofs.Ytokjhocjemjfiaa.Sp
namespace Go.Proofs.Ytokjhocjemjfiaa.PartW
open Go Go.RowKit Go.Shelf Go.Proofs.Ytokjhocjemjfiaa.A Go.Proofs.Ytokjhocjemjfiaa.Sp Go.Proofs.Ytokjhocjemjfiaa.Reg Go.Proofs.Ytokjhocjemjfiaa.Seq Go.Proofs.Ytokjhocjemjfiaa.CodeW Go.Proofs.Ytokjhocjemjfiaa.CodeM Go.Proofs.Ytokjhocjemjfiaa.CodeQ Go.Proofs.Ytokjhocjemjfiaa.Given Go.Proofs.YtokjhocjemjfiaaW.PrintWords Go.Proofs.YtokjhocjemjfiaaW.PrintLast Go.Proofs.YtokjhocjemjfiaaW.PrintMore
theorem sA {α : Type _} (l : List α) (i : Nat) (a : α) : l.toArray.setIfInBounds i a = (l.set i a).toArray := List.setIfInBounds_toArray l i a
theorem sB {α : Type _} (x a : α) (l : List α) : (x :: l).set 0 a = a :: l := rfl
theorem sC {α : Type _} (x a : α) (l : List α) (i : Nat) : (x :: l).set (i + 1) a = x :: l.set i a := rfl
/-- a reader's block: the bytes, a place, the first error -/
def BlkC (T : TypeId) (s : ByteArray) (i e B : Nat) (W : World) : Prop := W.heap[B]? = some (.cells #[.string s, .int .i64 (i : Int), .int .i64 (e : Int)] T (0, 0))
def BoxC (s : ByteArray) (i e B : Nat) (W : World) : Prop := W.cell? ⟨B, 0, none⟩ = some (.string s) ∧ W.cell? ⟨B, 1, none⟩ = some (.int .i64 (i : Int)) ∧ W.cell? ⟨B, 2, none⟩ = some (.int .i64 (e : Int))
section
variable {T : TypeId} {s : ByteArray} {i e B : Nat} {W W' : World}
theorem BlkC.new (T : TypeId) (s : ByteArray) (i e : Nat) (w : World) : BlkC T s i e w.heap.size (w.alloc (.cells #[.string s, .int .i64 (i : Int), .int .i64 (e : Int)] T)) := by
  unfold BlkC; exact World.alloc_heap_new w _
theorem BlkC.only {U : Nat → Prop} (h : BlkC T s i e B W) (ho : Only U W W') (hU : ¬ U B) : BlkC T s i e B W' := (ho.block B (Array.getElem?_eq_some_iff.1 h).1 hU).trans h
theorem BlkC.below (h : BlkC T s i e B W) (hb : Below W.heap.size W W') : BlkC T s i e B W' := (hb.block _ (Array.getElem?_eq_some_iff.1 h).1).trans h
theorem BlkC.alloc (h : BlkC T s i e B W) (o : Obj) : BlkC T s i e B (W.alloc o) := (Below.heap_alloc _ _ _ (Array.getElem?_eq_some_iff.1 h).1).trans h
theorem BlkC.drew (h : BlkC T s i e B W) : BlkC T s i e B W.drew := h.below (below_drew (Below.refl _ _))
theorem BlkC.lt (h : BlkC T s i e B W) : B < W.heap.size := (Array.getElem?_eq_some_iff.1 h).1
theorem BlkC.box (h : BlkC T s i e B W) : BoxC s i e B W := by
  unfold BlkC at h
  refine ⟨?_, ?_, ?_⟩ <;> simp [World.cell?, h]
theorem BlkC.free (h : BlkC T s i e B W) (o : Nat) : W.frozen? ⟨B, o, none⟩ = false := by
  unfold BlkC at h
  simp [World.frozen?, h]
theorem BlkC.set1 (h : BlkC T s i e B W) (j : Nat) : BlkC T s j e B (W.setCell ⟨B, 1, none⟩ (.int .i64 (j : Int))) := by
  unfold BlkC at h ⊢
  simp [World.setCell, Array.getElem?_modify, h]
theorem BlkC.set2 (h : BlkC T s i e B W) (j : Nat) : BlkC T s i j B (W.setCell ⟨B, 2, none⟩ (.int .i64 (j : Int))) := by
  unfold BlkC at h ⊢
  simp [World.setCell, Array.getElem?_modify, h]
theorem lbC {w w' : World} (h : Aside0 (BlkC T s i e B w)) (hb : Below w.heap.size w w') : Aside0 (BlkC T s i e B w') := ⟨h.out.below hb⟩
theorem laC {w : World} (h : Aside0 (BlkC T s i e B w)) (o : Obj) : Aside0 (BlkC T s i e B (w.alloc o)) := ⟨h.out.alloc o⟩
theorem ldC {w : World} (h : Aside0 (BlkC T s i e B w)) : Aside0 (BlkC T s i e B w.drew) := ⟨h.out.drew⟩
theorem lbO {U : Nat → Prop} {w0 w w' : World} (h : Aside0 (Only U w0 w)) (hb : Below w.heap.size w w') : Aside0 (Only U w0 w') := ⟨h.out.trans ⟨hb.os, hb.tape, hb.output, hb.size, fun k hk _ => hb.block k hk⟩⟩
theorem laO {U : Nat → Prop} {w0 w : World} (h : Aside0 (Only U w0 w)) (o : Obj) : Aside0 (Only U w0 (w.alloc o)) := ⟨h.out.alloc o⟩
theorem ldO {U : Nat → Prop} {w0 w : World} (h : Aside0 (Only U w0 w)) : Aside0 (Only U w0 w.drew) := ⟨h.out.drew⟩
end
/-- a number was read -/
def GotN (T : TypeId) (s : ByteArray) (R : Nat × Nat × Nat) (B : Nat) (w : World) (r : Ending) (w' : World) : Prop := r = .returned (.int .i64 (R.1 : Int)) ∧ BlkC T s R.2.1 R.2.2 B w' ∧ Only (fun q => q = B) w w'
def GotX (T : TypeId) (s : ByteArray) (R : ByteArray × Nat × Nat) (B : Nat) (w : World) (r : Ending) (w' : World) : Prop := r = .returned (.string R.1) ∧ BlkC T s R.2.1 R.2.2 B w' ∧ Only (fun q => q = B) w w'
theorem cget (s : ByteArray) (i : Nat) (w : World) (hs : s.size ≤ 140737488351232) (hi : i ≤ s.size) {a b c : Nat} (h : getT s i = (a, b, c)) : Calls Try.prog 55 #[.string (s.extract i s.size)] w fun e w' => e = .returned (.tuple #[.int .i64 (a : Int), .int .i64 (b : Int), .int .i64 (c : Int)]) ∧ Below w.heap.size w w' := by
  refine code_Get.calls _ _ _ _ w ?_
  rw [Get_f (by rw [ext_size s hi]; omega), ext_drop]
  unfold getT at h
  rw [h]
theorem ctxt (s : ByteArray) (i : Nat) (w : World) (hs : s.size ≤ 140737488351232) (hi : i ≤ s.size) {a : ByteArray} {b c : Int} (h : txtT s i = (a, b, c)) : Calls Try.prog 58 #[.string (s.extract i s.size), .int .i64 40] w fun e w' => e = .returned (.tuple #[.string a, .int .i64 b, .int .i64 c]) ∧ Below w.heap.size w w' := by
  refine code_Texts.calls _ _ _ _ _ w ?_
  rw [Texts_f _ _ (by rw [ext_size s hi]; omega)]
  unfold txtT at h
  rw [h]
set_option maxHeartbeats 4000000 in
set_option maxRecDepth 100000 in
theorem rd_number (s : ByteArray) (i e B : Nat) (w : World) (hb : BlkC 68 s i e B w) (hs : s.size ≤ 140737488351232) (hi : i ≤ s.size) :
  Calls Try.prog 49 #[.pointer (some ⟨B, 0, none⟩)] w (GotN 68 s (numR s (i, e)) B w) := by
 have HC := Aside0.mk hb
 have HS := Aside0.mk (And.intro hs hi)
 have HO : Aside0 (Only (fun q => q = B) w w) := ⟨Only.refl _ _⟩
 by_cases he : e = 0
 · subst he
   obtain ⟨a, n, m, hT⟩ : ∃ a b c, getT s i = (a, b, c) := ⟨_, _, _, rfl⟩
   have hk := getT_ok s hi
   rw [hT] at hk
   have HR : Aside0 (numR s (i, 0) = (a, (i + n, m))) := ⟨by unfold numR; rw [if_pos rfl, hT]⟩
   have hk2 : i + n ≤ s.size := hk.2.1
   have HT := Aside0.mk hT
   have hw : IntKind.i64.wrap ((i : Int) + (n : Int)) = ((i + n : Nat) : Int) := by rw [i64_w]; unfold wrap64; omega
   have k1 : (0 : Int) ≤ (i : Int) := by omega
   have k2 : (i : Int) ≤ (s.size : Int) := by omega
   have k3 : i ≤ s.size := hi
   clear hk hk2 hT hb hs
   go_enter Try.func49, Try.ntmps49
   obtain ⟨hc0, hc1, hc2⟩ := HC.out.box
   go_wp2_with fail
   clear hc0 hc1 hc2
   replace HC := ldC HC
   replace HO := ldO HO
   refine start_ (n := 17) (S := (fun w' => BoxC s i 0 B w')) (ds := []) #[false,false,false,false,false,false,false,false,false,false,false,false,false,false,false,false,false] (by kernel_rfl) rfl rfl HC.out.box (fun hHeld => ?_)
   refine pure_ (i := 0) (N := some 12) (v := ?_) (a' := ?_) #[true,false,false,false,false,false,false,false,false,false,false,false,false,false,false,false,false] rfl rfl (by kernel_rfl) (fun _ _ _ h => h) (Or.inl ⟨by rfl, ?_⟩) ?_ ?_
   rotate_left
   · intro w'
     go_simp
     try with_reducible rfl
   rotate_left
   · simp only [Act.put, sA, sB, sC]
     rfl
   refine pure_ (i := 1) (N := some 13) (v := ?_) (a' := ?_) #[true,true,false,false,false,false,false,false,false,false,false,false,false,false,false,false,false] rfl rfl (by kernel_rfl) (fun _ _ _ h => h) (Or.inl ⟨by rfl, ?_⟩) ?_ ?_
   rotate_left
   · intro w'
     go_simp
     try with_reducible rfl
   rotate_left
   · simp only [Act.put, sA, sB, sC]
     rfl
   refine pure_ (i := 2) (N := some 14) (v := ?_) (a' := ?_) #[true,true,true,false,false,false,false,false,false,false,false,false,false,false,false,false,false] rfl rfl (by kernel_rfl) (fun _ _ _ h => h) (Or.inl ⟨by rfl, ?_⟩) ?_ ?_
   rotate_left
   · intro w'
     go_simp
     try with_reducible rfl
   rotate_left
   · simp only [Act.put, sA, sB, sC]
     rfl
   refine take_ (i := 3) (N := some 15) (v := ?_) (a' := ?_) #[true,true,true,true,false,false,false,false,false,false,false,false,false,false,false,false,false] rfl rfl (by kernel_rfl) (fun _ _ _ h => h) (Or.inl ⟨by rfl, ?_⟩) hHeld ?_ ?_
   rotate_left
   · rintro w' ⟨hc0, hc1, hc2⟩
     go_simp
     try with_reducible rfl
   rotate_left
   · simp only [Act.put, sA, sB, sC]
     rfl
   refine pure_ (i := 4) (N := some 16) (v := ?_) (a' := ?_) #[true,true,true,true,true,false,false,false,false,false,false,false,false,false,false,false,false] rfl rfl (by kernel_rfl) (fun _ _ _ h => h) (Or.inl ⟨by rfl, ?_⟩) ?_ ?_
   rotate_left
   · intro w'
     go_simp
     try with_reducible rfl
   rotate_left
   · simp only [Act.put, sA, sB, sC]
     rfl
   refine pure_ (i := 5) (N := some 17) (v := ?_) (a' := ?_) #[true,true,true,true,true,true,false,false,false,false,false,false,false,false,false,false,false] rfl rfl (by kernel_rfl) (fun _ _ _ h => h) (Or.inl ⟨by rfl, ?_⟩) ?_ ?_
   rotate_left
   · intro w'
     go_simp
     try with_reducible rfl
   rotate_left
   · simp only [Act.put, sA, sB, sC]
     rfl
   refine pure_ (i := 6) (N := some 18) (v := ?_) (a' := ?_) #[true,true,true,true,true,true,true,false,false,false,false,false,false,false,false,false,false] rfl rfl (by kernel_rfl) (fun _ _ _ h => h) (Or.inl ⟨by rfl, ?_⟩) ?_ ?_
   rotate_left
   · intro w'
     go_simp
     try with_reducible rfl
   rotate_left
   · simp only [Act.put, sA, sB, sC]
     rfl
   refine take_ (i := 7) (N := some 19) (v := ?_) (a' := ?_) #[true,true,true,true,true,true,true,true,false,false,false,false,false,false,false,false,false] rfl rfl (by kernel_rfl) (fun _ _ _ h => h) (Or.inl ⟨by rfl, ?_⟩) hHeld ?_ ?_
   rotate_left
   · rintro w' ⟨hc0, hc1, hc2⟩
     go_simp
     try with_reducible rfl
   rotate_left
   · simp only [Act.put, sA, sB, sC]
     rfl
   refine pure_ (i := 8) (N := some 20) (v := ?_) (a' := ?_) #[true,true,true,true,true,true,true,true,true,false,false,false,false,false,false,false,false] rfl rfl (by kernel_rfl) (fun _ _ _ h => h) (Or.inl ⟨by rfl, ?_⟩) ?_ ?_
   rotate_left
   · intro w'
     go_simp
     try with_reducible rfl
   rotate_left
   · simp only [Act.put, sA, sB, sC]
     rfl
   refine one_ (i := 9) (N := some 21) #[true,true,true,true,true,true,true,true,true,true,false,false,false,false,false,false,false] rfl rfl (by kernel_rfl) (by decide) (fun K hK => ?_)
   go_simp
   refine (cget s i _ HS.out.1 HS.out.2 HT.out).mono ?_; rintro e w1 ⟨rfl, hw1⟩; replace HC := lbC HC hw1; replace HO := lbO HO hw1; clear hw1
   refine hK.out _ _ ?_ (fun hHeld => ?_)
   · exact HC.out.box
   clear hK K
   try simp only [Act.put, sA, sB, sC]
   refine pure_ (i := 10) (N := some 11) (v := ?_) (a' := ?_) #[true,true,true,true,true,true,true,true,true,true,true,false,false,false,false,false,false] rfl rfl (by kernel_rfl) (fun _ _ _ h => h) (Or.inl ⟨by rfl, ?_⟩) ?_ ?_
   rotate_left
   · intro w'
     go_simp
     try with_reducible rfl
   rotate_left
   · simp only [Act.put, sA, sB, sC]
     rfl
   refine pure_ (i := 11) (N := some 22) (v := ?_) (a' := ?_) #[true,true,true,true,true,true,true,true,true,true,true,true,false,false,false,false,false] rfl rfl (by kernel_rfl) (fun _ _ _ h => h) (Or.inl ⟨by rfl, ?_⟩) ?_ ?_
   rotate_left
   · intro w'
     go_simp
     try with_reducible rfl
   rotate_left
   · simp only [Act.put, sA, sB, sC]
     rfl
   refine pure_ (i := 12) (N := some 23) (v := ?_) (a' := ?_) #[true,true,true,true,true,true,true,true,true,true,true,true,true,false,false,false,false] rfl rfl (by kernel_rfl) (fun _ _ _ h => h) (Or.inl ⟨by rfl, ?_⟩) ?_ ?_
   rotate_left
   · intro w'
     go_simp
     try with_reducible rfl
   rotate_left
   · simp only [Act.put, sA, sB, sC]
     rfl
   refine pure_ (i := 13) (N := some 24) (v := ?_) (a' := ?_) #[true,true,true,true,true,true,true,true,true,true,true,true,true,true,false,false,false] rfl rfl (by kernel_rfl) (fun _ _ _ h => h) (Or.inl ⟨by rfl, ?_⟩) ?_ ?_
   rotate_left
   · intro w'
     go_simp
     try with_reducible rfl
   rotate_left
   · simp only [Act.put, sA, sB, sC]
     rfl
   refine pure_ (i := 14) (N := some 3) (v := ?_) (a' := ?_) #[true,true,true,true,true,true,true,true,true,true,true,true,true,true,true,false,false] rfl rfl (by kernel_rfl) (fun _ _ _ h => h) (Or.inl ⟨by rfl, ?_⟩) ?_ ?_
   rotate_left
   · intro w'
     go_simp
     try with_reducible rfl
   rotate_left
   · simp only [Act.put, sA, sB, sC]
     rfl
   refine pure_ (i := 15) (N := some 4) (v := ?_) (a' := ?_) #[true,true,true,true,true,true,true,true,true,true,true,true,true,true,true,true,false] rfl rfl (by kernel_rfl) (fun _ _ _ h => h) (Or.inl ⟨by rfl, ?_⟩) ?_ ?_
   rotate_left
   · intro w'
     go_simp
     try with_reducible rfl
   rotate_left
   · simp only [Act.put, sA, sB, sC]
     rfl
   refine pure_ (i := 16) (N := some 5) (v := ?_) (a' := ?_) #[true,true,true,true,true,true,true,true,true,true,true,true,true,true,true,true,true] rfl rfl (by kernel_rfl) (fun _ _ _ h => h) (Or.inl ⟨by rfl, ?_⟩) ?_ ?_
   rotate_left
   · intro w'
     go_simp
     try with_reducible rfl
   rotate_left
   · simp only [Act.put, sA, sB, sC]
     rfl
   refine done_ (by kernel_rfl) ?_
   clear hHeld
   obtain ⟨hc0, hc1, hc2⟩ := HC.out.box
   have yf := HC.out.free
   go_wp2_with fail
   have h1 := HC.out.set1 (i + n)
   have h2 := h1.set2 m
   have hx := (((HO.out.setCell (p := ⟨B, 1, none⟩) rfl (.int .i64 ((i + n : Nat) : Int))).setCell (p := ⟨B, 2, none⟩) rfl (.int .i64 (m : Int))))
   go_ret
   unfold GotN
   rw [HR.out]
   first | exact ⟨rfl, h2, hx⟩ | exact ⟨rfl, by push_cast at h2; exact h2, by push_cast at hx; exact hx⟩
 · have HR : Aside0 (numR s (i, e) = (0, (i, e))) := ⟨by unfold numR; rw [if_neg he]⟩
   have j1 : ((e : Int) == 0) = false := beq_eq_false_iff_ne.2 (by omega)
   have j2 : ((e : Int) != 0) = true := by rw [bne, j1]; rfl
   have j3 : (e == 0) = false := beq_eq_false_iff_ne.2 he
   clear hb hs hi he
   go_enter Try.func49, Try.ntmps49
   obtain ⟨hc0, hc1, hc2⟩ := HC.out.box
   go_wp2
   go_ret
   unfold GotN
   rw [HR.out]
   exact ⟨rfl, HC.out, HO.out⟩
set_option maxHeartbeats 4000000 in
set_option maxRecDepth 100000 in
theorem rd_text (s : ByteArray) (i e B : Nat) (w : World) (hb : BlkC 68 s i e B w) (hs : s.size ≤ 140737488351232) (hi : i ≤ s.size) :
  Calls Try.prog 56 #[.pointer (some ⟨B, 0, none⟩)] w (GotX 68 s (txtR s (i, e)) B w) := by
 have HC := Aside0.mk hb
 have HS := Aside0.mk (And.intro hs hi)
 have HO : Aside0 (Only (fun q => q = B) w w) := ⟨Only.refl _ _⟩
 by_cases he : e = 0
 · subst he
   obtain ⟨a, b, c, hT⟩ : ∃ a b c, txtT s i = (a, b, c) := ⟨_, _, _, rfl⟩
   have hk := txtT_ok s hi
   rw [hT] at hk
   obtain ⟨n, hn⟩ : ∃ n : Nat, b = (n : Int) := ⟨b.toNat, by have := hk.1; dsimp only at this; omega⟩
   obtain ⟨m, hm⟩ : ∃ m : Nat, c = (m : Int) := ⟨c.toNat, by have := hk.2.2; dsimp only at this; omega⟩
   subst hn
   subst hm
   have HR : Aside0 (txtR s (i, 0) = (a, (i + n, m))) := ⟨by unfold txtR; rw [if_pos rfl, hT]; rfl⟩
   have hk2 : i + n ≤ s.size := by have := hk.2.1; dsimp only at this; omega
   have HT := Aside0.mk hT
   have hw : IntKind.i64.wrap ((i : Int) + (n : Int)) = ((i + n : Nat) : Int) := by rw [i64_w]; unfold wrap64; omega
   have k1 : (0 : Int) ≤ (i : Int) := by omega
   have k2 : (i : Int) ≤ (s.size : Int) := by omega
   have k3 : i ≤ s.size := hi
   clear hk hk2 hT hb hs
   go_enter Try.func56, Try.ntmps56
   obtain ⟨hc0, hc1, hc2⟩ := HC.out.box
   go_wp2_with fail
   clear hc0 hc1 hc2
   replace HC := ldC HC
   replace HO := ldO HO
   refine start_ (n := 17) (S := (fun w' => BoxC s i 0 B w')) (ds := []) #[false,false,false,false,false,false,false,false,false,false,false,false,false,false,false,false,false] (by kernel_rfl) rfl rfl HC.out.box (fun hHeld => ?_)
   refine pure_ (i := 0) (N := some 12) (v := ?_) (a' := ?_) #[true,false,false,false,false,false,false,false,false,false,false,false,false,false,false,false,false] rfl rfl (by kernel_rfl) (fun _ _ _ h => h) (Or.inl ⟨by rfl, ?_⟩) ?_ ?_
   rotate_left
   · intro w'
     go_simp
     try with_reducible rfl
   rotate_left
   · simp only [Act.put, sA, sB, sC]
     rfl
   refine pure_ (i := 1) (N := some 13) (v := ?_) (a' := ?_) #[true,true,false,false,false,false,false,false,false,false,false,false,false,false,false,false,false] rfl rfl (by kernel_rfl) (fun _ _ _ h => h) (Or.inl ⟨by rfl, ?_⟩) ?_ ?_
   rotate_left
   · intro w'
     go_simp
     try with_reducible rfl
   rotate_left
   · simp only [Act.put, sA, sB, sC]
     rfl
   refine pure_ (i := 2) (N := some 14) (v := ?_) (a' := ?_) #[true,true,true,false,false,false,false,false,false,false,false,false,false,false,false,false,false] rfl rfl (by kernel_rfl) (fun _ _ _ h => h) (Or.inl ⟨by rfl, ?_⟩) ?_ ?_
   rotate_left
   · intro w'
     go_simp
     try with_reducible rfl
   rotate_left
   · simp only [Act.put, sA, sB, sC]
     rfl
   refine take_ (i := 3) (N := some 15) (v := ?_) (a' := ?_) #[true,true,true,true,false,false,false,false,false,false,false,false,false,false,false,false,false] rfl rfl (by kernel_rfl) (fun _ _ _ h => h) (Or.inl ⟨by rfl, ?_⟩) hHeld ?_ ?_
   rotate_left
   · rintro w' ⟨hc0, hc1, hc2⟩
     go_simp
     try with_reducible rfl
   rotate_left
   · simp only [Act.put, sA, sB, sC]
     rfl
   refine pure_ (i := 4) (N := some 16) (v := ?_) (a' := ?_) #[true,true,true,true,true,false,false,false,false,false,false,false,false,false,false,false,false] rfl rfl (by kernel_rfl) (fun _ _ _ h => h) (Or.inl ⟨by rfl, ?_⟩) ?_ ?_
   rotate_left
   · intro w'
     go_simp
     try with_reducible rfl
   rotate_left
   · simp only [Act.put, sA, sB, sC]
     rfl
   refine pure_ (i := 5) (N := some 17) (v := ?_) (a' := ?_) #[true,true,true,true,true,true,false,false,false,false,false,false,false,false,false,false,false] rfl rfl (by kernel_rfl) (fun _ _ _ h => h) (Or.inl ⟨by rfl, ?_⟩) ?_ ?_
   rotate_left
   · intro w'
     go_simp
     try with_reducible rfl
   rotate_left
   · simp only [Act.put, sA, sB, sC]
     rfl
   refine pure_ (i := 6) (N := some 18) (v := ?_) (a' := ?_) #[true,true,true,true,true,true,true,false,false,false,false,false,false,false,false,false,false] rfl rfl (by kernel_rfl) (fun _ _ _ h => h) (Or.inl ⟨by rfl, ?_⟩) ?_ ?_
   rotate_left
   · intro w'
     go_simp
     try with_reducible rfl
   rotate_left
   · simp only [Act.put, sA, sB, sC]
     rfl
   refine take_ (i := 7) (N := some 19) (v := ?_) (a' := ?_) #[true,true,true,true,true,true,true,true,false,false,false,false,false,false,false,false,false] rfl rfl (by kernel_rfl) (fun _ _ _ h => h) (Or.inl ⟨by rfl, ?_⟩) hHeld ?_ ?_
   rotate_left
   · rintro w' ⟨hc0, hc1, hc2⟩
     go_simp
     try with_reducible rfl
   rotate_left
   · simp only [Act.put, sA, sB, sC]
     rfl
   refine pure_ (i := 8) (N := some 20) (v := ?_) (a' := ?_) #[true,true,true,true,true,true,true,true,true,false,false,false,false,false,false,false,false] rfl rfl (by kernel_rfl) (fun _ _ _ h => h) (Or.inl ⟨by rfl, ?_⟩) ?_ ?_
   rotate_left
   · intro w'
     go_simp
     try with_reducible rfl
   rotate_left
   · simp only [Act.put, sA, sB, sC]
     rfl
   refine one_ (i := 9) (N := some 21) #[true,true,true,true,true,true,true,true,true,true,false,false,false,false,false,false,false] rfl rfl (by kernel_rfl) (by decide) (fun K hK => ?_)
   go_simp
   refine (ctxt s i _ HS.out.1 HS.out.2 HT.out).mono ?_; rintro e w1 ⟨rfl, hw1⟩; replace HC := lbC HC hw1; replace HO := lbO HO hw1; clear hw1
   refine hK.out _ _ ?_ (fun hHeld => ?_)
   · exact HC.out.box
   clear hK K
   try simp only [Act.put, sA, sB, sC]
   refine pure_ (i := 10) (N := some 11) (v := ?_) (a' := ?_) #[true,true,true,true,true,true,true,true,true,true,true,false,false,false,false,false,false] rfl rfl (by kernel_rfl) (fun _ _ _ h => h) (Or.inl ⟨by rfl, ?_⟩) ?_ ?_
   rotate_left
   · intro w'
     go_simp
     try with_reducible rfl
   rotate_left
   · simp only [Act.put, sA, sB, sC]
     rfl
   refine pure_ (i := 11) (N := some 22) (v := ?_) (a' := ?_) #[true,true,true,true,true,true,true,true,true,true,true,true,false,false,false,false,false] rfl rfl (by kernel_rfl) (fun _ _ _ h => h) (Or.inl ⟨by rfl, ?_⟩) ?_ ?_
   rotate_left
   · intro w'
     go_simp
     try with_reducible rfl
   rotate_left
   · simp only [Act.put, sA, sB, sC]
     rfl
   refine pure_ (i := 12) (N := some 23) (v := ?_) (a' := ?_) #[true,true,true,true,true,true,true,true,true,true,true,true,true,false,false,false,false] rfl rfl (by kernel_rfl) (fun _ _ _ h => h) (Or.inl ⟨by rfl, ?_⟩) ?_ ?_
   rotate_left
   · intro w'
     go_simp
     try with_reducible rfl
   rotate_left
   · simp only [Act.put, sA, sB, sC]
     rfl
   refine pure_ (i := 13) (N := some 24) (v := ?_) (a' := ?_) #[true,true,true,true,true,true,true,true,true,true,true,true,true,true,false,false,false] rfl rfl (by kernel_rfl) (fun _ _ _ h => h) (Or.inl ⟨by rfl, ?_⟩) ?_ ?_
   rotate_left
   · intro w'
     go_simp
     try with_reducible rfl
   rotate_left
   · simp only [Act.put, sA, sB, sC]
     rfl
   refine pure_ (i := 14) (N := some 3) (v := ?_) (a' := ?_) #[true,true,true,true,true,true,true,true,true,true,true,true,true,true,true,false,false] rfl rfl (by kernel_rfl) (fun _ _ _ h => h) (Or.inl ⟨by rfl, ?_⟩) ?_ ?_
   rotate_left
   · intro w'
     go_simp
     try with_reducible rfl
   rotate_left
   · simp only [Act.put, sA, sB, sC]
     rfl
   refine pure_ (i := 15) (N := some 4) (v := ?_) (a' := ?_) #[true,true,true,true,true,true,true,true,true,true,true,true,true,true,true,true,false] rfl rfl (by kernel_rfl) (fun _ _ _ h => h) (Or.inl ⟨by rfl, ?_⟩) ?_ ?_
   rotate_left
   · intro w'
     go_simp
     try with_reducible rfl
   rotate_left
   · simp only [Act.put, sA, sB, sC]
     rfl
   refine pure_ (i := 16) (N := some 5) (v := ?_) (a' := ?_) #[true,true,true,true,true,true,true,true,true,true,true,true,true,true,true,true,true] rfl rfl (by kernel_rfl) (fun _ _ _ h => h) (Or.inl ⟨by rfl, ?_⟩) ?_ ?_
   rotate_left
   · intro w'
     go_simp
     try with_reducible rfl
   rotate_left
   · simp only [Act.put, sA, sB, sC]
     rfl
   refine done_ (by kernel_rfl) ?_
   clear hHeld
   obtain ⟨hc0, hc1, hc2⟩ := HC.out.box
   have yf := HC.out.free
   go_wp2_with fail
   have h1 := HC.out.set1 (i + n)
   have h2 := h1.set2 m
   have hx := (((HO.out.setCell (p := ⟨B, 1, none⟩) rfl (.int .i64 ((i + n : Nat) : Int))).setCell (p := ⟨B, 2, none⟩) rfl (.int .i64 (m : Int))))
   go_ret
   unfold GotX
   rw [HR.out]
   first | exact ⟨rfl, h2, hx⟩ | exact ⟨rfl, by push_cast at h2; exact h2, by push_cast at hx; exact hx⟩
 · have HR : Aside0 (txtR s (i, e) = (⟨#[]⟩, (i, e))) := ⟨by unfold txtR; rw [if_neg he]⟩
   have j1 : ((e : Int) == 0) = false := beq_eq_false_iff_ne.2 (by omega)
   have j2 : ((e : Int) != 0) = true := by rw [bne, j1]; rfl
   have j3 : (e == 0) = false := beq_eq_false_iff_ne.2 he
   clear hb hs hi he
   go_enter Try.func56, Try.ntmps56
   obtain ⟨hc0, hc1, hc2⟩ := HC.out.box
   go_wp2
   go_ret
   unfold GotX
   rw [HR.out]
   exact ⟨rfl, HC.out, HO.out⟩
end Go.Proofs.Ytokjhocjemjfiaa.PartW
namespace Go.Proofs.Ytokjhocjemjfiaa.Sp
open Go Go.RowKit Go.Proofs.Ytokjhocjemjfiaa.A Go.Proofs.Ytokjhocjemjfiaa.Seq Go.Proofs.Ytokjhocjemjfiaa.CodeW Go.Proofs.Ytokjhocjemjfiaa.CodeM Go.Proofs.Ytokjhocjemjfiaa.CodeQ Go.Proofs.Ytokjhocjemjfiaa.Given Go.Proofs.YtokjhocjemjfiaaW.PrintWords Go.Proofs.YtokjhocjemjfiaaW.PrintLast Go.Proofs.YtokjhocjemjfiaaW.PrintMore
/-- it must be so: else the class is 11 -/
def mustR (ok : Bool) (st : Nat × Nat) : Nat × Nat := if st.2 = 0 ∧ ok = false then (st.1, 11) else st
/-- a number that may not be above another one -/
def upR (s : ByteArray) (most : Int) (st : Nat × Nat) : Nat × (Nat × Nat) := ((numR s st).1, mustR (decide (((numR s st).1 : Int) ≤ most)) (numR s st).2)
/-- a hard state is read -/
def hardR (s : ByteArray) (st : Nat × Nat) : (Nat × Nat × Nat) × (Nat × Nat) := (((numR s st).1, (numR s (numR s st).2).1, (numR s (numR s (numR s st).2).2).1), (numR s (numR s (numR s st).2).2).2)
end Go.Proofs.Ytokjhocjemjfiaa.Sp
namespace Go.Proofs.Ytokjhocjemjfiaa.PartW
open Go Go.RowKit Go.Shelf Go.Proofs.Ytokjhocjemjfiaa.A Go.Proofs.Ytokjhocjemjfiaa.Sp Go.Proofs.Ytokjhocjemjfiaa.Reg Go.Proofs.Ytokjhocjemjfiaa.Seq Go.Proofs.Ytokjhocjemjfiaa.CodeW Go.Proofs.Ytokjhocjemjfiaa.CodeM Go.Proofs.Ytokjhocjemjfiaa.CodeQ Go.Proofs.Ytokjhocjemjfiaa.Given Go.Proofs.YtokjhocjemjfiaaW.PrintWords Go.Proofs.YtokjhocjemjfiaaW.PrintLast Go.Proofs.YtokjhocjemjfiaaW.PrintMore
/-- what lies anew may turn -/
theorem only_new {U : Nat → Prop} {n : Nat} {w W W' : World} (h : Only U w W) (hx : Only (fun q => q = n) W W') (hn : w.heap.size ≤ n) : Only U w W' :=
  ⟨hx.os.trans h.os, hx.tape.trans h.tape, hx.output.trans h.output, Nat.le_trans h.size hx.size, fun k hk hu => (hx.block k (Nat.lt_of_lt_of_le hk h.size) (fun e => by have h2 : k = n := e; omega)).trans (h.block k hk hu)⟩
theorem rdn (s : ByteArray) (i e B : Nat) (w : World) (hb : BlkC 68 s i e B w) (hs : s.size ≤ 140737488351232) (hi : i ≤ s.size) {a : Nat} {b c : Nat} (h : numR s (i, e) = (a, (b, c))) : Calls Try.prog 49 #[.pointer (some ⟨B, 0, none⟩)] w fun r w' => r = .returned (.int .i64 (a : Int)) ∧ BlkC 68 s b c B w' ∧ Only (fun q => q = B) w w' ∧ b ≤ s.size := by
  refine (rd_number s i e B w hb hs hi).mono fun r w' hh => ?_
  unfold GotN at hh
  have hk := numR_ok s (st := (i, e)) hi
  rw [h] at hh hk
  exact ⟨hh.1, hh.2.1, hh.2.2, hk.2⟩
theorem rdx (s : ByteArray) (i e B : Nat) (w : World) (hb : BlkC 68 s i e B w) (hs : s.size ≤ 140737488351232) (hi : i ≤ s.size) {a : ByteArray} {b c : Nat} (h : txtR s (i, e) = (a, (b, c))) : Calls Try.prog 56 #[.pointer (some ⟨B, 0, none⟩)] w fun r w' => r = .returned (.string a) ∧ BlkC 68 s b c B w' ∧ Only (fun q => q = B) w w' ∧ b ≤ s.size := by
  refine (rd_text s i e B w hb hs hi).mono fun r w' hh => ?_
  unfold GotX at hh
  have hk := txtR_ok s (st := (i, e)) hi
  rw [h] at hh hk
  exact ⟨hh.1, hh.2.1, hh.2.2, hk⟩
set_option maxHeartbeats 4000000 in
set_option maxRecDepth 100000 in
theorem rd_upTo (s : ByteArray) (i e B : Nat) (w : World) (hb : BlkC 68 s i e B w) (hs : s.size ≤ 140737488351232) (hi : i ≤ s.size) (most : Int) :
  Calls Try.prog 50 #[.pointer (some ⟨B, 0, none⟩), .int .i64 most] w fun r w' => r = .returned (.int .i64 ((upR s most (i, e)).1 : Int)) ∧ BlkC 68 s (upR s most (i, e)).2.1 (upR s most (i, e)).2.2 B w' ∧ Only (fun q => q = B) w w' ∧ (upR s most (i, e)).2.1 ≤ s.size := by
 have HC := Aside0.mk hb
 have HS := Aside0.mk hs
 have HI := Aside0.mk hi
 have HO : Aside0 (Only (fun q => q = B) w w) := ⟨Only.refl _ _⟩
 obtain ⟨a, b, c, ha⟩ : ∃ a b c, numR s (i, e) = (a, (b, c)) := ⟨_, _, _, rfl⟩
 have Ea := Aside0.mk ha
 clear ha
 clear hb hs hi
 go_enter Try.func50, Try.ntmps50
 obtain ⟨hc0, hc1, hc2⟩ := HC.out.box
 go_wp2_with fail
 go_at_call 49
 refine (rdn s i e B _ HC.out HS.out HI.out Ea.out).mono ?_
 rintro r w1 ⟨rfl, hc, ho, hi⟩
 replace HC := Aside0.mk hc
 replace HI := Aside0.mk hi
 replace HO := Aside0.mk (HO.out.trans ho)
 clear hc ho hi
 clear hc0 hc1 hc2
 obtain ⟨hc0, hc1, hc2⟩ := HC.out.box
 by_cases h0 : c = 0
 · by_cases hm : most < (a : Int)
   · have j1 : ((c : Int) == 0) = true := beq_iff_eq.2 (by omega)
     have j2 : (c == 0) = true := beq_iff_eq.2 h0
     have j3 : decide (most < (a : Int)) = true := decide_eq_true (by omega)
     have j4 : decide ((a : Int) > most) = true := j3
     have HR : Aside0 (upR s most (i, e) = (a, (b, 11))) := ⟨by unfold upR mustR; rw [Ea.out]; dsimp only; rw [if_pos ⟨h0, decide_eq_false (by omega)⟩]⟩
     have yf := HC.out.free
     go_wp2_with fail
     have h2 := HC.out.set2 11
     have hx := HO.out.setCell (p := ⟨B, 2, none⟩) rfl (.int .i64 ((11 : Nat) : Int))
     go_ret
     rw [HR.out]
     exact ⟨rfl, h2, hx, HI.out⟩
   · have j1 : ((c : Int) == 0) = true := beq_iff_eq.2 (by omega)
     have j2 : (c == 0) = true := beq_iff_eq.2 h0
     have j3 : decide (most < (a : Int)) = false := decide_eq_false (by omega)
     have j4 : decide ((a : Int) > most) = false := j3
     have HR : Aside0 (upR s most (i, e) = (a, (b, c))) := ⟨by unfold upR mustR; rw [Ea.out]; dsimp only; rw [if_neg (fun h => absurd (of_decide_eq_false h.2) (by omega))]⟩
     go_wp2_with fail
     go_ret
     rw [HR.out]
     exact ⟨rfl, HC.out, HO.out, HI.out⟩
 · have j1 : ((c : Int) == 0) = false := beq_eq_false_iff_ne.2 (by omega)
   have j2 : (c == 0) = false := beq_eq_false_iff_ne.2 h0
   have HR : Aside0 (upR s most (i, e) = (a, (b, c))) := ⟨by unfold upR mustR; rw [Ea.out]; dsimp only; rw [if_neg (fun h => h0 h.1)]⟩
   go_wp2_with fail
   go_ret
   rw [HR.out]
   exact ⟨rfl, HC.out, HO.out, HI.out⟩
end Go.Proofs.Ytokjhocjemjfiaa.PartW
namespace Go.Proofs.Ytokjhocjemjfiaa.Sp
open Go Go.RowKit Go.Proofs.Ytokjhocjemjfiaa.A Go.Proofs.Ytokjhocjemjfiaa.Seq Go.Proofs.Ytokjhocjemjfiaa.CodeW Go.Proofs.Ytokjhocjemjfiaa.CodeM Go.Proofs.Ytokjhocjemjfiaa.CodeQ Go.Proofs.Ytokjhocjemjfiaa.Given Go.Proofs.YtokjhocjemjfiaaW.PrintWords Go.Proofs.YtokjhocjemjfiaaW.PrintLast Go.Proofs.YtokjhocjemjfiaaW.PrintMore
/-- entries are read, d of them at most, each with its own index or the one behind the last: what is read, where it was, the first error -/
def entsR (s : ByteArray) (own : Bool) (f : Int) : Nat → Nat → (Nat × Nat) → List Ent → List Ent × (Nat × Nat)
  | 0, _, st, acc => (acc, st)
  | d + 1, k, st, acc => if st.2 = 0 then
      entsR s own f d (k + 1) (txtR s (numR s (if own then (numR s st).2 else st)).2).2 (acc ++ [⟨if own then ((numR s st).1 : Int) else wrap64 (f + (k : Int)), ((numR s (if own then (numR s st).2 else st)).1 : Int), (txtR s (numR s (if own then (numR s st).2 else st)).2).1⟩])
    else (acc, st)
theorem entsR_stop (s : ByteArray) (own : Bool) (f : Int) (d k : Nat) (i e : Nat) (acc : List Ent) (h : d = 0 ∨ e ≠ 0) : entsR s own f d k (i, e) acc = (acc, (i, e)) := by
  cases d with
  | zero => rfl
  | succ d => rw [entsR, if_neg (by rcases h with h | h; omega; exact h)]
end Go.Proofs.Ytokjhocjemjfiaa.Sp
namespace Go.Proofs.Ytokjhocjemjfiaa.PartW
open Go Go.RowKit Go.Shelf Go.Proofs.Ytokjhocjemjfiaa.A Go.Proofs.Ytokjhocjemjfiaa.Sp Go.Proofs.Ytokjhocjemjfiaa.Reg Go.Proofs.Ytokjhocjemjfiaa.Seq Go.Proofs.Ytokjhocjemjfiaa.CodeW Go.Proofs.Ytokjhocjemjfiaa.CodeM Go.Proofs.Ytokjhocjemjfiaa.CodeQ Go.Proofs.Ytokjhocjemjfiaa.Given Go.Proofs.YtokjhocjemjfiaaW.PrintWords Go.Proofs.YtokjhocjemjfiaaW.PrintLast Go.Proofs.YtokjhocjemjfiaaW.PrintMore
theorem OwnE.only' {U : Nat → Prop} {w w' : World} {b : Nat} {v : Value} {l : List Ent} (h : OwnE w b v l) (ho : Only U w w') (hU : ∀ k, v.ownBlock = some k → ¬ U k) : OwnE w' b v l := by
  obtain ⟨h1, h2⟩ := h
  refine ⟨h1, ?_⟩
  rcases h2 with h2 | ⟨g, cap, cur, rfl, hb, hg, r⟩
  · exact .inl h2
  · exact .inr ⟨g, cap, cur, rfl, hb, (ho.block g (Array.getElem?_eq_some_iff.1 hg).1 (hU g rfl)).trans hg, r⟩
/-- an entry's box -/
def BlkE (x : Ent) (B : Nat) (W : World) : Prop := W.heap[B]? = some (.cells #[.int .i64 x.f0, .int .i64 x.f1, .string x.f2] 28 (0, 0))
def BoxE (x : Ent) (B : Nat) (W : World) : Prop := W.cell? ⟨B, 0, none⟩ = some (.int .i64 x.f0) ∧ W.cell? ⟨B, 1, none⟩ = some (.int .i64 x.f1) ∧ W.cell? ⟨B, 2, none⟩ = some (.string x.f2)
theorem BlkE.new (x : Ent) (w : World) : BlkE x w.heap.size (w.alloc (.cells #[.int .i64 x.f0, .int .i64 x.f1, .string x.f2] 28)) := by
  unfold BlkE; exact World.alloc_heap_new w _
theorem BlkE.only {U : Nat → Prop} {x : Ent} {B : Nat} {W W' : World} (h : BlkE x B W) (ho : Only U W W') (hU : ¬ U B) : BlkE x B W' := (ho.block B (Array.getElem?_eq_some_iff.1 h).1 hU).trans h
theorem BlkE.box {x : Ent} {B : Nat} {W : World} (h : BlkE x B W) : BoxE x B W := by
  unfold BlkE at h
  refine ⟨?_, ?_, ?_⟩ <;> simp [World.cell?, h]
theorem BlkE.free {x : Ent} {B : Nat} {W : World} (h : BlkE x B W) (o : Nat) : W.frozen? ⟨B, o, none⟩ = false := by
  unfold BlkE at h
  simp [World.frozen?, h]
theorem BlkE.set0 {x : Ent} {B : Nat} {W : World} (h : BlkE x B W) (j : Int) : BlkE ⟨j, x.f1, x.f2⟩ B (W.setCell ⟨B, 0, none⟩ (.int .i64 j)) := by
  unfold BlkE at h ⊢
  simp [World.setCell, Array.getElem?_modify, h]
theorem BlkE.set1 {x : Ent} {B : Nat} {W : World} (h : BlkE x B W) (j : Int) : BlkE ⟨x.f0, j, x.f2⟩ B (W.setCell ⟨B, 1, none⟩ (.int .i64 j)) := by
  unfold BlkE at h ⊢
  simp [World.setCell, Array.getElem?_modify, h]
theorem BlkE.set2 {x : Ent} {B : Nat} {W : World} (h : BlkE x B W) (j : ByteArray) : BlkE ⟨x.f0, x.f1, j⟩ B (W.setCell ⟨B, 2, none⟩ (.string j)) := by
  unfold BlkE at h ⊢
  simp [World.setCell, Array.getElem?_modify, h]
theorem only_news {U V : Nat → Prop} {w W W' : World} (h : Only U w W) (hx : Only V W W') (hn : ∀ k, V k → w.heap.size ≤ k) : Only U w W' :=
  ⟨hx.os.trans h.os, hx.tape.trans h.tape, hx.output.trans h.output, Nat.le_trans h.size hx.size, fun k hk hu => (hx.block k (Nat.lt_of_lt_of_le hk h.size) (fun e => by have := hn k e; omega)).trans (h.block k hk hu)⟩
/-- what holds while entries are read -/
def EntI (T : TypeId) (own : Bool) (f : Int) (s : ByteArray) (i e B n n0 : Nat) (w : World) (k : Nat) (v : Value) (wr : World) : Prop :=
  ∃ i' e' acc, entsR s own f n 0 (i, e) [] = entsR s own f (n - k) k (i', e') acc ∧ BlkC T s i' e' B wr ∧ Only (fun q => q = B) w wr ∧ i' ≤ s.size ∧ OwnE wr n0 v acc ∧ acc.length = k ∧ (e = 0 ∨ (e' ≠ 0 ∧ k = 0))
set_option maxHeartbeats 4000000 in
set_option maxRecDepth 100000 in
theorem rd_entries_true (s : ByteArray) (i e B : Nat) (w : World) (hb : BlkC 68 s i e B w) (hs : s.size ≤ 140737488351232) (hi : i ≤ s.size) (n : Nat) (f : Int) (hf : -9223372036854775808 ≤ f ∧ f < 9223372036854775808) (hn : e = 0 → n ≤ 6) :
  Calls Try.prog 51 #[.pointer (some ⟨B, 0, none⟩), .int .i64 (n : Int), .int .i64 f, .bool true] w fun r w' => ∃ A c, r = .returned (.slice A (entsR s true f n 0 (i, e) []).1.length c) ∧ Rd w' A c (entsR s true f n 0 (i, e) []).1 ∧ BlkC 68 s (entsR s true f n 0 (i, e) []).2.1 (entsR s true f n 0 (i, e) []).2.2 B w' ∧ Only (fun q => q = B) w w' ∧ (entsR s true f n 0 (i, e) []).2.1 ≤ s.size := by
 have HC := Aside0.mk hb
 have HS := Aside0.mk hs
 have HI := Aside0.mk hi
 have HO : Aside0 (Only (fun q => q = B) w w) := ⟨Only.refl _ _⟩
 have HF := Aside0.mk hf
 have HN6 := Aside0.mk hn
 clear hb hs hi hf hn
 go_enter Try.func51, Try.ntmps51
 obtain ⟨n0, hn0⟩ : ∃ x, w.heap.size = x := ⟨_, rfl⟩
 have HN0 : Aside0 (w.heap.size ≤ n0 ∧ B < n0 ∧ n0 ≤ w.heap.size) := ⟨by rw [← hn0]; exact ⟨Nat.le_refl _, HC.out.lt, Nat.le_refl _⟩⟩
 have HI1 : Aside0 (EntI 68 true f s i e B n n0 w 0 (.slice none 0 0) w) := ⟨⟨i, e, [], rfl, HC.out, HO.out, HI.out, OwnE.nil _ _, rfl, by rcases Nat.eq_zero_or_pos e with h | h; exact .inl h; exact .inr ⟨by omega, rfl⟩⟩⟩
 clear hn0 HC HO HI
 go_wp2
 go_loopw [9, 10] (fun v u wr => ∃ k : Nat, k ≤ n ∧ u = .int .i64 (k : Int) ∧ Aside0 (EntI 68 true f s i e B n n0 w k v wr)) (fun _ u _ => n - (intOf u).toNat)
 case atStart => exact ⟨0, Nat.zero_le _, rfl, HI1⟩
 case round =>
   clear HI1
   obtain ⟨k, hk, rfl, HI0⟩ := hrel
   obtain ⟨i', e', acc, hE, hc, ho, hi, hw, hl, hee⟩ := HI0.out
   have HC := Aside0.mk hc
   have HO := Aside0.mk ho
   have HI := Aside0.mk hi
   have HW := Aside0.mk hw
   have HEQ := Aside0.mk hE
   have hn0 := HN0.out
   have hf1 := HF.out
   clear HI0 hc ho hi hw hE
   by_cases hlt : k < n
   · by_cases he : e' = 0
     · obtain rfl : e' = 0 := he
       have hez : e = 0 := by omega
       have hn6 := HN6.out hez
       have d1 : decide ((k : Int) < (n : Int)) = true := decide_eq_true (by omega)
       have d2 : decide (k < n) = true := decide_eq_true hlt
       have hk4 : IntKind.i64.wrap ((k : Int) + 1) = (k : Int) + 1 := by rw [i64_w]; unfold wrap64; omega
       obtain ⟨x0, hx0⟩ : ∃ x, wrap64 (f + (k : Int)) = x := ⟨_, rfl⟩
       have HX0 := Aside0.mk hx0
       have hfw : IntKind.i64.wrap (f + (k : Int)) = x0 := by rw [i64_w]; exact hx0
       clear hx0
       obtain ⟨a0, b0, c0, ha0⟩ : ∃ a b c, numR s (i', 0) = (a, (b, c)) := ⟨_, _, _, rfl⟩
       have Ea0 := Aside0.mk ha0
       clear ha0
       obtain ⟨a1, b1, c1, ha1⟩ : ∃ a b c, numR s (b0, c0) = (a, (b, c)) := ⟨_, _, _, rfl⟩
       have Ea1 := Aside0.mk ha1
       clear ha1
       obtain ⟨a2, b2, c2, ha2⟩ : ∃ a b c, txtR s (b1, c1) = (a, (b, c)) := ⟨_, _, _, rfl⟩
       have Ea2 := Aside0.mk ha2
       clear ha2
       have HST : Aside0 (entsR s true f (n - k) k (i', 0) acc = entsR s true f (n - (k + 1)) (k + 1) (b2, c2) (acc ++ [⟨(a0 : Int), (a1 : Int), a2⟩])) := ⟨by rw [show n - k = (n - (k + 1)) + 1 by omega, entsR, if_pos rfl]; simp only [if_true, Ea0.out]; rw [Ea1.out]; dsimp only; rw [Ea2.out]⟩
       obtain ⟨n11, hn11⟩ : ∃ x, wr.heap.size = x := ⟨_, rfl⟩
       have HN11 := Aside0.mk hn11
       have lB : B < n11 := by rw [← hn11]; exact HC.out.lt
       have lw : w.heap.size ≤ n11 := by rw [← hn11]; exact HO.out.size
       have HOB : Aside0 (∀ q, u9.ownBlock = some q → n0 ≤ q ∧ q < n11) := ⟨fun q hq => by have h1 := own_block HW.out hq; rw [HN11.out] at h1; exact ⟨h1.1, h1.2.1⟩⟩
       obtain ⟨hc0, hc1, hc2⟩ := HC.out.box
       have hbe := BlkE.new ⟨x0, 0, ⟨#[]⟩⟩ wr
       rw [hn11] at hbe
       go_wp2_with fail
       clear hc0 hc1 hc2
       replace HC := laC HC (.cells #[.int .i64 x0, .int .i64 0, .string ⟨#[]⟩] 28)
       replace HO := laO HO (.cells #[.int .i64 x0, .int .i64 0, .string ⟨#[]⟩] 28)
       replace HW : Aside0 (OwnE (wr.alloc (.cells #[.int .i64 x0, .int .i64 0, .string ⟨#[]⟩] 28)) n0 u9 acc) := ⟨HW.out.alloc _⟩
       have HE : Aside0 (BlkE ⟨x0, 0, ⟨#[]⟩⟩ n11 (wr.alloc (.cells #[.int .i64 x0, .int .i64 0, .string ⟨#[]⟩] 28))) := ⟨hbe⟩
       obtain ⟨W9, hW⟩ : ∃ W, wr.alloc (.cells #[.int .i64 x0, .int .i64 0, .string ⟨#[]⟩] 28) = W := ⟨_, rfl⟩
       rw [hW] at HC HO HW HE ⊢
       clear hW hn11 hbe
       obtain ⟨hc0, hc1, hc2⟩ := HC.out.box
       obtain ⟨he0, he1, he2⟩ := HE.out.box
       go_at_call 49
       refine (rdn s i' 0 B _ HC.out HS.out HI.out Ea0.out).mono ?_
       rintro r w11 ⟨rfl, hc, ho, hi⟩
       replace HC := Aside0.mk hc
       replace HI := Aside0.mk hi
       replace HO := Aside0.mk (HO.out.trans ho)
       replace HW := Aside0.mk (OwnE.only' HW.out ho (fun q hq h => by have h2 : q = B := h; have := HOB.out q hq; have := HN0.out; omega))
       replace HE := Aside0.mk (BlkE.only HE.out ho (fun h => by have h2 : n11 = B := h; omega))
       clear hc ho hi
       clear hc0 hc1 hc2 he0 he1 he2
       obtain ⟨hc0, hc1, hc2⟩ := HC.out.box
       obtain ⟨he0, he1, he2⟩ := HE.out.box
       have yf := HE.out.free
       go_wp2_with fail
       clear yf
       clear hc0 hc1 hc2 he0 he1 he2
       have hx := (Only.refl (fun q => q = n11) w11).setCell (p := ⟨n11, 0, none⟩) rfl (.int .i64 (a0 : Int))
       replace HC := Aside0.mk (HC.out.only hx (fun h => by have h2 : B = n11 := h; omega))
       replace HO := Aside0.mk (only_new HO.out hx (by have := HN0.out; omega))
       replace HW := Aside0.mk (OwnE.only' HW.out hx (fun q hq h => by have h2 : q = n11 := h; have := HOB.out q hq; omega))
       replace HE := Aside0.mk (HE.out.set0 (a0 : Int))
       clear hx
       obtain ⟨W12, hW⟩ : ∃ W, w11.setCell ⟨n11, 0, none⟩ (.int .i64 (a0 : Int)) = W := ⟨_, rfl⟩
       rw [hW] at HC HO HW HE ⊢
       clear hW
       obtain ⟨hc0, hc1, hc2⟩ := HC.out.box
       obtain ⟨he0, he1, he2⟩ := HE.out.box
       go_at_call 49
       refine (rdn s b0 c0 B _ HC.out HS.out HI.out Ea1.out).mono ?_
       rintro r w13 ⟨rfl, hc, ho, hi⟩
       replace HC := Aside0.mk hc
       replace HI := Aside0.mk hi
       replace HO := Aside0.mk (HO.out.trans ho)
       replace HW := Aside0.mk (OwnE.only' HW.out ho (fun q hq h => by have h2 : q = B := h; have := HOB.out q hq; have := HN0.out; omega))
       replace HE := Aside0.mk (BlkE.only HE.out ho (fun h => by have h2 : n11 = B := h; omega))
       clear hc ho hi
       clear hc0 hc1 hc2 he0 he1 he2
       obtain ⟨hc0, hc1, hc2⟩ := HC.out.box
       obtain ⟨he0, he1, he2⟩ := HE.out.box
       have yf := HE.out.free
       go_wp2_with fail
       clear yf
       clear hc0 hc1 hc2 he0 he1 he2
       have hx := (Only.refl (fun q => q = n11) w13).setCell (p := ⟨n11, 1, none⟩) rfl (.int .i64 (a1 : Int))
       replace HC := Aside0.mk (HC.out.only hx (fun h => by have h2 : B = n11 := h; omega))
       replace HO := Aside0.mk (only_new HO.out hx (by have := HN0.out; omega))
       replace HW := Aside0.mk (OwnE.only' HW.out hx (fun q hq h => by have h2 : q = n11 := h; have := HOB.out q hq; omega))
       replace HE := Aside0.mk (HE.out.set1 (a1 : Int))
       clear hx
       obtain ⟨W14, hW⟩ : ∃ W, w13.setCell ⟨n11, 1, none⟩ (.int .i64 (a1 : Int)) = W := ⟨_, rfl⟩
       rw [hW] at HC HO HW HE ⊢
       clear hW
       obtain ⟨hc0, hc1, hc2⟩ := HC.out.box
       obtain ⟨he0, he1, he2⟩ := HE.out.box
       go_at_call 56
       refine (rdx s b1 c1 B _ HC.out HS.out HI.out Ea2.out).mono ?_
       rintro r w15 ⟨rfl, hc, ho, hi⟩
       replace HC := Aside0.mk hc
       replace HI := Aside0.mk hi
       replace HO := Aside0.mk (HO.out.trans ho)
       replace HW := Aside0.mk (OwnE.only' HW.out ho (fun q hq h => by have h2 : q = B := h; have := HOB.out q hq; have := HN0.out; omega))
       replace HE := Aside0.mk (BlkE.only HE.out ho (fun h => by have h2 : n11 = B := h; omega))
       clear hc ho hi
       clear hc0 hc1 hc2 he0 he1 he2
       obtain ⟨hc0, hc1, hc2⟩ := HC.out.box
       obtain ⟨he0, he1, he2⟩ := HE.out.box
       have yf := HE.out.free
       obtain ⟨m, hm⟩ : ∃ x, w15.heap.size = x := ⟨_, rfl⟩
       have HMm := Aside0.mk hm
       have lnm : n11 < m := by rw [← hm]; exact (Array.getElem?_eq_some_iff.1 HE.out).1
       have lnm2 : n11 ≠ m := by omega
       have hx := (Only.refl (fun q => q = n11) w15).setCell (p := ⟨n11, 2, none⟩) rfl (.string a2)
       have HC2 := Aside0.mk (HC.out.only hx (fun h => by have h2 : B = n11 := h; omega))
       have HO2 := Aside0.mk (only_new HO.out hx (by have := HN0.out; omega))
       have HW2 := Aside0.mk (OwnE.only' HW.out hx (fun q hq h => by have h2 : q = n11 := h; have := HOB.out q hq; omega))
       clear hx HC HO HW
       go_wp2_with (at_builtin; refine wpList_append_ent (l := acc) (m := [⟨(a0 : Int), (a1 : Int), a2⟩]) (b := n0) rfl (.tmp 38) (.tmp 40) rfl rfl (HW2.out.alloc _) rfl (by have hq := Rd.one (w15.setCell ⟨n11, 2, none⟩ (.string a2)) ⟨(a0 : Int), (a1 : Int), a2⟩; rw [World.size_setCell, HMm.out] at hq; exact hq) (by have h2 := HN6.out hez; show acc.length + 1 ≤ _; omega) (by rw [World.size_alloc, World.size_setCell, HMm.out]; omega) ?_; intro v6 w6 ho6 hgr ha6; have hon : Only (fun q => u9.ownBlock = some q) ((w15.setCell ⟨n11, 2, none⟩ (.string a2)).alloc (.cells #[.int .i64 (a0 : Int), .int .i64 (a1 : Int), .string a2] 28)) w6 := (Only.refl _ _).of_grown hgr (fun q hq _ => hq); have HC6 := Aside0.mk ((HC2.out.alloc (.cells #[.int .i64 (a0 : Int), .int .i64 (a1 : Int), .string a2] 28)).only hon (fun h => by have := HOB.out _ h; omega)); have HO6 := Aside0.mk (only_news (HO2.out.alloc (.cells #[.int .i64 (a0 : Int), .int .i64 (a1 : Int), .string a2] 28)) hon (fun q h => by have := (HOB.out _ h).1; have := HN0.out; omega)); have HW6 := Aside0.mk ho6; clear ho6 hgr ha6 hon)
       go_roundw
       case rel => exact ⟨k + 1, by omega, by go_num, ⟨b2, c2, acc ++ [⟨(a0 : Int), (a1 : Int), a2⟩], HEQ.out.trans HST.out, HC6.out, HO6.out, HI.out, HW6.out, by rw [List.length_append]; show acc.length + 1 = _; omega, .inl hez⟩⟩
       case measure => simp [intOf]; omega
     · have d1 : decide ((k : Int) < (n : Int)) = true := decide_eq_true (by omega)
       have d2 : decide (k < n) = true := decide_eq_true (by omega)
       have j1 : ((e' : Int) == 0) = false := beq_eq_false_iff_ne.2 (by omega)
       have j2 : (e' == 0) = false := beq_eq_false_iff_ne.2 he
       obtain ⟨hc0, hc1, hc2⟩ := HC.out.box
       have hlen : acc.length ≤ 4398046511104 := by rcases hee with h | h; (have := HN6.out h; omega); omega
       obtain ⟨A6, c6, hv6, hrd6, _⟩ := HW.out.rd' hlen
       subst hv6
       have HRD := Aside0.mk hrd6
       clear hrd6
       go_wp2_with fail
       go_ret
       rw [HEQ.out, entsR_stop _ _ _ _ _ _ _ _ (Or.inr he)]
       exact ⟨A6, c6, rfl, HRD.out, HC.out, HO.out, HI.out⟩
   · have d1 : decide ((k : Int) < (n : Int)) = false := decide_eq_false (by omega)
     have d2 : decide (k < n) = false := decide_eq_false (by omega)
     obtain ⟨hc0, hc1, hc2⟩ := HC.out.box
     have hlen : acc.length ≤ 4398046511104 := by rcases hee with h | h; (have := HN6.out h; omega); omega
     obtain ⟨A6, c6, hv6, hrd6, _⟩ := HW.out.rd' hlen
     subst hv6
     have HRD := Aside0.mk hrd6
     clear hrd6
     go_wp2_with fail
     go_ret
     rw [HEQ.out, entsR_stop _ _ _ _ _ _ _ _ (Or.inl (by omega))]
     exact ⟨A6, c6, rfl, HRD.out, HC.out, HO.out, HI.out⟩
set_option maxHeartbeats 4000000 in
set_option maxRecDepth 100000 in
theorem rd_entries_false (s : ByteArray) (i e B : Nat) (w : World) (hb : BlkC 68 s i e B w) (hs : s.size ≤ 140737488351232) (hi : i ≤ s.size) (n : Nat) (f : Int) (hf : -9223372036854775808 ≤ f ∧ f < 9223372036854775808) (hn : e = 0 → n ≤ 6) :
  Calls Try.prog 51 #[.pointer (some ⟨B, 0, none⟩), .int .i64 (n : Int), .int .i64 f, .bool false] w fun r w' => ∃ A c, r = .returned (.slice A (entsR s false f n 0 (i, e) []).1.length c) ∧ Rd w' A c (entsR s false f n 0 (i, e) []).1 ∧ BlkC 68 s (entsR s false f n 0 (i, e) []).2.1 (entsR s false f n 0 (i, e) []).2.2 B w' ∧ Only (fun q => q = B) w w' ∧ (entsR s false f n 0 (i, e) []).2.1 ≤ s.size := by
 have HC := Aside0.mk hb
 have HS := Aside0.mk hs
 have HI := Aside0.mk hi
 have HO : Aside0 (Only (fun q => q = B) w w) := ⟨Only.refl _ _⟩
 have HF := Aside0.mk hf
 have HN6 := Aside0.mk hn
 clear hb hs hi hf hn
 go_enter Try.func51, Try.ntmps51
 obtain ⟨n0, hn0⟩ : ∃ x, w.heap.size = x := ⟨_, rfl⟩
 have HN0 : Aside0 (w.heap.size ≤ n0 ∧ B < n0 ∧ n0 ≤ w.heap.size) := ⟨by rw [← hn0]; exact ⟨Nat.le_refl _, HC.out.lt, Nat.le_refl _⟩⟩
 have HI1 : Aside0 (EntI 68 false f s i e B n n0 w 0 (.slice none 0 0) w) := ⟨⟨i, e, [], rfl, HC.out, HO.out, HI.out, OwnE.nil _ _, rfl, by rcases Nat.eq_zero_or_pos e with h | h; exact .inl h; exact .inr ⟨by omega, rfl⟩⟩⟩
 clear hn0 HC HO HI
 go_wp2
 go_loopw [9, 10] (fun v u wr => ∃ k : Nat, k ≤ n ∧ u = .int .i64 (k : Int) ∧ Aside0 (EntI 68 false f s i e B n n0 w k v wr)) (fun _ u _ => n - (intOf u).toNat)
 case atStart => exact ⟨0, Nat.zero_le _, rfl, HI1⟩
 case round =>
   clear HI1
   obtain ⟨k, hk, rfl, HI0⟩ := hrel
   obtain ⟨i', e', acc, hE, hc, ho, hi, hw, hl, hee⟩ := HI0.out
   have HC := Aside0.mk hc
   have HO := Aside0.mk ho
   have HI := Aside0.mk hi
   have HW := Aside0.mk hw
   have HEQ := Aside0.mk hE
   have hn0 := HN0.out
   have hf1 := HF.out
   clear HI0 hc ho hi hw hE
   by_cases hlt : k < n
   · by_cases he : e' = 0
     · obtain rfl : e' = 0 := he
       have hez : e = 0 := by omega
       have hn6 := HN6.out hez
       have d1 : decide ((k : Int) < (n : Int)) = true := decide_eq_true (by omega)
       have d2 : decide (k < n) = true := decide_eq_true hlt
       have hk4 : IntKind.i64.wrap ((k : Int) + 1) = (k : Int) + 1 := by rw [i64_w]; unfold wrap64; omega
       obtain ⟨x0, hx0⟩ : ∃ x, wrap64 (f + (k : Int)) = x := ⟨_, rfl⟩
       have HX0 := Aside0.mk hx0
       have hfw : IntKind.i64.wrap (f + (k : Int)) = x0 := by rw [i64_w]; exact hx0
       clear hx0
       obtain ⟨a1, b1, c1, ha1⟩ : ∃ a b c, numR s (i', 0) = (a, (b, c)) := ⟨_, _, _, rfl⟩
       have Ea1 := Aside0.mk ha1
       clear ha1
       obtain ⟨a2, b2, c2, ha2⟩ : ∃ a b c, txtR s (b1, c1) = (a, (b, c)) := ⟨_, _, _, rfl⟩
       have Ea2 := Aside0.mk ha2
       clear ha2
       have HST : Aside0 (entsR s false f (n - k) k (i', 0) acc = entsR s false f (n - (k + 1)) (k + 1) (b2, c2) (acc ++ [⟨x0, (a1 : Int), a2⟩])) := ⟨by rw [show n - k = (n - (k + 1)) + 1 by omega, entsR, if_pos rfl]; simp only [Bool.false_eq_true, if_false]; rw [Ea1.out]; dsimp only; rw [Ea2.out, HX0.out]⟩
       obtain ⟨n11, hn11⟩ : ∃ x, wr.heap.size = x := ⟨_, rfl⟩
       have HN11 := Aside0.mk hn11
       have lB : B < n11 := by rw [← hn11]; exact HC.out.lt
       have lw : w.heap.size ≤ n11 := by rw [← hn11]; exact HO.out.size
       have HOB : Aside0 (∀ q, u9.ownBlock = some q → n0 ≤ q ∧ q < n11) := ⟨fun q hq => by have h1 := own_block HW.out hq; rw [HN11.out] at h1; exact ⟨h1.1, h1.2.1⟩⟩
       obtain ⟨hc0, hc1, hc2⟩ := HC.out.box
       have hbe := BlkE.new ⟨x0, 0, ⟨#[]⟩⟩ wr
       rw [hn11] at hbe
       go_wp2_with fail
       clear hc0 hc1 hc2
       replace HC := laC HC (.cells #[.int .i64 x0, .int .i64 0, .string ⟨#[]⟩] 28)
       replace HO := laO HO (.cells #[.int .i64 x0, .int .i64 0, .string ⟨#[]⟩] 28)
       replace HW : Aside0 (OwnE (wr.alloc (.cells #[.int .i64 x0, .int .i64 0, .string ⟨#[]⟩] 28)) n0 u9 acc) := ⟨HW.out.alloc _⟩
       have HE : Aside0 (BlkE ⟨x0, 0, ⟨#[]⟩⟩ n11 (wr.alloc (.cells #[.int .i64 x0, .int .i64 0, .string ⟨#[]⟩] 28))) := ⟨hbe⟩
       obtain ⟨W9, hW⟩ : ∃ W, wr.alloc (.cells #[.int .i64 x0, .int .i64 0, .string ⟨#[]⟩] 28) = W := ⟨_, rfl⟩
       rw [hW] at HC HO HW HE ⊢
       clear hW hn11 hbe
       obtain ⟨hc0, hc1, hc2⟩ := HC.out.box
       obtain ⟨he0, he1, he2⟩ := HE.out.box
       go_at_call 49
       refine (rdn s i' 0 B _ HC.out HS.out HI.out Ea1.out).mono ?_
       rintro r w11 ⟨rfl, hc, ho, hi⟩
       replace HC := Aside0.mk hc
       replace HI := Aside0.mk hi
       replace HO := Aside0.mk (HO.out.trans ho)
       replace HW := Aside0.mk (OwnE.only' HW.out ho (fun q hq h => by have h2 : q = B := h; have := HOB.out q hq; have := HN0.out; omega))
       replace HE := Aside0.mk (BlkE.only HE.out ho (fun h => by have h2 : n11 = B := h; omega))
       clear hc ho hi
       clear hc0 hc1 hc2 he0 he1 he2
       obtain ⟨hc0, hc1, hc2⟩ := HC.out.box
       obtain ⟨he0, he1, he2⟩ := HE.out.box
       have yf := HE.out.free
       go_wp2_with fail
       clear yf
       clear hc0 hc1 hc2 he0 he1 he2
       have hx := (Only.refl (fun q => q = n11) w11).setCell (p := ⟨n11, 1, none⟩) rfl (.int .i64 (a1 : Int))
       replace HC := Aside0.mk (HC.out.only hx (fun h => by have h2 : B = n11 := h; omega))
       replace HO := Aside0.mk (only_new HO.out hx (by have := HN0.out; omega))
       replace HW := Aside0.mk (OwnE.only' HW.out hx (fun q hq h => by have h2 : q = n11 := h; have := HOB.out q hq; omega))
       replace HE := Aside0.mk (HE.out.set1 (a1 : Int))
       clear hx
       obtain ⟨W12, hW⟩ : ∃ W, w11.setCell ⟨n11, 1, none⟩ (.int .i64 (a1 : Int)) = W := ⟨_, rfl⟩
       rw [hW] at HC HO HW HE ⊢
       clear hW
       obtain ⟨hc0, hc1, hc2⟩ := HC.out.box
       obtain ⟨he0, he1, he2⟩ := HE.out.box
       go_at_call 56
       refine (rdx s b1 c1 B _ HC.out HS.out HI.out Ea2.out).mono ?_
       rintro r w13 ⟨rfl, hc, ho, hi⟩
       replace HC := Aside0.mk hc
       replace HI := Aside0.mk hi
       replace HO := Aside0.mk (HO.out.trans ho)
       replace HW := Aside0.mk (OwnE.only' HW.out ho (fun q hq h => by have h2 : q = B := h; have := HOB.out q hq; have := HN0.out; omega))
       replace HE := Aside0.mk (BlkE.only HE.out ho (fun h => by have h2 : n11 = B := h; omega))
       clear hc ho hi
       clear hc0 hc1 hc2 he0 he1 he2
       obtain ⟨hc0, hc1, hc2⟩ := HC.out.box
       obtain ⟨he0, he1, he2⟩ := HE.out.box
       have yf := HE.out.free
       obtain ⟨m, hm⟩ : ∃ x, w13.heap.size = x := ⟨_, rfl⟩
       have HMm := Aside0.mk hm
       have lnm : n11 < m := by rw [← hm]; exact (Array.getElem?_eq_some_iff.1 HE.out).1
       have lnm2 : n11 ≠ m := by omega
       have hx := (Only.refl (fun q => q = n11) w13).setCell (p := ⟨n11, 2, none⟩) rfl (.string a2)
       have HC2 := Aside0.mk (HC.out.only hx (fun h => by have h2 : B = n11 := h; omega))
       have HO2 := Aside0.mk (only_new HO.out hx (by have := HN0.out; omega))
       have HW2 := Aside0.mk (OwnE.only' HW.out hx (fun q hq h => by have h2 : q = n11 := h; have := HOB.out q hq; omega))
       clear hx HC HO HW
       go_wp2_with (at_builtin; refine wpList_append_ent (l := acc) (m := [⟨x0, (a1 : Int), a2⟩]) (b := n0) rfl (.tmp 38) (.tmp 40) rfl rfl (HW2.out.alloc _) rfl (by have hq := Rd.one (w13.setCell ⟨n11, 2, none⟩ (.string a2)) ⟨x0, (a1 : Int), a2⟩; rw [World.size_setCell, HMm.out] at hq; exact hq) (by have h2 := HN6.out hez; show acc.length + 1 ≤ _; omega) (by rw [World.size_alloc, World.size_setCell, HMm.out]; omega) ?_; intro v6 w6 ho6 hgr ha6; have hon : Only (fun q => u9.ownBlock = some q) ((w13.setCell ⟨n11, 2, none⟩ (.string a2)).alloc (.cells #[.int .i64 x0, .int .i64 (a1 : Int), .string a2] 28)) w6 := (Only.refl _ _).of_grown hgr (fun q hq _ => hq); have HC6 := Aside0.mk ((HC2.out.alloc (.cells #[.int .i64 x0, .int .i64 (a1 : Int), .string a2] 28)).only hon (fun h => by have := HOB.out _ h; omega)); have HO6 := Aside0.mk (only_news (HO2.out.alloc (.cells #[.int .i64 x0, .int .i64 (a1 : Int), .string a2] 28)) hon (fun q h => by have := (HOB.out _ h).1; have := HN0.out; omega)); have HW6 := Aside0.mk ho6; clear ho6 hgr ha6 hon)
       go_roundw
       case rel => exact ⟨k + 1, by omega, by go_num, ⟨b2, c2, acc ++ [⟨x0, (a1 : Int), a2⟩], HEQ.out.trans HST.out, HC6.out, HO6.out, HI.out, HW6.out, by rw [List.length_append]; show acc.length + 1 = _; omega, .inl hez⟩⟩
       case measure => simp [intOf]; omega
     · have d1 : decide ((k : Int) < (n : Int)) = true := decide_eq_true (by omega)
       have d2 : decide (k < n) = true := decide_eq_true (by omega)
       have j1 : ((e' : Int) == 0) = false := beq_eq_false_iff_ne.2 (by omega)
       have j2 : (e' == 0) = false := beq_eq_false_iff_ne.2 he
       obtain ⟨hc0, hc1, hc2⟩ := HC.out.box
       have hlen : acc.length ≤ 4398046511104 := by rcases hee with h | h; (have := HN6.out h; omega); omega
       obtain ⟨A6, c6, hv6, hrd6, _⟩ := HW.out.rd' hlen
       subst hv6
       have HRD := Aside0.mk hrd6
       clear hrd6
       go_wp2_with fail
       go_ret
       rw [HEQ.out, entsR_stop _ _ _ _ _ _ _ _ (Or.inr he)]
       exact ⟨A6, c6, rfl, HRD.out, HC.out, HO.out, HI.out⟩
   · have d1 : decide ((k : Int) < (n : Int)) = false := decide_eq_false (by omega)
     have d2 : decide (k < n) = false := decide_eq_false (by omega)
     obtain ⟨hc0, hc1, hc2⟩ := HC.out.box
     have hlen : acc.length ≤ 4398046511104 := by rcases hee with h | h; (have := HN6.out h; omega); omega
     obtain ⟨A6, c6, hv6, hrd6, _⟩ := HW.out.rd' hlen
     subst hv6
     have HRD := Aside0.mk hrd6
     clear hrd6
     go_wp2_with fail
     go_ret
     rw [HEQ.out, entsR_stop _ _ _ _ _ _ _ _ (Or.inl (by omega))]
     exact ⟨A6, c6, rfl, HRD.out, HC.out, HO.out, HI.out⟩
end Go.Proofs.Ytokjhocjemjfiaa.PartW
namespace Go.Proofs.Ytokjhocjemjfiaa.Sp
open Go Go.RowKit Go.Proofs.Ytokjhocjemjfiaa.A Go.Proofs.Ytokjhocjemjfiaa.Seq Go.Proofs.Ytokjhocjemjfiaa.CodeW Go.Proofs.Ytokjhocjemjfiaa.CodeM Go.Proofs.Ytokjhocjemjfiaa.CodeQ Go.Proofs.Ytokjhocjemjfiaa.Given Go.Proofs.YtokjhocjemjfiaaW.PrintWords Go.Proofs.YtokjhocjemjfiaaW.PrintLast Go.Proofs.YtokjhocjemjfiaaW.PrintMore
theorem numR_e {s : ByteArray} {st : Nat × Nat} (h : (numR s st).2.2 = 0) : st.2 = 0 := by
  unfold numR at h
  split at h
  · assumption
  · exact h
/-- entries one behind the other are read -/
def closeR (s : ByteArray) (st : Nat × Nat) : List Ent × (Nat × Nat) := entsR s false ((numR s (upR s 6 st).2).1 : Int) (upR s 6 st).1 0 (numR s (upR s 6 st).2).2 []
end Go.Proofs.Ytokjhocjemjfiaa.Sp
namespace Go.Proofs.Ytokjhocjemjfiaa.PartW
open Go Go.RowKit Go.Shelf Go.Proofs.Ytokjhocjemjfiaa.A Go.Proofs.Ytokjhocjemjfiaa.Sp Go.Proofs.Ytokjhocjemjfiaa.Reg Go.Proofs.Ytokjhocjemjfiaa.Seq Go.Proofs.Ytokjhocjemjfiaa.CodeW Go.Proofs.Ytokjhocjemjfiaa.CodeM Go.Proofs.Ytokjhocjemjfiaa.CodeQ Go.Proofs.Ytokjhocjemjfiaa.Given Go.Proofs.YtokjhocjemjfiaaW.PrintWords Go.Proofs.YtokjhocjemjfiaaW.PrintLast Go.Proofs.YtokjhocjemjfiaaW.PrintMore
/-- a part with other entries -/
def Prt.ents (p : Prt) (l : List Ent) : Prt := ⟨p.g, p.k, l, p.ht, p.hv, p.hc, p.ix, p.tm, p.mrk, p.hed⟩
end Go.Proofs.Ytokjhocjemjfiaa.PartW
namespace Go.Proofs.Ytokjhocjemjfiaa.Sp
open Go Go.RowKit Go.Proofs.Ytokjhocjemjfiaa.A Go.Proofs.Ytokjhocjemjfiaa.Seq Go.Proofs.Ytokjhocjemjfiaa.CodeW Go.Proofs.Ytokjhocjemjfiaa.CodeM Go.Proofs.Ytokjhocjemjfiaa.CodeQ Go.Proofs.Ytokjhocjemjfiaa.Given Go.Proofs.YtokjhocjemjfiaaW.PrintWords Go.Proofs.YtokjhocjemjfiaaW.PrintLast Go.Proofs.YtokjhocjemjfiaaW.PrintMore
def bit1 (n : Nat) : Bool := Go.bits .and .i64 (n : Int) 1 == 1
def bit2 (n : Nat) : Bool := Go.bits .and .i64 (n : Int) 2 == 2
/-- a mark is read, or none -/
def markR (s : ByteArray) (m : Bool) (st : Nat × Nat) : (Nat × Nat) × (Nat × Nat) := if m then (((numR s st).1, (numR s (numR s st).2).1), (numR s (numR s st).2).2) else ((0, 0), st)
def hedR (s : ByteArray) (h : Bool) (st : Nat × Nat) : (Nat × Nat × Nat) × (Nat × Nat) := if h then hardR s st else ((0, 0, 0), st)
/-- what is written anew is read -/
def fwdR (s : ByteArray) (g k : Int) (st : Nat × Nat) : Prt × (Nat × Nat) :=
  let a := upR s 3 st
  let x := markR s (bit1 a.1) a.2
  let y := hedR s (bit2 a.1) x.2
  let n := upR s 6 y.2
  let L := entsR s true 0 n.1 0 n.2 []
  (⟨g, k, L.1, y.1.1, y.1.2.1, y.1.2.2, x.1.1, x.1.2, bit1 a.1, bit2 a.1⟩, L.2)
end Go.Proofs.Ytokjhocjemjfiaa.Sp
namespace Go.Proofs.Ytokjhocjemjfiaa.PartW
open Go Go.RowKit Go.Shelf Go.Proofs.Ytokjhocjemjfiaa.A Go.Proofs.Ytokjhocjemjfiaa.Sp Go.Proofs.Ytokjhocjemjfiaa.Reg Go.Proofs.Ytokjhocjemjfiaa.Seq Go.Proofs.Ytokjhocjemjfiaa.CodeW Go.Proofs.Ytokjhocjemjfiaa.CodeM Go.Proofs.Ytokjhocjemjfiaa.CodeQ Go.Proofs.Ytokjhocjemjfiaa.Given Go.Proofs.YtokjhocjemjfiaaW.PrintWords Go.Proofs.YtokjhocjemjfiaaW.PrintLast Go.Proofs.YtokjhocjemjfiaaW.PrintMore
section
variable {p : Prt} {A : Option Addr} {c B : Nat} {W : World}
theorem BlkP.set89 (h : BlkP p A c B W) (m d : Bool) : BlkP ⟨p.g, p.k, p.l, p.ht, p.hv, p.hc, p.ix, p.tm, m, d⟩ A c B ((W.setCell ⟨B, 8, none⟩ (.bool m)).setCell ⟨B, 9, none⟩ (.bool d)) := by
  unfold BlkP at h ⊢
  simp [World.setCell, Array.getElem?_modify, h]
theorem BlkP.set6 (h : BlkP p A c B W) (x : Int) : BlkP ⟨p.g, p.k, p.l, p.ht, p.hv, p.hc, x, p.tm, p.mrk, p.hed⟩ A c B (W.setCell ⟨B, 6, none⟩ (.int .i64 x)) := by
  unfold BlkP at h ⊢
  simp [World.setCell, Array.getElem?_modify, h]
theorem BlkP.set7 (h : BlkP p A c B W) (x : Int) : BlkP ⟨p.g, p.k, p.l, p.ht, p.hv, p.hc, p.ix, x, p.mrk, p.hed⟩ A c B (W.setCell ⟨B, 7, none⟩ (.int .i64 x)) := by
  unfold BlkP at h ⊢
  simp [World.setCell, Array.getElem?_modify, h]
theorem BlkP.set345 (h : BlkP p A c B W) (x y z : Int) : BlkP ⟨p.g, p.k, p.l, x, y, z, p.ix, p.tm, p.mrk, p.hed⟩ A c B (((W.setCell ⟨B, 3, none⟩ (.int .i64 x)).setCell ⟨B, 4, none⟩ (.int .i64 y)).setCell ⟨B, 5, none⟩ (.int .i64 z)) := by
  unfold BlkP at h ⊢
  simp [World.setCell, Array.getElem?_modify, h]
end
end Go.Proofs.Ytokjhocjemjfiaa.PartW
