/- The document's cursor. -/
import Derived.Test.YtokjhocjemjfiaaRdA
set_option linter.unusedVariables false
set_option linter.unusedSimpArgs false
namespace Go.Proofs.Ytokjhocjemjfiaa.PartW
open Go Go.RowKit Go.Shelf Go.Proofs.Ytokjhocjemjfiaa.A Go.Proofs.Ytokjhocjemjfiaa.Sp Go.Proofs.Ytokjhocjemjfiaa.Reg Go.Proofs.Ytokjhocjemjfiaa.Seq Go.Proofs.Ytokjhocjemjfiaa.CodeW Go.Proofs.Ytokjhocjemjfiaa.CodeM Go.Proofs.Ytokjhocjemjfiaa.CodeQ Go.Proofs.Ytokjhocjemjfiaa.Given Go.Proofs.YtokjhocjemjfiaaW.PrintWords Go.Proofs.YtokjhocjemjfiaaW.PrintLast Go.Proofs.YtokjhocjemjfiaaW.PrintMore
theorem rget (s : ByteArray) (i : Nat) (w : World) (hs : s.size ≤ 140737488351232) (hi : i ≤ s.size) {a b c : Nat} (h : getT s i = (a, b, c)) : Calls Try.prog 52 #[.string (s.extract i s.size)] w fun e w' => e = .returned (.tuple #[.int .i64 (a : Int), .int .i64 (b : Int), .int .i64 (c : Int)]) ∧ Below w.heap.size w w' := by
  refine (laderef1_Get.calls (2 * (s.extract i s.size).size + 1) _ _ _ _ w ?_).mono fun e w' h => ⟨h.1, h.2.below⟩
  rw [ref_get0 _ (by rw [ext_size s hi]; omega) _ (by omega), ext_drop]
  unfold getT at h
  rw [h]; rfl
theorem rtxt (s : ByteArray) (i : Nat) (w : World) (hs : s.size ≤ 140737488351232) (hi : i ≤ s.size) {a : ByteArray} {b c : Int} (h : txtT s i = (a, b, c)) : Calls Try.prog 57 #[.string (s.extract i s.size), .int .i64 40] w fun e w' => e = .returned (.tuple #[.string a, .int .i64 b, .int .i64 c]) ∧ Below w.heap.size w w' := by
  refine laderef1_Texts.calls (2 * (s.extract i s.size).size + 1) _ _ _ _ _ w ?_
  rw [ref_texts _ _ (by rw [ext_size s hi]; omega) _ (by omega)]
  unfold txtT at h
  rw [h]
set_option maxHeartbeats 4000000 in
set_option maxRecDepth 100000 in
theorem cu_Num (s : ByteArray) (i e B : Nat) (w : World) (hb : BlkC 72 s i e B w) (hs : s.size ≤ 140737488351232) (hi : i ≤ s.size) :
  Calls Try.prog 42 #[.pointer (some ⟨B, 0, none⟩)] w (GotN 72 s (numR s (i, e)) B w) := by
 have HC := Aside0.mk hb
 have HS := Aside0.mk (And.intro hs hi)
 have HO : Aside0 (Only (fun q => q = B) w w) := ⟨Only.refl _ _⟩
 by_cases he : e = 0
 · subst he
   obtain ⟨a, n, m, hT⟩ : ∃ a b c, getT s i = (a, b, c) := ⟨_, _, _, rfl⟩
   have hk := getT_ok s hi
   rw [hT] at hk
   have HR : Aside0 (numR s (i, 0) = (a, (i + n, m))) := ⟨by unfold numR; rw [if_pos rfl, hT]⟩
   have hk2 : i + n ≤ s.size := hk.2.1
   have HT := Aside0.mk hT
   have hw : IntKind.i64.wrap ((i : Int) + (n : Int)) = ((i + n : Nat) : Int) := by rw [i64_w]; unfold wrap64; omega
   have k1 : (0 : Int) ≤ (i : Int) := by omega
   have k2 : (i : Int) ≤ (s.size : Int) := by omega
   have k3 : i ≤ s.size := hi
   clear hk hk2 hT hb hs
   go_enter Try.func42, Try.ntmps42
   obtain ⟨hc0, hc1, hc2⟩ := HC.out.box
   go_wp2_with fail
   clear hc0 hc1 hc2
   replace HC := ldC HC
   replace HO := ldO HO
   refine start_ (n := 17) (S := (fun w' => BoxC s i 0 B w')) (ds := []) #[false,false,false,false,false,false,false,false,false,false,false,false,false,false,false,false,false] (by kernel_rfl) rfl rfl HC.out.box (fun hHeld => ?_)
   refine pure_ (i := 0) (N := some 12) (v := ?_) (a' := ?_) #[true,false,false,false,false,false,false,false,false,false,false,false,false,false,false,false,false] rfl rfl (by kernel_rfl) (fun _ _ _ h => h) (Or.inl ⟨by rfl, ?_⟩) ?_ ?_
   rotate_left
   · intro w'
     go_simp
     try with_reducible rfl
   rotate_left
   · simp only [Act.put, sA, sB, sC]
     rfl
   refine pure_ (i := 1) (N := some 13) (v := ?_) (a' := ?_) #[true,true,false,false,false,false,false,false,false,false,false,false,false,false,false,false,false] rfl rfl (by kernel_rfl) (fun _ _ _ h => h) (Or.inl ⟨by rfl, ?_⟩) ?_ ?_
   rotate_left
   · intro w'
     go_simp
     try with_reducible rfl
   rotate_left
   · simp only [Act.put, sA, sB, sC]
     rfl
   refine pure_ (i := 2) (N := some 14) (v := ?_) (a' := ?_) #[true,true,true,false,false,false,false,false,false,false,false,false,false,false,false,false,false] rfl rfl (by kernel_rfl) (fun _ _ _ h => h) (Or.inl ⟨by rfl, ?_⟩) ?_ ?_
   rotate_left
   · intro w'
     go_simp
     try with_reducible rfl
   rotate_left
   · simp only [Act.put, sA, sB, sC]
     rfl
   refine take_ (i := 3) (N := some 15) (v := ?_) (a' := ?_) #[true,true,true,true,false,false,false,false,false,false,false,false,false,false,false,false,false] rfl rfl (by kernel_rfl) (fun _ _ _ h => h) (Or.inl ⟨by rfl, ?_⟩) hHeld ?_ ?_
   rotate_left
   · rintro w' ⟨hc0, hc1, hc2⟩
     go_simp
     try with_reducible rfl
   rotate_left
   · simp only [Act.put, sA, sB, sC]
     rfl
   refine pure_ (i := 4) (N := some 16) (v := ?_) (a' := ?_) #[true,true,true,true,true,false,false,false,false,false,false,false,false,false,false,false,false] rfl rfl (by kernel_rfl) (fun _ _ _ h => h) (Or.inl ⟨by rfl, ?_⟩) ?_ ?_
   rotate_left
   · intro w'
     go_simp
     try with_reducible rfl
   rotate_left
   · simp only [Act.put, sA, sB, sC]
     rfl
   refine pure_ (i := 5) (N := some 17) (v := ?_) (a' := ?_) #[true,true,true,true,true,true,false,false,false,false,false,false,false,false,false,false,false] rfl rfl (by kernel_rfl) (fun _ _ _ h => h) (Or.inl ⟨by rfl, ?_⟩) ?_ ?_
   rotate_left
   · intro w'
     go_simp
     try with_reducible rfl
   rotate_left
   · simp only [Act.put, sA, sB, sC]
     rfl
   refine pure_ (i := 6) (N := some 18) (v := ?_) (a' := ?_) #[true,true,true,true,true,true,true,false,false,false,false,false,false,false,false,false,false] rfl rfl (by kernel_rfl) (fun _ _ _ h => h) (Or.inl ⟨by rfl, ?_⟩) ?_ ?_
   rotate_left
   · intro w'
     go_simp
     try with_reducible rfl
   rotate_left
   · simp only [Act.put, sA, sB, sC]
     rfl
   refine take_ (i := 7) (N := some 19) (v := ?_) (a' := ?_) #[true,true,true,true,true,true,true,true,false,false,false,false,false,false,false,false,false] rfl rfl (by kernel_rfl) (fun _ _ _ h => h) (Or.inl ⟨by rfl, ?_⟩) hHeld ?_ ?_
   rotate_left
   · rintro w' ⟨hc0, hc1, hc2⟩
     go_simp
     try with_reducible rfl
   rotate_left
   · simp only [Act.put, sA, sB, sC]
     rfl
   refine pure_ (i := 8) (N := some 20) (v := ?_) (a' := ?_) #[true,true,true,true,true,true,true,true,true,false,false,false,false,false,false,false,false] rfl rfl (by kernel_rfl) (fun _ _ _ h => h) (Or.inl ⟨by rfl, ?_⟩) ?_ ?_
   rotate_left
   · intro w'
     go_simp
     try with_reducible rfl
   rotate_left
   · simp only [Act.put, sA, sB, sC]
     rfl
   refine one_ (i := 9) (N := some 21) #[true,true,true,true,true,true,true,true,true,true,false,false,false,false,false,false,false] rfl rfl (by kernel_rfl) (by decide) (fun K hK => ?_)
   go_simp
   refine (rget s i _ HS.out.1 HS.out.2 HT.out).mono ?_; rintro e w1 ⟨rfl, hw1⟩; replace HC := lbC HC hw1; replace HO := lbO HO hw1; clear hw1
   refine hK.out _ _ ?_ (fun hHeld => ?_)
   · exact HC.out.box
   clear hK K
   try simp only [Act.put, sA, sB, sC]
   refine pure_ (i := 10) (N := some 11) (v := ?_) (a' := ?_) #[true,true,true,true,true,true,true,true,true,true,true,false,false,false,false,false,false] rfl rfl (by kernel_rfl) (fun _ _ _ h => h) (Or.inl ⟨by rfl, ?_⟩) ?_ ?_
   rotate_left
   · intro w'
     go_simp
     try with_reducible rfl
   rotate_left
   · simp only [Act.put, sA, sB, sC]
     rfl
   refine pure_ (i := 11) (N := some 22) (v := ?_) (a' := ?_) #[true,true,true,true,true,true,true,true,true,true,true,true,false,false,false,false,false] rfl rfl (by kernel_rfl) (fun _ _ _ h => h) (Or.inl ⟨by rfl, ?_⟩) ?_ ?_
   rotate_left
   · intro w'
     go_simp
     try with_reducible rfl
   rotate_left
   · simp only [Act.put, sA, sB, sC]
     rfl
   refine pure_ (i := 12) (N := some 23) (v := ?_) (a' := ?_) #[true,true,true,true,true,true,true,true,true,true,true,true,true,false,false,false,false] rfl rfl (by kernel_rfl) (fun _ _ _ h => h) (Or.inl ⟨by rfl, ?_⟩) ?_ ?_
   rotate_left
   · intro w'
     go_simp
     try with_reducible rfl
   rotate_left
   · simp only [Act.put, sA, sB, sC]
     rfl
   refine pure_ (i := 13) (N := some 24) (v := ?_) (a' := ?_) #[true,true,true,true,true,true,true,true,true,true,true,true,true,true,false,false,false] rfl rfl (by kernel_rfl) (fun _ _ _ h => h) (Or.inl ⟨by rfl, ?_⟩) ?_ ?_
   rotate_left
   · intro w'
     go_simp
     try with_reducible rfl
   rotate_left
   · simp only [Act.put, sA, sB, sC]
     rfl
   refine pure_ (i := 14) (N := some 3) (v := ?_) (a' := ?_) #[true,true,true,true,true,true,true,true,true,true,true,true,true,true,true,false,false] rfl rfl (by kernel_rfl) (fun _ _ _ h => h) (Or.inl ⟨by rfl, ?_⟩) ?_ ?_
   rotate_left
   · intro w'
     go_simp
     try with_reducible rfl
   rotate_left
   · simp only [Act.put, sA, sB, sC]
     rfl
   refine pure_ (i := 15) (N := some 4) (v := ?_) (a' := ?_) #[true,true,true,true,true,true,true,true,true,true,true,true,true,true,true,true,false] rfl rfl (by kernel_rfl) (fun _ _ _ h => h) (Or.inl ⟨by rfl, ?_⟩) ?_ ?_
   rotate_left
   · intro w'
     go_simp
     try with_reducible rfl
   rotate_left
   · simp only [Act.put, sA, sB, sC]
     rfl
   refine pure_ (i := 16) (N := some 5) (v := ?_) (a' := ?_) #[true,true,true,true,true,true,true,true,true,true,true,true,true,true,true,true,true] rfl rfl (by kernel_rfl) (fun _ _ _ h => h) (Or.inl ⟨by rfl, ?_⟩) ?_ ?_
   rotate_left
   · intro w'
     go_simp
     try with_reducible rfl
   rotate_left
   · simp only [Act.put, sA, sB, sC]
     rfl
   refine done_ (by kernel_rfl) ?_
   clear hHeld
   obtain ⟨hc0, hc1, hc2⟩ := HC.out.box
   have yf := HC.out.free
   go_wp2_with fail
   have h1 := HC.out.set1 (i + n)
   have h2 := h1.set2 m
   have hx := (((HO.out.setCell (p := ⟨B, 1, none⟩) rfl (.int .i64 ((i + n : Nat) : Int))).setCell (p := ⟨B, 2, none⟩) rfl (.int .i64 (m : Int))))
   go_ret
   unfold GotN
   rw [HR.out]
   first | exact ⟨rfl, h2, hx⟩ | exact ⟨rfl, by push_cast at h2; exact h2, by push_cast at hx; exact hx⟩
 · have HR : Aside0 (numR s (i, e) = (0, (i, e))) := ⟨by unfold numR; rw [if_neg he]⟩
   have j1 : ((e : Int) == 0) = false := beq_eq_false_iff_ne.2 (by omega)
   have j2 : ((e : Int) != 0) = true := by rw [bne, j1]; rfl
   have j3 : (e == 0) = false := beq_eq_false_iff_ne.2 he
   clear hb hs hi he
   go_enter Try.func42, Try.ntmps42
   obtain ⟨hc0, hc1, hc2⟩ := HC.out.box
   go_wp2
   go_ret
   unfold GotN
   rw [HR.out]
   exact ⟨rfl, HC.out, HO.out⟩
set_option maxHeartbeats 4000000 in
set_option maxRecDepth 100000 in
theorem cu_Text (s : ByteArray) (i e B : Nat) (w : World) (hb : BlkC 72 s i e B w) (hs : s.size ≤ 140737488351232) (hi : i ≤ s.size) :
  Calls Try.prog 53 #[.pointer (some ⟨B, 0, none⟩)] w (GotX 72 s (txtR s (i, e)) B w) := by
 have HC := Aside0.mk hb
 have HS := Aside0.mk (And.intro hs hi)
 have HO : Aside0 (Only (fun q => q = B) w w) := ⟨Only.refl _ _⟩
 by_cases he : e = 0
 · subst he
   obtain ⟨a, b, c, hT⟩ : ∃ a b c, txtT s i = (a, b, c) := ⟨_, _, _, rfl⟩
   have hk := txtT_ok s hi
   rw [hT] at hk
   obtain ⟨n, hn⟩ : ∃ n : Nat, b = (n : Int) := ⟨b.toNat, by have := hk.1; dsimp only at this; omega⟩
   obtain ⟨m, hm⟩ : ∃ m : Nat, c = (m : Int) := ⟨c.toNat, by have := hk.2.2; dsimp only at this; omega⟩
   subst hn
   subst hm
   have HR : Aside0 (txtR s (i, 0) = (a, (i + n, m))) := ⟨by unfold txtR; rw [if_pos rfl, hT]; rfl⟩
   have hk2 : i + n ≤ s.size := by have := hk.2.1; dsimp only at this; omega
   have HT := Aside0.mk hT
   have hw : IntKind.i64.wrap ((i : Int) + (n : Int)) = ((i + n : Nat) : Int) := by rw [i64_w]; unfold wrap64; omega
   have k1 : (0 : Int) ≤ (i : Int) := by omega
   have k2 : (i : Int) ≤ (s.size : Int) := by omega
   have k3 : i ≤ s.size := hi
   clear hk hk2 hT hb hs
   go_enter Try.func53, Try.ntmps53
   obtain ⟨hc0, hc1, hc2⟩ := HC.out.box
   go_wp2_with fail
   clear hc0 hc1 hc2
   replace HC := ldC HC
   replace HO := ldO HO
   refine start_ (n := 17) (S := (fun w' => BoxC s i 0 B w')) (ds := []) #[false,false,false,false,false,false,false,false,false,false,false,false,false,false,false,false,false] (by kernel_rfl) rfl rfl HC.out.box (fun hHeld => ?_)
   refine pure_ (i := 0) (N := some 12) (v := ?_) (a' := ?_) #[true,false,false,false,false,false,false,false,false,false,false,false,false,false,false,false,false] rfl rfl (by kernel_rfl) (fun _ _ _ h => h) (Or.inl ⟨by rfl, ?_⟩) ?_ ?_
   rotate_left
   · intro w'
     go_simp
     try with_reducible rfl
   rotate_left
   · simp only [Act.put, sA, sB, sC]
     rfl
   refine pure_ (i := 1) (N := some 13) (v := ?_) (a' := ?_) #[true,true,false,false,false,false,false,false,false,false,false,false,false,false,false,false,false] rfl rfl (by kernel_rfl) (fun _ _ _ h => h) (Or.inl ⟨by rfl, ?_⟩) ?_ ?_
   rotate_left
   · intro w'
     go_simp
     try with_reducible rfl
   rotate_left
   · simp only [Act.put, sA, sB, sC]
     rfl
   refine pure_ (i := 2) (N := some 14) (v := ?_) (a' := ?_) #[true,true,true,false,false,false,false,false,false,false,false,false,false,false,false,false,false] rfl rfl (by kernel_rfl) (fun _ _ _ h => h) (Or.inl ⟨by rfl, ?_⟩) ?_ ?_
   rotate_left
   · intro w'
     go_simp
     try with_reducible rfl
   rotate_left
   · simp only [Act.put, sA, sB, sC]
     rfl
   refine take_ (i := 3) (N := some 15) (v := ?_) (a' := ?_) #[true,true,true,true,false,false,false,false,false,false,false,false,false,false,false,false,false] rfl rfl (by kernel_rfl) (fun _ _ _ h => h) (Or.inl ⟨by rfl, ?_⟩) hHeld ?_ ?_
   rotate_left
   · rintro w' ⟨hc0, hc1, hc2⟩
     go_simp
     try with_reducible rfl
   rotate_left
   · simp only [Act.put, sA, sB, sC]
     rfl
   refine pure_ (i := 4) (N := some 16) (v := ?_) (a' := ?_) #[true,true,true,true,true,false,false,false,false,false,false,false,false,false,false,false,false] rfl rfl (by kernel_rfl) (fun _ _ _ h => h) (Or.inl ⟨by rfl, ?_⟩) ?_ ?_
   rotate_left
   · intro w'
     go_simp
     try with_reducible rfl
   rotate_left
   · simp only [Act.put, sA, sB, sC]
     rfl
   refine pure_ (i := 5) (N := some 17) (v := ?_) (a' := ?_) #[true,true,true,true,true,true,false,false,false,false,false,false,false,false,false,false,false] rfl rfl (by kernel_rfl) (fun _ _ _ h => h) (Or.inl ⟨by rfl, ?_⟩) ?_ ?_
   rotate_left
   · intro w'
     go_simp
     try with_reducible rfl
   rotate_left
   · simp only [Act.put, sA, sB, sC]
     rfl
   refine pure_ (i := 6) (N := some 18) (v := ?_) (a' := ?_) #[true,true,true,true,true,true,true,false,false,false,false,false,false,false,false,false,false] rfl rfl (by kernel_rfl) (fun _ _ _ h => h) (Or.inl ⟨by rfl, ?_⟩) ?_ ?_
   rotate_left
   · intro w'
     go_simp
     try with_reducible rfl
   rotate_left
   · simp only [Act.put, sA, sB, sC]
     rfl
   refine take_ (i := 7) (N := some 19) (v := ?_) (a' := ?_) #[true,true,true,true,true,true,true,true,false,false,false,false,false,false,false,false,false] rfl rfl (by kernel_rfl) (fun _ _ _ h => h) (Or.inl ⟨by rfl, ?_⟩) hHeld ?_ ?_
   rotate_left
   · rintro w' ⟨hc0, hc1, hc2⟩
     go_simp
     try with_reducible rfl
   rotate_left
   · simp only [Act.put, sA, sB, sC]
     rfl
   refine pure_ (i := 8) (N := some 20) (v := ?_) (a' := ?_) #[true,true,true,true,true,true,true,true,true,false,false,false,false,false,false,false,false] rfl rfl (by kernel_rfl) (fun _ _ _ h => h) (Or.inl ⟨by rfl, ?_⟩) ?_ ?_
   rotate_left
   · intro w'
     go_simp
     try with_reducible rfl
   rotate_left
   · simp only [Act.put, sA, sB, sC]
     rfl
   refine one_ (i := 9) (N := some 21) #[true,true,true,true,true,true,true,true,true,true,false,false,false,false,false,false,false] rfl rfl (by kernel_rfl) (by decide) (fun K hK => ?_)
   go_simp
   refine (rtxt s i _ HS.out.1 HS.out.2 HT.out).mono ?_; rintro e w1 ⟨rfl, hw1⟩; replace HC := lbC HC hw1; replace HO := lbO HO hw1; clear hw1
   refine hK.out _ _ ?_ (fun hHeld => ?_)
   · exact HC.out.box
   clear hK K
   try simp only [Act.put, sA, sB, sC]
   refine pure_ (i := 10) (N := some 11) (v := ?_) (a' := ?_) #[true,true,true,true,true,true,true,true,true,true,true,false,false,false,false,false,false] rfl rfl (by kernel_rfl) (fun _ _ _ h => h) (Or.inl ⟨by rfl, ?_⟩) ?_ ?_
   rotate_left
   · intro w'
     go_simp
     try with_reducible rfl
   rotate_left
   · simp only [Act.put, sA, sB, sC]
     rfl
   refine pure_ (i := 11) (N := some 22) (v := ?_) (a' := ?_) #[true,true,true,true,true,true,true,true,true,true,true,true,false,false,false,false,false] rfl rfl (by kernel_rfl) (fun _ _ _ h => h) (Or.inl ⟨by rfl, ?_⟩) ?_ ?_
   rotate_left
   · intro w'
     go_simp
     try with_reducible rfl
   rotate_left
   · simp only [Act.put, sA, sB, sC]
     rfl
   refine pure_ (i := 12) (N := some 23) (v := ?_) (a' := ?_) #[true,true,true,true,true,true,true,true,true,true,true,true,true,false,false,false,false] rfl rfl (by kernel_rfl) (fun _ _ _ h => h) (Or.inl ⟨by rfl, ?_⟩) ?_ ?_
   rotate_left
   · intro w'
     go_simp
     try with_reducible rfl
   rotate_left
   · simp only [Act.put, sA, sB, sC]
     rfl
   refine pure_ (i := 13) (N := some 24) (v := ?_) (a' := ?_) #[true,true,true,true,true,true,true,true,true,true,true,true,true,true,false,false,false] rfl rfl (by kernel_rfl) (fun _ _ _ h => h) (Or.inl ⟨by rfl, ?_⟩) ?_ ?_
   rotate_left
   · intro w'
     go_simp
     try with_reducible rfl
   rotate_left
   · simp only [Act.put, sA, sB, sC]
     rfl
   refine pure_ (i := 14) (N := some 3) (v := ?_) (a' := ?_) #[true,true,true,true,true,true,true,true,true,true,true,true,true,true,true,false,false] rfl rfl (by kernel_rfl) (fun _ _ _ h => h) (Or.inl ⟨by rfl, ?_⟩) ?_ ?_
   rotate_left
   · intro w'
     go_simp
     try with_reducible rfl
   rotate_left
   · simp only [Act.put, sA, sB, sC]
     rfl
   refine pure_ (i := 15) (N := some 4) (v := ?_) (a' := ?_) #[true,true,true,true,true,true,true,true,true,true,true,true,true,true,true,true,false] rfl rfl (by kernel_rfl) (fun _ _ _ h => h) (Or.inl ⟨by rfl, ?_⟩) ?_ ?_
   rotate_left
   · intro w'
     go_simp
     try with_reducible rfl
   rotate_left
   · simp only [Act.put, sA, sB, sC]
     rfl
   refine pure_ (i := 16) (N := some 5) (v := ?_) (a' := ?_) #[true,true,true,true,true,true,true,true,true,true,true,true,true,true,true,true,true] rfl rfl (by kernel_rfl) (fun _ _ _ h => h) (Or.inl ⟨by rfl, ?_⟩) ?_ ?_
   rotate_left
   · intro w'
     go_simp
     try with_reducible rfl
   rotate_left
   · simp only [Act.put, sA, sB, sC]
     rfl
   refine done_ (by kernel_rfl) ?_
   clear hHeld
   obtain ⟨hc0, hc1, hc2⟩ := HC.out.box
   have yf := HC.out.free
   go_wp2_with fail
   have h1 := HC.out.set1 (i + n)
   have h2 := h1.set2 m
   have hx := (((HO.out.setCell (p := ⟨B, 1, none⟩) rfl (.int .i64 ((i + n : Nat) : Int))).setCell (p := ⟨B, 2, none⟩) rfl (.int .i64 (m : Int))))
   go_ret
   unfold GotX
   rw [HR.out]
   first | exact ⟨rfl, h2, hx⟩ | exact ⟨rfl, by push_cast at h2; exact h2, by push_cast at hx; exact hx⟩
 · have HR : Aside0 (txtR s (i, e) = (⟨#[]⟩, (i, e))) := ⟨by unfold txtR; rw [if_neg he]⟩
   have j1 : ((e : Int) == 0) = false := beq_eq_false_iff_ne.2 (by omega)
   have j2 : ((e : Int) != 0) = true := by rw [bne, j1]; rfl
   have j3 : (e == 0) = false := beq_eq_false_iff_ne.2 he
   clear hb hs hi he
   go_enter Try.func53, Try.ntmps53
   obtain ⟨hc0, hc1, hc2⟩ := HC.out.box
   go_wp2
   go_ret
   unfold GotX
   rw [HR.out]
   exact ⟨rfl, HC.out, HO.out⟩
/-- a hard state's box -/
def BlkH (x y z : Int) (B : Nat) (W : World) : Prop := W.heap[B]? = some (.cells #[.int .i64 x, .int .i64 y, .int .i64 z] 24 (0, 0))
def BoxH (x y z : Int) (B : Nat) (W : World) : Prop := W.cell? ⟨B, 0, none⟩ = some (.int .i64 x) ∧ W.cell? ⟨B, 1, none⟩ = some (.int .i64 y) ∧ W.cell? ⟨B, 2, none⟩ = some (.int .i64 z)
theorem BlkH.new (x y z : Int) (w : World) : BlkH x y z w.heap.size (w.alloc (.cells #[.int .i64 x, .int .i64 y, .int .i64 z] 24)) := by
  unfold BlkH; exact World.alloc_heap_new w _
theorem BlkH.only {U : Nat → Prop} {x y z : Int} {B : Nat} {W W' : World} (h : BlkH x y z B W) (ho : Only U W W') (hU : ¬ U B) : BlkH x y z B W' := (ho.block B (Array.getElem?_eq_some_iff.1 h).1 hU).trans h
theorem BlkH.box {x y z : Int} {B : Nat} {W : World} (h : BlkH x y z B W) : BoxH x y z B W := by
  unfold BlkH at h
  refine ⟨?_, ?_, ?_⟩ <;> simp [World.cell?, h]
theorem BlkH.free {x y z : Int} {B : Nat} {W : World} (h : BlkH x y z B W) (o : Nat) : W.frozen? ⟨B, o, none⟩ = false := by
  unfold BlkH at h
  simp [World.frozen?, h]
theorem cun (s : ByteArray) (i e B : Nat) (w : World) (hb : BlkC 72 s i e B w) (hs : s.size ≤ 140737488351232) (hi : i ≤ s.size) {a : Nat} {b c : Nat} (h : numR s (i, e) = (a, (b, c))) : Calls Try.prog 42 #[.pointer (some ⟨B, 0, none⟩)] w fun r w' => r = .returned (.int .i64 (a : Int)) ∧ BlkC 72 s b c B w' ∧ Only (fun q => q = B) w w' ∧ b ≤ s.size := by
  refine (cu_Num s i e B w hb hs hi).mono fun r w' hh => ?_
  unfold GotN at hh
  have hk := numR_ok s (st := (i, e)) hi
  rw [h] at hh hk
  exact ⟨hh.1, hh.2.1, hh.2.2, hk.2⟩
theorem cux (s : ByteArray) (i e B : Nat) (w : World) (hb : BlkC 72 s i e B w) (hs : s.size ≤ 140737488351232) (hi : i ≤ s.size) {a : ByteArray} {b c : Nat} (h : txtR s (i, e) = (a, (b, c))) : Calls Try.prog 53 #[.pointer (some ⟨B, 0, none⟩)] w fun r w' => r = .returned (.string a) ∧ BlkC 72 s b c B w' ∧ Only (fun q => q = B) w w' ∧ b ≤ s.size := by
  refine (cu_Text s i e B w hb hs hi).mono fun r w' hh => ?_
  unfold GotX at hh
  have hk := txtR_ok s (st := (i, e)) hi
  rw [h] at hh hk
  exact ⟨hh.1, hh.2.1, hh.2.2, hk⟩
set_option maxHeartbeats 4000000 in
set_option maxRecDepth 100000 in
theorem cu_must (s : ByteArray) (i e B : Nat) (w : World) (hb : BlkC 72 s i e B w) (hs : s.size ≤ 140737488351232) (hi : i ≤ s.size) (ok : Bool) :
  Calls Try.prog 43 #[.pointer (some ⟨B, 0, none⟩), .bool ok] w fun r w' => (∃ v, r = .returned v) ∧ BlkC 72 s (mustR ok (i, e)).1 (mustR ok (i, e)).2 B w' ∧ Only (fun q => q = B) w w' ∧ (mustR ok (i, e)).1 ≤ s.size := by
 have HC := Aside0.mk hb
 have HS := Aside0.mk hs
 have HI := Aside0.mk hi
 have HO : Aside0 (Only (fun q => q = B) w w) := ⟨Only.refl _ _⟩
 by_cases h0 : e = 0
 · rcases ok with _ | _
   · have j1 : ((e : Int) == 0) = true := beq_iff_eq.2 (by omega)
     have j2 : (e == 0) = true := beq_iff_eq.2 h0
     have HR : Aside0 (mustR false (i, e) = (i, 11)) := ⟨by unfold mustR; rw [if_pos ⟨h0, rfl⟩]⟩
     clear hb hs hi
     go_enter Try.func43, Try.ntmps43
     obtain ⟨hc0, hc1, hc2⟩ := HC.out.box
     have yf := HC.out.free
     go_wp2_with fail
     have h2 := HC.out.set2 11
     have hx := HO.out.setCell (p := ⟨B, 2, none⟩) rfl (.int .i64 ((11 : Nat) : Int))
     first | go_end0 | refine bodyPost_ret (results_none rfl _ _ _) rfl ?_
     rw [HR.out]
     exact ⟨⟨_, rfl⟩, h2, hx, HI.out⟩
   · have j1 : ((e : Int) == 0) = true := beq_iff_eq.2 (by omega)
     have j2 : (e == 0) = true := beq_iff_eq.2 h0
     have HR : Aside0 (mustR true (i, e) = (i, e)) := ⟨by unfold mustR; rw [if_neg (fun h => by cases h.2)]⟩
     clear hb hs hi
     go_enter Try.func43, Try.ntmps43
     obtain ⟨hc0, hc1, hc2⟩ := HC.out.box
     go_wp2_with fail
     first | go_end0 | refine bodyPost_ret (results_none rfl _ _ _) rfl ?_
     rw [HR.out]
     exact ⟨⟨_, rfl⟩, HC.out, HO.out, HI.out⟩
 · have j1 : ((e : Int) == 0) = false := beq_eq_false_iff_ne.2 (by omega)
   have j2 : (e == 0) = false := beq_eq_false_iff_ne.2 h0
   have HR : Aside0 (mustR ok (i, e) = (i, e)) := ⟨by unfold mustR; rw [if_neg (fun h => h0 h.1)]⟩
   clear hb hs hi
   go_enter Try.func43, Try.ntmps43
   obtain ⟨hc0, hc1, hc2⟩ := HC.out.box
   go_wp2_with fail
   first | go_end0 | refine bodyPost_ret (results_none rfl _ _ _) rfl ?_
   rw [HR.out]
   exact ⟨⟨_, rfl⟩, HC.out, HO.out, HI.out⟩
set_option maxHeartbeats 4000000 in
set_option maxRecDepth 100000 in
theorem cu_hard (s : ByteArray) (i e B : Nat) (w : World) (hb : BlkC 72 s i e B w) (hs : s.size ≤ 140737488351232) (hi : i ≤ s.size) :
  Calls Try.prog 45 #[.pointer (some ⟨B, 0, none⟩)] w fun r w' => r = .returned (.agg #[.int .i64 ((hardR s (i, e)).1.1 : Int), .int .i64 ((hardR s (i, e)).1.2.1 : Int), .int .i64 ((hardR s (i, e)).1.2.2 : Int)]) ∧ BlkC 72 s (hardR s (i, e)).2.1 (hardR s (i, e)).2.2 B w' ∧ Only (fun q => q = B) w w' ∧ (hardR s (i, e)).2.1 ≤ s.size := by
 have HC := Aside0.mk hb
 have HS := Aside0.mk hs
 have HI := Aside0.mk hi
 have HO : Aside0 (Only (fun q => q = B) w w) := ⟨Only.refl _ _⟩
 obtain ⟨a1, b1, c1, ha1⟩ : ∃ a b c, numR s (i, e) = (a, (b, c)) := ⟨_, _, _, rfl⟩
 have Ea1 := Aside0.mk ha1
 clear ha1
 obtain ⟨a2, b2, c2, ha2⟩ : ∃ a b c, numR s (b1, c1) = (a, (b, c)) := ⟨_, _, _, rfl⟩
 have Ea2 := Aside0.mk ha2
 clear ha2
 obtain ⟨a3, b3, c3, ha3⟩ : ∃ a b c, numR s (b2, c2) = (a, (b, c)) := ⟨_, _, _, rfl⟩
 have Ea3 := Aside0.mk ha3
 clear ha3
 have HR : Aside0 (hardR s (i, e) = ((a1, a2, a3), (b3, c3))) := ⟨by unfold hardR; rw [Ea1.out]; dsimp only; rw [Ea2.out]; dsimp only; rw [Ea3.out]⟩
 clear hb hs hi
 go_enter Try.func45, Try.ntmps45
 obtain ⟨C1, hC1⟩ : ∃ C, (match Try.f45.body with | some (.seq _ c) => c | _ => .skip) = C := ⟨_, rfl⟩
 have HC1 := Aside0.mk hC1
 simp only [Try.f45] at hC1
 rw [hC1]
 clear hC1
 obtain ⟨n2, hn2⟩ : ∃ n, w.heap.size = n := ⟨_, rfl⟩
 have lB : B < n2 := by rw [← hn2]; exact HC.out.lt
 have HLW : Aside0 (w.heap.size ≤ n2) := ⟨Nat.le_of_eq hn2⟩
 have hbw := BlkH.new 0 0 0 w
 rw [hn2] at hbw
 go_wp2
 replace HC := laC HC (.cells #[.int .i64 0, .int .i64 0, .int .i64 0] 24)
 replace HO := laO HO (.cells #[.int .i64 0, .int .i64 0, .int .i64 0] 24)
 have HH : Aside0 (BlkH 0 0 0 n2 (w.alloc (.cells #[.int .i64 0, .int .i64 0, .int .i64 0] 24))) := ⟨hbw⟩
 obtain ⟨W0, hW0⟩ : ∃ W, w.alloc (.cells #[.int .i64 0, .int .i64 0, .int .i64 0] 24) = W := ⟨_, rfl⟩
 rw [hW0] at HC HO HH ⊢
 clear hW0
 clear hn2 hbw
 obtain ⟨hc0, hc1, hc2⟩ := HC.out.box
 obtain ⟨hh0, hh1, hh2⟩ := HH.out.box
 have hC1 := HC1.out
 simp only [Try.f45] at hC1
 subst hC1
 clear HC1
 go_wp2_with fail
 go_at_call 42
 refine (cun s i e B _ HC.out HS.out HI.out Ea1.out).mono ?_
 rintro r w1 ⟨rfl, hc, ho, hi⟩
 replace HC := Aside0.mk hc
 replace HI := Aside0.mk hi
 replace HO := Aside0.mk (HO.out.trans ho)
 replace HH := Aside0.mk (BlkH.only HH.out ho (fun h => by have h2 : n2 = B := h; omega))
 clear hc ho hi
 clear hc0 hc1 hc2 hh0 hh1 hh2
 obtain ⟨hc0, hc1, hc2⟩ := HC.out.box
 obtain ⟨hh0, hh1, hh2⟩ := HH.out.box
 go_wp2_with fail
 go_at_call 42
 refine (cun s b1 c1 B _ HC.out HS.out HI.out Ea2.out).mono ?_
 rintro r w2 ⟨rfl, hc, ho, hi⟩
 replace HC := Aside0.mk hc
 replace HI := Aside0.mk hi
 replace HO := Aside0.mk (HO.out.trans ho)
 replace HH := Aside0.mk (BlkH.only HH.out ho (fun h => by have h2 : n2 = B := h; omega))
 clear hc ho hi
 clear hc0 hc1 hc2 hh0 hh1 hh2
 obtain ⟨hc0, hc1, hc2⟩ := HC.out.box
 obtain ⟨hh0, hh1, hh2⟩ := HH.out.box
 go_wp2_with fail
 go_at_call 42
 refine (cun s b2 c2 B _ HC.out HS.out HI.out Ea3.out).mono ?_
 rintro r w3 ⟨rfl, hc, ho, hi⟩
 replace HC := Aside0.mk hc
 replace HI := Aside0.mk hi
 replace HO := Aside0.mk (HO.out.trans ho)
 replace HH := Aside0.mk (BlkH.only HH.out ho (fun h => by have h2 : n2 = B := h; omega))
 clear hc ho hi
 clear hc0 hc1 hc2 hh0 hh1 hh2
 obtain ⟨hc0, hc1, hc2⟩ := HC.out.box
 obtain ⟨hh0, hh1, hh2⟩ := HH.out.box
 have yf := HH.out.free
 go_wp2_with fail
 have hx : Only (fun q => q = n2) w3 (((w3.setCell ⟨n2, 0, none⟩ (.int .i64 (a1 : Int))).setCell ⟨n2, 1, none⟩ (.int .i64 (a2 : Int))).setCell ⟨n2, 2, none⟩ (.int .i64 (a3 : Int))) := by (iterate 3 (refine Only.setCell (U := fun q => q = n2) ?_ rfl _)); exact Only.refl _ _
 have hb : BlkH (a1 : Int) (a2 : Int) (a3 : Int) n2 (((w3.setCell ⟨n2, 0, none⟩ (.int .i64 (a1 : Int))).setCell ⟨n2, 1, none⟩ (.int .i64 (a2 : Int))).setCell ⟨n2, 2, none⟩ (.int .i64 (a3 : Int))) := by have hq := HH.out; unfold BlkH at hq ⊢; simp [World.setCell, Array.getElem?_modify, hq]
 have hc := HC.out.only hx (fun h => by have h2 : B = n2 := h; omega)
 have ho2 := only_new HO.out hx HLW.out
 obtain ⟨r0, r1, r2⟩ := hb.box
 refine bodyPost_ret (v := .agg #[.int .i64 (a1 : Int), .int .i64 (a2 : Int), .int .i64 (a3 : Int)]) (by simp [results, Try.results45, go_sem, r0, r1, r2]) rfl ?_
 rw [HR.out]
 exact ⟨rfl, hc, ho2, HI.out⟩
theorem cumust (s : ByteArray) (i e B : Nat) (w : World) (hb : BlkC 72 s i e B w) (hs : s.size ≤ 140737488351232) (hi : i ≤ s.size) (ok : Bool) {b c : Nat} (h : mustR ok (i, e) = (b, c)) : Calls Try.prog 43 #[.pointer (some ⟨B, 0, none⟩), .bool ok] w fun r w' => (∃ v, r = .returned v) ∧ BlkC 72 s b c B w' ∧ Only (fun q => q = B) w w' ∧ b ≤ s.size := by
  have := cu_must s i e B w hb hs hi ok
  rw [h] at this; exact this
set_option maxHeartbeats 4000000 in
set_option maxRecDepth 100000 in
theorem cu_close (s : ByteArray) (i e B : Nat) (w : World) (hb : BlkC 72 s i e B w) (hs : s.size ≤ 140737488351232) (hi : i ≤ s.size) :
  Calls Try.prog 44 #[.pointer (some ⟨B, 0, none⟩)] w fun r w' => ∃ A c, r = .returned (.slice A (closeR s (i, e)).1.length c) ∧ Rd w' A c (closeR s (i, e)).1 ∧ BlkC 72 s (closeR s (i, e)).2.1 (closeR s (i, e)).2.2 B w' ∧ Only (fun q => q = B) w w' ∧ (closeR s (i, e)).2.1 ≤ s.size := by
 have HC := Aside0.mk hb
 have HS := Aside0.mk hs
 have HI := Aside0.mk hi
 have HO : Aside0 (Only (fun q => q = B) w w) := ⟨Only.refl _ _⟩
 obtain ⟨a1, b1, c1, ha1⟩ : ∃ a b c, numR s (i, e) = (a, (b, c)) := ⟨_, _, _, rfl⟩
 have Ea1 := Aside0.mk ha1
 clear ha1
 obtain ⟨ok, hok⟩ : ∃ ok, decide ((a1 : Int) ≤ 6) = ok := ⟨_, rfl⟩
 have HOK := Aside0.mk hok
 obtain ⟨b3, c3, h3⟩ : ∃ b c, mustR ok (b1, c1) = (b, c) := ⟨_, _, rfl⟩
 have E3 := Aside0.mk h3
 clear h3
 obtain ⟨a2, b2, c2, ha2⟩ : ∃ a b c, numR s (b3, c3) = (a, (b, c)) := ⟨_, _, _, rfl⟩
 have Ea2 := Aside0.mk ha2
 clear ha2
 have HR : Aside0 (closeR s (i, e) = entsR s false (a2 : Int) a1 0 (b2, c2) []) := ⟨by unfold closeR upR; rw [Ea1.out]; dsimp only; rw [HOK.out, E3.out, Ea2.out]⟩
 have HN6 : Aside0 (c2 = 0 → a1 ≤ 6) := ⟨fun h => by have h1 : c3 = 0 := by { have h2 := numR_e (s := s) (st := (b3, c3)) (by rw [Ea2.out]; exact h); exact h2 }; have h4 := E3.out; unfold mustR at h4; rw [← HOK.out] at h4; split at h4; (injection h4 with h5 h6; omega); rename_i h7; injection h4 with h5 h6; apply Classical.byContradiction; intro h8; exact h7 ⟨by show c1 = 0; omega, decide_eq_false (by omega)⟩⟩
 clear hok hb hs hi
 obtain ⟨n0, hn0⟩ : ∃ x, w.heap.size = x := ⟨_, rfl⟩
 have HN0 : Aside0 (w.heap.size ≤ n0 ∧ B < n0 ∧ n0 ≤ w.heap.size) := ⟨by rw [← hn0]; exact ⟨Nat.le_refl _, HC.out.lt, Nat.le_refl _⟩⟩
 clear hn0
 go_enter Try.func44, Try.ntmps44
 obtain ⟨hc0, hc1, hc2⟩ := HC.out.box
 go_wp2_with fail
 go_at_call 42
 refine (cun s i e B _ HC.out HS.out HI.out Ea1.out).mono ?_
 rintro r w1 ⟨rfl, hc, ho, hi⟩
 replace HC := Aside0.mk hc
 replace HI := Aside0.mk hi
 replace HO := Aside0.mk (HO.out.trans ho)
 clear hc ho hi
 clear hc0 hc1 hc2
 obtain ⟨hc0, hc1, hc2⟩ := HC.out.box
 have hok := HOK.out
 go_wp2_with fail
 go_at_call 43
 refine (cumust s b1 c1 B _ HC.out HS.out HI.out ok E3.out).mono ?_
 rintro r w2 ⟨⟨v, rfl⟩, hc, ho, hi⟩
 replace HC := Aside0.mk hc
 replace HI := Aside0.mk hi
 replace HO := Aside0.mk (HO.out.trans ho)
 clear hc ho hi
 clear hc0 hc1 hc2
 obtain ⟨hc0, hc1, hc2⟩ := HC.out.box
 clear hok
 go_wp2_with fail
 go_at_call 42
 refine (cun s b3 c3 B _ HC.out HS.out HI.out Ea2.out).mono ?_
 rintro r w3 ⟨rfl, hc, ho, hi⟩
 replace HC := Aside0.mk hc
 replace HI := Aside0.mk hi
 replace HO := Aside0.mk (HO.out.trans ho)
 clear hc ho hi
 clear hc0 hc1 hc2
 obtain ⟨hc0, hc1, hc2⟩ := HC.out.box
 have HI1 : Aside0 (EntI 72 false (a2 : Int) s b2 c2 B a1 n0 w 0 (.slice none 0 0) w3) := ⟨⟨b2, c2, [], rfl, HC.out, HO.out, HI.out, OwnE.nil _ _, rfl, by rcases Nat.eq_zero_or_pos c2 with h | h; exact .inl h; exact .inr ⟨by omega, rfl⟩⟩⟩
 clear hc0 hc1 hc2
 clear HC HO HI
 go_wp2_with fail
 go_loopw [5, 6] (fun v u wr => ∃ k : Nat, k ≤ a1 ∧ u = .int .i64 (k : Int) ∧ Aside0 (EntI 72 false (a2 : Int) s b2 c2 B a1 n0 w k v wr)) (fun _ u _ => a1 - (intOf u).toNat)
 case atStart => exact ⟨0, Nat.zero_le _, rfl, HI1⟩
 case round =>
   clear HI1
   obtain ⟨k, hk, rfl, HI0⟩ := hrel
   obtain ⟨i', e', acc, hE, hc, ho, hi, hw, hl, hee⟩ := HI0.out
   have HC := Aside0.mk hc
   have HO := Aside0.mk ho
   have HI := Aside0.mk hi
   have HW := Aside0.mk hw
   have HEQ := Aside0.mk hE
   have hn0 := HN0.out
   clear HI0 hc ho hi hw hE
   by_cases hlt : k < a1
   · by_cases he : e' = 0
     · obtain rfl : e' = 0 := he
       have hez : c2 = 0 := by omega
       have hn6 := HN6.out hez
       have d1 : decide ((k : Int) < (a1 : Int)) = true := decide_eq_true (by omega)
       have d2 : decide (k < a1) = true := decide_eq_true hlt
       have hk4 : IntKind.i64.wrap ((k : Int) + 1) = (k : Int) + 1 := by rw [i64_w]; unfold wrap64; omega
       obtain ⟨x0, hx0⟩ : ∃ x, wrap64 ((a2 : Int) + (k : Int)) = x := ⟨_, rfl⟩
       have HX0 := Aside0.mk hx0
       have hfw : IntKind.i64.wrap ((a2 : Int) + (k : Int)) = x0 := by rw [i64_w]; exact hx0
       clear hx0
       obtain ⟨p1, q1, r1, hp1⟩ : ∃ a b c, numR s (i', 0) = (a, (b, c)) := ⟨_, _, _, rfl⟩
       have Ep1 := Aside0.mk hp1
       clear hp1
       obtain ⟨p2, q2, r2, hp2⟩ : ∃ a b c, txtR s (q1, r1) = (a, (b, c)) := ⟨_, _, _, rfl⟩
       have Ep2 := Aside0.mk hp2
       clear hp2
       have HST : Aside0 (entsR s false (a2 : Int) (a1 - k) k (i', 0) acc = entsR s false (a2 : Int) (a1 - (k + 1)) (k + 1) (q2, r2) (acc ++ [⟨x0, (p1 : Int), p2⟩])) := ⟨by rw [show a1 - k = (a1 - (k + 1)) + 1 by omega, entsR, if_pos rfl]; simp only [Bool.false_eq_true, if_false]; rw [Ep1.out]; dsimp only; rw [Ep2.out, HX0.out]⟩
       have HOB : Aside0 (∀ q, u5.ownBlock = some q → n0 ≤ q ∧ q < wr.heap.size) := ⟨fun q hq => by have h1 := own_block HW.out hq; exact ⟨h1.1, h1.2.1⟩⟩
       obtain ⟨hc0, hc1, hc2⟩ := HC.out.box
       go_wp2_with fail
       go_at_call 42
       refine (cun s i' 0 B _ HC.out HS.out HI.out Ep1.out).mono ?_
       rintro r w11 ⟨rfl, hc, ho, hi⟩
       replace HC := Aside0.mk hc
       replace HI := Aside0.mk hi
       replace HO := Aside0.mk (HO.out.trans ho)
       replace HW := Aside0.mk (OwnE.only' HW.out ho (fun q hq h => by have h2 : q = B := h; have := HOB.out q hq; have := HN0.out; omega))
       clear hc ho hi
       clear hc0 hc1 hc2
       obtain ⟨hc0, hc1, hc2⟩ := HC.out.box
       go_wp2_with fail
       go_at_call 53
       refine (cux s q1 r1 B _ HC.out HS.out HI.out Ep2.out).mono ?_
       rintro r w12 ⟨rfl, hc, ho, hi⟩
       replace HC := Aside0.mk hc
       replace HI := Aside0.mk hi
       replace HO := Aside0.mk (HO.out.trans ho)
       replace HW := Aside0.mk (OwnE.only' HW.out ho (fun q hq h => by have h2 : q = B := h; have := HOB.out q hq; have := HN0.out; omega))
       clear hc ho hi
       clear hc0 hc1 hc2
       obtain ⟨hc0, hc1, hc2⟩ := HC.out.box
       obtain ⟨m, hm⟩ : ∃ x, w12.heap.size = x := ⟨_, rfl⟩
       have HMm := Aside0.mk hm
       have HNM : Aside0 (n0 ≤ m) := ⟨by rw [← HMm.out]; have := HO.out.size; omega⟩
       go_wp2_with (at_builtin; refine wpList_append_ent (l := acc) (m := [⟨x0, (p1 : Int), p2⟩]) (b := n0) rfl (.tmp 30) (.tmp 38) rfl rfl (HW.out.alloc _) rfl (by have hq := Rd.one w12 ⟨x0, (p1 : Int), p2⟩; rw [HMm.out] at hq; exact hq) (by have h2 := HN6.out hez; show acc.length + 1 ≤ _; omega) (by rw [World.size_alloc, HMm.out]; have := HNM.out; omega) ?_; intro v6 w6 ho6 hgr ha6; have hon : Only (fun q => u5.ownBlock = some q) (w12.alloc (.cells #[.int .i64 x0, .int .i64 (p1 : Int), .string p2] 28)) w6 := (Only.refl _ _).of_grown hgr (fun q hq _ => hq); have HC6 := Aside0.mk ((HC.out.alloc (.cells #[.int .i64 x0, .int .i64 (p1 : Int), .string p2] 28)).only hon (fun h => by have := (HOB.out _ h).1; omega)); have HO6 := Aside0.mk (only_news (HO.out.alloc (.cells #[.int .i64 x0, .int .i64 (p1 : Int), .string p2] 28)) hon (fun q h => by have := (HOB.out _ h).1; have := HN0.out; omega)); have HW6 := Aside0.mk ho6; clear ho6 hgr ha6 hon)
       go_roundw
       case rel => exact ⟨k + 1, by omega, by go_num, ⟨q2, r2, acc ++ [⟨x0, (p1 : Int), p2⟩], HEQ.out.trans HST.out, HC6.out, HO6.out, HI.out, HW6.out, by rw [List.length_append]; show acc.length + 1 = _; omega, .inl hez⟩⟩
       case measure => simp [intOf]; omega
     · have d1 : decide ((k : Int) < (a1 : Int)) = true := decide_eq_true (by omega)
       have d2 : decide (k < a1) = true := decide_eq_true (by omega)
       have j1 : ((e' : Int) == 0) = false := beq_eq_false_iff_ne.2 (by omega)
       have j2 : (e' == 0) = false := beq_eq_false_iff_ne.2 he
       obtain ⟨hc0, hc1, hc2⟩ := HC.out.box
       have hlen : acc.length ≤ 4398046511104 := by rcases hee with h | h; (have := HN6.out h; omega); omega
       obtain ⟨A6, c6, hv6, hrd6, _⟩ := HW.out.rd' hlen
       subst hv6
       have HRD := Aside0.mk hrd6
       clear hrd6
       go_wp2_with fail
       go_ret
       rw [HR.out, HEQ.out, entsR_stop _ _ _ _ _ _ _ _ (Or.inr he)]
       exact ⟨A6, c6, rfl, HRD.out, HC.out, HO.out, HI.out⟩
   · have d1 : decide ((k : Int) < (a1 : Int)) = false := decide_eq_false (by omega)
     have d2 : decide (k < a1) = false := decide_eq_false (by omega)
     obtain ⟨hc0, hc1, hc2⟩ := HC.out.box
     have hlen : acc.length ≤ 4398046511104 := by rcases hee with h | h; (have := HN6.out h; omega); omega
     obtain ⟨A6, c6, hv6, hrd6, _⟩ := HW.out.rd' hlen
     subst hv6
     have HRD := Aside0.mk hrd6
     clear hrd6
     go_wp2_with fail
     go_ret
     rw [HR.out, HEQ.out, entsR_stop _ _ _ _ _ _ _ _ (Or.inl (by omega))]
     exact ⟨A6, c6, rfl, HRD.out, HC.out, HO.out, HI.out⟩
/-- what holds while a part's entries are read -/
def FwdI (p : Prt) (s : ByteArray) (i e B nP n n0 : Nat) (w : World) (k : Nat) (wr : World) : Prop :=
  ∃ i' e' acc A c, entsR s true 0 n 0 (i, e) [] = entsR s true 0 (n - k) k (i', e') acc ∧ BlkC 72 s i' e' B wr ∧ BlkP (Prt.ents p acc) A c nP wr ∧ Only (fun q => q = B ∨ q = nP) w wr ∧ i' ≤ s.size ∧ OwnE wr n0 (.slice A acc.length c) acc ∧ acc.length = k ∧ (e = 0 ∨ (e' ≠ 0 ∧ k = 0))
set_option maxHeartbeats 4000000 in
set_option maxRecDepth 100000 in
theorem cu_fwd_tail (p : Prt) (s : ByteArray) (i e B nP : Nat) (w W : World) (C : Code) (hC : (match Try.f46.body with | some (.seq _ (.seq _ (.seq _ (.seq _ (.seq _ c))))) => c | _ => .skip) = C) (u2 u3 u4 u5 u6 u7 u8 u9 u10 u11 u12 u13 u14 u15 u16 u17 u18 u19 u20 u21 u22 u23 u24 u25 u26 u27 u28 u29 u30 u31 u32 u33 u34 u35 u36 u37 u38 u39 u40 u41 u42 u43 u44 u45 u46 u47 u48 u49 u50 u51 u52 u53 u54 u55 u56 u57 u58 u59 u60 u61 u62 u63 u64 u65 u66 u67 u68 u69 u70 u71 u72 u73 u74 u75 u76 u77 u78 u79 u80 u81 u82 u83 u84 u85 : Value) (hb : BlkC 72 s i e B W) (hp : BlkP (Prt.ents p []) none 0 nP W) (ho : Only (fun q => q = B ∨ q = nP) w W) (hs : s.size ≤ 140737488351232) (hi : i ≤ s.size) (hne : B ≠ nP) (hlt : B < w.heap.size ∧ nP < w.heap.size) :
  C.wp Try.prog (bodyPost Try.prog Try.f46 (fun r w' => (∃ v, r = .returned v) ∧ ∃ A c, BlkP (Prt.ents p (entsR s true 0 (upR s 6 (i, e)).1 0 (upR s 6 (i, e)).2 []).1) A c nP w' ∧ Rd w' A c (entsR s true 0 (upR s 6 (i, e)).1 0 (upR s 6 (i, e)).2 []).1 ∧ BlkC 72 s (entsR s true 0 (upR s 6 (i, e)).1 0 (upR s 6 (i, e)).2 []).2.1 (entsR s true 0 (upR s 6 (i, e)).1 0 (upR s 6 (i, e)).2 []).2.2 B w' ∧ Only (fun q => q = B ∨ q = nP) w w' ∧ (entsR s true 0 (upR s 6 (i, e)).1 0 (upR s 6 (i, e)).2 []).2.1 ≤ s.size)) { tmps := #[.pointer (some ⟨B, 0, none⟩), .pointer (some ⟨nP, 0, none⟩), u2, u3, u4, u5, u6, u7, u8, u9, u10, u11, u12, u13, u14, u15, u16, u17, u18, u19, u20, u21, u22, u23, u24, u25, u26, u27, u28, u29, u30, u31, u32, u33, u34, u35, u36, u37, u38, u39, u40, u41, u42, u43, u44, u45, u46, u47, u48, u49, u50, u51, u52, u53, u54, u55, u56, u57, u58, u59, u60, u61, u62, u63, u64, u65, u66, u67, u68, u69, u70, u71, u72, u73, u74, u75, u76, u77, u78, u79, u80, u81, u82, u83, u84, u85], defers := [] } W := by
 have HC := Aside0.mk hb
 have HP := Aside0.mk hp
 have HO := Aside0.mk ho
 have HS := Aside0.mk hs
 have HI := Aside0.mk hi
 obtain ⟨n0, hn0⟩ : ∃ x, w.heap.size = x := ⟨_, rfl⟩
 have HN0 : Aside0 (w.heap.size ≤ n0 ∧ B < n0 ∧ n0 ≤ w.heap.size ∧ nP < n0 ∧ B ≠ nP) := ⟨by rw [← hn0]; exact ⟨Nat.le_refl _, hlt.1, Nat.le_refl _, hlt.2, hne⟩⟩
 obtain ⟨a1, b1, c1, ha1⟩ : ∃ a b c, numR s (i, e) = (a, (b, c)) := ⟨_, _, _, rfl⟩
 have Ea1 := Aside0.mk ha1
 clear ha1
 obtain ⟨ok, hok⟩ : ∃ ok, decide ((a1 : Int) ≤ 6) = ok := ⟨_, rfl⟩
 have HOK := Aside0.mk hok
 obtain ⟨b3, c3, h3⟩ : ∃ b c, mustR ok (b1, c1) = (b, c) := ⟨_, _, rfl⟩
 have E3 := Aside0.mk h3
 clear h3
 have HU : Aside0 (upR s 6 (i, e) = (a1, (b3, c3))) := ⟨by unfold upR; rw [Ea1.out]; dsimp only; rw [HOK.out, E3.out]⟩
 have HN6 : Aside0 (c3 = 0 → a1 ≤ 6) := ⟨fun h => by have h4 := E3.out; unfold mustR at h4; rw [← HOK.out] at h4; split at h4; (injection h4 with h5 h6; omega); rename_i h7; injection h4 with h5 h6; apply Classical.byContradiction; intro h8; exact h7 ⟨by show c1 = 0; omega, decide_eq_false (by omega)⟩⟩
 clear hok hb hp ho hs hi hn0 hne hlt
 simp only [Try.f46] at hC
 subst hC
 obtain ⟨hc0, hc1, hc2⟩ := HC.out.box
 obtain ⟨hp0, hp1, hp2, hp3, hp4, hp5, hp6, hp7, hp8, hp9⟩ := HP.out.box
 go_wp2_with fail
 go_at_call 42
 refine (cun s i e B _ HC.out HS.out HI.out Ea1.out).mono ?_
 rintro r w1 ⟨rfl, hc, ho, hi⟩
 replace HC := Aside0.mk hc
 replace HI := Aside0.mk hi
 replace HP := Aside0.mk (BlkP.only HP.out ho (fun h => by have h2 : nP = B := h; have := HN0.out; omega))
 replace HO := Aside0.mk (HO.out.trans (ho.mono (fun _ _ h => .inl h)))
 clear hc ho hi
 clear hc0 hc1 hc2 hp0 hp1 hp2 hp3 hp4 hp5 hp6 hp7 hp8 hp9
 obtain ⟨hc0, hc1, hc2⟩ := HC.out.box
 obtain ⟨hp0, hp1, hp2, hp3, hp4, hp5, hp6, hp7, hp8, hp9⟩ := HP.out.box
 have hok := HOK.out
 go_wp2_with fail
 go_at_call 43
 refine (cumust s b1 c1 B _ HC.out HS.out HI.out ok E3.out).mono ?_
 rintro r w2 ⟨⟨v, rfl⟩, hc, ho, hi⟩
 replace HC := Aside0.mk hc
 replace HI := Aside0.mk hi
 replace HP := Aside0.mk (BlkP.only HP.out ho (fun h => by have h2 : nP = B := h; have := HN0.out; omega))
 replace HO := Aside0.mk (HO.out.trans (ho.mono (fun _ _ h => .inl h)))
 clear hc ho hi
 clear hc0 hc1 hc2 hp0 hp1 hp2 hp3 hp4 hp5 hp6 hp7 hp8 hp9
 obtain ⟨hc0, hc1, hc2⟩ := HC.out.box
 obtain ⟨hp0, hp1, hp2, hp3, hp4, hp5, hp6, hp7, hp8, hp9⟩ := HP.out.box
 clear hok
 have HI1 : Aside0 (FwdI p s b3 c3 B nP a1 n0 w 0 w2) := ⟨⟨b3, c3, [], none, 0, rfl, HC.out, HP.out, HO.out, HI.out, OwnE.nil _ _, rfl, by rcases Nat.eq_zero_or_pos c3 with h | h; exact .inl h; exact .inr ⟨by omega, rfl⟩⟩⟩
 clear hc0 hc1 hc2 hp0 hp1 hp2 hp3 hp4 hp5 hp6 hp7 hp8 hp9
 clear HC HO HI HP
 go_wp2_with fail
 go_loopw [6] (fun u wr => ∃ k : Nat, k ≤ a1 ∧ u = .int .i64 (k : Int) ∧ Aside0 (FwdI p s b3 c3 B nP a1 n0 w k wr)) (fun u _ => a1 - (intOf u).toNat)
 case atStart => exact ⟨0, Nat.zero_le _, rfl, HI1⟩
 case round =>
   clear HI1
   obtain ⟨k, hk, rfl, HI0⟩ := hrel
   obtain ⟨i', e', acc, A, c, hE, hc, hp, ho, hi, hw, hl, hee⟩ := HI0.out
   have HC := Aside0.mk hc
   have HP := Aside0.mk hp
   have HO := Aside0.mk ho
   have HI := Aside0.mk hi
   have HW := Aside0.mk hw
   have HEQ := Aside0.mk hE
   have HAL := Aside0.mk hl
   have hn0 := HN0.out
   clear HI0 hc hp ho hi hw hE hl
   by_cases hlt : k < a1
   · by_cases he : e' = 0
     · obtain rfl : e' = 0 := he
       have hez : c3 = 0 := by omega
       have hn6 := HN6.out hez
       have d1 : decide ((k : Int) < (a1 : Int)) = true := decide_eq_true (by omega)
       have d2 : decide (k < a1) = true := decide_eq_true hlt
       have hk4 : IntKind.i64.wrap ((k : Int) + 1) = (k : Int) + 1 := by rw [i64_w]; unfold wrap64; omega
       obtain ⟨p0, q0, r0, hp0⟩ : ∃ a b c, numR s (i', 0) = (a, (b, c)) := ⟨_, _, _, rfl⟩
       have Ep0 := Aside0.mk hp0
       clear hp0
       obtain ⟨p1, q1, r1, hp1⟩ : ∃ a b c, numR s (q0, r0) = (a, (b, c)) := ⟨_, _, _, rfl⟩
       have Ep1 := Aside0.mk hp1
       clear hp1
       obtain ⟨p2, q2, r2, hp2⟩ : ∃ a b c, txtR s (q1, r1) = (a, (b, c)) := ⟨_, _, _, rfl⟩
       have Ep2 := Aside0.mk hp2
       clear hp2
       have HST : Aside0 (entsR s true 0 (a1 - k) k (i', 0) acc = entsR s true 0 (a1 - (k + 1)) (k + 1) (q2, r2) (acc ++ [⟨(p0 : Int), (p1 : Int), p2⟩])) := ⟨by rw [show a1 - k = (a1 - (k + 1)) + 1 by omega, entsR, if_pos rfl]; simp only [if_true, Ep0.out]; rw [Ep1.out]; dsimp only; rw [Ep2.out]⟩
       have HOB : Aside0 (∀ q, (Value.slice A acc.length c).ownBlock = some q → n0 ≤ q ∧ q < wr.heap.size) := ⟨fun q hq => by have h1 := own_block HW.out hq; exact ⟨h1.1, h1.2.1⟩⟩
       obtain ⟨L2, hL2⟩ : ∃ L, acc ++ [⟨(p0 : Int), (p1 : Int), p2⟩] = L := ⟨_, rfl⟩
       have HL2 := Aside0.mk hL2
       have HL2n : Aside0 (L2.length = k + 1) := ⟨by rw [← hL2, List.length_append]; have := HAL.out; show acc.length + 1 = _; omega⟩
       clear hL2
       obtain ⟨hc0, hc1, hc2⟩ := HC.out.box
       obtain ⟨hp0, hp1, hp2, hp3, hp4, hp5, hp6, hp7, hp8, hp9⟩ := HP.out.box
       go_wp2_with fail
       go_at_call 42
       refine (cun s i' 0 B _ HC.out HS.out HI.out Ep0.out).mono ?_
       rintro r w11 ⟨rfl, hc, ho, hi⟩
       replace HC := Aside0.mk hc
       replace HI := Aside0.mk hi
       replace HP := Aside0.mk (BlkP.only HP.out ho (fun h => by have h2 : nP = B := h; have := HN0.out; omega))
       replace HO := Aside0.mk (HO.out.trans (ho.mono (fun _ _ h => .inl h)))
       replace HW := Aside0.mk (OwnE.only' HW.out ho (fun q hq h => by have h2 : q = B := h; have := HOB.out q hq; have := HN0.out; omega))
       clear hc ho hi
       clear hc0 hc1 hc2 hp0 hp1 hp2 hp3 hp4 hp5 hp6 hp7 hp8 hp9
       obtain ⟨hc0, hc1, hc2⟩ := HC.out.box
       obtain ⟨hp0, hp1, hp2, hp3, hp4, hp5, hp6, hp7, hp8, hp9⟩ := HP.out.box
       go_wp2_with fail
       go_at_call 42
       refine (cun s q0 r0 B _ HC.out HS.out HI.out Ep1.out).mono ?_
       rintro r w12 ⟨rfl, hc, ho, hi⟩
       replace HC := Aside0.mk hc
       replace HI := Aside0.mk hi
       replace HP := Aside0.mk (BlkP.only HP.out ho (fun h => by have h2 : nP = B := h; have := HN0.out; omega))
       replace HO := Aside0.mk (HO.out.trans (ho.mono (fun _ _ h => .inl h)))
       replace HW := Aside0.mk (OwnE.only' HW.out ho (fun q hq h => by have h2 : q = B := h; have := HOB.out q hq; have := HN0.out; omega))
       clear hc ho hi
       clear hc0 hc1 hc2 hp0 hp1 hp2 hp3 hp4 hp5 hp6 hp7 hp8 hp9
       obtain ⟨hc0, hc1, hc2⟩ := HC.out.box
       obtain ⟨hp0, hp1, hp2, hp3, hp4, hp5, hp6, hp7, hp8, hp9⟩ := HP.out.box
       go_wp2_with fail
       clear hc0 hc1 hc2 hp0 hp1 hp2 hp3 hp4 hp5 hp6 hp7 hp8 hp9
       replace HC := ldC HC
       replace HP := ldP HP
       replace HO := ldO HO
       replace HW : Aside0 (OwnE w12.drew n0 (.slice A acc.length c) acc) := ⟨HW.out.below (below_drew (Below.refl _ _))⟩
       refine start_ (n := 15) (S := (fun w' => w'.cell? ⟨nP, 2, none⟩ = some (.slice A acc.length c))) (ds := [14]) #[false,false,false,false,false,false,false,false,false,false,false,false,false,false,false] (by kernel_rfl) rfl rfl HP.out.box.2.2.1 (fun hHeld => ?_)
       refine pure_ (i := 0) (N := some 72) (v := ?_) (a' := ?_) #[true,false,false,false,false,false,false,false,false,false,false,false,false,false,false] rfl rfl (by kernel_rfl) (fun _ _ _ h => h) (Or.inl ⟨by rfl, ?_⟩) ?_ ?_
       rotate_left
       · intro w'
         go_simp
         try with_reducible rfl
       rotate_left
       · simp only [Act.put, sA, sB, sC]
         rfl
       refine pure_ (i := 1) (N := some 73) (v := ?_) (a' := ?_) #[true,true,false,false,false,false,false,false,false,false,false,false,false,false,false] rfl rfl (by kernel_rfl) (fun _ _ _ h => h) (Or.inl ⟨by rfl, ?_⟩) ?_ ?_
       rotate_left
       · intro w'
         go_simp
         try with_reducible rfl
       rotate_left
       · simp only [Act.put, sA, sB, sC]
         rfl
       refine pure_ (i := 2) (N := some 74) (v := ?_) (a' := ?_) #[true,true,true,false,false,false,false,false,false,false,false,false,false,false,false] rfl rfl (by kernel_rfl) (fun _ _ _ h => h) (Or.inl ⟨by rfl, ?_⟩) ?_ ?_
       rotate_left
       · intro w'
         go_simp
         try with_reducible rfl
       rotate_left
       · simp only [Act.put, sA, sB, sC]
         rfl
       refine pure_ (i := 3) (N := some 75) (v := ?_) (a' := ?_) #[true,true,true,true,false,false,false,false,false,false,false,false,false,false,false] rfl rfl (by kernel_rfl) (fun _ _ _ h => h) (Or.inl ⟨by rfl, ?_⟩) ?_ ?_
       rotate_left
       · intro w'
         go_simp
         try with_reducible rfl
       rotate_left
       · simp only [Act.put, sA, sB, sC]
         rfl
       refine take_ (i := 4) (N := some 76) (v := ?_) (a' := ?_) #[true,true,true,true,true,false,false,false,false,false,false,false,false,false,false] rfl rfl (by kernel_rfl) (fun _ _ _ h => h) (Or.inl ⟨by rfl, ?_⟩) hHeld ?_ ?_
       rotate_left
       · rintro w' hcell
         go_simp
         try with_reducible rfl
       rotate_left
       · simp only [Act.put, sA, sB, sC]
         rfl
       refine pure_ (i := 5) (N := some 77) (v := ?_) (a' := ?_) #[true,true,true,true,true,true,false,false,false,false,false,false,false,false,false] rfl rfl (by kernel_rfl) (fun _ _ _ h => h) (Or.inl ⟨by rfl, ?_⟩) ?_ ?_
       rotate_left
       · intro w'
         go_simp
         try with_reducible rfl
       rotate_left
       · simp only [Act.put, sA, sB, sC]
         rfl
       refine pure_ (i := 6) (N := some 78) (v := ?_) (a' := ?_) #[true,true,true,true,true,true,true,false,false,false,false,false,false,false,false] rfl rfl (by kernel_rfl) (fun _ _ _ h => h) (Or.inl ⟨by rfl, ?_⟩) ?_ ?_
       rotate_left
       · intro w'
         go_simp
         try with_reducible rfl
       rotate_left
       · simp only [Act.put, sA, sB, sC]
         rfl
       refine pure_ (i := 7) (N := some 79) (v := ?_) (a' := ?_) #[true,true,true,true,true,true,true,true,false,false,false,false,false,false,false] rfl rfl (by kernel_rfl) (fun _ _ _ h => h) (Or.inl ⟨by rfl, ?_⟩) ?_ ?_
       rotate_left
       · intro w'
         go_simp
         try with_reducible rfl
       rotate_left
       · simp only [Act.put, sA, sB, sC]
         rfl
       refine one_ (i := 8) (N := some 80) #[true,true,true,true,true,true,true,true,true,false,false,false,false,false,false] rfl rfl (by kernel_rfl) (by decide) (fun K hK => ?_)
       go_simp
       refine (cux s q1 r1 B _ HC.out HS.out HI.out Ep2.out).mono ?_; rintro r w20 ⟨rfl, hc, ho, hi⟩; replace HC := Aside0.mk hc; replace HI := Aside0.mk hi; replace HP := Aside0.mk (BlkP.only HP.out ho (fun h => by have h2 : nP = B := h; have := HN0.out; omega)); replace HO := Aside0.mk (HO.out.trans (ho.mono (fun _ _ h => .inl h))); replace HW := Aside0.mk (OwnE.only' HW.out ho (fun q hq h => by have h2 : q = B := h; have := HOB.out q hq; have := HN0.out; omega)); clear hc ho hi
       refine hK.out _ _ ?_ (fun hHeld => ?_)
       · exact HP.out.box.2.2.1
       clear hK K
       try simp only [Act.put, sA, sB, sC]
       obtain ⟨m, hm⟩ : ∃ x, w20.heap.size = x := ⟨_, rfl⟩
       have HMm := Aside0.mk hm
       have HNM : Aside0 (n0 ≤ m ∧ nP < m) := ⟨by rw [← HMm.out]; have h1 := HO.out.size; have h2 := HN0.out; exact ⟨by omega, BlkP.lt' HP.out⟩⟩
       refine pure_ (i := 9) (N := some 81) (v := ?_) (a' := ?_) #[true,true,true,true,true,true,true,true,true,true,false,false,false,false,false] rfl rfl (by kernel_rfl) (fun _ _ _ h => h) (Or.inl ⟨by rfl, ?_⟩) ?_ ?_
       rotate_left
       · intro w'
         go_simp
         try with_reducible rfl
       rotate_left
       · simp only [Act.put, sA, sB, sC]
         rfl
       refine one_ (i := 10) (N := some 82) #[true,true,true,true,true,true,true,true,true,true,true,false,false,false,false] rfl rfl (by kernel_rfl) (by decide) (fun K hK => ?_)
       go_simp
       refine hK.out _ _ ?_ (fun hHeld => ?_)
       · exact (laP HP (.cells #[.int .i64 (p0 : Int), .int .i64 (p1 : Int), .string p2] 28)).out.box.2.2.1
       clear hK K
       try simp only [Act.put, sA, sB, sC]
       replace HC := laC HC (.cells #[.int .i64 (p0 : Int), .int .i64 (p1 : Int), .string p2] 28); replace HP := laP HP (.cells #[.int .i64 (p0 : Int), .int .i64 (p1 : Int), .string p2] 28); replace HO := laO HO (.cells #[.int .i64 (p0 : Int), .int .i64 (p1 : Int), .string p2] 28)
       replace HW : Aside0 (OwnE (w20.alloc (.cells #[.int .i64 (p0 : Int), .int .i64 (p1 : Int), .string p2] 28)) n0 (.slice A acc.length c) acc) := ⟨HW.out.alloc _⟩
       have HE1 : Aside0 (Rd (w20.alloc (.cells #[.int .i64 (p0 : Int), .int .i64 (p1 : Int), .string p2] 28)) (some ⟨m, 0, none⟩) 1 [⟨(p0 : Int), (p1 : Int), p2⟩]) := ⟨by have hq := Rd.one w20 ⟨(p0 : Int), (p1 : Int), p2⟩; rw [HMm.out] at hq; exact hq⟩
       try rw [HMm.out]
       have HSZ : Aside0 (n0 ≤ (w20.alloc (.cells #[.int .i64 (p0 : Int), .int .i64 (p1 : Int), .string p2] 28)).heap.size) := ⟨by rw [World.size_alloc, HMm.out]; have := HNM.out; omega⟩
       obtain ⟨w5, hw5⟩ : ∃ W, w20.alloc (.cells #[.int .i64 (p0 : Int), .int .i64 (p1 : Int), .string p2] 28) = W := ⟨_, rfl⟩
       rw [hw5] at HC HP HO HW HE1 HSZ ⊢
       clear hw5 hm
       refine one_ (i := 11) (N := some 83) #[true,true,true,true,true,true,true,true,true,true,true,true,false,false,false] rfl rfl (by kernel_rfl) (by decide) (fun K hK => ?_)
       rw [if_pos (by rfl)]
       refine wp_append_ent (v := .slice A acc.length c) (l := acc) (m := [⟨(p0 : Int), (p1 : Int), p2⟩]) (b := n0) (.tmp 76) (.tmp 82) rfl rfl HW.out rfl HE1.out (by have h2 := HN6.out hez; have h3 := HAL.out; show acc.length + 1 ≤ _; omega) HSZ.out ?_
       intro v6 w6 ho6 hgr ha6; rw [HL2.out] at ho6; have hon : Only (fun q => (Value.slice A acc.length c).ownBlock = some q) w5 w6 := (Only.refl _ _).of_grown hgr (fun q hq _ => hq); have hlen : L2.length ≤ 4398046511104 := (by have := HL2n.out; have h2 := HN6.out hez; omega); obtain ⟨A6, c6, hv6, hrd6, _⟩ := ho6.rd' hlen; subst hv6; have HO6 := Aside0.mk ho6; replace HC := Aside0.mk (HC.out.only hon (fun h => by have := (HOB.out _ h).1; have := HN0.out; omega)); replace HP := Aside0.mk (BlkP.only HP.out hon (fun h => by have := (HOB.out _ h).1; have := HN0.out; omega)); replace HO := Aside0.mk (only_news HO.out hon (fun q h => by have := (HOB.out _ h).1; have := HN0.out; omega)); clear ho6 hgr ha6 hon hrd6 hlen HE1 HW
       refine hK.out _ _ ?_ (fun hHeld => ?_)
       · exact HP.out.box.2.2.1
       clear hK K
       try simp only [Act.put, sA, sB, sC]
       obtain ⟨y0, y1, y2, y3, y4, y5, y6, y7, y8, y9⟩ := HP.out.box
       have yf := BlkP.free' HP.out
       refine pure_ (i := 12) (N := some 84) (v := ?_) (a' := ?_) #[true,true,true,true,true,true,true,true,true,true,true,true,true,false,false] rfl rfl (by kernel_rfl) (fun _ _ _ h => h) (Or.inl ⟨by rfl, ?_⟩) ?_ ?_
       rotate_left
       · intro w'
         go_simp
         try with_reducible rfl
       rotate_left
       · simp only [Act.put, sA, sB, sC]
         rfl
       refine pure_ (i := 13) (N := some 85) (v := ?_) (a' := ?_) #[true,true,true,true,true,true,true,true,true,true,true,true,true,true,false] rfl rfl (by kernel_rfl) (fun _ _ _ h => h) (Or.inl ⟨by rfl, ?_⟩) ?_ ?_
       rotate_left
       · intro w'
         go_simp
         try with_reducible rfl
       rotate_left
       · simp only [Act.put, sA, sB, sC]
         rfl
       refine last_ (i := 14) (N := none) #[true,true,true,true,true,true,true,true,true,true,true,true,true,true,true] rfl rfl (by kernel_rfl) (by decide) (fun K hK => ?_)
       go_simp
       refine hK.out _ _ ?_
       clear hK K
       try simp only [Act.put, sA, sB, sC]
       refine done_ (by kernel_rfl) ?_
       clear y0 y1 y2 y3 y4 y5 y6 y7 y8 y9 yf
       have hx := (Only.refl (fun q => q = nP) w6).setCell (p := ⟨nP, 2, none⟩) rfl (.slice A6 L2.length c6)
       have hgl := BlkP.setL' HP.out L2 A6 c6
       have hC6 := HC.out.only hx (fun h => by have h2 : B = nP := h; have := HN0.out; omega)
       have hO6 := HO.out.trans (hx.mono (fun _ _ h => .inr h))
       have hW6 := OwnE.only' HO6.out hx (fun q hq h => by have h2 : q = nP := h; have h3 := (own_block HO6.out hq).1; have := HN0.out; omega)
       go_wp2_with fail
       go_roundw
       case rel => exact ⟨k + 1, by omega, by go_num, ⟨q2, r2, L2, A6, c6, by rw [← HL2.out]; exact HEQ.out.trans HST.out, hC6, hgl, hO6, HI.out, hW6, HL2n.out, .inl hez⟩⟩
       case measure => simp [intOf]; omega
     · have d1 : decide ((k : Int) < (a1 : Int)) = true := decide_eq_true (by omega)
       have d2 : decide (k < a1) = true := decide_eq_true (by omega)
       have j1 : ((e' : Int) == 0) = false := beq_eq_false_iff_ne.2 (by omega)
       have j2 : (e' == 0) = false := beq_eq_false_iff_ne.2 he
       obtain ⟨hc0, hc1, hc2⟩ := HC.out.box
       obtain ⟨hp0, hp1, hp2, hp3, hp4, hp5, hp6, hp7, hp8, hp9⟩ := HP.out.box
       have hlen : acc.length ≤ 4398046511104 := by have hal := HAL.out; rcases hee with h | h; (have := HN6.out h; omega); omega
       obtain ⟨A6, c6, hv6, hrd6, _⟩ := HW.out.rd' hlen
       injection hv6 with e1 e2 e3
       subst e1
       subst e3
       have HRD := Aside0.mk hrd6
       clear hrd6 e2
       go_wp2_with fail
       first | go_end0 | refine bodyPost_ret (results_none rfl _ _ _) rfl ?_
       rw [HU.out]; dsimp only; rw [HEQ.out, entsR_stop _ _ _ _ _ _ _ _ (Or.inr he)]
       exact ⟨⟨_, rfl⟩, A, c, HP.out, HRD.out, HC.out, HO.out, HI.out⟩
   · have d1 : decide ((k : Int) < (a1 : Int)) = false := decide_eq_false (by omega)
     have d2 : decide (k < a1) = false := decide_eq_false (by omega)
     obtain ⟨hc0, hc1, hc2⟩ := HC.out.box
     obtain ⟨hp0, hp1, hp2, hp3, hp4, hp5, hp6, hp7, hp8, hp9⟩ := HP.out.box
     have hlen : acc.length ≤ 4398046511104 := by have hal := HAL.out; rcases hee with h | h; (have := HN6.out h; omega); omega
     obtain ⟨A6, c6, hv6, hrd6, _⟩ := HW.out.rd' hlen
     injection hv6 with e1 e2 e3
     subst e1
     subst e3
     have HRD := Aside0.mk hrd6
     clear hrd6 e2
     go_wp2_with fail
     first | go_end0 | refine bodyPost_ret (results_none rfl _ _ _) rfl ?_
     rw [HU.out]; dsimp only; rw [HEQ.out, entsR_stop _ _ _ _ _ _ _ _ (Or.inl (by omega))]
     exact ⟨⟨_, rfl⟩, A, c, HP.out, HRD.out, HC.out, HO.out, HI.out⟩
theorem cuhard (s : ByteArray) (i e B : Nat) (w : World) (hb : BlkC 72 s i e B w) (hs : s.size ≤ 140737488351232) (hi : i ≤ s.size) {x y z b c : Nat} (h : hardR s (i, e) = ((x, y, z), (b, c))) : Calls Try.prog 45 #[.pointer (some ⟨B, 0, none⟩)] w fun r w' => r = .returned (.agg #[.int .i64 (x : Int), .int .i64 (y : Int), .int .i64 (z : Int)]) ∧ BlkC 72 s b c B w' ∧ Only (fun q => q = B) w w' ∧ b ≤ s.size := by
  have := cu_hard s i e B w hb hs hi
  rw [h] at this; exact this
set_option maxHeartbeats 4000000 in
set_option maxRecDepth 100000 in
theorem cu_fwd_ff (s : ByteArray) (i e B nP : Nat) (g kd : Int) (w : World) (hb : BlkC 72 s i e B w) (hp : BlkP ⟨g, kd, [], 0, 0, 0, 0, 0, false, false⟩ none 0 nP w) (hs : s.size ≤ 140737488351232) (hi : i ≤ s.size) (hne : B ≠ nP) (hm : bit1 (upR s 3 (i, e)).1 = false) (hh : bit2 (upR s 3 (i, e)).1 = false) :
  Calls Try.prog 46 #[.pointer (some ⟨B, 0, none⟩), .pointer (some ⟨nP, 0, none⟩)] w fun r w' => (∃ v, r = .returned v) ∧ ∃ A c, BlkP (fwdR s g kd (i, e)).1 A c nP w' ∧ Rd w' A c (fwdR s g kd (i, e)).1.l ∧ BlkC 72 s (fwdR s g kd (i, e)).2.1 (fwdR s g kd (i, e)).2.2 B w' ∧ Only (fun q => q = B ∨ q = nP) w w' ∧ (fwdR s g kd (i, e)).2.1 ≤ s.size := by
 have HC := Aside0.mk hb
 have HP := Aside0.mk hp
 have HO : Aside0 (Only (fun q => q = B ∨ q = nP) w w) := ⟨Only.refl _ _⟩
 have HS := Aside0.mk hs
 have HI := Aside0.mk hi
 have HN0 : Aside0 (B ≠ nP) := ⟨hne⟩
 have HLT := Aside0.mk (And.intro hb.lt (BlkP.lt' hp))
 obtain ⟨a1, b1, c1, ha1⟩ : ∃ a b c, numR s (i, e) = (a, (b, c)) := ⟨_, _, _, rfl⟩
 have Ea1 := Aside0.mk ha1
 clear ha1
 obtain ⟨ok, hok⟩ : ∃ ok, decide ((a1 : Int) ≤ 3) = ok := ⟨_, rfl⟩
 have HOK := Aside0.mk hok
 obtain ⟨b3, c3, h3⟩ : ∃ b c, mustR ok (b1, c1) = (b, c) := ⟨_, _, rfl⟩
 have E3 := Aside0.mk h3
 clear h3
 have HU : Aside0 (upR s 3 (i, e) = (a1, (b3, c3))) := ⟨by unfold upR; rw [Ea1.out]; dsimp only; rw [HOK.out, E3.out]⟩
 have m1 : (Go.bits .and .i64 (a1 : Int) 1 == 1) = false := by have h1 := hm; rw [HU.out] at h1; exact h1
 have m2 : (Go.bits .and .i64 (a1 : Int) 2 == 2) = false := by have h1 := hh; rw [HU.out] at h1; exact h1
 have HM1 := Aside0.mk m1
 have HM2 := Aside0.mk m2
 have HR : Aside0 (fwdR s g kd (i, e) = (⟨g, kd, (entsR s true 0 (upR s 6 (b3, c3)).1 0 (upR s 6 (b3, c3)).2 []).1, 0, 0, 0, 0, 0, false, false⟩, (entsR s true 0 (upR s 6 (b3, c3)).1 0 (upR s 6 (b3, c3)).2 []).2)) := ⟨by unfold fwdR markR hedR bit1 bit2; rw [HU.out]; dsimp only; rw [HM1.out, HM2.out]; simp only [if_true, Bool.false_eq_true, if_false]; try rfl⟩
 clear hok hb hp hs hi hne hm hh
 rw [HR.out]
 go_enter Try.func46, Try.ntmps46
 obtain ⟨C5, hC5⟩ : ∃ C, (match Try.f46.body with | some (.seq _ (.seq _ (.seq _ (.seq _ (.seq _ c))))) => c | _ => .skip) = C := ⟨_, rfl⟩
 have HC5 := Aside0.mk hC5
 simp only [Try.f46] at hC5
 rw [hC5]
 clear hC5
 obtain ⟨hc0, hc1, hc2⟩ := HC.out.box
 obtain ⟨hp0, hp1, hp2, hp3, hp4, hp5, hp6, hp7, hp8, hp9⟩ := HP.out.box
 go_wp2_with fail
 go_at_call 42
 refine (cun s i e B _ HC.out HS.out HI.out Ea1.out).mono ?_
 rintro r w1 ⟨rfl, hc, ho, hi⟩
 replace HC := Aside0.mk hc
 replace HI := Aside0.mk hi
 replace HP := Aside0.mk (BlkP.only HP.out ho (fun h => by have h2 : nP = B := h; have := HN0.out; omega))
 replace HO := Aside0.mk (HO.out.trans (ho.mono (fun _ _ h => .inl h)))
 clear hc ho hi
 clear hc0 hc1 hc2 hp0 hp1 hp2 hp3 hp4 hp5 hp6 hp7 hp8 hp9
 obtain ⟨hc0, hc1, hc2⟩ := HC.out.box
 obtain ⟨hp0, hp1, hp2, hp3, hp4, hp5, hp6, hp7, hp8, hp9⟩ := HP.out.box
 have hok := HOK.out
 go_wp2_with fail
 go_at_call 43
 refine (cumust s b1 c1 B _ HC.out HS.out HI.out ok E3.out).mono ?_
 rintro r w2 ⟨⟨v, rfl⟩, hc, ho, hi⟩
 replace HC := Aside0.mk hc
 replace HI := Aside0.mk hi
 replace HP := Aside0.mk (BlkP.only HP.out ho (fun h => by have h2 : nP = B := h; have := HN0.out; omega))
 replace HO := Aside0.mk (HO.out.trans (ho.mono (fun _ _ h => .inl h)))
 clear hc ho hi
 clear hc0 hc1 hc2 hp0 hp1 hp2 hp3 hp4 hp5 hp6 hp7 hp8 hp9
 obtain ⟨hc0, hc1, hc2⟩ := HC.out.box
 obtain ⟨hp0, hp1, hp2, hp3, hp4, hp5, hp6, hp7, hp8, hp9⟩ := HP.out.box
 clear hok
 have yf := BlkP.free' HP.out
 go_wp2_with fail
 clear yf
 clear hc0 hc1 hc2 hp0 hp1 hp2 hp3 hp4 hp5 hp6 hp7 hp8 hp9
 have hx : Only (fun q => q = nP) w2 ((w2.setCell ⟨nP, 8, none⟩ (.bool false)).setCell ⟨nP, 9, none⟩ (.bool false)) := by (iterate 2 (refine Only.setCell (U := fun q => q = nP) ?_ rfl _)); exact Only.refl _ _
 replace HC := Aside0.mk (HC.out.only hx (fun h => by have h2 : B = nP := h; have := HN0.out; omega))
 replace HO := Aside0.mk (HO.out.trans (hx.mono (fun _ _ h => .inr h)))
 replace HP := Aside0.mk (BlkP.set89 HP.out false false)
 clear hx
 obtain ⟨W3, hW⟩ : ∃ W, ((w2.setCell ⟨nP, 8, none⟩ (.bool false)).setCell ⟨nP, 9, none⟩ (.bool false)) = W := ⟨_, rfl⟩
 rw [hW] at HC HO HP ⊢
 clear hW
 obtain ⟨hc0, hc1, hc2⟩ := HC.out.box
 obtain ⟨hp0, hp1, hp2, hp3, hp4, hp5, hp6, hp7, hp8, hp9⟩ := HP.out.box
 dsimp only at hc0 hc1 hc2 hp0 hp1 hp2 hp3 hp4 hp5 hp6 hp7 hp8 hp9
 try go_wp2_with fail
 exact cu_fwd_tail ⟨g, kd, [], 0, 0, 0, 0, 0, false, false⟩ s b3 c3 B nP w _ C5 HC5.out _ _ _ _ _ _ _ _ _ _ _ _ _ _ _ _ _ _ _ _ _ _ _ _ _ _ _ _ _ _ _ _ _ _ _ _ _ _ _ _ _ _ _ _ _ _ _ _ _ _ _ _ _ _ _ _ _ _ _ _ _ _ _ _ _ _ _ _ _ _ _ _ _ _ _ _ _ _ _ _ _ _ _ _ HC.out HP.out HO.out HS.out HI.out HN0.out HLT.out
set_option maxHeartbeats 4000000 in
set_option maxRecDepth 100000 in
theorem cu_fwd_ft (s : ByteArray) (i e B nP : Nat) (g kd : Int) (w : World) (hb : BlkC 72 s i e B w) (hp : BlkP ⟨g, kd, [], 0, 0, 0, 0, 0, false, false⟩ none 0 nP w) (hs : s.size ≤ 140737488351232) (hi : i ≤ s.size) (hne : B ≠ nP) (hm : bit1 (upR s 3 (i, e)).1 = false) (hh : bit2 (upR s 3 (i, e)).1 = true) :
  Calls Try.prog 46 #[.pointer (some ⟨B, 0, none⟩), .pointer (some ⟨nP, 0, none⟩)] w fun r w' => (∃ v, r = .returned v) ∧ ∃ A c, BlkP (fwdR s g kd (i, e)).1 A c nP w' ∧ Rd w' A c (fwdR s g kd (i, e)).1.l ∧ BlkC 72 s (fwdR s g kd (i, e)).2.1 (fwdR s g kd (i, e)).2.2 B w' ∧ Only (fun q => q = B ∨ q = nP) w w' ∧ (fwdR s g kd (i, e)).2.1 ≤ s.size := by
 have HC := Aside0.mk hb
 have HP := Aside0.mk hp
 have HO : Aside0 (Only (fun q => q = B ∨ q = nP) w w) := ⟨Only.refl _ _⟩
 have HS := Aside0.mk hs
 have HI := Aside0.mk hi
 have HN0 : Aside0 (B ≠ nP) := ⟨hne⟩
 have HLT := Aside0.mk (And.intro hb.lt (BlkP.lt' hp))
 obtain ⟨a1, b1, c1, ha1⟩ : ∃ a b c, numR s (i, e) = (a, (b, c)) := ⟨_, _, _, rfl⟩
 have Ea1 := Aside0.mk ha1
 clear ha1
 obtain ⟨ok, hok⟩ : ∃ ok, decide ((a1 : Int) ≤ 3) = ok := ⟨_, rfl⟩
 have HOK := Aside0.mk hok
 obtain ⟨b3, c3, h3⟩ : ∃ b c, mustR ok (b1, c1) = (b, c) := ⟨_, _, rfl⟩
 have E3 := Aside0.mk h3
 clear h3
 have HU : Aside0 (upR s 3 (i, e) = (a1, (b3, c3))) := ⟨by unfold upR; rw [Ea1.out]; dsimp only; rw [HOK.out, E3.out]⟩
 have m1 : (Go.bits .and .i64 (a1 : Int) 1 == 1) = false := by have h1 := hm; rw [HU.out] at h1; exact h1
 have m2 : (Go.bits .and .i64 (a1 : Int) 2 == 2) = true := by have h1 := hh; rw [HU.out] at h1; exact h1
 have HM1 := Aside0.mk m1
 have HM2 := Aside0.mk m2
 obtain ⟨⟨t1, t2, t3⟩, y3, z3, ht⟩ : ∃ a b c, hardR s (b3, c3) = (a, (b, c)) := ⟨_, _, _, rfl⟩
 have Et := Aside0.mk ht
 clear ht
 have HR : Aside0 (fwdR s g kd (i, e) = (⟨g, kd, (entsR s true 0 (upR s 6 (y3, z3)).1 0 (upR s 6 (y3, z3)).2 []).1, (t1 : Int), (t2 : Int), (t3 : Int), 0, 0, false, true⟩, (entsR s true 0 (upR s 6 (y3, z3)).1 0 (upR s 6 (y3, z3)).2 []).2)) := ⟨by unfold fwdR markR hedR bit1 bit2; rw [HU.out]; dsimp only; rw [HM1.out, HM2.out]; simp only [if_true, Bool.false_eq_true, if_false, Et.out]; try rfl⟩
 clear hok hb hp hs hi hne hm hh
 rw [HR.out]
 go_enter Try.func46, Try.ntmps46
 obtain ⟨C5, hC5⟩ : ∃ C, (match Try.f46.body with | some (.seq _ (.seq _ (.seq _ (.seq _ (.seq _ c))))) => c | _ => .skip) = C := ⟨_, rfl⟩
 have HC5 := Aside0.mk hC5
 simp only [Try.f46] at hC5
 rw [hC5]
 clear hC5
 obtain ⟨hc0, hc1, hc2⟩ := HC.out.box
 obtain ⟨hp0, hp1, hp2, hp3, hp4, hp5, hp6, hp7, hp8, hp9⟩ := HP.out.box
 go_wp2_with fail
 go_at_call 42
 refine (cun s i e B _ HC.out HS.out HI.out Ea1.out).mono ?_
 rintro r w1 ⟨rfl, hc, ho, hi⟩
 replace HC := Aside0.mk hc
 replace HI := Aside0.mk hi
 replace HP := Aside0.mk (BlkP.only HP.out ho (fun h => by have h2 : nP = B := h; have := HN0.out; omega))
 replace HO := Aside0.mk (HO.out.trans (ho.mono (fun _ _ h => .inl h)))
 clear hc ho hi
 clear hc0 hc1 hc2 hp0 hp1 hp2 hp3 hp4 hp5 hp6 hp7 hp8 hp9
 obtain ⟨hc0, hc1, hc2⟩ := HC.out.box
 obtain ⟨hp0, hp1, hp2, hp3, hp4, hp5, hp6, hp7, hp8, hp9⟩ := HP.out.box
 have hok := HOK.out
 go_wp2_with fail
 go_at_call 43
 refine (cumust s b1 c1 B _ HC.out HS.out HI.out ok E3.out).mono ?_
 rintro r w2 ⟨⟨v, rfl⟩, hc, ho, hi⟩
 replace HC := Aside0.mk hc
 replace HI := Aside0.mk hi
 replace HP := Aside0.mk (BlkP.only HP.out ho (fun h => by have h2 : nP = B := h; have := HN0.out; omega))
 replace HO := Aside0.mk (HO.out.trans (ho.mono (fun _ _ h => .inl h)))
 clear hc ho hi
 clear hc0 hc1 hc2 hp0 hp1 hp2 hp3 hp4 hp5 hp6 hp7 hp8 hp9
 obtain ⟨hc0, hc1, hc2⟩ := HC.out.box
 obtain ⟨hp0, hp1, hp2, hp3, hp4, hp5, hp6, hp7, hp8, hp9⟩ := HP.out.box
 clear hok
 have yf := BlkP.free' HP.out
 go_wp2_with fail
 clear yf
 clear hc0 hc1 hc2 hp0 hp1 hp2 hp3 hp4 hp5 hp6 hp7 hp8 hp9
 have hx : Only (fun q => q = nP) w2 ((w2.setCell ⟨nP, 8, none⟩ (.bool false)).setCell ⟨nP, 9, none⟩ (.bool true)) := by (iterate 2 (refine Only.setCell (U := fun q => q = nP) ?_ rfl _)); exact Only.refl _ _
 replace HC := Aside0.mk (HC.out.only hx (fun h => by have h2 : B = nP := h; have := HN0.out; omega))
 replace HO := Aside0.mk (HO.out.trans (hx.mono (fun _ _ h => .inr h)))
 replace HP := Aside0.mk (BlkP.set89 HP.out false true)
 clear hx
 obtain ⟨W3, hW⟩ : ∃ W, ((w2.setCell ⟨nP, 8, none⟩ (.bool false)).setCell ⟨nP, 9, none⟩ (.bool true)) = W := ⟨_, rfl⟩
 rw [hW] at HC HO HP ⊢
 clear hW
 obtain ⟨hc0, hc1, hc2⟩ := HC.out.box
 obtain ⟨hp0, hp1, hp2, hp3, hp4, hp5, hp6, hp7, hp8, hp9⟩ := HP.out.box
 dsimp only at hc0 hc1 hc2 hp0 hp1 hp2 hp3 hp4 hp5 hp6 hp7 hp8 hp9
 try go_wp2_with fail
 go_at_call 45
 refine (cuhard s b3 c3 B _ HC.out HS.out HI.out Et.out).mono ?_
 rintro r w4 ⟨rfl, hc, ho, hi⟩
 replace HC := Aside0.mk hc
 replace HI := Aside0.mk hi
 replace HP := Aside0.mk (BlkP.only HP.out ho (fun h => by have h2 : nP = B := h; have := HN0.out; omega))
 replace HO := Aside0.mk (HO.out.trans (ho.mono (fun _ _ h => .inl h)))
 clear hc ho hi
 clear hc0 hc1 hc2 hp0 hp1 hp2 hp3 hp4 hp5 hp6 hp7 hp8 hp9
 obtain ⟨hc0, hc1, hc2⟩ := HC.out.box
 obtain ⟨hp0, hp1, hp2, hp3, hp4, hp5, hp6, hp7, hp8, hp9⟩ := HP.out.box
 have yf := BlkP.free' HP.out
 go_wp2_with fail
 clear yf
 clear hc0 hc1 hc2 hp0 hp1 hp2 hp3 hp4 hp5 hp6 hp7 hp8 hp9
 have hx : Only (fun q => q = nP) w4 (((w4.setCell ⟨nP, 3, none⟩ (.int .i64 (t1 : Int))).setCell ⟨nP, 4, none⟩ (.int .i64 (t2 : Int))).setCell ⟨nP, 5, none⟩ (.int .i64 (t3 : Int))) := by (iterate 3 (refine Only.setCell (U := fun q => q = nP) ?_ rfl _)); exact Only.refl _ _
 replace HC := Aside0.mk (HC.out.only hx (fun h => by have h2 : B = nP := h; have := HN0.out; omega))
 replace HO := Aside0.mk (HO.out.trans (hx.mono (fun _ _ h => .inr h)))
 replace HP := Aside0.mk (BlkP.set345 HP.out (t1 : Int) (t2 : Int) (t3 : Int))
 clear hx
 obtain ⟨W5, hW⟩ : ∃ W, (((w4.setCell ⟨nP, 3, none⟩ (.int .i64 (t1 : Int))).setCell ⟨nP, 4, none⟩ (.int .i64 (t2 : Int))).setCell ⟨nP, 5, none⟩ (.int .i64 (t3 : Int))) = W := ⟨_, rfl⟩
 rw [hW] at HC HO HP ⊢
 clear hW
 obtain ⟨hc0, hc1, hc2⟩ := HC.out.box
 obtain ⟨hp0, hp1, hp2, hp3, hp4, hp5, hp6, hp7, hp8, hp9⟩ := HP.out.box
 dsimp only at hc0 hc1 hc2 hp0 hp1 hp2 hp3 hp4 hp5 hp6 hp7 hp8 hp9
 try go_wp2_with fail
 exact cu_fwd_tail ⟨g, kd, [], (t1 : Int), (t2 : Int), (t3 : Int), 0, 0, false, true⟩ s y3 z3 B nP w _ C5 HC5.out _ _ _ _ _ _ _ _ _ _ _ _ _ _ _ _ _ _ _ _ _ _ _ _ _ _ _ _ _ _ _ _ _ _ _ _ _ _ _ _ _ _ _ _ _ _ _ _ _ _ _ _ _ _ _ _ _ _ _ _ _ _ _ _ _ _ _ _ _ _ _ _ _ _ _ _ _ _ _ _ _ _ _ _ HC.out HP.out HO.out HS.out HI.out HN0.out HLT.out
set_option maxHeartbeats 4000000 in
set_option maxRecDepth 100000 in
theorem cu_fwd_tf (s : ByteArray) (i e B nP : Nat) (g kd : Int) (w : World) (hb : BlkC 72 s i e B w) (hp : BlkP ⟨g, kd, [], 0, 0, 0, 0, 0, false, false⟩ none 0 nP w) (hs : s.size ≤ 140737488351232) (hi : i ≤ s.size) (hne : B ≠ nP) (hm : bit1 (upR s 3 (i, e)).1 = true) (hh : bit2 (upR s 3 (i, e)).1 = false) :
  Calls Try.prog 46 #[.pointer (some ⟨B, 0, none⟩), .pointer (some ⟨nP, 0, none⟩)] w fun r w' => (∃ v, r = .returned v) ∧ ∃ A c, BlkP (fwdR s g kd (i, e)).1 A c nP w' ∧ Rd w' A c (fwdR s g kd (i, e)).1.l ∧ BlkC 72 s (fwdR s g kd (i, e)).2.1 (fwdR s g kd (i, e)).2.2 B w' ∧ Only (fun q => q = B ∨ q = nP) w w' ∧ (fwdR s g kd (i, e)).2.1 ≤ s.size := by
 have HC := Aside0.mk hb
 have HP := Aside0.mk hp
 have HO : Aside0 (Only (fun q => q = B ∨ q = nP) w w) := ⟨Only.refl _ _⟩
 have HS := Aside0.mk hs
 have HI := Aside0.mk hi
 have HN0 : Aside0 (B ≠ nP) := ⟨hne⟩
 have HLT := Aside0.mk (And.intro hb.lt (BlkP.lt' hp))
 obtain ⟨a1, b1, c1, ha1⟩ : ∃ a b c, numR s (i, e) = (a, (b, c)) := ⟨_, _, _, rfl⟩
 have Ea1 := Aside0.mk ha1
 clear ha1
 obtain ⟨ok, hok⟩ : ∃ ok, decide ((a1 : Int) ≤ 3) = ok := ⟨_, rfl⟩
 have HOK := Aside0.mk hok
 obtain ⟨b3, c3, h3⟩ : ∃ b c, mustR ok (b1, c1) = (b, c) := ⟨_, _, rfl⟩
 have E3 := Aside0.mk h3
 clear h3
 have HU : Aside0 (upR s 3 (i, e) = (a1, (b3, c3))) := ⟨by unfold upR; rw [Ea1.out]; dsimp only; rw [HOK.out, E3.out]⟩
 have m1 : (Go.bits .and .i64 (a1 : Int) 1 == 1) = true := by have h1 := hm; rw [HU.out] at h1; exact h1
 have m2 : (Go.bits .and .i64 (a1 : Int) 2 == 2) = false := by have h1 := hh; rw [HU.out] at h1; exact h1
 have HM1 := Aside0.mk m1
 have HM2 := Aside0.mk m2
 obtain ⟨x1, y1, z1, hx1⟩ : ∃ a b c, numR s (b3, c3) = (a, (b, c)) := ⟨_, _, _, rfl⟩
 have Ex1 := Aside0.mk hx1
 clear hx1
 obtain ⟨x2, y2, z2, hx2⟩ : ∃ a b c, numR s (y1, z1) = (a, (b, c)) := ⟨_, _, _, rfl⟩
 have Ex2 := Aside0.mk hx2
 clear hx2
 have HR : Aside0 (fwdR s g kd (i, e) = (⟨g, kd, (entsR s true 0 (upR s 6 (y2, z2)).1 0 (upR s 6 (y2, z2)).2 []).1, 0, 0, 0, (x1 : Int), (x2 : Int), true, false⟩, (entsR s true 0 (upR s 6 (y2, z2)).1 0 (upR s 6 (y2, z2)).2 []).2)) := ⟨by unfold fwdR markR hedR bit1 bit2; rw [HU.out]; dsimp only; rw [HM1.out, HM2.out]; simp only [if_true, Bool.false_eq_true, if_false, Ex1.out, Ex2.out]; try rfl⟩
 clear hok hb hp hs hi hne hm hh
 rw [HR.out]
 go_enter Try.func46, Try.ntmps46
 obtain ⟨C5, hC5⟩ : ∃ C, (match Try.f46.body with | some (.seq _ (.seq _ (.seq _ (.seq _ (.seq _ c))))) => c | _ => .skip) = C := ⟨_, rfl⟩
 have HC5 := Aside0.mk hC5
 simp only [Try.f46] at hC5
 rw [hC5]
 clear hC5
 obtain ⟨hc0, hc1, hc2⟩ := HC.out.box
 obtain ⟨hp0, hp1, hp2, hp3, hp4, hp5, hp6, hp7, hp8, hp9⟩ := HP.out.box
 go_wp2_with fail
 go_at_call 42
 refine (cun s i e B _ HC.out HS.out HI.out Ea1.out).mono ?_
 rintro r w1 ⟨rfl, hc, ho, hi⟩
 replace HC := Aside0.mk hc
 replace HI := Aside0.mk hi
 replace HP := Aside0.mk (BlkP.only HP.out ho (fun h => by have h2 : nP = B := h; have := HN0.out; omega))
 replace HO := Aside0.mk (HO.out.trans (ho.mono (fun _ _ h => .inl h)))
 clear hc ho hi
 clear hc0 hc1 hc2 hp0 hp1 hp2 hp3 hp4 hp5 hp6 hp7 hp8 hp9
 obtain ⟨hc0, hc1, hc2⟩ := HC.out.box
 obtain ⟨hp0, hp1, hp2, hp3, hp4, hp5, hp6, hp7, hp8, hp9⟩ := HP.out.box
 have hok := HOK.out
 go_wp2_with fail
 go_at_call 43
 refine (cumust s b1 c1 B _ HC.out HS.out HI.out ok E3.out).mono ?_
 rintro r w2 ⟨⟨v, rfl⟩, hc, ho, hi⟩
 replace HC := Aside0.mk hc
 replace HI := Aside0.mk hi
 replace HP := Aside0.mk (BlkP.only HP.out ho (fun h => by have h2 : nP = B := h; have := HN0.out; omega))
 replace HO := Aside0.mk (HO.out.trans (ho.mono (fun _ _ h => .inl h)))
 clear hc ho hi
 clear hc0 hc1 hc2 hp0 hp1 hp2 hp3 hp4 hp5 hp6 hp7 hp8 hp9
 obtain ⟨hc0, hc1, hc2⟩ := HC.out.box
 obtain ⟨hp0, hp1, hp2, hp3, hp4, hp5, hp6, hp7, hp8, hp9⟩ := HP.out.box
 clear hok
 have yf := BlkP.free' HP.out
 go_wp2_with fail
 clear yf
 clear hc0 hc1 hc2 hp0 hp1 hp2 hp3 hp4 hp5 hp6 hp7 hp8 hp9
 have hx : Only (fun q => q = nP) w2 ((w2.setCell ⟨nP, 8, none⟩ (.bool true)).setCell ⟨nP, 9, none⟩ (.bool false)) := by (iterate 2 (refine Only.setCell (U := fun q => q = nP) ?_ rfl _)); exact Only.refl _ _
 replace HC := Aside0.mk (HC.out.only hx (fun h => by have h2 : B = nP := h; have := HN0.out; omega))
 replace HO := Aside0.mk (HO.out.trans (hx.mono (fun _ _ h => .inr h)))
 replace HP := Aside0.mk (BlkP.set89 HP.out true false)
 clear hx
 obtain ⟨W3, hW⟩ : ∃ W, ((w2.setCell ⟨nP, 8, none⟩ (.bool true)).setCell ⟨nP, 9, none⟩ (.bool false)) = W := ⟨_, rfl⟩
 rw [hW] at HC HO HP ⊢
 clear hW
 obtain ⟨hc0, hc1, hc2⟩ := HC.out.box
 obtain ⟨hp0, hp1, hp2, hp3, hp4, hp5, hp6, hp7, hp8, hp9⟩ := HP.out.box
 dsimp only at hc0 hc1 hc2 hp0 hp1 hp2 hp3 hp4 hp5 hp6 hp7 hp8 hp9
 try go_wp2_with fail
 go_at_call 42
 refine (cun s b3 c3 B _ HC.out HS.out HI.out Ex1.out).mono ?_
 rintro r w4 ⟨rfl, hc, ho, hi⟩
 replace HC := Aside0.mk hc
 replace HI := Aside0.mk hi
 replace HP := Aside0.mk (BlkP.only HP.out ho (fun h => by have h2 : nP = B := h; have := HN0.out; omega))
 replace HO := Aside0.mk (HO.out.trans (ho.mono (fun _ _ h => .inl h)))
 clear hc ho hi
 clear hc0 hc1 hc2 hp0 hp1 hp2 hp3 hp4 hp5 hp6 hp7 hp8 hp9
 obtain ⟨hc0, hc1, hc2⟩ := HC.out.box
 obtain ⟨hp0, hp1, hp2, hp3, hp4, hp5, hp6, hp7, hp8, hp9⟩ := HP.out.box
 have yf := BlkP.free' HP.out
 go_wp2_with fail
 clear yf
 clear hc0 hc1 hc2 hp0 hp1 hp2 hp3 hp4 hp5 hp6 hp7 hp8 hp9
 have hx : Only (fun q => q = nP) w4 (w4.setCell ⟨nP, 6, none⟩ (.int .i64 (x1 : Int))) := by (iterate 1 (refine Only.setCell (U := fun q => q = nP) ?_ rfl _)); exact Only.refl _ _
 replace HC := Aside0.mk (HC.out.only hx (fun h => by have h2 : B = nP := h; have := HN0.out; omega))
 replace HO := Aside0.mk (HO.out.trans (hx.mono (fun _ _ h => .inr h)))
 replace HP := Aside0.mk (BlkP.set6 HP.out (x1 : Int))
 clear hx
 obtain ⟨W5, hW⟩ : ∃ W, (w4.setCell ⟨nP, 6, none⟩ (.int .i64 (x1 : Int))) = W := ⟨_, rfl⟩
 rw [hW] at HC HO HP ⊢
 clear hW
 obtain ⟨hc0, hc1, hc2⟩ := HC.out.box
 obtain ⟨hp0, hp1, hp2, hp3, hp4, hp5, hp6, hp7, hp8, hp9⟩ := HP.out.box
 dsimp only at hc0 hc1 hc2 hp0 hp1 hp2 hp3 hp4 hp5 hp6 hp7 hp8 hp9
 try go_wp2_with fail
 go_at_call 42
 refine (cun s y1 z1 B _ HC.out HS.out HI.out Ex2.out).mono ?_
 rintro r w6 ⟨rfl, hc, ho, hi⟩
 replace HC := Aside0.mk hc
 replace HI := Aside0.mk hi
 replace HP := Aside0.mk (BlkP.only HP.out ho (fun h => by have h2 : nP = B := h; have := HN0.out; omega))
 replace HO := Aside0.mk (HO.out.trans (ho.mono (fun _ _ h => .inl h)))
 clear hc ho hi
 clear hc0 hc1 hc2 hp0 hp1 hp2 hp3 hp4 hp5 hp6 hp7 hp8 hp9
 obtain ⟨hc0, hc1, hc2⟩ := HC.out.box
 obtain ⟨hp0, hp1, hp2, hp3, hp4, hp5, hp6, hp7, hp8, hp9⟩ := HP.out.box
 have yf := BlkP.free' HP.out
 go_wp2_with fail
 clear yf
 clear hc0 hc1 hc2 hp0 hp1 hp2 hp3 hp4 hp5 hp6 hp7 hp8 hp9
 have hx : Only (fun q => q = nP) w6 (w6.setCell ⟨nP, 7, none⟩ (.int .i64 (x2 : Int))) := by (iterate 1 (refine Only.setCell (U := fun q => q = nP) ?_ rfl _)); exact Only.refl _ _
 replace HC := Aside0.mk (HC.out.only hx (fun h => by have h2 : B = nP := h; have := HN0.out; omega))
 replace HO := Aside0.mk (HO.out.trans (hx.mono (fun _ _ h => .inr h)))
 replace HP := Aside0.mk (BlkP.set7 HP.out (x2 : Int))
 clear hx
 obtain ⟨W7, hW⟩ : ∃ W, (w6.setCell ⟨nP, 7, none⟩ (.int .i64 (x2 : Int))) = W := ⟨_, rfl⟩
 rw [hW] at HC HO HP ⊢
 clear hW
 obtain ⟨hc0, hc1, hc2⟩ := HC.out.box
 obtain ⟨hp0, hp1, hp2, hp3, hp4, hp5, hp6, hp7, hp8, hp9⟩ := HP.out.box
 dsimp only at hc0 hc1 hc2 hp0 hp1 hp2 hp3 hp4 hp5 hp6 hp7 hp8 hp9
 try go_wp2_with fail
 exact cu_fwd_tail ⟨g, kd, [], 0, 0, 0, (x1 : Int), (x2 : Int), true, false⟩ s y2 z2 B nP w _ C5 HC5.out _ _ _ _ _ _ _ _ _ _ _ _ _ _ _ _ _ _ _ _ _ _ _ _ _ _ _ _ _ _ _ _ _ _ _ _ _ _ _ _ _ _ _ _ _ _ _ _ _ _ _ _ _ _ _ _ _ _ _ _ _ _ _ _ _ _ _ _ _ _ _ _ _ _ _ _ _ _ _ _ _ _ _ _ HC.out HP.out HO.out HS.out HI.out HN0.out HLT.out
set_option maxHeartbeats 4000000 in
set_option maxRecDepth 100000 in
theorem cu_fwd_tt (s : ByteArray) (i e B nP : Nat) (g kd : Int) (w : World) (hb : BlkC 72 s i e B w) (hp : BlkP ⟨g, kd, [], 0, 0, 0, 0, 0, false, false⟩ none 0 nP w) (hs : s.size ≤ 140737488351232) (hi : i ≤ s.size) (hne : B ≠ nP) (hm : bit1 (upR s 3 (i, e)).1 = true) (hh : bit2 (upR s 3 (i, e)).1 = true) :
  Calls Try.prog 46 #[.pointer (some ⟨B, 0, none⟩), .pointer (some ⟨nP, 0, none⟩)] w fun r w' => (∃ v, r = .returned v) ∧ ∃ A c, BlkP (fwdR s g kd (i, e)).1 A c nP w' ∧ Rd w' A c (fwdR s g kd (i, e)).1.l ∧ BlkC 72 s (fwdR s g kd (i, e)).2.1 (fwdR s g kd (i, e)).2.2 B w' ∧ Only (fun q => q = B ∨ q = nP) w w' ∧ (fwdR s g kd (i, e)).2.1 ≤ s.size := by
 have HC := Aside0.mk hb
 have HP := Aside0.mk hp
 have HO : Aside0 (Only (fun q => q = B ∨ q = nP) w w) := ⟨Only.refl _ _⟩
 have HS := Aside0.mk hs
 have HI := Aside0.mk hi
 have HN0 : Aside0 (B ≠ nP) := ⟨hne⟩
 have HLT := Aside0.mk (And.intro hb.lt (BlkP.lt' hp))
 obtain ⟨a1, b1, c1, ha1⟩ : ∃ a b c, numR s (i, e) = (a, (b, c)) := ⟨_, _, _, rfl⟩
 have Ea1 := Aside0.mk ha1
 clear ha1
 obtain ⟨ok, hok⟩ : ∃ ok, decide ((a1 : Int) ≤ 3) = ok := ⟨_, rfl⟩
 have HOK := Aside0.mk hok
 obtain ⟨b3, c3, h3⟩ : ∃ b c, mustR ok (b1, c1) = (b, c) := ⟨_, _, rfl⟩
 have E3 := Aside0.mk h3
 clear h3
 have HU : Aside0 (upR s 3 (i, e) = (a1, (b3, c3))) := ⟨by unfold upR; rw [Ea1.out]; dsimp only; rw [HOK.out, E3.out]⟩
 have m1 : (Go.bits .and .i64 (a1 : Int) 1 == 1) = true := by have h1 := hm; rw [HU.out] at h1; exact h1
 have m2 : (Go.bits .and .i64 (a1 : Int) 2 == 2) = true := by have h1 := hh; rw [HU.out] at h1; exact h1
 have HM1 := Aside0.mk m1
 have HM2 := Aside0.mk m2
 obtain ⟨x1, y1, z1, hx1⟩ : ∃ a b c, numR s (b3, c3) = (a, (b, c)) := ⟨_, _, _, rfl⟩
 have Ex1 := Aside0.mk hx1
 clear hx1
 obtain ⟨x2, y2, z2, hx2⟩ : ∃ a b c, numR s (y1, z1) = (a, (b, c)) := ⟨_, _, _, rfl⟩
 have Ex2 := Aside0.mk hx2
 clear hx2
 obtain ⟨⟨t1, t2, t3⟩, y3, z3, ht⟩ : ∃ a b c, hardR s (y2, z2) = (a, (b, c)) := ⟨_, _, _, rfl⟩
 have Et := Aside0.mk ht
 clear ht
 have HR : Aside0 (fwdR s g kd (i, e) = (⟨g, kd, (entsR s true 0 (upR s 6 (y3, z3)).1 0 (upR s 6 (y3, z3)).2 []).1, (t1 : Int), (t2 : Int), (t3 : Int), (x1 : Int), (x2 : Int), true, true⟩, (entsR s true 0 (upR s 6 (y3, z3)).1 0 (upR s 6 (y3, z3)).2 []).2)) := ⟨by unfold fwdR markR hedR bit1 bit2; rw [HU.out]; dsimp only; rw [HM1.out, HM2.out]; simp only [if_true, Bool.false_eq_true, if_false, Ex1.out, Ex2.out, Et.out]; try rfl⟩
 clear hok hb hp hs hi hne hm hh
 rw [HR.out]
 go_enter Try.func46, Try.ntmps46
 obtain ⟨C5, hC5⟩ : ∃ C, (match Try.f46.body with | some (.seq _ (.seq _ (.seq _ (.seq _ (.seq _ c))))) => c | _ => .skip) = C := ⟨_, rfl⟩
 have HC5 := Aside0.mk hC5
 simp only [Try.f46] at hC5
 rw [hC5]
 clear hC5
 obtain ⟨hc0, hc1, hc2⟩ := HC.out.box
 obtain ⟨hp0, hp1, hp2, hp3, hp4, hp5, hp6, hp7, hp8, hp9⟩ := HP.out.box
 go_wp2_with fail
 go_at_call 42
 refine (cun s i e B _ HC.out HS.out HI.out Ea1.out).mono ?_
 rintro r w1 ⟨rfl, hc, ho, hi⟩
 replace HC := Aside0.mk hc
 replace HI := Aside0.mk hi
 replace HP := Aside0.mk (BlkP.only HP.out ho (fun h => by have h2 : nP = B := h; have := HN0.out; omega))
 replace HO := Aside0.mk (HO.out.trans (ho.mono (fun _ _ h => .inl h)))
 clear hc ho hi
 clear hc0 hc1 hc2 hp0 hp1 hp2 hp3 hp4 hp5 hp6 hp7 hp8 hp9
 obtain ⟨hc0, hc1, hc2⟩ := HC.out.box
 obtain ⟨hp0, hp1, hp2, hp3, hp4, hp5, hp6, hp7, hp8, hp9⟩ := HP.out.box
 have hok := HOK.out
 go_wp2_with fail
 go_at_call 43
 refine (cumust s b1 c1 B _ HC.out HS.out HI.out ok E3.out).mono ?_
 rintro r w2 ⟨⟨v, rfl⟩, hc, ho, hi⟩
 replace HC := Aside0.mk hc
 replace HI := Aside0.mk hi
 replace HP := Aside0.mk (BlkP.only HP.out ho (fun h => by have h2 : nP = B := h; have := HN0.out; omega))
 replace HO := Aside0.mk (HO.out.trans (ho.mono (fun _ _ h => .inl h)))
 clear hc ho hi
 clear hc0 hc1 hc2 hp0 hp1 hp2 hp3 hp4 hp5 hp6 hp7 hp8 hp9
 obtain ⟨hc0, hc1, hc2⟩ := HC.out.box
 obtain ⟨hp0, hp1, hp2, hp3, hp4, hp5, hp6, hp7, hp8, hp9⟩ := HP.out.box
 clear hok
 have yf := BlkP.free' HP.out
 go_wp2_with fail
 clear yf
 clear hc0 hc1 hc2 hp0 hp1 hp2 hp3 hp4 hp5 hp6 hp7 hp8 hp9
 have hx : Only (fun q => q = nP) w2 ((w2.setCell ⟨nP, 8, none⟩ (.bool true)).setCell ⟨nP, 9, none⟩ (.bool true)) := by (iterate 2 (refine Only.setCell (U := fun q => q = nP) ?_ rfl _)); exact Only.refl _ _
 replace HC := Aside0.mk (HC.out.only hx (fun h => by have h2 : B = nP := h; have := HN0.out; omega))
 replace HO := Aside0.mk (HO.out.trans (hx.mono (fun _ _ h => .inr h)))
 replace HP := Aside0.mk (BlkP.set89 HP.out true true)
 clear hx
 obtain ⟨W3, hW⟩ : ∃ W, ((w2.setCell ⟨nP, 8, none⟩ (.bool true)).setCell ⟨nP, 9, none⟩ (.bool true)) = W := ⟨_, rfl⟩
 rw [hW] at HC HO HP ⊢
 clear hW
 obtain ⟨hc0, hc1, hc2⟩ := HC.out.box
 obtain ⟨hp0, hp1, hp2, hp3, hp4, hp5, hp6, hp7, hp8, hp9⟩ := HP.out.box
 dsimp only at hc0 hc1 hc2 hp0 hp1 hp2 hp3 hp4 hp5 hp6 hp7 hp8 hp9
 try go_wp2_with fail
 go_at_call 42
 refine (cun s b3 c3 B _ HC.out HS.out HI.out Ex1.out).mono ?_
 rintro r w4 ⟨rfl, hc, ho, hi⟩
 replace HC := Aside0.mk hc
 replace HI := Aside0.mk hi
 replace HP := Aside0.mk (BlkP.only HP.out ho (fun h => by have h2 : nP = B := h; have := HN0.out; omega))
 replace HO := Aside0.mk (HO.out.trans (ho.mono (fun _ _ h => .inl h)))
 clear hc ho hi
 clear hc0 hc1 hc2 hp0 hp1 hp2 hp3 hp4 hp5 hp6 hp7 hp8 hp9
 obtain ⟨hc0, hc1, hc2⟩ := HC.out.box
 obtain ⟨hp0, hp1, hp2, hp3, hp4, hp5, hp6, hp7, hp8, hp9⟩ := HP.out.box
 have yf := BlkP.free' HP.out
 go_wp2_with fail
 clear yf
 clear hc0 hc1 hc2 hp0 hp1 hp2 hp3 hp4 hp5 hp6 hp7 hp8 hp9
 have hx : Only (fun q => q = nP) w4 (w4.setCell ⟨nP, 6, none⟩ (.int .i64 (x1 : Int))) := by (iterate 1 (refine Only.setCell (U := fun q => q = nP) ?_ rfl _)); exact Only.refl _ _
 replace HC := Aside0.mk (HC.out.only hx (fun h => by have h2 : B = nP := h; have := HN0.out; omega))
 replace HO := Aside0.mk (HO.out.trans (hx.mono (fun _ _ h => .inr h)))
 replace HP := Aside0.mk (BlkP.set6 HP.out (x1 : Int))
 clear hx
 obtain ⟨W5, hW⟩ : ∃ W, (w4.setCell ⟨nP, 6, none⟩ (.int .i64 (x1 : Int))) = W := ⟨_, rfl⟩
 rw [hW] at HC HO HP ⊢
 clear hW
 obtain ⟨hc0, hc1, hc2⟩ := HC.out.box
 obtain ⟨hp0, hp1, hp2, hp3, hp4, hp5, hp6, hp7, hp8, hp9⟩ := HP.out.box
 dsimp only at hc0 hc1 hc2 hp0 hp1 hp2 hp3 hp4 hp5 hp6 hp7 hp8 hp9
 try go_wp2_with fail
 go_at_call 42
 refine (cun s y1 z1 B _ HC.out HS.out HI.out Ex2.out).mono ?_
 rintro r w6 ⟨rfl, hc, ho, hi⟩
 replace HC := Aside0.mk hc
 replace HI := Aside0.mk hi
 replace HP := Aside0.mk (BlkP.only HP.out ho (fun h => by have h2 : nP = B := h; have := HN0.out; omega))
 replace HO := Aside0.mk (HO.out.trans (ho.mono (fun _ _ h => .inl h)))
 clear hc ho hi
 clear hc0 hc1 hc2 hp0 hp1 hp2 hp3 hp4 hp5 hp6 hp7 hp8 hp9
 obtain ⟨hc0, hc1, hc2⟩ := HC.out.box
 obtain ⟨hp0, hp1, hp2, hp3, hp4, hp5, hp6, hp7, hp8, hp9⟩ := HP.out.box
 have yf := BlkP.free' HP.out
 go_wp2_with fail
 clear yf
 clear hc0 hc1 hc2 hp0 hp1 hp2 hp3 hp4 hp5 hp6 hp7 hp8 hp9
 have hx : Only (fun q => q = nP) w6 (w6.setCell ⟨nP, 7, none⟩ (.int .i64 (x2 : Int))) := by (iterate 1 (refine Only.setCell (U := fun q => q = nP) ?_ rfl _)); exact Only.refl _ _
 replace HC := Aside0.mk (HC.out.only hx (fun h => by have h2 : B = nP := h; have := HN0.out; omega))
 replace HO := Aside0.mk (HO.out.trans (hx.mono (fun _ _ h => .inr h)))
 replace HP := Aside0.mk (BlkP.set7 HP.out (x2 : Int))
 clear hx
 obtain ⟨W7, hW⟩ : ∃ W, (w6.setCell ⟨nP, 7, none⟩ (.int .i64 (x2 : Int))) = W := ⟨_, rfl⟩
 rw [hW] at HC HO HP ⊢
 clear hW
 obtain ⟨hc0, hc1, hc2⟩ := HC.out.box
 obtain ⟨hp0, hp1, hp2, hp3, hp4, hp5, hp6, hp7, hp8, hp9⟩ := HP.out.box
 dsimp only at hc0 hc1 hc2 hp0 hp1 hp2 hp3 hp4 hp5 hp6 hp7 hp8 hp9
 try go_wp2_with fail
 go_at_call 45
 refine (cuhard s y2 z2 B _ HC.out HS.out HI.out Et.out).mono ?_
 rintro r w8 ⟨rfl, hc, ho, hi⟩
 replace HC := Aside0.mk hc
 replace HI := Aside0.mk hi
 replace HP := Aside0.mk (BlkP.only HP.out ho (fun h => by have h2 : nP = B := h; have := HN0.out; omega))
 replace HO := Aside0.mk (HO.out.trans (ho.mono (fun _ _ h => .inl h)))
 clear hc ho hi
 clear hc0 hc1 hc2 hp0 hp1 hp2 hp3 hp4 hp5 hp6 hp7 hp8 hp9
 obtain ⟨hc0, hc1, hc2⟩ := HC.out.box
 obtain ⟨hp0, hp1, hp2, hp3, hp4, hp5, hp6, hp7, hp8, hp9⟩ := HP.out.box
 have yf := BlkP.free' HP.out
 go_wp2_with fail
 clear yf
 clear hc0 hc1 hc2 hp0 hp1 hp2 hp3 hp4 hp5 hp6 hp7 hp8 hp9
 have hx : Only (fun q => q = nP) w8 (((w8.setCell ⟨nP, 3, none⟩ (.int .i64 (t1 : Int))).setCell ⟨nP, 4, none⟩ (.int .i64 (t2 : Int))).setCell ⟨nP, 5, none⟩ (.int .i64 (t3 : Int))) := by (iterate 3 (refine Only.setCell (U := fun q => q = nP) ?_ rfl _)); exact Only.refl _ _
 replace HC := Aside0.mk (HC.out.only hx (fun h => by have h2 : B = nP := h; have := HN0.out; omega))
 replace HO := Aside0.mk (HO.out.trans (hx.mono (fun _ _ h => .inr h)))
 replace HP := Aside0.mk (BlkP.set345 HP.out (t1 : Int) (t2 : Int) (t3 : Int))
 clear hx
 obtain ⟨W9, hW⟩ : ∃ W, (((w8.setCell ⟨nP, 3, none⟩ (.int .i64 (t1 : Int))).setCell ⟨nP, 4, none⟩ (.int .i64 (t2 : Int))).setCell ⟨nP, 5, none⟩ (.int .i64 (t3 : Int))) = W := ⟨_, rfl⟩
 rw [hW] at HC HO HP ⊢
 clear hW
 obtain ⟨hc0, hc1, hc2⟩ := HC.out.box
 obtain ⟨hp0, hp1, hp2, hp3, hp4, hp5, hp6, hp7, hp8, hp9⟩ := HP.out.box
 dsimp only at hc0 hc1 hc2 hp0 hp1 hp2 hp3 hp4 hp5 hp6 hp7 hp8 hp9
 try go_wp2_with fail
 exact cu_fwd_tail ⟨g, kd, [], (t1 : Int), (t2 : Int), (t3 : Int), (x1 : Int), (x2 : Int), true, true⟩ s y3 z3 B nP w _ C5 HC5.out _ _ _ _ _ _ _ _ _ _ _ _ _ _ _ _ _ _ _ _ _ _ _ _ _ _ _ _ _ _ _ _ _ _ _ _ _ _ _ _ _ _ _ _ _ _ _ _ _ _ _ _ _ _ _ _ _ _ _ _ _ _ _ _ _ _ _ _ _ _ _ _ _ _ _ _ _ _ _ _ _ _ _ _ HC.out HP.out HO.out HS.out HI.out HN0.out HLT.out
theorem cu_forward (s : ByteArray) (i e B nP : Nat) (g kd : Int) (w : World) (hb : BlkC 72 s i e B w) (hp : BlkP ⟨g, kd, [], 0, 0, 0, 0, 0, false, false⟩ none 0 nP w) (hs : s.size ≤ 140737488351232) (hi : i ≤ s.size) (hne : B ≠ nP) {P : Prt} {b c : Nat} (hR : fwdR s g kd (i, e) = (P, (b, c))) :
  Calls Try.prog 46 #[.pointer (some ⟨B, 0, none⟩), .pointer (some ⟨nP, 0, none⟩)] w fun r w' => (∃ v, r = .returned v) ∧ ∃ A c', BlkP P A c' nP w' ∧ Rd w' A c' P.l ∧ BlkC 72 s b c B w' ∧ Only (fun q => q = B ∨ q = nP) w w' ∧ b ≤ s.size := by
  cases hm : bit1 (upR s 3 (i, e)).1 <;> cases hh : bit2 (upR s 3 (i, e)).1
  · have := cu_fwd_ff s i e B nP g kd w hb hp hs hi hne hm hh; rw [hR] at this; exact this
  · have := cu_fwd_ft s i e B nP g kd w hb hp hs hi hne hm hh; rw [hR] at this; exact this
  · have := cu_fwd_tf s i e B nP g kd w hb hp hs hi hne hm hh; rw [hR] at this; exact this
  · have := cu_fwd_tt s i e B nP g kd w hb hp hs hi hne hm hh; rw [hR] at this; exact this
end Go.Proofs.Ytokjhocjemjfiaa.PartW
