/- part.numbers: what its iterator hands over. -/
import Derived.Test.YtokjhocjemjfiaaRdA
import Derived.Test.YtokjhocjemjfiaaSeq3
set_option linter.unusedVariables false
set_option linter.unusedSimpArgs false
namespace Go.Proofs.Ytokjhocjemjfiaa.PartW
open Go Go.RowKit Go.Shelf Go.Proofs.Ytokjhocjemjfiaa.A Go.Proofs.Ytokjhocjemjfiaa.Sp Go.Proofs.Ytokjhocjemjfiaa.Reg Go.Proofs.Ytokjhocjemjfiaa.Seq Go.Proofs.YtokjhocjemjfiaaW.PrintWords Go.Proofs.YtokjhocjemjfiaaW.PrintLast Go.Proofs.YtokjhocjemjfiaaW.PrintMore
attribute [local go_sem] Oper.semAt_some
/-- has a part of this kind a mark, a hard state -/
def atK (k : Int) (m : Bool) : Bool := decide (k = 3) || (decide (k = 4) || m)
def hdK (k : Int) (h : Bool) : Bool := decide (k = 2) || h
def numA (nP : Nat) (a h : Bool) : List Addr := (if a then [⟨nP, 6, none⟩, ⟨nP, 7, none⟩] else []) ++ (if h then [⟨nP, 3, none⟩, ⟨nP, 4, none⟩, ⟨nP, 5, none⟩] else [])
abbrev encA (x : Addr) : Array Value := #[.pointer (some x)]
def KeyC (nP : Nat) (k : Int) (m h : Bool) (W : World) : Prop := W.cell? ⟨nP, 1, none⟩ = some (.int .i64 k) ∧ W.cell? ⟨nP, 8, none⟩ = some (.bool m) ∧ W.cell? ⟨nP, 9, none⟩ = some (.bool h)
theorem numbers_calls (a : Addr) (w : World) :
    CallsIn Fence.wide 0 Try.prog 24 #[.pointer (some a)] w fun e w' => e = .returned (.func (.func 48) #[] #[.pointer (some ⟨w.heap.size, 0, none⟩)]) ∧ w' = w.alloc (.cells #[.pointer (some a)] 57) := by
  refine callsIn_of_wp Try.func24 rfl trivial ?_
  simp only [Try.ntmps24, List.size_toArray, List.length_cons, List.length_nil, Nat.reduceAdd, Nat.reduceSub, Array.replicate_succ, Array.replicate_zero, List.push_toArray, List.append_toArray, List.nil_append, List.cons_append]
  gi_wp2
  go_ret
  exact ⟨rfl, rfl⟩
set_option maxHeartbeats 2000000 in
theorem nums_3_h (nP Bp : Nat) (k : Int) (m h : Bool) (w : World) (hbx : Boxed w Bp 57 (.pointer (some ⟨nP, 0, none⟩))) (hk : k = 3) (h2 : k ≠ 2) :
  Iter3 Try.prog 48 #[.pointer (some ⟨Bp, 0, none⟩)] encA (numA nP true true) (fun _ => False) (fun b => b = Bp) (KeyC nP k m true) w := by
 have k3 : (k == 3) = true := beq_iff_eq.2 (by omega)
 have k4 : (k == 4) = false := beq_eq_false_iff_ne.2 (by omega)
 have k2 : (k == 2) = false := beq_eq_false_iff_ne.2 (by omega)
 intro l J Jx W hK hC hJ hJx hY h0
 have HB := Aside0.mk (hK.boxed hbx rfl)
 have HJ := Aside0.mk h0
 have HC := Aside0.mk (hC _ _ h0)
 clear hK hbx h0 hk h2
 refine callsIn_of_wp Try.func48 rfl trivial ?_
 simp only [Try.ntmps48, List.size_toArray, List.length_cons, List.length_nil, Nat.reduceAdd, Nat.reduceSub, Array.replicate_succ, Array.replicate_zero, List.push_toArray, List.append_toArray, List.nil_append, List.cons_append]
 have b0 := HB.out.cell
 obtain ⟨c0, c1, c2⟩ := HC.out
 gi_wp2
 repeat (refine ⟨(fun f hf => by cases hf), ?_⟩; gi_wp2)
 refine yield_at (hY 0 _ _ rfl HJ.out) ?_
 rintro e W1 (⟨rfl, hj, hk3⟩ | ⟨rfl, hjx⟩)
 rotate_left
 · clear b0 c0 c1 c2
   gi_wp2
   repeat (refine ⟨(fun f hf => by cases hf), ?_⟩; gi_wp2)
   first | go_end0 | refine bodyPost_ret (results_none rfl _ _ _) rfl ?_
   exact ⟨⟨_, rfl⟩, .inr ⟨0, _, rfl, hjx⟩⟩
 replace HB := Aside0.mk (hk3.boxed HB.out rfl)
 replace HJ := Aside0.mk hj
 replace HC := Aside0.mk (hC _ _ hj)
 clear b0 c0 c1 c2 hk3 hj
 have b0 := HB.out.cell
 obtain ⟨c0, c1, c2⟩ := HC.out
 gi_wp2
 repeat (refine ⟨(fun f hf => by cases hf), ?_⟩; gi_wp2)
 refine yield_at (hY 1 _ _ rfl HJ.out) ?_
 rintro e W2 (⟨rfl, hj, hk3⟩ | ⟨rfl, hjx⟩)
 rotate_left
 · clear b0 c0 c1 c2
   gi_wp2
   repeat (refine ⟨(fun f hf => by cases hf), ?_⟩; gi_wp2)
   first | go_end0 | refine bodyPost_ret (results_none rfl _ _ _) rfl ?_
   exact ⟨⟨_, rfl⟩, .inr ⟨1, _, rfl, hjx⟩⟩
 replace HB := Aside0.mk (hk3.boxed HB.out rfl)
 replace HJ := Aside0.mk hj
 replace HC := Aside0.mk (hC _ _ hj)
 clear b0 c0 c1 c2 hk3 hj
 have b0 := HB.out.cell
 obtain ⟨c0, c1, c2⟩ := HC.out
 gi_wp2
 repeat (refine ⟨(fun f hf => by cases hf), ?_⟩; gi_wp2)
 refine yield_at (hY 2 _ _ rfl HJ.out) ?_
 rintro e W3 (⟨rfl, hj, hk3⟩ | ⟨rfl, hjx⟩)
 rotate_left
 · clear b0 c0 c1 c2
   gi_wp2
   repeat (refine ⟨(fun f hf => by cases hf), ?_⟩; gi_wp2)
   first | go_end0 | refine bodyPost_ret (results_none rfl _ _ _) rfl ?_
   exact ⟨⟨_, rfl⟩, .inr ⟨2, _, rfl, hjx⟩⟩
 replace HB := Aside0.mk (hk3.boxed HB.out rfl)
 replace HJ := Aside0.mk hj
 replace HC := Aside0.mk (hC _ _ hj)
 clear b0 c0 c1 c2 hk3 hj
 have b0 := HB.out.cell
 obtain ⟨c0, c1, c2⟩ := HC.out
 gi_wp2
 repeat (refine ⟨(fun f hf => by cases hf), ?_⟩; gi_wp2)
 refine yield_at (hY 3 _ _ rfl HJ.out) ?_
 rintro e W4 (⟨rfl, hj, hk3⟩ | ⟨rfl, hjx⟩)
 rotate_left
 · clear b0 c0 c1 c2
   gi_wp2
   repeat (refine ⟨(fun f hf => by cases hf), ?_⟩; gi_wp2)
   first | go_end0 | refine bodyPost_ret (results_none rfl _ _ _) rfl ?_
   exact ⟨⟨_, rfl⟩, .inr ⟨3, _, rfl, hjx⟩⟩
 replace HB := Aside0.mk (hk3.boxed HB.out rfl)
 replace HJ := Aside0.mk hj
 replace HC := Aside0.mk (hC _ _ hj)
 clear b0 c0 c1 c2 hk3 hj
 have b0 := HB.out.cell
 obtain ⟨c0, c1, c2⟩ := HC.out
 gi_wp2
 repeat (refine ⟨(fun f hf => by cases hf), ?_⟩; gi_wp2)
 refine yield_at (hY 4 _ _ rfl HJ.out) ?_
 rintro e W5 (⟨rfl, hj, hk3⟩ | ⟨rfl, hjx⟩)
 rotate_left
 · clear b0 c0 c1 c2
   gi_wp2
   repeat (refine ⟨(fun f hf => by cases hf), ?_⟩; gi_wp2)
   first | go_end0 | refine bodyPost_ret (results_none rfl _ _ _) rfl ?_
   exact ⟨⟨_, rfl⟩, .inr ⟨4, _, rfl, hjx⟩⟩
 replace HB := Aside0.mk (hk3.boxed HB.out rfl)
 replace HJ := Aside0.mk hj
 replace HC := Aside0.mk (hC _ _ hj)
 clear b0 c0 c1 c2 hk3 hj
 have b0 := HB.out.cell
 obtain ⟨c0, c1, c2⟩ := HC.out
 gi_wp2
 repeat (refine ⟨(fun f hf => by cases hf), ?_⟩; gi_wp2)
 first | go_end0 | refine bodyPost_ret (results_none rfl _ _ _) rfl ?_
 exact ⟨⟨_, rfl⟩, .inl HJ.out⟩
set_option maxHeartbeats 2000000 in
theorem nums_3_no (nP Bp : Nat) (k : Int) (m h : Bool) (w : World) (hbx : Boxed w Bp 57 (.pointer (some ⟨nP, 0, none⟩))) (hk : k = 3) (h2 : k ≠ 2) :
  Iter3 Try.prog 48 #[.pointer (some ⟨Bp, 0, none⟩)] encA (numA nP true false) (fun _ => False) (fun b => b = Bp) (KeyC nP k m false) w := by
 have k3 : (k == 3) = true := beq_iff_eq.2 (by omega)
 have k4 : (k == 4) = false := beq_eq_false_iff_ne.2 (by omega)
 have k2 : (k == 2) = false := beq_eq_false_iff_ne.2 (by omega)
 intro l J Jx W hK hC hJ hJx hY h0
 have HB := Aside0.mk (hK.boxed hbx rfl)
 have HJ := Aside0.mk h0
 have HC := Aside0.mk (hC _ _ h0)
 clear hK hbx h0 hk h2
 refine callsIn_of_wp Try.func48 rfl trivial ?_
 simp only [Try.ntmps48, List.size_toArray, List.length_cons, List.length_nil, Nat.reduceAdd, Nat.reduceSub, Array.replicate_succ, Array.replicate_zero, List.push_toArray, List.append_toArray, List.nil_append, List.cons_append]
 have b0 := HB.out.cell
 obtain ⟨c0, c1, c2⟩ := HC.out
 gi_wp2
 repeat (refine ⟨(fun f hf => by cases hf), ?_⟩; gi_wp2)
 refine yield_at (hY 0 _ _ rfl HJ.out) ?_
 rintro e W1 (⟨rfl, hj, hk3⟩ | ⟨rfl, hjx⟩)
 rotate_left
 · clear b0 c0 c1 c2
   gi_wp2
   repeat (refine ⟨(fun f hf => by cases hf), ?_⟩; gi_wp2)
   first | go_end0 | refine bodyPost_ret (results_none rfl _ _ _) rfl ?_
   exact ⟨⟨_, rfl⟩, .inr ⟨0, _, rfl, hjx⟩⟩
 replace HB := Aside0.mk (hk3.boxed HB.out rfl)
 replace HJ := Aside0.mk hj
 replace HC := Aside0.mk (hC _ _ hj)
 clear b0 c0 c1 c2 hk3 hj
 have b0 := HB.out.cell
 obtain ⟨c0, c1, c2⟩ := HC.out
 gi_wp2
 repeat (refine ⟨(fun f hf => by cases hf), ?_⟩; gi_wp2)
 refine yield_at (hY 1 _ _ rfl HJ.out) ?_
 rintro e W2 (⟨rfl, hj, hk3⟩ | ⟨rfl, hjx⟩)
 rotate_left
 · clear b0 c0 c1 c2
   gi_wp2
   repeat (refine ⟨(fun f hf => by cases hf), ?_⟩; gi_wp2)
   first | go_end0 | refine bodyPost_ret (results_none rfl _ _ _) rfl ?_
   exact ⟨⟨_, rfl⟩, .inr ⟨1, _, rfl, hjx⟩⟩
 replace HB := Aside0.mk (hk3.boxed HB.out rfl)
 replace HJ := Aside0.mk hj
 replace HC := Aside0.mk (hC _ _ hj)
 clear b0 c0 c1 c2 hk3 hj
 have b0 := HB.out.cell
 obtain ⟨c0, c1, c2⟩ := HC.out
 gi_wp2
 repeat (refine ⟨(fun f hf => by cases hf), ?_⟩; gi_wp2)
 first | go_end0 | refine bodyPost_ret (results_none rfl _ _ _) rfl ?_
 exact ⟨⟨_, rfl⟩, .inl HJ.out⟩
set_option maxHeartbeats 2000000 in
theorem nums_4_h (nP Bp : Nat) (k : Int) (m h : Bool) (w : World) (hbx : Boxed w Bp 57 (.pointer (some ⟨nP, 0, none⟩))) (hk : k = 4) (h2 : k ≠ 2) :
  Iter3 Try.prog 48 #[.pointer (some ⟨Bp, 0, none⟩)] encA (numA nP true true) (fun _ => False) (fun b => b = Bp) (KeyC nP k m true) w := by
 have k3 : (k == 3) = false := beq_eq_false_iff_ne.2 (by omega)
 have k4 : (k == 4) = true := beq_iff_eq.2 (by omega)
 have k2 : (k == 2) = false := beq_eq_false_iff_ne.2 (by omega)
 intro l J Jx W hK hC hJ hJx hY h0
 have HB := Aside0.mk (hK.boxed hbx rfl)
 have HJ := Aside0.mk h0
 have HC := Aside0.mk (hC _ _ h0)
 clear hK hbx h0 hk h2
 refine callsIn_of_wp Try.func48 rfl trivial ?_
 simp only [Try.ntmps48, List.size_toArray, List.length_cons, List.length_nil, Nat.reduceAdd, Nat.reduceSub, Array.replicate_succ, Array.replicate_zero, List.push_toArray, List.append_toArray, List.nil_append, List.cons_append]
 have b0 := HB.out.cell
 obtain ⟨c0, c1, c2⟩ := HC.out
 gi_wp2
 repeat (refine ⟨(fun f hf => by cases hf), ?_⟩; gi_wp2)
 refine yield_at (hY 0 _ _ rfl HJ.out) ?_
 rintro e W1 (⟨rfl, hj, hk3⟩ | ⟨rfl, hjx⟩)
 rotate_left
 · clear b0 c0 c1 c2
   gi_wp2
   repeat (refine ⟨(fun f hf => by cases hf), ?_⟩; gi_wp2)
   first | go_end0 | refine bodyPost_ret (results_none rfl _ _ _) rfl ?_
   exact ⟨⟨_, rfl⟩, .inr ⟨0, _, rfl, hjx⟩⟩
 replace HB := Aside0.mk (hk3.boxed HB.out rfl)
 replace HJ := Aside0.mk hj
 replace HC := Aside0.mk (hC _ _ hj)
 clear b0 c0 c1 c2 hk3 hj
 have b0 := HB.out.cell
 obtain ⟨c0, c1, c2⟩ := HC.out
 gi_wp2
 repeat (refine ⟨(fun f hf => by cases hf), ?_⟩; gi_wp2)
 refine yield_at (hY 1 _ _ rfl HJ.out) ?_
 rintro e W2 (⟨rfl, hj, hk3⟩ | ⟨rfl, hjx⟩)
 rotate_left
 · clear b0 c0 c1 c2
   gi_wp2
   repeat (refine ⟨(fun f hf => by cases hf), ?_⟩; gi_wp2)
   first | go_end0 | refine bodyPost_ret (results_none rfl _ _ _) rfl ?_
   exact ⟨⟨_, rfl⟩, .inr ⟨1, _, rfl, hjx⟩⟩
 replace HB := Aside0.mk (hk3.boxed HB.out rfl)
 replace HJ := Aside0.mk hj
 replace HC := Aside0.mk (hC _ _ hj)
 clear b0 c0 c1 c2 hk3 hj
 have b0 := HB.out.cell
 obtain ⟨c0, c1, c2⟩ := HC.out
 gi_wp2
 repeat (refine ⟨(fun f hf => by cases hf), ?_⟩; gi_wp2)
 refine yield_at (hY 2 _ _ rfl HJ.out) ?_
 rintro e W3 (⟨rfl, hj, hk3⟩ | ⟨rfl, hjx⟩)
 rotate_left
 · clear b0 c0 c1 c2
   gi_wp2
   repeat (refine ⟨(fun f hf => by cases hf), ?_⟩; gi_wp2)
   first | go_end0 | refine bodyPost_ret (results_none rfl _ _ _) rfl ?_
   exact ⟨⟨_, rfl⟩, .inr ⟨2, _, rfl, hjx⟩⟩
 replace HB := Aside0.mk (hk3.boxed HB.out rfl)
 replace HJ := Aside0.mk hj
 replace HC := Aside0.mk (hC _ _ hj)
 clear b0 c0 c1 c2 hk3 hj
 have b0 := HB.out.cell
 obtain ⟨c0, c1, c2⟩ := HC.out
 gi_wp2
 repeat (refine ⟨(fun f hf => by cases hf), ?_⟩; gi_wp2)
 refine yield_at (hY 3 _ _ rfl HJ.out) ?_
 rintro e W4 (⟨rfl, hj, hk3⟩ | ⟨rfl, hjx⟩)
 rotate_left
 · clear b0 c0 c1 c2
   gi_wp2
   repeat (refine ⟨(fun f hf => by cases hf), ?_⟩; gi_wp2)
   first | go_end0 | refine bodyPost_ret (results_none rfl _ _ _) rfl ?_
   exact ⟨⟨_, rfl⟩, .inr ⟨3, _, rfl, hjx⟩⟩
 replace HB := Aside0.mk (hk3.boxed HB.out rfl)
 replace HJ := Aside0.mk hj
 replace HC := Aside0.mk (hC _ _ hj)
 clear b0 c0 c1 c2 hk3 hj
 have b0 := HB.out.cell
 obtain ⟨c0, c1, c2⟩ := HC.out
 gi_wp2
 repeat (refine ⟨(fun f hf => by cases hf), ?_⟩; gi_wp2)
 refine yield_at (hY 4 _ _ rfl HJ.out) ?_
 rintro e W5 (⟨rfl, hj, hk3⟩ | ⟨rfl, hjx⟩)
 rotate_left
 · clear b0 c0 c1 c2
   gi_wp2
   repeat (refine ⟨(fun f hf => by cases hf), ?_⟩; gi_wp2)
   first | go_end0 | refine bodyPost_ret (results_none rfl _ _ _) rfl ?_
   exact ⟨⟨_, rfl⟩, .inr ⟨4, _, rfl, hjx⟩⟩
 replace HB := Aside0.mk (hk3.boxed HB.out rfl)
 replace HJ := Aside0.mk hj
 replace HC := Aside0.mk (hC _ _ hj)
 clear b0 c0 c1 c2 hk3 hj
 have b0 := HB.out.cell
 obtain ⟨c0, c1, c2⟩ := HC.out
 gi_wp2
 repeat (refine ⟨(fun f hf => by cases hf), ?_⟩; gi_wp2)
 first | go_end0 | refine bodyPost_ret (results_none rfl _ _ _) rfl ?_
 exact ⟨⟨_, rfl⟩, .inl HJ.out⟩
set_option maxHeartbeats 2000000 in
theorem nums_4_no (nP Bp : Nat) (k : Int) (m h : Bool) (w : World) (hbx : Boxed w Bp 57 (.pointer (some ⟨nP, 0, none⟩))) (hk : k = 4) (h2 : k ≠ 2) :
  Iter3 Try.prog 48 #[.pointer (some ⟨Bp, 0, none⟩)] encA (numA nP true false) (fun _ => False) (fun b => b = Bp) (KeyC nP k m false) w := by
 have k3 : (k == 3) = false := beq_eq_false_iff_ne.2 (by omega)
 have k4 : (k == 4) = true := beq_iff_eq.2 (by omega)
 have k2 : (k == 2) = false := beq_eq_false_iff_ne.2 (by omega)
 intro l J Jx W hK hC hJ hJx hY h0
 have HB := Aside0.mk (hK.boxed hbx rfl)
 have HJ := Aside0.mk h0
 have HC := Aside0.mk (hC _ _ h0)
 clear hK hbx h0 hk h2
 refine callsIn_of_wp Try.func48 rfl trivial ?_
 simp only [Try.ntmps48, List.size_toArray, List.length_cons, List.length_nil, Nat.reduceAdd, Nat.reduceSub, Array.replicate_succ, Array.replicate_zero, List.push_toArray, List.append_toArray, List.nil_append, List.cons_append]
 have b0 := HB.out.cell
 obtain ⟨c0, c1, c2⟩ := HC.out
 gi_wp2
 repeat (refine ⟨(fun f hf => by cases hf), ?_⟩; gi_wp2)
 refine yield_at (hY 0 _ _ rfl HJ.out) ?_
 rintro e W1 (⟨rfl, hj, hk3⟩ | ⟨rfl, hjx⟩)
 rotate_left
 · clear b0 c0 c1 c2
   gi_wp2
   repeat (refine ⟨(fun f hf => by cases hf), ?_⟩; gi_wp2)
   first | go_end0 | refine bodyPost_ret (results_none rfl _ _ _) rfl ?_
   exact ⟨⟨_, rfl⟩, .inr ⟨0, _, rfl, hjx⟩⟩
 replace HB := Aside0.mk (hk3.boxed HB.out rfl)
 replace HJ := Aside0.mk hj
 replace HC := Aside0.mk (hC _ _ hj)
 clear b0 c0 c1 c2 hk3 hj
 have b0 := HB.out.cell
 obtain ⟨c0, c1, c2⟩ := HC.out
 gi_wp2
 repeat (refine ⟨(fun f hf => by cases hf), ?_⟩; gi_wp2)
 refine yield_at (hY 1 _ _ rfl HJ.out) ?_
 rintro e W2 (⟨rfl, hj, hk3⟩ | ⟨rfl, hjx⟩)
 rotate_left
 · clear b0 c0 c1 c2
   gi_wp2
   repeat (refine ⟨(fun f hf => by cases hf), ?_⟩; gi_wp2)
   first | go_end0 | refine bodyPost_ret (results_none rfl _ _ _) rfl ?_
   exact ⟨⟨_, rfl⟩, .inr ⟨1, _, rfl, hjx⟩⟩
 replace HB := Aside0.mk (hk3.boxed HB.out rfl)
 replace HJ := Aside0.mk hj
 replace HC := Aside0.mk (hC _ _ hj)
 clear b0 c0 c1 c2 hk3 hj
 have b0 := HB.out.cell
 obtain ⟨c0, c1, c2⟩ := HC.out
 gi_wp2
 repeat (refine ⟨(fun f hf => by cases hf), ?_⟩; gi_wp2)
 first | go_end0 | refine bodyPost_ret (results_none rfl _ _ _) rfl ?_
 exact ⟨⟨_, rfl⟩, .inl HJ.out⟩
set_option maxHeartbeats 2000000 in
theorem nums_m_2 (nP Bp : Nat) (k : Int) (m h : Bool) (w : World) (hbx : Boxed w Bp 57 (.pointer (some ⟨nP, 0, none⟩))) (h3 : k ≠ 3) (h4 : k ≠ 4) (h2 : k = 2) :
  Iter3 Try.prog 48 #[.pointer (some ⟨Bp, 0, none⟩)] encA (numA nP true true) (fun _ => False) (fun b => b = Bp) (KeyC nP k true h) w := by
 have k3 : (k == 3) = false := beq_eq_false_iff_ne.2 (by omega)
 have k4 : (k == 4) = false := beq_eq_false_iff_ne.2 (by omega)
 have k2 : (k == 2) = true := beq_iff_eq.2 (by omega)
 intro l J Jx W hK hC hJ hJx hY h0
 have HB := Aside0.mk (hK.boxed hbx rfl)
 have HJ := Aside0.mk h0
 have HC := Aside0.mk (hC _ _ h0)
 clear hK hbx h0 h3 h4 h2
 refine callsIn_of_wp Try.func48 rfl trivial ?_
 simp only [Try.ntmps48, List.size_toArray, List.length_cons, List.length_nil, Nat.reduceAdd, Nat.reduceSub, Array.replicate_succ, Array.replicate_zero, List.push_toArray, List.append_toArray, List.nil_append, List.cons_append]
 have b0 := HB.out.cell
 obtain ⟨c0, c1, c2⟩ := HC.out
 gi_wp2
 repeat (refine ⟨(fun f hf => by cases hf), ?_⟩; gi_wp2)
 refine yield_at (hY 0 _ _ rfl HJ.out) ?_
 rintro e W1 (⟨rfl, hj, hk3⟩ | ⟨rfl, hjx⟩)
 rotate_left
 · clear b0 c0 c1 c2
   gi_wp2
   repeat (refine ⟨(fun f hf => by cases hf), ?_⟩; gi_wp2)
   first | go_end0 | refine bodyPost_ret (results_none rfl _ _ _) rfl ?_
   exact ⟨⟨_, rfl⟩, .inr ⟨0, _, rfl, hjx⟩⟩
 replace HB := Aside0.mk (hk3.boxed HB.out rfl)
 replace HJ := Aside0.mk hj
 replace HC := Aside0.mk (hC _ _ hj)
 clear b0 c0 c1 c2 hk3 hj
 have b0 := HB.out.cell
 obtain ⟨c0, c1, c2⟩ := HC.out
 gi_wp2
 repeat (refine ⟨(fun f hf => by cases hf), ?_⟩; gi_wp2)
 refine yield_at (hY 1 _ _ rfl HJ.out) ?_
 rintro e W2 (⟨rfl, hj, hk3⟩ | ⟨rfl, hjx⟩)
 rotate_left
 · clear b0 c0 c1 c2
   gi_wp2
   repeat (refine ⟨(fun f hf => by cases hf), ?_⟩; gi_wp2)
   first | go_end0 | refine bodyPost_ret (results_none rfl _ _ _) rfl ?_
   exact ⟨⟨_, rfl⟩, .inr ⟨1, _, rfl, hjx⟩⟩
 replace HB := Aside0.mk (hk3.boxed HB.out rfl)
 replace HJ := Aside0.mk hj
 replace HC := Aside0.mk (hC _ _ hj)
 clear b0 c0 c1 c2 hk3 hj
 have b0 := HB.out.cell
 obtain ⟨c0, c1, c2⟩ := HC.out
 gi_wp2
 repeat (refine ⟨(fun f hf => by cases hf), ?_⟩; gi_wp2)
 refine yield_at (hY 2 _ _ rfl HJ.out) ?_
 rintro e W3 (⟨rfl, hj, hk3⟩ | ⟨rfl, hjx⟩)
 rotate_left
 · clear b0 c0 c1 c2
   gi_wp2
   repeat (refine ⟨(fun f hf => by cases hf), ?_⟩; gi_wp2)
   first | go_end0 | refine bodyPost_ret (results_none rfl _ _ _) rfl ?_
   exact ⟨⟨_, rfl⟩, .inr ⟨2, _, rfl, hjx⟩⟩
 replace HB := Aside0.mk (hk3.boxed HB.out rfl)
 replace HJ := Aside0.mk hj
 replace HC := Aside0.mk (hC _ _ hj)
 clear b0 c0 c1 c2 hk3 hj
 have b0 := HB.out.cell
 obtain ⟨c0, c1, c2⟩ := HC.out
 gi_wp2
 repeat (refine ⟨(fun f hf => by cases hf), ?_⟩; gi_wp2)
 refine yield_at (hY 3 _ _ rfl HJ.out) ?_
 rintro e W4 (⟨rfl, hj, hk3⟩ | ⟨rfl, hjx⟩)
 rotate_left
 · clear b0 c0 c1 c2
   gi_wp2
   repeat (refine ⟨(fun f hf => by cases hf), ?_⟩; gi_wp2)
   first | go_end0 | refine bodyPost_ret (results_none rfl _ _ _) rfl ?_
   exact ⟨⟨_, rfl⟩, .inr ⟨3, _, rfl, hjx⟩⟩
 replace HB := Aside0.mk (hk3.boxed HB.out rfl)
 replace HJ := Aside0.mk hj
 replace HC := Aside0.mk (hC _ _ hj)
 clear b0 c0 c1 c2 hk3 hj
 have b0 := HB.out.cell
 obtain ⟨c0, c1, c2⟩ := HC.out
 gi_wp2
 repeat (refine ⟨(fun f hf => by cases hf), ?_⟩; gi_wp2)
 refine yield_at (hY 4 _ _ rfl HJ.out) ?_
 rintro e W5 (⟨rfl, hj, hk3⟩ | ⟨rfl, hjx⟩)
 rotate_left
 · clear b0 c0 c1 c2
   gi_wp2
   repeat (refine ⟨(fun f hf => by cases hf), ?_⟩; gi_wp2)
   first | go_end0 | refine bodyPost_ret (results_none rfl _ _ _) rfl ?_
   exact ⟨⟨_, rfl⟩, .inr ⟨4, _, rfl, hjx⟩⟩
 replace HB := Aside0.mk (hk3.boxed HB.out rfl)
 replace HJ := Aside0.mk hj
 replace HC := Aside0.mk (hC _ _ hj)
 clear b0 c0 c1 c2 hk3 hj
 have b0 := HB.out.cell
 obtain ⟨c0, c1, c2⟩ := HC.out
 gi_wp2
 repeat (refine ⟨(fun f hf => by cases hf), ?_⟩; gi_wp2)
 first | go_end0 | refine bodyPost_ret (results_none rfl _ _ _) rfl ?_
 exact ⟨⟨_, rfl⟩, .inl HJ.out⟩
set_option maxHeartbeats 2000000 in
theorem nums_m_h (nP Bp : Nat) (k : Int) (m h : Bool) (w : World) (hbx : Boxed w Bp 57 (.pointer (some ⟨nP, 0, none⟩))) (h3 : k ≠ 3) (h4 : k ≠ 4) (h2 : k ≠ 2) :
  Iter3 Try.prog 48 #[.pointer (some ⟨Bp, 0, none⟩)] encA (numA nP true true) (fun _ => False) (fun b => b = Bp) (KeyC nP k true true) w := by
 have k3 : (k == 3) = false := beq_eq_false_iff_ne.2 (by omega)
 have k4 : (k == 4) = false := beq_eq_false_iff_ne.2 (by omega)
 have k2 : (k == 2) = false := beq_eq_false_iff_ne.2 (by omega)
 intro l J Jx W hK hC hJ hJx hY h0
 have HB := Aside0.mk (hK.boxed hbx rfl)
 have HJ := Aside0.mk h0
 have HC := Aside0.mk (hC _ _ h0)
 clear hK hbx h0 h3 h4 h2
 refine callsIn_of_wp Try.func48 rfl trivial ?_
 simp only [Try.ntmps48, List.size_toArray, List.length_cons, List.length_nil, Nat.reduceAdd, Nat.reduceSub, Array.replicate_succ, Array.replicate_zero, List.push_toArray, List.append_toArray, List.nil_append, List.cons_append]
 have b0 := HB.out.cell
 obtain ⟨c0, c1, c2⟩ := HC.out
 gi_wp2
 repeat (refine ⟨(fun f hf => by cases hf), ?_⟩; gi_wp2)
 refine yield_at (hY 0 _ _ rfl HJ.out) ?_
 rintro e W1 (⟨rfl, hj, hk3⟩ | ⟨rfl, hjx⟩)
 rotate_left
 · clear b0 c0 c1 c2
   gi_wp2
   repeat (refine ⟨(fun f hf => by cases hf), ?_⟩; gi_wp2)
   first | go_end0 | refine bodyPost_ret (results_none rfl _ _ _) rfl ?_
   exact ⟨⟨_, rfl⟩, .inr ⟨0, _, rfl, hjx⟩⟩
 replace HB := Aside0.mk (hk3.boxed HB.out rfl)
 replace HJ := Aside0.mk hj
 replace HC := Aside0.mk (hC _ _ hj)
 clear b0 c0 c1 c2 hk3 hj
 have b0 := HB.out.cell
 obtain ⟨c0, c1, c2⟩ := HC.out
 gi_wp2
 repeat (refine ⟨(fun f hf => by cases hf), ?_⟩; gi_wp2)
 refine yield_at (hY 1 _ _ rfl HJ.out) ?_
 rintro e W2 (⟨rfl, hj, hk3⟩ | ⟨rfl, hjx⟩)
 rotate_left
 · clear b0 c0 c1 c2
   gi_wp2
   repeat (refine ⟨(fun f hf => by cases hf), ?_⟩; gi_wp2)
   first | go_end0 | refine bodyPost_ret (results_none rfl _ _ _) rfl ?_
   exact ⟨⟨_, rfl⟩, .inr ⟨1, _, rfl, hjx⟩⟩
 replace HB := Aside0.mk (hk3.boxed HB.out rfl)
 replace HJ := Aside0.mk hj
 replace HC := Aside0.mk (hC _ _ hj)
 clear b0 c0 c1 c2 hk3 hj
 have b0 := HB.out.cell
 obtain ⟨c0, c1, c2⟩ := HC.out
 gi_wp2
 repeat (refine ⟨(fun f hf => by cases hf), ?_⟩; gi_wp2)
 refine yield_at (hY 2 _ _ rfl HJ.out) ?_
 rintro e W3 (⟨rfl, hj, hk3⟩ | ⟨rfl, hjx⟩)
 rotate_left
 · clear b0 c0 c1 c2
   gi_wp2
   repeat (refine ⟨(fun f hf => by cases hf), ?_⟩; gi_wp2)
   first | go_end0 | refine bodyPost_ret (results_none rfl _ _ _) rfl ?_
   exact ⟨⟨_, rfl⟩, .inr ⟨2, _, rfl, hjx⟩⟩
 replace HB := Aside0.mk (hk3.boxed HB.out rfl)
 replace HJ := Aside0.mk hj
 replace HC := Aside0.mk (hC _ _ hj)
 clear b0 c0 c1 c2 hk3 hj
 have b0 := HB.out.cell
 obtain ⟨c0, c1, c2⟩ := HC.out
 gi_wp2
 repeat (refine ⟨(fun f hf => by cases hf), ?_⟩; gi_wp2)
 refine yield_at (hY 3 _ _ rfl HJ.out) ?_
 rintro e W4 (⟨rfl, hj, hk3⟩ | ⟨rfl, hjx⟩)
 rotate_left
 · clear b0 c0 c1 c2
   gi_wp2
   repeat (refine ⟨(fun f hf => by cases hf), ?_⟩; gi_wp2)
   first | go_end0 | refine bodyPost_ret (results_none rfl _ _ _) rfl ?_
   exact ⟨⟨_, rfl⟩, .inr ⟨3, _, rfl, hjx⟩⟩
 replace HB := Aside0.mk (hk3.boxed HB.out rfl)
 replace HJ := Aside0.mk hj
 replace HC := Aside0.mk (hC _ _ hj)
 clear b0 c0 c1 c2 hk3 hj
 have b0 := HB.out.cell
 obtain ⟨c0, c1, c2⟩ := HC.out
 gi_wp2
 repeat (refine ⟨(fun f hf => by cases hf), ?_⟩; gi_wp2)
 refine yield_at (hY 4 _ _ rfl HJ.out) ?_
 rintro e W5 (⟨rfl, hj, hk3⟩ | ⟨rfl, hjx⟩)
 rotate_left
 · clear b0 c0 c1 c2
   gi_wp2
   repeat (refine ⟨(fun f hf => by cases hf), ?_⟩; gi_wp2)
   first | go_end0 | refine bodyPost_ret (results_none rfl _ _ _) rfl ?_
   exact ⟨⟨_, rfl⟩, .inr ⟨4, _, rfl, hjx⟩⟩
 replace HB := Aside0.mk (hk3.boxed HB.out rfl)
 replace HJ := Aside0.mk hj
 replace HC := Aside0.mk (hC _ _ hj)
 clear b0 c0 c1 c2 hk3 hj
 have b0 := HB.out.cell
 obtain ⟨c0, c1, c2⟩ := HC.out
 gi_wp2
 repeat (refine ⟨(fun f hf => by cases hf), ?_⟩; gi_wp2)
 first | go_end0 | refine bodyPost_ret (results_none rfl _ _ _) rfl ?_
 exact ⟨⟨_, rfl⟩, .inl HJ.out⟩
set_option maxHeartbeats 2000000 in
theorem nums_m_no (nP Bp : Nat) (k : Int) (m h : Bool) (w : World) (hbx : Boxed w Bp 57 (.pointer (some ⟨nP, 0, none⟩))) (h3 : k ≠ 3) (h4 : k ≠ 4) (h2 : k ≠ 2) :
  Iter3 Try.prog 48 #[.pointer (some ⟨Bp, 0, none⟩)] encA (numA nP true false) (fun _ => False) (fun b => b = Bp) (KeyC nP k true false) w := by
 have k3 : (k == 3) = false := beq_eq_false_iff_ne.2 (by omega)
 have k4 : (k == 4) = false := beq_eq_false_iff_ne.2 (by omega)
 have k2 : (k == 2) = false := beq_eq_false_iff_ne.2 (by omega)
 intro l J Jx W hK hC hJ hJx hY h0
 have HB := Aside0.mk (hK.boxed hbx rfl)
 have HJ := Aside0.mk h0
 have HC := Aside0.mk (hC _ _ h0)
 clear hK hbx h0 h3 h4 h2
 refine callsIn_of_wp Try.func48 rfl trivial ?_
 simp only [Try.ntmps48, List.size_toArray, List.length_cons, List.length_nil, Nat.reduceAdd, Nat.reduceSub, Array.replicate_succ, Array.replicate_zero, List.push_toArray, List.append_toArray, List.nil_append, List.cons_append]
 have b0 := HB.out.cell
 obtain ⟨c0, c1, c2⟩ := HC.out
 gi_wp2
 repeat (refine ⟨(fun f hf => by cases hf), ?_⟩; gi_wp2)
 refine yield_at (hY 0 _ _ rfl HJ.out) ?_
 rintro e W1 (⟨rfl, hj, hk3⟩ | ⟨rfl, hjx⟩)
 rotate_left
 · clear b0 c0 c1 c2
   gi_wp2
   repeat (refine ⟨(fun f hf => by cases hf), ?_⟩; gi_wp2)
   first | go_end0 | refine bodyPost_ret (results_none rfl _ _ _) rfl ?_
   exact ⟨⟨_, rfl⟩, .inr ⟨0, _, rfl, hjx⟩⟩
 replace HB := Aside0.mk (hk3.boxed HB.out rfl)
 replace HJ := Aside0.mk hj
 replace HC := Aside0.mk (hC _ _ hj)
 clear b0 c0 c1 c2 hk3 hj
 have b0 := HB.out.cell
 obtain ⟨c0, c1, c2⟩ := HC.out
 gi_wp2
 repeat (refine ⟨(fun f hf => by cases hf), ?_⟩; gi_wp2)
 refine yield_at (hY 1 _ _ rfl HJ.out) ?_
 rintro e W2 (⟨rfl, hj, hk3⟩ | ⟨rfl, hjx⟩)
 rotate_left
 · clear b0 c0 c1 c2
   gi_wp2
   repeat (refine ⟨(fun f hf => by cases hf), ?_⟩; gi_wp2)
   first | go_end0 | refine bodyPost_ret (results_none rfl _ _ _) rfl ?_
   exact ⟨⟨_, rfl⟩, .inr ⟨1, _, rfl, hjx⟩⟩
 replace HB := Aside0.mk (hk3.boxed HB.out rfl)
 replace HJ := Aside0.mk hj
 replace HC := Aside0.mk (hC _ _ hj)
 clear b0 c0 c1 c2 hk3 hj
 have b0 := HB.out.cell
 obtain ⟨c0, c1, c2⟩ := HC.out
 gi_wp2
 repeat (refine ⟨(fun f hf => by cases hf), ?_⟩; gi_wp2)
 first | go_end0 | refine bodyPost_ret (results_none rfl _ _ _) rfl ?_
 exact ⟨⟨_, rfl⟩, .inl HJ.out⟩
set_option maxHeartbeats 2000000 in
theorem nums_no_2 (nP Bp : Nat) (k : Int) (m h : Bool) (w : World) (hbx : Boxed w Bp 57 (.pointer (some ⟨nP, 0, none⟩))) (h3 : k ≠ 3) (h4 : k ≠ 4) (h2 : k = 2) :
  Iter3 Try.prog 48 #[.pointer (some ⟨Bp, 0, none⟩)] encA (numA nP false true) (fun _ => False) (fun b => b = Bp) (KeyC nP k false h) w := by
 have k3 : (k == 3) = false := beq_eq_false_iff_ne.2 (by omega)
 have k4 : (k == 4) = false := beq_eq_false_iff_ne.2 (by omega)
 have k2 : (k == 2) = true := beq_iff_eq.2 (by omega)
 intro l J Jx W hK hC hJ hJx hY h0
 have HB := Aside0.mk (hK.boxed hbx rfl)
 have HJ := Aside0.mk h0
 have HC := Aside0.mk (hC _ _ h0)
 clear hK hbx h0 h3 h4 h2
 refine callsIn_of_wp Try.func48 rfl trivial ?_
 simp only [Try.ntmps48, List.size_toArray, List.length_cons, List.length_nil, Nat.reduceAdd, Nat.reduceSub, Array.replicate_succ, Array.replicate_zero, List.push_toArray, List.append_toArray, List.nil_append, List.cons_append]
 have b0 := HB.out.cell
 obtain ⟨c0, c1, c2⟩ := HC.out
 gi_wp2
 repeat (refine ⟨(fun f hf => by cases hf), ?_⟩; gi_wp2)
 repeat (any_goals (first | (rename_i hu hv; exfalso; injection hu with hu; unfold undef at hu; cases hu; done) | (refine ⟨(fun f hf => by cases hf), ?_⟩; gi_wp2)))
 all_goals
   refine yield_at (hY 0 _ _ rfl HJ.out) ?_
   rintro e W1 (⟨rfl, hj, hk3⟩ | ⟨rfl, hjx⟩)
   rotate_left
   · clear b0 c0 c1 c2
     gi_wp2
     repeat (refine ⟨(fun f hf => by cases hf), ?_⟩; gi_wp2)
     first | go_end0 | refine bodyPost_ret (results_none rfl _ _ _) rfl ?_
     exact ⟨⟨_, rfl⟩, .inr ⟨0, _, rfl, hjx⟩⟩
   replace HB := Aside0.mk (hk3.boxed HB.out rfl)
   replace HJ := Aside0.mk hj
   replace HC := Aside0.mk (hC _ _ hj)
   clear b0 c0 c1 c2 hk3 hj
   have b0 := HB.out.cell
   obtain ⟨c0, c1, c2⟩ := HC.out
   gi_wp2
   repeat (refine ⟨(fun f hf => by cases hf), ?_⟩; gi_wp2)
   refine yield_at (hY 1 _ _ rfl HJ.out) ?_
   rintro e W2 (⟨rfl, hj, hk3⟩ | ⟨rfl, hjx⟩)
   rotate_left
   · clear b0 c0 c1 c2
     gi_wp2
     repeat (refine ⟨(fun f hf => by cases hf), ?_⟩; gi_wp2)
     first | go_end0 | refine bodyPost_ret (results_none rfl _ _ _) rfl ?_
     exact ⟨⟨_, rfl⟩, .inr ⟨1, _, rfl, hjx⟩⟩
   replace HB := Aside0.mk (hk3.boxed HB.out rfl)
   replace HJ := Aside0.mk hj
   replace HC := Aside0.mk (hC _ _ hj)
   clear b0 c0 c1 c2 hk3 hj
   have b0 := HB.out.cell
   obtain ⟨c0, c1, c2⟩ := HC.out
   gi_wp2
   repeat (refine ⟨(fun f hf => by cases hf), ?_⟩; gi_wp2)
   refine yield_at (hY 2 _ _ rfl HJ.out) ?_
   rintro e W3 (⟨rfl, hj, hk3⟩ | ⟨rfl, hjx⟩)
   rotate_left
   · clear b0 c0 c1 c2
     gi_wp2
     repeat (refine ⟨(fun f hf => by cases hf), ?_⟩; gi_wp2)
     first | go_end0 | refine bodyPost_ret (results_none rfl _ _ _) rfl ?_
     exact ⟨⟨_, rfl⟩, .inr ⟨2, _, rfl, hjx⟩⟩
   replace HB := Aside0.mk (hk3.boxed HB.out rfl)
   replace HJ := Aside0.mk hj
   replace HC := Aside0.mk (hC _ _ hj)
   clear b0 c0 c1 c2 hk3 hj
   have b0 := HB.out.cell
   obtain ⟨c0, c1, c2⟩ := HC.out
   gi_wp2
   repeat (refine ⟨(fun f hf => by cases hf), ?_⟩; gi_wp2)
   first | go_end0 | refine bodyPost_ret (results_none rfl _ _ _) rfl ?_
   exact ⟨⟨_, rfl⟩, .inl HJ.out⟩
set_option maxHeartbeats 2000000 in
theorem nums_no_h (nP Bp : Nat) (k : Int) (m h : Bool) (w : World) (hbx : Boxed w Bp 57 (.pointer (some ⟨nP, 0, none⟩))) (h3 : k ≠ 3) (h4 : k ≠ 4) (h2 : k ≠ 2) :
  Iter3 Try.prog 48 #[.pointer (some ⟨Bp, 0, none⟩)] encA (numA nP false true) (fun _ => False) (fun b => b = Bp) (KeyC nP k false true) w := by
 have k3 : (k == 3) = false := beq_eq_false_iff_ne.2 (by omega)
 have k4 : (k == 4) = false := beq_eq_false_iff_ne.2 (by omega)
 have k2 : (k == 2) = false := beq_eq_false_iff_ne.2 (by omega)
 intro l J Jx W hK hC hJ hJx hY h0
 have HB := Aside0.mk (hK.boxed hbx rfl)
 have HJ := Aside0.mk h0
 have HC := Aside0.mk (hC _ _ h0)
 clear hK hbx h0 h3 h4 h2
 refine callsIn_of_wp Try.func48 rfl trivial ?_
 simp only [Try.ntmps48, List.size_toArray, List.length_cons, List.length_nil, Nat.reduceAdd, Nat.reduceSub, Array.replicate_succ, Array.replicate_zero, List.push_toArray, List.append_toArray, List.nil_append, List.cons_append]
 have b0 := HB.out.cell
 obtain ⟨c0, c1, c2⟩ := HC.out
 gi_wp2
 repeat (refine ⟨(fun f hf => by cases hf), ?_⟩; gi_wp2)
 repeat (any_goals (first | (rename_i hu hv; exfalso; injection hu with hu; unfold undef at hu; cases hu; done) | (refine ⟨(fun f hf => by cases hf), ?_⟩; gi_wp2)))
 all_goals
   refine yield_at (hY 0 _ _ rfl HJ.out) ?_
   rintro e W1 (⟨rfl, hj, hk3⟩ | ⟨rfl, hjx⟩)
   rotate_left
   · clear b0 c0 c1 c2
     gi_wp2
     repeat (refine ⟨(fun f hf => by cases hf), ?_⟩; gi_wp2)
     first | go_end0 | refine bodyPost_ret (results_none rfl _ _ _) rfl ?_
     exact ⟨⟨_, rfl⟩, .inr ⟨0, _, rfl, hjx⟩⟩
   replace HB := Aside0.mk (hk3.boxed HB.out rfl)
   replace HJ := Aside0.mk hj
   replace HC := Aside0.mk (hC _ _ hj)
   clear b0 c0 c1 c2 hk3 hj
   have b0 := HB.out.cell
   obtain ⟨c0, c1, c2⟩ := HC.out
   gi_wp2
   repeat (refine ⟨(fun f hf => by cases hf), ?_⟩; gi_wp2)
   refine yield_at (hY 1 _ _ rfl HJ.out) ?_
   rintro e W2 (⟨rfl, hj, hk3⟩ | ⟨rfl, hjx⟩)
   rotate_left
   · clear b0 c0 c1 c2
     gi_wp2
     repeat (refine ⟨(fun f hf => by cases hf), ?_⟩; gi_wp2)
     first | go_end0 | refine bodyPost_ret (results_none rfl _ _ _) rfl ?_
     exact ⟨⟨_, rfl⟩, .inr ⟨1, _, rfl, hjx⟩⟩
   replace HB := Aside0.mk (hk3.boxed HB.out rfl)
   replace HJ := Aside0.mk hj
   replace HC := Aside0.mk (hC _ _ hj)
   clear b0 c0 c1 c2 hk3 hj
   have b0 := HB.out.cell
   obtain ⟨c0, c1, c2⟩ := HC.out
   gi_wp2
   repeat (refine ⟨(fun f hf => by cases hf), ?_⟩; gi_wp2)
   refine yield_at (hY 2 _ _ rfl HJ.out) ?_
   rintro e W3 (⟨rfl, hj, hk3⟩ | ⟨rfl, hjx⟩)
   rotate_left
   · clear b0 c0 c1 c2
     gi_wp2
     repeat (refine ⟨(fun f hf => by cases hf), ?_⟩; gi_wp2)
     first | go_end0 | refine bodyPost_ret (results_none rfl _ _ _) rfl ?_
     exact ⟨⟨_, rfl⟩, .inr ⟨2, _, rfl, hjx⟩⟩
   replace HB := Aside0.mk (hk3.boxed HB.out rfl)
   replace HJ := Aside0.mk hj
   replace HC := Aside0.mk (hC _ _ hj)
   clear b0 c0 c1 c2 hk3 hj
   have b0 := HB.out.cell
   obtain ⟨c0, c1, c2⟩ := HC.out
   gi_wp2
   repeat (refine ⟨(fun f hf => by cases hf), ?_⟩; gi_wp2)
   first | go_end0 | refine bodyPost_ret (results_none rfl _ _ _) rfl ?_
   exact ⟨⟨_, rfl⟩, .inl HJ.out⟩
set_option maxHeartbeats 2000000 in
theorem nums_no_no (nP Bp : Nat) (k : Int) (m h : Bool) (w : World) (hbx : Boxed w Bp 57 (.pointer (some ⟨nP, 0, none⟩))) (h3 : k ≠ 3) (h4 : k ≠ 4) (h2 : k ≠ 2) :
  Iter3 Try.prog 48 #[.pointer (some ⟨Bp, 0, none⟩)] encA (numA nP false false) (fun _ => False) (fun b => b = Bp) (KeyC nP k false false) w := by
 have k3 : (k == 3) = false := beq_eq_false_iff_ne.2 (by omega)
 have k4 : (k == 4) = false := beq_eq_false_iff_ne.2 (by omega)
 have k2 : (k == 2) = false := beq_eq_false_iff_ne.2 (by omega)
 intro l J Jx W hK hC hJ hJx hY h0
 have HB := Aside0.mk (hK.boxed hbx rfl)
 have HJ := Aside0.mk h0
 have HC := Aside0.mk (hC _ _ h0)
 clear hK hbx h0 h3 h4 h2
 refine callsIn_of_wp Try.func48 rfl trivial ?_
 simp only [Try.ntmps48, List.size_toArray, List.length_cons, List.length_nil, Nat.reduceAdd, Nat.reduceSub, Array.replicate_succ, Array.replicate_zero, List.push_toArray, List.append_toArray, List.nil_append, List.cons_append]
 have b0 := HB.out.cell
 obtain ⟨c0, c1, c2⟩ := HC.out
 gi_wp2
 repeat (refine ⟨(fun f hf => by cases hf), ?_⟩; gi_wp2)
 repeat (any_goals (first | (rename_i hu hv; exfalso; injection hu with hu; unfold undef at hu; cases hu; done) | (refine ⟨(fun f hf => by cases hf), ?_⟩; gi_wp2)))
 all_goals
   first | go_end0 | refine bodyPost_ret (results_none rfl _ _ _) rfl ?_
   exact ⟨⟨_, rfl⟩, .inl HJ.out⟩
theorem numbers_iter (nP Bp : Nat) (k : Int) (m h : Bool) (w : World) (hbx : Boxed w Bp 57 (.pointer (some ⟨nP, 0, none⟩))) :
  Iter3 Try.prog 48 #[.pointer (some ⟨Bp, 0, none⟩)] encA (numA nP (atK k m) (hdK k h)) (fun _ => False) (fun b => b = Bp) (KeyC nP k m h) w := by
 unfold atK hdK
 by_cases h3 : k = 3
 · rw [decide_eq_true h3, decide_eq_false (show ¬ k = 2 by omega)]
   cases h
   · exact nums_3_no nP Bp k m false w hbx h3 (by omega)
   · exact nums_3_h nP Bp k m true w hbx h3 (by omega)
 · by_cases h4 : k = 4
   · rw [decide_eq_false h3, decide_eq_true h4, decide_eq_false (show ¬ k = 2 by omega)]
     cases h
     · exact nums_4_no nP Bp k m false w hbx h4 (by omega)
     · exact nums_4_h nP Bp k m true w hbx h4 (by omega)
   · rw [decide_eq_false h3, decide_eq_false h4]
     by_cases h2 : k = 2
     · rw [decide_eq_true h2]
       cases m
       · exact nums_no_2 nP Bp k false h w hbx h3 h4 h2
       · exact nums_m_2 nP Bp k true h w hbx h3 h4 h2
     · rw [decide_eq_false h2]
       cases m <;> cases h
       · exact nums_no_no nP Bp k false false w hbx h3 h4 h2
       · exact nums_no_h nP Bp k false true w hbx h3 h4 h2
       · exact nums_m_no nP Bp k true false w hbx h3 h4 h2
       · exact nums_m_h nP Bp k true true w hbx h3 h4 h2
end Go.Proofs.Ytokjhocjemjfiaa.PartW
