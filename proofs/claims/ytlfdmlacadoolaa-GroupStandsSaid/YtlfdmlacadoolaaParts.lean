/- Slices of parts: the cells of one, ladelaw6.fewParts. -/
import Derived.Test.YtlfdmlacadoolaaOpenP
import Derived.Test.YtlfdmlacadoolaaFew6
import Derived.Test.YtlfdmlacadoolaaKnown6
set_option linter.unusedVariables false
set_option linter.unusedSimpArgs false
namespace Go.Proofs.Ytlfdmlacadoolaa.Sp
open Go Go.RowKit Go.Proofs.Ytlfdmlacadoolaa.A Go.Proofs.Ytlfdmlacadoolaa.PartW Go.Proofs.YtlfdmlacadoolaaW.PrintWords Go.Proofs.YtlfdmlacadoolaaW.PrintLast Go.Proofs.YtlfdmlacadoolaaW.PrintMore
def elP (l : List Prt) (i : Nat) : Prt := l.getD i ⟨0, 0, [], 0, 0, 0, 0, 0, false, false⟩
theorem elP_get {l : List Prt} {i : Nat} (h : i < l.length) : l[i]? = some (elP l i) := by
  unfold elP
  rw [List.getD_eq_getElem?_getD, List.getElem?_eq_getElem h]; rfl
theorem elP_mem {l : List Prt} {i : Nat} (h : i < l.length) : elP l i ∈ l := List.mem_of_getElem? (elP_get h)
/-- a part's cells at a place -/
def CelP (p : Prt) (A : Option Addr) (c : Nat) (b : Addr) (w : World) : Prop := w.cell? b = some (.int .i64 p.g) ∧ w.cell? ⟨b.block, b.off + 1, none⟩ = some (.int .i64 p.k) ∧ w.cell? ⟨b.block, b.off + 2, none⟩ = some (.slice A p.l.length c) ∧ w.cell? ⟨b.block, b.off + 3, none⟩ = some (.int .i64 p.ht) ∧ w.cell? ⟨b.block, b.off + 4, none⟩ = some (.int .i64 p.hv) ∧ w.cell? ⟨b.block, b.off + 5, none⟩ = some (.int .i64 p.hc) ∧ w.cell? ⟨b.block, b.off + 6, none⟩ = some (.int .i64 p.ix) ∧ w.cell? ⟨b.block, b.off + 7, none⟩ = some (.int .i64 p.tm) ∧ w.cell? ⟨b.block, b.off + 8, none⟩ = some (.bool p.mrk) ∧ w.cell? ⟨b.block, b.off + 9, none⟩ = some (.bool p.hed)
theorem CelP.below {p : Prt} {A : Option Addr} {c : Nat} {b : Addr} {w w' : World} (h : CelP p A c b w) (hb : Below w.heap.size w w') : CelP p A c b w' := by
  obtain ⟨h0, h1, h2, h3, h4, h5, h6, h7, h8, h9⟩ := h
  have k : ∀ {a : Addr} {v : Value}, w.cell? a = some v → w'.cell? a = some v := fun h => (hb.cell (World.block_lt_of_cell? _ _ h)).trans h
  exact ⟨k h0, k h1, k h2, k h3, k h4, k h5, k h6, k h7, k h8, k h9⟩
theorem PAt.cel {w : World} {b : Addr} {p : Prt} (h : PAt w b p) : ∃ A c, CelP p A c b w ∧ Rd w A c p.l := by
  obtain ⟨A, c, h1, h2⟩ := h
  exact ⟨A, c, ⟨h1 0 _ rfl, h1 1 _ rfl, h1 2 _ rfl, h1 3 _ rfl, h1 4 _ rfl, h1 5 _ rfl, h1 6 _ rfl, h1 7 _ rfl, h1 8 _ rfl, h1 9 _ rfl⟩, h2⟩
theorem RdP.one {w : World} {A : Option Addr} {c : Nat} {l : List Prt} (h : RdP w A c l) {i : Nat} (hi : i < l.length) : ∃ a A1 c1, A = some a ∧ CelP (elP l i) A1 c1 (a.add (i * 10)) w ∧ Rd w A1 c1 (elP l i).l := by
  obtain ⟨a, e, h2⟩ := h.at_ i _ (elP_get hi)
  obtain ⟨A1, c1, h3, h4⟩ := h2.cel
  exact ⟨a, A1, c1, e, h3, h4⟩
open Classical in
/-- whether a part has few entries, as the law's function tells -/
noncomputable def fewB (p : Prt) : Bool := if h : p.l.length ≤ 4398046511104 then Classical.choose (few_part p h) else false
theorem fewB_len {p : Prt} (hf : fewB p = true) : p.l.length ≤ 8 := by
  unfold fewB at hf
  split at hf
  · rename_i h; exact (Classical.choose_spec (few_part p h)).1 hf
  · cases hf
theorem fewB_calls (p : Prt) (A : Option Addr) (c : Nat) (w : World) (h : Rd w A c p.l) {b : Bool} (hb : fewB p = b) : Calls Try.prog 14 #[vP p A c] w fun e w' => e = .returned (.bool b) ∧ Below w.heap.size w w' := by
  rw [← hb]; unfold fewB
  rw [dif_pos h.bd]
  exact (Classical.choose_spec (few_part p h.bd)).2 A c w h
/-- whether parts are few -/
noncomputable def fewL (l : List Prt) : Bool := l.all fewB && decide (l.length ≤ 6)
theorem fewL_len {l : List Prt} (h : fewL l = true) : l.length ≤ 6 ∧ ∀ i, i < l.length → (elP l i).l.length ≤ 8 := by
  unfold fewL at h
  rw [Bool.and_eq_true] at h
  exact ⟨of_decide_eq_true h.2, fun i hi => fewB_len (List.all_eq_true.1 h.1 _ (elP_mem hi))⟩
end Go.Proofs.Ytlfdmlacadoolaa.Sp
namespace Go.Proofs.Ytlfdmlacadoolaa.PartW
open Go Go.RowKit Go.Shelf Go.Proofs.Ytlfdmlacadoolaa.A Go.Proofs.Ytlfdmlacadoolaa.Sp Go.Proofs.Ytlfdmlacadoolaa.Reg Go.Proofs.Ytlfdmlacadoolaa.Seq Go.Proofs.YtlfdmlacadoolaaW.PrintWords Go.Proofs.YtlfdmlacadoolaaW.PrintLast Go.Proofs.YtlfdmlacadoolaaW.PrintMore
set_option maxHeartbeats 8000000 in
set_option maxRecDepth 100000 in
theorem fewParts_calls (l : List Prt) (A : Option Addr) (c : Nat) (w : World) (h : RdP w A c l) {r : Bool} (hr : fewL l = r) : Calls Try.prog 31 #[.slice A l.length c] w fun e w' => e = .returned (.bool r) ∧ Below w.heap.size w w' := by
 have HR := Aside0.mk h
 have HRR := Aside0.mk hr
 have HL := Aside0.mk h.len
 clear h hr
 go_enter Try.func31, Try.ntmps31
 have HI1 : Aside0 ((∀ j, j < 0 → fewB (elP l j) = true) ∧ Bel w w) := ⟨⟨fun j hj => absurd hj (Nat.not_lt_zero _), Bel.refl w⟩⟩
 go_wp2
 go_loopw [3] (fun v wr => ∃ k : Nat, k ≤ l.length ∧ v = .int .i64 (k : Int) ∧ Aside0 ((∀ j, j < k → fewB (elP l j) = true) ∧ Bel w wr)) (fun v _ => l.length - (intOf v).toNat)
 case atStart => exact ⟨0, Nat.zero_le _, rfl, HI1⟩
 case round =>
   obtain ⟨k, hk, rfl, HI⟩ := hrel
   have hb := HI.out.2.b
   by_cases hlt : k < l.length
   · obtain ⟨a, A1, c1, rfl, hc, hrd⟩ := HR.out.one hlt
     have HC := Aside0.mk (hc.below hb)
     have HRD := Aside0.mk (hrd.below hb)
     clear hc hrd
     obtain ⟨p, hp⟩ : ∃ p, elP l k = p := ⟨_, rfl⟩
     rw [hp] at HC HRD
     have HP := Aside0.mk hp
     have hlt2 : (k : Int) < (l.length : Int) := by omega
     have d1 : decide ((k : Int) < (l.length : Int)) = true := decide_eq_true hlt2
     have hle := HL.out
     have hk4 : IntKind.i64.wrap ((k : Int) + 1) = (k : Int) + 1 := by rw [i64_w]; unfold wrap64; omega
     obtain ⟨m0, m1, m2, m3, m4, m5, m6, m7, m8, m9⟩ := HC.out
     clear hp hb
     rcases hf : fewB p with _ | _
     · have HF := Aside0.mk hf
       clear hf
       go_wp2_with fail
       go_at_call 14
       refine (fewB_calls p A1 c1 _ HRD.out HF.out).mono ?_
       rintro e w1 ⟨rfl, hw1⟩
       go_wp2_with fail
       go_ret
       refine ⟨?_, (HI.out.2.below hw1).b⟩
       rw [← HRR.out]; unfold fewL
       rw [List.all_eq_false.2 ⟨elP l k, elP_mem hlt, by rw [HP.out, HF.out]; decide⟩]; rfl
     · have HF := Aside0.mk hf
       clear hf
       go_wp2_with fail
       go_at_call 14
       refine (fewB_calls p A1 c1 _ HRD.out HF.out).mono ?_
       rintro e w1 ⟨rfl, hw1⟩
       go_wp2_with fail
       go_roundw
       case rel => exact ⟨k + 1, by omega, by go_num, ⟨⟨fun j hj => by rcases Nat.lt_or_ge j k with h3 | h3; exact HI.out.1 j h3; have h4 : j = k := (by omega); subst h4; rw [HP.out]; exact HF.out, HI.out.2.below hw1⟩⟩⟩
       case measure => simp [intOf]; omega
   · obtain rfl : k = l.length := by omega
     have d1 : decide ((l.length : Int) < (l.length : Int)) = false := decide_eq_false (by omega)
     have d2 : decide ((l.length : Int) ≤ 6) = r := by
       rw [← HRR.out]; unfold fewL
       rw [List.all_eq_true.2 (fun x hx => by obtain ⟨j, hj, rfl⟩ := List.getElem_of_mem hx; have := HI.out.1 j hj; unfold elP at this; rw [List.getD_eq_getElem?_getD, List.getElem?_eq_getElem hj] at this; exact this), Bool.true_and]
       exact decide_eq_decide.2 (by omega)
     go_wp2_with fail
     go_ret
     exact ⟨rfl, hb⟩
end Go.Proofs.Ytlfdmlacadoolaa.PartW
