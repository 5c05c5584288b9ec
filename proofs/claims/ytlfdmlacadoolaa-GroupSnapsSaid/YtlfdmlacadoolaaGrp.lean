/- The walks of group.New, Last, Same. -/
import Derived.Test.YtlfdmlacadoolaaMd
import Derived.Test.YtlfdmlacadoolaaMf
import Derived.Test.YtlfdmlacadoolaaLast
set_option linter.unusedVariables false
set_option linter.unusedSimpArgs false
namespace Go.Proofs.Ytlfdmlacadoolaa.Sp
open Go Go.RowKit Go.Proofs.Ytlfdmlacadoolaa.A Go.Proofs.YtlfdmlacadoolaaW.PrintWords Go.Proofs.YtlfdmlacadoolaaW.PrintLast Go.Proofs.YtlfdmlacadoolaaW.PrintMore
theorem last_q (g : Grp) (hl : g.l.length ≤ 4398046511104) : group_Last.f g.id g.fi g.tm g.ht g.hv g.hc g.l = some (lastG g) := by
  unfold group_Last.f lastG
  by_cases h : g.l.length = 0
  · rw [if_pos (by omega), if_pos h]
  · rw [if_neg (by omega), if_neg h]
    have h1 : wrap64 ((g.l.length : Int) - 1) = ((g.l.length - 1 : Nat) : Int) := by unfold wrap64; omega
    rw [h1, if_pos (by omega), if_pos (by omega), rd_el]
end Go.Proofs.Ytlfdmlacadoolaa.Sp
namespace Go.Proofs.Ytlfdmlacadoolaa.PartW
open Go Go.RowKit Go.Shelf Go.Proofs.Ytlfdmlacadoolaa.A Go.Proofs.Ytlfdmlacadoolaa.Sp Go.Proofs.Ytlfdmlacadoolaa.Reg Go.Proofs.Ytlfdmlacadoolaa.Seq Go.Proofs.YtlfdmlacadoolaaW.PrintWords Go.Proofs.YtlfdmlacadoolaaW.PrintLast Go.Proofs.YtlfdmlacadoolaaW.PrintMore
theorem group_Last' (g : Grp) (A : Option Addr) (c : Nat) (w : World) (h : Rd w A c g.l) : Calls Try.prog 25 #[vG g A c] w fun e w' => e = .returned (.int .i64 (lastG g)) ∧ Below w.heap.size w w' :=
  group_Last.calls _ _ _ _ _ _ _ _ _ _ w h.rd h.le (last_q g h.bd)
theorem group_New (id : Int) (w : World) : Calls Try.prog 19 #[.int .i64 id] w (GotG w ⟨id, 1, 0, 0, 0, 0, []⟩) := by
  go_enter Try.func19, Try.ntmps19
  go_wp2
  exact bodyPost_ret (v := vG ⟨id, 1, 0, 0, 0, 0, []⟩ none 0) (by simp [results, Try.results19, go_sem, vG]) rfl ⟨none, 0, rfl, Rd.nil _, by repeat (first | exact Below.refl _ _ | apply below_alloc)⟩
theorem ref_New (id : Int) (w : World) : Calls Try.prog 20 #[.int .i64 id] w (GotG w ⟨id, 1, 0, 0, 0, 0, []⟩) := by
  go_enter Try.func20, Try.ntmps20
  go_wp2
  exact bodyPost_ret (v := vG ⟨id, 1, 0, 0, 0, 0, []⟩ none 0) (by simp [results, Try.results20, go_sem, vG]) rfl ⟨none, 0, rfl, Rd.nil _, by repeat (first | exact Below.refl _ _ | apply below_alloc)⟩
theorem sameG_bits (a b : Grp) : sameG a b = ((a.id == b.id) && ((a.fi == b.fi) && ((a.tm == b.tm) && (((a.ht == b.ht) && ((a.hv == b.hv) && (a.hc == b.hc))) && sameL a.l b.l)))) := by
  apply Bool.eq_iff_iff.2
  unfold sameG
  simp only [Bool.and_eq_true, decide_eq_true_eq, beq_iff_eq]
  constructor
  · rintro ⟨⟨h1, h2, h3, h4, h5, h6⟩, h7⟩; exact ⟨h1, h2, h3, ⟨h4, h5, h6⟩, h7⟩
  · rintro ⟨h1, h2, h3, ⟨h4, h5, h6⟩, h7⟩; exact ⟨⟨h1, h2, h3, h4, h5, h6⟩, h7⟩
set_option maxHeartbeats 4000000 in
set_option maxRecDepth 100000 in
theorem group_Same (a b : Grp) (A : Option Addr) (c : Nat) (A' : Option Addr) (c' : Nat) (w : World) (ha : Rd w A c a.l) (hb : Rd w A' c' b.l) :
    Calls Try.prog 17 #[vG a A c, vG b A' c'] w fun e w' => e = .returned (.bool (sameG a b)) ∧ Below w.heap.size w w' := by
  have HS := Aside0.mk (sameG_bits a b)
  have HA := Aside0.mk ha
  have HB := Aside0.mk hb
  clear ha hb
  unfold vG
  go_enter Try.func17, Try.ntmps17
  go_wp2_with (go_at_call 39; refine (equal_calls a.l b.l _ _ _ _ _ ((HA.out.alloc _).alloc _) ((HB.out.alloc _).alloc _)).mono ?_; rintro e w' ⟨rfl, ⟨n, rfl⟩⟩)
  all_goals
   (go_ret
    exact ⟨ret_bool (by rw [HS.out]; simp [*]), by repeat (first | exact Below.refl _ _ | apply below_alloc | apply pw_below_drewN | apply below_drew1)⟩)
end Go.Proofs.Ytlfdmlacadoolaa.PartW
