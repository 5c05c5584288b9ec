/- The walks of package code: septets, Put, Get, Fix. -/
import Derived.Test.YtokjhocjemjfiaaProg
import Derived.Test.YtokjhocjemjfiaaMa
import Derived.Test.YtokjhocjemjfiaaWMore
import Derived.Maps.AppendAt
import Derived.Laws.Bits
set_option linter.unusedVariables false
set_option linter.unusedSimpArgs false
namespace Go.Proofs.Ytokjhocjemjfiaa.CodeW
open Go Go.RowKit Go.Shelf Go.Proofs.Ytokjhocjemjfiaa.Seq Go.Proofs.YtokjhocjemjfiaaW.PrintWords Go.Proofs.YtokjhocjemjfiaaW.PrintLast Go.Proofs.YtokjhocjemjfiaaW.PrintMore
attribute [local go_sem] Oper.semAt_some

/-- a number's sevens of bits, and whether others follow -/
def septL (n : Nat) : List (Nat × Bool) := if n < 128 then [(n, false)] else (n % 128, true) :: septL (n / 128)
termination_by n
decreasing_by omega
theorem septL_small {n : Nat} (h : n < 128) : septL n = [(n, false)] := by rw [septL, if_pos h]
theorem septL_big {n : Nat} (h : ¬ n < 128) : septL n = (n % 128, true) :: septL (n / 128) := by rw [septL, if_neg h]
theorem drop_head {α : Type} {l r : List α} {x : α} {k : Nat} (h : l.drop k = x :: r) : l[k]? = some x ∧ l.drop (k + 1) = r := by
  constructor
  · have := List.getElem?_drop (xs := l) (i := k) (j := 0)
    rw [h] at this; simpa using this.symm
  · rw [← List.drop_drop, h]; rfl
theorem drop_nil {α : Type} {l : List α} {x : α} {k : Nat} (h : l.drop k = [x]) : l.length = k + 1 := by
  have := congrArg List.length h
  simp at this; omega
/-- what the box holds, for the loop's measure -/
def boxNat (W : World) (B : Nat) : Nat := match W.cell? ⟨B, 0, none⟩ with | some (.int _ q) => q.toNat | _ => 0
theorem boxNat_of {W : World} {B : Nat} {t : TypeId} {k : IntKind} {m : Nat} (h : Boxed W B t (.int k m)) : boxNat W B = m := by
  unfold boxNat; rw [h.cell]; simp
theorem low7 (m : Nat) : Go.bits .andNot .u8 ((m : Int) % 256) 128 = ((m % 128 : Nat) : Int) := by
  have h : ∀ x : Fin 256, Go.bits .andNot .u8 (x.val : Int) 128 = ((x.val % 128 : Nat) : Int) := by decide +kernel
  have := h ⟨m % 256, by omega⟩
  simp only at this
  rw [show (m : Int) % 256 = ((m % 256 : Nat) : Int) from by omega, this]
  congr 1; omega
theorem or128 {m : Nat} (h : m < 128) : Go.bits .or .u8 (m : Int) 128 = ((m + 128 : Nat) : Int) := by
  have h' : ∀ x : Fin 128, Go.bits .or .u8 (x.val : Int) 128 = ((x.val + 128 : Nat) : Int) := by decide +kernel
  exact h' ⟨m, h⟩

set_option maxHeartbeats 1000000 in
theorem septets1_iter (B n : Nat) (hn : n < 9223372036854775808) (w : World) (hb : Boxed w B 81 (.int .u64 n)) :
    Iter Try.prog 54 #[.pointer (some ⟨B, 0, none⟩)] (fun x : Nat × Bool => #[.int .u8 x.1, .bool x.2]) (septL n) (fun b => b = B) w := by
  intro l J Jx W hK hJ hJx hY h0
  have hb' := hK.boxed hb rfl
  clear hK hb
  refine callsIn_of_wp Try.func54 rfl trivial ?_
  simp only [Try.ntmps54, List.size_toArray, List.length_cons, List.length_nil, Nat.reduceAdd, Nat.reduceSub, Array.replicate_succ, Array.replicate_zero, List.push_toArray, List.append_toArray, List.nil_append, List.cons_append]
  gi_wp2
  gi_loopw [4] (fun _ wr => ∃ k m : Nat, Aside0 (m < 9223372036854775808) ∧ Boxed wr B 81 (.int .u64 m) ∧ Hid ((septL n).drop k = septL m) ∧ J k wr) (fun _ wr => boxNat wr B)
  case atStart => exact ⟨0, n, ⟨hn⟩, hb', rfl, h0⟩
  case round =>
    clear hn hb'
    obtain ⟨k, m, hm, hbk, hd, hJk⟩ := hrel
    have hc := hbk.cell
    have hf := hbk.frozen
    have hmeas := boxNat_of hbk
    by_cases hlt : m < 128
    · have hx := drop_head (hd.out.trans (septL_small hlt))
      have hlen := Aside0.mk (drop_nil (hd.out.trans (septL_small hlt)))
      have t1 : decide ((m : Int) ≥ 128) = false := decide_eq_false (by omega)
      have hmod : (m : Int) % 256 = m := by omega
      clear hmeas hm
      gi_wp2
      refine yield_at (hY k _ _ hx.1 hJk) ?_
      rintro e W3 (⟨rfl, hJ3, hk3⟩ | ⟨rfl, hJx3⟩)
      · clear hc hf hx
        gi_wp2
        go_end0
        exact ⟨⟨_, rfl⟩, .inl (by rw [hlen.out]; exact hJ3)⟩
      · have hx1 := Aside0.mk hx.1
        clear hc hf hx
        gi_wp2
        go_end0
        exact ⟨⟨_, rfl⟩, .inr ⟨k, _, hx1.out, hJx3⟩⟩
    · have hx := drop_head (hd.out.trans (septL_big hlt))
      have t1 : decide ((m : Int) ≥ 128) = true := decide_eq_true (by omega)
      have hlow := low7 m
      have hY' := hY k _ wr hx.1 hJk
      have hx2 : Hid (_ = _) := hx.2
      have hx1 := Aside0.mk hx.1
      clear hx
      gi_wp2
      refine yield_at hY' ?_
      rintro e W3 (⟨rfl, hJ3, hk3⟩ | ⟨rfl, hJx3⟩)
      · have hb3 := hk3.boxed hbk rfl
        have hc3 := hb3.cell
        have hf3 := hb3.frozen
        clear hc hf hlow hY' hk3 hJk
        gi_wp2
        go_roundw
        case rel => exact ⟨k + 1, m / 128, ⟨by have := hm.out; omega⟩, by rw [show ((m / 128 : Nat) : Int) = (m : Int) / 128 from by omega]; exact hb3.set _, hx2, hJ (k + 1) _ _ hJ3 (only1 B _ _)⟩
        case measure =>
          have h1 := boxNat_of (hb3.set (.int .u64 ((m / 128 : Nat) : Int)))
          rw [show ((m : Int) / 128) = ((m / 128 : Nat) : Int) from by omega, h1, hmeas]; omega
      · clear hc hf hlow hY'
        gi_wp2
        refine bodyPost_ret (results_none rfl _ _ _) rfl ?_
        exact ⟨⟨_, rfl⟩, .inr ⟨k, _, hx1.out, hJx3⟩⟩

theorem septets_calls (n : Int) (w : World) :
    CallsIn Fence.wide 0 Try.prog 47 #[.int .u64 n] w fun e w' => e = .returned (.func (.func 54) #[] #[.pointer (some ⟨w.heap.size, 0, none⟩)]) ∧ w' = w.alloc (.cells #[.int .u64 n] 81) := by
  refine callsIn_of_wp Try.func47 rfl trivial ?_
  simp only [Try.ntmps47, List.size_toArray, List.length_cons, List.length_nil, Nat.reduceAdd, Nat.reduceSub, Array.replicate_succ, Array.replicate_zero, List.push_toArray, List.append_toArray, List.nil_append, List.cons_append]
  gi_wp2
  go_ret
  exact ⟨rfl, rfl⟩

/-- a seven of bits as a byte -/
def sevenB (x : Nat × Bool) : Int := if x.2 then ((x.1 + 128 : Nat) : Int) else (x.1 : Int)
def putI (n : Nat) : List Int := (septL n).map sevenB
def putS (n : Nat) : ByteArray := strOfNums (putI n)
theorem septL_len : ∀ (d n : Nat), n < 128 ^ (d + 1) → (septL n).length ≤ d + 1
  | 0, n, h => by rw [septL_small (by simpa using h)]; simp
  | d + 1, n, h => by
    by_cases hn : n < 128
    · rw [septL_small hn]; simp
    · rw [septL_big hn]
      have := septL_len d (n / 128) (by rw [Nat.div_lt_iff_lt_mul (by omega)]; rwa [Nat.pow_succ] at h)
      simp; omega
theorem septL_nine {n : Nat} (h : n < 9223372036854775808) : (septL n).length ≤ 9 := septL_len 8 n (by simpa using h)
theorem septL_fst : ∀ (n : Nat), ∀ x ∈ septL n, x.1 < 128 := fun n => by
  induction n using Nat.strongRecOn with
  | _ n ih =>
    intro x hx
    by_cases h : n < 128
    · rw [septL_small h] at hx
      simp at hx; subst hx; exact h
    · rw [septL_big h] at hx
      rcases List.mem_cons.1 hx with rfl | hx
      · show n % 128 < 128; omega
      · exact ih (n / 128) (by omega) x hx
theorem take_snoc' {α : Type} {l : List α} {k : Nat} {x : α} (h : l[k]? = some x) : l.take (k + 1) = l.take k ++ [x] := by
  rw [List.take_add_one, h]; rfl
theorem info_u8 : (Try.prog.info? 5).map (fun i => (i.zero, i.size, i.bytes)) = some (some (.int .u8 0), 1, 1) := by kernel_rfl
attribute [local go_sem] max2_int max_two

set_option maxHeartbeats 4000000 in
set_option maxRecDepth 100000 in
theorem put_calls (n : Int) (h1 : -9223372036854775808 ≤ n) (h2 : n < 9223372036854775808) (w : World) :
    Calls Try.prog 22 #[.int .i64 n] w fun e w' => e = .returned (.string (putS n.toNat)) ∧ Below w.heap.size w w' := by
  obtain ⟨i0, hi, hz0, hz1, hz2⟩ := info_parts info_u8
  obtain ⟨m, hm⟩ : ∃ m : Nat, n.toNat = m := ⟨_, rfl⟩
  have hmx : (if n < 0 then (0 : Int) else n) = m := by split <;> omega
  have hm2 : Aside0 (m < 9223372036854775808) := ⟨by omega⟩
  have hmod : (m : Int) % 18446744073709551616 = m := by omega
  have hw : IntKind.u64.wrap (m : Int) = m := by have := hm2.out; simp [IntKind.wrap, IntKind.bits, IntKind.signed]; omega
  rw [hm]
  clear hm h1 h2 hmod
  refine (callsIn_wide (n := 0)).1 ?_
  refine callsIn_of_wp_marks Try.func22 rfl trivial ?_
  simp only [Try.ntmps22, List.size_toArray, List.length_cons, List.length_nil, Nat.reduceAdd, Nat.reduceSub, Array.replicate_succ, Array.replicate_zero, List.push_toArray, List.append_toArray, List.nil_append, List.cons_append]
  gi_wp2_with (refine ⟨trivial, rfl, ?_⟩; gi_at_call 47; refine (septets_calls _ _).mono ?_; rintro e w' ⟨rfl, rfl⟩)
  have hbo := Boxed.new w 48 (.slice none 0 0)
  have hbs := Boxed.new (w.alloc (.cells #[.slice none 0 0] 48)) 81 (.int .u64 (m : Int))
  rw [World.size_alloc] at hbs
  obtain ⟨W0, hW0⟩ : ∃ W0, (w.alloc (.cells #[.slice none 0 0] 48)).alloc (.cells #[.int .u64 (m : Int)] 81) = W0 := ⟨_, rfl⟩
  have hsz : W0.heap.size = w.heap.size + 2 := by rw [← hW0]; simp
  have hB0 : Below w.heap.size w W0 := by rw [← hW0]; exact ((Below.refl _ w).alloc (Nat.le_refl _) _).alloc (by simp) _
  replace hbo : Boxed W0 w.heap.size 48 (.slice none 0 0) := by rw [← hW0]; exact hbo.alloc _
  rw [hW0] at hbs ⊢
  clear hW0
  have hnine := septL_nine hm2.out
  refine range_outer (gf := 54) (lb := #[.pointer (some ⟨w.heap.size + 1, 0, none⟩)]) rfl (enters_of Try.func54 (by kernel_rfl) rfl) (septets1_iter (w.heap.size + 1) m hm2.out _ hbs) (fun q h => by subst h; omega) (fun _ => rfl)
    (fun k W => (∃ v, Boxed W w.heap.size 48 v ∧ W.ownsRow (w.heap.size + 4) 5 1 v k (nums .u8 (((septL m).take k).map sevenB))) ∧ Below w.heap.size w W)
    (fun _ _ _ => False) ?hI (fun _ _ _ _ h _ => h) ?h0
    (fun x a' _ => a' = { tmps := #[.int .i64 n, undef, .string ⟨#[]⟩, .pointer (some ⟨w.heap.size, 0, none⟩), .int .u8 x.1, .bool x.2, .int .i64 n, .int .i64 m, .int .u64 m, .func (.func 54) #[] #[.pointer (some ⟨w.heap.size + 1, 0, none⟩)], .int .u8 x.1, .bool x.2, undef, undef, undef, undef, undef, undef, undef, undef, undef], defers := [] })
    (fun _ _ _ _ h _ => h) ?assign ?body ?done ?stop
  case hI =>
    rintro j A B ⟨⟨v, h1, h2⟩, h3⟩ h
    rw [hsz] at h
    exact ⟨⟨v, h.boxed h1 (by omega), Only.row h2 h (fun q hq => by omega)⟩, h3.trans (h.below h3.size (fun q hq => by omega))⟩
  case h0 => exact ⟨⟨_, hbo, World.ownsRow_nil _ _ _ _⟩, hB0⟩
  case assign =>
    rintro l j x W' K hx hi' hsz' hK
    gi_wp2
    exact hK _ _ (Keeps.refl _ _) hi' rfl
  case body =>
    rintro l k ⟨x, more⟩ a' W hx rfl ⟨r, hr⟩ ⟨⟨v, hv, hrow⟩, hbel⟩ rfl
    have hk : k < (septL m).length := (List.getElem?_eq_some_iff.1 hx).1
    have hlt := septL_fst m _ (List.mem_of_getElem? hx)
    have hrlt := (Array.getElem?_eq_some_iff.1 hr).1
    have hsnoc := congrArg (List.map sevenB) (take_snoc' hx)
    rw [List.map_append, List.map_cons, List.map_nil] at hsnoc
    have hc := hv.cell
    have hor := or128 hlt
    have HS : Hid (_ = _) := hsnoc
    have HX : Aside0 (x < 128) := ⟨hlt⟩
    clear hsnoc hx hr hlt
    dsimp only at hor ⊢
    cases more with
    | false =>
      gi_wp2_with (gi_at_builtin; refine wpListIn_append_own _ rfl _ _ 48 rfl (w.heap.size + 4) 5 i0 (.int .u8 0) 1 1 Try.underlying48 hi hz0 hz1 hz2 rfl (by decide) _ _ _ rfl (hrow.alloc _) ⟨W.heap.size, 0, none⟩ 1 1 [.int .u8 x] rfl rfl (cell_one_new _ _ _) (by simp [Value.oneCell']) (by unfold maxLen; omega) (by omega) (by simp; omega) ?_; intro v' w1 hown' hgrow _; obtain ⟨g', cap', rfl⟩ := ownsRow_succ hown'; obtain ⟨hv1, hv2, hr2, ho2⟩ := append_step hv (by decide) hrow hown' hgrow; have hc1 := hv1.cell; have hf1 := hv1.frozen)
      refine ⟨ho2.keeps (fun q hq h => by omega), ⟨_, hv2, ?_⟩, hbel.trans (ho2.below hbel.size (fun q hq => by omega))⟩
      rw [HS.out]; simpa [nums, sevenB] using hr2
    | true =>
      gi_wp2_with (gi_at_builtin; refine wpListIn_append_own _ rfl _ _ 48 rfl (w.heap.size + 4) 5 i0 (.int .u8 0) 1 1 Try.underlying48 hi hz0 hz1 hz2 rfl (by decide) _ _ _ rfl (hrow.alloc _) ⟨W.heap.size, 0, none⟩ 1 1 [.int .u8 ((x + 128 : Nat) : Int)] rfl rfl (cell_one_new _ _ _) (by simp [Value.oneCell']) (by unfold maxLen; omega) (by omega) (by simp; omega) ?_; intro v' w1 hown' hgrow _; obtain ⟨g', cap', rfl⟩ := ownsRow_succ hown'; obtain ⟨hv1, hv2, hr2, ho2⟩ := append_step hv (by decide) hrow hown' hgrow; have hc1 := hv1.cell; have hf1 := hv1.frozen)
      refine ⟨ho2.keeps (fun q hq h => by omega), ⟨_, hv2, ?_⟩, hbel.trans (ho2.below hbel.size (fun q hq => by omega))⟩
      rw [HS.out]; simpa [nums, sevenB] using hr2
  case done =>
    rintro W ⟨⟨v, hv, hrow⟩, hbel⟩ hD
    rw [List.take_length] at hrow
    have hcv := own_string (P := Try.prog) Try.underlying48 Try.underlying5 Try.underlying9 hrow
    have hc := hv.cell
    clear hrow
    gi_wp2
    refine Marks.leaves (n₀ := w.heap.size) ((show Marks w.heap.size [] W from trivial).cons hD (by omega) (by simp)) fun W' hW' => ?_
    exact ⟨_, results_tmp rfl _ _ _, rfl, hbel.trans (hW'.below hbel.size (fun q hq => by omega))⟩
  case stop => exact fun _ _ _ _ _ h => h.elim
end Go.Proofs.Ytokjhocjemjfiaa.CodeW
