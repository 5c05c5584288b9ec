/- The walks of package head: decimals, Name. -/
import Derived.Test.YtjiojcoddildgaaProg
import Derived.Test.YtjiojcoddildgaaSeq
import Derived.Test.YtjiojcoddildgaaWMore
import Derived.Laws.BytesArg
namespace Go.Proofs.Ytjiojcoddildgaa.HeadW
open Go Go.RowKit Go.Shelf Go.Proofs.Ytjiojcoddildgaa.Seq Go.Proofs.YtjiojcoddildgaaW.PrintWords Go.Proofs.YtjiojcoddildgaaW.PrintLast Go.Proofs.YtjiojcoddildgaaW.PrintMore
attribute [local go_sem] Oper.semAt_some
/-- a number's digit, the last one first -/
def dg (n k : Nat) : Nat := 48 + n / 10 ^ k % 10
theorem dg_at (n : Nat) {k : Nat} (h : k < 8) : ((List.range 8).map fun k => (k, dg n k))[k]? = some (k, dg n k) := by
  rw [List.getElem?_map, List.getElem?_range h]; rfl
theorem div_ten (n k : Nat) : n / 10 ^ k / 10 = n / 10 ^ (k + 1) := by rw [Nat.div_div_eq_div_mul, Nat.pow_succ]
set_option maxHeartbeats 1000000 in
theorem decimals1_iter (B n : Nat) (hn : n < 9223372036854775808) (w : World) (hb : Boxed w B 3 (.int .i64 n)) :
    Iter Try.prog 26 #[.pointer (some ⟨B, 0, none⟩)] (fun x : Nat × Nat => #[.int .i64 x.1, .int .u8 x.2]) ((List.range 8).map fun k => (k, dg n k)) (fun b => b = B) w := by
  intro l J Jx W hK hJ hJx hY h0
  have hb' := hK.boxed hb rfl
  have HN := Aside0.mk hn
  clear hK hb hn
  refine callsIn_of_wp Try.func26 rfl trivial ?_
  simp only [Try.ntmps26, List.size_toArray, List.length_cons, List.length_nil, Nat.reduceAdd, Nat.reduceSub, Array.replicate_succ, Array.replicate_zero, List.push_toArray, List.append_toArray, List.nil_append, List.cons_append]
  gi_wp2
  gi_loopw [4] (fun i wr => ∃ k : Nat, k ≤ 8 ∧ i = .int .i64 k ∧ Boxed wr B 3 (.int .i64 ((n / 10 ^ k : Nat) : Int)) ∧ J k wr) (fun i _ => 8 - (intOf i).toNat)
  case atStart => exact ⟨0, by omega, rfl, by simpa using hb', h0⟩
  case round =>
    obtain ⟨k, hk, rfl, hbk, hJk⟩ := hrel
    by_cases hlt : k < 8
    · have hx := dg_at n hlt
      have hnext := Aside0.mk (div_ten n k)
      have hml : Aside0 (n / 10 ^ k < 9223372036854775808) := ⟨Nat.lt_of_le_of_lt (Nat.div_le_self _ _) HN.out⟩
      unfold dg at hx
      obtain ⟨m, hm⟩ : ∃ m, n / 10 ^ k = m := ⟨_, rfl⟩
      rw [hm] at hbk hnext hx hml
      have hc := hbk.cell
      have hf := hbk.frozen
      have e1 : Int.tmod (m : Int) 10 = ((m % 10 : Nat) : Int) := by rw [Int.tmod_eq_emod_of_nonneg (by omega)]; omega
      have e1' : (m : Int) % 10 = ((m % 10 : Nat) : Int) := by omega
      have e2 : (m : Int) / 10 = ((m / 10 : Nat) : Int) := by omega
      have hqw : wrap64 ((m / 10 : Nat) : Int) = ((m / 10 : Nat) : Int) := by have := hml.out; unfold wrap64; omega
      obtain ⟨d, hd⟩ : ∃ d, m % 10 = d := ⟨_, rfl⟩
      obtain ⟨q, hq⟩ : ∃ q, m / 10 = q := ⟨_, rfl⟩
      have hd10 : d < 10 := by omega
      rw [hd] at e1 e1' hx
      rw [hq] at e2 hnext hqw
      clear hm hd hq
      gi_wp2
      rw [show (48 : Int) + (d : Int) = ((48 + d : Nat) : Int) from by omega]
      refine yield_at (hY k _ _ hx hJk) ?_
      rintro e W3 (⟨rfl, hJ3, hk3⟩ | ⟨rfl, hJx3⟩)
      · have hb3 := hk3.boxed hbk rfl
        have hJ4 := fun v => hJ (k + 1) W3 _ hJ3 (only1 B W3 v)
        have hc3 := hb3.cell
        have hf3 := hb3.frozen
        clear hx hk3 hc hf hJk hbk
        gi_wp2
        go_roundw
        case rel => exact ⟨k + 1, by omega, by go_num, by rw [← hnext.out]; exact hb3.set _, hJ4 _⟩
        case measure => simp [intOf]; omega
      · clear hc hf
        gi_wp2
        refine bodyPost_ret (results_none rfl _ _ _) rfl ?_
        exact ⟨⟨_, rfl⟩, .inr ⟨k, _, hx, hJx3⟩⟩
    · obtain rfl : k = 8 := by omega
      gi_wp2
      go_end0
      exact ⟨⟨_, rfl⟩, .inl (by simpa using hJk)⟩

theorem decimals_calls (n : Int) (w : World) :
    CallsIn Fence.wide 0 Try.prog 20 #[.int .i64 n] w fun e w' => e = .returned (.func (.func 26) #[] #[.pointer (some ⟨w.heap.size, 0, none⟩)]) ∧ w' = w.alloc (.cells #[.int .i64 n] 3) := by
  refine callsIn_of_wp Try.func20 rfl trivial ?_
  simp only [Try.ntmps20, List.size_toArray, List.length_cons, List.length_nil, Nat.reduceAdd, Nat.reduceSub, Array.replicate_succ, Array.replicate_zero, List.push_toArray, List.append_toArray, List.nil_append, List.cons_append]
  gi_wp2
  go_ret
  exact ⟨rfl, rfl⟩
/-- a number that may be -/
def heldN (n : Int) : Nat := (min (max n 1) 99999999).toNat
theorem held_calls (n : Int) (w : World) :
    CallsIn Fence.wide 0 Try.prog 18 #[.int .i64 n] w fun e w' => e = .returned (.int .i64 (heldN n)) ∧ w' = w := by
  refine callsIn_of_wp Try.func18 rfl trivial ?_
  simp only [Try.ntmps18, List.size_toArray, List.length_cons, List.length_nil, Nat.reduceAdd, Nat.reduceSub, Array.replicate_succ, Array.replicate_zero, List.push_toArray, List.append_toArray, List.nil_append, List.cons_append]
  gi_wp2
  all_goals
    rename_i h1
    go_ret
    refine ⟨?_, rfl⟩
    have hv : ((heldN n : Nat) : Int) = min (max n 1) 99999999 := by unfold heldN; omega
    rw [hv]
    refine congrArg (fun x => Ending.returned (.int .i64 x)) ?_
    simp only [Int.max_def, Int.min_def]
    split at h1 <;> (repeat' split) <;> omega

theorem held_at {n : Int} {m : Nat} (h : heldN n = m) (w : World) : CallsIn Fence.wide 0 Try.prog 18 #[.int .i64 n] w fun e w' => e = .returned (.int .i64 m) ∧ w' = w := by
  rw [← h]; exact held_calls n w
/-- the digits that are laid, behind k rounds -/
def digV (n k j : Nat) : Value := .int .u8 ((if 7 < j + k then dg n (7 - j) else 0 : Nat) : Int)
structure DigAt (W : World) (A n k : Nat) : Prop where
  lt : A < W.heap.size
  cell : ∀ j, j < 8 → W.cell? ⟨A, j, none⟩ = some (digV n k j)
  froz : ∀ j, j < 8 → W.frozen? ⟨A, j, none⟩ = false
theorem DigAt.of_block {W W' : World} {A n k : Nat} (h : DigAt W A n k) (hs : W.heap.size ≤ W'.heap.size) (hb : W'.heap[A]? = W.heap[A]?) : DigAt W' A n k :=
  ⟨Nat.lt_of_lt_of_le h.lt hs, fun j hj => (World.cell?_of_block (w := W) (a := ⟨A, j, none⟩) hb).trans (h.cell j hj), fun j hj => (World.frozen?_of_block (w := W) (a := ⟨A, j, none⟩) hb).trans (h.froz j hj)⟩
theorem DigAt.only {U : Nat → Prop} {W W' : World} {A n k : Nat} (h : DigAt W A n k) (ho : Only U W W') (hU : ¬ U A) : DigAt W' A n k := h.of_block ho.size (ho.block A h.lt hU)
theorem DigAt.step {W : World} {A n k : Nat} (h : DigAt W A n k) (hk : k < 8) : DigAt (W.setCell ⟨A, 7 - k, none⟩ (.int .u8 (dg n k : Nat))) A n (k + 1) := by
  refine ⟨by simpa [World.setCell] using h.lt, fun j hj => ?_, fun j hj => by rw [World.frozen?_setCell]; exact h.froz j hj⟩
  by_cases e : j = 7 - k
  · subst e
    rw [World.cell?_setCell_same' _ _ _ (by rw [h.cell _ hj]; rfl)]
    unfold digV
    rw [if_pos (by omega), show 7 - (7 - k) = k from by omega]
  · rw [World.cell?_setCell_other W ⟨A, 7 - k, none⟩ ⟨A, j, none⟩ _ (fun x => e (by cases x; rfl)), h.cell j hj]
    unfold digV
    by_cases c : 7 < j + k
    · rw [if_pos c, if_pos (by omega)]
    · rw [if_neg c, if_neg (by omega)]
theorem DigAt.new (w : World) (n : Nat) : DigAt (w.alloc (.cells #[.int .u8 0, .int .u8 0, .int .u8 0, .int .u8 0, .int .u8 0, .int .u8 0, .int .u8 0, .int .u8 0] 39)) w.heap.size n 0 := by
  refine ⟨by show w.heap.size < (w.heap.push _).size; rw [Array.size_push]; omega, fun j hj => ?_, fun j hj => by rw [World.frozen?_alloc_new]⟩
  rw [World.cell?_alloc_new]
  unfold digV
  rw [if_neg (by omega)]
  match j, hj with
  | 0, _ => rfl
  | 1, _ => rfl
  | 2, _ => rfl
  | 3, _ => rfl
  | 4, _ => rfl
  | 5, _ => rfl
  | 6, _ => rfl
  | 7, _ => rfl
/-- a number's eight digits, the first one first -/
def digL (n : Nat) : List Int := (List.range 8).map fun j => ((dg n (7 - j) : Nat) : Int)
def nameS (n : Nat) : ByteArray := ⟨#[115, 101, 103, 45]⟩ ++ strOfNums (digL n)
set_option maxHeartbeats 4000000 in
set_option maxRecDepth 100000 in
theorem name_calls (n : Int) (w : World) :
    Calls Try.prog 11 #[.int .i64 n] w fun e w' => e = .returned (.string (nameS (heldN n))) ∧ Below w.heap.size w w' := by
  obtain ⟨m, hm⟩ : ∃ m, heldN n = m := ⟨_, rfl⟩
  have hml : m < 9223372036854775808 := by rw [← hm]; unfold heldN; omega
  have HM := Aside0.mk hm
  have HL := Aside0.mk hml
  rw [hm]
  clear hm hml
  refine (callsIn_wide (n := 0)).1 ?_
  refine callsIn_of_wp_marks Try.func11 rfl trivial ?_
  simp only [Try.ntmps11, List.size_toArray, List.length_cons, List.length_nil, Nat.reduceAdd, Nat.reduceSub, Array.replicate_succ, Array.replicate_zero, List.push_toArray, List.append_toArray, List.nil_append, List.cons_append]
  gi_wp2_with (first | (refine ⟨trivial, rfl, ?_⟩; gi_at_call 18; refine (held_at HM.out _).mono ?_; rintro e w' ⟨rfl, rfl⟩) | (refine ⟨trivial, rfl, ?_⟩; gi_at_call 20; refine (decimals_calls _ _).mono ?_; rintro e w' ⟨rfl, rfl⟩))
  have hA0 := DigAt.new w m
  have hbs := Boxed.new (w.alloc (.cells #[.int .u8 0, .int .u8 0, .int .u8 0, .int .u8 0, .int .u8 0, .int .u8 0, .int .u8 0, .int .u8 0] 39)) 3 (.int .i64 (m : Int))
  rw [World.size_alloc] at hbs
  replace hA0 := hA0.only ((Only.refl (fun _ => False) _).alloc (.cells #[.int .i64 (m : Int)] 3)) (fun h => h)
  have hB0 : Below w.heap.size w ((w.alloc (.cells #[.int .u8 0, .int .u8 0, .int .u8 0, .int .u8 0, .int .u8 0, .int .u8 0, .int .u8 0, .int .u8 0] 39)).alloc (.cells #[.int .i64 (m : Int)] 3)) := ((Below.refl _ w).alloc (Nat.le_refl _) _).alloc (by simp) _
  have hsz : ((w.alloc (.cells #[.int .u8 0, .int .u8 0, .int .u8 0, .int .u8 0, .int .u8 0, .int .u8 0, .int .u8 0, .int .u8 0] 39)).alloc (.cells #[.int .i64 (m : Int)] 3)).heap.size = w.heap.size + 2 := by simp
  generalize ((w.alloc (.cells #[.int .u8 0, .int .u8 0, .int .u8 0, .int .u8 0, .int .u8 0, .int .u8 0, .int .u8 0, .int .u8 0] 39)).alloc (.cells #[.int .i64 (m : Int)] 3)) = W0 at hA0 hbs hB0 hsz ⊢
  refine range_outer (gf := 26) (lb := #[.pointer (some ⟨w.heap.size + 1, 0, none⟩)]) rfl (enters_of Try.func26 (by kernel_rfl) rfl) (decimals1_iter (w.heap.size + 1) m HL.out _ hbs) (fun q h => by subst h; omega) (fun _ => rfl)
    (fun k W => DigAt W w.heap.size m k ∧ Below w.heap.size w W)
    (fun _ _ _ => False) ?hI (fun _ _ _ _ h _ => h) ?h0
    (fun x a' _ => a' = { tmps := #[.int .i64 n, undef, .string ⟨#[]⟩, .pointer (some ⟨w.heap.size, 0, none⟩), .int .i64 x.1, .int .u8 x.2, .int .i64 n, .int .i64 m, .func (.func 26) #[] #[.pointer (some ⟨w.heap.size + 1, 0, none⟩)], .int .i64 x.1, .int .u8 x.2, undef, undef, undef, undef, undef, undef, undef], defers := [] })
    (fun _ _ _ _ h _ => h) ?assign ?body ?done ?stop
  case hI =>
    rintro j A B ⟨h1, h3⟩ h
    rw [hsz] at h
    exact ⟨h1.only h (by omega), h3.trans (h.below h3.size (fun q hq => by omega))⟩
  case h0 => exact ⟨hA0, hB0⟩
  case assign =>
    rintro l j x W' K hx hi' hsz' hK
    gi_wp2
    exact hK _ _ (Keeps.refl _ _) hi' rfl
  case body =>
    rintro l k ⟨x, d⟩ a' W hx rfl ⟨r, hr⟩ ⟨hdig, hbel⟩ rfl
    have hk : k < 8 := by
      rcases Nat.lt_or_ge k 8 with h | h
      · exact h
      · rw [List.getElem?_eq_none (by simpa using h)] at hx; cases hx
    rw [dg_at _ hk] at hx
    cases hx
    have hc := hdig.cell (7 - k) (by omega)
    have hf := hdig.froz (7 - k) (by omega)
    have hstep := Aside0.mk (hdig.step hk)
    obtain ⟨d, hd⟩ : ∃ d, dg m k = d := ⟨_, rfl⟩
    obtain ⟨j, hj⟩ : ∃ j, 7 - k = j := ⟨_, rfl⟩
    have e7 : (7 : Int) - (k : Int) = (j : Int) := by omega
    have hj8 : j < 8 := by omega
    rw [hd, hj] at hstep
    rw [hj] at hc hf
    dsimp only
    rw [hd]
    clear hd hj hk
    gi_wp2
    refine ⟨Keeps.setCell _ _ (by simp; omega) _, hstep.out, hbel.setCell (p := ⟨w.heap.size, j, none⟩) (Nat.le_refl _) _⟩
  case done =>
    rintro W ⟨hdig, hbel⟩ hD
    have hlen : ((List.range 8).map fun k => (k, dg m k)).length = 8 := by simp
    rw [hlen] at hdig
    have hcv : (convert 30 9 (.slice (some ⟨w.heap.size, 0, none⟩) 8 8)).run Try.prog W = .ok (.string (strOfNums (digL m))) W :=
      run_convert_bytes_arg (P := Try.prog) W 30 5 Try.underlying30 Try.underlying5 w.heap.size 0 8 8 _ (by simp [digL]) (fun i hi => by rw [Nat.zero_add, hdig.cell i hi]; unfold digV digL; rw [if_pos (by omega)]; simp [List.getD, hi]) 9 Try.underlying9
    have hs4 : (strOfNums (digL m)).size = 8 := by rw [strOfNums_size]; rfl
    have hn : nameS m = ⟨#[115, 101, 103, 45]⟩ ++ strOfNums (digL m) := rfl
    have HNm := Aside0.mk hn
    generalize strOfNums (digL m) = t at hcv hs4 HNm
    clear hn hdig hlen
    gi_wp2
    refine Marks.leaves (n₀ := w.heap.size) ((show Marks w.heap.size [] W from trivial).cons hD (by omega) (by simp)) fun W' hW' => ?_
    exact ⟨_, results_tmp rfl _ _ _, by rw [HNm.out]; rfl, hbel.trans (hW'.below hbel.size (fun q hq => by omega))⟩
  case stop => exact fun _ _ _ _ _ h => h.elim
end Go.Proofs.Ytjiojcoddildgaa.HeadW
