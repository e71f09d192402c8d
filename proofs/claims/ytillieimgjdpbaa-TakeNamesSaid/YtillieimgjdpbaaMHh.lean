/- Contracts by hand: whether a reporter may have a take. -/
import Derived.Test.YtillieimgjdpbaaMHb
import Derived.Test.YtillieimgjdpbaaMPr4
import Derived.IntWalk
namespace Go.Proofs.Ytillieimgjdpbaa.Pr
open Go.RowKit Go.Proofs.YtillieimgjdpbaaW.PrintWords Go.Proofs.YtillieimgjdpbaaW.PrintLast Go.Proofs.YtillieimgjdpbaaW.PrintMore
attribute [local go_sem] max2_int min2_int max_two min_two max_three min_three max_four min_four   -- for this text's walks alone
set_option linter.unusedVariables false
set_option linter.unusedSimpArgs false
def take_Span_done.f (k : Nat) (a0_0 : Int) (a0_1 : Int) (a1_0 : Int) (a1_1 : Int) : Option (Int) := (take_Span_long.f a0_0 a0_1).bind fun t291 => ((take_sum.f k (([a0_1, wrap64 (t291 * a1_0), a1_1] : List Int))).bind fun t295 => (some t295))
def take_Span_done.T1 : Bool × List (List Nat × List Nat) := (true, [([], []), ([0], [0]), ([], []), ([2], [2]), ([], []), ([4], [4]), ([3, 5], [3, 5]), ([], []), ([7], [7]), ([1, 6, 8], [1, 6, 8]), ([9, 3], [9]), ([10, 10, 0, 1, 2, 3, 4, 5, 6, 7, 8, 9, 10], [10])])
def take_Span_done.B1 : List Nat := [0, 1, 0, 4, 0, 16, 60, 0, 128, 511, 1023, 2047]
theorem take_Span_done.tab1 : rtab .any (opsOf Try.f47 1) = take_Span_done.T1 := by kernel_rfl
theorem take_Span_done.bits1 : waitsOk take_Span_done.T1.2 take_Span_done.B1 = true := by kernel_rfl
set_option maxHeartbeats 8000000 in
set_option maxRecDepth 100000 in
theorem take_Span_done.calls (k : Nat) (a0_0 : Int) (a0_1 : Int) (a1_0 : Int) (a1_1 : Int) (r : Int) (w : World) (h : take_Span_done.f k a0_0 a0_1 a1_0 a1_1 = some r) :
    Calls Try.prog 47 #[.agg #[.int .i64 a0_0, .int .i64 a0_1], .agg #[.int .i64 a1_0, .int .i64 a1_1]] w fun e w' => e = .returned (.int .i64 r) ∧ Below w.heap.size w w' := by
  have hu35 := Try.underlying35
  have hu71 := Try.underlying71
  have HB := Aside0.mk (Below.refl w.heap.size w)
  have H : ((take_Span_long.f a0_0 a0_1).bind fun t291 => ((take_sum.f k (([a0_1, wrap64 (t291 * a1_0), a1_1] : List Int))).bind fun t295 => (some t295))) = some r := h
  clear h
  replace H := Option.bind_eq_some_iff.mp H
  obtain ⟨t291, A30, H⟩ := H
  replace H : ((take_sum.f k (([a0_1, wrap64 (t291 * a1_0), a1_1] : List Int))).bind fun t295 => (some t295)) = some r := H
  have A3 := Aside0.mk A30
  clear A30
  obtain ⟨y292, hy292⟩ : ∃ y_ : List Int, y_ = (([a0_1, wrap64 (t291 * a1_0), a1_1] : List Int)) := ⟨_, rfl⟩
  replace H : ((take_sum.f k y292).bind fun t295 => (some t295)) = some r := by first | (rw [hy292]; with_reducible exact H) | (have H2_ := (Option.bind_some _ _).symm.trans H; rw [hy292]; with_reducible exact H2_) | (have H2_ := (Option.bind_some _ _).symm.trans H; with_reducible exact H2_) | with_reducible exact H | (rw [hy292]; exact H) | exact H
  have Ny292 := Aside0.mk hy292
  clear hy292
  replace H := Option.bind_eq_some_iff.mp H
  obtain ⟨t295, A40, H⟩ := H
  replace H : (some t295) = some r := H
  have A4 := Aside0.mk A40
  clear A40
  obtain rfl := Option.some.inj H
  go_enter Try.func47, Try.ntmps47
  try go_wp2_with (first | ((with_reducible refine gate_dst (N := 2) rfl ?_); refine box_event ?hg (N := 2) ?hd (cs := #[.int .i64 a0_0, .int .i64 a0_1]) (t := 35) ?hr ?_; (case hd => rfl); (case hg => rfl); (case hr => first | (go_simp; done) | (go_simp; rfl)); intro gb289 hg w5 hbox hb; have n0_ := Aside0.mk (below_step (by repeat (first | (with_reducible first | exact HB.out | apply below_alloc | apply pw_below_drewN | apply below_drew1) | exact HB.out)) hb); have n1_ := Aside0.mk (hbox); have n2_ := Aside0.mk ((by rw [hg]; exact (below_size (by repeat (first | (with_reducible first | exact HB.out | apply below_alloc | apply pw_below_drewN | apply below_drew1) | exact HB.out))) : w.heap.size ≤ gb289)); have n3_ := Aside0.mk ((by rw [hg]; exact (below_size (by repeat (first | (with_reducible first | exact HB.out | apply below_alloc | apply pw_below_drewN | apply below_drew1) | exact HB.out))) : w.heap.size ≤ gb289)); clear HB; have HB := n0_; have BK289 := n1_; have GW289 := n2_; have GE289 := n3_; clear n0_ n1_ n2_ n3_; clear hb hbox hg) | ((with_reducible refine gate_dst (N := 3) rfl ?_); refine box_event ?hg (N := 3) ?hd (cs := #[.int .i64 a1_0, .int .i64 a1_1]) (t := 71) ?hr ?_; (case hd => rfl); (case hg => rfl); (case hr => first | (go_simp; done) | (go_simp; rfl)); intro gb290 hg w6 hbox hb; have n0_ := Aside0.mk (blk_below (g := gb289) (o := .cells #[.int .i64 a0_0, .int .i64 a0_1] 35 (0, 0)) (by (with_reducible repeat (first | refine blk_drewN ?_ _ | refine blk_drew ?_ | refine blk_alloc ?_ _)); exact BK289.out) hb); have n1_ := Aside0.mk (below_step (by repeat (first | (with_reducible first | exact HB.out | apply below_alloc | apply pw_below_drewN | apply below_drew1 | refine below_set ?_ GE289.out) | exact HB.out)) hb); have n2_ := Aside0.mk (hbox); have n3_ := Aside0.mk ((by rw [hg]; exact (below_size (by repeat (first | (with_reducible first | exact HB.out | apply below_alloc | apply pw_below_drewN | apply below_drew1 | refine below_set ?_ GE289.out) | exact HB.out))) : w.heap.size ≤ gb290)); have n4_ := Aside0.mk ((by rw [hg]; exact (below_size (by repeat (first | (with_reducible first | exact HB.out | apply below_alloc | apply pw_below_drewN | apply below_drew1 | refine below_set ?_ GE289.out) | exact HB.out))) : w.heap.size ≤ gb290)); have n5_ := Aside0.mk ((by rw [hg]; exact Nat.ne_of_lt (blk_lt (g := gb289) (o := .cells #[.int .i64 a0_0, .int .i64 a0_1] 35 (0, 0)) (by (with_reducible repeat (first | refine blk_drewN ?_ _ | refine blk_drew ?_ | refine blk_alloc ?_ _)); exact BK289.out)) : gb289 ≠ gb290)); have n6_ := Aside0.mk ((by rw [hg]; exact Nat.ne_of_gt (blk_lt (g := gb289) (o := .cells #[.int .i64 a0_0, .int .i64 a0_1] 35 (0, 0)) (by (with_reducible repeat (first | refine blk_drewN ?_ _ | refine blk_drew ?_ | refine blk_alloc ?_ _)); exact BK289.out)) : gb290 ≠ gb289)); clear BK289; clear HB; have BK289 := n0_; have HB := n1_; have BK290 := n2_; have GW290 := n3_; have GE290 := n4_; have NB289_290 := n5_; have NB290_289 := n6_; clear n0_ n1_ n2_ n3_ n4_ n5_ n6_; clear hb hbox hg))
  have n0_ := Aside0.mk (blk_drew BK289.out)
  have n1_ := Aside0.mk (blk_drew BK290.out)
  have n2_ := Aside0.mk (below_drew1 HB.out)
  clear BK289
  clear BK290
  clear HB
  have BK289 := n0_
  have BK290 := n1_
  have HB := n2_
  clear n0_ n1_ n2_
  refine start_ (n := 12) (S := fun w' => w'.cell? ⟨gb289, 0, none⟩ = some (.int .i64 a0_0) ∧ w'.cell? ⟨gb289, 1, none⟩ = some (.int .i64 a0_1) ∧ w'.cell? ⟨gb290, 0, none⟩ = some (.int .i64 a1_0) ∧ w'.cell? ⟨gb290, 1, none⟩ = some (.int .i64 a1_1)) (ds := []) #[false, false, false, false, false, false, false, false, false, false, false, false] (by kernel_rfl) rfl rfl ⟨(blk_cell BK289.out 0).trans rfl, (blk_cell BK289.out 1).trans rfl, (blk_cell BK290.out 0).trans rfl, (blk_cell BK290.out 1).trans rfl⟩ (fun hHeld => ?_); refine with_tabW take_Span_done.tab1 take_Span_done.bits1 (fun HT_ HW_ => ?_)
  generalize w6.drew = w7 at BK289 BK290 HB hHeld ⊢
  refine pure_ (i := 0) (N := some 5) (v := ?_) (a' := ?_) #[true, false, false, false, false, false, false, false, false, false, false, false] rfl rfl (any_of HT_.out (by kernel_rfl)) (fun _ _ _ h => h) (Or.inl ⟨by rfl, ?_⟩) ?_ ?_
  rotate_left
  · intro w'
    go_simp
    with_reducible rfl
  rotate_left
  · simp only [Act.put, List.setIfInBounds_toArray, List.set_cons_zero, List.set_cons_succ, i64_w, i32_w]
    rfl
  refine pure_ (i := 4) (N := some 9) (v := ?_) (a' := ?_) #[true, false, false, false, true, false, false, false, false, false, false, false] rfl rfl (any_of HT_.out (by kernel_rfl)) (fun _ _ _ h => h) (Or.inl ⟨by rfl, ?_⟩) ?_ ?_
  rotate_left
  · intro w'
    go_simp
    with_reducible rfl
  rotate_left
  · simp only [Act.put, List.setIfInBounds_toArray, List.set_cons_zero, List.set_cons_succ, i64_w, i32_w]
    rfl
  refine pure_ (i := 7) (N := some 12) (v := ?_) (a' := ?_) #[true, false, false, false, true, false, false, true, false, false, false, false] rfl rfl (any_of HT_.out (by kernel_rfl)) (fun _ _ _ h => h) (Or.inl ⟨by rfl, ?_⟩) ?_ ?_
  rotate_left
  · intro w'
    go_simp
    with_reducible rfl
  rotate_left
  · simp only [Act.put, List.setIfInBounds_toArray, List.set_cons_zero, List.set_cons_succ, i64_w, i32_w]
    rfl
  refine take_ (i := 1) (N := some 6) (v := ?_) (a' := ?_) #[true, true, false, false, true, false, false, true, false, false, false, false] rfl rfl (take_ofW HT_.out HW_.out (by kernel_rfl)) (fun _ _ _ h => h) (Or.inl ⟨by rfl, ?_⟩) hHeld ?_ ?_
  rotate_left
  · rintro w' ⟨s0, s1, s2, s3⟩
    go_simp
    with_reducible rfl
  rotate_left
  · simp only [Act.put, List.setIfInBounds_toArray, List.set_cons_zero, List.set_cons_succ, i64_w, i32_w]
    rfl
  refine take_ (i := 2) (N := some 7) (v := ?_) (a' := ?_) #[true, true, true, false, true, false, false, true, false, false, false, false] rfl rfl (take_ofW HT_.out HW_.out (by kernel_rfl)) (fun _ _ _ h => h) (Or.inl ⟨by rfl, ?_⟩) hHeld ?_ ?_
  rotate_left
  · rintro w' ⟨s0, s1, s2, s3⟩
    go_simp
    with_reducible rfl
  rotate_left
  · simp only [Act.put, List.setIfInBounds_toArray, List.set_cons_zero, List.set_cons_succ, i64_w, i32_w]
    rfl
  refine take_ (i := 5) (N := some 10) (v := ?_) (a' := ?_) #[true, true, true, false, true, true, false, true, false, false, false, false] rfl rfl (take_ofW HT_.out HW_.out (by kernel_rfl)) (fun _ _ _ h => h) (Or.inl ⟨by rfl, ?_⟩) hHeld ?_ ?_
  rotate_left
  · rintro w' ⟨s0, s1, s2, s3⟩
    go_simp
    with_reducible rfl
  rotate_left
  · simp only [Act.put, List.setIfInBounds_toArray, List.set_cons_zero, List.set_cons_succ, i64_w, i32_w]
    rfl
  refine take_ (i := 8) (N := some 13) (v := ?_) (a' := ?_) #[true, true, true, false, true, true, false, true, true, false, false, false] rfl rfl (take_ofW HT_.out HW_.out (by kernel_rfl)) (fun _ _ _ h => h) (Or.inl ⟨by rfl, ?_⟩) hHeld ?_ ?_
  rotate_left
  · rintro w' ⟨s0, s1, s2, s3⟩
    go_simp
    with_reducible rfl
  rotate_left
  · simp only [Act.put, List.setIfInBounds_toArray, List.set_cons_zero, List.set_cons_succ, i64_w, i32_w]
    rfl
  refine one_ (i := 3) (N := some 8) #[true, true, true, true, true, true, false, true, true, false, false, false] rfl rfl (one_of HT_.out (by kernel_rfl)) (by decide) (fun K hK => ?_)
  refine goes_ Try.func61 (by kernel_rfl) rfl #[.agg #[.int .i64 a0_0, .int .i64 a0_1]] (by rfl) rfl rfl (by (try simp only [List.map_toArray, List.map_cons, List.map_nil]); first | done | rfl | (simp only [List.length_drop, List.length_take]; rfl)) ?_
  with_reducible refine (take_Span_long.calls a0_0 a0_1 t291 _ A3.out).mono ?_
  rintro e w8 ⟨rfl, hb⟩
  refine ⟨_, rfl, ?_⟩
  have n0_ := Aside0.mk (blk_below (g := gb289) (o := .cells #[.int .i64 a0_0, .int .i64 a0_1] 35 (0, 0)) (by (with_reducible repeat (first | refine blk_drewN ?_ _ | refine blk_drew ?_ | refine blk_alloc ?_ _)); exact BK289.out) hb)
  have n1_ := Aside0.mk (blk_below (g := gb290) (o := .cells #[.int .i64 a1_0, .int .i64 a1_1] 71 (0, 0)) (by (with_reducible repeat (first | refine blk_drewN ?_ _ | refine blk_drew ?_ | refine blk_alloc ?_ _)); exact BK290.out) hb)
  have n2_ := Aside0.mk (below_step (by repeat (first | (with_reducible first | exact HB.out | apply below_alloc | apply pw_below_drewN | apply below_drew1 | refine below_set ?_ GE289.out | refine below_set ?_ GE290.out) | exact HB.out)) hb)
  clear BK289
  clear BK290
  clear HB
  have BK289 := n0_
  have BK290 := n1_
  have HB := n2_
  clear n0_ n1_ n2_
  (try clear hb)
  (try clear hb2)
  (try clear hk)
  (try clear hi)
  refine hK.out _ _ ⟨(blk_cell BK289.out 0).trans rfl, (blk_cell BK289.out 1).trans rfl, (blk_cell BK290.out 0).trans rfl, (blk_cell BK290.out 1).trans rfl⟩ (fun hHeld => ?_)
  clear hK K
  refine norm_ (a' := ?_) ?_ ?_
  rotate_left
  · show Act.put _ (some 8) _ = _
    simp only [Act.put, List.setIfInBounds_toArray, List.set_cons_zero, List.set_cons_succ, i64_w, i32_w]
    rfl
  refine pure_ (i := 6) (N := some 11) (v := ?_) (a' := ?_) #[true, true, true, true, true, true, true, true, true, false, false, false] rfl rfl (any_of HT_.out (by kernel_rfl)) (fun _ _ _ h => h) (Or.inl ⟨by rfl, ?_⟩) ?_ ?_
  rotate_left
  · intro w'
    go_simp
    with_reducible rfl
  rotate_left
  · simp only [Act.put, List.setIfInBounds_toArray, List.set_cons_zero, List.set_cons_succ, i64_w, i32_w]
    rfl
  refine one_ (i := 9) (N := some 14) #[true, true, true, true, true, true, true, true, true, true, false, false] rfl rfl (one_of HT_.out (by kernel_rfl)) (by decide) (fun K hK => ?_)
  refine Kd.R_lit_step (Kd.int .i64) _ 3 ?hg (N := 14) ?hd (xs := ([a0_1, wrap64 (t291 * a1_0), a1_1] : List Int)) (inner := [.int .i64 a0_1, .int .i64 (wrap64 (t291 * a1_0)), .int .i64 a1_1]) (ok := fun _ => True) (okp := fun _ => True) ?hr ?hp (fun _ hk => hk) trivial (Below.refl _ _) (Nat.le_refl _) (by simp) ?_; (case hd => rfl); (case hg => rfl); (case hr => first | (go_simp; done) | (go_simp; rfl)); (case hp => exact (Reps.one (show Kd.M (Kd.int .i64) _ _ _ a0_1 [.int .i64 a0_1] from rfl) (Reps.one (show Kd.M (Kd.int .i64) _ _ _ (wrap64 (t291 * a1_0)) [.int .i64 (wrap64 (t291 * a1_0))] from rfl) (Reps.one (show Kd.M (Kd.int .i64) _ _ _ a1_1 [.int .i64 a1_1] from rfl) (Reps.none _ _)))))
  intro v293 w9 ho10 hb hg_ hnew_
  clear hg_ hnew_
  (first | rw [← Ny292.out] at ho10 | (simp only [Int.reduceToNat] at ho10; rw [← Ny292.out] at ho10))
  have n0_ := Aside0.mk (Kd.R_lower ho10 (below_size (by repeat (first | (with_reducible first | exact HB.out | apply below_alloc | apply pw_below_drewN | apply below_drew1 | refine below_set ?_ GE289.out | refine below_set ?_ GE290.out) | exact HB.out))))
  have n1_ := Aside0.mk (blk_below (g := gb289) (o := .cells #[.int .i64 a0_0, .int .i64 a0_1] 35 (0, 0)) (by (with_reducible repeat (first | refine blk_drewN ?_ _ | refine blk_drew ?_ | refine blk_alloc ?_ _)); exact BK289.out) hb)
  have n2_ := Aside0.mk (blk_below (g := gb290) (o := .cells #[.int .i64 a1_0, .int .i64 a1_1] 71 (0, 0)) (by (with_reducible repeat (first | refine blk_drewN ?_ _ | refine blk_drew ?_ | refine blk_alloc ?_ _)); exact BK290.out) hb)
  have n3_ := Aside0.mk (below_step (by repeat (first | (with_reducible first | exact HB.out | apply below_alloc | apply pw_below_drewN | apply below_drew1 | refine below_set ?_ GE289.out | refine below_set ?_ GE290.out) | exact HB.out)) hb)
  clear BK289
  clear BK290
  clear HB
  have HO294 := n0_
  have BK289 := n1_
  have BK290 := n2_
  have HB := n3_
  clear n0_ n1_ n2_ n3_
  clear hb ho10
  obtain ⟨Ao11, co11, eo11⟩ := Kd.R_slice HO294.out
  (first | subst eo11 | (injection eo11 with f1_ f2_ f3_; have f4_ := f1_.symm; have f5_ := f3_.symm; clear f1_ f2_ f3_; subst f4_; subst f5_))
  refine hK.out _ _ ⟨(blk_cell BK289.out 0).trans rfl, (blk_cell BK289.out 1).trans rfl, (blk_cell BK290.out 0).trans rfl, (blk_cell BK290.out 1).trans rfl⟩ (fun hHeld => ?_)
  clear hK K
  refine norm_ (a' := ?_) ?_ ?_
  rotate_left
  · show Act.put _ (some 14) _ = _
    simp only [Act.put, List.setIfInBounds_toArray, List.set_cons_zero, List.set_cons_succ, i64_w, i32_w]
    rfl
  refine one_ (i := 10) (N := some 15) #[true, true, true, true, true, true, true, true, true, true, true, false] rfl rfl (one_of HT_.out (by kernel_rfl)) (by decide) (fun K hK => ?_)
  refine goes_ Try.func60 (by kernel_rfl) rfl #[.slice Ao11 y292.length co11] (by rfl) rfl rfl (by (try simp only [List.map_toArray, List.map_cons, List.map_nil]); first | done | rfl | (simp only [List.length_drop, List.length_take]; rfl)) ?_
  with_reducible refine (take_sum.calls k _ _ y292 t295 _ ?side1 ?side2 A4.out).mono ?_
  (case side1 => repeat (first | exact (Kd.R_reads' HO294.out).2.2 | (with_reducible refine Kd.C_alloc ?_ _) | (with_reducible refine Kd.C_drewN ?_ _) | (with_reducible refine Kd.C_drew ?_)))
  (case side2 => exact (Kd.R_reads' HO294.out).2.1)
  rintro e w' ⟨rfl, ⟨nd, rfl⟩⟩
  refine ⟨_, rfl, ?_⟩
  refine hK.out _ _ ⟨(blk_cell BK289.out 0).trans rfl, (blk_cell BK289.out 1).trans rfl, (blk_cell BK290.out 0).trans rfl, (blk_cell BK290.out 1).trans rfl⟩ (fun hHeld => ?_)
  clear hK K
  refine norm_ (a' := ?_) ?_ ?_
  rotate_left
  · show Act.put _ (some 15) _ = _
    simp only [Act.put, List.setIfInBounds_toArray, List.set_cons_zero, List.set_cons_succ, i64_w, i32_w]
    rfl
  refine pure_ (i := 11) (N := some 4) (v := ?_) (a' := ?_) #[true, true, true, true, true, true, true, true, true, true, true, true] rfl rfl (any_of HT_.out (by kernel_rfl)) (fun _ _ _ h => h) (Or.inl ⟨by rfl, ?_⟩) ?_ ?_
  rotate_left
  · intro w'
    go_simp
    with_reducible rfl
  rotate_left
  · simp only [Act.put, List.setIfInBounds_toArray, List.set_cons_zero, List.set_cons_succ, i64_w, i32_w]
    rfl
  refine done_ (done_of HT_.out (by kernel_rfl)) ?_
  try go_wp2
  go_ret
  exact ⟨by first | rfl | (simp [errW_none, errW_some] <;> rfl) | (simp [*, errW_none, errW_some] <;> rfl), by repeat (first | (with_reducible first | exact HB.out | apply below_alloc | apply pw_below_drewN | apply below_drew1 | refine below_set ?_ GE289.out | refine below_set ?_ GE290.out) | exact HB.out)⟩
end Go.Proofs.Ytillieimgjdpbaa.Pr
namespace Go.Proofs.Ytillieimgjdpbaa.Pr
open Go.RowKit Go.Proofs.YtillieimgjdpbaaW.PrintWords Go.Proofs.YtillieimgjdpbaaW.PrintLast Go.Proofs.YtillieimgjdpbaaW.PrintMore
set_option linter.unusedVariables false
set_option linter.unusedSimpArgs false
/-- A sitting at an office, with its takes. -/
structure Wk where
  L : Int
  T : List S35
  C : List S99
  due : Int
  dl : Int
/-- Its numbers. -/
structure Wk.Ok (W : Wk) : Prop where
  l0 : 1 ≤ W.L
  l1 : W.L ≤ 36000
  t : W.T.length ≤ 40
  c0 : 1 ≤ W.C.length
  c1 : W.C.length ≤ 5
  d0 : 0 ≤ W.due
  d1 : W.due ≤ 36000
  e0 : 0 ≤ W.dl
  e1 : W.dl ≤ 36000
  tk : ∀ t ∈ W.T, 0 ≤ t.f0 ∧ t.f0 < t.f1 ∧ t.f1 ≤ 36000
  cr : ∀ c ∈ W.C, repOk c = true
/-- It lies at a block. -/
structure Wk.At (W : Wk) (w : World) (p : Nat) (A1 : Option Addr) (n1 c1 : Nat) (lo sh : Int) (AC : Option Addr) (cC : Nat) (AT : Option Addr) (cT : Nat) : Prop where
  blk : w.heap[p]? = some (.cells #[.int .i64 W.L, .slice A1 n1 c1, .int .i64 lo, .int .i64 sh, .slice AC W.C.length cC, .int .i64 W.due, .int .i64 W.dl, .slice AT W.T.length cT] 96 (0, 0))
  tk : Kd.C k35 w AT W.T.length W.T
  cr : Kd.C k99 w AC W.C.length W.C
theorem Wk.At.below {W : Wk} {w w' : World} {p : Nat} {A1 : Option Addr} {n1 c1 : Nat} {lo sh : Int} {AC : Option Addr} {cC : Nat} {AT : Option Addr} {cT : Nat} (h : W.At w p A1 n1 c1 lo sh AC cC AT cT) (hb : Below w.heap.size w w') : W.At w' p A1 n1 c1 lo sh AC cC AT cT :=
  ⟨blk_below h.blk hb, Kd.C_below h.tk hb, Kd.C_below h.cr hb⟩
theorem Wk.Ok.tk' {W : Wk} (h : W.Ok) (k : Int) (h0 : 0 ≤ k) (h1 : k < W.T.length) : 0 ≤ (rd_T35 W.T k).f0 ∧ (rd_T35 W.T k).f0 < (rd_T35 W.T k).f1 ∧ (rd_T35 W.T k).f1 ≤ 36000 := by
  have e : rd_T35 W.T k = W.T[k.toNat]'(by omega) := by unfold rd_T35; rw [List.getD_eq_getElem?_getD, List.getElem?_eq_getElem (by omega)]; rfl
  rw [e]
  exact h.tk _ (List.getElem_mem _)
theorem Wk.Ok.cr' {W : Wk} (h : W.Ok) (r : Int) (h0 : 0 ≤ r) (h1 : r < W.C.length) : 0 ≤ (rd_T99 W.C r).f0.f0 ∧ (rd_T99 W.C r).f0.f0 ≤ (rd_T99 W.C r).f0.f1 ∧ (rd_T99 W.C r).f0.f1 ≤ 20 ∧ 0 ≤ (rd_T99 W.C r).f1 ∧ (rd_T99 W.C r).f1 ≤ 36000 := by
  have e : rd_T99 W.C r = W.C[r.toNat]'(by omega) := by unfold rd_T99; rw [List.getD_eq_getElem?_getD, List.getElem?_eq_getElem (by omega)]; rfl
  rw [e]
  have := h.cr _ (List.getElem_mem (h := show r.toNat < W.C.length by omega))
  simp only [repOk, Bool.and_eq_true, decide_eq_true_eq] at this
  omega
def doneP (t : S35) (slow dl : Int) : Int := t.f1 + (t.f1 - t.f0) * slow + dl
def worstP (W : Wk) (k r : Int) : Int := doneP (rd_T35 W.T k) (rd_T99 W.C r).f0.f1 W.dl
theorem win (n : Int) (h : -9223372036854775808 ≤ n ∧ n ≤ 9223372036854775807) : wrap64 n = n := by unfold wrap64; omega
theorem done_some (t : S35) (slow dl : Int) (h0 : 0 ≤ t.f0) (h1 : t.f0 < t.f1) (h2 : t.f1 ≤ 36000) (s0 : 0 ≤ slow) (s1 : slow ≤ 20) (d0 : 0 ≤ dl) (d1 : dl ≤ 36000) :
    take_Span_done.f 5 t.f0 t.f1 slow dl = some (doneP t slow dl) := by
  have hm0 : 0 ≤ (t.f1 - t.f0) * slow := Int.mul_nonneg (by omega) s0
  have hm1 : (t.f1 - t.f0) * slow ≤ 36000 * 20 := Int.mul_le_mul (by omega) s1 s0 (by omega)
  have e1 : wrap64 (t.f1 - t.f0) = t.f1 - t.f0 := win _ (by omega)
  have e2 : wrap64 ((t.f1 - t.f0) * slow) = (t.f1 - t.f0) * slow := win _ (by omega)
  have e3 : wrap64 t.f1 = t.f1 := win _ (by omega)
  have e4 : wrap64 (t.f1 + (t.f1 - t.f0) * slow) = t.f1 + (t.f1 - t.f0) * slow := win _ (by omega)
  have e5 : wrap64 (t.f1 + (t.f1 - t.f0) * slow + dl) = doneP t slow dl := win _ (by omega)
  simp [take_Span_done.f, take_Span_long.f, take_sum.f, take_sum.l0, rd, e1, e2, e3, e4, e5, win 1 (by omega), win 2 (by omega), win 3 (by omega)]
set_option maxHeartbeats 4000000 in
theorem worst48 (W : Wk) (hn : W.Ok) (w : World) (p : Nat) {A1 : Option Addr} {n1 c1 : Nat} {lo sh : Int} {AC : Option Addr} {cC : Nat} {AT : Option Addr} {cT : Nat} (h : W.At w p A1 n1 c1 lo sh AC cC AT cT)
    (k r : Int) (k0 : 0 ≤ k) (k1 : k < W.T.length) (r0 : 0 ≤ r) (r1 : r < W.C.length) :
    Calls Try.prog 48 #[.pointer (some ⟨p, 0, none⟩), .int .i64 k, .int .i64 r] w fun e w' => e = .returned (.int .i64 (worstP W k r)) ∧ Below w.heap.size w w' := by
  obtain ⟨ad, rfl, t0, t1⟩ := at_T35 h.tk k k0 k1
  obtain ⟨bd, rfl, q0, q1, q2⟩ := at_T99 h.cr r r0 r1
  have u4 : w.cell? ⟨p, 4, none⟩ = some (.slice (some bd) W.C.length cC) := (blk_cell h.blk 4).trans rfl
  have u6 : w.cell? ⟨p, 6, none⟩ = some (.int .i64 W.dl) := (blk_cell h.blk 6).trans rfl
  have u7 : w.cell? ⟨p, 7, none⟩ = some (.slice (some ad) W.T.length cT) := (blk_cell h.blk 7).trans rfl
  have hcall : ∀ X : World, Calls Try.prog 47 #[.agg #[.int .i64 (rd_T35 W.T k).f0, .int .i64 (rd_T35 W.T k).f1], .agg #[.int .i64 (rd_T99 W.C r).f0.f1, .int .i64 W.dl]] X fun e w' => e = .returned (.int .i64 (worstP W k r)) ∧ Below X.heap.size X w' := fun X => by
    have ht := hn.tk' k k0 k1
    have hr := hn.cr' r r0 r1
    exact take_Span_done.calls 5 _ _ _ _ _ X (done_some _ _ _ ht.1 ht.2.1 ht.2.2 (by omega) hr.2.2.1 hn.e0 hn.e1)
  have HC := Aside0.mk hcall
  clear hcall h q0 q2
  obtain ⟨v, hv⟩ : ∃ v, v = worstP W k r := ⟨_, rfl⟩
  rw [← hv] at HC ⊢
  clear hv
  obtain ⟨a0, ha0⟩ : ∃ v, v = (rd_T35 W.T k).f0 := ⟨_, rfl⟩
  obtain ⟨a1, ha1⟩ : ∃ v, v = (rd_T35 W.T k).f1 := ⟨_, rfl⟩
  obtain ⟨b1, hb1⟩ : ∃ v, v = (rd_T99 W.C r).f0.f1 := ⟨_, rfl⟩
  obtain ⟨dl, hdl⟩ : ∃ v, v = W.dl := ⟨_, rfl⟩
  rw [← ha0] at t0 HC
  rw [← ha1] at t1 HC
  rw [← hb1] at q1 HC
  rw [← hdl] at u6 HC
  clear ha0 ha1 hb1 hdl
  obtain ⟨nT, hnT⟩ : ∃ v, v = W.T.length := ⟨_, rfl⟩
  obtain ⟨nC, hnC⟩ : ∃ v, v = W.C.length := ⟨_, rfl⟩
  rw [← hnT] at u7 k1
  rw [← hnC] at u4 r1
  have HN := Aside0.mk hn
  have hnTb : nT ≤ 40 := hnT ▸ hn.t
  have hnCb : nC ≤ 5 := hnC ▸ hn.c1
  clear hnT hnC hn
  have hmo : Try.prog.follows .mixedOrders = true := by kernel_rfl
  go_enter Try.func48, Try.ntmps48
  go_wp2_with fail
  go_region_held3 (fun w' : World => w'.cell? ⟨p, 4, none⟩ = some (.slice (some bd) nC cC) ∧ w'.cell? ⟨p, 6, none⟩ = some (.int .i64 dl) ∧ w'.cell? ⟨p, 7, none⟩ = some (.slice (some ad) nT cT) ∧ w'.cell? (ad.add (k.toNat * 2)) = some (.int .i64 a0) ∧ w'.cell? ⟨(ad.add (k.toNat * 2)).block, (ad.add (k.toNat * 2)).off + 1, none⟩ = some (.int .i64 a1) ∧ w'.cell? ⟨(bd.add (r.toNat * 3)).block, (bd.add (r.toNat * 3)).off + 1, none⟩ = some (.int .i64 b1)) (first | go_keep | exact ⟨pw_cell_below hb u4, pw_cell_below hb u6, pw_cell_below hb u7, pw_cell_below hb t0, pw_cell_below hb t1, pw_cell_below hb q1⟩) (first
    | (go_at_call 47; refine (HC.out _).mono ?_; rintro e w' ⟨rfl, hb⟩))
  go_wp2_with fail
  go_ret
  exact ⟨rfl, (below_drew (Below.refl _ _)).trans hb⟩
end Go.Proofs.Ytillieimgjdpbaa.Pr
namespace Go.Proofs.Ytillieimgjdpbaa.Pr
open Go.RowKit Go.Proofs.YtillieimgjdpbaaW.PrintWords Go.Proofs.YtillieimgjdpbaaW.PrintLast Go.Proofs.YtillieimgjdpbaaW.PrintMore
set_option linter.unusedVariables false
set_option linter.unusedSimpArgs false
/-- A state: the next take, and which take each reporter had last. -/
structure Sx where
  k : Int
  h0 : Int
  h1 : Int
  h2 : Int
  h3 : Int
  h4 : Int
def Sx.hs (s : Sx) : List Int := [s.h0, s.h1, s.h2, s.h3, s.h4]
def Sx.get (s : Sx) (r : Int) : Int := s.hs.getD r.toNat 0
def Sx.cells (s : Sx) : Array Value := #[.int .i64 s.k, .int .i64 s.h0, .int .i64 s.h1, .int .i64 s.h2, .int .i64 s.h3, .int .i64 s.h4]
theorem Sx.cell (s : Sx) (r : Int) (h0 : 0 ≤ r) (h1 : r < 5) : s.cells[1 + r.toNat]? = some (.int .i64 (s.get r)) := by
  obtain rfl | rfl | rfl | rfl | rfl : r = 0 ∨ r = 1 ∨ r = 2 ∨ r = 3 ∨ r = 4 := by omega
  all_goals rfl
def mayP (W : Wk) (s : Sx) (r : Int) : Bool :=
  !(decide (worstP W s.k r > (rd_T35 W.T s.k).f1 + W.due)) && (decide (s.get r = -1) || decide (worstP W (s.get r) r + (rd_T99 W.C r).f1 ≤ (rd_T35 W.T s.k).f0))
theorem worst_range (W : Wk) (hn : W.Ok) (k r : Int) (k0 : 0 ≤ k) (k1 : k < W.T.length) (r0 : 0 ≤ r) (r1 : r < W.C.length) : 0 ≤ worstP W k r ∧ worstP W k r ≤ 1000000 := by
  have ht := hn.tk' k k0 k1
  have hr := hn.cr' r r0 r1
  have e0 := hn.e0
  have e1 := hn.e1
  have hm0 : 0 ≤ ((rd_T35 W.T k).f1 - (rd_T35 W.T k).f0) * (rd_T99 W.C r).f0.f1 := Int.mul_nonneg (by omega) (by omega)
  have hm1 : ((rd_T35 W.T k).f1 - (rd_T35 W.T k).f0) * (rd_T99 W.C r).f0.f1 ≤ 36000 * 20 := Int.mul_le_mul (by omega) (by omega) (by omega) (by omega)
  unfold worstP doneP
  omega
set_option maxHeartbeats 4000000 in
theorem may53 (W : Wk) (hn : W.Ok) (w : World) (p : Nat) {A1 : Option Addr} {n1 c1 : Nat} {lo sh : Int} {AC : Option Addr} {cC : Nat} {AT : Option Addr} {cT : Nat} (h : W.At w p A1 n1 c1 lo sh AC cC AT cT)
    (s : Sx) (r : Int) (k0 : 0 ≤ s.k) (k1 : s.k < W.T.length) (r0 : 0 ≤ r) (r1 : r < W.C.length) (g0 : -1 ≤ s.get r) (g1 : s.get r < s.k) :
    Calls Try.prog 53 #[.pointer (some ⟨p, 0, none⟩), .agg s.cells, .int .i64 r] w fun e w' => e = .returned (.bool (mayP W s r)) ∧ Below w.heap.size w w' := by
  have hb0 : Below w.heap.size w (w.alloc (.cells s.cells 110)) := below_alloc (Below.refl _ _) _
  have hw0 := h.below hb0
  obtain ⟨ad, hA, t0, t1⟩ := at_T35 hw0.tk s.k k0 k1
  obtain ⟨bd, hBd, q0, q1, q2⟩ := at_T99 hw0.cr r r0 r1
  subst hA hBd
  have u4 : (w.alloc (.cells s.cells 110)).cell? ⟨p, 4, none⟩ = some (.slice (some bd) W.C.length cC) := (blk_cell hw0.blk 4).trans rfl
  have u5 : (w.alloc (.cells s.cells 110)).cell? ⟨p, 5, none⟩ = some (.int .i64 W.due) := (blk_cell hw0.blk 5).trans rfl
  have u7 : (w.alloc (.cells s.cells 110)).cell? ⟨p, 7, none⟩ = some (.slice (some ad) W.T.length cT) := (blk_cell hw0.blk 7).trans rfl
  have b0 : (w.alloc (.cells s.cells 110)).cell? ⟨w.heap.size, 0, none⟩ = some (.int .i64 s.k) := (blk_cell (blk_new w (.cells s.cells 110)) 0).trans rfl
  have b1 : (w.alloc (.cells s.cells 110)).cell? ⟨w.heap.size, 1 + r.toNat, none⟩ = some (.int .i64 (s.get r)) := (blk_cell (blk_new w (.cells s.cells 110)) _).trans (s.cell r r0 (by have := hn.c1; omega))
  have HALL : Aside0 (∀ X : World, Below (w.alloc (.cells s.cells 110)).heap.size (w.alloc (.cells s.cells 110)) X → W.At X p A1 n1 c1 lo sh (some bd) cC (some ad) cT) := ⟨fun X hX => hw0.below hX⟩
  have HC1 : Aside0 (∀ X : World, Below (w.alloc (.cells s.cells 110)).heap.size (w.alloc (.cells s.cells 110)) X → Calls Try.prog 48 #[.pointer (some ⟨p, 0, none⟩), .int .i64 s.k, .int .i64 r] X fun e w' => e = .returned (.int .i64 (worstP W s.k r)) ∧ Below X.heap.size X w') :=
    ⟨fun X hX => worst48 W hn X p (HALL.out X hX) s.k r k0 k1 r0 r1⟩
  have HC2 : Aside0 (0 ≤ s.get r → ∀ X : World, Below (w.alloc (.cells s.cells 110)).heap.size (w.alloc (.cells s.cells 110)) X → Calls Try.prog 48 #[.pointer (some ⟨p, 0, none⟩), .int .i64 (s.get r), .int .i64 r] X fun e w' => e = .returned (.int .i64 (worstP W (s.get r) r)) ∧ Below X.heap.size X w') :=
    ⟨fun hg X hX => worst48 W hn X p (HALL.out X hX) (s.get r) r hg (by omega) r0 r1⟩
  have HM : Aside0 (mayP W s r = (!(decide (worstP W s.k r > (rd_T35 W.T s.k).f1 + W.due)) && (decide (s.get r = -1) || decide (worstP W (s.get r) r + (rd_T99 W.C r).f1 ≤ (rd_T35 W.T s.k).f0)))) := ⟨rfl⟩
  have hx1 := worst_range W hn s.k r k0 k1 r0 r1
  have hx2 : 0 ≤ s.get r → 0 ≤ worstP W (s.get r) r ∧ worstP W (s.get r) r ≤ 1000000 := fun hg => worst_range W hn (s.get r) r hg (by omega) r0 r1
  have hx3 := hn.tk' s.k k0 k1
  have hx4 := hn.cr' r r0 r1
  have d0 := hn.d0
  have d1 := hn.d1
  have HB0 := Aside0.mk hb0
  obtain ⟨mv, hmv⟩ : ∃ m, m = mayP W s r := ⟨_, rfl⟩
  rw [← hmv] at HM ⊢
  clear hmv
  obtain ⟨f0, hf0⟩ : ∃ v, v = (rd_T35 W.T s.k).f0 := ⟨_, rfl⟩
  obtain ⟨f1, hf1⟩ : ∃ v, v = (rd_T35 W.T s.k).f1 := ⟨_, rfl⟩
  obtain ⟨rest, hrest⟩ : ∃ v, v = (rd_T99 W.C r).f1 := ⟨_, rfl⟩
  obtain ⟨due, hdue⟩ : ∃ v, v = W.due := ⟨_, rfl⟩
  obtain ⟨x1, hx1'⟩ : ∃ v, v = worstP W s.k r := ⟨_, rfl⟩
  obtain ⟨x2, hx2'⟩ : ∃ v, v = worstP W (s.get r) r := ⟨_, rfl⟩
  obtain ⟨nT, hnT⟩ : ∃ v, v = W.T.length := ⟨_, rfl⟩
  obtain ⟨nC, hnC⟩ : ∃ v, v = W.C.length := ⟨_, rfl⟩
  have hnTb : nT ≤ 40 := hnT ▸ hn.t
  have hnCb : nC ≤ 5 := hnC ▸ hn.c1
  rw [← hf0] at t0 hx3 HM
  rw [← hf1] at t1 hx3 HM
  rw [← hrest] at q2 hx4 HM
  rw [← hdue] at u5 HM d0 d1
  rw [← hx1'] at hx1 HC1 HM
  rw [← hx2'] at hx2 HC2 HM
  rw [← hnT] at u7 k1
  rw [← hnC] at u4 r1
  clear hf0 hf1 hrest hdue hx1' hx2' hnT hnC HALL hw0 h hn hb0 q0 q1
  obtain ⟨last, hlast⟩ : ∃ v, v = s.get r := ⟨_, rfl⟩
  rw [← hlast] at b1 hx2 HC2 HM g0 g1
  obtain ⟨k, hk⟩ : ∃ v, v = s.k := ⟨_, rfl⟩
  rw [← hk] at b0 HC1 k0 k1 g1 t0 t1
  obtain ⟨cs, hcs⟩ : ∃ v, v = s.cells := ⟨_, rfl⟩
  have hsz : cs.size = 6 := by rw [hcs]; rfl
  rw [← hcs] at u4 u5 u7 b0 b1 t0 t1 q2 HC1 HC2 HB0 ⊢
  clear hlast hk hcs
  have hbr : Aside0 (Below (w.alloc (.cells cs 110)).heap.size (w.alloc (.cells cs 110)) (w.alloc (.cells cs 110)).drew) := ⟨below_drew (Below.refl _ _)⟩
  have hmo : Try.prog.follows .mixedOrders = true := by kernel_rfl
  by_cases hc1 : x1 > f1 + due
  · go_enter Try.func53, Try.ntmps53
    go_wp2_with fail
    go_region_held3 (fun w' : World => w'.cell? ⟨w.heap.size, 0, none⟩ = some (.int .i64 k) ∧ w'.cell? ⟨w.heap.size, 1 + r.toNat, none⟩ = some (.int .i64 last) ∧ w'.cell? ⟨p, 4, none⟩ = some (.slice (some bd) nC cC) ∧ w'.cell? ⟨p, 5, none⟩ = some (.int .i64 due) ∧ w'.cell? ⟨p, 7, none⟩ = some (.slice (some ad) nT cT) ∧ w'.cell? (ad.add (k.toNat * 2)) = some (.int .i64 f0) ∧ w'.cell? ⟨(ad.add (k.toNat * 2)).block, (ad.add (k.toNat * 2)).off + 1, none⟩ = some (.int .i64 f1) ∧ w'.cell? ⟨(bd.add (r.toNat * 3)).block, (bd.add (r.toNat * 3)).off + 2, none⟩ = some (.int .i64 rest)) (first | go_keep | exact ⟨pw_cell_below hb b0, pw_cell_below hb b1, pw_cell_below hb u4, pw_cell_below hb u5, pw_cell_below hb u7, pw_cell_below hb t0, pw_cell_below hb t1, pw_cell_below hb q2⟩) (first
      | (go_at_call 48; refine (HC1.out _ hbr.out).mono ?_; rintro e w' ⟨rfl, hb⟩))
    rename_i hHeld
    have hd : decide (IntKind.i64.wrap (f1 + due) < x1) = true := by rw [i64_w, win _ (by omega)]; exact decide_eq_true hc1
    rw [hd]
    go_wp2_with fail
    go_ret
    exact ⟨by rw [HM.out, decide_eq_true hc1]; rfl, HB0.out.trans ((below_drew (Below.refl _ _)).trans (hb.mono HB0.out.size))⟩
  · have hm2 : Aside0 (mv = (decide (last = -1) || decide (x2 + rest ≤ f0))) := ⟨by rw [HM.out, decide_eq_false hc1]; simp⟩
    clear HM
    by_cases hl : last = -1
    · have hm3 : Aside0 (mv = true) := ⟨by rw [hm2.out, decide_eq_true hl]; rfl⟩
      clear hm2
      subst hl
      go_enter Try.func53, Try.ntmps53
      go_wp2_with fail
      go_region_held3 (fun w' : World => w'.cell? ⟨w.heap.size, 0, none⟩ = some (.int .i64 k) ∧ w'.cell? ⟨w.heap.size, 1 + r.toNat, none⟩ = some (.int .i64 (-1)) ∧ w'.cell? ⟨p, 4, none⟩ = some (.slice (some bd) nC cC) ∧ w'.cell? ⟨p, 5, none⟩ = some (.int .i64 due) ∧ w'.cell? ⟨p, 7, none⟩ = some (.slice (some ad) nT cT) ∧ w'.cell? (ad.add (k.toNat * 2)) = some (.int .i64 f0) ∧ w'.cell? ⟨(ad.add (k.toNat * 2)).block, (ad.add (k.toNat * 2)).off + 1, none⟩ = some (.int .i64 f1) ∧ w'.cell? ⟨(bd.add (r.toNat * 3)).block, (bd.add (r.toNat * 3)).off + 2, none⟩ = some (.int .i64 rest)) (first | go_keep | exact ⟨pw_cell_below hb b0, pw_cell_below hb b1, pw_cell_below hb u4, pw_cell_below hb u5, pw_cell_below hb u7, pw_cell_below hb t0, pw_cell_below hb t1, pw_cell_below hb q2⟩) (first
        | (go_at_call 48; refine (HC1.out _ hbr.out).mono ?_; rintro e w' ⟨rfl, hb⟩))
      rename_i hHeld
      obtain ⟨b0', b1', u4', u5', u7', t0', t1', q2'⟩ := hHeld
      have hd : decide (IntKind.i64.wrap (f1 + due) < x1) = false := by rw [i64_w, win _ (by omega)]; exact decide_eq_false (by omega)
      rw [hd]
      have hBw : Below w.heap.size w w' := HB0.out.trans ((below_drew (Below.refl _ _)).trans (hb.mono HB0.out.size))
      clear b0 b1 u4 u5 u7 t0 t1 q2
      go_wp2_with fail
      go_quiet (fail)
      go_wp2_with fail
      go_ret
      exact ⟨by rw [hm3.out]; rfl, pw_below_drewN hBw _⟩
    · have hm3 : Aside0 (mv = decide (x2 + rest ≤ f0)) := ⟨by rw [hm2.out, decide_eq_false hl]; rfl⟩
      clear hm2
      obtain ⟨m, rfl⟩ := Int.eq_ofNat_of_zero_le (show 0 ≤ last by omega)
      go_enter Try.func53, Try.ntmps53
      go_wp2_with fail
      go_region_held3 (fun w' : World => w'.cell? ⟨w.heap.size, 0, none⟩ = some (.int .i64 k) ∧ w'.cell? ⟨w.heap.size, 1 + r.toNat, none⟩ = some (.int .i64 (m : Int)) ∧ w'.cell? ⟨p, 4, none⟩ = some (.slice (some bd) nC cC) ∧ w'.cell? ⟨p, 5, none⟩ = some (.int .i64 due) ∧ w'.cell? ⟨p, 7, none⟩ = some (.slice (some ad) nT cT) ∧ w'.cell? (ad.add (k.toNat * 2)) = some (.int .i64 f0) ∧ w'.cell? ⟨(ad.add (k.toNat * 2)).block, (ad.add (k.toNat * 2)).off + 1, none⟩ = some (.int .i64 f1) ∧ w'.cell? ⟨(bd.add (r.toNat * 3)).block, (bd.add (r.toNat * 3)).off + 2, none⟩ = some (.int .i64 rest)) (first | go_keep | exact ⟨pw_cell_below hb b0, pw_cell_below hb b1, pw_cell_below hb u4, pw_cell_below hb u5, pw_cell_below hb u7, pw_cell_below hb t0, pw_cell_below hb t1, pw_cell_below hb q2⟩) (first
        | (go_at_call 48; refine (HC1.out _ hbr.out).mono ?_; rintro e w' ⟨rfl, hb⟩))
      rename_i hHeld
      obtain ⟨b0', b1', u4', u5', u7', t0', t1', q2'⟩ := hHeld
      have hd : decide (IntKind.i64.wrap (f1 + due) < x1) = false := by rw [i64_w, win _ (by omega)]; exact decide_eq_false (by omega)
      rw [hd]
      have hBw : Below w.heap.size w w' := HB0.out.trans ((below_drew (Below.refl _ _)).trans (hb.mono HB0.out.size))
      have hBw2 : Below (w.alloc (.cells cs 110)).heap.size (w.alloc (.cells cs 110)) w' := (below_drew (Below.refl _ _)).trans hb
      clear b0 b1 u4 u5 u7 t0 t1 q2 hbr
      have hbr : Aside0 (Below (w.alloc (.cells cs 110)).heap.size (w.alloc (.cells cs 110)) w'.drew) := ⟨below_drew hBw2⟩
      have hx2' := hx2 (Int.natCast_nonneg m)
      have HC3 := Aside0.mk (HC2.out (Int.natCast_nonneg m))
      clear hx2 HC1 HC2
      go_wp2_with fail
      go_region_held3 (fun w' : World => w'.cell? ⟨w.heap.size, 0, none⟩ = some (.int .i64 k) ∧ w'.cell? ⟨w.heap.size, 1 + r.toNat, none⟩ = some (.int .i64 (m : Int)) ∧ w'.cell? ⟨p, 4, none⟩ = some (.slice (some bd) nC cC) ∧ w'.cell? ⟨p, 5, none⟩ = some (.int .i64 due) ∧ w'.cell? ⟨p, 7, none⟩ = some (.slice (some ad) nT cT) ∧ w'.cell? (ad.add (k.toNat * 2)) = some (.int .i64 f0) ∧ w'.cell? ⟨(ad.add (k.toNat * 2)).block, (ad.add (k.toNat * 2)).off + 1, none⟩ = some (.int .i64 f1) ∧ w'.cell? ⟨(bd.add (r.toNat * 3)).block, (bd.add (r.toNat * 3)).off + 2, none⟩ = some (.int .i64 rest)) (first | go_keep | exact ⟨pw_cell_below hb2 b0', pw_cell_below hb2 b1', pw_cell_below hb2 u4', pw_cell_below hb2 u5', pw_cell_below hb2 u7', pw_cell_below hb2 t0', pw_cell_below hb2 t1', pw_cell_below hb2 q2'⟩) (first
        | (go_at_call 48; refine (HC3.out _ hbr.out).mono ?_; rintro e w2 ⟨rfl, hb2⟩))
      have hd2 : IntKind.i64.wrap (x2 + rest) = x2 + rest := by rw [i64_w, win _ (by omega)]
      have hd3 : ((m : Int) == -1) = false := beq_eq_false_iff_ne.mpr (by omega)
      have hgo : Below w.heap.size w w2 := hBw.trans ((below_drew (Below.refl _ _)).trans (hb2.mono hBw.size))
      have hval : ((m : Int) == -1 || decide (IntKind.i64.wrap (x2 + rest) ≤ f0)) = mv := by rw [hm3.out, hd2, hd3]; rfl
      rw [hval]
      go_wp2_with fail
      go_ret
      exact ⟨rfl, hgo⟩
end Go.Proofs.Ytillieimgjdpbaa.Pr
