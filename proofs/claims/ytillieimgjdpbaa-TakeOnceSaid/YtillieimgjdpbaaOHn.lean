/- Contracts by hand: a sitting at an office; its first rota; the take that cannot be given. -/
import Derived.Test.YtillieimgjdpbaaOHm
import Derived.Test.YtillieimgjdpbaaOHfb
namespace Go.Proofs.Ytillieimgjdpbaa.Pr
open Go.RowKit Go.Proofs.YtillieimgjdpbaaW.PrintWords Go.Proofs.YtillieimgjdpbaaW.PrintLast Go.Proofs.YtillieimgjdpbaaW.PrintMore
set_option linter.unusedVariables false
set_option linter.unusedSimpArgs false
def wkOf (L : Int) (ps : List S35) (long short : Int) (cr : List S99) (due dl : Int) : Wk := ⟨L, takesP L ps long short, cr, due, dl⟩
/-- The error of a sitting at an office. -/
def workE (L : Int) (ps : List S35) (long short : Int) (cr : List S99) (due dl : Int) : Int :=
  if (checkP L ps long short).2 ≠ 0 then (checkP L ps long short).2 else if officeOk cr due dl = true then 0 else 1
set_option maxRecDepth 100000 in
set_option maxHeartbeats 1000000 in
theorem work43 (a0_0 : Int) (A0_1 : Option Addr) (c0_1 : Nat) (l0_1 : List (S35)) (a0_2 : Int) (a0_3 : Int) (A1_0 : Option Addr) (c1_0 : Nat) (l1_0 : List (S99)) (a1_1 : Int) (a1_2 : Int) (w : World) (hr0_1 : Kd.C k35 w A0_1 l0_1.length l0_1) (hc0_1 : l0_1.length ≤ c0_1) (hr1_0 : Kd.C k99 w A1_0 l1_0.length l1_0) (hc1_0 : l1_0.length ≤ c1_0) :
    Calls Try.prog 43 #[.agg #[.int .i64 a0_0, .slice A0_1 l0_1.length c0_1, .int .i64 a0_2, .int .i64 a0_3], .agg #[.slice A1_0 l1_0.length c1_0, .int .i64 a1_1, .int .i64 a1_2]] w fun e w' => Below w.heap.size w w' ∧
      ((workE a0_0 l0_1 a0_2 a0_3 l1_0 a1_1 a1_2 ≠ 0 ∧ e = .returned (.tuple #[.pointer none, .int .i64 (workE a0_0 l0_1 a0_2 a0_3 l1_0 a1_1 a1_2)])) ∨
       (workE a0_0 l0_1 a0_2 a0_3 l1_0 a1_1 a1_2 = 0 ∧ ∃ p, e = .returned (.tuple #[.pointer (some ⟨p, 0, none⟩), .int .i64 0]) ∧ (wkOf a0_0 l0_1 a0_2 a0_3 l1_0 a1_1 a1_2).Here w' p)) := by
  obtain ⟨W1, hW1⟩ : ∃ X, X = (w.alloc (.cells #[.int .i64 a0_0, .slice A0_1 l0_1.length c0_1, .int .i64 a0_2, .int .i64 a0_3] 32)).alloc (.cells #[.slice A1_0 l1_0.length c1_0, .int .i64 a1_1, .int .i64 a1_2] 52) := ⟨_, rfl⟩
  have hB1 : Below w.heap.size w W1 := hW1 ▸ below_alloc (below_alloc (Below.refl _ _) _) _
  have g0 : W1.heap[w.heap.size]? = some (.cells #[.int .i64 a0_0, .slice A0_1 l0_1.length c0_1, .int .i64 a0_2, .int .i64 a0_3] 32 (0, 0)) := hW1 ▸ heap_alloc2_old _ _ _
  have g1 : W1.heap[w.heap.size + 1]? = some (.cells #[.slice A1_0 l1_0.length c1_0, .int .i64 a1_1, .int .i64 a1_2] 52 (0, 0)) := hW1 ▸ heap_alloc2_new _ _ _
  obtain ⟨r1, r2, hr⟩ : ∃ r1 r2, checkP a0_0 l0_1 a0_2 a0_3 = (r1, r2) := ⟨_, _, rfl⟩
  have HCH : Aside0 (Calls Try.prog 35 #[.agg #[.int .i64 a0_0, .slice A0_1 l0_1.length c0_1, .int .i64 a0_2, .int .i64 a0_3]] W1 fun e w' => ∃ v0_ : Value, e = .returned (.tuple #[v0_, .int .i64 r2]) ∧ Aside0 (Kd.R k35 35 w' W1.heap.size (fun _ => True) v0_ r1 ∧ Below W1.heap.size W1 w')) :=
    ⟨(take_Sitting_check.calls a0_0 A0_1 c0_1 l0_1 a0_2 a0_3 r1 r2 W1 (Kd.C_below hr0_1 hB1) hc0_1 (by rw [take_Sitting_check.f, hr])).mono (fun e w' h => by obtain ⟨v, h1, h2, h3⟩ := h; exact ⟨v, h1, ⟨h2, h3⟩⟩)⟩
  have HOF : Aside0 (∀ X : World, Below w.heap.size w X → Calls Try.prog 49 #[.agg #[.slice A1_0 l1_0.length c1_0, .int .i64 a1_1, .int .i64 a1_2]] X fun e w' => e = .returned (.bool (officeOk l1_0 a1_1 a1_2)) ∧ Below X.heap.size X w') :=
    ⟨fun X hX => take_Office_valid.calls A1_0 c1_0 l1_0 a1_1 a1_2 _ X (Kd.C_below hr1_0 hX) hc1_0 rfl⟩
  have HE : Aside0 (workE a0_0 l0_1 a0_2 a0_3 l1_0 a1_1 a1_2 = if r2 ≠ 0 then r2 else if officeOk l1_0 a1_1 a1_2 = true then 0 else 1) := ⟨by rw [workE, hr]⟩
  have HT : Aside0 (r2 = 0 → r1 = takesP a0_0 l0_1 a0_2 a0_3) := ⟨fun h => by
    subst h
    unfold checkP at hr
    split at hr
    · split at hr
      · exact absurd (Prod.mk.inj hr).2 (by decide)
      · exact (Prod.mk.inj hr).1.symm
    · exact absurd (Prod.mk.inj hr).2 (by decide)⟩
  have HR0 := Aside0.mk hr0_1
  have HR1 := Aside0.mk hr1_0
  have HB1 := Aside0.mk hB1
  have G0 := Aside0.mk g0
  have G1 := Aside0.mk g1
  obtain ⟨we, hwe⟩ : ∃ x, x = workE a0_0 l0_1 a0_2 a0_3 l1_0 a1_1 a1_2 := ⟨_, rfl⟩
  rw [← hwe] at HE ⊢
  subst hW1
  clear hr hr0_1 hr1_0 hB1 g0 g1 hwe
  by_cases h2 : r2 = 0
  · subst h2
    obtain ⟨b, hb⟩ : ∃ b, b = officeOk l1_0 a1_1 a1_2 := ⟨_, rfl⟩
    rw [← hb] at HOF HE
    clear hb
    cases b with
    | false =>
      have HE2 : Aside0 (we = 1) := ⟨by rw [HE.out]; rfl⟩
      go_enter Try.func43, Try.ntmps43
      go_wp2_with (first | (go_at_call 35; refine (HCH.out).mono ?_; rintro e w' ⟨v, rfl, hX⟩; have k0 := blk_below G0.out hX.out.2; have k1 := blk_below G1.out hX.out.2; have c0 := (blk_cell k1 0).trans rfl; have c1 := (blk_cell k1 1).trans rfl; have c2 := (blk_cell k1 2).trans rfl; have HB2 : Aside0 (Below w.heap.size w w') := ⟨below_then HB1.out HB1.out.size hX.out.2⟩; clear k0 k1) | (go_at_call 49; refine (HOF.out _ HB2.out).mono ?_; rintro e w2 ⟨rfl, hb2⟩))
      go_ret2
      exact ⟨HB2.out.trans (hb2.mono HB2.out.size), .inl ⟨by rw [HE2.out]; decide, by rw [HE2.out]; rfl⟩⟩
    | true =>
      have HE2 : Aside0 (we = 0) := ⟨by rw [HE.out]; rfl⟩
      go_enter Try.func43, Try.ntmps43
      go_wp2_with (first | (go_at_call 35; refine (HCH.out).mono ?_; rintro e w' ⟨v, rfl, hX⟩; have k0 := blk_below G0.out hX.out.2; have k1 := blk_below G1.out hX.out.2; have K0 := Aside0.mk k0; have K1 := Aside0.mk k1; have c0 := (blk_cell k1 0).trans rfl; have c1 := (blk_cell k1 1).trans rfl; have c2 := (blk_cell k1 2).trans rfl; have HB2 : Aside0 (Below w.heap.size w w') := ⟨below_then HB1.out HB1.out.size hX.out.2⟩; clear k0 k1) | (go_at_call 49; refine (HOF.out _ HB2.out).mono ?_; rintro e w2 ⟨rfl, hb2⟩; clear c0 c1 c2; have k0 := blk_below K0.out hb2; have k1 := blk_below K1.out hb2; have c0 := (blk_cell k1 0).trans rfl; have c1 := (blk_cell k1 1).trans rfl; have c2 := (blk_cell k1 2).trans rfl; have d0 := (blk_cell k0 0).trans rfl; have d1 := (blk_cell k0 1).trans rfl; have d2 := (blk_cell k0 2).trans rfl; have d3 := (blk_cell k0 3).trans rfl; obtain ⟨AT, cT, rfl⟩ := Kd.R_slice hX.out.1; clear k0 k1))
      go_ret2
      have hT := HT.out (by first | rfl | trivial)
      subst hT
      have hC := Kd.C_alloc (Kd.C_below (Kd.R_reads' hX.out.1).2.2 hb2)
      have hb3 : Below w.heap.size w w2 := HB2.out.trans (hb2.mono HB2.out.size)
      exact ⟨below_alloc hb3 _, .inr ⟨HE2.out, w2.heap.size, rfl, ⟨A0_1, l0_1.length, c0_1, a0_2, a0_3, A1_0, c1_0, AT, cT, ⟨blk_new w2 _, hC _, Kd.C_below HR1.out (below_alloc hb3 _)⟩⟩⟩⟩
  · have HE2 : Aside0 (we = r2) := ⟨by rw [HE.out, if_pos h2]⟩
    have h2b : (r2 != 0) = true := by simpa using h2
    go_enter Try.func43, Try.ntmps43
    go_wp2_with (first | (go_at_call 35; refine (HCH.out).mono ?_; rintro e w' ⟨v, rfl, hX⟩; have k0 := blk_below G0.out hX.out.2; have k1 := blk_below G1.out hX.out.2; have c0 := (blk_cell k1 0).trans rfl; have c1 := (blk_cell k1 1).trans rfl; have c2 := (blk_cell k1 2).trans rfl; have HB2 : Aside0 (Below w.heap.size w w') := ⟨below_then HB1.out HB1.out.size hX.out.2⟩; clear k0 k1))
    go_ret2
    exact ⟨HB2.out, .inl ⟨by rw [HE2.out]; exact h2, by rw [HE2.out]; rfl⟩⟩
theorem check_ok {L : Int} {ps : List S35} {long short : Int} (h : (checkP L ps long short).2 = 0) : sittingOk L ps long short = true ∧ (takesP L ps long short).length ≤ 40 := by
  unfold checkP at h
  split at h
  · rename_i hs
    split at h
    · cases h
    · exact ⟨hs, by omega⟩
  · cases h
theorem wk_ok {L : Int} {ps : List S35} {long short : Int} {cr : List S99} {due dl : Int} (h : workE L ps long short cr due dl = 0) : (wkOf L ps long short cr due dl).Ok := by
  unfold workE at h
  by_cases hc : (checkP L ps long short).2 = 0
  · rw [if_neg (fun e => e hc)] at h
    split at h
    · rename_i ho
      obtain ⟨hs, ht⟩ := check_ok hc
      obtain ⟨_, hL0, hL1, _⟩ := sittingOk_parts hs
      simp only [officeOk, Bool.and_eq_true, decide_eq_true_eq, List.all_eq_true] at ho
      obtain ⟨⟨⟨h1, h2⟩, h3⟩, h4⟩ := ho
      exact ⟨hL0, hL1, ht, by show 1 ≤ cr.length; omega, by show cr.length ≤ 5; omega, h3.1, h3.2, h4.1, h4.2, fun t hm => by
        have := takesP_in hs t hm
        omega, h2⟩
    · cases h
  · rw [if_pos hc] at h
    exact absurd h hc
end Go.Proofs.Ytillieimgjdpbaa.Pr
