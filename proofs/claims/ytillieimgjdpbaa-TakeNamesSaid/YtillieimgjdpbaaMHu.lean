/- Plain laws for TakeLengths: whole stretches; what is paused. -/
import Derived.Test.YtillieimgjdpbaaMPr4
import Derived.Test.YtillieimgjdpbaaMHm
import Derived.Test.YtillieimgjdpbaaMHh
namespace Go.Proofs.Ytillieimgjdpbaa.Pr
open Go.RowKit Go.Proofs.YtillieimgjdpbaaW.PrintWords
set_option linter.unusedVariables false
set_option linter.unusedSimpArgs false
/-- A stretch, cut by itself. -/
def chop (long short : Int) (x : S35) : List S35 :=
  let m := (x.f1 - x.f0) / long
  if x.f1 - (x.f0 + m * long) = 0 then fulls x.f0 long m.toNat
  else if short ≤ x.f1 - (x.f0 + m * long) ∨ m = 0 then fulls x.f0 long m.toNat ++ [⟨x.f0 + m * long, x.f1⟩]
  else fulls x.f0 long (m.toNat - 1) ++ [⟨x.f0 + (m - 1) * long, x.f1⟩]
theorem setLast_snoc (l : List S35) (p : S35) (v : Int) : setLast (l ++ [p]) v = l ++ [⟨p.f0, v⟩] := by simp [setLast]
theorem takesStep_chop (long short : Int) (hl : 1 ≤ long) (out : List S35) (x : S35) (hx : x.f0 < x.f1) : takesStep long short out x = out ++ chop long short x := by
  unfold takesStep chop
  simp only
  have hm0 : 0 ≤ (x.f1 - x.f0) / long := Int.ediv_nonneg (by omega) (by omega)
  split
  · rfl
  · split
    · rw [List.append_assoc]
    · rename_i h1 h2
      obtain ⟨m, hm⟩ : ∃ m : Nat, ((x.f1 - x.f0) / long).toNat = m + 1 := ⟨((x.f1 - x.f0) / long).toNat - 1, by omega⟩
      rw [hm, fulls_succ, ← List.append_assoc, setLast_snoc, List.append_assoc, Nat.add_sub_cancel]
      have : ((m : Nat) : Int) = (x.f1 - x.f0) / long - 1 := by omega
      rw [this]
theorem foldl_chop (long short : Int) (hl : 1 ≤ long) : ∀ (xs : List S35) (out : List S35), (∀ x ∈ xs, x.f0 < x.f1) → xs.foldl (takesStep long short) out = out ++ xs.flatMap (chop long short)
  | [], out, _ => by simp
  | x :: t, out, h => by
    rw [List.foldl_cons, takesStep_chop long short hl out x (h x (by simp)), foldl_chop long short hl t _ (fun y hy => h y (by simp [hy]))]
    simp
theorem strP_lt : ∀ (ps : List S35) (a : Int) (x : S35), x ∈ strP a ps → x.f0 < x.f1
  | [], a, x, h => by simp [strP] at h
  | p :: t, a, x, h => by
    rw [strP] at h
    split at h
    · rcases List.mem_cons.1 h with rfl | h
      · simp only; omega
      · exact strP_lt t _ x h
    · exact strP_lt t _ x h
theorem takesP_chop (L : Int) (ps : List S35) (long short : Int) (hl : 1 ≤ long) : takesP L ps long short = (strP 0 (ps ++ [⟨L, L⟩])).flatMap (chop long short) := by
  rw [takesP, foldl_chop long short hl _ _ (fun x hx => strP_lt _ _ x hx), List.nil_append]
/-- Where the stretches lie. -/
theorem strP_in (L : Int) : ∀ (ps : List S35) (a : Int), 0 ≤ a → (∀ p ∈ ps, 0 ≤ p.f0 ∧ p.f0 ≤ L ∧ 0 ≤ p.f1 ∧ p.f1 ≤ L) → ∀ x ∈ strP a ps, 0 ≤ x.f0 ∧ x.f0 < x.f1 ∧ x.f1 ≤ L
  | [], a, ha, _, x, h => by simp [strP] at h
  | p :: t, a, ha, hp, x, h => by
    have h1 := hp p (by simp)
    rw [strP] at h
    split at h
    · rcases List.mem_cons.1 h with rfl | h
      · simp only; omega
      · exact strP_in L t _ h1.2.2.1 (fun q hq => hp q (by simp [hq])) x h
    · exact strP_in L t _ h1.2.2.1 (fun q hq => hp q (by simp [hq])) x h
theorem mem_fulls {a long : Int} {n : Nat} {t : S35} (h : t ∈ fulls a long n) : ∃ k : Nat, k < n ∧ t = ⟨a + k * long, a + (k + 1) * long⟩ := by
  obtain ⟨k, hk, rfl⟩ := List.mem_map.1 h
  exact ⟨k, List.mem_range.1 hk, rfl⟩
/-- What a take of a stretch is: a whole one; the rest; the last, gone on. -/
theorem mem_chop {long short : Int} (hl : 1 ≤ long) {x : S35} (hx : x.f0 < x.f1) {t : S35} (h : t ∈ chop long short x) :
    x.f0 ≤ t.f0 ∧ t.f0 < t.f1 ∧ t.f1 ≤ x.f1 ∧ (t.f1 - t.f0 = long ∨ (t.f1 = x.f1 ∧ t.f1 - t.f0 < long ∧ (short ≤ t.f1 - t.f0 ∨ t.f0 = x.f0)) ∨ (t.f1 = x.f1 ∧ long < t.f1 - t.f0 ∧ t.f1 - t.f0 < long + short)) := by
  have hd1 := Int.mul_ediv_self_le (x := x.f1 - x.f0) (k := long) (by omega)
  have hd2 := Int.lt_mul_ediv_self_add (x := x.f1 - x.f0) (k := long) (by omega)
  have hm0 : 0 ≤ (x.f1 - x.f0) / long := Int.ediv_nonneg (by omega) (by omega)
  unfold chop at h
  simp only at h
  obtain ⟨m, hm⟩ : ∃ m : Nat, (x.f1 - x.f0) / long = m := ⟨((x.f1 - x.f0) / long).toNat, by omega⟩
  rw [hm, Int.mul_comm] at hd1 hd2
  rw [hm] at h
  simp only [Int.toNat_natCast] at h
  have hful : ∀ n : Nat, n ≤ m → t ∈ fulls x.f0 long n → x.f0 ≤ t.f0 ∧ t.f0 < t.f1 ∧ t.f1 ≤ x.f1 ∧ t.f1 - t.f0 = long := by
    intro n hn ht
    obtain ⟨k, hk, rfl⟩ := mem_fulls ht
    have h1 : (0 : Int) ≤ k * long := Int.mul_nonneg (by omega) (by omega)
    have h2 : ((k : Int) + 1) * long = k * long + long := by rw [Int.add_mul, Int.one_mul]
    have h3 : ((k : Int) + 1) * long ≤ m * long := Int.mul_le_mul_of_nonneg_right (by omega) (by omega)
    simp only
    omega
  split at h
  · obtain ⟨h1, h2, h3, h4⟩ := hful m (Nat.le_refl _) h
    exact ⟨h1, h2, h3, .inl h4⟩
  · rename_i hne
    split at h
    · rename_i hs
      rcases List.mem_append.1 h with h | h
      · obtain ⟨h1, h2, h3, h4⟩ := hful m (Nat.le_refl _) h
        exact ⟨h1, h2, h3, .inl h4⟩
      · obtain rfl := List.mem_singleton.1 h
        have h1 : (0 : Int) ≤ m * long := Int.mul_nonneg (by omega) (by omega)
        refine ⟨by simp only; omega, by simp only; omega, Int.le_refl _, .inr (.inl ⟨rfl, by simp only; omega, ?_⟩)⟩
        rcases hs with hs | hs
        · exact .inl hs
        · right; simp [hs]
    · rename_i hs
      have hmp : 1 ≤ m := by
        have : ¬ (m : Int) = 0 := fun e => hs (.inr e)
        omega
      rcases List.mem_append.1 h with h | h
      · obtain ⟨h1, h2, h3, h4⟩ := hful (m - 1) (by omega) h
        exact ⟨h1, h2, h3, .inl h4⟩
      · obtain rfl := List.mem_singleton.1 h
        have h1 : (0 : Int) ≤ ((m : Int) - 1) * long := Int.mul_nonneg (by omega) (by omega)
        have h2 : ((m : Int) - 1) * long = m * long - long := by rw [Int.sub_mul, Int.one_mul]
        have h3 : ¬ short ≤ x.f1 - (x.f0 + m * long) := fun e => hs (.inl e)
        refine ⟨by simp only; omega, by simp only; omega, Int.le_refl _, .inr (.inr ⟨rfl, by simp only; omega, by simp only; omega⟩)⟩
theorem takesP_in {L : Int} {ps : List S35} {long short : Int} (h : sittingOk L ps long short = true) : ∀ t ∈ takesP L ps long short, 0 ≤ t.f0 ∧ t.f0 < t.f1 ∧ t.f1 ≤ L := by
  obtain ⟨hp, hL0, hL1, hl, hl1, hs0, hs1⟩ := sittingOk_parts h
  have hb := (pausesOk_bounds L ps (-1) hp).1
  intro t ht
  rw [takesP_chop L ps long short hl] at ht
  obtain ⟨x, hx, htx⟩ := List.mem_flatMap.1 ht
  have h1 := strP_in L _ 0 (Int.le_refl _) (fun p hm => by
    rcases List.mem_append.1 hm with hm | hm
    · have := hb p hm; omega
    · obtain rfl := List.mem_singleton.1 hm; simp only; omega) x hx
  have h2 := mem_chop hl h1.2.1 htx
  omega
end Go.Proofs.Ytillieimgjdpbaa.Pr
namespace Go.Proofs.Ytillieimgjdpbaa.Pr
open Go.RowKit Go.Proofs.YtillieimgjdpbaaW.PrintWords Go.Proofs.YtillieimgjdpbaaW.PrintLast Go.Proofs.YtillieimgjdpbaaW.PrintMore
set_option linter.unusedVariables false
set_option linter.unusedSimpArgs false
def wkOf (L : Int) (ps : List S35) (long short : Int) (cr : List S99) (due dl : Int) : Wk := ⟨L, takesP L ps long short, cr, due, dl⟩
/-- The error of a sitting at an office. -/
def workE (L : Int) (ps : List S35) (long short : Int) (cr : List S99) (due dl : Int) : Int :=
  if (checkP L ps long short).2 ≠ 0 then (checkP L ps long short).2 else if officeOk cr due dl = true then 0 else 1
set_option maxRecDepth 100000 in
set_option maxHeartbeats 1000000 in
theorem work43 (a0_0 : Int) (A0_1 : Option Addr) (c0_1 : Nat) (l0_1 : List (S35)) (a0_2 : Int) (a0_3 : Int) (A1_0 : Option Addr) (c1_0 : Nat) (l1_0 : List (S99)) (a1_1 : Int) (a1_2 : Int) (w : World) (hr0_1 : Kd.C k35 w A0_1 l0_1.length l0_1) (hc0_1 : l0_1.length ≤ c0_1) (hr1_0 : Kd.C k99 w A1_0 l1_0.length l1_0) (hc1_0 : l1_0.length ≤ c1_0) :
    Calls Try.prog 43 #[.agg #[.int .i64 a0_0, .slice A0_1 l0_1.length c0_1, .int .i64 a0_2, .int .i64 a0_3], .agg #[.slice A1_0 l1_0.length c1_0, .int .i64 a1_1, .int .i64 a1_2]] w fun e w' => Below w.heap.size w w' ∧
      ((workE a0_0 l0_1 a0_2 a0_3 l1_0 a1_1 a1_2 ≠ 0 ∧ e = .returned (.tuple #[.pointer none, .int .i64 (workE a0_0 l0_1 a0_2 a0_3 l1_0 a1_1 a1_2)])) ∨
       (workE a0_0 l0_1 a0_2 a0_3 l1_0 a1_1 a1_2 = 0 ∧ ∃ p, e = .returned (.tuple #[.pointer (some ⟨p, 0, none⟩), .int .i64 0]) ∧ (wkOf a0_0 l0_1 a0_2 a0_3 l1_0 a1_1 a1_2).Here w' p)) := by
  obtain ⟨W1, hW1⟩ : ∃ X, X = (w.alloc (.cells #[.int .i64 a0_0, .slice A0_1 l0_1.length c0_1, .int .i64 a0_2, .int .i64 a0_3] 32)).alloc (.cells #[.slice A1_0 l1_0.length c1_0, .int .i64 a1_1, .int .i64 a1_2] 52) := ⟨_, rfl⟩
  have hB1 : Below w.heap.size w W1 := hW1 ▸ below_alloc (below_alloc (Below.refl _ _) _) _
  have g0 : W1.heap[w.heap.size]? = some (.cells #[.int .i64 a0_0, .slice A0_1 l0_1.length c0_1, .int .i64 a0_2, .int .i64 a0_3] 32 (0, 0)) := hW1 ▸ heap_alloc2_old _ _ _
  have g1 : W1.heap[w.heap.size + 1]? = some (.cells #[.slice A1_0 l1_0.length c1_0, .int .i64 a1_1, .int .i64 a1_2] 52 (0, 0)) := hW1 ▸ heap_alloc2_new _ _ _
  obtain ⟨r1, r2, hr⟩ : ∃ r1 r2, checkP a0_0 l0_1 a0_2 a0_3 = (r1, r2) := ⟨_, _, rfl⟩
  have HCH : Aside0 (Calls Try.prog 35 #[.agg #[.int .i64 a0_0, .slice A0_1 l0_1.length c0_1, .int .i64 a0_2, .int .i64 a0_3]] W1 fun e w' => ∃ v0_ : Value, e = .returned (.tuple #[v0_, .int .i64 r2]) ∧ Aside0 (Kd.R k35 35 w' W1.heap.size (fun _ => True) v0_ r1 ∧ Below W1.heap.size W1 w')) :=
    ⟨(take_Sitting_check.calls a0_0 A0_1 c0_1 l0_1 a0_2 a0_3 r1 r2 W1 (Kd.C_below hr0_1 hB1) hc0_1 (by rw [take_Sitting_check.f, hr])).mono (fun e w' h => by obtain ⟨v, h1, h2, h3⟩ := h; exact ⟨v, h1, ⟨h2, h3⟩⟩)⟩
  have HOF : Aside0 (∀ X : World, Below w.heap.size w X → Calls Try.prog 49 #[.agg #[.slice A1_0 l1_0.length c1_0, .int .i64 a1_1, .int .i64 a1_2]] X fun e w' => e = .returned (.bool (officeOk l1_0 a1_1 a1_2)) ∧ Below X.heap.size X w') :=
    ⟨fun X hX => take_Office_valid.calls A1_0 c1_0 l1_0 a1_1 a1_2 _ X (Kd.C_below hr1_0 hX) hc1_0 rfl⟩
  have HE : Aside0 (workE a0_0 l0_1 a0_2 a0_3 l1_0 a1_1 a1_2 = if r2 ≠ 0 then r2 else if officeOk l1_0 a1_1 a1_2 = true then 0 else 1) := ⟨by rw [workE, hr]⟩
  have HT : Aside0 (r2 = 0 → r1 = takesP a0_0 l0_1 a0_2 a0_3) := ⟨fun h => by
    subst h
    unfold checkP at hr
    split at hr
    · split at hr
      · exact absurd (Prod.mk.inj hr).2 (by decide)
      · exact (Prod.mk.inj hr).1.symm
    · exact absurd (Prod.mk.inj hr).2 (by decide)⟩
  have HR0 := Aside0.mk hr0_1
  have HR1 := Aside0.mk hr1_0
  have HB1 := Aside0.mk hB1
  have G0 := Aside0.mk g0
  have G1 := Aside0.mk g1
  obtain ⟨we, hwe⟩ : ∃ x, x = workE a0_0 l0_1 a0_2 a0_3 l1_0 a1_1 a1_2 := ⟨_, rfl⟩
  rw [← hwe] at HE ⊢
  subst hW1
  clear hr hr0_1 hr1_0 hB1 g0 g1 hwe
  by_cases h2 : r2 = 0
  · subst h2
    obtain ⟨b, hb⟩ : ∃ b, b = officeOk l1_0 a1_1 a1_2 := ⟨_, rfl⟩
    rw [← hb] at HOF HE
    clear hb
    cases b with
    | false =>
      have HE2 : Aside0 (we = 1) := ⟨by rw [HE.out]; rfl⟩
      go_enter Try.func43, Try.ntmps43
      go_wp2_with (first | (go_at_call 35; refine (HCH.out).mono ?_; rintro e w' ⟨v, rfl, hX⟩; have k0 := blk_below G0.out hX.out.2; have k1 := blk_below G1.out hX.out.2; have c0 := (blk_cell k1 0).trans rfl; have c1 := (blk_cell k1 1).trans rfl; have c2 := (blk_cell k1 2).trans rfl; have HB2 : Aside0 (Below w.heap.size w w') := ⟨below_then HB1.out HB1.out.size hX.out.2⟩; clear k0 k1) | (go_at_call 49; refine (HOF.out _ HB2.out).mono ?_; rintro e w2 ⟨rfl, hb2⟩))
      go_ret2
      exact ⟨HB2.out.trans (hb2.mono HB2.out.size), .inl ⟨by rw [HE2.out]; decide, by rw [HE2.out]; rfl⟩⟩
    | true =>
      have HE2 : Aside0 (we = 0) := ⟨by rw [HE.out]; rfl⟩
      go_enter Try.func43, Try.ntmps43
      go_wp2_with (first | (go_at_call 35; refine (HCH.out).mono ?_; rintro e w' ⟨v, rfl, hX⟩; have k0 := blk_below G0.out hX.out.2; have k1 := blk_below G1.out hX.out.2; have K0 := Aside0.mk k0; have K1 := Aside0.mk k1; have c0 := (blk_cell k1 0).trans rfl; have c1 := (blk_cell k1 1).trans rfl; have c2 := (blk_cell k1 2).trans rfl; have HB2 : Aside0 (Below w.heap.size w w') := ⟨below_then HB1.out HB1.out.size hX.out.2⟩; clear k0 k1) | (go_at_call 49; refine (HOF.out _ HB2.out).mono ?_; rintro e w2 ⟨rfl, hb2⟩; clear c0 c1 c2; have k0 := blk_below K0.out hb2; have k1 := blk_below K1.out hb2; have c0 := (blk_cell k1 0).trans rfl; have c1 := (blk_cell k1 1).trans rfl; have c2 := (blk_cell k1 2).trans rfl; have d0 := (blk_cell k0 0).trans rfl; have d1 := (blk_cell k0 1).trans rfl; have d2 := (blk_cell k0 2).trans rfl; have d3 := (blk_cell k0 3).trans rfl; obtain ⟨AT, cT, rfl⟩ := Kd.R_slice hX.out.1; clear k0 k1))
      go_ret2
      have hT := HT.out (by first | rfl | trivial)
      subst hT
      have hC := Kd.C_alloc (Kd.C_below (Kd.R_reads' hX.out.1).2.2 hb2)
      have hb3 : Below w.heap.size w w2 := HB2.out.trans (hb2.mono HB2.out.size)
      exact ⟨below_alloc hb3 _, .inr ⟨HE2.out, w2.heap.size, rfl, ⟨A0_1, l0_1.length, c0_1, a0_2, a0_3, A1_0, c1_0, AT, cT, ⟨blk_new w2 _, hC _, Kd.C_below HR1.out (below_alloc hb3 _)⟩⟩⟩⟩
  · have HE2 : Aside0 (we = r2) := ⟨by rw [HE.out, if_pos h2]⟩
    have h2b : (r2 != 0) = true := by simpa using h2
    go_enter Try.func43, Try.ntmps43
    go_wp2_with (first | (go_at_call 35; refine (HCH.out).mono ?_; rintro e w' ⟨v, rfl, hX⟩; have k0 := blk_below G0.out hX.out.2; have k1 := blk_below G1.out hX.out.2; have c0 := (blk_cell k1 0).trans rfl; have c1 := (blk_cell k1 1).trans rfl; have c2 := (blk_cell k1 2).trans rfl; have HB2 : Aside0 (Below w.heap.size w w') := ⟨below_then HB1.out HB1.out.size hX.out.2⟩; clear k0 k1))
    go_ret2
    exact ⟨HB2.out, .inl ⟨by rw [HE2.out]; exact h2, by rw [HE2.out]; rfl⟩⟩
theorem check_ok {L : Int} {ps : List S35} {long short : Int} (h : (checkP L ps long short).2 = 0) : sittingOk L ps long short = true ∧ (takesP L ps long short).length ≤ 40 := by
  unfold checkP at h
  split at h
  · rename_i hs
    split at h
    · cases h
    · exact ⟨hs, by omega⟩
  · cases h
theorem wk_ok {L : Int} {ps : List S35} {long short : Int} {cr : List S99} {due dl : Int} (h : workE L ps long short cr due dl = 0) : (wkOf L ps long short cr due dl).Ok := by
  unfold workE at h
  by_cases hc : (checkP L ps long short).2 = 0
  · rw [if_neg (fun e => e hc)] at h
    split at h
    · rename_i ho
      obtain ⟨hs, ht⟩ := check_ok hc
      obtain ⟨_, hL0, hL1, _⟩ := sittingOk_parts hs
      simp only [officeOk, Bool.and_eq_true, decide_eq_true_eq, List.all_eq_true] at ho
      obtain ⟨⟨⟨h1, h2⟩, h3⟩, h4⟩ := ho
      exact ⟨hL0, hL1, ht, by show 1 ≤ cr.length; omega, by show cr.length ≤ 5; omega, h3.1, h3.2, h4.1, h4.2, fun t hm => by
        have := takesP_in hs t hm
        omega, h2⟩
    · cases h
  · rw [if_pos hc] at h
    exact absurd h hc
end Go.Proofs.Ytillieimgjdpbaa.Pr
namespace Go.Proofs.Ytillieimgjdpbaa.Pr
open Go.RowKit Go.Proofs.YtillieimgjdpbaaW.PrintWords Go.Proofs.YtillieimgjdpbaaW.PrintLast Go.Proofs.YtillieimgjdpbaaW.PrintMore
set_option linter.unusedVariables false
set_option linter.unusedSimpArgs false
def rotaR (W : Wk) (e : Int) : List Int × Int := if e ≠ 0 then ([], e) else if reachP W (-1) [] < W.T.length then ([], 9) else (rotaP W (-1) [], 0)
def failsR (W : Wk) (e : Int) : Int × Int := if e ≠ 0 then (0, e) else if reachP W (-1) [] = W.T.length then (0, 7) else (reachP W (-1) [], 0)
def take_Rota.f (a0_0 : Int) (l0_1 : List (S35)) (a0_2 : Int) (a0_3 : Int) (l1_0 : List (S99)) (a1_1 : Int) (a1_2 : Int) : Option (List Int × Int) := some (rotaR (wkOf a0_0 l0_1 a0_2 a0_3 l1_0 a1_1 a1_2) (workE a0_0 l0_1 a0_2 a0_3 l1_0 a1_1 a1_2))
def take_Fails.f (a0_0 : Int) (l0_1 : List (S35)) (a0_2 : Int) (a0_3 : Int) (l1_0 : List (S99)) (a1_1 : Int) (a1_2 : Int) : Option (Int × Int) := some (failsR (wkOf a0_0 l0_1 a0_2 a0_3 l1_0 a1_1 a1_2) (workE a0_0 l0_1 a0_2 a0_3 l1_0 a1_1 a1_2))
set_option maxRecDepth 100000 in
set_option maxHeartbeats 1000000 in
theorem take_Rota.calls (a0_0 : Int) (A0_1 : Option Addr) (c0_1 : Nat) (l0_1 : List (S35)) (a0_2 : Int) (a0_3 : Int) (A1_0 : Option Addr) (c1_0 : Nat) (l1_0 : List (S99)) (a1_1 : Int) (a1_2 : Int) (r1 : List Int) (r2 : Int) (w : World) (hr0_1 : Kd.C k35 w A0_1 l0_1.length l0_1) (hc0_1 : l0_1.length ≤ c0_1) (hr1_0 : Kd.C k99 w A1_0 l1_0.length l1_0) (hc1_0 : l1_0.length ≤ c1_0) (h : take_Rota.f a0_0 l0_1 a0_2 a0_3 l1_0 a1_1 a1_2 = some (r1, r2)) :
    Calls Try.prog 17 #[.agg #[.int .i64 a0_0, .slice A0_1 l0_1.length c0_1, .int .i64 a0_2, .int .i64 a0_3], .agg #[.slice A1_0 l1_0.length c1_0, .int .i64 a1_1, .int .i64 a1_2]] w fun e w' => ∃ v0_ : Value, e = .returned (.tuple #[v0_, .int .i64 r2]) ∧ Kd.V (Kd.int .i64) 3 w' w.heap.size (fun k_ => (w.heap.size ≤ k_)) v0_ r1 ∧ Below w.heap.size w w' := by
  have hres := Option.some.inj h
  clear h
  obtain ⟨we, hwe⟩ : ∃ x, x = workE a0_0 l0_1 a0_2 a0_3 l1_0 a1_1 a1_2 := ⟨_, rfl⟩
  obtain ⟨W1, hW1⟩ : ∃ X, X = (w.alloc (.cells #[.int .i64 a0_0, .slice A0_1 l0_1.length c0_1, .int .i64 a0_2, .int .i64 a0_3] 32)).alloc (.cells #[.slice A1_0 l1_0.length c1_0, .int .i64 a1_1, .int .i64 a1_2] 52) := ⟨_, rfl⟩
  have hB1 : Below w.heap.size w W1 := hW1 ▸ below_alloc (below_alloc (Below.refl _ _) _) _
  have hwk := work43 a0_0 A0_1 c0_1 l0_1 a0_2 a0_3 A1_0 c1_0 l1_0 a1_1 a1_2 W1 (Kd.C_below hr0_1 hB1) hc0_1 (Kd.C_below hr1_0 hB1) hc1_0
  have hok : we = 0 → (wkOf a0_0 l0_1 a0_2 a0_3 l1_0 a1_1 a1_2).Ok := fun he => wk_ok (hwe.symm.trans he)
  rw [← hwe] at hwk hres
  obtain ⟨W, hW⟩ : ∃ x, x = wkOf a0_0 l0_1 a0_2 a0_3 l1_0 a1_1 a1_2 := ⟨_, rfl⟩
  rw [← hW] at hwk hres hok
  have HB1 := Aside0.mk hB1
  subst hW1
  clear hwe hW hr0_1 hr1_0 hB1
  by_cases he : we = 0
  · have hn := hok he
    have HWK : Aside0 (Calls Try.prog 43 #[.agg #[.int .i64 a0_0, .slice A0_1 l0_1.length c0_1, .int .i64 a0_2, .int .i64 a0_3], .agg #[.slice A1_0 l1_0.length c1_0, .int .i64 a1_1, .int .i64 a1_2]] _ fun e w' => ∃ p, e = .returned (.tuple #[.pointer (some ⟨p, 0, none⟩), .int .i64 0]) ∧ Aside0 (W.Here w' p ∧ Below w.heap.size w w')) := ⟨hwk.mono (fun e w' h => by
      obtain ⟨h1, ⟨h2, _⟩ | ⟨_, p, h3, h4⟩⟩ := h
      · exact absurd he h2
      · exact ⟨p, h3, ⟨h4, below_then HB1.out HB1.out.size h1⟩⟩)⟩
    have hT := hn.t
    rw [rotaR, if_neg (by simp [he])] at hres
    have HRES := Aside0.mk hres
    have HNO := Aside0.mk hn
    clear hwk hok hres hn he
    have HLE : Aside0 (∀ (X : World) (p : Nat), W.Here X p → Calls Try.prog 44 #[.pointer (some ⟨p, 0, none⟩), .slice none 0 0, .int .i64 (-1)] X fun e w' => ∃ v : Value, e = .returned (.tuple #[v, .int .i64 (reachP W (-1) [])]) ∧ Aside0 (Kd.V (Kd.int .i64) 3 w' X.heap.size (fun k_ => (X.heap.size ≤ k_)) v (rotaP W (-1) []) ∧ Below X.heap.size X w')) := ⟨fun X p hX =>
      (least44 W HNO.out X p hX (-1) none 0 [] (Nat.zero_le _) (by simp) ⟨rfl, by decide, fun h => absurd h (by decide)⟩ (Nat.le_refl _)).mono (fun e w' h => by obtain ⟨v, h1, h2, h3⟩ := h; exact ⟨v, h1, ⟨h2, h3⟩⟩)⟩
    obtain ⟨rc, hrc⟩ : ∃ x, x = reachP W (-1) [] := ⟨_, rfl⟩
    obtain ⟨nT, hnT⟩ : ∃ x, x = W.T.length := ⟨_, rfl⟩
    rw [← hrc, ← hnT] at HRES
    rw [← hrc] at HLE
    clear hrc
    have HNT := Aside0.mk hnT
    rw [← hnT] at hT
    clear hnT
    by_cases hd : rc < (nT : Int)
    · have HR2 := Aside0.mk (by have := HRES.out; rwa [if_pos hd] at this)
      clear HRES
      have hdb : decide (rc < (nT : Int)) = true := decide_eq_true hd
      go_enter Try.func17, Try.ntmps17
      go_wp2_with (first | (go_at_call 43; refine (HWK.out).mono ?_; rintro e w' ⟨p, rfl, hX⟩) | (go_at_call 44; refine (HLE.out _ p hX.out.1).mono ?_; rintro e w2 ⟨v, rfl, hV⟩; obtain ⟨A1, n1, c1, lo, sh, AC, cC, AT, cT, hA⟩ := hX.out.1.below hV.out.2; have u7 : w2.cell? ⟨p, 7, none⟩ = some (.slice AT nT cT) := (blk_cell hA.blk 7).trans (by rw [HNT.out]; rfl); clear hA))
      go_ret2
      obtain ⟨rfl, rfl⟩ := Prod.mk.inj HR2.out
      exact ⟨_, rfl, Kd.V_nil _ _ _ _ _, hX.out.2.trans (hV.out.2.mono hX.out.2.size)⟩
    · have HR2 := Aside0.mk (by have := HRES.out; rwa [if_neg hd] at this)
      clear HRES
      have hdb : decide (rc < (nT : Int)) = false := decide_eq_false hd
      go_enter Try.func17, Try.ntmps17
      go_wp2_with (first | (go_at_call 43; refine (HWK.out).mono ?_; rintro e w' ⟨p, rfl, hX⟩) | (go_at_call 44; refine (HLE.out _ p hX.out.1).mono ?_; rintro e w2 ⟨v, rfl, hV⟩; obtain ⟨A1, n1, c1, lo, sh, AC, cC, AT, cT, hA⟩ := hX.out.1.below hV.out.2; have u7 : w2.cell? ⟨p, 7, none⟩ = some (.slice AT nT cT) := (blk_cell hA.blk 7).trans (by rw [HNT.out]; rfl); clear hA))
      go_ret2
      obtain ⟨rfl, rfl⟩ := Prod.mk.inj HR2.out
      exact ⟨_, rfl, Kd.V_mono hV.out.1 (fun k hk => Nat.le_trans hX.out.2.size hk), hX.out.2.trans (hV.out.2.mono hX.out.2.size)⟩
  · have HWK : Aside0 (Calls Try.prog 43 #[.agg #[.int .i64 a0_0, .slice A0_1 l0_1.length c0_1, .int .i64 a0_2, .int .i64 a0_3], .agg #[.slice A1_0 l1_0.length c1_0, .int .i64 a1_1, .int .i64 a1_2]] _ fun e w' => e = .returned (.tuple #[.pointer none, .int .i64 we]) ∧ Aside0 (Below w.heap.size w w')) := ⟨hwk.mono (fun e w' h => by
      obtain ⟨h1, ⟨_, h2⟩ | ⟨h3, _⟩⟩ := h
      · exact ⟨h2, ⟨below_then HB1.out HB1.out.size h1⟩⟩
      · exact absurd h3 he)⟩
    rw [rotaR, if_pos he] at hres
    have HRES := Aside0.mk hres
    have heb : (we != 0) = true := by simpa using he
    clear hwk hok hres
    go_enter Try.func17, Try.ntmps17
    go_wp2_with (first | (go_at_call 43; refine (HWK.out).mono ?_; rintro e w' ⟨rfl, hX⟩))
    go_ret2
    obtain ⟨rfl, rfl⟩ := Prod.mk.inj HRES.out
    exact ⟨_, rfl, Kd.V_nil _ _ _ _ _, hX.out⟩
set_option maxRecDepth 100000 in
set_option maxHeartbeats 1000000 in
theorem take_Fails.calls (a0_0 : Int) (A0_1 : Option Addr) (c0_1 : Nat) (l0_1 : List (S35)) (a0_2 : Int) (a0_3 : Int) (A1_0 : Option Addr) (c1_0 : Nat) (l1_0 : List (S99)) (a1_1 : Int) (a1_2 : Int) (r1 : Int) (r2 : Int) (w : World) (hr0_1 : Kd.C k35 w A0_1 l0_1.length l0_1) (hc0_1 : l0_1.length ≤ c0_1) (hr1_0 : Kd.C k99 w A1_0 l1_0.length l1_0) (hc1_0 : l1_0.length ≤ c1_0) (h : take_Fails.f a0_0 l0_1 a0_2 a0_3 l1_0 a1_1 a1_2 = some (r1, r2)) :
    Calls Try.prog 19 #[.agg #[.int .i64 a0_0, .slice A0_1 l0_1.length c0_1, .int .i64 a0_2, .int .i64 a0_3], .agg #[.slice A1_0 l1_0.length c1_0, .int .i64 a1_1, .int .i64 a1_2]] w fun e w' => e = .returned (.tuple #[.int .i64 r1, .int .i64 r2]) ∧ Below w.heap.size w w' := by
  have hres := Option.some.inj h
  clear h
  obtain ⟨we, hwe⟩ : ∃ x, x = workE a0_0 l0_1 a0_2 a0_3 l1_0 a1_1 a1_2 := ⟨_, rfl⟩
  obtain ⟨W1, hW1⟩ : ∃ X, X = (w.alloc (.cells #[.int .i64 a0_0, .slice A0_1 l0_1.length c0_1, .int .i64 a0_2, .int .i64 a0_3] 32)).alloc (.cells #[.slice A1_0 l1_0.length c1_0, .int .i64 a1_1, .int .i64 a1_2] 52) := ⟨_, rfl⟩
  have hB1 : Below w.heap.size w W1 := hW1 ▸ below_alloc (below_alloc (Below.refl _ _) _) _
  have hwk := work43 a0_0 A0_1 c0_1 l0_1 a0_2 a0_3 A1_0 c1_0 l1_0 a1_1 a1_2 W1 (Kd.C_below hr0_1 hB1) hc0_1 (Kd.C_below hr1_0 hB1) hc1_0
  have hok : we = 0 → (wkOf a0_0 l0_1 a0_2 a0_3 l1_0 a1_1 a1_2).Ok := fun he => wk_ok (hwe.symm.trans he)
  rw [← hwe] at hwk hres
  obtain ⟨W, hW⟩ : ∃ x, x = wkOf a0_0 l0_1 a0_2 a0_3 l1_0 a1_1 a1_2 := ⟨_, rfl⟩
  rw [← hW] at hwk hres hok
  have HB1 := Aside0.mk hB1
  subst hW1
  clear hwe hW hr0_1 hr1_0 hB1
  by_cases he : we = 0
  · have hn := hok he
    have HWK : Aside0 (Calls Try.prog 43 #[.agg #[.int .i64 a0_0, .slice A0_1 l0_1.length c0_1, .int .i64 a0_2, .int .i64 a0_3], .agg #[.slice A1_0 l1_0.length c1_0, .int .i64 a1_1, .int .i64 a1_2]] _ fun e w' => ∃ p, e = .returned (.tuple #[.pointer (some ⟨p, 0, none⟩), .int .i64 0]) ∧ Aside0 (W.Here w' p ∧ Below w.heap.size w w')) := ⟨hwk.mono (fun e w' h => by
      obtain ⟨h1, ⟨h2, _⟩ | ⟨_, p, h3, h4⟩⟩ := h
      · exact absurd he h2
      · exact ⟨p, h3, ⟨h4, below_then HB1.out HB1.out.size h1⟩⟩)⟩
    have hT := hn.t
    rw [failsR, if_neg (by simp [he])] at hres
    have HRES := Aside0.mk hres
    have HNO := Aside0.mk hn
    clear hwk hok hres hn he
    have HLE : Aside0 (∀ (X : World) (p : Nat), W.Here X p → Calls Try.prog 44 #[.pointer (some ⟨p, 0, none⟩), .slice none 0 0, .int .i64 (-1)] X fun e w' => ∃ v : Value, e = .returned (.tuple #[v, .int .i64 (reachP W (-1) [])]) ∧ Aside0 (Kd.V (Kd.int .i64) 3 w' X.heap.size (fun k_ => (X.heap.size ≤ k_)) v (rotaP W (-1) []) ∧ Below X.heap.size X w')) := ⟨fun X p hX =>
      (least44 W HNO.out X p hX (-1) none 0 [] (Nat.zero_le _) (by simp) ⟨rfl, by decide, fun h => absurd h (by decide)⟩ (Nat.le_refl _)).mono (fun e w' h => by obtain ⟨v, h1, h2, h3⟩ := h; exact ⟨v, h1, ⟨h2, h3⟩⟩)⟩
    obtain ⟨rc, hrc⟩ : ∃ x, x = reachP W (-1) [] := ⟨_, rfl⟩
    obtain ⟨nT, hnT⟩ : ∃ x, x = W.T.length := ⟨_, rfl⟩
    rw [← hrc, ← hnT] at HRES
    rw [← hrc] at HLE
    clear hrc
    have HNT := Aside0.mk hnT
    rw [← hnT] at hT
    clear hnT
    by_cases hd : rc = (nT : Int)
    · have HR2 := Aside0.mk (by have := HRES.out; rwa [if_pos hd] at this)
      clear HRES
      have hdb : (rc == (nT : Int)) = true := by simpa using hd
      go_enter Try.func19, Try.ntmps19
      go_wp2_with (first | (go_at_call 43; refine (HWK.out).mono ?_; rintro e w' ⟨p, rfl, hX⟩) | (go_at_call 44; refine (HLE.out _ p hX.out.1).mono ?_; rintro e w2 ⟨v, rfl, hV⟩; obtain ⟨A1, n1, c1, lo, sh, AC, cC, AT, cT, hA⟩ := hX.out.1.below hV.out.2; have u7 : w2.cell? ⟨p, 7, none⟩ = some (.slice AT nT cT) := (blk_cell hA.blk 7).trans (by rw [HNT.out]; rfl); clear hA))
      go_ret2
      obtain ⟨rfl, rfl⟩ := Prod.mk.inj HR2.out
      exact ⟨rfl, hX.out.2.trans (hV.out.2.mono hX.out.2.size)⟩
    · have HR2 := Aside0.mk (by have := HRES.out; rwa [if_neg hd] at this)
      clear HRES
      have hdb : (rc == (nT : Int)) = false := by simpa using hd
      go_enter Try.func19, Try.ntmps19
      go_wp2_with (first | (go_at_call 43; refine (HWK.out).mono ?_; rintro e w' ⟨p, rfl, hX⟩) | (go_at_call 44; refine (HLE.out _ p hX.out.1).mono ?_; rintro e w2 ⟨v, rfl, hV⟩; obtain ⟨A1, n1, c1, lo, sh, AC, cC, AT, cT, hA⟩ := hX.out.1.below hV.out.2; have u7 : w2.cell? ⟨p, 7, none⟩ = some (.slice AT nT cT) := (blk_cell hA.blk 7).trans (by rw [HNT.out]; rfl); clear hA))
      go_ret2
      obtain ⟨rfl, rfl⟩ := Prod.mk.inj HR2.out
      exact ⟨rfl, hX.out.2.trans (hV.out.2.mono hX.out.2.size)⟩
  · have HWK : Aside0 (Calls Try.prog 43 #[.agg #[.int .i64 a0_0, .slice A0_1 l0_1.length c0_1, .int .i64 a0_2, .int .i64 a0_3], .agg #[.slice A1_0 l1_0.length c1_0, .int .i64 a1_1, .int .i64 a1_2]] _ fun e w' => e = .returned (.tuple #[.pointer none, .int .i64 we]) ∧ Aside0 (Below w.heap.size w w')) := ⟨hwk.mono (fun e w' h => by
      obtain ⟨h1, ⟨_, h2⟩ | ⟨h3, _⟩⟩ := h
      · exact ⟨h2, ⟨below_then HB1.out HB1.out.size h1⟩⟩
      · exact absurd h3 he)⟩
    rw [failsR, if_pos he] at hres
    have HRES := Aside0.mk hres
    have heb : (we != 0) = true := by simpa using he
    clear hwk hok hres
    go_enter Try.func19, Try.ntmps19
    go_wp2_with (first | (go_at_call 43; refine (HWK.out).mono ?_; rintro e w' ⟨rfl, hX⟩))
    go_ret2
    obtain ⟨rfl, rfl⟩ := Prod.mk.inj HRES.out
    exact ⟨rfl, hX.out⟩
end Go.Proofs.Ytillieimgjdpbaa.Pr
namespace Go.Proofs.Ytillieimgjdpbaa.Pr
open Go.RowKit Go.Proofs.YtillieimgjdpbaaW.PrintWords Go.Proofs.YtillieimgjdpbaaW.PrintLast Go.Proofs.YtillieimgjdpbaaW.PrintMore
set_option linter.unusedVariables false
set_option linter.unusedSimpArgs false
set_option maxHeartbeats 2000000 in
/-- all(rota, f), f a closure over a working. -/
theorem all58 (A : Option Addr) (c : Nat) (l : List Int) (q : Int → Bool) (p : Value) (w : World) (hr : Kd.C (Kd.int .i64) w A l.length l)
    (hq : ∀ (x : Int) (X : World), x ∈ l → Below w.heap.size w X → Calls Try.prog 59 #[.int .i64 x, p] X fun e w' => e = .returned (.bool (q x)) ∧ Below X.heap.size X w') :
    Calls Try.prog 58 #[.slice A l.length c, .func (.func 59) #[] #[p]] w fun e w' => e = .returned (.bool (l.all q)) ∧ Below w.heap.size w w' := by
  have HB1 := (Below.refl w.heap.size w).alloc (Nat.le_refl _) (.cells #[.func (.func 59) #[] #[p]] 87)
  have hcl : ∀ (x : Int) (X : World), x ∈ l → Below (w.alloc (.cells #[.func (.func 59) #[] #[p]] 87)).heap.size (w.alloc (.cells #[.func (.func 59) #[] #[p]] 87)) X → Calls Try.prog 66 #[.int .i64 x, .pointer (some ⟨w.heap.size, 0, none⟩)] X fun e w' => e = .returned (.bool (!(q x))) ∧ Below X.heap.size X w' := fun x X hx hb => by
    have hbx := blk_below (blk_new w (.cells #[.func (.func 59) #[] #[p]] 87)) hb
    have hc0 : X.cell? ⟨w.heap.size, 0, none⟩ = some (.func (.func 59) #[] #[p]) := (blk_cell hbx 0).trans rfl
    have hlt := blk_lt hbx
    have HBX0 : Below w.heap.size w X := below_then HB1 HB1.size hb
    have HQ := Aside0.mk (hq x X hx HBX0)
    clear hb hq hr HB1 hx HBX0
    go_enter Try.func66, Try.ntmps66
    go_wp2_with (go_at_call 59; refine (HQ.out).mono ?_; rintro e w' ⟨rfl, hb2⟩)
    go_ret
    exact ⟨rfl, hb2⟩
  have HI := Aside0.mk (contains65 A c l (.pointer (some ⟨w.heap.size, 0, none⟩)) (fun x => !(q x)) (w.alloc (.cells #[.func (.func 59) #[] #[p]] 87)) (Kd.C_below hr HB1) hcl)
  have HE := Aside0.mk (any_not q l)
  clear hcl hq hr
  go_enter Try.func58, Try.ntmps58
  go_wp2_with (go_at_call 65; refine HI.out.mono ?_; rintro e w' ⟨rfl, hb⟩)
  go_ret
  exact ⟨by rw [← HE.out]; rfl, HB1.trans (hb.mono (by simp))⟩
def inCrew (W : Wk) (r : Int) : Bool := decide (0 ≤ r ∧ r ≤ (W.C.length : Int) - 1)
def listedP (W : Wk) (l : List Int) : Bool := decide ((l.length : Int) = (W.T.length : Int)) && l.all (inCrew W)
set_option maxHeartbeats 2000000 in
theorem listed59 (W : Wk) (hn : W.Ok) (w : World) (p b : Nat) (h : W.Here w p) (hb : w.heap[b]? = some (.cells #[.pointer (some ⟨p, 0, none⟩)] 90 (0, 0))) (x : Int) :
    Calls Try.prog 59 #[.int .i64 x, .pointer (some ⟨b, 0, none⟩)] w fun e w' => e = .returned (.bool (inCrew W x)) ∧ Below w.heap.size w w' := by
  obtain ⟨A1, n1, c1, lo, sh, AC, cC, AT, cT, hA⟩ := h
  have u4 : w.cell? ⟨p, 4, none⟩ = some (.slice AC W.C.length cC) := (blk_cell hA.blk 4).trans rfl
  have u0 : w.cell? ⟨b, 0, none⟩ = some (.pointer (some ⟨p, 0, none⟩)) := (blk_cell hb 0).trans rfl
  have hc1 := hn.c1
  have hw1 : ∀ X : World, Calls Try.prog 37 #[.int .i64 x, .int .i64 0, .int .i64 ((W.C.length : Int) - 1)] X fun e w' => e = .returned (.bool (inCrew W x)) ∧ Drawn0 X w' := fun X => take_within.calls _ _ _ _ X (within_some _ _ _)
  obtain ⟨q, hq⟩ : ∃ q, q = inCrew W x := ⟨_, rfl⟩
  rw [← hq] at hw1 ⊢
  obtain ⟨n, hnn⟩ : ∃ n, n = W.C.length := ⟨_, rfl⟩
  rw [← hnn] at u4 hc1 hw1
  have HW1 := Aside0.mk hw1
  clear hq hnn hw1 hA hb hn
  go_enter Try.func59, Try.ntmps59
  go_wp2_with (go_at_call 37; refine (HW1.out _).mono ?_; rintro e w' ⟨rfl, ⟨nd, rfl⟩⟩)
  go_ret
  exact ⟨rfl, pw_below_drewN (Below.refl _ _) _⟩
set_option maxHeartbeats 4000000 in
theorem listed45 (W : Wk) (hn : W.Ok) (w : World) (p : Nat) (h : W.Here w p) (A : Option Addr) (c : Nat) (l : List Int) (hr : Kd.C (Kd.int .i64) w A l.length l) :
    Calls Try.prog 45 #[.pointer (some ⟨p, 0, none⟩), .slice A l.length c] w fun e w' => e = .returned (.bool (listedP W l)) ∧ Below w.heap.size w w' := by
  have HB1 := Aside0.mk ((Below.refl w.heap.size w).alloc (Nat.le_refl _) (.cells #[.pointer (some ⟨p, 0, none⟩)] 90))
  have HALL : Aside0 (Calls Try.prog 58 #[.slice A l.length c, .func (.func 59) #[] #[.pointer (some ⟨w.heap.size, 0, none⟩)]] (w.alloc (.cells #[.pointer (some ⟨p, 0, none⟩)] 90)) fun e w' => e = .returned (.bool (l.all (inCrew W))) ∧ Below (w.alloc (.cells #[.pointer (some ⟨p, 0, none⟩)] 90)).heap.size (w.alloc (.cells #[.pointer (some ⟨p, 0, none⟩)] 90)) w') :=
    ⟨all58 A c l (inCrew W) _ _ (Kd.C_below hr HB1.out) (fun x X hx hX => listed59 W hn X p _ ((h.below HB1.out).below hX) (blk_below (blk_new w _) hX) x)⟩
  have hl := hr.2.1
  obtain ⟨A1, n1, c1, lo, sh, AC, cC, AT, cT, hA⟩ := h
  have u7 : w.cell? ⟨p, 7, none⟩ = some (.slice AT W.T.length cT) := (blk_cell hA.blk 7).trans rfl
  have hlt := blk_lt hA.blk
  have hT := hn.t
  have HE : Aside0 (listedP W l = (decide ((l.length : Int) = (W.T.length : Int)) && l.all (inCrew W))) := ⟨rfl⟩
  obtain ⟨q, hq⟩ : ∃ q, q = l.all (inCrew W) := ⟨_, rfl⟩
  obtain ⟨r, hrr⟩ : ∃ r, r = listedP W l := ⟨_, rfl⟩
  rw [← hq] at HALL HE
  rw [← hrr] at HE ⊢
  obtain ⟨nT, hnT⟩ : ∃ n, n = W.T.length := ⟨_, rfl⟩
  obtain ⟨nl, hnl⟩ : ∃ n, n = l.length := ⟨_, rfl⟩
  rw [← hnT] at u7 hT HE
  rw [← hnl] at HALL HE hl ⊢
  clear hq hrr hnT hnl hA hn hr
  by_cases he : nl = nT
  · subst he
    have HE2 : Aside0 (r = q) := ⟨by rw [HE.out, decide_eq_true rfl, Bool.true_and]⟩
    clear HE
    go_enter Try.func45, Try.ntmps45
    go_wp2_with (go_at_call 58; refine (HALL.out).mono ?_; rintro e w' ⟨rfl, hb⟩)
    go_ret
    exact ⟨by rw [HE2.out]; rfl, below_then HB1.out HB1.out.size hb⟩
  · have HE2 : Aside0 (r = false) := ⟨by rw [HE.out, decide_eq_false (by omega), Bool.false_and]⟩
    have heb : ((nl : Int) == (nT : Int)) = false := by simpa using (by omega : ¬ (nl : Int) = nT)
    have HN := Aside0.mk he
    clear HE he
    go_enter Try.func45, Try.ntmps45
    go_wp2_with fail
    go_ret
    exact ⟨by rw [HE2.out]; rfl, HB1.out⟩
def rightFrom (W : Wk) : Sx → List Int → Bool
  | _, [] => true
  | s, r :: t => mayP W s r && rightFrom W (givenP s r) t
def rightP (W : Wk) (l : List Int) : Bool := rightFrom W initP l
set_option maxRecDepth 100000 in
set_option maxHeartbeats 4000000 in
theorem right46 (W : Wk) (hn : W.Ok) (w : World) (p : Nat) (h : W.Here w p) (A : Option Addr) (c : Nat) (l : List Int) (hr : Kd.C (Kd.int .i64) w A l.length l) (hl : l.length ≤ W.T.length) (hin : ∀ r ∈ l, 0 ≤ r ∧ r < W.C.length) :
    Calls Try.prog 46 #[.pointer (some ⟨p, 0, none⟩), .slice A l.length c] w fun e w' => e = .returned (.bool (rightP W l)) ∧ Below w.heap.size w w' := by
  have hT := hn.t
  have hc1 := hn.c1
  have hbg : ∀ X : World, Calls Try.prog 57 #[.slice none 0 0] X fun e w' => e = .returned (.agg #[.int .i64 0, .int .i64 (-1), .int .i64 (-1), .int .i64 (-1), .int .i64 (-1), .int .i64 (-1)]) ∧ Below X.heap.size X w' := fun X => begin57 none 0 [] (by simp) (by simp) X ⟨rfl, by decide, fun h => absurd h (by decide)⟩
  have HR := Aside0.mk hr
  have HH := Aside0.mk h
  have HIN := Aside0.mk hin
  have HN := Aside0.mk hn
  have hlen : l.length ≤ 40 := by omega
  clear hr h hin hn
  go_enter Try.func46, Try.ntmps46
  go_wp2_with (go_at_call 57; refine (hbg _).mono ?_; rintro e w1 ⟨rfl, hb1⟩)
  obtain ⟨B, hB⟩ : ∃ B, B = w1.heap.size := ⟨_, rfl⟩
  have hBw : w.heap.size ≤ B := hB ▸ hb1.size
  have hW2 : Aside0 ((w1.alloc (.cells #[.int .i64 0, .int .i64 (-1), .int .i64 (-1), .int .i64 (-1), .int .i64 (-1), .int .i64 (-1)] 110)).heap[B]? = some (.cells (beginP (l.take 0)).cells 110 (0, 0))) := ⟨by rw [hB]; exact blk_new w1 _⟩
  have hB2 : Aside0 (Below w.heap.size w (w1.alloc (.cells #[.int .i64 0, .int .i64 (-1), .int .i64 (-1), .int .i64 (-1), .int .i64 (-1), .int .i64 (-1)] 110))) := ⟨below_alloc hb1 _⟩
  rw [← hB]
  clear hb1 hB
  go_loopw [11] (fun v11 wr => ∃ k : Nat, k ≤ l.length ∧ v11 = .int .i64 k ∧ Aside0 (wr.heap[B]? = some (.cells (beginP (l.take k)).cells 110 (0, 0))) ∧ Aside0 (rightP W l = rightFrom W (beginP (l.take k)) (l.drop k)) ∧ Aside0 (Below w.heap.size w wr)) (fun v11 _ => l.length - (intOf v11).toNat)
  case atStart => exact ⟨0, Nat.zero_le _, rfl, hW2, ⟨rfl⟩, hB2⟩
  case round =>
    clear hW2 hB2
    obtain ⟨k, hk, rfl, H1, HP, HB⟩ := hrel
    obtain ⟨s, hs⟩ : ∃ s, s = beginP (l.take k) := ⟨_, rfl⟩
    have hsk : s.k = k := by rw [hs, beginP_k, List.length_take]; omega
    rw [← hs] at H1 HP
    by_cases hlt : k < l.length
    · obtain ⟨ad, e, hx0⟩ := at3 HR.out k hlt
      cases e
      replace hx0 := (HB.out.cell (World.block_lt_of_cell? w _ hx0)).trans hx0
      obtain ⟨x, hx⟩ : ∃ x, x = l[k] := ⟨_, rfl⟩
      rw [← hx] at hx0
      have hxr : 0 ≤ x ∧ x < W.C.length := HIN.out x (by rw [hx]; exact List.getElem_mem _)
      have HN1 : beginP (l.take (k + 1)) = givenP s x := by rw [hs, hx, ← beginP_snoc, List.take_append_getElem]
      have hfine : s.Fine := hs ▸ begin_fine _ (fun r hr => by have := HIN.out r (List.mem_of_mem_take hr); omega)
      have hg := hfine.h x hxr.1 (by omega)
      obtain ⟨A1, n1, c1, lo, sh, AC, cC, AT, cT, hA⟩ := HH.out.below HB.out
      have hmv := may53 W HN.out wr p hA s x (by omega) (by omega) hxr.1 hxr.2 hg.1 hg.2
      have hgv := fun X => given55 s x hxr.1 (by omega) (by omega) (by omega) X
      have HPD : Aside0 (rightP W l = (mayP W s x && rightFrom W (givenP s x) (l.drop (k + 1)))) := ⟨by rw [HP.out, drop_cons' l k hlt, rightFrom, hx]⟩
      rw [← HN1] at hgv HPD
      obtain ⟨s1, hs1⟩ : ∃ s1, s1 = beginP (l.take (k + 1)) := ⟨_, rfl⟩
      rw [← hs1] at hgv HPD
      obtain ⟨mv, hmv'⟩ : ∃ m, m = mayP W s x := ⟨_, rfl⟩
      rw [← hmv'] at hmv HPD
      obtain ⟨rv, hrv⟩ : ∃ m, m = rightP W l := ⟨_, rfl⟩
      rw [← hrv] at HPD
      have HC : Aside0 (Calls Try.prog 53 #[.pointer (some ⟨p, 0, none⟩), .agg s.cells, .int .i64 x] wr fun e w' => e = .returned (.bool mv) ∧ Aside0 (w'.heap[B]? = some (.cells s.cells 110 (0, 0))) ∧ Aside0 (Below w.heap.size w w')) :=
        ⟨hmv.mono (fun e w' h => ⟨h.1, ⟨blk_below H1.out h.2⟩, ⟨HB.out.trans (h.2.mono HB.out.size)⟩⟩)⟩
      have HG : Aside0 (∀ X, Calls Try.prog 55 #[.agg s.cells, .int .i64 x] X fun e w' => e = .returned (.agg s1.cells) ∧ Below X.heap.size X w') := ⟨hgv⟩
      have HS1 := Aside0.mk hs1
      have HRV := Aside0.mk hrv
      clear hs hx HN1 hgv hmv hs1 hmv' HP hfine hg hA hrv
      have hsz : s.cells.size = 6 := rfl
      have hsz1 : s1.cells.size = 6 := rfl
      have hone : s1.cells.all (·.oneCell') = true := by simp [Sx.cells, Value.oneCell']
      obtain ⟨cs, hcs⟩ : ∃ cs, cs = s.cells := ⟨_, rfl⟩
      obtain ⟨cs1, hcs1⟩ : ∃ cs, cs = s1.cells := ⟨_, rfl⟩
      rw [← hcs] at H1 HC HG hsz
      rw [← hcs1] at HG hsz1 hone
      have HCS := Aside0.mk hcs1
      clear hcs hcs1
      have hi1 : (Try.prog.info? 110).map (·.size) = some cs.size := by rw [hsz]; kernel_rfl
      have hi2 : (Try.prog.info? 110).map (·.size) = some cs1.size := by rw [hsz1]; kernel_rfl
      have hss : cs.size = cs1.size := hsz.trans hsz1.symm
      have HI := Aside0.mk (show _ ∧ _ ∧ _ ∧ _ from ⟨hi1, hi2, hss, hone⟩)
      clear hi1 hi2 hss hone hsz hsz1
      cases mv with
      | false =>
        have HRV2 : Aside0 (rv = false) := ⟨by rw [HPD.out, Bool.false_and]⟩
        go_wp2_with (first
          | (refine wpList_load_row rfl 110 _ rfl B rfl 110 cs (0, 0) _ H1.out Try.underlying110 rfl HI.out.1 ?_)
          | (go_at_call 53; refine (HC.out).mono ?_; rintro e w' ⟨rfl, H1', HB'⟩))
        go_ret
        exact ⟨by rw [← HRV.out, HRV2.out]; rfl, HB'.out⟩
      | true =>
        have HRV2 : Aside0 (rightP W l = rightFrom W s1 (l.drop (k + 1))) := ⟨by rw [← HRV.out, HPD.out, Bool.true_and]⟩
        clear HRV HPD
        go_wp2_with (first
          | (refine wpList_load_row rfl 110 _ rfl B rfl 110 cs (0, 0) _ H1.out Try.underlying110 rfl HI.out.1 ?_)
          | (go_at_call 53; refine (HC.out).mono ?_; rintro e w' ⟨rfl, H1', HB'⟩)
          | (refine wpList_load_row rfl 110 _ rfl B rfl 110 cs (0, 0) _ H1'.out Try.underlying110 rfl HI.out.1 ?_)
          | (go_at_call 55; refine (HG.out _).mono ?_; rintro e w3 ⟨rfl, hb3⟩; have H13 := Aside0.mk (blk_below H1'.out hb3); have HB3 : Aside0 (Below w.heap.size w w3) := ⟨HB'.out.trans (hb3.mono HB'.out.size)⟩; clear hb3)
          | (refine wpList_store_row rfl 110 _ _ rfl B cs1 rfl rfl 110 cs H13.out HI.out.2.1 HI.out.2.2.1 HI.out.2.2.2 ?_))
        go_roundw
        case rel => exact ⟨k + 1, by omega, by go_num, ⟨by rw [setRow_heap _ _ _ _ _ _ H13.out, HCS.out, HS1.out]⟩, ⟨by rw [← HS1.out]; exact HRV2.out⟩, ⟨below_setRow HB3.out hBw _⟩⟩
        case measure => simp [intOf]; omega
    · have hkl : k = l.length := by omega
      have HE : Aside0 (rightP W l = true) := ⟨by rw [HP.out, List.drop_eq_nil_of_le (by omega), rightFrom]⟩
      clear hs
      go_wp2
      go_ret
      exact ⟨by rw [HE.out]; rfl, HB.out⟩
theorem listed_parts {W : Wk} {l : List Int} (h : listedP W l = true) : l.length = W.T.length ∧ ∀ r ∈ l, 0 ≤ r ∧ r < W.C.length := by
  simp only [listedP, Bool.and_eq_true, decide_eq_true_eq, List.all_eq_true] at h
  refine ⟨by omega, fun r hr => ?_⟩
  have := h.2 r hr
  simp only [inCrew, decide_eq_true_eq] at this
  omega
end Go.Proofs.Ytillieimgjdpbaa.Pr
namespace Go.Proofs.Ytillieimgjdpbaa.Pr
open Go.RowKit Go.Proofs.YtillieimgjdpbaaW.PrintWords
set_option linter.unusedVariables false
set_option linter.unusedSimpArgs false
end Go.Proofs.Ytillieimgjdpbaa.Pr
namespace Go.Proofs.Ytillieimgjdpbaa.Pr
open Go.RowKit Go.Proofs.YtillieimgjdpbaaW.PrintWords
set_option linter.unusedVariables false
set_option linter.unusedSimpArgs false
end Go.Proofs.Ytillieimgjdpbaa.Pr
namespace Go.Proofs.Ytillieimgjdpbaa.Pr
open Go.RowKit Go.Proofs.YtillieimgjdpbaaW.PrintWords
set_option linter.unusedVariables false
set_option linter.unusedSimpArgs false
/-- From some number of rounds on. -/
def EvR {α : Type} (f : Nat → Option α) (v : α) : Prop := ∃ k0, ∀ k, k0 ≤ k → f k = some v
theorem EvR.succ {α : Type} {f g : Nat → Option α} {v : α} (h : EvR g v) (hs : ∀ k, f (k + 1) = g k) : EvR f v := by
  obtain ⟨k0, hk⟩ := h
  refine ⟨k0 + 1, fun k hk1 => ?_⟩
  obtain ⟨j, rfl⟩ : ∃ j, k = j + 1 := ⟨k - 1, by omega⟩
  rw [hs, hk j (by omega)]
end Go.Proofs.Ytillieimgjdpbaa.Pr
namespace Go.Proofs.Ytillieimgjdpbaa.Pr
open Go.RowKit Go.Proofs.YtillieimgjdpbaaW.PrintWords
set_option linter.unusedVariables false
set_option linter.unusedSimpArgs false
end Go.Proofs.Ytillieimgjdpbaa.Pr
