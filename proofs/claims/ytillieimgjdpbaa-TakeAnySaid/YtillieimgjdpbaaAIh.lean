/- Plain laws for TakeAny: a right rota keeps its times; what pick and Listed answer. -/
import Derived.Test.YtillieimgjdpbaaAIg
namespace Go.Proofs.Ytillieimgjdpbaa.Pr
open Go.RowKit Go.Proofs.YtillieimgjdpbaaW.PrintWords Go.Proofs.YtillieimgjdpbaaW.PrintLast Go.Proofs.YtillieimgjdpbaaW.PrintMore
set_option linter.unusedVariables false
set_option linter.unusedSimpArgs false
theorem snoc_ind {P : List Int → Prop} (h0 : P []) (h1 : ∀ l x, P l → P (l ++ [x])) (l : List Int) : P l := by
  rw [← List.reverse_reverse l]
  generalize l.reverse = m
  induction m with
  | nil => exact h0
  | cons x t ih => rw [List.reverse_cons]; exact h1 _ _ ih
/-- Which take a reporter had last. -/
theorem get_begin : ∀ (l : List Int), (∀ r ∈ l, 0 ≤ r ∧ r < 5) → ∀ r : Int, 0 ≤ r → r < 5 → ((beginP l).get r = -1 ∧ ∀ (i : Nat) (h : i < l.length), l[i] ≠ r) ∨ ∃ (j : Nat) (hj : j < l.length), (beginP l).get r = j ∧ l[j] = r ∧ ∀ (i : Nat) (h : i < l.length), j < i → l[i] ≠ r := by
  refine snoc_ind (P := fun l => (∀ r ∈ l, 0 ≤ r ∧ r < 5) → ∀ r : Int, 0 ≤ r → r < 5 → ((beginP l).get r = -1 ∧ ∀ (i : Nat) (h : i < l.length), l[i] ≠ r) ∨ ∃ (j : Nat) (hj : j < l.length), (beginP l).get r = j ∧ l[j] = r ∧ ∀ (i : Nat) (h : i < l.length), j < i → l[i] ≠ r) ?_ ?_
  · refine fun _ r h0 h1 => .inl ⟨?_, fun i h => absurd h (by simp)⟩
    obtain rfl | rfl | rfl | rfl | rfl : r = 0 ∨ r = 1 ∨ r = 2 ∨ r = 3 ∨ r = 4 := by omega
    all_goals rfl
  · intro l x ih hl r h0 h1
    have hx := hl x (by simp)
    have hlen : (l ++ [x]).length = l.length + 1 := by simp
    rw [beginP_snoc, given_get _ x r hx.1 hx.2 h0 h1]
    by_cases hr : r = x
    · rw [if_pos hr, beginP_k]
      refine .inr ⟨l.length, by omega, rfl, by simp [hr], fun i hi hlt => by omega⟩
    · rw [if_neg hr]
      rcases ih (fun q hq => hl q (by simp [hq])) r h0 h1 with ⟨e, h⟩ | ⟨j, hj, e, hjr, h⟩
      · refine .inl ⟨e, fun i hi => ?_⟩
        by_cases hil : i < l.length
        · rw [List.getElem_append_left hil]; exact h i hil
        · obtain rfl : i = l.length := by omega
          simp; exact fun e => hr e.symm
      · refine .inr ⟨j, by omega, e, by rw [List.getElem_append_left hj]; exact hjr, fun i hi hlt => ?_⟩
        by_cases hil : i < l.length
        · rw [List.getElem_append_left hil]; exact h i hil hlt
        · obtain rfl : i = l.length := by omega
          simp; exact fun e => hr e.symm
/-- A right list: each of its takes may be given. -/
theorem right_at {W : Wk} {nt : Int} {l : List Int} (h : rightN W nt initP l) (k : Nat) (hk : k < l.length) : 0 ≤ l[k] ∧ l[k] < W.C.length ∧ l[k] ≠ nt ∧ mayP W (beginP (l.take k)) l[k] = true := by
  have e : l = l.take k ++ (l[k] :: l.drop (k + 1)) := by rw [← List.drop_eq_getElem_cons hk, List.take_append_drop]
  rw [e, rightN_append] at h
  obtain ⟨_, h1, h2, h3, h4, _⟩ := h
  exact ⟨h1, h2, h3, h4⟩
theorem may_parts {W : Wk} {s : Sx} {r : Int} (h : mayP W s r = true) : worstP W s.k r ≤ (rd_T35 W.T s.k).f1 + W.due ∧ (s.get r = -1 ∨ worstP W (s.get r) r + (rd_T99 W.C r).f1 ≤ (rd_T35 W.T s.k).f0) := by
  simp only [mayP, Bool.and_eq_true, Bool.or_eq_true, Bool.not_eq_true', decide_eq_true_eq, decide_eq_false_iff_not] at h
  exact ⟨by omega, h.2⟩
theorem rise_le {L : Int} {T : List S35} (hr : Rise L 0 T) : ∀ (d i : Nat) (h : i + d < T.length), (rd_T35 T i).f0 ≤ (rd_T35 T ((i + d : Nat) : Int)).f0
  | 0, i, h => Int.le_refl _
  | d + 1, i, h => by
    have h1 := rise_le hr d i (by omega)
    have h2 := hr.get (i + d) (by omega)
    have h3 := h2.2.2.2 (by omega)
    rw [rd35' T (i + d) (by omega)] at h1
    rw [rd35' T (i + (d + 1)) (by omega)]
    have e : T[i + (d + 1)] = T[i + d + 1] := rfl
    rw [e]
    omega
/-- Whoever has a take has rested since each earlier one of his. -/
theorem right_rest {W : Wk} (hn : W.Ok) (hr : Rise W.L 0 W.T) {l : List Int} (h : rightN W (-1) initP l) (hl : l.length ≤ W.T.length) : ∀ (n k : Nat), k ≤ n → ∀ (hk : k < l.length) (i : Nat) (hi : i < k), l[i] = l[k] → worstP W i l[k] + (rd_T99 W.C l[k]).f1 ≤ (rd_T35 W.T k).f0 := by
  have hin := rightN_in h
  have hc1 := hn.c1
  intro n
  induction n with
  | zero => intro k hkn hk i hi; omega
  | succ n ih =>
    intro k hkn hk i hi he
    obtain ⟨r0, r1, _, hm⟩ := right_at h k hk
    obtain ⟨_, h2⟩ := may_parts hm
    have hkk : (beginP (l.take k)).k = k := by rw [beginP_k, List.length_take]; omega
    rw [hkk] at h2
    rcases get_begin (l.take k) (fun r hr => by have := hin r (List.mem_of_mem_take hr); omega) l[k] r0 (by omega) with ⟨_, h3⟩ | ⟨j, hj, e, hjr, h3⟩
    · have := h3 i (by rw [List.length_take]; omega)
      rw [List.getElem_take] at this
      exact absurd he this
    · have hj' : j < k := by rw [List.length_take] at hj; omega
      rw [List.getElem_take] at hjr
      rw [e] at h2
      have h4 : worstP W j l[k] + (rd_T99 W.C l[k]).f1 ≤ (rd_T35 W.T k).f0 := by
        rcases h2 with h2 | h2
        · omega
        · exact h2
      by_cases hij : i = j
      · subst hij; exact h4
      · have hij2 : i < j := by
          by_cases h5 : j < i
          · have := h3 i (by rw [List.length_take]; omega) h5
            rw [List.getElem_take] at this
            exact absurd he this
          · omega
        have h6 := ih j (by omega) (by omega) i hij2 (by rw [he, hjr])
        rw [hjr] at h6
        have h7 := rise_le hr (k - j) j (by omega)
        rw [show j + (k - j) = k by omega] at h7
        omega
/-- A take is done in time, and its reporter has rested, whatever the numbers are. -/
theorem any_law {W : Wk} (hn : W.Ok) (hr : Rise W.L 0 W.T) {l : List Int} (h : rightN W (-1) initP l) (hl : l.length = W.T.length) (i : Nat) (hi : i < l.length) (x : S71) (hx : realOk W l[i] x) :
    (rd_T35 W.T i).f1 ≤ doneP (rd_T35 W.T i) x.f0 x.f1 ∧ doneP (rd_T35 W.T i) x.f0 x.f1 ≤ (rd_T35 W.T i).f1 + W.due ∧ doneP (rd_T35 W.T i) x.f0 x.f1 ≤ 1000000 ∧
    ∀ (k : Nat) (hk : k < l.length), i < k → l[k] = l[i] → doneP (rd_T35 W.T i) x.f0 x.f1 + (rd_T99 W.C l[i]).f1 ≤ (rd_T35 W.T k).f0 := by
  obtain ⟨r0, r1, _, hm⟩ := right_at h i hi
  obtain ⟨h1, _⟩ := may_parts hm
  have hkk : (beginP (l.take i)).k = i := by rw [beginP_k, List.length_take]; omega
  rw [hkk] at h1
  have ht := hn.tk' (i : Int) (by omega) (by omega)
  have hc := hn.cr' l[i] r0 r1
  obtain ⟨x1, x2, x3, x4⟩ := hx
  have hw : doneP (rd_T35 W.T i) x.f0 x.f1 ≤ worstP W i l[i] := by
    unfold worstP doneP
    have : ((rd_T35 W.T i).f1 - (rd_T35 W.T i).f0) * x.f0 ≤ ((rd_T35 W.T i).f1 - (rd_T35 W.T i).f0) * (rd_T99 W.C l[i]).f0.f1 := Int.mul_le_mul_of_nonneg_left x2 (by omega)
    omega
  have h0 : 0 ≤ ((rd_T35 W.T i).f1 - (rd_T35 W.T i).f0) * x.f0 := Int.mul_nonneg (by omega) (by omega)
  have hwr := worst_range W hn i l[i] (by omega) (by omega) r0 r1
  refine ⟨by unfold doneP; omega, by omega, by omega, fun k hk hik he => ?_⟩
  have := right_rest hn hr h (by omega) k k (Nat.le_refl _) hk i hik he.symm
  rw [he] at this
  omega
theorem pick_some (lo hi : Int) (ws : List Int) (at_ : Int) (h0 : 0 ≤ lo) (h1 : lo ≤ hi) (h2 : hi ≤ 1000000) (ha : 0 ≤ at_) (hw : ∀ x ∈ ws, 0 ≤ x ∧ x ≤ 65535) : ∃ v, palantypelaw01_pick.f lo hi ws at_ = some v ∧ lo ≤ v ∧ v ≤ hi := by
  unfold palantypelaw01_pick.f
  by_cases hl : (ws.length : Int) = 0
  · exact ⟨lo, by rw [if_pos hl], Int.le_refl _, h1⟩
  · have e1 : Int.tmod at_ (ws.length : Int) = at_ % (ws.length : Int) := Int.tmod_eq_emod_of_nonneg ha
    have g1 : 0 ≤ at_ % (ws.length : Int) := Int.emod_nonneg _ hl
    have g2 : at_ % (ws.length : Int) < ws.length := Int.emod_lt_of_pos _ (by omega)
    have hb : 0 ≤ rd ws (at_ % (ws.length : Int)) ∧ rd ws (at_ % (ws.length : Int)) ≤ 65535 := by
      unfold rd
      rw [List.getD_eq_getElem?_getD, List.getElem?_eq_getElem (by omega)]
      exact hw _ (List.getElem_mem _)
    generalize hr : rd ws (at_ % (ws.length : Int)) = x at hb
    rw [if_neg hl, e1, if_pos g1, if_pos g2, hr, winS (hi - lo) (by omega), winS (hi - lo + 1) (by omega), winS x (by omega), if_neg (by omega)]
    have e2 : Int.tmod x (hi - lo + 1) = x % (hi - lo + 1) := Int.tmod_eq_emod_of_nonneg hb.1
    have g3 : 0 ≤ x % (hi - lo + 1) := Int.emod_nonneg _ (by omega)
    have g4 : x % (hi - lo + 1) < hi - lo + 1 := Int.emod_lt_of_pos _ (by omega)
    rw [e2]
    generalize x % (hi - lo + 1) = y at g3 g4 ⊢
    exact ⟨lo + y, by rw [winS (lo + y) (by omega)], by omega, by omega⟩
theorem winN' (i : Nat) (h : i < 1000000) : wrap64 ((i : Int) + 1) = ((i + 1 : Nat) : Int) := by rw [winS ((i : Int) + 1) (by omega)]; omega
theorem refl_l0 (cr : List S62) (due dl : Int) (l1 : List S41) (rota : List Int) (hc : cr.length ≤ 1000000) (hlen : rota.length ≤ 1000000) (hin : ∀ r ∈ rota, 0 ≤ r ∧ r < cr.length) (n : Nat) : ∀ (i k : Nat), i + n = rota.length →
    palantyperef01_Listed.l0 (n + 1 + k) l1 rota (i : Int) cr due dl = some ((rota.length : Int) == (l1.length : Int)) := by
  induction n with
  | zero =>
    intro i k hi
    obtain rfl : i = rota.length := by omega
    rw [show 0 + 1 + k = k + 1 from by omega, palantyperef01_Listed.l0, if_neg (by omega)]
  | succ n ih =>
    intro i k hi
    have hlt : i < rota.length := by omega
    have hr := hin rota[i] (List.getElem_mem _)
    have e : rd rota (i : Int) = rota[i] := by unfold rd; rw [Int.toNat_natCast, List.getD_eq_getElem?_getD, List.getElem?_eq_getElem hlt]; rfl
    have hw : wrap64 ((i : Int) + 1) = ((i + 1 : Nat) : Int) := winN' i (by omega)
    rw [show n + 1 + 1 + k = (n + 1 + k) + 1 from by omega, palantyperef01_Listed.l0, if_pos (by omega), if_pos (by omega), e, winS ((cr.length : Int) - 1) (by omega), in_some, Option.bind_some, decide_eq_true (by omega), if_pos rfl, hw]
    exact ih (i + 1) k (by omega)
theorem reflisted_some (cr : List S62) (due dl : Int) (l1 : List S41) (rota : List Int) (hc : cr.length ≤ 1000000) (hlen : rota.length ≤ 1000000) (hin : ∀ r ∈ rota, 0 ≤ r ∧ r < cr.length) (he : rota.length = l1.length) : palantyperef01_Listed.f (rota.length + 1) cr due dl l1 rota = some true := by
  have := refl_l0 cr due dl l1 rota hc hlen hin rota.length 0 0 (by omega)
  rw [palantyperef01_Listed.f]
  refine this.trans ?_
  rw [he]; simp
theorem made41 (n : Nat) (hn : n ≤ 1000) : ∃ cz, (∀ X : World, (Instr.makeSlice 22 (.int .i64 (n : Int)) (.int .i64 (n : Int))).run Try.prog X = .ok (.slice (some ⟨X.heap.size, 0, none⟩) n n) (X.alloc (.cells cz 41))) ∧ ∀ X : World, Kd.C k41 (X.alloc (.cells cz 41)) (some ⟨X.heap.size, 0, none⟩) (List.replicate n z41).length (List.replicate n z41) := by
  refine ⟨madeCells #[.int .i64 0, .int .i64 0] (n * 2), fun X => ?_, fun X => ?_⟩
  · obtain ⟨i0, hi, hzz⟩ := Option.map_eq_some_iff.1 info41
    simp only [Prod.mk.injEq] at hzz
    obtain ⟨hz0, hz1, hz2⟩ := hzz
    have hr := run_make (P := Try.prog) X 22 41 i0 (.agg #[.int .i64 0, .int .i64 0]) Try.underlying22 hi hz0 .i64 .i64 (n : Int) (n : Int) (by omega) (by omega) (by rw [hz2]; omega) (by omega)
    simp only [Int.toNat_natCast] at hr
    rw [hz1] at hr
    exact hr
  · have h : Kd.R k41 41 (X.alloc (.cells (madeCells #[.int .i64 0, .int .i64 0] (n * 2)) 41)) 0 (fun _ => True) (.slice (some ⟨X.heap.size, 0, none⟩) n n) (List.replicate n z41) :=
      ⟨fun _ _ => trivial, (madeCells #[.int .i64 0, .int .i64 0] (n * 2)).toList, by
        rw [List.length_replicate]
        exact World.ownsRow_lit X _ n (Nat.zero_le _) (by unfold maxLen; omega) (by simp [size_madeCells]; rfl), Kd.reps_made (z := .agg #[.int .i64 0, .int .i64 0]) rfl (by decide) (k41_mkM _ _ _ z41) n⟩
    exact (Kd.R_reads' h).2.2
end Go.Proofs.Ytillieimgjdpbaa.Pr
