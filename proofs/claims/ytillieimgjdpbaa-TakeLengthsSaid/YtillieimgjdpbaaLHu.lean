/- Plain laws for TakeLengths: whole stretches; what is paused. -/
import Derived.Test.YtillieimgjdpbaaLHt
namespace Go.Proofs.Ytillieimgjdpbaa.Pr
open Go.RowKit Go.Proofs.YtillieimgjdpbaaW.PrintWords
set_option linter.unusedVariables false
set_option linter.unusedSimpArgs false
def pausedP (l : List S41) (x : Int) : Bool := l.any fun p => decide (p.f0 ≤ x ∧ x ≤ p.f1 - 1)
theorem paused_l0 (L : Int) (l : List S41) (long short : Int) (x : Int) (hlen : l.length ≤ 1000000) (hb : ∀ p ∈ l, 0 ≤ p.f0 ∧ 0 ≤ p.f1 ∧ p.f1 ≤ 36000) : ∀ (n i k : Nat), i + n = l.length →
    palantyperef01_Paused.l0 (n + 1 + k) x (i : Int) L l long short = some (pausedP (l.drop i) x)
  | 0, i, k, hi => by
    obtain rfl : i = l.length := by omega
    rw [show 0 + 1 + k = k + 1 from by omega, palantyperef01_Paused.l0, if_neg (by omega), List.drop_length]
    rfl
  | n + 1, i, k, hi => by
    have hlt : i < l.length := by omega
    have hp := hb l[i] (List.getElem_mem hlt)
    have hw : wrap64 ((i : Int) + 1) = ((i + 1 : Nat) : Int) := by rw [winS _ (by omega)]; omega
    rw [show n + 1 + 1 + k = (n + 1 + k) + 1 from by omega, palantyperef01_Paused.l0, if_pos (by omega), if_pos (by omega), rd41 l i hlt, in_some, winS (l[i].f1 - 1) (by omega), Option.bind_some, hw, paused_l0 L l long short x hlen hb n (i + 1) k (by omega)]
    have hd : pausedP (l.drop i) x = (decide (l[i].f0 ≤ x ∧ x ≤ l[i].f1 - 1) || pausedP (l.drop (i + 1)) x) := by rw [drop_cons' l i hlt]; rfl
    rw [hd]
    cases decide (l[i].f0 ≤ x ∧ x ≤ l[i].f1 - 1) with
    | true => rfl
    | false => rfl
theorem paused_some (L : Int) (l : List S41) (long short : Int) (x : Int) (hlen : l.length ≤ 1000000) (hb : ∀ p ∈ l, 0 ≤ p.f0 ∧ 0 ≤ p.f1 ∧ p.f1 ≤ 36000) (k : Nat) (hk : l.length + 1 ≤ k) : palantyperef01_Paused.f k L l long short x = some (pausedP l x) := by
  obtain ⟨j, rfl⟩ : ∃ j, k = l.length + 1 + j := ⟨k - (l.length + 1), by omega⟩
  have := paused_l0 L l long short x hlen hb l.length 0 j (by omega)
  rw [palantyperef01_Paused.f]
  exact this.trans (by rw [List.drop_zero])
theorem sit_l0 (L : Int) (l : List S41) (long short : Int) (hlen : l.length ≤ 1000000) : ∀ (n i : Nat) (acc : List S35) (k : Nat), i + n = l.length → acc.length ≤ i →
    palantypelaw01_Sitting.l0 (n + 1 + k) (i : Int) L l long short L acc long short = some (L, acc ++ (l.drop i).map to35, long, short)
  | 0, i, acc, k, hi, hacc => by
    obtain rfl : i = l.length := by omega
    rw [show 0 + 1 + k = k + 1 from by omega, palantypelaw01_Sitting.l0, if_neg (by omega), List.drop_length]
    simp
  | n + 1, i, acc, k, hi, hacc => by
    have hlt : i < l.length := by omega
    have hw : wrap64 ((i : Int) + 1) = ((i + 1 : Nat) : Int) := by rw [winS _ (by omega)]; omega
    rw [show n + 1 + 1 + k = (n + 1 + k) + 1 from by omega, palantypelaw01_Sitting.l0, if_pos (by omega), if_pos (by omega), if_pos (by omega), rd41 l i hlt, hw, sit_l0 L l long short hlen n (i + 1) _ k (by omega) (by simp; omega)]
    have hd : (l.drop i).map to35 = to35 l[i] :: (l.drop (i + 1)).map to35 := by rw [drop_cons' l i hlt]; rfl
    rw [hd, List.append_assoc]
    rfl
theorem sit_some (L : Int) (l : List S41) (long short : Int) (hlen : l.length ≤ 1000000) (k : Nat) (hk : l.length + 1 ≤ k) : palantypelaw01_Sitting.f k L l long short = some (L, l.map to35, long, short) := by
  obtain ⟨j, rfl⟩ : ∃ j, k = l.length + 1 + j := ⟨k - (l.length + 1), by omega⟩
  have := sit_l0 L l long short hlen l.length 0 [] j (by omega) (by simp)
  rw [palantypelaw01_Sitting.f]
  exact this.trans (by simp)
/-- Where a stretch begins and ends. -/
theorem strP_ends (L : Int) : ∀ (ps : List S35) (a : Int) (x : S35), x ∈ strP a (ps ++ [⟨L, L⟩]) → (x.f0 = a ∨ ∃ p ∈ ps, x.f0 = p.f1) ∧ (x.f1 = L ∨ ∃ p ∈ ps, x.f1 = p.f0)
  | [], a, x, h => by
    rw [List.nil_append, strP, strP] at h
    split at h
    · obtain rfl := List.mem_singleton.1 h
      exact ⟨.inl rfl, .inl rfl⟩
    · cases h
  | p :: t, a, x, h => by
    have hrec : x ∈ strP p.f1 (t ++ [⟨L, L⟩]) → (x.f0 = a ∨ ∃ q ∈ p :: t, x.f0 = q.f1) ∧ (x.f1 = L ∨ ∃ q ∈ p :: t, x.f1 = q.f0) := fun h => by
      obtain ⟨h1, h2⟩ := strP_ends L t p.f1 x h
      refine ⟨?_, ?_⟩
      · rcases h1 with h1 | ⟨q, hq, h1⟩
        · exact .inr ⟨p, by simp, h1⟩
        · exact .inr ⟨q, by simp [hq], h1⟩
      · rcases h2 with h2 | ⟨q, hq, h2⟩
        · exact .inl h2
        · exact .inr ⟨q, by simp [hq], h2⟩
    rw [List.cons_append, strP] at h
    split at h
    · rcases List.mem_cons.1 h with rfl | h
      · exact ⟨.inl rfl, .inr ⟨p, by simp, rfl⟩⟩
      · exact hrec h
    · exact hrec h
def wholeP (L : Int) (l : List S41) (t : S35) : Bool := (decide (t.f0 = 0) || pausedP l (t.f0 - 1)) && (decide (t.f1 = L) || pausedP l t.f1)
/-- Each take is as long as the statement says. -/
theorem lengths_good {L : Int} {l : List S41} {long short : Int} (hs : sittingOk L (l.map to35) long short = true) (t : S35) (ht : t ∈ takesP L (l.map to35) long short) :
    ¬ t.f1 - t.f0 < 1 ∧ ¬ t.f1 - t.f0 ≥ long + short ∧ (t.f1 - t.f0 < short → wholeP L l t = true) := by
  obtain ⟨hp, hL0, hL1, hl, hl1, hs0, hs1⟩ := sittingOk_parts hs
  have hb := (pausesOk_bounds L _ (-1) hp).1
  rw [takesP_chop L _ long short hl] at ht
  obtain ⟨x, hx, htx⟩ := List.mem_flatMap.1 ht
  have hlt := strP_lt _ _ x hx
  obtain ⟨h1, h2, h3, h4⟩ := mem_chop hl hlt htx
  refine ⟨by omega, by omega, fun hsh => ?_⟩
  obtain ⟨e0, e1⟩ : t.f0 = x.f0 ∧ t.f1 = x.f1 := by omega
  obtain ⟨g0, g1⟩ := strP_ends L _ 0 x hx
  have hmem : ∀ q : S35, q ∈ l.map to35 → ∃ p ∈ l, p.f0 = q.f0 ∧ p.f1 = q.f1 ∧ p.f0 < p.f1 := fun q hq => by
    have := hb q hq
    obtain ⟨p, hp, rfl⟩ := List.mem_map.1 hq
    exact ⟨p, hp, rfl, rfl, this.2.1⟩
  rw [wholeP, Bool.and_eq_true, Bool.or_eq_true, Bool.or_eq_true]
  refine ⟨?_, ?_⟩
  · rcases g0 with g0 | ⟨q, hq, g0⟩
    · exact .inl (decide_eq_true (by omega))
    · obtain ⟨p, hp, p0, p1, p2⟩ := hmem q hq
      exact .inr (List.any_eq_true.2 ⟨p, hp, decide_eq_true (by omega)⟩)
  · rcases g1 with g1 | ⟨q, hq, g1⟩
    · exact .inl (decide_eq_true (by omega))
    · obtain ⟨p, hp, p0, p1, p2⟩ := hmem q hq
      exact .inr (List.any_eq_true.2 ⟨p, hp, decide_eq_true (by omega)⟩)
end Go.Proofs.Ytillieimgjdpbaa.Pr
