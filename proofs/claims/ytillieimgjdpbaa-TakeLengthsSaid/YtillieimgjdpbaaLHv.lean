/- TakeLengths: the plain law: whatever the sitting, the printed body answers true. -/
import Derived.Test.YtillieimgjdpbaaLHu
import Derived.Test.YtillieimgjdpbaaLHr
import Derived.Test.YtillieimgjdpbaaLPr7
namespace Go.Proofs.Ytillieimgjdpbaa.Pr
open Go.RowKit Go.Proofs.YtillieimgjdpbaaW.PrintWords
set_option linter.unusedVariables false
set_option linter.unusedSimpArgs false
theorem awake_ev : ∀ k, 30 ≤ k → palantypelaw01_awake.f k = some true := by
  intro k hk
  induction k with
  | zero => omega
  | succ k ih =>
    by_cases h : 30 ≤ k
    · exact palantypelaw01_awake.mono k _ (ih h)
    · obtain rfl : k = 29 := by omega
      exact awake_true
theorem rd35 (l : List S35) (i : Nat) (h : i < l.length) : rd_T35 l (i : Int) = l[i] := by
  unfold rd_T35
  rw [Int.toNat_natCast, List.getD_eq_getElem?_getD, List.getElem?_eq_getElem h]; rfl
theorem len_j3 {L : Int} {l : List S41} {long short : Int} {T : List S35} {i : Int} {k : Nat} (q : Int) (hw : wrap64 (i + 1) = q) (h : palantypelaw01_TakeLengths.l0 k T q L l long short = some true) :
    palantypelaw01_TakeLengths.j3 (k + 1) T i false L l long short = some true := by
  rw [palantypelaw01_TakeLengths.j3, if_neg (by decide), hw]; exact h
theorem len_j2 {L : Int} {l : List S41} {long short : Int} {T : List S35} {i n : Int} {k : Nat} (q : Bool) (hw : wrap64 (long + short) = long + short) (h1 : ¬ n < 1) (h2 : ¬ n ≥ long + short) (hq : n < short → q = true)
    (h : palantypelaw01_TakeLengths.j3 k T i false L l long short = some true) :
    palantypelaw01_TakeLengths.j2 (k + 1) T i n q L l long short = some true := by
  rw [palantypelaw01_TakeLengths.j2, if_neg h1, hw, if_neg h2]
  by_cases hsh : n < short
  · rw [if_pos hsh, hq hsh]; exact h
  · rw [if_neg hsh]; exact h
theorem len_step {L : Int} {l : List S41} {long short : Int} {T : List S35} {i : Int} {k : Nat} (t : S35) (p0 p1 : Bool) (h0 : 0 ≤ i) (hi : i < T.length) (ht : rd_T35 T i = t)
    (w1 : wrap64 (t.f1 - t.f0) = t.f1 - t.f0) (w2 : wrap64 (t.f0 - 1) = t.f0 - 1)
    (e0 : palantyperef01_Paused.f k L l long short (t.f0 - 1) = some p0) (e1 : palantyperef01_Paused.f k L l long short t.f1 = some p1)
    (h : ∀ q : Bool, (((decide (t.f0 = 0) || p0) && (decide (t.f1 = L) || p1)) = true → q = true) → palantypelaw01_TakeLengths.j2 k T i (t.f1 - t.f0) q L l long short = some true) :
    palantypelaw01_TakeLengths.l0 (k + 1) T i L l long short = some true := by
  rw [palantypelaw01_TakeLengths.l0, if_pos hi, if_pos h0, ht, w1, w2, e0, e1, Option.bind_some, Option.bind_some]
  by_cases c0 : t.f0 = 0
  · rw [if_pos c0]
    by_cases c1 : t.f1 = L
    · rw [if_pos c1]; exact h true (fun _ => rfl)
    · rw [if_neg c1]; exact h p1 (fun hh => (by simpa [c1] using hh : (t.f0 = 0 ∨ p0 = true) ∧ p1 = true).2)
  · rw [if_neg c0]
    cases p0 with
    | true =>
      rw [if_pos rfl]
      by_cases c1 : t.f1 = L
      · rw [if_pos c1]; exact h true (fun _ => rfl)
      · rw [if_neg c1]; exact h p1 (fun hh => by simpa [c1] using hh)
    | false =>
      rw [if_neg (by decide)]
      exact h false (fun hh => by simp [c0] at hh)
theorem len_l0 {L : Int} {l : List S41} {long short : Int} (hlen : l.length ≤ 60) (hs : sittingOk L (l.map to35) long short = true) (T : List S35) (hT : T = takesP L (l.map to35) long short) (hT40 : T.length ≤ 40) : ∀ (n i k : Nat), i + n = T.length → 100 ≤ k →
    palantypelaw01_TakeLengths.l0 (k + 3 * n) T (i : Int) L l long short = some true
  | 0, i, k, hi, hk => by
    obtain rfl : i = T.length := by omega
    obtain ⟨j, rfl⟩ : ∃ j, k = j + 1 := ⟨k - 1, by omega⟩
    rw [Nat.mul_zero, Nat.add_zero, palantypelaw01_TakeLengths.l0, if_neg (by omega), awake_ev j (by omega)]
    rfl
  | n + 1, i, k, hi, hk => by
    have hlt : i < T.length := by omega
    have hrec := len_l0 hlen hs T hT hT40 n (i + 1) k (by omega) hk
    obtain ⟨hp, hL0, hL1, hl, hl1, hs0, hs1⟩ := sittingOk_parts hs
    have hb := (pausesOk_bounds L _ (-1) hp).1
    have hb41 : ∀ p ∈ l, 0 ≤ p.f0 ∧ 0 ≤ p.f1 ∧ p.f1 ≤ 36000 := fun p hp => by
      have := hb (to35 p) (List.mem_map.2 ⟨p, hp, rfl⟩)
      have h1 : -1 < p.f0 ∧ p.f0 < p.f1 ∧ p.f1 ≤ L := this
      omega
    have hmem : T[i] ∈ takesP L (l.map to35) long short := by rw [← hT]; exact List.getElem_mem hlt
    have htin := takesP_in hs T[i] hmem
    obtain ⟨g1, g2, g3⟩ := lengths_good hs T[i] hmem
    have hw : wrap64 ((i : Int) + 1) = ((i + 1 : Nat) : Int) := by rw [winS _ (by omega)]; omega
    have ht := rd35 T i hlt
    generalize T[i] = t at htin g1 g2 g3 ht
    have e1 := paused_some L l long short t.f1 (by omega) hb41 (k + 3 * n + 2) (by omega)
    have e0 := paused_some L l long short (t.f0 - 1) (by omega) hb41 (k + 3 * n + 2) (by omega)
    have w1 := winS (t.f1 - t.f0) (by omega)
    have w2 := winS (t.f0 - 1) (by omega)
    have w3 := winS (long + short) (by omega)
    rw [show k + 3 * (n + 1) = (k + 3 * n + 2) + 1 from by omega]
    refine len_step t _ _ (by omega) (by omega) ht w1 w2 e0 e1 (fun q hq => ?_)
    exact len_j2 q w3 g1 g2 (fun hsh => hq (g3 hsh)) (len_j3 _ hw hrec)
theorem lengths_body (L : Int) (l : List S41) (long short : Int) (hlen : l.length ≤ 60) (k0 : Nat) (hk0 : 400 ≤ k0) (hc : checkP L (l.map to35) long short = (takesP L (l.map to35) long short, 0)) (hs : sittingOk L (l.map to35) long short = true) (h40 : (takesP L (l.map to35) long short).length ≤ 40) :
    palantypelaw01_TakeLengths.j0 (k0 + 1) false L l long short = some true := by
  rw [palantypelaw01_TakeLengths.j0, if_neg (by decide), sit_some L l long short (by omega) _ (by omega), Option.bind_some]
  have e : take_Takes.f L (l.map to35) long short = some (takesP L (l.map to35) long short, 0) := by
    simp only [take_Takes.f, take_Sitting_check.f, hc, Option.bind_some]
  have hT := len_l0 hlen hs _ rfl h40 (takesP L (l.map to35) long short).length 0 (k0 - 3 * (takesP L (l.map to35) long short).length) (by omega) (by omega)
  rw [show k0 - 3 * (takesP L (l.map to35) long short).length + 3 * (takesP L (l.map to35) long short).length = k0 from by omega] at hT
  rw [e, Option.bind_some, if_pos rfl]
  exact hT
theorem lengths_true (L : Int) (l : List S41) (long short : Int) : ∃ k, palantypelaw01_TakeLengths.f k L l long short = some true := by
  by_cases h60 : (l.length : Int) > 60
  · refine ⟨31, ?_⟩
    rw [palantypelaw01_TakeLengths.f, if_pos h60, palantypelaw01_TakeLengths.j0, if_pos rfl, awake_ev 30 (by omega)]
    rfl
  · obtain ⟨k0, hk⟩ := fault_some L l long short (by omega)
    have hf : palantyperef01_SittingFault.f (k0 + 401) L l long short = _ := hk (k0 + 401) (by omega)
    refine ⟨k0 + 401, ?_⟩
    rw [palantypelaw01_TakeLengths.f, if_neg h60, hf, Option.bind_some]
    by_cases hc : (checkP L (l.map to35) long short).2 = 0
    · obtain ⟨hs, h40⟩ := (show sittingOk L (l.map to35) long short = true ∧ (takesP L (l.map to35) long short).length ≤ 40 from by
        unfold checkP at hc
        split at hc
        · rename_i hs
          split at hc
          · cases hc
          · exact ⟨hs, by omega⟩
        · cases hc)
      have hch : checkP L (l.map to35) long short = (takesP L (l.map to35) long short, 0) := by rw [checkP, if_pos hs, if_neg (by omega)]
      rw [hc]
      exact lengths_body L l long short (by omega) (k0 + 400) (by omega) hch hs h40
    · have hb : ((checkP L (l.map to35) long short).2 != 0) = true := by simpa using hc
      rw [hb, show k0 + 401 = (k0 + 400) + 1 from rfl, palantypelaw01_TakeLengths.j0, if_pos rfl, awake_ev _ (by omega)]
      rfl
end Go.Proofs.Ytillieimgjdpbaa.Pr
