/- TakeOnce: the plain law: whatever the sitting and the second, the printed body answers true. -/
import Derived.Test.YtillieimgjdpbaaOHx
import Derived.Test.YtillieimgjdpbaaOHr
import Derived.Test.YtillieimgjdpbaaOPr8
namespace Go.Proofs.Ytillieimgjdpbaa.Pr
open Go.RowKit Go.Proofs.YtillieimgjdpbaaW.PrintWords
set_option linter.unusedVariables false
set_option linter.unusedSimpArgs false
theorem awake_ev : ∀ k, 30 ≤ k → palantypelaw01_awake.f k = some true := by
  intro k hk
  induction k with
  | zero => omega
  | succ k ih =>
    by_cases h : 30 ≤ k
    · exact palantypelaw01_awake.mono k _ (ih h)
    · obtain rfl : k = 29 := by omega
      exact awake_true
theorem rd35 (l : List S35) (i : Nat) (h : i < l.length) : rd_T35 l (i : Int) = l[i] := by
  unfold rd_T35
  rw [Int.toNat_natCast, List.getD_eq_getElem?_getD, List.getElem?_eq_getElem h]; rfl
theorem win2 (a b : Int) (h1 : -9223372036854775808 ≤ b ∧ b ≤ 9223372036854775807) (h2 : -9223372036854775808 ≤ a + b ∧ a + b ≤ 9223372036854775807) : wrap64 (a + wrap64 b) = a + b := by rw [winS b h1, winS (a + b) h2]
theorem winN (i : Nat) (h : i < 1000000) : wrap64 ((i : Int) + 1) = ((i + 1 : Nat) : Int) := by rw [winS ((i : Int) + 1) (by omega)]; omega
theorem once_j3 {k : Nat} {s : Int} {T : List S35} {x8 x9 x10 x11 x12 i : Int} {b : Bool} {L : Int} {l : List S41} {long short : Int} (hw : wrap64 (x10 + 1) = x10 + 1) :
    palantypelaw01_TakeOnce.j3 (k + 1) s T x8 x9 x10 x11 x12 i b L l long short = palantypelaw01_TakeOnce.j4 k s T x8 x9 (if b = true then x10 + 1 else x10) (if b = true then i else x11) x12 i L l long short := by
  rw [palantypelaw01_TakeOnce.j3, hw]
  cases b <;> rfl
theorem once_j5 {k : Nat} {s : Int} {T : List S35} {x8 x9 x10 x11 x12 i : Int} {L : Int} {l : List S41} {long short : Int} (t : S35) (h0 : 0 ≤ i) (h1 : i < T.length) (ht : rd_T35 T i = t) (q : Int)
    (hw : wrap64 (x12 + wrap64 (t.f1 - t.f0)) = x12 + (t.f1 - t.f0)) (hw2 : wrap64 (i + 1) = q) :
    palantypelaw01_TakeOnce.j5 (k + 1) s T x8 x9 x10 x11 x12 i false L l long short = palantypelaw01_TakeOnce.l0 k s T x8 x9 x10 x11 (x12 + (t.f1 - t.f0)) q L l long short := by
  rw [palantypelaw01_TakeOnce.j5, if_neg (by decide), if_pos h0, if_pos h1, ht, hw, hw2]
theorem once_j4 {k : Nat} {s : Int} {T : List S35} {x8 x9 x10 x11 x12 : Int} {L : Int} {l : List S41} {long short : Int} (i : Nat) (hi : i < T.length) (h40 : T.length ≤ 40) (t : S35) (ht : rd_T35 T i = t) (h0 : 0 ≤ t.f0) (h1 : t.f0 < t.f1) (h2 : t.f1 ≤ L)
    (hp : ∀ (j : Nat) (hj : j < T.length), i = j + 1 → T[j].f1 ≤ t.f0) :
    palantypelaw01_TakeOnce.j4 (k + 1) s T x8 x9 x10 x11 x12 (i : Int) L l long short = palantypelaw01_TakeOnce.j5 k s T x8 x9 x10 x11 x12 (i : Int) false L l long short := by
  rw [palantypelaw01_TakeOnce.j4, if_pos (by omega), if_pos (by omega), ht, if_neg (by omega), if_neg (by omega), if_neg (by omega)]
  by_cases h : (i : Int) > 0
  · obtain ⟨j, rfl⟩ : ∃ j, i = j + 1 := ⟨i - 1, by omega⟩
    have hw : wrap64 (((j + 1 : Nat) : Int) - 1) = (j : Int) := by rw [winS _ (by omega)]; omega
    rw [if_pos h, hw, if_pos (by omega), if_pos (by omega), rd35 T j (by omega), decide_eq_false (by have := hp j (by omega) rfl; omega)]
  · rw [if_neg h]
theorem once_l0a {k : Nat} {s : Int} {T : List S35} {x8 x9 x10 x11 x12 : Int} {L : Int} {l : List S41} {long short : Int} (i : Nat) (hi : i < T.length) (t : S35) (ht : rd_T35 T i = t) :
    palantypelaw01_TakeOnce.l0 (k + 1) s T x8 x9 x10 x11 x12 (i : Int) L l long short = palantypelaw01_TakeOnce.j3 k s T x8 x9 x10 x11 x12 (i : Int) (hasP s t) L l long short := by
  rw [palantypelaw01_TakeOnce.l0, if_pos (by omega), if_pos (by omega), ht]
  by_cases h : t.f0 ≤ s
  · rw [if_pos h, hasP, decide_eq_true h, Bool.true_and]
  · rw [if_neg h, hasP, decide_eq_false h, Bool.false_and]
theorem lenP_drop {L : Int} : ∀ {l : List S35} {a : Int}, Rise L a l → ∀ j : Nat, 0 ≤ lenP (l.drop j)
  | [], _, _, j => by rw [List.drop_nil]; exact Int.le_refl _
  | q :: r, a, h, 0 => lenP_nonneg h
  | q :: r, a, ⟨_, _, _, h⟩, j + 1 => lenP_drop h j
theorem once_l0 {s : Int} {T : List S35} {x8 x9 : Int} {L : Int} {l : List S41} {long short : Int} (hr : Rise L 0 T) (h40 : T.length ≤ 40) (hL : L ≤ 36000) (c : Int) (hc : c ≤ 1) (hlen : lenP T ≤ 36000) (k : Nat) (n : Nat) : ∀ (i : Nat) (x10 x11 x12 : Int), i + n = T.length →
    x10 + cntP s (T.drop i) = c → 0 ≤ x10 → x12 + lenP (T.drop i) = lenP T → 0 ≤ x12 → (x10 = 0 → idxFrom (hasP s) T 0 = idxFrom (hasP s) (T.drop i) i) → (x10 = 1 → x11 = idxFrom (hasP s) T 0 ∧ 0 ≤ x11) →
    ∃ w, (c = 0 → idxFrom (hasP s) T 0 = -1) ∧ (c = 1 → w = idxFrom (hasP s) T 0 ∧ 0 ≤ w) ∧ palantypelaw01_TakeOnce.l0 (k + 4 * n + 1) s T x8 x9 x10 x11 x12 (i : Int) L l long short = palantypelaw01_TakeOnce.l1 k s x8 x9 c w (lenP T) 0 L l long short := by
  induction n with
  | zero =>
    intro i x10 x11 x12 hi h1 h2 h3 h4 h5 h6
    obtain rfl : i = T.length := by omega
    rw [List.drop_length] at h1 h3 h5
    have e1 : x10 = c := by simpa [cntP] using h1
    have e2 : x12 = lenP T := by simpa [lenP] using h3
    subst e1
    refine ⟨x11, h5, h6, ?_⟩
    rw [Nat.mul_zero, Nat.add_zero, palantypelaw01_TakeOnce.l0, if_neg (by omega), e2]
  | succ n ih =>
    intro i x10 x11 x12 hi h1 h2 h3 h4 h5 h6
    have hlt : i < T.length := by omega
    have hd := drop_cons' T i hlt
    have hg := hr.get i hlt
    have hp : ∀ (j : Nat) (hj : j < T.length), i = j + 1 → T[j].f1 ≤ T[i].f0 := fun j hj e => by subst e; exact (hr.get j hj).2.2.2 hlt
    have ht := rd35 T i hlt
    rw [hd] at h1 h3 h5
    generalize T[i] = t at h1 h3 h5 hg hp ht
    have hn := cntP_nonneg s (T.drop (i + 1))
    have hrest := lenP_drop hr (i + 1)
    rw [cntP] at h1
    rw [lenP] at h3
    rw [idxFrom] at h5
    obtain ⟨hg1, hg2, hg3, -⟩ := hg
    clear hd
    have a0 : 0 ≤ (if hasP s t = true then x10 + 1 else x10) := by split <;> omega
    have a1 : (if hasP s t = true then x10 + 1 else x10) + cntP s (T.drop (i + 1)) = c := by
      by_cases hh : hasP s t = true
      · rw [if_pos hh] at h1 ⊢; omega
      · rw [if_neg hh] at h1 ⊢; omega
    have a2 : (if hasP s t = true then x10 + 1 else x10) = 0 → idxFrom (hasP s) T 0 = idxFrom (hasP s) (T.drop (i + 1)) (i + 1) := fun hz => by
      by_cases hh : hasP s t = true
      · rw [if_pos hh] at hz; omega
      · rw [if_neg hh] at hz h5; exact h5 hz
    have a3 : (if hasP s t = true then x10 + 1 else x10) = 1 → (if hasP s t = true then (i : Int) else x11) = idxFrom (hasP s) T 0 ∧ 0 ≤ (if hasP s t = true then (i : Int) else x11) := fun hz => by
      by_cases hh : hasP s t = true
      · rw [if_pos hh] at hz h5 ⊢
        have hz0 : x10 = 0 := by omega
        exact ⟨(h5 hz0).symm, Int.natCast_nonneg i⟩
      · rw [if_neg hh] at hz ⊢; exact h6 hz
    have hx : x10 ≤ 1 := by split at h1 <;> omega
    obtain ⟨w, g1, g2, g3⟩ := ih (i + 1) _ _ (x12 + (t.f1 - t.f0)) (by omega) a1 a0 (by omega) (by omega) a2 a3
    refine ⟨w, g1, g2, ?_⟩
    have w1 := winS (x10 + 1) (by omega)
    have w2 := win2 x12 (t.f1 - t.f0) (by omega) (by omega)
    have c1 : (i : Int) < (T.length : Int) := by omega
    have c2 : (0 : Int) ≤ (i : Int) := by omega
    have w3 := winN i (by omega)
    rw [show k + 4 * (n + 1) + 1 = (k + 4 * n + 1) + 1 + 1 + 1 + 1 from by omega, once_l0a i hlt t ht, once_j3 w1, once_j4 i hlt h40 t ht hg1 hg2 hg3 hp, once_j5 t c2 c1 ht _ w2 w3]
    exact g3
theorem once_l1 {s : Int} {x8 x9 c w : Int} {L : Int} {l : List S41} {long short : Int} (hlen : l.length ≤ 60) (hb : ∀ p ∈ l, 0 ≤ p.f0 ∧ p.f0 ≤ p.f1 ∧ p.f1 ≤ 36000) (k : Nat) (hk : 100 ≤ k)
    (hfin : (pausedP l s = true → c = 0 ∧ x9 = 7) ∧ (pausedP l s = false → c = 1 ∧ x9 = 0 ∧ x8 = w)) : ∀ (n i : Nat) (x12 : Int), i + n = l.length → x12 + lenP ((l.drop i).map to35) = L → 0 ≤ x12 → x12 ≤ 36000 * (i + 1) →
    palantypelaw01_TakeOnce.l1 (k + n + 1) s x8 x9 c w x12 (i : Int) L l long short = some true
  | 0, i, x12, hi, h1, h2, h3 => by
    obtain rfl : i = l.length := by omega
    rw [List.drop_length] at h1
    have e : x12 = L := by simpa [lenP] using h1
    rw [Nat.add_zero, palantypelaw01_TakeOnce.l1, if_neg (by omega), if_pos e, paused_some L l long short s (by omega) (fun p hp => by have := hb p hp; omega) k (by omega), Option.bind_some]
    cases hp : pausedP l s with
    | true =>
      obtain ⟨e1, e2⟩ := hfin.1 hp
      rw [if_pos rfl, if_pos e1, if_pos e2, awake_ev k (by omega)]; rfl
    | false =>
      obtain ⟨e1, e2, e3⟩ := hfin.2 hp
      rw [if_neg (by decide), if_pos e1, if_pos e2, if_pos e3, awake_ev k (by omega)]; rfl
  | n + 1, i, x12, hi, h1, h2, h3 => by
    have hlt : i < l.length := by omega
    have hq := hb l[i] (List.getElem_mem hlt)
    have hd : (l.drop i).map to35 = to35 l[i] :: (l.drop (i + 1)).map to35 := by rw [drop_cons' l i hlt]; rfl
    have hr := rd41 l i hlt
    rw [hd, lenP] at h1
    generalize l[i] = p at h1 hq hr
    have h1' : x12 + (p.f1 - p.f0 + lenP ((l.drop (i + 1)).map to35)) = L := h1
    have hrec := once_l1 (s := s) (x8 := x8) (x9 := x9) (c := c) (w := w) (L := L) (long := long) (short := short) hlen hb k hk hfin n (i + 1) (x12 + (p.f1 - p.f0)) (by omega) (by omega) (by omega) (by rw [Int.natCast_add]; omega)
    have c1 : (i : Int) < (l.length : Int) := by omega
    have c2 : (0 : Int) ≤ (i : Int) := by omega
    have w2 := win2 x12 (p.f1 - p.f0) (by omega) (by omega)
    have w3 := winN i (by omega)
    rw [show k + (n + 1) + 1 = (k + n + 1) + 1 from by omega, palantypelaw01_TakeOnce.l1, if_pos c1, if_pos c2, hr, w2, w3]
    exact hrec
theorem once_body (L : Int) (l : List S41) (long short : Int) (a1 : Int) (ha : 0 ≤ a1 ∧ a1 ≤ 65535) (hlen : l.length ≤ 60) (hs : sittingOk L (l.map to35) long short = true) (h40 : (takesP L (l.map to35) long short).length ≤ 40) :
    ∀ k, 1000 ≤ k → palantypelaw01_TakeOnce.j0 k a1 false L l long short = some true := by
  intro k hk
  obtain ⟨hp, hL0, hL1, hl, hl1, hs0, hs1⟩ := sittingOk_parts hs
  have hch : checkP L (l.map to35) long short = (takesP L (l.map to35) long short, 0) := by rw [checkP, if_pos hs, if_neg (by omega)]
  obtain ⟨o1, o2, o3⟩ := takes_once hs
  have hb35 := (pausesOk_bounds L _ (-1) hp).1
  have hb41 : ∀ p ∈ l, 0 ≤ p.f0 ∧ p.f0 ≤ p.f1 ∧ p.f1 ≤ 36000 := fun p hp => by
    have := hb35 (to35 p) (List.mem_map.2 ⟨p, hp, rfl⟩)
    have h1 : -1 < p.f0 ∧ p.f0 < p.f1 ∧ p.f1 ≤ L := this
    omega
  obtain ⟨s, hsd⟩ : ∃ s, s = Int.tmod (wrap64 a1) L := ⟨_, rfl⟩
  have hs1 : 0 ≤ s ∧ s < L := by
    rw [hsd, winS a1 (by omega), Int.tmod_eq_emod_of_nonneg ha.1]
    exact ⟨Int.emod_nonneg _ (by omega), Int.emod_lt_of_pos _ (by omega)⟩
  have hat : take_At.f L (l.map to35) long short s = some (if idxFrom (hasP s) (takesP L (l.map to35) long short) 0 < 0 then (0, 7) else (idxFrom (hasP s) (takesP L (l.map to35) long short) 0, 0)) := by
    rw [take_At.f, atP, hch, if_neg (by simp), if_pos (decide_eq_true (by omega))]
  have htk : take_Takes.f L (l.map to35) long short = some (takesP L (l.map to35) long short, 0) := by
    simp only [take_Takes.f, take_Sitting_check.f, hch, Option.bind_some]
  obtain ⟨T, hT⟩ : ∃ T, T = takesP L (l.map to35) long short := ⟨_, rfl⟩
  rw [← hT] at hat htk o1 o2 o3 h40
  have hps : 0 ≤ lenP (l.map to35) := by
    have : ∀ l : List S41, (∀ p ∈ l, 0 ≤ p.f0 ∧ p.f0 ≤ p.f1 ∧ p.f1 ≤ 36000) → 0 ≤ lenP (l.map to35) := by
      intro l
      induction l with
      | nil => intro _; exact Int.le_refl _
      | cons p t ih =>
        intro h
        have h1 := h p (by simp)
        have h2 := ih (fun q hq => h q (by simp [hq]))
        show 0 ≤ p.f1 - p.f0 + lenP (t.map to35)
        omega
    exact this l hb41
  have hlT := lenP_nonneg o3
  have hc2 := o2 s hs1.1 hs1.2
  have hcn := cntP_nonneg s T
  have hcp := cntP_nonneg s (l.map to35)
  obtain ⟨m, rfl⟩ : ∃ m, k = m + 100 + l.length + 1 + 4 * T.length + 1 + 1 + 1 := ⟨k - (100 + l.length + 1 + 4 * T.length + 3), by omega⟩
  obtain ⟨w, g1, g2, g3⟩ := once_l0 (s := s) (T := T) (L := L) (x8 := (if idxFrom (hasP s) T 0 < 0 then ((0 : Int), (7 : Int)) else (idxFrom (hasP s) T 0, 0)).1) (x9 := (if idxFrom (hasP s) T 0 < 0 then ((0 : Int), (7 : Int)) else (idxFrom (hasP s) T 0, 0)).2) (l := l) (long := long) (short := short) o3 h40 hL1 (cntP s T) (by omega) (by omega) (m + 100 + l.length + 1) T.length 0 0 0 0 (by omega) (by simp) (by omega) (by simp) (by omega) (fun _ => by simp) (fun h => by omega)
  have hl1 := once_l1 (s := s) (x8 := (if idxFrom (hasP s) T 0 < 0 then ((0 : Int), (7 : Int)) else (idxFrom (hasP s) T 0, 0)).1) (x9 := (if idxFrom (hasP s) T 0 < 0 then ((0 : Int), (7 : Int)) else (idxFrom (hasP s) T 0, 0)).2) (c := cntP s T) (w := w) (L := L) (l := l) (long := long) (short := short) hlen hb41 (m + 100) (by omega)
    ⟨fun hpz => by
      have : cntP s (l.map to35) ≠ 0 := fun e => by rw [(paused_cnt s l).1 e] at hpz; cases hpz
      have e0 : cntP s T = 0 := by omega
      have e1 := g1 e0
      rw [e1]; exact ⟨e0, rfl⟩, fun hpz => by
      have : cntP s (l.map to35) = 0 := by
        by_cases e : cntP s (l.map to35) = 0
        · exact e
        · rw [(paused_cnt s l).2 e] at hpz; cases hpz
      have e0 : cntP s T = 1 := by omega
      obtain ⟨e1, e2⟩ := g2 e0
      rw [if_neg (by omega)]; exact ⟨e0, rfl, e1.symm⟩⟩ l.length 0 (lenP T) (by omega) (by rw [List.drop_zero]; exact o1) hlT (by omega)
  rw [palantypelaw01_TakeOnce.j0, if_neg (by decide), if_neg (by omega), sit_some L l long short (by omega) _ (by omega), Option.bind_some]
  simp only []
  rw [htk, Option.bind_some, Option.bind_some, ← hsd]
  simp only []
  rw [hat, Option.bind_some, if_pos (by trivial), decide_eq_false (by omega), palantypelaw01_TakeOnce.j1, if_neg (by decide)]
  exact g3.trans hl1
theorem once_true (L : Int) (l : List S41) (long short : Int) (a1 : Int) (ha : 0 ≤ a1 ∧ a1 ≤ 65535) : ∃ k, palantypelaw01_TakeOnce.f k L l long short a1 = some true := by
  by_cases h60 : (l.length : Int) > 60
  · refine ⟨31, ?_⟩
    rw [palantypelaw01_TakeOnce.f, if_pos h60, palantypelaw01_TakeOnce.j0, if_pos rfl, awake_ev 30 (by omega)]
    rfl
  · obtain ⟨k0, hk⟩ := fault_some L l long short (by omega)
    have hf : palantyperef01_SittingFault.f (k0 + 1001) L l long short = _ := hk (k0 + 1001) (by omega)
    refine ⟨k0 + 1001, ?_⟩
    rw [palantypelaw01_TakeOnce.f, if_neg h60, hf, Option.bind_some]
    by_cases hc : (checkP L (l.map to35) long short).2 = 0
    · obtain ⟨hs, _, h40⟩ := check_is hc
      rw [hc]
      exact once_body L l long short a1 ha (by omega) hs h40 (k0 + 1001) (by omega)
    · have hb : ((checkP L (l.map to35) long short).2 != 0) = true := by simpa using hc
      rw [hb, show k0 + 1001 = (k0 + 1000) + 1 from rfl, palantypelaw01_TakeOnce.j0, if_pos rfl, awake_ev _ (by omega)]
      rfl
end Go.Proofs.Ytillieimgjdpbaa.Pr
