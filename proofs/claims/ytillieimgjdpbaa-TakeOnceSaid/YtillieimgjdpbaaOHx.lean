/- Plain laws for TakeOnce: the takes and the pauses have each second once. -/
import Derived.Test.YtillieimgjdpbaaOHu
import Derived.Test.YtillieimgjdpbaaOHw
namespace Go.Proofs.Ytillieimgjdpbaa.Pr
open Go.RowKit Go.Proofs.YtillieimgjdpbaaW.PrintWords
set_option linter.unusedVariables false
set_option linter.unusedSimpArgs false
/-- How many spans have a second; how long they are together. -/
def cntP (s : Int) : List S35 → Int
  | [] => 0
  | t :: r => (if hasP s t = true then 1 else 0) + cntP s r
def lenP : List S35 → Int
  | [] => 0
  | t :: r => (t.f1 - t.f0) + lenP r
theorem cntP_append (s : Int) : ∀ a b : List S35, cntP s (a ++ b) = cntP s a + cntP s b
  | [], b => by simp [cntP]
  | t :: r, b => by simp only [List.cons_append, cntP, cntP_append s r b]; omega
theorem lenP_append : ∀ a b : List S35, lenP (a ++ b) = lenP a + lenP b
  | [], b => by simp [lenP]
  | t :: r, b => by simp only [List.cons_append, lenP, lenP_append r b]; omega
theorem hasP_iff (s : Int) (t : S35) : hasP s t = true ↔ t.f0 ≤ s ∧ s < t.f1 := by simp [hasP]
/-- A row of spans that fill what lies from a to b. -/
def Tile : Int → Int → List S35 → Prop
  | a, b, [] => a = b
  | a, b, t :: r => t.f0 = a ∧ a < t.f1 ∧ Tile t.f1 b r
theorem Tile.le : ∀ {l : List S35} {a b : Int}, Tile a b l → a ≤ b
  | [], a, b, h => Int.le_of_eq h
  | t :: r, a, b, ⟨h1, h2, h3⟩ => by have := h3.le; omega
theorem Tile.app : ∀ {l m : List S35} {a b c : Int}, Tile a b l → Tile b c m → Tile a c (l ++ m)
  | [], m, a, b, c, h, k => by rw [show a = b from h]; exact k
  | t :: r, m, a, b, c, ⟨h1, h2, h3⟩, k => ⟨h1, h2, h3.app k⟩
theorem Tile.cnt (s : Int) : ∀ {l : List S35} {a b : Int}, Tile a b l → cntP s l = if a ≤ s ∧ s < b then 1 else 0
  | [], a, b, h => by rw [show a = b from h, if_neg (by omega)]; rfl
  | t :: r, a, b, ⟨h1, h2, h3⟩ => by
    have hle := h3.le
    rw [cntP, h3.cnt s]
    by_cases c : hasP s t = true
    · rw [if_pos c]; rw [hasP_iff] at c; rw [if_neg (by omega), if_pos (by omega)]; rfl
    · rw [if_neg c]; rw [hasP_iff] at c
      by_cases d : t.f1 ≤ s ∧ s < b
      · rw [if_pos d, if_pos (by omega)]; rfl
      · rw [if_neg d, if_neg (by omega)]; rfl
theorem Tile.len : ∀ {l : List S35} {a b : Int}, Tile a b l → lenP l = b - a
  | [], a, b, h => by rw [show a = b from h]; simp [lenP]
  | t :: r, a, b, ⟨h1, h2, h3⟩ => by rw [lenP, h3.len]; omega
/-- Spans that rise, from a on, none past L. -/
def Rise (L : Int) : Int → List S35 → Prop
  | a, [] => True
  | a, t :: r => a ≤ t.f0 ∧ t.f0 < t.f1 ∧ t.f1 ≤ L ∧ Rise L t.f1 r
theorem Rise.mono {L : Int} : ∀ {l : List S35} {a b : Int}, Rise L b l → a ≤ b → Rise L a l
  | [], _, _, _, _ => trivial
  | t :: r, a, b, ⟨h1, h2, h3, h4⟩, h => ⟨by omega, h2, h3, h4⟩
theorem Tile.rise_app {L : Int} : ∀ {l m : List S35} {a b : Int}, Tile a b l → b ≤ L → Rise L b m → Rise L a (l ++ m)
  | [], m, a, b, h, hb, k => by rw [show a = b from h]; exact k
  | t :: r, m, a, b, ⟨h1, h2, h3⟩, hb, k => by
    have := h3.le
    exact ⟨by omega, by omega, by omega, h3.rise_app hb k⟩
theorem Rise.get {L : Int} : ∀ {l : List S35} {a : Int}, Rise L a l → ∀ (i : Nat) (h : i < l.length), a ≤ l[i].f0 ∧ l[i].f0 < l[i].f1 ∧ l[i].f1 ≤ L ∧ (∀ h2 : i + 1 < l.length, l[i].f1 ≤ l[i + 1].f0)
  | t :: r, a, ⟨h1, h2, h3, h4⟩, 0, h => ⟨h1, h2, h3, fun h5 => (h4.get 0 (by simpa using h5)).1⟩
  | t :: r, a, ⟨h1, h2, h3, h4⟩, i + 1, h => by
    obtain ⟨g1, g2, g3, g4⟩ := h4.get i (by simpa using h)
    exact ⟨by simp only [List.getElem_cons_succ]; omega, g2, g3, fun h5 => g4 (by simpa using h5)⟩
theorem fulls_tile (a long : Int) (hl : 1 ≤ long) : ∀ n : Nat, Tile a (a + n * long) (fulls a long n)
  | 0 => by show a = _; simp
  | n + 1 => by
    rw [fulls_succ]
    refine (fulls_tile a long hl n).app ⟨rfl, ?_, ?_⟩
    · have : ((n : Int) + 1) * long = n * long + long := by rw [Int.add_mul, Int.one_mul]
      simp only; omega
    · show a + ((n : Int) + 1) * long = a + ((n + 1 : Nat) : Int) * long
      rw [Int.natCast_add]; rfl
theorem chop_tile {long short : Int} (hl : 1 ≤ long) {x : S35} (hx : x.f0 < x.f1) : Tile x.f0 x.f1 (chop long short x) := by
  have hd1 := Int.mul_ediv_self_le (x := x.f1 - x.f0) (k := long) (by omega)
  have hd2 := Int.lt_mul_ediv_self_add (x := x.f1 - x.f0) (k := long) (by omega)
  have hm0 : 0 ≤ (x.f1 - x.f0) / long := Int.ediv_nonneg (by omega) (by omega)
  unfold chop
  simp only
  obtain ⟨m, hm⟩ : ∃ m : Nat, (x.f1 - x.f0) / long = m := ⟨((x.f1 - x.f0) / long).toNat, by omega⟩
  rw [hm, Int.mul_comm] at hd1 hd2
  rw [hm]
  simp only [Int.toNat_natCast]
  have hf := fulls_tile x.f0 long hl m
  split
  · rename_i h
    have : x.f0 + m * long = x.f1 := by omega
    rwa [this] at hf
  · rename_i hne
    split
    · exact hf.app ⟨rfl, by simp only; omega, rfl⟩
    · rename_i hs
      have hmp : 1 ≤ m := by
        have : ¬ (m : Int) = 0 := fun e => hs (.inr e)
        omega
      have h2 : ((m : Int) - 1) * long = m * long - long := by rw [Int.sub_mul, Int.one_mul]
      have hf2 := fulls_tile x.f0 long hl (m - 1)
      have e : ((m - 1 : Nat) : Int) = (m : Int) - 1 := by omega
      rw [e] at hf2
      exact hf2.app ⟨rfl, by simp only; omega, rfl⟩
/-- The takes of what lies behind a, and its pauses. -/
theorem takes_all {long short : Int} (hl : 1 ≤ long) (L : Int) : ∀ (ps : List S35) (a last : Int), a ≤ L → pausesOk L last ps = true → a ≤ last + 1 →
    lenP ((strP a (ps ++ [⟨L, L⟩])).flatMap (chop long short)) + lenP ps = L - a ∧
    (∀ s, a ≤ s → s < L → cntP s ((strP a (ps ++ [⟨L, L⟩])).flatMap (chop long short)) + cntP s ps = 1) ∧
    Rise L a ((strP a (ps ++ [⟨L, L⟩])).flatMap (chop long short)) ∧ (∀ s, s < a → cntP s ((strP a (ps ++ [⟨L, L⟩])).flatMap (chop long short)) = 0)
  | [], a, last, ha, _, _ => by
    rw [List.nil_append, strP, strP]
    split
    · rename_i h
      have hx : a < L := by simp only at h; omega
      have ht := chop_tile (short := short) hl (x := ⟨a, L⟩) hx
      rw [show [(⟨a, L⟩ : S35)].flatMap (chop long short) = chop long short ⟨a, L⟩ ++ [] by simp]
      refine ⟨?_, fun s h1 h2 => ?_, ht.rise_app (Int.le_refl _) trivial, fun s h1 => ?_⟩
      · rw [List.append_nil, ht.len]; simp [lenP]
      · rw [List.append_nil, ht.cnt s, if_pos ⟨h1, h2⟩]; rfl
      · rw [List.append_nil, ht.cnt s, if_neg (by simp only; omega)]
    · rename_i h
      have hx : a = L := by simp only at h; omega
      subst hx
      refine ⟨by simp [lenP], fun s h1 h2 => by omega, trivial, fun s h1 => rfl⟩
  | p :: ps, a, last, ha, hp, hlast => by
    have hb := (pausesOk_bounds L _ _ hp).1 p (by simp)
    have hp2 : pausesOk L p.f1 ps = true := by
      rw [pausesOk] at hp
      split at hp
      · cases hp
      · exact hp
    obtain ⟨g1, g2, g3, g4⟩ := takes_all hl L ps p.f1 p.f1 hb.2.2 hp2 (by omega)
    have hc : ∀ s, s < p.f1 → cntP s ps = 0 := by
      have hbb := (pausesOk_bounds L _ _ hp2).1
      clear g1 g2 g3 g4 hp hp2
      intro s hs
      induction ps with
      | nil => rfl
      | cons q t ih =>
        have := hbb q (by simp)
        rw [cntP, if_neg (by rw [hasP_iff]; omega), ih (fun r hr => hbb r (by simp [hr]))]; rfl
    have hpc : ∀ s, cntP s (p :: ps) = (if hasP s p = true then 1 else 0) + cntP s ps := fun s => rfl
    rw [List.cons_append, strP]
    split
    · rename_i h
      have hx : a < p.f0 := by omega
      have ht := chop_tile (short := short) hl (x := ⟨a, p.f0⟩) hx
      rw [List.flatMap_cons]
      refine ⟨?_, fun s h1 h2 => ?_, ht.rise_app (by simp only; omega) (g3.mono (by simp only; omega)), fun s h1 => ?_⟩
      · rw [lenP_append, ht.len, lenP]; simp only; omega
      · rw [cntP_append, ht.cnt s, hpc]
        by_cases d : p.f1 ≤ s
        · have := g2 s d h2
          rw [if_neg (by simp only; omega), if_neg (by rw [hasP_iff]; omega)]; omega
        · have e1 := g4 s (by omega)
          have e2 := hc s (by omega)
          rw [e1, e2]
          by_cases f : p.f0 ≤ s
          · rw [if_neg (by simp only; omega), if_pos (by rw [hasP_iff]; omega)]; rfl
          · rw [if_pos (by simp only; omega), if_neg (by rw [hasP_iff]; omega)]; rfl
      · rw [cntP_append, ht.cnt s, if_neg (by simp only; omega), g4 s (by omega)]; rfl
    · rename_i h
      have hx : p.f0 ≤ a := by omega
      have hx2 : a = p.f0 := by omega
      refine ⟨?_, fun s h1 h2 => ?_, g3.mono (by omega), fun s h1 => g4 s (by omega)⟩
      · rw [lenP]; omega
      · rw [hpc]
        by_cases d : p.f1 ≤ s
        · have := g2 s d h2
          rw [if_neg (by rw [hasP_iff]; omega)]; omega
        · have e1 := g4 s (by omega)
          have e2 := hc s (by omega)
          rw [e1, e2, if_pos (by rw [hasP_iff]; omega)]; rfl
theorem takes_once {L : Int} {ps : List S35} {long short : Int} (h : sittingOk L ps long short = true) :
    lenP (takesP L ps long short) + lenP ps = L ∧ (∀ s, 0 ≤ s → s < L → cntP s (takesP L ps long short) + cntP s ps = 1) ∧ Rise L 0 (takesP L ps long short) := by
  obtain ⟨hp, hL0, hL1, hl, hl1, hs0, hs1⟩ := sittingOk_parts h
  rw [takesP_chop L ps long short hl]
  obtain ⟨g1, g2, g3, _⟩ := takes_all (short := short) hl L ps 0 (-1) (by omega) hp (by omega)
  exact ⟨by omega, g2, g3⟩
theorem cntP_nonneg (s : Int) : ∀ l : List S35, 0 ≤ cntP s l
  | [] => Int.le_refl _
  | t :: r => by rw [cntP]; have := cntP_nonneg s r; split <;> omega
theorem lenP_nonneg {L : Int} : ∀ {l : List S35} {a : Int}, Rise L a l → 0 ≤ lenP l
  | [], _, _ => Int.le_refl _
  | t :: r, a, ⟨h1, h2, h3, h4⟩ => by rw [lenP]; have := lenP_nonneg h4; omega
/-- A pause has a second just if it is paused. -/
theorem paused_cnt (s : Int) : ∀ l : List S41, (cntP s (l.map to35) = 0 → pausedP l s = false) ∧ (cntP s (l.map to35) ≠ 0 → pausedP l s = true)
  | [] => ⟨fun _ => rfl, fun h => absurd rfl h⟩
  | p :: t => by
    obtain ⟨h1, h2⟩ := paused_cnt s t
    have hn := cntP_nonneg s (t.map to35)
    have e : cntP s ((p :: t).map to35) = (if hasP s (to35 p) = true then 1 else 0) + cntP s (t.map to35) := rfl
    have e2 : pausedP (p :: t) s = (decide (p.f0 ≤ s ∧ s ≤ p.f1 - 1) || pausedP t s) := rfl
    rw [e, e2]
    by_cases c : hasP s (to35 p) = true
    · rw [if_pos c]; rw [hasP_iff] at c
      have c' : p.f0 ≤ s ∧ s < p.f1 := c
      rw [decide_eq_true (by omega)]
      exact ⟨fun h => by omega, fun _ => rfl⟩
    · rw [if_neg c]; rw [hasP_iff] at c
      have c' : ¬ (p.f0 ≤ s ∧ s < p.f1) := c
      rw [decide_eq_false (by omega)]
      exact ⟨fun h => by simpa using h1 (by omega), fun h => by simpa using h2 (by omega)⟩
end Go.Proofs.Ytillieimgjdpbaa.Pr
