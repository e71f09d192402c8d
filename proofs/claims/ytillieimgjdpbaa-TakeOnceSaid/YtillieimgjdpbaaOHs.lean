/- Plain laws: the reference's functions against the program's. -/
import Derived.Test.YtillieimgjdpbaaOPr5
import Derived.Test.YtillieimgjdpbaaOHfb
namespace Go.Proofs.Ytillieimgjdpbaa.Pr
open Go.RowKit Go.Proofs.YtillieimgjdpbaaW.PrintWords
set_option linter.unusedVariables false
set_option linter.unusedSimpArgs false
theorem winS (n : Int) (h : -9223372036854775808 ≤ n ∧ n ≤ 9223372036854775807) : wrap64 n = n := by unfold wrap64; omega
def to35 (p : S41) : S35 := ⟨p.f0, p.f1⟩
theorem in_some (a b c : Int) : palantyperef01_In.f a b c = some (decide (b ≤ a ∧ a ≤ c)) := by
  unfold palantyperef01_In.f
  by_cases h : a ≥ b
  · rw [if_pos h]; congr 1; simp; omega
  · rw [if_neg h]; congr 1; simp; omega
theorem rd41 (l : List S41) (i : Nat) (h : i < l.length) : rd_T41 l (i : Int) = l[i] := by
  unfold rd_T41
  rw [Int.toNat_natCast, List.getD_eq_getElem?_getD, List.getElem?_eq_getElem h]; rfl
def tailOk (L long short : Int) : Bool := decide (1 ≤ L ∧ L ≤ 36000) && decide (1 ≤ long ∧ long ≤ 1200) && decide (1 ≤ short ∧ short ≤ long)
theorem valid_end (k : Nat) (last : Int) (L : Int) (l : List S41) (long short : Int) : palantyperef01_Valid.l0 (k + 1) last (l.length : Int) L l long short = some (tailOk L long short) := by
  rw [palantyperef01_Valid.l0]
  simp only [Int.lt_irrefl, if_false, in_some, Option.bind_some, tailOk]
  by_cases h1 : 1 ≤ L ∧ L ≤ 36000
  · by_cases h2 : 1 ≤ long ∧ long ≤ 1200
    · simp [h1, h2]
    · simp [h1, h2]
  · simp [h1]
theorem valid_l0 (L : Int) (l : List S41) (long short : Int) (hlen : l.length ≤ 1000000) : ∀ (n i : Nat) (last : Int) (k : Nat), i + n = l.length → -1 ≤ last →
    palantyperef01_Valid.l0 (2 * n + 1 + k) last (i : Int) L l long short = some (pausesOk L last ((l.drop i).map to35) && tailOk L long short)
  | 0, i, last, k, hi, hlast => by
    obtain rfl : i = l.length := by omega
    rw [show 2 * 0 + 1 + k = k + 1 from by omega, valid_end]
    simp [pausesOk]
  | n + 1, i, last, k, hi, hlast => by
    have hlt : i < l.length := by omega
    have hd : l.drop i = l[i] :: l.drop (i + 1) := drop_cons' l i hlt
    rw [show 2 * (n + 1) + 1 + k = ((2 * n + 1 + k) + 1) + 1 from by omega, palantyperef01_Valid.l0, if_pos (by omega), if_pos (by omega), rd41 l i hlt, hd, List.map_cons, pausesOk]
    obtain ⟨p, hp⟩ : ∃ p, p = l[i] := ⟨_, rfl⟩
    rw [← hp]
    have hw : wrap64 ((i : Int) + 1) = ((i + 1 : Nat) : Int) := by rw [winS _ (by omega)]; omega
    have hT : ∀ q : Bool, palantyperef01_Valid.j1 ((2 * n + 1 + k) + 1) (i : Int) q L l long short p.f0 p.f1 = if q = true then some false else palantyperef01_Valid.l0 (2 * n + 1 + k) p.f1 ((i + 1 : Nat) : Int) L l long short := fun q => by rw [palantyperef01_Valid.j1, hw]
    rw [hT, hT]
    by_cases hbad : p.f0 ≤ last ∨ p.f1 ≤ p.f0 ∨ p.f1 > L
    · rw [if_pos (show (to35 p).f0 ≤ last ∨ (to35 p).f1 ≤ (to35 p).f0 ∨ (to35 p).f1 > L from hbad)]
      simp only [if_true, Bool.false_and]
      by_cases h1 : p.f0 ≤ last
      · rw [if_pos h1]
      · rw [if_neg h1]
        by_cases h2 : p.f0 < 0
        · rw [if_pos h2]
        · rw [if_neg h2]
          by_cases h3 : p.f0 ≥ p.f1
          · rw [if_pos h3]
          · rw [if_neg h3, if_pos (by simp; omega)]
    · rw [if_neg (show ¬ ((to35 p).f0 ≤ last ∨ (to35 p).f1 ≤ (to35 p).f0 ∨ (to35 p).f1 > L) from hbad)]
      rw [if_neg (by omega), if_neg (by omega), if_neg (by omega), if_neg (by simp; omega)]
      exact valid_l0 L l long short hlen n (i + 1) p.f1 k (by omega) (by omega)
theorem valid_some (L : Int) (l : List S41) (long short : Int) (hlen : l.length ≤ 1000000) (k : Nat) : palantyperef01_Valid.f (2 * l.length + 1 + k) L l long short = some (sittingOk L (l.map to35) long short) := by
  have := valid_l0 L l long short hlen l.length 0 (-1) k (by omega) (by omega)
  rw [palantyperef01_Valid.f, show (0 : Int) = ((0 : Nat) : Int) from rfl, this]
  congr 1
  simp only [List.drop_zero, sittingOk, tailOk]
  cases pausesOk L (-1) (l.map to35) <;> simp [Bool.and_assoc]
end Go.Proofs.Ytillieimgjdpbaa.Pr
