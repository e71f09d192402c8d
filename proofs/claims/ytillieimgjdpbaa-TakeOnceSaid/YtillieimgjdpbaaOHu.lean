/- Plain laws for TakeLengths: whole stretches; what is paused. -/
import Derived.Test.YtillieimgjdpbaaOHt
namespace Go.Proofs.Ytillieimgjdpbaa.Pr
open Go.RowKit Go.Proofs.YtillieimgjdpbaaW.PrintWords
set_option linter.unusedVariables false
set_option linter.unusedSimpArgs false
def pausedP (l : List S41) (x : Int) : Bool := l.any fun p => decide (p.f0 ≤ x ∧ x ≤ p.f1 - 1)
theorem paused_l0 (L : Int) (l : List S41) (long short : Int) (x : Int) (hlen : l.length ≤ 1000000) (hb : ∀ p ∈ l, 0 ≤ p.f0 ∧ 0 ≤ p.f1 ∧ p.f1 ≤ 36000) : ∀ (n i k : Nat), i + n = l.length →
    palantyperef01_Paused.l0 (n + 1 + k) x (i : Int) L l long short = some (pausedP (l.drop i) x)
  | 0, i, k, hi => by
    obtain rfl : i = l.length := by omega
    rw [show 0 + 1 + k = k + 1 from by omega, palantyperef01_Paused.l0, if_neg (by omega), List.drop_length]
    rfl
  | n + 1, i, k, hi => by
    have hlt : i < l.length := by omega
    have hp := hb l[i] (List.getElem_mem hlt)
    have hw : wrap64 ((i : Int) + 1) = ((i + 1 : Nat) : Int) := by rw [winS _ (by omega)]; omega
    rw [show n + 1 + 1 + k = (n + 1 + k) + 1 from by omega, palantyperef01_Paused.l0, if_pos (by omega), if_pos (by omega), rd41 l i hlt, in_some, winS (l[i].f1 - 1) (by omega), Option.bind_some, hw, paused_l0 L l long short x hlen hb n (i + 1) k (by omega)]
    have hd : pausedP (l.drop i) x = (decide (l[i].f0 ≤ x ∧ x ≤ l[i].f1 - 1) || pausedP (l.drop (i + 1)) x) := by rw [drop_cons' l i hlt]; rfl
    rw [hd]
    cases decide (l[i].f0 ≤ x ∧ x ≤ l[i].f1 - 1) with
    | true => rfl
    | false => rfl
theorem paused_some (L : Int) (l : List S41) (long short : Int) (x : Int) (hlen : l.length ≤ 1000000) (hb : ∀ p ∈ l, 0 ≤ p.f0 ∧ 0 ≤ p.f1 ∧ p.f1 ≤ 36000) (k : Nat) (hk : l.length + 1 ≤ k) : palantyperef01_Paused.f k L l long short x = some (pausedP l x) := by
  obtain ⟨j, rfl⟩ : ∃ j, k = l.length + 1 + j := ⟨k - (l.length + 1), by omega⟩
  have := paused_l0 L l long short x hlen hb l.length 0 j (by omega)
  rw [palantyperef01_Paused.f]
  exact this.trans (by rw [List.drop_zero])
theorem sit_l0 (L : Int) (l : List S41) (long short : Int) (hlen : l.length ≤ 1000000) : ∀ (n i : Nat) (acc : List S35) (k : Nat), i + n = l.length → acc.length ≤ i →
    palantypelaw01_Sitting.l0 (n + 1 + k) (i : Int) L l long short L acc long short = some (L, acc ++ (l.drop i).map to35, long, short)
  | 0, i, acc, k, hi, hacc => by
    obtain rfl : i = l.length := by omega
    rw [show 0 + 1 + k = k + 1 from by omega, palantypelaw01_Sitting.l0, if_neg (by omega), List.drop_length]
    simp
  | n + 1, i, acc, k, hi, hacc => by
    have hlt : i < l.length := by omega
    have hw : wrap64 ((i : Int) + 1) = ((i + 1 : Nat) : Int) := by rw [winS _ (by omega)]; omega
    rw [show n + 1 + 1 + k = (n + 1 + k) + 1 from by omega, palantypelaw01_Sitting.l0, if_pos (by omega), if_pos (by omega), if_pos (by omega), rd41 l i hlt, hw, sit_l0 L l long short hlen n (i + 1) _ k (by omega) (by simp; omega)]
    have hd : (l.drop i).map to35 = to35 l[i] :: (l.drop (i + 1)).map to35 := by rw [drop_cons' l i hlt]; rfl
    rw [hd, List.append_assoc]
    rfl
theorem sit_some (L : Int) (l : List S41) (long short : Int) (hlen : l.length ≤ 1000000) (k : Nat) (hk : l.length + 1 ≤ k) : palantypelaw01_Sitting.f k L l long short = some (L, l.map to35, long, short) := by
  obtain ⟨j, rfl⟩ : ∃ j, k = l.length + 1 + j := ⟨k - (l.length + 1), by omega⟩
  have := sit_l0 L l long short hlen l.length 0 [] j (by omega) (by simp)
  rw [palantypelaw01_Sitting.f]
  exact this.trans (by simp)
end Go.Proofs.Ytillieimgjdpbaa.Pr
