/- The takes of a valid sitting: a plain law. -/
import Derived.Test.YtillieimgjdpbaaOHf
namespace Go.Proofs.Ytillieimgjdpbaa.Pr
open Go.RowKit Go.Proofs.YtillieimgjdpbaaW.PrintWords
set_option linter.unusedVariables false
set_option linter.unusedSimpArgs false
/-- A stretch, cut by itself. -/
def chop (long short : Int) (x : S35) : List S35 :=
  let m := (x.f1 - x.f0) / long
  if x.f1 - (x.f0 + m * long) = 0 then fulls x.f0 long m.toNat
  else if short ≤ x.f1 - (x.f0 + m * long) ∨ m = 0 then fulls x.f0 long m.toNat ++ [⟨x.f0 + m * long, x.f1⟩]
  else fulls x.f0 long (m.toNat - 1) ++ [⟨x.f0 + (m - 1) * long, x.f1⟩]
theorem setLast_snoc (l : List S35) (p : S35) (v : Int) : setLast (l ++ [p]) v = l ++ [⟨p.f0, v⟩] := by simp [setLast]
theorem takesStep_chop (long short : Int) (hl : 1 ≤ long) (out : List S35) (x : S35) (hx : x.f0 < x.f1) : takesStep long short out x = out ++ chop long short x := by
  unfold takesStep chop
  simp only
  have hm0 : 0 ≤ (x.f1 - x.f0) / long := Int.ediv_nonneg (by omega) (by omega)
  split
  · rfl
  · split
    · rw [List.append_assoc]
    · rename_i h1 h2
      obtain ⟨m, hm⟩ : ∃ m : Nat, ((x.f1 - x.f0) / long).toNat = m + 1 := ⟨((x.f1 - x.f0) / long).toNat - 1, by omega⟩
      rw [hm, fulls_succ, ← List.append_assoc, setLast_snoc, List.append_assoc, Nat.add_sub_cancel]
      have : ((m : Nat) : Int) = (x.f1 - x.f0) / long - 1 := by omega
      rw [this]
theorem foldl_chop (long short : Int) (hl : 1 ≤ long) : ∀ (xs : List S35) (out : List S35), (∀ x ∈ xs, x.f0 < x.f1) → xs.foldl (takesStep long short) out = out ++ xs.flatMap (chop long short)
  | [], out, _ => by simp
  | x :: t, out, h => by
    rw [List.foldl_cons, takesStep_chop long short hl out x (h x (by simp)), foldl_chop long short hl t _ (fun y hy => h y (by simp [hy]))]
    simp
theorem strP_lt : ∀ (ps : List S35) (a : Int) (x : S35), x ∈ strP a ps → x.f0 < x.f1
  | [], a, x, h => by simp [strP] at h
  | p :: t, a, x, h => by
    rw [strP] at h
    split at h
    · rcases List.mem_cons.1 h with rfl | h
      · simp only; omega
      · exact strP_lt t _ x h
    · exact strP_lt t _ x h
theorem takesP_chop (L : Int) (ps : List S35) (long short : Int) (hl : 1 ≤ long) : takesP L ps long short = (strP 0 (ps ++ [⟨L, L⟩])).flatMap (chop long short) := by
  rw [takesP, foldl_chop long short hl _ _ (fun x hx => strP_lt _ _ x hx), List.nil_append]
/-- Where the stretches lie. -/
theorem strP_in (L : Int) : ∀ (ps : List S35) (a : Int), 0 ≤ a → (∀ p ∈ ps, 0 ≤ p.f0 ∧ p.f0 ≤ L ∧ 0 ≤ p.f1 ∧ p.f1 ≤ L) → ∀ x ∈ strP a ps, 0 ≤ x.f0 ∧ x.f0 < x.f1 ∧ x.f1 ≤ L
  | [], a, ha, _, x, h => by simp [strP] at h
  | p :: t, a, ha, hp, x, h => by
    have h1 := hp p (by simp)
    rw [strP] at h
    split at h
    · rcases List.mem_cons.1 h with rfl | h
      · simp only; omega
      · exact strP_in L t _ h1.2.2.1 (fun q hq => hp q (by simp [hq])) x h
    · exact strP_in L t _ h1.2.2.1 (fun q hq => hp q (by simp [hq])) x h
theorem mem_fulls {a long : Int} {n : Nat} {t : S35} (h : t ∈ fulls a long n) : ∃ k : Nat, k < n ∧ t = ⟨a + k * long, a + (k + 1) * long⟩ := by
  obtain ⟨k, hk, rfl⟩ := List.mem_map.1 h
  exact ⟨k, List.mem_range.1 hk, rfl⟩
/-- What a take of a stretch is: a whole one; the rest; the last, gone on. -/
theorem mem_chop {long short : Int} (hl : 1 ≤ long) {x : S35} (hx : x.f0 < x.f1) {t : S35} (h : t ∈ chop long short x) :
    x.f0 ≤ t.f0 ∧ t.f0 < t.f1 ∧ t.f1 ≤ x.f1 ∧ (t.f1 - t.f0 = long ∨ (t.f1 = x.f1 ∧ t.f1 - t.f0 < long ∧ (short ≤ t.f1 - t.f0 ∨ t.f0 = x.f0)) ∨ (t.f1 = x.f1 ∧ long < t.f1 - t.f0 ∧ t.f1 - t.f0 < long + short)) := by
  have hd1 := Int.mul_ediv_self_le (x := x.f1 - x.f0) (k := long) (by omega)
  have hd2 := Int.lt_mul_ediv_self_add (x := x.f1 - x.f0) (k := long) (by omega)
  have hm0 : 0 ≤ (x.f1 - x.f0) / long := Int.ediv_nonneg (by omega) (by omega)
  unfold chop at h
  simp only at h
  obtain ⟨m, hm⟩ : ∃ m : Nat, (x.f1 - x.f0) / long = m := ⟨((x.f1 - x.f0) / long).toNat, by omega⟩
  rw [hm, Int.mul_comm] at hd1 hd2
  rw [hm] at h
  simp only [Int.toNat_natCast] at h
  have hful : ∀ n : Nat, n ≤ m → t ∈ fulls x.f0 long n → x.f0 ≤ t.f0 ∧ t.f0 < t.f1 ∧ t.f1 ≤ x.f1 ∧ t.f1 - t.f0 = long := by
    intro n hn ht
    obtain ⟨k, hk, rfl⟩ := mem_fulls ht
    have h1 : (0 : Int) ≤ k * long := Int.mul_nonneg (by omega) (by omega)
    have h2 : ((k : Int) + 1) * long = k * long + long := by rw [Int.add_mul, Int.one_mul]
    have h3 : ((k : Int) + 1) * long ≤ m * long := Int.mul_le_mul_of_nonneg_right (by omega) (by omega)
    simp only
    omega
  split at h
  · obtain ⟨h1, h2, h3, h4⟩ := hful m (Nat.le_refl _) h
    exact ⟨h1, h2, h3, .inl h4⟩
  · rename_i hne
    split at h
    · rename_i hs
      rcases List.mem_append.1 h with h | h
      · obtain ⟨h1, h2, h3, h4⟩ := hful m (Nat.le_refl _) h
        exact ⟨h1, h2, h3, .inl h4⟩
      · obtain rfl := List.mem_singleton.1 h
        have h1 : (0 : Int) ≤ m * long := Int.mul_nonneg (by omega) (by omega)
        refine ⟨by simp only; omega, by simp only; omega, Int.le_refl _, .inr (.inl ⟨rfl, by simp only; omega, ?_⟩)⟩
        rcases hs with hs | hs
        · exact .inl hs
        · right; simp [hs]
    · rename_i hs
      have hmp : 1 ≤ m := by
        have : ¬ (m : Int) = 0 := fun e => hs (.inr e)
        omega
      rcases List.mem_append.1 h with h | h
      · obtain ⟨h1, h2, h3, h4⟩ := hful (m - 1) (by omega) h
        exact ⟨h1, h2, h3, .inl h4⟩
      · obtain rfl := List.mem_singleton.1 h
        have h1 : (0 : Int) ≤ ((m : Int) - 1) * long := Int.mul_nonneg (by omega) (by omega)
        have h2 : ((m : Int) - 1) * long = m * long - long := by rw [Int.sub_mul, Int.one_mul]
        have h3 : ¬ short ≤ x.f1 - (x.f0 + m * long) := fun e => hs (.inl e)
        refine ⟨by simp only; omega, by simp only; omega, Int.le_refl _, .inr (.inr ⟨rfl, by simp only; omega, by simp only; omega⟩)⟩
theorem takesP_in {L : Int} {ps : List S35} {long short : Int} (h : sittingOk L ps long short = true) : ∀ t ∈ takesP L ps long short, 0 ≤ t.f0 ∧ t.f0 < t.f1 ∧ t.f1 ≤ L := by
  obtain ⟨hp, hL0, hL1, hl, hl1, hs0, hs1⟩ := sittingOk_parts h
  have hb := (pausesOk_bounds L ps (-1) hp).1
  intro t ht
  rw [takesP_chop L ps long short hl] at ht
  obtain ⟨x, hx, htx⟩ := List.mem_flatMap.1 ht
  have h1 := strP_in L _ 0 (Int.le_refl _) (fun p hm => by
    rcases List.mem_append.1 hm with hm | hm
    · have := hb p hm; omega
    · obtain rfl := List.mem_singleton.1 hm; simp only; omega) x hx
  have h2 := mem_chop hl h1.2.1 htx
  omega
end Go.Proofs.Ytillieimgjdpbaa.Pr
