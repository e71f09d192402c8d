/- Plain laws of a sitting that is cut behind one of its takes. -/
import Derived.Test.YtillieimgjdpbaaRHs
import Derived.Test.YtillieimgjdpbaaRHo
import Derived.Test.YtillieimgjdpbaaRPr5
namespace Go.Proofs.Ytillieimgjdpbaa.Pr
open Go.RowKit Go.Proofs.YtillieimgjdpbaaW.PrintWords
set_option linter.unusedVariables false
set_option linter.unusedSimpArgs false
def to41 (p : S35) : S41 := ⟨p.f0, p.f1⟩
/-- From some number of rounds on. -/
def EvR {α : Type} (f : Nat → Option α) (v : α) : Prop := ∃ k0, ∀ k, k0 ≤ k → f k = some v
theorem EvR.succ {α : Type} {f g : Nat → Option α} {v : α} (h : EvR g v) (hs : ∀ k, f (k + 1) = g k) : EvR f v := by
  obtain ⟨k0, hk⟩ := h
  refine ⟨k0 + 1, fun k hk1 => ?_⟩
  obtain ⟨j, rfl⟩ : ∃ j, k = j + 1 := ⟨k - 1, by omega⟩
  rw [hs, hk j (by omega)]
theorem str_l0 (L : Int) (l : List S41) (long short : Int) (hlen : l.length ≤ 1000000) : ∀ (n i : Nat) (acc : List S41) (a : Int) (k : Nat), i + n = l.length → acc.length ≤ i →
    palantyperef01_stretches.l0 (n + 1 + k) acc a (i : Int) L l long short = some (acc ++ (strP a ((l.drop i).map to35 ++ [⟨L, L⟩])).map to41)
  | 0, i, acc, a, k, hi, hacc => by
    obtain rfl : i = l.length := by omega
    rw [show 0 + 1 + k = k + 1 from by omega, palantyperef01_stretches.l0, if_neg (by omega), List.drop_length, List.map_nil, List.nil_append, strP, strP]
    by_cases h : a < L
    · rw [if_pos h, if_pos (by omega), if_pos (show (⟨L, L⟩ : S35).f0 - a > 0 from by simp only; omega)]; rfl
    · rw [if_neg h, if_neg (show ¬ (⟨L, L⟩ : S35).f0 - a > 0 from by simp only; omega)]; simp
  | n + 1, i, acc, a, k, hi, hacc => by
    have hlt : i < l.length := by omega
    rw [show n + 1 + 1 + k = (n + 1 + k) + 1 from by omega, palantyperef01_stretches.l0, if_pos (by omega), if_pos (by omega), rd41 l i hlt, drop_cons' l i hlt, List.map_cons, List.cons_append, strP]
    obtain ⟨p, hp⟩ : ∃ p, p = l[i] := ⟨_, rfl⟩
    rw [← hp]
    have hw : wrap64 ((i : Int) + 1) = ((i + 1 : Nat) : Int) := by rw [winS _ (by omega)]; omega
    rw [hw]
    by_cases h : p.f0 > a
    · rw [if_pos h, if_pos (by omega), if_pos (show (to35 p).f0 - a > 0 from by show p.f0 - a > 0; omega), str_l0 L l long short hlen n (i + 1) _ p.f1 k (by omega) (by simp; omega)]
      simp [to41, to35]
    · rw [if_neg h, if_neg (show ¬ (to35 p).f0 - a > 0 from by show ¬ p.f0 - a > 0; omega), str_l0 L l long short hlen n (i + 1) _ p.f1 k (by omega) (by omega)]
      rfl
theorem str_some (L : Int) (l : List S41) (long short : Int) (hlen : l.length ≤ 1000000) (k : Nat) : palantyperef01_stretches.f (l.length + 1 + k) L l long short = some ((strP 0 (l.map to35 ++ [⟨L, L⟩])).map to41) := by
  have := str_l0 L l long short hlen l.length 0 [] 0 k (by omega) (by simp)
  rw [palantyperef01_stretches.f, show palantyperef01_stretches.l0 (l.length + 1 + k) [] 0 0 L l long short = palantyperef01_stretches.l0 (l.length + 1 + k) [] 0 ((0 : Nat) : Int) L l long short from rfl, this]
  simp
theorem strP_length : ∀ (ps : List S35) (a : Int), (strP a ps).length ≤ ps.length
  | [], a => by simp [strP]
  | p :: t, a => by
    rw [strP]
    have := strP_length t p.f1
    split
    · simp; omega
    · simp; omega
theorem chop_length (long short : Int) (hl : 1 ≤ long) (x : S35) (h0 : 0 ≤ x.f0) (h1 : x.f0 < x.f1) (h2 : x.f1 ≤ 36000) : (chop long short x).length ≤ 36001 := by
  have h3 : (x.f1 - x.f0) / long ≤ x.f1 - x.f0 := Int.ediv_le_self _ (by omega)
  unfold chop
  simp only
  split
  · simp [fulls_length]; omega
  · split
    · simp [fulls_length]; omega
    · simp [fulls_length]; omega
theorem takes_j2_t (k : Nat) (out ls : List S41) (i : Nat) (hi : i < ls.length) (hli : ls.length ≤ 1000001) (hout : out.length < 8796093022208) (at_ left L long short : Int) (ps : List S41) :
    palantyperef01_Takes.j2 (k + 1) out ls (i : Int) at_ left true L ps long short = palantyperef01_Takes.l0 k (out ++ [⟨at_, ls[i].f1⟩]) ls ((i + 1 : Nat) : Int) L ps long short := by
  have hw : wrap64 ((i : Int) + 1) = ((i + 1 : Nat) : Int) := by rw [winS _ (by omega)]; omega
  rw [palantyperef01_Takes.j2, if_pos rfl, if_pos (by omega), if_pos (by omega), if_pos hout, rd41 ls i hi, hw]
theorem takes_j2_f (k : Nat) (pre ls : List S41) (q : S41) (i : Nat) (hi : i < ls.length) (hli : ls.length ≤ 1000001) (hout : pre.length < 8796093022208) (at_ left L long short : Int) (hleft : left > 0) (ps : List S41) :
    palantyperef01_Takes.j2 (k + 1) (pre ++ [q]) ls (i : Int) at_ left false L ps long short = palantyperef01_Takes.l0 k (pre ++ [⟨q.f0, ls[i].f1⟩]) ls ((i + 1 : Nat) : Int) L ps long short := by
  have hw : wrap64 ((i : Int) + 1) = ((i + 1 : Nat) : Int) := by rw [winS _ (by omega)]; omega
  have hlen : wrap64 (((pre ++ [q]).length : Int) - 1) = (pre.length : Int) := by rw [winS _ (by simp; omega)]; simp
  rw [palantyperef01_Takes.j2, if_neg (by decide), if_pos hleft, if_pos (by omega), if_pos (by omega), hlen, if_pos (by omega), if_pos (by simp; omega), rd41 ls i hi, hw, rd41 (pre ++ [q]) pre.length (by simp)]
  simp
theorem takes_j2_n (k : Nat) (out ls : List S41) (i : Nat) (hi : i < ls.length) (hli : ls.length ≤ 1000001) (at_ left L long short : Int) (hleft : ¬ left > 0) (ps : List S41) :
    palantyperef01_Takes.j2 (k + 1) out ls (i : Int) at_ left false L ps long short = palantyperef01_Takes.l0 k out ls ((i + 1 : Nat) : Int) L ps long short := by
  have hw : wrap64 ((i : Int) + 1) = ((i + 1 : Nat) : Int) := by rw [winS _ (by omega)]; omega
  rw [palantyperef01_Takes.j2, if_neg (by decide), if_neg hleft, hw]
theorem takes_l1 (L long short : Int) (hl : 1 ≤ long) (hl1 : long ≤ 1200) (ps ls : List S41) (i : Nat) (hi : i < ls.length) (hli : ls.length ≤ 1000001) (x : S41) (hx : x = ls[i]) (h0 : 0 ≤ x.f0) (h1 : x.f0 < x.f1) (h2 : x.f1 ≤ 36000)
    (acc : List S41) (hacc : acc.length ≤ 8000000000000) (v : List S41) (m : Nat) (hm : (x.f1 - x.f0) / long = m) (hv : EvR (fun k => palantyperef01_Takes.l0 k (acc ++ (chop long short (to35 x)).map to41) ls ((i + 1 : Nat) : Int) L ps long short) v) : ∀ (d j : Nat), j + d = m →
    EvR (fun k => palantyperef01_Takes.l1 k (acc ++ (fulls x.f0 long j).map to41) ls (i : Int) (x.f0 + j * long) (j : Int) L ps long short) v := by
  have hd1 := Int.mul_ediv_self_le (x := x.f1 - x.f0) (k := long) (by omega)
  have hd2 := Int.lt_mul_ediv_self_add (x := x.f1 - x.f0) (k := long) (by omega)
  rw [hm, Int.mul_comm] at hd1 hd2
  have hm36 : (m : Int) ≤ 36000 := by
    have h3 : (x.f1 - x.f0) / long ≤ x.f1 - x.f0 := Int.ediv_le_self _ (by omega)
    omega
  have hch : chop long short (to35 x) = if x.f1 - (x.f0 + m * long) = 0 then fulls x.f0 long m else if short ≤ x.f1 - (x.f0 + m * long) ∨ (m : Int) = 0 then fulls x.f0 long m ++ [⟨x.f0 + m * long, x.f1⟩] else fulls x.f0 long (m - 1) ++ [⟨x.f0 + ((m : Int) - 1) * long, x.f1⟩] := by
    unfold chop to35
    simp only [hm, Int.toNat_natCast]
  intro d
  induction d with
  | zero =>
    intro j hj
    obtain rfl : j = m := by omega
    have hq0 : (0 : Int) ≤ (j : Int) * long := Int.mul_nonneg (by omega) (by omega)
    obtain ⟨q, hq⟩ : ∃ q, q = (j : Int) * long := ⟨_, rfl⟩
    rw [← hq] at hd1 hd2 hch hq0
    have hw : wrap64 (x.f1 - (x.f0 + q)) = x.f1 - (x.f0 + q) := winS _ (by omega)
    have hfl : (acc ++ (fulls x.f0 long j).map to41).length < 8796093022208 := by simp [fulls_length]; omega
    have hl1_ : ∀ k, palantyperef01_Takes.l1 (k + 1) (acc ++ (fulls x.f0 long j).map to41) ls (i : Int) (x.f0 + q) (j : Int) L ps long short = if x.f1 - (x.f0 + q) > 0 then (if x.f1 - (x.f0 + q) ≥ short then palantyperef01_Takes.j2 k (acc ++ (fulls x.f0 long j).map to41) ls (i : Int) (x.f0 + q) (x.f1 - (x.f0 + q)) true L ps long short else palantyperef01_Takes.j2 k (acc ++ (fulls x.f0 long j).map to41) ls (i : Int) (x.f0 + q) (x.f1 - (x.f0 + q)) ((j : Int) == 0) L ps long short) else palantyperef01_Takes.j2 k (acc ++ (fulls x.f0 long j).map to41) ls (i : Int) (x.f0 + q) (x.f1 - (x.f0 + q)) false L ps long short := fun k => by
      rw [palantyperef01_Takes.l1, if_pos (by omega), if_pos (by omega), rd41 ls i hi, ← hx, hw, if_neg (by omega)]
    rw [← hq]
    refine EvR.succ (g := fun k => _) ?_ hl1_
    by_cases hz : x.f1 - (x.f0 + q) = 0
    · rw [if_pos hz] at hch
      simp only [if_neg (show ¬ x.f1 - (x.f0 + q) > 0 by omega)]
      refine EvR.succ ?_ (fun k => takes_j2_n k _ ls i hi hli _ _ L long short (by omega) ps)
      rw [← hch]; exact hv
    · rw [if_neg hz] at hch
      simp only [if_pos (show x.f1 - (x.f0 + q) > 0 by omega)]
      by_cases hs : short ≤ x.f1 - (x.f0 + q)
      · rw [if_pos (.inl hs)] at hch
        simp only [if_pos (show x.f1 - (x.f0 + q) ≥ short from hs)]
        refine EvR.succ ?_ (fun k => takes_j2_t k _ ls i hi hli hfl _ _ L long short ps)
        rw [hch] at hv
        rw [← hx]
        simpa [to41] using hv
      · simp only [if_neg (show ¬ x.f1 - (x.f0 + q) ≥ short from hs)]
        by_cases hj0 : j = 0
        · subst hj0
          rw [if_pos (.inr rfl)] at hch
          refine EvR.succ ?_ (fun k => takes_j2_t k _ ls i hi hli hfl _ _ L long short ps)
          rw [hch] at hv
          rw [← hx]
          simpa [to41] using hv
        · rw [if_neg (by rintro (h | h); exact hs h; omega)] at hch
          obtain ⟨j', rfl⟩ : ∃ j', j = j' + 1 := ⟨j - 1, by omega⟩
          have hb : (((j' + 1 : Nat) : Int) == 0) = false := beq_eq_false_iff_ne.mpr (by omega)
          simp only [hb]
          have hsp : acc ++ (fulls x.f0 long (j' + 1)).map to41 = (acc ++ (fulls x.f0 long j').map to41) ++ [to41 ⟨x.f0 + j' * long, x.f0 + (j' + 1) * long⟩] := by rw [fulls_succ]; simp
          rw [hsp]
          refine EvR.succ ?_ (fun k => takes_j2_f k _ ls _ i hi hli (by simp [fulls_length]; simp [fulls_length] at hfl; omega) _ _ L long short (by omega) ps)
          rw [hch] at hv
          rw [← hx]
          have e1 : (((j' + 1 : Nat) : Int) - 1) = (j' : Int) := by omega
          rw [e1, Nat.add_sub_cancel] at hv
          simpa [to41] using hv
  | succ d ih =>
    intro j hj
    have hstep := ih (j + 1) (by omega)
    have hjm : ((j : Int) + 1) * long ≤ m * long := Int.mul_le_mul_of_nonneg_right (by omega) (by omega)
    have hj1 : ((j : Int) + 1) * long = j * long + long := by rw [Int.add_mul, Int.one_mul]
    have hq0 : (0 : Int) ≤ (j : Int) * long := Int.mul_nonneg (by omega) (by omega)
    have hfl : (acc ++ (fulls x.f0 long j).map to41).length < 8796093022208 := by simp [fulls_length]; omega
    refine EvR.succ hstep (fun k => ?_)
    have hc : ((j + 1 : Nat) : Int) = (j : Int) + 1 := by omega
    rw [palantyperef01_Takes.l1, if_pos (by omega), if_pos (by omega), rd41 ls i hi, ← hx, winS (x.f1 - (x.f0 + j * long)) (by omega), if_pos (by omega), if_pos hfl, winS (x.f0 + j * long + long) (by omega), winS ((j : Int) + 1) (by omega), fulls_succ, hc, hj1]
    simp [to41, Int.add_assoc]
theorem takes_l0 (L long short : Int) (hl : 1 ≤ long) (hl1 : long ≤ 1200) (ps ls : List S41) (hli : ls.length ≤ 1000001) (hb : ∀ x ∈ ls, 0 ≤ x.f0 ∧ x.f0 < x.f1 ∧ x.f1 ≤ 36000) : ∀ (n i : Nat) (acc : List S41), i + n = ls.length → acc.length ≤ i * 36001 →
    EvR (fun k => palantyperef01_Takes.l0 k acc ls (i : Int) L ps long short) (acc ++ ((ls.drop i).map to35).flatMap (fun x => (chop long short x).map to41))
  | 0, i, acc, hi, hacc => by
    obtain rfl : i = ls.length := by omega
    refine ⟨1, fun k hk => ?_⟩
    obtain ⟨j, rfl⟩ : ∃ j, k = j + 1 := ⟨k - 1, by omega⟩
    show palantyperef01_Takes.l0 (j + 1) acc ls (ls.length : Int) L ps long short = _
    rw [palantyperef01_Takes.l0, if_neg (by omega)]
    simp
  | n + 1, i, acc, hi, hacc => by
    have hlt : i < ls.length := by omega
    obtain ⟨h0, h1, h2⟩ := hb ls[i] (List.getElem_mem hlt)
    obtain ⟨m, hm⟩ : ∃ m : Nat, (ls[i].f1 - ls[i].f0) / long = m := ⟨((ls[i].f1 - ls[i].f0) / long).toNat, by have : 0 ≤ (ls[i].f1 - ls[i].f0) / long := Int.ediv_nonneg (by omega) (by omega); omega⟩
    have hcl := chop_length long short hl (to35 ls[i]) h0 h1 h2
    have hrec := takes_l0 L long short hl hl1 ps ls hli hb n (i + 1) (acc ++ (chop long short (to35 ls[i])).map to41) (by omega) (by simp; omega)
    have hgo := takes_l1 L long short hl hl1 ps ls i hlt hli ls[i] rfl h0 h1 h2 acc (by omega) _ m hm hrec m 0 (by omega)
    rw [drop_cons' ls i hlt, List.map_cons, List.flatMap_cons, ← List.append_assoc]
    refine EvR.succ hgo (fun k => ?_)
    rw [palantyperef01_Takes.l0, if_pos (by omega), if_pos (by omega), rd41 ls i hlt]
    simp [fulls]
theorem takes_some (L : Int) (l : List S41) (long short : Int) (hlen : l.length ≤ 1000000) (hs : sittingOk L (l.map to35) long short = true) :
    EvR (fun k => palantyperef01_Takes.f k L l long short) ((takesP L (l.map to35) long short).map to41) := by
  obtain ⟨hp, hL0, hL1, hl, hl1, hs0, hs1⟩ := sittingOk_parts hs
  have hb := (pausesOk_bounds L _ (-1) hp).1
  have hin := strP_in L (l.map to35 ++ [⟨L, L⟩]) 0 (Int.le_refl _) (fun p hm => by
    rcases List.mem_append.1 hm with hm | hm
    · have := hb p hm; omega
    · obtain rfl := List.mem_singleton.1 hm; simp only; omega)
  have hsl := strP_length (l.map to35 ++ [⟨L, L⟩]) 0
  have h1 := takes_l0 L long short hl hl1 l ((strP 0 (l.map to35 ++ [⟨L, L⟩])).map to41) (by simp at hsl ⊢; omega) (fun x hx => by
    obtain ⟨y, hy, rfl⟩ := List.mem_map.1 hx
    have := hin y hy
    exact ⟨this.1, this.2.1, by show y.f1 ≤ 36000; omega⟩) ((strP 0 (l.map to35 ++ [⟨L, L⟩])).map to41).length 0 [] (by omega) (by simp)
  obtain ⟨k0, hk⟩ := h1
  refine ⟨k0 + l.length + 1, fun k hkk => ?_⟩
  obtain ⟨j, rfl⟩ : ∃ j, k = l.length + 1 + j := ⟨k - (l.length + 1), by omega⟩
  show palantyperef01_Takes.f (l.length + 1 + j) L l long short = _
  rw [palantyperef01_Takes.f, str_some L l long short hlen j, Option.bind_some]
  have := hk (l.length + 1 + j) (by omega)
  refine (show _ = _ from this).trans ?_
  rw [takesP_chop L _ long short hl]
  simp [List.map_flatMap, List.map_map, List.flatMap_map, Function.comp_def, to35, to41]
/-- The reference's error of a sitting. -/
theorem fault_some (L : Int) (l : List S41) (long short : Int) (hlen : l.length ≤ 1000000) :
    EvR (fun k => palantyperef01_SittingFault.f k L l long short) (checkP L (l.map to35) long short).2 := by
  cases hs : sittingOk L (l.map to35) long short with
  | false =>
    refine ⟨2 * l.length + 1, fun k hk => ?_⟩
    obtain ⟨j, rfl⟩ : ∃ j, k = 2 * l.length + 1 + j := ⟨k - (2 * l.length + 1), by omega⟩
    show palantyperef01_SittingFault.f (2 * l.length + 1 + j) L l long short = _
    rw [palantyperef01_SittingFault.f, valid_some L l long short hlen j, hs, Option.bind_some, if_neg (by decide), checkP, if_neg (by rw [hs]; decide)]
  | true =>
    obtain ⟨k0, hk⟩ := takes_some L l long short hlen hs
    refine ⟨k0 + 2 * l.length + 1, fun k hkk => ?_⟩
    obtain ⟨j, rfl⟩ : ∃ j, k = 2 * l.length + 1 + j := ⟨k - (2 * l.length + 1), by omega⟩
    have this : palantyperef01_Takes.f (2 * l.length + 1 + j) L l long short = _ := hk (2 * l.length + 1 + j) (by omega)
    show palantyperef01_SittingFault.f (2 * l.length + 1 + j) L l long short = _
    rw [palantyperef01_SittingFault.f, valid_some L l long short hlen j, hs, Option.bind_some, if_pos rfl, this, Option.bind_some, checkP, if_pos hs]
    by_cases h40 : (takesP L (l.map to35) long short).length > 40
    · rw [if_pos (by rw [List.length_map]; omega), if_pos h40]
    · rw [if_neg (by rw [List.length_map]; omega), if_neg h40]
end Go.Proofs.Ytillieimgjdpbaa.Pr
namespace Go.Proofs.Ytillieimgjdpbaa.Pr
open Go.RowKit Go.Proofs.YtillieimgjdpbaaW.PrintWords
set_option linter.unusedVariables false
set_option linter.unusedSimpArgs false
theorem sit_l0 (L : Int) (l : List S41) (long short : Int) (hlen : l.length ≤ 1000000) : ∀ (n i : Nat) (acc : List S35) (k : Nat), i + n = l.length → acc.length ≤ i →
    palantypelaw01_Sitting.l0 (n + 1 + k) (i : Int) L l long short L acc long short = some (L, acc ++ (l.drop i).map to35, long, short)
  | 0, i, acc, k, hi, hacc => by
    obtain rfl : i = l.length := by omega
    rw [show 0 + 1 + k = k + 1 from by omega, palantypelaw01_Sitting.l0, if_neg (by omega), List.drop_length]
    simp
  | n + 1, i, acc, k, hi, hacc => by
    have hlt : i < l.length := by omega
    have hw : wrap64 ((i : Int) + 1) = ((i + 1 : Nat) : Int) := by rw [winS _ (by omega)]; omega
    rw [show n + 1 + 1 + k = (n + 1 + k) + 1 from by omega, palantypelaw01_Sitting.l0, if_pos (by omega), if_pos (by omega), if_pos (by omega), rd41 l i hlt, hw, sit_l0 L l long short hlen n (i + 1) _ k (by omega) (by simp; omega)]
    have hd : (l.drop i).map to35 = to35 l[i] :: (l.drop (i + 1)).map to35 := by rw [drop_cons' l i hlt]; rfl
    rw [hd, List.append_assoc]
    rfl
theorem sit_some (L : Int) (l : List S41) (long short : Int) (hlen : l.length ≤ 1000000) (k : Nat) (hk : l.length + 1 ≤ k) : palantypelaw01_Sitting.f k L l long short = some (L, l.map to35, long, short) := by
  obtain ⟨j, rfl⟩ : ∃ j, k = l.length + 1 + j := ⟨k - (l.length + 1), by omega⟩
  have := sit_l0 L l long short hlen l.length 0 [] j (by omega) (by simp)
  rw [palantypelaw01_Sitting.f]
  exact this.trans (by simp)
end Go.Proofs.Ytillieimgjdpbaa.Pr
namespace Go.Proofs.Ytillieimgjdpbaa.Pr
open Go.RowKit Go.Proofs.YtillieimgjdpbaaW.PrintWords Go.Proofs.YtillieimgjdpbaaW.PrintLast Go.Proofs.YtillieimgjdpbaaW.PrintMore
set_option linter.unusedVariables false
set_option linter.unusedSimpArgs false
def hasP (s : Int) (t : S35) : Bool := decide (t.f0 ≤ s) && decide (s < t.f1)
theorem check_is {L : Int} {ps : List S35} {long short : Int} (h : (checkP L ps long short).2 = 0) : sittingOk L ps long short = true ∧ (checkP L ps long short).1 = takesP L ps long short ∧ (takesP L ps long short).length ≤ 40 := by
  unfold checkP at h ⊢
  split at h
  · rename_i hs
    split at h
    · cases h
    · rename_i h40; rw [if_pos hs, if_neg h40]; exact ⟨hs, rfl, by omega⟩
  · cases h
end Go.Proofs.Ytillieimgjdpbaa.Pr
namespace Go.Proofs.Ytillieimgjdpbaa.Pr
open Go.RowKit Go.Proofs.YtillieimgjdpbaaW.PrintWords
set_option linter.unusedVariables false
set_option linter.unusedSimpArgs false
/-- How many spans have a second; how long they are together. -/
def cntP (s : Int) : List S35 → Int
  | [] => 0
  | t :: r => (if hasP s t = true then 1 else 0) + cntP s r
def lenP : List S35 → Int
  | [] => 0
  | t :: r => (t.f1 - t.f0) + lenP r
theorem cntP_append (s : Int) : ∀ a b : List S35, cntP s (a ++ b) = cntP s a + cntP s b
  | [], b => by simp [cntP]
  | t :: r, b => by simp only [List.cons_append, cntP, cntP_append s r b]; omega
theorem lenP_append : ∀ a b : List S35, lenP (a ++ b) = lenP a + lenP b
  | [], b => by simp [lenP]
  | t :: r, b => by simp only [List.cons_append, lenP, lenP_append r b]; omega
theorem hasP_iff (s : Int) (t : S35) : hasP s t = true ↔ t.f0 ≤ s ∧ s < t.f1 := by simp [hasP]
/-- A row of spans that fill what lies from a to b. -/
def Tile : Int → Int → List S35 → Prop
  | a, b, [] => a = b
  | a, b, t :: r => t.f0 = a ∧ a < t.f1 ∧ Tile t.f1 b r
theorem Tile.le : ∀ {l : List S35} {a b : Int}, Tile a b l → a ≤ b
  | [], a, b, h => Int.le_of_eq h
  | t :: r, a, b, ⟨h1, h2, h3⟩ => by have := h3.le; omega
theorem Tile.app : ∀ {l m : List S35} {a b c : Int}, Tile a b l → Tile b c m → Tile a c (l ++ m)
  | [], m, a, b, c, h, k => by rw [show a = b from h]; exact k
  | t :: r, m, a, b, c, ⟨h1, h2, h3⟩, k => ⟨h1, h2, h3.app k⟩
theorem Tile.cnt (s : Int) : ∀ {l : List S35} {a b : Int}, Tile a b l → cntP s l = if a ≤ s ∧ s < b then 1 else 0
  | [], a, b, h => by rw [show a = b from h, if_neg (by omega)]; rfl
  | t :: r, a, b, ⟨h1, h2, h3⟩ => by
    have hle := h3.le
    rw [cntP, h3.cnt s]
    by_cases c : hasP s t = true
    · rw [if_pos c]; rw [hasP_iff] at c; rw [if_neg (by omega), if_pos (by omega)]; rfl
    · rw [if_neg c]; rw [hasP_iff] at c
      by_cases d : t.f1 ≤ s ∧ s < b
      · rw [if_pos d, if_pos (by omega)]; rfl
      · rw [if_neg d, if_neg (by omega)]; rfl
theorem Tile.len : ∀ {l : List S35} {a b : Int}, Tile a b l → lenP l = b - a
  | [], a, b, h => by rw [show a = b from h]; simp [lenP]
  | t :: r, a, b, ⟨h1, h2, h3⟩ => by rw [lenP, h3.len]; omega
/-- Spans that rise, from a on, none past L. -/
def Rise (L : Int) : Int → List S35 → Prop
  | a, [] => True
  | a, t :: r => a ≤ t.f0 ∧ t.f0 < t.f1 ∧ t.f1 ≤ L ∧ Rise L t.f1 r
theorem Rise.mono {L : Int} : ∀ {l : List S35} {a b : Int}, Rise L b l → a ≤ b → Rise L a l
  | [], _, _, _, _ => trivial
  | t :: r, a, b, ⟨h1, h2, h3, h4⟩, h => ⟨by omega, h2, h3, h4⟩
theorem Tile.rise_app {L : Int} : ∀ {l m : List S35} {a b : Int}, Tile a b l → b ≤ L → Rise L b m → Rise L a (l ++ m)
  | [], m, a, b, h, hb, k => by rw [show a = b from h]; exact k
  | t :: r, m, a, b, ⟨h1, h2, h3⟩, hb, k => by
    have := h3.le
    exact ⟨by omega, by omega, by omega, h3.rise_app hb k⟩
theorem Rise.get {L : Int} : ∀ {l : List S35} {a : Int}, Rise L a l → ∀ (i : Nat) (h : i < l.length), a ≤ l[i].f0 ∧ l[i].f0 < l[i].f1 ∧ l[i].f1 ≤ L ∧ (∀ h2 : i + 1 < l.length, l[i].f1 ≤ l[i + 1].f0)
  | t :: r, a, ⟨h1, h2, h3, h4⟩, 0, h => ⟨h1, h2, h3, fun h5 => (h4.get 0 (by simpa using h5)).1⟩
  | t :: r, a, ⟨h1, h2, h3, h4⟩, i + 1, h => by
    obtain ⟨g1, g2, g3, g4⟩ := h4.get i (by simpa using h)
    exact ⟨by simp only [List.getElem_cons_succ]; omega, g2, g3, fun h5 => g4 (by simpa using h5)⟩
theorem fulls_tile (a long : Int) (hl : 1 ≤ long) : ∀ n : Nat, Tile a (a + n * long) (fulls a long n)
  | 0 => by show a = _; simp
  | n + 1 => by
    rw [fulls_succ]
    refine (fulls_tile a long hl n).app ⟨rfl, ?_, ?_⟩
    · have : ((n : Int) + 1) * long = n * long + long := by rw [Int.add_mul, Int.one_mul]
      simp only; omega
    · show a + ((n : Int) + 1) * long = a + ((n + 1 : Nat) : Int) * long
      rw [Int.natCast_add]; rfl
theorem chop_tile {long short : Int} (hl : 1 ≤ long) {x : S35} (hx : x.f0 < x.f1) : Tile x.f0 x.f1 (chop long short x) := by
  have hd1 := Int.mul_ediv_self_le (x := x.f1 - x.f0) (k := long) (by omega)
  have hd2 := Int.lt_mul_ediv_self_add (x := x.f1 - x.f0) (k := long) (by omega)
  have hm0 : 0 ≤ (x.f1 - x.f0) / long := Int.ediv_nonneg (by omega) (by omega)
  unfold chop
  simp only
  obtain ⟨m, hm⟩ : ∃ m : Nat, (x.f1 - x.f0) / long = m := ⟨((x.f1 - x.f0) / long).toNat, by omega⟩
  rw [hm, Int.mul_comm] at hd1 hd2
  rw [hm]
  simp only [Int.toNat_natCast]
  have hf := fulls_tile x.f0 long hl m
  split
  · rename_i h
    have : x.f0 + m * long = x.f1 := by omega
    rwa [this] at hf
  · rename_i hne
    split
    · exact hf.app ⟨rfl, by simp only; omega, rfl⟩
    · rename_i hs
      have hmp : 1 ≤ m := by
        have : ¬ (m : Int) = 0 := fun e => hs (.inr e)
        omega
      have h2 : ((m : Int) - 1) * long = m * long - long := by rw [Int.sub_mul, Int.one_mul]
      have hf2 := fulls_tile x.f0 long hl (m - 1)
      have e : ((m - 1 : Nat) : Int) = (m : Int) - 1 := by omega
      rw [e] at hf2
      exact hf2.app ⟨rfl, by simp only; omega, rfl⟩
/-- The takes of what lies behind a, and its pauses. -/
theorem takes_all {long short : Int} (hl : 1 ≤ long) (L : Int) : ∀ (ps : List S35) (a last : Int), a ≤ L → pausesOk L last ps = true → a ≤ last + 1 →
    lenP ((strP a (ps ++ [⟨L, L⟩])).flatMap (chop long short)) + lenP ps = L - a ∧
    (∀ s, a ≤ s → s < L → cntP s ((strP a (ps ++ [⟨L, L⟩])).flatMap (chop long short)) + cntP s ps = 1) ∧
    Rise L a ((strP a (ps ++ [⟨L, L⟩])).flatMap (chop long short)) ∧ (∀ s, s < a → cntP s ((strP a (ps ++ [⟨L, L⟩])).flatMap (chop long short)) = 0)
  | [], a, last, ha, _, _ => by
    rw [List.nil_append, strP, strP]
    split
    · rename_i h
      have hx : a < L := by simp only at h; omega
      have ht := chop_tile (short := short) hl (x := ⟨a, L⟩) hx
      rw [show [(⟨a, L⟩ : S35)].flatMap (chop long short) = chop long short ⟨a, L⟩ ++ [] by simp]
      refine ⟨?_, fun s h1 h2 => ?_, ht.rise_app (Int.le_refl _) trivial, fun s h1 => ?_⟩
      · rw [List.append_nil, ht.len]; simp [lenP]
      · rw [List.append_nil, ht.cnt s, if_pos ⟨h1, h2⟩]; rfl
      · rw [List.append_nil, ht.cnt s, if_neg (by simp only; omega)]
    · rename_i h
      have hx : a = L := by simp only at h; omega
      subst hx
      refine ⟨by simp [lenP], fun s h1 h2 => by omega, trivial, fun s h1 => rfl⟩
  | p :: ps, a, last, ha, hp, hlast => by
    have hb := (pausesOk_bounds L _ _ hp).1 p (by simp)
    have hp2 : pausesOk L p.f1 ps = true := by
      rw [pausesOk] at hp
      split at hp
      · cases hp
      · exact hp
    obtain ⟨g1, g2, g3, g4⟩ := takes_all hl L ps p.f1 p.f1 hb.2.2 hp2 (by omega)
    have hc : ∀ s, s < p.f1 → cntP s ps = 0 := by
      have hbb := (pausesOk_bounds L _ _ hp2).1
      clear g1 g2 g3 g4 hp hp2
      intro s hs
      induction ps with
      | nil => rfl
      | cons q t ih =>
        have := hbb q (by simp)
        rw [cntP, if_neg (by rw [hasP_iff]; omega), ih (fun r hr => hbb r (by simp [hr]))]; rfl
    have hpc : ∀ s, cntP s (p :: ps) = (if hasP s p = true then 1 else 0) + cntP s ps := fun s => rfl
    rw [List.cons_append, strP]
    split
    · rename_i h
      have hx : a < p.f0 := by omega
      have ht := chop_tile (short := short) hl (x := ⟨a, p.f0⟩) hx
      rw [List.flatMap_cons]
      refine ⟨?_, fun s h1 h2 => ?_, ht.rise_app (by simp only; omega) (g3.mono (by simp only; omega)), fun s h1 => ?_⟩
      · rw [lenP_append, ht.len, lenP]; simp only; omega
      · rw [cntP_append, ht.cnt s, hpc]
        by_cases d : p.f1 ≤ s
        · have := g2 s d h2
          rw [if_neg (by simp only; omega), if_neg (by rw [hasP_iff]; omega)]; omega
        · have e1 := g4 s (by omega)
          have e2 := hc s (by omega)
          rw [e1, e2]
          by_cases f : p.f0 ≤ s
          · rw [if_neg (by simp only; omega), if_pos (by rw [hasP_iff]; omega)]; rfl
          · rw [if_pos (by simp only; omega), if_neg (by rw [hasP_iff]; omega)]; rfl
      · rw [cntP_append, ht.cnt s, if_neg (by simp only; omega), g4 s (by omega)]; rfl
    · rename_i h
      have hx : p.f0 ≤ a := by omega
      have hx2 : a = p.f0 := by omega
      refine ⟨?_, fun s h1 h2 => ?_, g3.mono (by omega), fun s h1 => g4 s (by omega)⟩
      · rw [lenP]; omega
      · rw [hpc]
        by_cases d : p.f1 ≤ s
        · have := g2 s d h2
          rw [if_neg (by rw [hasP_iff]; omega)]; omega
        · have e1 := g4 s (by omega)
          have e2 := hc s (by omega)
          rw [e1, e2, if_pos (by rw [hasP_iff]; omega)]; rfl
theorem takes_once {L : Int} {ps : List S35} {long short : Int} (h : sittingOk L ps long short = true) :
    lenP (takesP L ps long short) + lenP ps = L ∧ (∀ s, 0 ≤ s → s < L → cntP s (takesP L ps long short) + cntP s ps = 1) ∧ Rise L 0 (takesP L ps long short) := by
  obtain ⟨hp, hL0, hL1, hl, hl1, hs0, hs1⟩ := sittingOk_parts h
  rw [takesP_chop L ps long short hl]
  obtain ⟨g1, g2, g3, _⟩ := takes_all (short := short) hl L ps 0 (-1) (by omega) hp (by omega)
  exact ⟨by omega, g2, g3⟩
end Go.Proofs.Ytillieimgjdpbaa.Pr
namespace Go.Proofs.Ytillieimgjdpbaa.Pr
open Go.RowKit Go.Proofs.YtillieimgjdpbaaW.PrintWords
set_option linter.unusedVariables false
set_option linter.unusedSimpArgs false
def cut41 (b : Int) (l : List S41) : List S41 := l.filter fun p => decide (p.f1 ≤ b)
theorem cut_l0 (tt : Int) (L : Int) (l : List S41) (lo sh : Int) (hlen : l.length ≤ 1000000) (n : Nat) : ∀ (i : Nat) (acc : List S41) (k : Nat), i + n = l.length → acc.length ≤ i →
    palantypelaw01_cut.l0 (n + 1 + k) tt (i : Int) L l lo sh tt acc lo sh = some (tt, acc ++ cut41 tt (l.drop i), lo, sh) := by
  induction n with
  | zero =>
    intro i acc k hi ha
    obtain rfl : i = l.length := by omega
    rw [show 0 + 1 + k = k + 1 from by omega, palantypelaw01_cut.l0, if_neg (by omega), List.drop_length]
    simp [cut41]
  | succ n ih =>
    intro i acc k hi ha
    have hlt : i < l.length := by omega
    have hw : wrap64 ((i : Int) + 1) = ((i + 1 : Nat) : Int) := by rw [winS _ (by omega)]; omega
    rw [show n + 1 + 1 + k = (n + 1 + k) + 1 from by omega, palantypelaw01_cut.l0, if_pos (by omega), if_pos (by omega), rd41 l i hlt, hw, drop_cons' l i hlt]
    by_cases h : l[i].f1 ≤ tt
    · rw [if_pos h, if_pos (by omega), ih (i + 1) _ k (by omega) (by simp; omega)]
      have e : cut41 tt (l[i] :: l.drop (i + 1)) = l[i] :: cut41 tt (l.drop (i + 1)) := by rw [cut41, List.filter_cons, decide_eq_true h]; rfl
      rw [e, List.append_assoc]; rfl
    · rw [if_neg h, ih (i + 1) _ k (by omega) (by omega)]
      have e : cut41 tt (l[i] :: l.drop (i + 1)) = cut41 tt (l.drop (i + 1)) := by rw [cut41, List.filter_cons, decide_eq_false h]; rfl
      rw [e]
theorem cut_some (tt : Int) (L : Int) (l : List S41) (lo sh : Int) (hlen : l.length ≤ 1000000) (k : Nat) (hk : l.length + 1 ≤ k) : palantypelaw01_cut.f k L l lo sh tt = some (tt, cut41 tt l, lo, sh) := by
  obtain ⟨j, rfl⟩ : ∃ j, k = l.length + 1 + j := ⟨k - (l.length + 1), by omega⟩
  have := cut_l0 tt L l lo sh hlen l.length 0 [] j (by omega) (by simp)
  rw [palantypelaw01_cut.f]
  exact this.trans (by simp)
end Go.Proofs.Ytillieimgjdpbaa.Pr
