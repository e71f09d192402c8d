/- A reporter, opened. -/
import Derived.Test.YtillieimgjdpbaaEHq
namespace Go.Proofs.Ytillieimgjdpbaa.Pr
open Go.RowKit Go.Proofs.YtillieimgjdpbaaW.PrintWords
set_option linter.unusedVariables false
set_option linter.unusedSimpArgs false
theorem open_kd {α H : Type} {enc : TypeId × Value → H} {W : World} {sp : Nat → Bool} {held : Bool} (k : Kd α) (Q : α → Prop) {t e : TypeId} (ht : Try.prog.underlying t = some (.slice e)) (hsz : Try.prog.cellsOf e = k.sz)
    (hdec : ∀ (fuel : Nat) (cs : List Value) (x : DataW H × List MemPlace), DataW.trod enc Try.prog W 0 sp held fuel e cs = some x → ∃ v : α, k.K W v cs ∧ Q v)
    {fuel : Nat} {cs : List Value} {x : DataW H × List MemPlace} (h : DataW.trod enc Try.prog W 0 sp held fuel t cs = some x) :
    ∃ (A : Option Addr) (c : Nat) (l : List α), cs = [.slice A l.length c] ∧ l.length ≤ c ∧ Kd.C k W A l.length l ∧ ∀ p ∈ l, Q p := by
  rcases Go.Deep.open_slice ht h with ⟨rfl, _⟩ | ⟨a, len, cap, m, n, D, Pl, rfl, _, hlc, hcm, hm, _, hx⟩
  · exact ⟨none, 0, [], rfl, Nat.le_refl _, Kd.C_nil k W, by simp⟩
  · have hlm : len ≤ m := by rw [hm]; split <;> omega
    have hex : ∀ i, i < m → ∃ v : α, ∃ cs', cs'.length = k.sz ∧ k.K W v cs' ∧ Q v ∧ ∀ j u, cs'[j]? = some u → W.cell? (a.add (i * k.sz + j)) = some u := fun i hi => by
      obtain ⟨cs', h1, h2⟩ := hx i hi
      obtain ⟨_, hlen, hcell⟩ := World.cells?_some h1
      obtain ⟨v, hv, hQ⟩ := hdec _ _ _ h2
      refine ⟨v, cs', by rw [hlen, hsz], hv, hQ, fun j u hj => ?_⟩
      have hjl := (List.getElem?_eq_some_iff.1 hj).1
      have := hcell j (by omega)
      rw [Go.Deep.add_add, hsz] at this
      rw [this, hj]
    classical
    by_cases hm0 : m = 0
    · obtain rfl : len = 0 := by omega
      exact ⟨some a, cap, [], rfl, Nat.zero_le _, ⟨rfl, by simp, fun h => absurd h (by simp)⟩, by simp⟩
    obtain ⟨v0, _⟩ := hex 0 (by omega)
    have hq : ∃ q : Nat → α, ∀ i, i < m → ∃ cs', cs'.length = k.sz ∧ k.K W (q i) cs' ∧ Q (q i) ∧ ∀ j u, cs'[j]? = some u → W.cell? (a.add (i * k.sz + j)) = some u :=
      ⟨fun i => if hi : i < m then Classical.choose (hex i hi) else v0, fun i hi => by simp only [dif_pos hi]; exact Classical.choose_spec (hex i hi)⟩
    obtain ⟨q, hq⟩ := hq
    have hl : ((List.range len).map q).length = len := by simp
    refine ⟨some a, cap, (List.range len).map q, by rw [hl], by rw [hl]; exact hlc, ⟨rfl, by rw [hl]; unfold maxLen at hcm; omega, fun _ => ⟨a, rfl, fun j p hj => ?_⟩⟩, fun p hp => ?_⟩
    · obtain ⟨hj1, hj2⟩ := List.getElem?_eq_some_iff.1 hj
      rw [hl] at hj1
      obtain ⟨cs', g1, g2, _, g4⟩ := hq j (by omega)
      have hp : p = q j := by rw [← hj2]; simp
      subst hp
      exact ⟨cs', g1, g2, g4⟩
    · obtain ⟨i, hi, rfl⟩ := List.mem_map.1 hp
      obtain ⟨_, _, _, g3, _⟩ := hq i (by have := List.mem_range.1 hi; omega)
      exact g3
set_option maxRecDepth 100000 in
theorem dec62 {H : Type} {enc : TypeId × Value → H} {W : World} {sp : Nat → Bool} {held : Bool} (fuel : Nat) (cs : List Value) (x : DataW H × List MemPlace) (h : DataW.trod enc Try.prog W 0 sp held fuel 62 cs = some x) :
    ∃ v : S62, k62.K W v cs ∧ ((Lit.int .i64 v.f0.f0).wf = true ∧ (Lit.int .i64 v.f0.f1).wf = true ∧ (Lit.int .i64 v.f1).wf = true) := by
  have c62 : Try.prog.cellsOf 62 = 3 := by kernel_rfl
  have c60 : Try.prog.cellsOf 60 = 2 := by kernel_rfl
  have c3 : Try.prog.cellsOf 3 = 1 := by kernel_rfl
  obtain ⟨y0, y1, n, _, hlen, g0, g1⟩ := Go.ChangeShapes.trod_struct2 Try.underlying62 h
  rw [c62] at hlen
  match cs, hlen with
  | [v0, v1, v2], _ =>
    simp [c60, c3] at g0 g1
    obtain ⟨z0, z1, m, _, _, h0, h1⟩ := Go.ChangeShapes.trod_struct2 Try.underlying60 g0
    simp [c3] at h0 h1
    obtain ⟨a, e0, _, w0⟩ := DataW.trod_int Try.underlying3 h0
    obtain ⟨b, e1, _, w1⟩ := DataW.trod_int Try.underlying3 h1
    obtain ⟨c, e2, _, w2⟩ := DataW.trod_int Try.underlying3 g1
    simp at e0 e1 e2
    subst e0 e1 e2
    exact ⟨⟨⟨a, b⟩, c⟩, k62_mk W ⟨⟨a, b⟩, c⟩, w0, w1, w2⟩
set_option maxRecDepth 100000 in
theorem open45 {H : Type} {enc : TypeId × Value → H} {W : World} {sp : Nat → Bool} {held : Bool} {fuel : Nat} {cs : List Value} {x : DataW H × List MemPlace} (h : DataW.trod enc Try.prog W 0 sp held fuel 45 cs = some x) :
    ∃ (A : Option Addr) (c : Nat) (l : List S62) (due dl : Int), cs = [.slice A l.length c, .int .i64 due, .int .i64 dl] ∧ l.length ≤ c ∧ Kd.C k62 W A l.length l ∧ (∀ v ∈ l, (Lit.int .i64 v.f0.f0).wf = true ∧ (Lit.int .i64 v.f0.f1).wf = true ∧ (Lit.int .i64 v.f1).wf = true) ∧ (Lit.int .i64 due).wf = true ∧ (Lit.int .i64 dl).wf = true := by
  obtain ⟨xs, n, _, _, hlen, hxl, hf⟩ := DataW.trod_struct Try.underlying45 h
  have c45 : Try.prog.cellsOf 45 = 3 := by kernel_rfl
  have c3 : Try.prog.cellsOf 3 = 1 := by kernel_rfl
  have c43 : Try.prog.cellsOf 43 = 1 := by kernel_rfl
  rw [c45] at hlen
  match cs, hlen, xs, hxl with
  | [v0, v1, v2], _, [y0, y1, y2], _ =>
    have g0 := hf 0 _ rfl
    have g1 := hf 1 _ rfl
    have g2 := hf 2 _ rfl
    simp [c3, c43] at g0 g1 g2
    obtain ⟨A, c, l, e0, hc, hC, hw⟩ := open_kd k62 _ Try.underlying43 (by kernel_rfl) dec62 g0
    obtain ⟨a, e1, _, w1⟩ := DataW.trod_int Try.underlying3 g1
    obtain ⟨b, e2, _, w2⟩ := DataW.trod_int Try.underlying3 g2
    exact ⟨A, c, l, a, b, by simp at e0 e1 e2; simp [e0, e1, e2], hc, hC, hw, w1, w2⟩
theorem agg_of {v : Value} {a b : Value} {t : List Value} (h : v.cells.toList = a :: b :: t) : v = .agg (a :: b :: t).toArray := by
  cases v with
  | agg cells => exact congrArg Value.agg (Array.ext' (by simpa [Value.cells] using h))
  | _ => simp [Value.cells] at h
end Go.Proofs.Ytillieimgjdpbaa.Pr
namespace Go.Proofs.Ytillieimgjdpbaa.Pr
open Go.RowKit Go.Proofs.YtillieimgjdpbaaW.PrintWords Go.Proofs.YtillieimgjdpbaaW.PrintLast Go.Proofs.YtillieimgjdpbaaW.PrintMore
theorem open62 {H : Type} {enc : TypeId × Value → H} {W : World} {sp : Nat → Bool} {held : Bool} {fuel : Nat} {cs : List Value} {x : DataW H × List MemPlace} (h : DataW.trod enc Try.prog W 0 sp held fuel 62 cs = some x) :
    ∃ v : S62, cs = [.int .i64 v.f0.f0, .int .i64 v.f0.f1, .int .i64 v.f1] ∧ ((Lit.int .i64 v.f0.f0).wf = true ∧ (Lit.int .i64 v.f0.f1).wf = true ∧ (Lit.int .i64 v.f1).wf = true) := by
  obtain ⟨v, hk, hw⟩ := dec62 fuel cs x h
  exact ⟨v, by obtain rfl := k62_open hk; rfl, hw⟩
end Go.Proofs.Ytillieimgjdpbaa.Pr
