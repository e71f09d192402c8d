/- The map of the states that lead nowhere: its laws. -/
import Derived.Test.YtillieimgjdpbaaOHi
import Derived.Maps.OwnOps
import Derived.DeepKeys4
namespace Go.Proofs.Ytillieimgjdpbaa.Pr
open Go.RowKit Go.Proofs.YtillieimgjdpbaaW.PrintWords Go.Proofs.YtillieimgjdpbaaW.PrintLast Go.Proofs.YtillieimgjdpbaaW.PrintMore
open Go.WideElems (Fit)
open Go.Maps (Keyed)
open Go.MapKept
open Go.ChangeMaps
set_option linter.unusedVariables false
set_option linter.unusedSimpArgs false
theorem laid110 : laidOutB Try.prog = true := by kernel_rfl
theorem row110 : 110 < Try.prog.types.size := of_decide_eq_true (by kernel_rfl)
theorem kt110 : Try.prog.keyTypeAt 3 110 = true := by kernel_rfl
theorem law110 : Keyed Try.prog 110 := Keyed.of_law (deep_law_laid laid110 (m := 3) (by omega) row110 kt110 (by rw [Try.underlying110]))
/-- A state that may be met. -/
structure Sx.Ok (s : Sx) : Prop where
  k0 : 0 ≤ s.k
  k1 : s.k ≤ 40
  h : ∀ r : Int, 0 ≤ r → r < 5 → -1 ≤ s.get r ∧ s.get r ≤ 40
theorem Sx.Ok.all {s : Sx} (h : s.Ok) : (-1 ≤ s.h0 ∧ s.h0 ≤ 40) ∧ (-1 ≤ s.h1 ∧ s.h1 ≤ 40) ∧ (-1 ≤ s.h2 ∧ s.h2 ≤ 40) ∧ (-1 ≤ s.h3 ∧ s.h3 ≤ 40) ∧ (-1 ≤ s.h4 ∧ s.h4 ≤ 40) :=
  ⟨h.h 0 (by omega) (by omega), h.h 1 (by omega) (by omega), h.h 2 (by omega) (by omega), h.h 3 (by omega) (by omega), h.h 4 (by omega) (by omega)⟩
theorem Sx.cells_inj {s t : Sx} (h : s.cells = t.cells) : s = t := by
  obtain ⟨a, b, c, d, e, f⟩ := s
  obtain ⟨a', b', c', d', e', f'⟩ := t
  simp [Sx.cells] at h
  obtain ⟨rfl, rfl, rfl, rfl, rfl, rfl⟩ := h
  rfl
def Sx.code (s : Sx) : Nat := (((((s.k.toNat * 42 + (s.h0 + 1).toNat) * 42 + (s.h1 + 1).toNat) * 42 + (s.h2 + 1).toNat) * 42 + (s.h3 + 1).toNat) * 42 + (s.h4 + 1).toNat)
theorem Sx.code_lt {s : Sx} (h : s.Ok) : s.code < 5489031744 := by
  have := h.all
  have := h.k0
  have := h.k1
  unfold Sx.code
  omega
theorem dig {a b a' b' : Nat} (hb : b < 42) (hb' : b' < 42) (h : a * 42 + b = a' * 42 + b') : a = a' ∧ b = b' := by omega
theorem dg {x : Int} (h : -1 ≤ x ∧ x ≤ 40) : (x + 1).toNat < 42 := by omega
theorem dgi {x y : Int} (h : -1 ≤ x ∧ x ≤ 40) (h' : -1 ≤ y ∧ y ≤ 40) (e : (x + 1).toNat = (y + 1).toNat) : x = y := by omega
theorem dgk {x y : Int} (h : 0 ≤ x) (h' : 0 ≤ y) (e : x.toNat = y.toNat) : x = y := by omega
theorem Sx.code_inj {s t : Sx} (hs : s.Ok) (ht : t.Ok) (h : s.code = t.code) : s = t := by
  have A := hs.all
  have B := ht.all
  have h0 := hs.k0
  have h0' := ht.k0
  obtain ⟨a, b, c, d, e, f⟩ := s
  obtain ⟨a', b', c', d', e', f'⟩ := t
  obtain ⟨a1, a2, a3, a4, a5⟩ := A
  obtain ⟨b1, b2, b3, b4, b5⟩ := B
  simp only at a1 a2 a3 a4 a5 b1 b2 b3 b4 b5 h0 h0'
  have p1 := dig (dg a5) (dg b5) h
  have p2 := dig (dg a4) (dg b4) p1.1
  have p3 := dig (dg a3) (dg b3) p2.1
  have p4 := dig (dg a2) (dg b2) p3.1
  have p5 := dig (dg a1) (dg b1) p4.1
  rw [dgk h0 h0' p5.1, dgi a1 b1 p5.2, dgi a2 b2 p4.2, dgi a3 b3 p3.2, dgi a4 b4 p2.2, dgi a5 b5 p1.2]
/-- Different numbers below a bound are at most so many. -/
theorem few : ∀ (N : Nat) (l : List Nat), l.Pairwise (· ≠ ·) → (∀ x ∈ l, x < N) → l.length ≤ N
  | 0, l, _, h => by
    cases l with
    | nil => simp
    | cons a t => exact absurd (h a (by simp)) (by omega)
  | N + 1, l, hd, h => by
    have h1 := few N (l.filter (· != N)) (hd.filter _) (fun x hx => by
      obtain ⟨hm, hn⟩ := List.mem_filter.1 hx
      have := h x hm
      have : x ≠ N := by simpa using hn
      omega)
    have h2 : ∀ l : List Nat, l.Pairwise (· ≠ ·) → l.length ≤ (l.filter (· != N)).length + 1 := by
      intro l
      induction l with
      | nil => intro _; simp
      | cons a t ih =>
        intro hp
        obtain ⟨ha, ht⟩ := List.pairwise_cons.1 hp
        by_cases hn : a = N
        · subst hn
          have : t.filter (· != a) = t := List.filter_eq_self.2 (fun x hx => by simpa using (ha x hx).symm)
          simp [this]
        · rw [List.filter_cons, if_pos (by simpa using hn)]
          have := ih ht
          simp only [List.length_cons]
          omega
    have := h2 l hd
    omega
def keyL (s : Sx) : Lit := .string (keyBytes [.int .i64 s.k, .int .i64 s.h0, .int .i64 s.h1, .int .i64 s.h2, .int .i64 s.h3, .int .i64 s.h4])
theorem wf64 (x : Int) (h0 : -1 ≤ x) (h1 : x ≤ 40) : (Lit.int .i64 x).wf = true := by
  rw [← win x (by omega)]
  exact wrap64_wf x
theorem lits110 (s : Sx) (hs : s.Ok) (d : Nat) : Try.prog.keyLits (d + 3) 110 s.cells.toList = some [.int .i64 s.k, .int .i64 s.h0, .int .i64 s.h1, .int .i64 s.h2, .int .i64 s.h3, .int .i64 s.h4] := by
  have h := hs.all
  have w0 := wf64 s.k (by have := hs.k0; omega) hs.k1
  have w1 := wf64 _ h.1.1 h.1.2
  have w2 := wf64 _ h.2.1.1 h.2.1.2
  have w3 := wf64 _ h.2.2.1.1 h.2.2.1.2
  have w4 := wf64 _ h.2.2.2.1.1 h.2.2.2.1.2
  have w5 := wf64 _ h.2.2.2.2.1 h.2.2.2.2.2
  have c110 : Try.prog.cellsOf 110 = 6 := by kernel_rfl
  have c108 : Try.prog.cellsOf 108 = 5 := by kernel_rfl
  have c3 : Try.prog.cellsOf 3 = 1 := by kernel_rfl
  have u110 := Try.underlying110
  have u108 := Try.underlying108
  have u3 := Try.underlying3
  simp [Program.keyLits, u110, u108, u3, c110, c108, c3, Sx.cells, w0, w1, w2, w3, w4, w5, List.range, List.range.loop]
  done
theorem key110 (s : Sx) (hs : s.Ok) : keyOf Try.prog 110 (.agg s.cells) = some (keyL s) := by
  have c110 : Try.prog.cellsOf 110 = 6 := by kernel_rfl
  have hk : Try.prog.keyType 110 = true := by kernel_rfl
  have h2 : 2 ≤ Try.prog.types.size := of_decide_eq_true (by kernel_rfl)
  obtain ⟨m, hm⟩ : ∃ m, Try.prog.types.size + 1 = m + 3 := ⟨Try.prog.types.size - 2, by omega⟩
  have u110 := Try.underlying110
  have hf : (Value.agg s.cells).formed Try.prog 110 = true := by simp [Value.formed, u110, c110]; rfl
  simp only [keyOf, u110, hk, hf, Bool.and_self, if_true, Value.cells, hm, lits110 s hs m]
  rfl
/-- Block mb is a map whose keys are states of which D holds. -/
def LostAt (w : World) (mb : Nat) (D : Sx → Prop) : Prop :=
  ∃ es clock, w.heap[mb]? = some (.map es clock) ∧ Fit Try.prog 110 (plainElem (H := Unit) Try.prog 4) es clock ∧ ∀ x ∈ es.toList, ∃ s : Sx, s.Ok ∧ x.key = .agg s.cells ∧ x.val = .bool true ∧ D s
theorem LostAt.mono {w : World} {mb : Nat} {D D' : Sx → Prop} (h : LostAt w mb D) (hd : ∀ s, D s → D' s) : LostAt w mb D' := by
  obtain ⟨es, clock, hb, hf, hx⟩ := h
  exact ⟨es, clock, hb, hf, fun x hm => by obtain ⟨s, h1, h2, h3, h4⟩ := hx x hm; exact ⟨s, h1, h2, h3, hd s h4⟩⟩
theorem LostAt.move {w w' : World} {mb : Nat} {D : Sx → Prop} (h : LostAt w mb D) (hb : w'.heap[mb]? = w.heap[mb]?) : LostAt w' mb D := by
  obtain ⟨es, clock, hb', hf, hx⟩ := h
  exact ⟨es, clock, hb.trans hb', hf, hx⟩
theorem LostAt.lt {w : World} {mb : Nat} {D : Sx → Prop} (h : LostAt w mb D) : mb < w.heap.size := by
  obtain ⟨es, clock, hb, _⟩ := h
  exact (Array.getElem?_eq_some_iff.1 hb).1
theorem LostAt.made (w : World) (D : Sx → Prop) : LostAt (w.alloc (.map #[] 0)) w.heap.size D :=
  ⟨#[], 0, (MapKept.heap_alloc w _).1, ⟨by simp, stamped_empty 0, by simp⟩, by simp⟩
theorem LostAt.look {w : World} {mb : Nat} {D : Sx → Prop} (h : LostAt w mb D) (s : Sx) (hs : s.Ok) :
    ∃ b : Bool, (b = true → D s) ∧ ∀ X : World, X.heap[mb]? = w.heap[mb]? → (Instr.lookup 104 (.map (some mb)) (.agg s.cells) false).run Try.prog X = .ok (.bool b) X := by
  obtain ⟨es, clock, hb, hf, hx⟩ := h
  have hz : ∀ X : World, (zeroValue 4).run Try.prog X = .ok (.bool false) X := fun X => by kernel_rfl
  have hany : ∃ x : MapEntry, x ∈ es.toList ∧ x.key = .agg s.cells ∨ (∀ x ∈ es.toList, x.key ≠ .agg s.cells) := by
    by_cases hc : ∃ x ∈ es.toList, x.key = .agg s.cells
    · obtain ⟨x, h1, h2⟩ := hc
      exact ⟨x, .inl ⟨h1, h2⟩⟩
    · exact ⟨⟨.bool false, .bool false, 0⟩, .inr (fun x h1 h2 => hc ⟨x, h1, h2⟩)⟩
  obtain ⟨x, ⟨hm, hk⟩ | hno⟩ := hany
  · obtain ⟨t, ht, e1, e2, hD⟩ := hx x hm
    have hst : t = s := Sx.cells_inj (Value.agg.inj (e1.symm.trans hk))
    refine ⟨true, fun _ => hst ▸ hD, fun X hX => ?_⟩
    rcases Maps.fit_look false law110 Try.underlying104 (hz X) (hX.trans hb) hf (key110 s hs) with ⟨_, hn, _⟩ | ⟨e0, y, hm0, hk0, hrun, _⟩
    · exact absurd hk (hn x hm)
    · obtain ⟨t0, _, _, e3, _⟩ := hx e0 hm0
      rw [hrun, e3]
      rfl
  · refine ⟨false, (fun h => Bool.noConfusion h), fun X hX => ?_⟩
    rcases Maps.fit_look false law110 Try.underlying104 (hz X) (hX.trans hb) hf (key110 s hs) with ⟨hrun, _⟩ | ⟨e0, y, hm0, hk0, _⟩
    · rw [hrun]
      rfl
    · exact absurd hk0 (hno e0 hm0)
theorem LostAt.put {w : World} {mb : Nat} {D : Sx → Prop} (h : LostAt w mb D) (s : Sx) (hs : s.Ok) (hD : D s) :
    ∃ w', (Instr.mapUpdate 104 (.map (some mb)) (.agg s.cells) (.bool true)).run Try.prog w = .ok () w' ∧ LostAt w' mb D ∧ w.grownBy w' (some mb) := by
  obtain ⟨es, clock, hb, hf, hx⟩ := h
  have hsize : es.size < maxLen := by
    have hn : es.toList.Pairwise (fun x y => x.key ≠ y.key) := ((stamped_iff es clock).1 hf.stamped).2.2
    have hex : ∀ x ∈ es.toList, ∃ t : Sx, t.Ok ∧ x.key = .agg t.cells := fun x hm => by obtain ⟨t, h1, h2, _⟩ := hx x hm; exact ⟨t, h1, h2⟩
    have hc : ∃ c : MapEntry → Nat, (∀ x ∈ es.toList, c x < 5489031744) ∧ (∀ x ∈ es.toList, ∀ y ∈ es.toList, c x = c y → x.key = y.key) := by
      classical
      refine ⟨fun x => if hh : ∃ t : Sx, t.Ok ∧ x.key = .agg t.cells then (Classical.choose hh).code else 0, fun x hm => ?_, fun x hm y hm' hxy => ?_⟩
      · simp only [dif_pos (hex x hm)]
        exact Sx.code_lt (Classical.choose_spec (hex x hm)).1
      · simp only [dif_pos (hex x hm), dif_pos (hex y hm')] at hxy
        have h1 := Classical.choose_spec (hex x hm)
        have h2 := Classical.choose_spec (hex y hm')
        have := Sx.code_inj h1.1 h2.1 hxy
        rw [h1.2, h2.2, this]
    obtain ⟨c, c1, c2⟩ := hc
    have hp : (es.toList.map c).Pairwise (· ≠ ·) := by
      rw [List.pairwise_map]
      exact (List.Pairwise.imp_of_mem (R := fun x y => x.key ≠ y.key) (S := fun x y => c x ≠ c y) (fun {a b} ha hb h e => h (c2 a ha b hb e)) hn)
    have := few 5489031744 _ hp (fun n hn => by
      obtain ⟨x, hx, rfl⟩ := List.mem_map.1 hn
      exact c1 x hx)
    rw [List.length_map, Array.length_toList] at this
    unfold maxLen
    omega
  obtain ⟨es', clock', hrun, hf', _, _, _, hwho⟩ := Maps.fit_store (R' := plainElem (H := Unit) Try.prog 4) law110 Try.underlying104 hb hf hsize (fun _ _ _ _ hz => hz) (key110 s hs) (plainElem_bool Try.underlying4 true)
  refine ⟨_, hrun, ⟨es', clock', heap_setBlock_same hb _, hf', fun x hm => ?_⟩, ⟨rfl, rfl, rfl, by simp [setBlock], fun i _ hi => heap_setBlock_other hb _ (fun e => hi (by rw [e]))⟩⟩
  rcases hwho x hm with ⟨hm', _⟩ | ⟨e1, e2⟩
  · exact hx x hm'
  · exact ⟨s, hs, e1, e2, hD⟩
end Go.Proofs.Ytillieimgjdpbaa.Pr
