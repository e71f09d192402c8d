/- The search for a rota, in plain Lean; what the search's worlds keep. -/
import Derived.Test.YtillieimgjdpbaaOHj
namespace Go.Proofs.Ytillieimgjdpbaa.Pr
open Go.RowKit Go.Proofs.YtillieimgjdpbaaW.PrintWords Go.Proofs.YtillieimgjdpbaaW.PrintLast Go.Proofs.YtillieimgjdpbaaW.PrintMore
set_option linter.unusedVariables false
set_option linter.unusedSimpArgs false
def allow (W : Wk) (nt : Int) (s : Sx) (r : Nat) : Bool := !(decide ((r : Int) = nt)) && mayP W s r
def firstF (W : Wk) (nt : Int) : Nat → Sx → Option (List Int)
  | 0, _ => some []
  | f + 1, s => (List.range W.C.length).findSome? fun r => if allow W nt s r = true then (firstF W nt f (givenP s r)).map (fun c => (r : Int) :: c) else none
def top (g : Nat → Nat) (i : Nat) : Nat := ((List.range i).map g).foldl max 0
def best (W : Wk) (nt : Int) : Nat → Sx → Nat
  | 0, _ => 0
  | f + 1, s => top (fun r => if allow W nt s r = true then 1 + best W nt f (givenP s r) else 0) W.C.length
theorem top_succ (g : Nat → Nat) (i : Nat) : top g (i + 1) = max (top g i) (g i) := by simp [top, List.range_succ, List.foldl_append]
theorem top_zero (g : Nat → Nat) : top g 0 = 0 := rfl
theorem top_le (g : Nat → Nat) (N : Nat) (h : ∀ r, g r ≤ N) : ∀ i, top g i ≤ N
  | 0 => Nat.zero_le _
  | i + 1 => by rw [top_succ]; exact Nat.max_le.2 ⟨top_le g N h i, h i⟩
theorem top_ge (g : Nat → Nat) : ∀ (i r : Nat), r < i → g r ≤ top g i
  | i + 1, r, h => by
    rw [top_succ]
    by_cases hr : r = i
    · subst hr; exact Nat.le_max_right _ _
    · exact Nat.le_trans (top_ge g i r (by omega)) (Nat.le_max_left _ _)
theorem best_le (W : Wk) (nt : Int) : ∀ (f : Nat) (s : Sx), best W nt f s ≤ f
  | 0, s => Nat.le_refl _
  | f + 1, s => top_le _ _ (fun r => by
      have := best_le W nt f (givenP s r)
      split <;> omega) _
theorem first_full (W : Wk) (nt : Int) : ∀ (f : Nat) (s : Sx) (c : List Int), firstF W nt f s = some c → best W nt f s = f ∧ c.length = f
  | 0, s, c, h => by
    obtain rfl := Option.some.inj h
    exact ⟨rfl, rfl⟩
  | f + 1, s, c, h => by
    obtain ⟨r, hr, h2⟩ := List.exists_of_findSome?_eq_some h
    rw [List.mem_range] at hr
    by_cases ha : allow W nt s r = true
    · rw [if_pos ha] at h2
      obtain ⟨d, hd, rfl⟩ := Option.map_eq_some_iff.1 h2
      obtain ⟨e1, e2⟩ := first_full W nt f _ d hd
      refine ⟨?_, by simp [e2]⟩
      have h3 := top_ge (fun r => if allow W nt s r = true then 1 + best W nt f (givenP s r) else 0) W.C.length r hr
      simp only [if_pos ha, e1] at h3
      have := best_le W nt (f + 1) s
      unfold best at this ⊢
      omega
    · rw [if_neg ha] at h2
      cases h2
/-- A state from which n takes can be reckoned: who had a take had one that is given. -/
structure Sx.Fine (s : Sx) : Prop where
  k0 : 0 ≤ s.k
  h : ∀ r : Int, 0 ≤ r → r < 5 → -1 ≤ s.get r ∧ s.get r < s.k
theorem Sx.Fine.ok {s : Sx} (h : s.Fine) (hk : s.k ≤ 40) : s.Ok := ⟨h.k0, hk, fun r h0 h1 => by have := h.h r h0 h1; omega⟩
theorem given_get (s : Sx) (r q : Int) (h0 : 0 ≤ r) (h1 : r < 5) (q0 : 0 ≤ q) (q1 : q < 5) : (givenP s r).get q = if q = r then s.k else s.get q := by
  obtain rfl | rfl | rfl | rfl | rfl : r = 0 ∨ r = 1 ∨ r = 2 ∨ r = 3 ∨ r = 4 := by omega
  all_goals
    obtain rfl | rfl | rfl | rfl | rfl : q = 0 ∨ q = 1 ∨ q = 2 ∨ q = 3 ∨ q = 4 := by omega
    all_goals rfl
theorem Sx.Fine.given {s : Sx} (h : s.Fine) (r : Int) (h0 : 0 ≤ r) (h1 : r < 5) : (givenP s r).Fine :=
  ⟨by rw [givenP_k]; have := h.k0; omega, fun q q0 q1 => by
    rw [given_get s r q h0 h1 q0 q1, givenP_k]
    have := h.h q q0 q1
    have := h.k0
    split <;> omega⟩
theorem init_fine : initP.Fine := ⟨Int.le_refl _, fun r h0 h1 => by
  obtain rfl | rfl | rfl | rfl | rfl : r = 0 ∨ r = 1 ∨ r = 2 ∨ r = 3 ∨ r = 4 := by omega
  all_goals decide⟩
theorem begin_fine (l : List Int) (h : ∀ r ∈ l, 0 ≤ r ∧ r < 5) : (beginP l).Fine := by
  suffices hh : ∀ (l : List Int) (s : Sx), s.Fine → (∀ r ∈ l, 0 ≤ r ∧ r < 5) → (l.foldl givenP s).Fine from hh l initP init_fine h
  intro l
  induction l with
  | nil => intro s hs _; exact hs
  | cons r t ih => intro s hs hr; exact ih _ (hs.given r (hr r (by simp)).1 (hr r (by simp)).2) (fun q hq => hr q (by simp [hq]))
/-- A state leads nowhere, and no further than ρ. -/
def DeadP (W : Wk) (nt ρ : Int) (s : Sx) : Prop := s.k < W.T.length ∧ firstF W nt (W.T.length - s.k.toNat) s = none ∧ s.k + best W nt (W.T.length - s.k.toNat) s ≤ ρ
theorem DeadP.mono {W : Wk} {nt ρ ρ' : Int} (h : ρ ≤ ρ') (s : Sx) (hd : DeadP W nt ρ s) : DeadP W nt ρ' s := ⟨hd.1, hd.2.1, Int.le_trans hd.2.2 h⟩
/-- What the search keeps: all blocks but its number and its map. -/
structure Kp (base : Nat) (w w' : World) : Prop where
  os : w'.os = w.os
  tape : w'.tape = w.tape
  output : w'.output = w.output
  size : w.heap.size ≤ w'.heap.size
  block : ∀ i, i < w.heap.size → i ≠ base + 2 → i ≠ base + 3 → w'.heap[i]? = w.heap[i]?
theorem Kp.refl (base : Nat) (w : World) : Kp base w w := ⟨rfl, rfl, rfl, Nat.le_refl _, fun _ _ _ _ => rfl⟩
theorem Kp.trans {base : Nat} {a b c : World} (h : Kp base a b) (k : Kp base b c) : Kp base a c :=
  ⟨k.os.trans h.os, k.tape.trans h.tape, k.output.trans h.output, Nat.le_trans h.size k.size, fun i hi h1 h2 => (k.block i (Nat.lt_of_lt_of_le hi h.size) h1 h2).trans (h.block i hi h1 h2)⟩
theorem Kp.of {base : Nat} {w w' : World} (h : Below w.heap.size w w') : Kp base w w' := ⟨h.os, h.tape, h.output, h.size, fun i hi _ _ => h.block i hi⟩
theorem Kp.alloc {base : Nat} {a w : World} (h : Kp base a w) (o : Obj) : Kp base a (w.alloc o) := h.trans (.of ((Below.refl _ _).alloc (Nat.le_refl _) _))
theorem Kp.set {base : Nat} {a w : World} (h : Kp base a w) (u : Value) : Kp base a (w.setCell ⟨base + 2, 0, none⟩ u) :=
  h.trans ⟨rfl, rfl, rfl, by simp [World.setCell], fun i _ h1 _ => Below.heap_setCell _ _ _ _ h1⟩
theorem Kp.grown {base : Nat} {a w w' : World} (h : Kp base a w) (hg : w.grownBy w' (some (base + 3))) : Kp base a w' :=
  h.trans ⟨hg.os, hg.tape, hg.output, hg.size, fun i hi _ h2 => hg.block i hi (fun e => h2 (Option.some.inj e))⟩
theorem Kp.blk {base : Nat} {w w' : World} {g : Nat} {o : Obj} (h : Kp base w w') (hg : w.heap[g]? = some o) (h1 : g ≠ base + 2) (h2 : g ≠ base + 3) : w'.heap[g]? = some o := (h.block g (blk_lt hg) h1 h2).trans hg
theorem Kp.below {base : Nat} {w w' : World} (h : Kp base w w') (hb : base ≤ w.heap.size) : Below base w w' := ⟨h.os, h.tape, h.output, h.size, fun i hi => h.block i (by omega) (by omega) (by omega)⟩
def Wk.Here (W : Wk) (w : World) (p : Nat) : Prop := ∃ A1 n1 c1 lo sh AC cC AT cT, W.At w p A1 n1 c1 lo sh AC cC AT cT
theorem Wk.Here.below {W : Wk} {w w' : World} {p : Nat} (h : W.Here w p) (hb : Below w.heap.size w w') : W.Here w' p := by
  obtain ⟨_, _, _, _, _, _, _, _, _, h⟩ := h
  exact ⟨_, _, _, _, _, _, _, _, _, h.below hb⟩
/-- The captured variables of the search. -/
def caps (base : Nat) : Array Value := #[.pointer (some ⟨base + 2, 0, none⟩), .pointer (some ⟨base, 0, none⟩), .pointer (some ⟨base + 4, 0, none⟩), .pointer (some ⟨base + 1, 0, none⟩), .pointer (some ⟨base + 5, 0, none⟩), .pointer (some ⟨base + 6, 0, none⟩)]
/-- The search's world: w0 is that ahead of it. -/
structure Env (W : Wk) (w0 : World) (p : Nat) (nt ρ : Int) (w : World) : Prop where
  below : Below w0.heap.size w0 w
  wb : w.heap[w0.heap.size]? = some (.cells #[.pointer (some ⟨p, 0, none⟩)] 90 (0, 0))
  nb : w.heap[w0.heap.size + 1]? = some (.cells #[.int .i64 nt] 3 (0, 0))
  rb : w.heap[w0.heap.size + 2]? = some (.cells #[.int .i64 ρ] 3 (0, 0))
  lost : LostAt w (w0.heap.size + 3) (DeadP W nt ρ)
  lb : w.heap[w0.heap.size + 4]? = some (.cells #[.map (some (w0.heap.size + 3))] 104 (0, 0))
  mb : w.heap[w0.heap.size + 5]? = some (.cells #[.func (.func 53) #[.pointer (some ⟨p, 0, none⟩)] #[]] 105 (0, 0))
  gb : w.heap[w0.heap.size + 6]? = some (.cells #[.func (.func 54) #[] (caps w0.heap.size)] 106 (0, 0))
theorem Env.move {W : Wk} {w0 : World} {p : Nat} {nt ρ ρ' : Int} {w w' : World} (h : Env W w0 p nt ρ w) (hk : Kp w0.heap.size w w') (hr : w'.heap[w0.heap.size + 2]? = some (.cells #[.int .i64 ρ'] 3 (0, 0))) (hl : LostAt w' (w0.heap.size + 3) (DeadP W nt ρ')) : Env W w0 p nt ρ' w' :=
  ⟨h.below.trans (hk.below h.below.size), hk.blk h.wb (by omega) (by omega), hk.blk h.nb (by omega) (by omega), hr, hl, hk.blk h.lb (by omega) (by omega), hk.blk h.mb (by omega) (by omega), hk.blk h.gb (by omega) (by omega)⟩
theorem Env.of_below {W : Wk} {w0 : World} {p : Nat} {nt ρ : Int} {w w' : World} (h : Env W w0 p nt ρ w) (hb : Below w.heap.size w w') : Env W w0 p nt ρ w' :=
  h.move (.of hb) (blk_below h.rb hb) (h.lost.move (hb.block _ h.lost.lt))
theorem setCell_heap_same {w : World} {g : Nat} {u v : Value} {t : TypeId} (hg : w.heap[g]? = some (.cells #[u] t (0, 0))) : (w.setCell ⟨g, 0, none⟩ v).heap[g]? = some (.cells #[v] t (0, 0)) := by
  simp [World.setCell, Array.getElem?_modify, hg]
theorem Env.set {W : Wk} {w0 : World} {p : Nat} {nt ρ ρ' : Int} {w : World} (h : Env W w0 p nt ρ w) (hr : ρ ≤ ρ') : Env W w0 p nt ρ' (w.setCell ⟨w0.heap.size + 2, 0, none⟩ (.int .i64 ρ')) :=
  h.move ((Kp.refl _ _).set _) (setCell_heap_same h.rb) ((h.lost.mono (DeadP.mono hr)).move (Below.heap_setCell _ _ _ _ (by show _ ≠ w0.heap.size + 2; omega)))
theorem Env.here {W : Wk} {w0 : World} {p : Nat} {nt ρ : Int} {w : World} (h : Env W w0 p nt ρ w) (hw : W.Here w0 p) : W.Here w p := hw.below h.below
end Go.Proofs.Ytillieimgjdpbaa.Pr
