/- Contracts by hand: the takes of a sitting. -/
import Derived.Test.YtillieimgjdpbaaMHc
import Derived.RangeFuncBox
namespace Go.Proofs.Ytillieimgjdpbaa.Pr
open Go.RowKit Go.Shelf Go.Proofs.YtillieimgjdpbaaW.PrintWords Go.Proofs.YtillieimgjdpbaaW.PrintLast Go.Proofs.YtillieimgjdpbaaW.PrintMore
set_option linter.unusedVariables false
set_option linter.unusedSimpArgs false
attribute [local go_sem] Oper.semAt_some
/-- Whole takes from a second on. -/
def fulls (a long : Int) (n : Nat) : List S35 := (List.range n).map fun k : Nat => ⟨a + k * long, a + (k + 1) * long⟩
theorem fulls_succ (a long : Int) (n : Nat) : fulls a long (n + 1) = fulls a long n ++ [⟨a + n * long, a + (n + 1) * long⟩] := by simp [fulls, List.range_succ]
theorem fulls_length (a long : Int) (n : Nat) : (fulls a long n).length = n := by simp [fulls]
/-- The last span goes on to a second. -/
def setLast (l : List S35) (v : Int) : List S35 := match l.getLast? with
  | none => []
  | some p => l.dropLast ++ [⟨p.f0, v⟩]
/-- A stretch, cut. -/
def takesStep (long short : Int) (out : List S35) (x : S35) : List S35 :=
  if x.f1 - (x.f0 + (x.f1 - x.f0) / long * long) = 0 then out ++ fulls x.f0 long ((x.f1 - x.f0) / long).toNat
  else if short ≤ x.f1 - (x.f0 + (x.f1 - x.f0) / long * long) ∨ (x.f1 - x.f0) / long = 0 then out ++ fulls x.f0 long ((x.f1 - x.f0) / long).toNat ++ [⟨x.f0 + (x.f1 - x.f0) / long * long, x.f1⟩]
  else setLast (out ++ fulls x.f0 long ((x.f1 - x.f0) / long).toNat) x.f1
def takesP (L : Int) (ps : List S35) (long short : Int) : List S35 := (strP 0 (ps ++ [⟨L, L⟩])).foldl (takesStep long short) []
def take_Sitting_takes.f (a0_0 : Int) (l0_1 : List (S35)) (a0_2 : Int) (a0_3 : Int) : Option ((List (S35))) := if sittingOk a0_0 l0_1 a0_2 a0_3 = true then some (takesP a0_0 l0_1 a0_2 a0_3) else none
def cells35 (xs : List S35) : List Value := xs.flatMap fun x => [.int .i64 x.f0, .int .i64 x.f1]
theorem cells35_length (xs : List S35) : (cells35 xs).length = xs.length * 2 := by
  induction xs with
  | nil => rfl
  | cons x xs ih => simp [cells35] at ih ⊢; omega
theorem cells35_append (xs ys : List S35) : cells35 (xs ++ ys) = cells35 xs ++ cells35 ys := by simp [cells35]
theorem reps35 (w : World) (base : Nat) (ok : Nat → Prop) : ∀ xs : List S35, Reps (k35.M w base ok) 2 xs (cells35 xs)
  | [] => Reps.none _ _
  | x :: xs => by
    have h1 : Reps (k35.M w base ok) 2 [x] (cells35 [x]) := by
      refine ⟨rfl, fun j p hj => ?_⟩
      cases j with
      | succ j => simp at hj
      | zero =>
        obtain rfl : x = p := by simpa using hj
        exact k35_mkM w base ok x
    have := Kd.reps_append h1 (reps35 w base ok xs)
    simpa [cells35] using this
theorem cells35_of {R : S35 → List Value → Prop} (hR : ∀ x cs, R x cs → cs = [.int .i64 x.f0, .int .i64 x.f1]) : ∀ (xs : List S35) (cs : List Value), Reps R 2 xs cs → cs = cells35 xs
  | [], cs, h => List.eq_nil_of_length_eq_zero (by simpa using h.1)
  | x :: xs, cs, h => by
    have h0 := hR _ _ (h.2 0 x rfl)
    have hl := h.1
    simp at hl
    have hd : Reps R 2 xs (cs.drop 2) := by
      refine ⟨by simp; omega, fun j p hj => ?_⟩
      have := h.2 (j + 1) p (by simpa using hj)
      rw [List.drop_drop, show 2 + j * 2 = (j + 1) * 2 by omega]
      exact this
    have ih := cells35_of hR xs _ hd
    have : cs = cs.take 2 ++ cs.drop 2 := (List.take_append_drop 2 cs).symm
    rw [this, ih]
    simp only [Nat.zero_mul, List.drop_zero] at h0
    rw [h0]
    rfl
theorem R35_own {w : World} {base : Nat} {ok : Nat → Prop} {v : Value} {xs : List S35} (h : Kd.R k35 35 w base ok v xs) : w.ownsRow base 35 2 v xs.length (cells35 xs) := by
  obtain ⟨_, inner, hown, hr⟩ := h
  rw [← cells35_of (fun x cs hx => k35_openM hx) xs inner hr]
  exact hown
theorem R35_mk {w : World} {base : Nat} {v : Value} {xs : List S35} (h : w.ownsRow base 35 2 v xs.length (cells35 xs)) : Kd.R k35 35 w base (fun _ => True) v xs := ⟨fun _ _ => trivial, _, h, reps35 _ _ _ _⟩
theorem set_last_cells (l : List S35) (p : S35) (u : Int) : (cells35 (l ++ [p])).set (l.length * 2 + 1) (.int .i64 u) = cells35 (l ++ [⟨p.f0, u⟩]) := by
  rw [cells35_append, cells35_append, List.set_append_right _ _ (by rw [cells35_length]; omega), cells35_length]
  have : l.length * 2 + 1 - l.length * 2 = 1 := by omega
  rw [this]
  rfl
theorem R35_setLast {w : World} {base g cap : Nat} {l : List S35} {p : S35} (h : Kd.R k35 35 w base (fun _ => True) (.slice (some ⟨g, 0, none⟩) (l.length + 1) cap) (l ++ [p])) (u : Int) :
    Kd.R k35 35 (w.setCell ⟨g, l.length * 2 + 1, none⟩ (.int .i64 u)) base (fun _ => True) (.slice (some ⟨g, 0, none⟩) (l.length + 1) cap) (l ++ [⟨p.f0, u⟩]) := by
  have h1 := R35_own h
  rw [show (l ++ [p]).length = l.length + 1 by simp] at h1
  have h2 := (World.ownsRow.stored h1 (l.length * 2 + 1) (.int .i64 u)).1
  rw [set_last_cells] at h2
  refine R35_mk ?_
  rw [show (l ++ [(⟨p.f0, u⟩ : S35)]).length = l.length + 1 by simp]
  exact h2
structure Prog (ob : Nat) (W W' : World) : Prop where
  others : KeepsOthers W W'
  keep : KeepT ob W W'
  below : ∀ {b : Nat}, b ≤ ob → ob < W.heap.size → FineAt ob W → (∀ k, mineAt ob W k → b ≤ k) → Below b W W' ∧ (∀ k, mineAt ob W' k → b ≤ k)
theorem KeepT.refl (ob : Nat) (W : World) : KeepT ob W W := ⟨Nat.le_refl _, fun h => h, fun _ _ _ _ h hm => ⟨h, hm⟩⟩
theorem Prog.refl (ob : Nat) (W : World) : Prog ob W W := ⟨KeepsOthers.refl _, KeepT.refl _ _, fun _ _ _ h => ⟨Below.refl _ _, h⟩⟩
theorem Prog.trans {ob : Nat} {X Y Z : World} (h : Prog ob X Y) (k : Prog ob Y Z) : Prog ob X Z :=
  ⟨h.others.trans k.others, h.keep.trans k.keep, fun hb hl hf hm => by
    obtain ⟨h1, h2⟩ := h.below hb hl hf hm
    obtain ⟨h3, h4⟩ := k.below hb (Nat.lt_of_lt_of_le hl h.keep.size) (h.keep.fine hf) h2
    exact ⟨h1.trans h3, h4⟩⟩
theorem Prog.of_below {ob : Nat} {X Y : World} (hob : ob < X.heap.size) (hb : Below X.heap.size X Y) : Prog ob X Y := by
  have hc : Y.cell? ⟨ob, 0, none⟩ = X.cell? ⟨ob, 0, none⟩ := hb.cell (p := ⟨ob, 0, none⟩) hob
  refine ⟨KeepsOthers.of_grownBy (grown_of_below hb none) (fun j o e => by cases e), ⟨hb.size, fun f => f.of hc hb.size, fun k cs e fr hk hm => ⟨blk_below hk hb, fun h => hm ((mineAt_of hc k).1 h)⟩⟩, fun hb' hl hf hm => ⟨hb.mono (by omega), fun k hk => hm k ((mineAt_of hc k).1 hk)⟩⟩
theorem Prog.alloc {ob : Nat} (X : World) (hob : ob < X.heap.size) (o : Obj) : Prog ob X (X.alloc o) := .of_below hob ((Below.refl _ _).alloc (Nat.le_refl _) _)
theorem mineAt_box {ob : Nat} {W : World} {v : Value} (h : W.heap[ob]? = some (.cells #[v] 27 (0, 0))) (k : Nat) : mineAt ob W k ↔ k = ob ∨ v.ownBlock = some k := by
  have hc : W.cell? ⟨ob, 0, none⟩ = some v := (blk_cell h 0).trans rfl
  unfold mineAt
  rw [hc]
  constructor
  · rintro (h | ⟨a, n, c, e, rfl⟩)
    · exact .inl h
    · cases e; exact .inr rfl
  · rintro (h | h)
    · exact .inl h
    · unfold Value.ownBlock at h
      split at h
      · exact .inr ⟨_, _, _, rfl, by simpa using h⟩
      · cases h
theorem Prog.stored {ob base : Nat} {X w1 : World} {v v1 : Value} {xs ys : List S35} (hbox : X.heap[ob]? = some (.cells #[v] 27 (0, 0))) (hR : Kd.R k35 35 X base (fun _ => True) v xs) (hR1 : Kd.R k35 35 w1 base (fun _ => True) v1 ys) (hbs : base ≤ ob)
    (hg : X.grownBy w1 v.ownBlock) (hat : v1.ownBlock = v.ownBlock ∨ ∃ b, v1.ownBlock = some b ∧ X.heap.size ≤ b) :
    Prog ob X (w1.setCell ⟨ob, 0, none⟩ v1) ∧ (w1.setCell ⟨ob, 0, none⟩ v1).heap[ob]? = some (.cells #[v1] 27 (0, 0)) ∧ Kd.R k35 35 (w1.setCell ⟨ob, 0, none⟩ v1) base (fun _ => True) v1 ys := by
  have hne : some ob ≠ v.ownBlock := Kd.R_ne hR hbox (by decide)
  have hlt : ob < X.heap.size := blk_lt hbox
  have hb1 : w1.heap[ob]? = some (.cells #[v] 27 (0, 0)) := blk_grown hbox hg hne
  have hb2 : (w1.setCell ⟨ob, 0, none⟩ v1).heap[ob]? = some (.cells #[v1] 27 (0, 0)) := by simpa using blk_set hb1 0 v1
  have hR2 : Kd.R k35 35 (w1.setCell ⟨ob, 0, none⟩ v1) base (fun _ => True) v1 ys := Kd.R_set hR1 hb1 (by decide) 0 v1
  refine ⟨⟨?_, ⟨?_, fun hf k hk => ?_, fun k cs e fr hk hm => ?_⟩, fun hb hl hf hm => ⟨?_, fun k hk => ?_⟩⟩, hb2, hR2⟩
  · refine (KeepsOthers.of_grownBy hg (fun j o e ho => ?_)).trans (KeepsOthers.setCell _ _ _)
    obtain ⟨cells, hc⟩ := own_typed (R35_own hR) j e
    rw [hc] at ho
    cases ho
    rfl
  · have := hg.size; simpa [World.setCell] using this
  · rcases (mineAt_box hb2 k).1 hk with rfl | h
    · exact blk_lt hb2
    · exact own_lt (R35_own hR2) k h
  · have hm' : ¬ (k = ob ∨ v.ownBlock = some k) := fun h => hm ((mineAt_box hbox k).2 h)
    have hk1 : w1.heap[k]? = some (.cells cs e fr) := (hg.block k (blk_lt hk) (fun h => hm' (.inr h.symm))).trans hk
    refine ⟨(Below.heap_setCell _ _ _ _ (fun h => hm' (.inl h))).trans hk1, fun h => ?_⟩
    rcases (mineAt_box hb2 k).1 h with h | h
    · exact hm' (.inl h)
    · rcases hat with hat | ⟨b, hb, hle⟩
      · exact hm' (.inr (hat ▸ h))
      · rw [hb] at h
        have := blk_lt hk
        have := Option.some.inj h
        omega
  · refine (Below.refl _ _).trans ⟨hg.os, hg.tape, hg.output, by have := hg.size; simpa [World.setCell] using this, fun k hk => ?_⟩
    refine (Below.heap_setCell _ _ _ _ (by show k ≠ ob; omega)).trans (hg.block k (by omega) (fun h => ?_))
    have := hm k ((mineAt_box hbox k).2 (.inr h.symm))
    omega
  · rcases (mineAt_box hb2 k).1 hk with rfl | h
    · exact hb
    · rcases hat with hat | ⟨b', hb', hle⟩
      · exact hm k ((mineAt_box hbox k).2 (.inr (hat ▸ h)))
      · rw [hb'] at h
        have := Option.some.inj h
        omega
/-- The last element's end is written. -/
theorem Prog.setLast {ob base g cap : Nat} {X : World} {l : List S35} {p : S35} (hbox : X.heap[ob]? = some (.cells #[.slice (some ⟨g, 0, none⟩) (l.length + 1) cap] 27 (0, 0))) (hR : Kd.R k35 35 X base (fun _ => True) (.slice (some ⟨g, 0, none⟩) (l.length + 1) cap) (l ++ [p])) (hbs : base ≤ ob) (u : Int) :
    Prog ob X (X.setCell ⟨g, l.length * 2 + 1, none⟩ (.int .i64 u)) ∧ (X.setCell ⟨g, l.length * 2 + 1, none⟩ (.int .i64 u)).heap[ob]? = some (.cells #[.slice (some ⟨g, 0, none⟩) (l.length + 1) cap] 27 (0, 0)) ∧ Kd.R k35 35 (X.setCell ⟨g, l.length * 2 + 1, none⟩ (.int .i64 u)) base (fun _ => True) (.slice (some ⟨g, 0, none⟩) (l.length + 1) cap) (l ++ [⟨p.f0, u⟩]) := by
  have hne : ob ≠ g := fun h => Kd.R_ne hR hbox (by decide) (by rw [h]; rfl)
  have hb2 : (X.setCell ⟨g, l.length * 2 + 1, none⟩ (.int .i64 u)).heap[ob]? = some (.cells #[.slice (some ⟨g, 0, none⟩) (l.length + 1) cap] 27 (0, 0)) := blk_far hbox hne _
  have hc : (X.setCell ⟨g, l.length * 2 + 1, none⟩ (.int .i64 u)).cell? ⟨ob, 0, none⟩ = X.cell? ⟨ob, 0, none⟩ := World.cell?_of_block (hb2.trans hbox.symm)
  have hs : (X.setCell ⟨g, l.length * 2 + 1, none⟩ (.int .i64 u)).heap.size = X.heap.size := by simp [World.setCell]
  refine ⟨⟨KeepsOthers.setCell _ _ _, ⟨by omega, fun hf => hf.of hc (by omega), fun k cs e fr hk hm => ⟨?_, fun h => hm ((mineAt_of hc k).1 h)⟩⟩, fun hb hl hf hm => ⟨?_, fun k hk => hm k ((mineAt_of hc k).1 hk)⟩⟩, hb2, R35_setLast hR u⟩
  · have hm' : ¬ (k = ob ∨ (Value.slice (some ⟨g, 0, none⟩) (l.length + 1) cap).ownBlock = some k) := fun h => hm ((mineAt_box hbox k).2 h)
    exact (Below.heap_setCell _ _ _ _ (fun h => hm' (.inr (by rw [h]; rfl)))).trans hk
  · exact (Below.refl _ _).setCell (p := ⟨g, l.length * 2 + 1, none⟩) (hm g ((mineAt_box hbox g).2 (.inr rfl))) _
/-- The state of the loop's body: the collector's box and row, the sitting's box, the stretch's box. -/
structure St (b ob Bx : Nat) (C : Array Value) (x : S35) (W W2 : World) (acc : List S35) (v : Value) : Prop where
  prog : Prog ob W W2
  box : W2.heap[ob]? = some (.cells #[v] 27 (0, 0))
  row : Kd.R k35 35 W2 b (fun _ => True) v acc
  sit : W2.heap[b]? = some (.cells C 32 (0, 0))
  str : W2.heap[Bx]? = some (.cells #[.int .i64 x.f0, .int .i64 x.f1] 35 (0, 0))
  notMine : ¬ mineAt ob W2 Bx
theorem St.below {b ob Bx : Nat} {C : Array Value} {x : S35} {W W2 W3 : World} {acc : List S35} {v : Value} (h : St b ob Bx C x W W2 acc v) (hb : Below W2.heap.size W2 W3) : St b ob Bx C x W W3 acc v :=
  ⟨h.prog.trans (.of_below (blk_lt h.box) hb), blk_below h.box hb, Kd.R_below h.row hb, blk_below h.sit hb, blk_below h.str hb, fun hm => h.notMine ((mineAt_of (World.cell?_of_block ((blk_below h.box hb).trans h.box.symm)) Bx).1 hm)⟩
theorem St.alloc {b ob Bx : Nat} {C : Array Value} {x : S35} {W W2 : World} {acc : List S35} {v : Value} (h : St b ob Bx C x W W2 acc v) (o : Obj) : St b ob Bx C x W (W2.alloc o) acc v := h.below ((Below.refl _ _).alloc (Nat.le_refl _) _)
theorem St.stored {b ob Bx : Nat} {C : Array Value} {x : S35} {W W2 w1 : World} {acc acc1 : List S35} {v v1 : Value} (h : St b ob Bx C x W W2 acc v) (hbo : b < ob) (hR1 : Kd.R k35 35 w1 b (fun _ => True) v1 acc1)
    (hg : W2.grownBy w1 v.ownBlock) (hat : v1.ownBlock = v.ownBlock ∨ ∃ b, v1.ownBlock = some b ∧ W2.heap.size ≤ b) : St b ob Bx C x W (w1.setCell ⟨ob, 0, none⟩ v1) acc1 v1 := by
  obtain ⟨h1, h2, h3⟩ := Prog.stored h.box h.row hR1 (Nat.le_of_lt hbo) hg hat
  obtain ⟨h4, h5⟩ := h1.keep.keep _ _ _ _ h.str h.notMine
  exact ⟨h.prog.trans h1, h2, h3, blk_far (blk_grown h.sit hg (Kd.R_ne h.row h.sit (by decide))) (by show b ≠ ob; omega) _, h4, h5⟩
theorem St.setLast {b ob Bx g cap : Nat} {C : Array Value} {x : S35} {W W2 : World} {l : List S35} {p : S35} (h : St b ob Bx C x W W2 (l ++ [p]) (.slice (some ⟨g, 0, none⟩) (l.length + 1) cap)) (hbo : b < ob) (u : Int) :
    St b ob Bx C x W (W2.setCell ⟨g, l.length * 2 + 1, none⟩ (.int .i64 u)) (l ++ [⟨p.f0, u⟩]) (.slice (some ⟨g, 0, none⟩) (l.length + 1) cap) := by
  obtain ⟨h1, h2, h3⟩ := Prog.setLast h.box h.row (Nat.le_of_lt hbo) u
  obtain ⟨h4, h5⟩ := h1.keep.keep _ _ _ _ h.str h.notMine
  exact ⟨h.prog.trans h1, h2, h3, blk_far h.sit (fun e => Kd.R_ne h.row h.sit (by decide) (by rw [e]; rfl)) _, h4, h5⟩
/-- append(out, p) inside a fence, and inside a round. -/
theorem wpListIn_append35 {F : Fence} {n : Nat} {ops : Array Oper} {rest : List Oper} {o : Oper} {a : Act} {Q : Exit → Act → World → Prop} {W : World} (hg : o.guard = none) (s x : Operand)
    (hop : o.op = Op.call { callee := Callee.builtin Builtin.append, args := #[s, x], argTypes := #[27, 27] }) (base : Nat) (v : Value) (xs : List S35) (p : S35) (hs : a.eval s = v) (hx : a.eval x = .slice (some ⟨W.heap.size, 0, none⟩) 1 1)
    (HO : Kd.R k35 35 W base (fun _ => True) v xs) (hbase : base ≤ W.heap.size) (hl : (xs.length + 1) * 16 ≤ 140737488355328)
    (h : ∀ v1 w1, Kd.R k35 35 w1 base (fun _ => True) v1 (xs ++ [p]) → W.grownBy w1 v.ownBlock → (v1.ownBlock = v.ownBlock ∨ ∃ b, v1.ownBlock = some b ∧ W.heap.size ≤ b) → wpListIn F n Try.prog ops Q rest (a.put o.dst v1) w1) :
    wpListIn F n Try.prog ops Q (o :: rest) a (W.alloc (.cells #[.int .i64 p.f0, .int .i64 p.f1] 35)) := by
  obtain ⟨i0, hi, hz0, hz1, hz2⟩ := info_parts info35
  refine wpListIn_plain hg fun K hK' => ?_
  have hown := R35_own HO
  obtain ⟨v1, w1, hrun, h2, h3, _, hat⟩ := run_append_own_at (P := Try.prog) (W.alloc (.cells #[.int .i64 p.f0, .int .i64 p.f1] 35)) base 27 o.type 35 i0 _ 2 16 Try.underlying27 hi hz0 hz1 hz2 rfl (by decide) v xs.length (cells35 xs) (hown.alloc _) ⟨W.heap.size, 0, none⟩ 1 1 [.int .i64 p.f0, .int .i64 p.f1] rfl
    (by simpa using World.news_of_block (cs := #[.int .i64 p.f0, .int .i64 p.f1]) (t := 35) (fr := (0, 0)) (heap_alloc_new W (.cells #[.int .i64 p.f0, .int .i64 p.f1] 35))) (by intro u hu; simp at hu; rcases hu with rfl | rfl <;> rfl) (by simp only [maxLen]; omega) hl (by simp; omega)
  unfold Oper.wpIn
  refine ⟨?_, ?_⟩
  · simp [Oper.about, hop, resolve, Target.leads, Sem.run_pure]
  · rw [Oper.semAt_plain F _ _ (by rw [hop]; intro c hc'; cases hc')]
    simp [execOp, hop, resolve, invoke, builtin, hs, hx, hrun, Result.andThen]
    refine hK' _ _ (h v1 w1 (R35_mk ?_) (World.grownBy.trans (World.grownBy_alloc W _ _) h3) ?_)
    · have e : cells35 (xs ++ [p]) = cells35 xs ++ [.int .i64 p.f0, .int .i64 p.f1] := by rw [cells35_append]; rfl
      rw [e, show (xs ++ [p]).length = xs.length + 1 by simp]
      exact h2
    · rcases hat with hat | hat
      · exact .inl hat
      · exact .inr ⟨_, hat, by simp⟩
/-- A cut inside a fence (and inside a round): what follows the statement goes on from a relation. -/
theorem wpIn_cutR {F : Fence} {n : Nat} {P : Program} {s : Code} {K : Act → World → Prop} {Q' : Exit → Act → World → Prop} {a : Act} {w : World} (R : Act → World → Prop)
    (first : ∀ J : Act → World → Prop, Aside0 (∀ a' w', R a' w' → J a' w') → s.wpIn F n P (Exit.then J Q') a w) (rest : ∀ a' w', R a' w' → K a' w') : s.wpIn F n P (Exit.then K Q') a w := by
  refine wpIn_mono (first R ⟨fun _ _ h => h⟩) ?_
  intro e a' w' hq
  cases e with
  | normal => exact rest _ _ hq
  | exit id => exact hq
  | goto l => exact hq
  | ret => exact hq
  | panic ch => exact hq
  | outgrown => exact hq
/-- s.stretches(): the sitting is boxed, the function value captures the box. -/
theorem stretches64 (n : Nat) (L long short : Int) (A : Option Addr) (m c : Nat) (w : World) :
    CallsIn Fence.wide n Try.prog 64 #[.agg #[.int .i64 L, .slice A m c, .int .i64 long, .int .i64 short]] w fun e w' => e = .returned (.func (.func 69) #[] #[.pointer (some ⟨w.heap.size, 0, none⟩)]) ∧ w' = w.alloc (.cells #[.int .i64 L, .slice A m c, .int .i64 long, .int .i64 short] 32) := by
  refine callsIn_of_wp Try.func64 rfl trivial ?_ rfl
  simp only [Try.ntmps64, List.size_toArray, List.length_cons, List.length_nil, Nat.reduceAdd, Nat.reduceSub, Array.replicate_succ, Array.replicate_zero, List.push_toArray, List.append_toArray, List.nil_append, List.cons_append]
  gi_wp2
  go_ret
  exact ⟨rfl, rfl⟩
theorem pausesOk_bounds (L : Int) : ∀ (ps : List S35) (last : Int), pausesOk L last ps = true → (∀ p ∈ ps, last < p.f0 ∧ p.f0 < p.f1 ∧ p.f1 ≤ L) ∧ (ps = [] ∨ (ps.length : Int) * 2 ≤ L - last)
  | [], last, _ => ⟨fun p hp => (by cases hp), .inl rfl⟩
  | p :: t, last, h => by
    unfold pausesOk at h
    split at h
    · cases h
    · rename_i hc
      obtain ⟨h1, h2⟩ := pausesOk_bounds L t p.f1 h
      refine ⟨fun q hq => ?_, .inr ?_⟩
      · rcases List.mem_cons.1 hq with rfl | hq
        · omega
        · have := h1 q hq; omega
      · rcases h2 with rfl | h2
        · simp; omega
        · simp only [List.length_cons]; omega
theorem sittingOk_parts {L : Int} {ps : List S35} {long short : Int} (h : sittingOk L ps long short = true) : pausesOk L (-1) ps = true ∧ 1 ≤ L ∧ L ≤ 36000 ∧ 1 ≤ long ∧ long ≤ 1200 ∧ 1 ≤ short ∧ short ≤ long := by
  simp only [sittingOk, Bool.and_eq_true, decide_eq_true_eq] at h
  obtain ⟨⟨⟨h1, h2⟩, h3⟩, h4⟩ := h
  exact ⟨h1, h2.1, h2.2, h3.1, h3.2, h4.1, h4.2⟩
def accT (long short : Int) (pre : List Str) : List S35 := (pre.map (·.1)).foldl (takesStep long short) []
theorem accT_snoc (long short : Int) (pre : List Str) (x : Str) : accT long short (pre ++ [x]) = takesStep long short (accT long short pre) x.1 := by simp [accT]
theorem setLast_length (l : List S35) (v : Int) : (setLast l v).length = l.length := by
  unfold setLast
  cases h : l.getLast? with
  | none => rw [List.getLast?_eq_none_iff.1 h]
  | some p =>
    have : l ≠ [] := by rintro rfl; simp at h
    have := List.length_pos_iff.2 this
    simp; omega
theorem takesStep_length (long short : Int) (hl : 1 ≤ long) (out : List S35) (x : Str) : (takesStep long short out x.1).length ≤ out.length + 36001 := by
  have h1 : ((x.1.f1 - x.1.f0) / long).toNat ≤ 36000 := by
    have h2 : (x.1.f1 - x.1.f0) / long ≤ x.1.f1 - x.1.f0 := Int.ediv_le_self _ (by have := x.2; omega)
    have := x.2
    omega
  unfold takesStep
  split
  · simp [fulls_length]; omega
  · split
    · simp [fulls_length]; omega
    · rw [setLast_length]; simp [fulls_length]; omega
theorem accT_length (long short : Int) (hl : 1 ≤ long) (pre : List Str) : (accT long short pre).length ≤ pre.length * 36001 := by
  have : ∀ (pre : List Str) (acc : List S35), ((pre.map (·.1)).foldl (takesStep long short) acc).length ≤ acc.length + pre.length * 36001 := by
    intro pre
    induction pre with
    | nil => intro acc; simp
    | cons x t ih =>
      intro acc
      have h1 := ih (takesStep long short acc x.1)
      have h2 := takesStep_length long short hl acc x
      simp only [List.map_cons, List.foldl_cons, List.length_cons]
      omega
  simpa [accT] using this pre []
set_option maxHeartbeats 8000000 in
set_option maxRecDepth 100000 in
theorem take_Sitting_takes.calls (a0_0 : Int) (A0_1 : Option Addr) (c0_1 : Nat) (l0_1 : List (S35)) (a0_2 : Int) (a0_3 : Int) (r : List (S35)) (w : World) (hr0_1 : Kd.C k35 w A0_1 l0_1.length l0_1) (hc0_1 : l0_1.length ≤ c0_1) (h : take_Sitting_takes.f a0_0 l0_1 a0_2 a0_3 = some r) :
    Calls Try.prog 52 #[.agg #[.int .i64 a0_0, .slice A0_1 l0_1.length c0_1, .int .i64 a0_2, .int .i64 a0_3]] w fun e w' => ∃ v0_ : Value, e = .returned (v0_) ∧ Kd.R k35 35 w' w.heap.size (fun _ => True) v0_ r ∧ Below w.heap.size w w' := by
  have hok : sittingOk a0_0 l0_1 a0_2 a0_3 = true := by
    unfold take_Sitting_takes.f at h
    split at h
    · assumption
    · cases h
  have hrr : r = takesP a0_0 l0_1 a0_2 a0_3 := by
    unfold take_Sitting_takes.f at h
    rw [if_pos hok] at h
    exact (Option.some.inj h).symm
  clear h
  subst hrr
  obtain ⟨hpo, hL1, hL2, hg1, hg2, hs1, hs2⟩ := sittingOk_parts hok
  obtain ⟨hpb, hpl0⟩ := pausesOk_bounds _ _ _ hpo
  have hpl : l0_1.length ≤ 36000 := by
    rcases hpl0 with rfl | hpl0
    · simp
    · omega
  clear hpl0
  clear hok hpo
  have hu32 := Try.underlying32
  have hu35 := Try.underlying35
  have hu27 := Try.underlying27
  refine (callsIn_wide (n := 5)).1 ?_
  refine callsIn_of_wp_marks Try.func52 rfl trivial ?_ rfl
  simp only [Try.ntmps52, List.size_toArray, List.length_cons, List.length_nil, Nat.reduceAdd, Nat.reduceSub, Array.replicate_succ, Array.replicate_zero, List.push_toArray, List.append_toArray, List.nil_append, List.cons_append]
  gi_wp2_with (refine ⟨trivial, ?_⟩; gi_at_call 64; refine (stretches64 _ a0_0 a0_2 a0_3 A0_1 l0_1.length c0_1 _).mono ?_; rintro e w' ⟨rfl, rfl⟩)
  obtain ⟨w1, hw1⟩ : ∃ w1, w1 = (w.alloc (.cells #[.int .i64 a0_0, .slice A0_1 l0_1.length c0_1, .int .i64 a0_2, .int .i64 a0_3] 32)).alloc (.cells #[.slice none 0 0] 27) := ⟨_, rfl⟩
  obtain ⟨w2, hw2⟩ : ∃ w2, w2 = w1.alloc (.cells #[.int .i64 a0_0, .slice A0_1 l0_1.length c0_1, .int .i64 a0_2, .int .i64 a0_3] 32) := ⟨_, rfl⟩
  rw [← hw1, ← hw2]
  have hz1 : w1.heap.size = w.heap.size + 2 := by rw [hw1]; simp
  have hz2 : w2.heap.size = w.heap.size + 3 := by rw [hw2]; simp [hz1]
  have hB1 : Below w.heap.size w w1 := by rw [hw1]; exact ((Below.refl _ _).alloc (Nat.le_refl _) _).alloc (by simp) _
  have hB2 : Below w.heap.size w w2 := by rw [hw2]; exact hB1.alloc (by omega) _
  have b0 : w2.heap[w.heap.size]? = some (.cells #[.int .i64 a0_0, .slice A0_1 l0_1.length c0_1, .int .i64 a0_2, .int .i64 a0_3] 32 (0, 0)) := by rw [hw2, hw1]; exact blk_alloc (blk_alloc (blk_new _ _) _) _
  have b1 : w2.heap[w.heap.size + 1]? = some (.cells #[.slice none 0 0] 27 (0, 0)) := by
    have h0 := blk_new (w.alloc (.cells #[.int .i64 a0_0, .slice A0_1 l0_1.length c0_1, .int .i64 a0_2, .int .i64 a0_3] 32)) (.cells #[.slice none 0 0] 27)
    rw [hw2, hw1]
    refine blk_alloc ?_ _
    simpa using h0
  have b2 : w2.heap[w.heap.size + 2]? = some (.cells #[.int .i64 a0_0, .slice A0_1 l0_1.length c0_1, .int .i64 a0_2, .int .i64 a0_3] 32 (0, 0)) := by
    have h0 := blk_new w1 (.cells #[.int .i64 a0_0, .slice A0_1 l0_1.length c0_1, .int .i64 a0_2, .int .i64 a0_3] 32)
    rw [hz1] at h0
    rw [hw2]
    exact h0
  clear hw1 hw2
  have hseq : SeqStopsK Fence.wide (5 - 1) Try.prog 69 #[.pointer (some ⟨w.heap.size + 1 + 1, 0, none⟩)] (fun x : Str => #[.agg #[.int .i64 x.1.f0, .int .i64 x.1.f1]]) (KeepT (w.heap.size + 1)) (fun ys => ys.map (·.1) = strP 0 (l0_1 ++ [⟨a0_0, a0_0⟩])) (fun _ => True) (l0_1.length + 1) w2 := by
    intro l J Jx W hW hJ hJx hY h0
    exact stretch_in _ (w.heap.size + 1) (w.heap.size + 1 + 1) l a0_0 a0_2 a0_3 A0_1 c0_1 l0_1 J Jx W hJ hY (blk_below b2 hW) (Kd.C_below hr0_1 (hB2.trans (hW.mono (by omega)))) hc0_1 (by omega) (by omega) ((blk_cell (blk_below b1 hW) 0).trans rfl) (fun p hp => by have := hpb p hp; omega) h0
  refine wpIn_rangeFunc_ownH rfl (by decide) (gf := 69) (lb := #[.pointer (some ⟨w.heap.size + 1 + 1, 0, none⟩)]) rfl trivial (enters_of Try.func69 (by kernel_rfl) rfl)
    hseq (fun h k => h.trans k) (keepT_b (by omega)) (Below.refl _ _) (fun _ => rfl)
    (fun pre W => ∃ v, W.heap[w.heap.size + 1]? = some (.cells #[v] 27 (0, 0)) ∧ Kd.R k35 35 W w.heap.size (fun _ => True) v (accT a0_2 a0_3 pre) ∧ W.heap[w.heap.size]? = some (.cells #[.int .i64 a0_0, .slice A0_1 l0_1.length c0_1, .int .i64 a0_2, .int .i64 a0_3] 32 (0, 0)) ∧ Below w.heap.size w W ∧ FineAt (w.heap.size + 1) W)
    (fun _ _ _ => False) ?own (fun _ _ _ _ _ hs _ _ => hs) ?start
    (fun x a' W => ∃ Bx, W.heap[Bx]? = some (.cells #[.int .i64 x.1.f0, .int .i64 x.1.f1] 35 (0, 0)) ∧ ¬ mineAt (w.heap.size + 1) W Bx ∧ Bx ≠ w.heap.size ∧ (∃ v, W.heap[w.heap.size + 1]? = some (.cells #[v] 27 (0, 0))) ∧ a' = { tmps := #[.agg #[.int .i64 a0_0, .slice A0_1 l0_1.length c0_1, .int .i64 a0_2, .int .i64 a0_3], .pointer (some ⟨w.heap.size, 0, none⟩), .pointer (some ⟨w.heap.size + 1, 0, none⟩), .pointer (some ⟨Bx, 0, none⟩), undef, undef, undef, .agg #[.int .i64 a0_0, .slice A0_1 l0_1.length c0_1, .int .i64 a0_2, .int .i64 a0_3], .func (.func 69) #[] #[.pointer (some ⟨w.heap.size + 1 + 1, 0, none⟩)], .agg #[.int .i64 x.1.f0, .int .i64 x.1.f1], undef, undef, undef, undef, undef, undef, undef, undef, undef, undef, undef, undef, undef, undef, undef, undef, undef, undef, undef, undef, undef, undef, undef, undef, undef, undef, undef, undef, undef, undef, undef, undef, undef, undef, undef, undef, undef, undef, undef, undef, undef, undef, undef, undef, undef, undef, undef, undef, undef, undef, undef, undef, undef, undef, undef, undef, undef, undef, undef, undef, undef, undef, undef, undef, undef, undef], defers := [] }) ?ownA ?assign ?body ?done ?stop
  case own =>
    rintro pre X Y row ⟨v, h1, h2, h3, h4, h5⟩ hg hr
    have hne : ∀ k (cs : Array Value) e fr, X.heap[k]? = some (.cells cs e fr) → some k ≠ row := fun k cs e fr hk he => by
      obtain ⟨_, o, ho, hc⟩ := hr k he.symm
      rw [hk] at ho
      cases ho
      cases hc
    have hc : Y.cell? ⟨w.heap.size + 1, 0, none⟩ = X.cell? ⟨w.heap.size + 1, 0, none⟩ := World.cell?_of_block ((blk_grown h1 hg (hne _ _ _ _ h1)).trans h1.symm)
    refine ⟨v, blk_grown h1 hg (hne _ _ _ _ h1), Kd.R_mono (Kd.R_step (Kd.R_bound h2) (fun k hk hlt => ?_)) (fun _ _ => trivial), blk_grown h3 hg (hne _ _ _ _ h3), h4.grown hg (by have := h4.size; omega) (fun k e => by have := (hr k e).1; omega), h5.of hc hg.size⟩
    obtain ⟨_, _, _, q, _, cells, hcs⟩ := hk
    exact hg.block k hlt (hne _ _ _ _ hcs)
  case start => exact ⟨_, b1, Kd.R_nil _ _ _ _ _, b0, hB2, fun k hk => by
    rcases (mineAt_box b1 k).1 hk with rfl | h
    · omega
    · simp [Value.ownBlock] at h⟩
  case ownA =>
    rintro x a' u X Y row ⟨Bx, h1, h2, h3, ⟨v, hv⟩, h4⟩ hg hr
    have hne : ∀ k (cs : Array Value) e fr, X.heap[k]? = some (.cells cs e fr) → some k ≠ row := fun k cs e fr hk he => by
      obtain ⟨_, o, ho, hc⟩ := hr k he.symm
      rw [hk] at ho
      cases ho
      cases hc
    have hv2 := blk_grown hv hg (hne _ _ _ _ hv)
    have hc : Y.cell? ⟨w.heap.size + 1, 0, none⟩ = X.cell? ⟨w.heap.size + 1, 0, none⟩ := World.cell?_of_block (hv2.trans hv.symm)
    exact ⟨Bx, blk_grown h1 hg (hne _ _ _ _ h1), fun hm => h2 ((mineAt_of hc Bx).1 hm), h3, ⟨v, hv2⟩, h4⟩
  case assign =>
    rintro l pre x W K ⟨v, h1, h2, h3, h4, h5⟩ hK
    have hlt := blk_lt h1
    have hlt0 := blk_lt h3
    have hc : (W.alloc (.cells #[.int .i64 x.1.f0, .int .i64 x.1.f1] 35)).cell? ⟨w.heap.size + 1, 0, none⟩ = W.cell? ⟨w.heap.size + 1, 0, none⟩ := World.cell?_of_block ((blk_alloc h1 _).trans h1.symm)
    gi_wp2
    exact hK _ _ ((KeepsOthers.alloc _ _).from _) (Prog.alloc W hlt _).keep ⟨v, blk_alloc h1 _, Kd.R_alloc h2 _, blk_alloc h3 _, h4.alloc (by omega) _, h5.of hc (by simp)⟩ ⟨W.heap.size, blk_new W _, fun hm => by have := h5 _ ((mineAt_of hc _).1 hm); omega, by omega, ⟨v, blk_alloc h1 _⟩, rfl⟩
  case body =>
    rintro l pre x a' W hl ⟨rr, hrr⟩ ⟨v, h1, h2, h3, h4, h5⟩ ⟨Bx, hx, hmx, hxn, -, rfl⟩ hlt
    have hxb := x.2
    have hlen := accT_length a0_2 a0_3 hg1 pre
    have hpx : pre.length ≤ 36001 := by omega
    have hlong : ∀ X : World, Calls Try.prog 61 #[.agg #[.int .i64 x.1.f0, .int .i64 x.1.f1]] X fun e w' => e = .returned (.int .i64 (x.1.f1 - x.1.f0)) ∧ Below X.heap.size X w' := fun X => take_Span_long.calls _ _ _ X (by rw [take_Span_long.f, IntWalk.wrap64_in _ (by omega)])
    have c0 : W.cell? ⟨w.heap.size, 0, none⟩ = some (.int .i64 a0_0) := (blk_cell h3 0).trans rfl
    have c2 : W.cell? ⟨w.heap.size, 2, none⟩ = some (.int .i64 a0_2) := (blk_cell h3 2).trans rfl
    have c3 : W.cell? ⟨w.heap.size, 3, none⟩ = some (.int .i64 a0_3) := (blk_cell h3 3).trans rfl
    have x0 : W.cell? ⟨Bx, 0, none⟩ = some (.int .i64 x.1.f0) := (blk_cell hx 0).trans rfl
    have x1 : W.cell? ⟨Bx, 1, none⟩ = some (.int .i64 x.1.f1) := (blk_cell hx 1).trans rfl
    gi_wp2_with fail
    have hmo : Try.prog.follows .mixedOrders = true := by kernel_rfl
    refine wpIn_cutR (fun a' w' => Below W.heap.size W w' ∧ a' = ({ tmps := #[.agg #[.int .i64 a0_0, .slice A0_1 l0_1.length c0_1, .int .i64 a0_2, .int .i64 a0_3], .pointer (some ⟨w.heap.size, 0, none⟩), .pointer (some ⟨w.heap.size + 1, 0, none⟩), .pointer (some ⟨Bx, 0, none⟩), .int .i64 ((x.1.f1 - x.1.f0) / a0_2), undef, undef, .agg #[.int .i64 a0_0, .slice A0_1 l0_1.length c0_1, .int .i64 a0_2, .int .i64 a0_3], .func (.func 69) #[] #[.pointer (some ⟨w.heap.size + 1 + 1, 0, none⟩)], .agg #[.int .i64 x.1.f0, .int .i64 x.1.f1], .agg #[.int .i64 x.1.f0, .int .i64 x.1.f1], .int .i64 (x.1.f1 - x.1.f0), .pointer (some ⟨w.heap.size, 2, none⟩), .int .i64 a0_2, .int .i64 ((x.1.f1 - x.1.f0) / a0_2), undef, undef, undef, undef, undef, undef, undef, undef, undef, undef, undef, undef, undef, undef, undef, undef, undef, undef, undef, undef, undef, undef, undef, undef, undef, undef, undef, undef, undef, undef, undef, undef, undef, undef, undef, undef, undef, undef, undef, undef, undef, undef, undef, undef, undef, undef, undef, undef, undef, undef, undef, undef, undef, undef, undef, undef, undef, undef, undef, undef, undef], defers := [] } : Act)) ?first ?rest
    case first =>
      intro J HJ
      gi_region_with_o (refine ⟨trivial, ?_⟩; gi_at_call 61; refine (CallsIn.inRound l (callsIn_wide.2 (hlong _))).mono ?_; rintro e w' ⟨rfl, hbb⟩; have c2' : w'.cell? ⟨w.heap.size, 2, none⟩ = some (.int .i64 a0_2) := (hbb.cell (p := ⟨w.heap.size, 2, none⟩) (blk_lt h3)).trans c2)
      all_goals exact HJ.out _ _ ⟨⟨hbb.os, hbb.tape, hbb.output, hbb.size, hbb.block⟩, rfl⟩
    case rest =>
      rintro a' W2 ⟨hb2, rfl⟩
      have HS : Aside0 (St w.heap.size (w.heap.size + 1) Bx #[.int .i64 a0_0, .slice A0_1 l0_1.length c0_1, .int .i64 a0_2, .int .i64 a0_3] x.1 W W2 (accT a0_2 a0_3 pre) v) := ⟨St.below ⟨Prog.refl _ _, h1, h2, h3, hx, hmx⟩ hb2⟩
      clear c0 c2 c3 x0 x1 hb2 hrr hseq b0 b1 b2 hB1 hB2 hr0_1
      have FIN : Aside0 (∀ (W' : World) (acc' : List S35) (v' : Value), St w.heap.size (w.heap.size + 1) Bx #[.int .i64 a0_0, .slice A0_1 l0_1.length c0_1, .int .i64 a0_2, .int .i64 a0_3] x.1 W W' acc' v' → accT a0_2 a0_3 (pre ++ [x]) = acc' →
          KeepsFrom w2.heap.size W W' ∧ KeepT (w.heap.size + 1) W W' ∧ ∃ v, W'.heap[w.heap.size + 1]? = some (.cells #[v] 27 (0, 0)) ∧ Kd.R k35 35 W' w.heap.size (fun _ => True) v (accT a0_2 a0_3 (pre ++ [x])) ∧ W'.heap[w.heap.size]? = some (.cells #[.int .i64 a0_0, .slice A0_1 l0_1.length c0_1, .int .i64 a0_2, .int .i64 a0_3] 32 (0, 0)) ∧ Below w.heap.size w W' ∧ FineAt (w.heap.size + 1) W') := ⟨fun W' acc' v' hS e => by
        have hm : ∀ k, mineAt (w.heap.size + 1) W k → w.heap.size ≤ k := fun k hk => by
          rcases (mineAt_box h1 k).1 hk with rfl | hk
          · omega
          · exact own_base (R35_own h2) k hk
        obtain ⟨hb, _⟩ := hS.prog.below (b := w.heap.size) (by omega) (blk_lt h1) h5 hm
        exact ⟨hS.prog.others.from _, hS.prog.keep, v', hS.box, e ▸ hS.row, hS.sit, h4.trans hb, hS.prog.keep.fine h5⟩⟩
      clear h4 h5 h1 h2 h3 hx hmx
      obtain ⟨m, hm⟩ : ∃ m : Nat, (m : Int) = (x.1.f1 - x.1.f0) / a0_2 := ⟨((x.1.f1 - x.1.f0) / a0_2).toNat, Int.toNat_of_nonneg (Int.ediv_nonneg (by omega) (by omega))⟩
      have hmul : (m : Int) * a0_2 ≤ x.1.f1 - x.1.f0 := by rw [hm]; exact Int.ediv_mul_le _ (by omega)
      have hm36 : (m : Int) ≤ 36000 := by rw [hm]; have := Int.ediv_le_self a0_2 (show 0 ≤ x.1.f1 - x.1.f0 by omega); omega
      have HM := Aside0.mk hm
      rw [← hm]
      clear hm
      gi_wp2
      gi_loopw [16] (fun v16 wr => ∃ (k : Nat) (v : Value), k ≤ m ∧ v16 = .int .i64 k ∧ Aside0 (St w.heap.size (w.heap.size + 1) Bx #[.int .i64 a0_0, .slice A0_1 l0_1.length c0_1, .int .i64 a0_2, .int .i64 a0_3] x.1 W wr (accT a0_2 a0_3 pre ++ fulls x.1.f0 a0_2 k) v)) (fun v16 _ => m - (intOf v16).toNat)
      case atStart => exact ⟨0, v, Nat.zero_le _, rfl, by simpa [fulls] using HS⟩
      case round =>
        clear HS
        obtain ⟨k, v, hk, rfl, HS⟩ := hrel
        have hob1 : wr.cell? ⟨w.heap.size + 1, 0, none⟩ = some v := (blk_cell HS.out.box 0).trans rfl
        have HSb : Aside0 (w.heap.size ≤ wr.heap.size) := ⟨Nat.le_of_lt (blk_lt HS.out.sit)⟩
        have c2 : wr.cell? ⟨w.heap.size, 2, none⟩ = some (.int .i64 a0_2) := (blk_cell HS.out.sit 2).trans rfl
        have c3 : wr.cell? ⟨w.heap.size, 3, none⟩ = some (.int .i64 a0_3) := (blk_cell HS.out.sit 3).trans rfl
        have x0 : wr.cell? ⟨Bx, 0, none⟩ = some (.int .i64 x.1.f0) := (blk_cell HS.out.str 0).trans rfl
        have x1 : wr.cell? ⟨Bx, 1, none⟩ = some (.int .i64 x.1.f1) := (blk_cell HS.out.str 1).trans rfl
        by_cases hlt : k < m
        · have hk1 : ((k : Int) + 1) * a0_2 ≤ (m : Int) * a0_2 := Int.mul_le_mul_of_nonneg_right (by omega) (by omega)
          have hk2 : ((k : Int) + 1) * a0_2 = (k : Int) * a0_2 + a0_2 := by rw [Int.add_mul, Int.one_mul]
          have hk0 : 0 ≤ (k : Int) * a0_2 := Int.mul_nonneg (by omega) (by omega)
          have hk3 : 0 ≤ ((k : Int) + 1) * a0_2 := by omega
          have hk4 : ((k : Int) + 1) * a0_2 ≤ 36000 := by omega
          have hk5 : (k : Int) * a0_2 ≤ 36000 := by omega
          clear hk1 hk2
          have hfl : (accT a0_2 a0_3 pre ++ fulls x.1.f0 a0_2 k).length ≤ 1296072002 := by rw [List.length_append, fulls_length]; omega
          obtain ⟨acc, hacc⟩ : ∃ acc, accT a0_2 a0_3 pre ++ fulls x.1.f0 a0_2 k = acc := ⟨_, rfl⟩
          rw [hacc] at HS hfl
          have HA := Aside0.mk hacc
          clear hacc
          gi_wp2_with (gi_at_builtin; refine wpListIn_append35 rfl (.tmp 19) (.tmp 36) rfl w.heap.size v _ ⟨x.1.f0 + k * a0_2, x.1.f0 + (k + 1) * a0_2⟩ rfl rfl HS.out.row HSb.out (by omega) ?_; intro v1 w3 hv1 hg3 hat3; obtain ⟨g3, cap3, rfl, _⟩ := R35_snoc hv1; have hbx := blk_grown HS.out.box hg3 (Kd.R_ne HS.out.row HS.out.box (by decide)); have hc3 := (blk_cell hbx 0).trans rfl; have hf3 := blk_frozen hbx 0)
          have HS' := Aside0.mk (HS.out.stored (by omega) hv1 hg3 hat3)
          go_roundw
          case rel => exact ⟨k + 1, _, by omega, by go_num, ⟨by rw [fulls_succ, ← List.append_assoc, HA.out]; exact HS'.out⟩⟩
          case measure => simp [intOf]; omega
        · obtain rfl : k = m := by omega
          clear hob1 hk hlt
          have hk0 : 0 ≤ (k : Int) * a0_2 := Int.mul_nonneg (by omega) (by omega)
          have hfl : (accT a0_2 a0_3 pre ++ fulls x.1.f0 a0_2 k).length ≤ 1296072002 := by rw [List.length_append, fulls_length]; omega
          have hfk : 0 < k → (accT a0_2 a0_3 pre ++ fulls x.1.f0 a0_2 k) ≠ [] := fun h0 h1 => by
            have := congrArg List.length h1
            rw [List.length_append, fulls_length] at this
            simp at this
            omega
          obtain ⟨acc, hacc⟩ : ∃ acc, accT a0_2 a0_3 pre ++ fulls x.1.f0 a0_2 k = acc := ⟨_, rfl⟩
          rw [hacc] at HS hfl
          have HFK := Aside0.mk (hacc ▸ hfk)
          have HA := Aside0.mk hacc
          clear hacc hfk
          have hq1 : 0 ≤ x.1.f0 + (k : Int) * a0_2 := by omega
          have hq2 : x.1.f0 + (k : Int) * a0_2 ≤ x.1.f1 := by omega
          have hlong2 : ∀ X : World, Calls Try.prog 61 #[.agg #[.int .i64 (x.1.f0 + (k : Int) * a0_2), .int .i64 x.1.f1]] X fun e w' => e = .returned (.int .i64 (x.1.f1 - (x.1.f0 + (k : Int) * a0_2))) ∧ Below X.heap.size X w' := fun X => take_Span_long.calls _ _ _ X (by rw [take_Span_long.f, IntWalk.wrap64_in _ (by omega)])
          have HST : Aside0 (∀ w4 : World, Below (wr.alloc (.cells #[.int .i64 (x.1.f0 + (k : Int) * a0_2), .int .i64 x.1.f1] 35)).heap.size (wr.alloc (.cells #[.int .i64 (x.1.f0 + (k : Int) * a0_2), .int .i64 x.1.f1] 35)) w4 → Aside0 (St w.heap.size (w.heap.size + 1) Bx #[.int .i64 a0_0, .slice A0_1 l0_1.length c0_1, .int .i64 a0_2, .int .i64 a0_3] x.1 W w4 acc v) ∧ Aside0 (w4.heap[wr.heap.size]? = some (.cells #[.int .i64 (x.1.f0 + (k : Int) * a0_2), .int .i64 x.1.f1] 35 (0, 0)))) := ⟨fun w4 hb => ⟨⟨(HS.out.alloc _).below hb⟩, ⟨blk_below (blk_new wr _) hb⟩⟩⟩
          by_cases d1 : x.1.f1 - (x.1.f0 + (k : Int) * a0_2) = 0
          · have HE : Aside0 (accT a0_2 a0_3 (pre ++ [x]) = acc) := ⟨by rw [accT_snoc, takesStep, ← HM.out, if_pos d1, Int.toNat_natCast, HA.out]⟩
            have d1b : (x.1.f1 - (x.1.f0 + (k : Int) * a0_2) == 0) = true := by rw [d1]; rfl
            clear d1
            gi_wp2_with (refine ⟨trivial, ?_⟩; gi_at_call 61; refine (CallsIn.inRound l (callsIn_wide.2 (hlong2 _))).mono ?_; rintro e w4 ⟨rfl, hbb⟩; obtain ⟨HS4, HB4⟩ := HST.out w4 hbb)
            exact FIN.out _ _ _ HS4.out HE.out
          · have d1b : (x.1.f1 - (x.1.f0 + (k : Int) * a0_2) == 0) = false := by simpa using d1
            have hobs : ∀ w4 : World, Aside0 (St w.heap.size (w.heap.size + 1) Bx #[.int .i64 a0_0, .slice A0_1 l0_1.length c0_1, .int .i64 a0_2, .int .i64 a0_3] x.1 W w4 acc v) → Aside0 (w4.heap[wr.heap.size]? = some (.cells #[.int .i64 (x.1.f0 + (k : Int) * a0_2), .int .i64 x.1.f1] 35 (0, 0))) →
                w4.cell? ⟨w.heap.size, 3, none⟩ = some (.int .i64 a0_3) ∧ w4.cell? ⟨wr.heap.size, 0, none⟩ = some (.int .i64 (x.1.f0 + (k : Int) * a0_2)) ∧ w4.cell? ⟨wr.heap.size, 1, none⟩ = some (.int .i64 x.1.f1) ∧ w4.cell? ⟨w.heap.size + 1, 0, none⟩ = some v ∧ w4.cell? ⟨Bx, 1, none⟩ = some (.int .i64 x.1.f1) := fun w4 hs hb =>
              ⟨(blk_cell hs.out.sit 3).trans rfl, (blk_cell hb.out 0).trans rfl, (blk_cell hb.out 1).trans rfl, (blk_cell hs.out.box 0).trans rfl, (blk_cell hs.out.str 1).trans rfl⟩
            have HOB := Aside0.mk hobs
            clear hobs
            have HDR : Aside0 (∀ w4 w5 : World, Aside0 (St w.heap.size (w.heap.size + 1) Bx #[.int .i64 a0_0, .slice A0_1 l0_1.length c0_1, .int .i64 a0_2, .int .i64 a0_3] x.1 W w4 acc v) → Aside0 (w4.heap[wr.heap.size]? = some (.cells #[.int .i64 (x.1.f0 + (k : Int) * a0_2), .int .i64 x.1.f1] 35 (0, 0))) → Below w4.drew.heap.size w4.drew w5 →
                Aside0 (St w.heap.size (w.heap.size + 1) Bx #[.int .i64 a0_0, .slice A0_1 l0_1.length c0_1, .int .i64 a0_2, .int .i64 a0_3] x.1 W w5 acc v) ∧ Aside0 (w5.heap[wr.heap.size]? = some (.cells #[.int .i64 (x.1.f0 + (k : Int) * a0_2), .int .i64 x.1.f1] 35 (0, 0)))) := ⟨fun w4 w5 hs hb hbb => by
              have hb2 : Below w4.heap.size w4 w5 := ⟨hbb.os, hbb.tape, hbb.output, hbb.size, hbb.block⟩
              exact ⟨⟨hs.out.below hb2⟩, ⟨blk_below hb.out hb2⟩⟩⟩
            by_cases d2 : a0_3 ≤ x.1.f1 - (x.1.f0 + (k : Int) * a0_2)
            · have HE : Aside0 (accT a0_2 a0_3 (pre ++ [x]) = acc ++ [⟨x.1.f0 + (k : Int) * a0_2, x.1.f1⟩]) := ⟨by rw [accT_snoc, takesStep, ← HM.out, if_neg d1, if_pos (Or.inl d2), Int.toNat_natCast, HA.out]⟩
              have d2b : decide (a0_3 ≤ x.1.f1 - (x.1.f0 + (k : Int) * a0_2)) = true := decide_eq_true d2
              gi_wp2_with (refine ⟨trivial, ?_⟩; gi_at_call 61; refine (CallsIn.inRound l (callsIn_wide.2 (hlong2 _))).mono ?_; rintro e w4 ⟨rfl, hbb⟩; obtain ⟨HS4, HB4⟩ := HST.out w4 hbb; obtain ⟨c3', y0, y1, hobc, xx1⟩ := HOB.out w4 HS4 HB4; clear hbb)
              gi_region_with_o (refine ⟨trivial, ?_⟩; gi_at_call 61; refine (CallsIn.inRound l (callsIn_wide.2 (hlong2 _))).mono ?_; rintro e w5 ⟨rfl, hbb⟩; obtain ⟨HS5, HB5⟩ := HDR.out w4 w5 HS4 HB4 hbb; obtain ⟨c3'', z0, z1, hobc', xx1'⟩ := HOB.out w5 HS5 HB5; clear hbb)
              all_goals
                gi_wp2_with (gi_at_builtin; refine wpListIn_append35 rfl (.tmp 71) (.tmp 73) rfl w.heap.size v _ ⟨x.1.f0 + (k : Int) * a0_2, x.1.f1⟩ rfl rfl HS5.out.row (Nat.le_of_lt (blk_lt HS5.out.sit)) (by omega) ?_; intro v1 w6 hv1 hg3 hat3; obtain ⟨g3, cap3, rfl, _⟩ := R35_snoc hv1; have hbx := blk_grown HS5.out.box hg3 (Kd.R_ne HS5.out.row HS5.out.box (by decide)); have hc3 := (blk_cell hbx 0).trans rfl; have hf3 := blk_frozen hbx 0)
                exact FIN.out _ _ _ (HS5.out.stored (by omega) hv1 hg3 hat3) HE.out
            · have d2b : decide (a0_3 ≤ x.1.f1 - (x.1.f0 + (k : Int) * a0_2)) = false := decide_eq_false d2
              by_cases d3 : (k : Int) = 0
              · have d3b : ((k : Int) == 0) = true := by rw [d3]; rfl
                have HE : Aside0 (accT a0_2 a0_3 (pre ++ [x]) = acc ++ [⟨x.1.f0 + (k : Int) * a0_2, x.1.f1⟩]) := ⟨by rw [accT_snoc, takesStep, ← HM.out, if_neg d1, if_pos (Or.inr d3), Int.toNat_natCast, HA.out]⟩
                clear d3 d1 d2
                gi_wp2_with (refine ⟨trivial, ?_⟩; gi_at_call 61; refine (CallsIn.inRound l (callsIn_wide.2 (hlong2 _))).mono ?_; rintro e w4 ⟨rfl, hbb⟩; obtain ⟨HS4, HB4⟩ := HST.out w4 hbb; obtain ⟨c3', y0, y1, hobc, xx1⟩ := HOB.out w4 HS4 HB4; clear hbb)
                gi_region_with_o (refine ⟨trivial, ?_⟩; gi_at_call 61; refine (CallsIn.inRound l (callsIn_wide.2 (hlong2 _))).mono ?_; rintro e w5 ⟨rfl, hbb⟩; obtain ⟨HS5, HB5⟩ := HDR.out w4 w5 HS4 HB4 hbb; obtain ⟨c3'', z0, z1, hobc', xx1'⟩ := HOB.out w5 HS5 HB5; clear hbb)
                all_goals
                  gi_wp2_with (gi_at_builtin; refine wpListIn_append35 rfl (.tmp 71) (.tmp 73) rfl w.heap.size v _ ⟨x.1.f0 + (k : Int) * a0_2, x.1.f1⟩ rfl rfl HS5.out.row (Nat.le_of_lt (blk_lt HS5.out.sit)) (by omega) ?_; intro v1 w6 hv1 hg3 hat3; obtain ⟨g3, cap3, rfl, _⟩ := R35_snoc hv1; have hbx := blk_grown HS5.out.box hg3 (Kd.R_ne HS5.out.row HS5.out.box (by decide)); have hc3 := (blk_cell hbx 0).trans rfl; have hf3 := blk_frozen hbx 0)
                  exact FIN.out _ _ _ (HS5.out.stored (by omega) hv1 hg3 hat3) HE.out
              · have d3b : ((k : Int) == 0) = false := by simpa using d3
                obtain ⟨acc0, p, rfl⟩ : ∃ acc0 p, acc = acc0 ++ [p] := by
                  rcases List.eq_nil_or_concat acc with h | ⟨l, b, h⟩
                  · exact absurd h (HFK.out (by omega))
                  · exact ⟨l, b, by simpa using h⟩
                obtain ⟨g, cap, rfl, hge⟩ := R35_snoc HS.out.row
                have HE : Aside0 (accT a0_2 a0_3 (pre ++ [x]) = acc0 ++ [⟨p.f0, x.1.f1⟩]) := ⟨by rw [accT_snoc, takesStep, ← HM.out, if_neg d1, if_neg (by rintro (h | h) <;> omega), Int.toNat_natCast, HA.out]; simp [Pr.setLast]⟩
                have hal : acc0.length ≤ 1296072002 := by simp at hfl; omega
                clear d1 d2 hfl
                gi_wp2_with (refine ⟨trivial, ?_⟩; gi_at_call 61; refine (CallsIn.inRound l (callsIn_wide.2 (hlong2 _))).mono ?_; rintro e w4 ⟨rfl, hbb⟩; obtain ⟨HS4, HB4⟩ := HST.out w4 hbb; obtain ⟨c3', y0, y1, hobc, xx1⟩ := HOB.out w4 HS4 HB4; clear hbb)
                gi_region_with_o (refine ⟨trivial, ?_⟩; gi_at_call 61; refine (CallsIn.inRound l (callsIn_wide.2 (hlong2 _))).mono ?_; rintro e w5 ⟨rfl, hbb⟩; obtain ⟨HS5, HB5⟩ := HDR.out w4 w5 HS4 HB4 hbb; obtain ⟨c3'', z0, z1, hobc', xx1'⟩ := HOB.out w5 HS5 HB5; clear hbb)
                all_goals
                  obtain ⟨cells, hcs⟩ := own_typed (R35_own HS5.out.row) g rfl
                  have hf3 := blk_frozen hcs (acc0.length * 2 + 1)
                  have hcc : w5.cell? ⟨g, acc0.length * 2 + 1, none⟩ = some (.int .i64 p.f1) := by
                    obtain ⟨A2, c2, he, _, hC⟩ := Kd.R_reads HS5.out.row
                    injection he with he1 _ _
                    rw [← he1] at hC
                    obtain ⟨ad, e, _, hx1⟩ := at35 hC acc0.length (by simp)
                    cases e
                    simpa [add_plain] using hx1
                  gi_wp2
                  exact FIN.out _ _ _ (HS5.out.setLast (by omega) _) HE.out
  case done =>
    rintro D ys W hD hys ⟨v, h1, h2, h3, h4, h5⟩ hK
    have hc := (blk_cell h1 0).trans rfl
    have hf := blk_frozen h1 0
    obtain ⟨A, c, rfl⟩ := Kd.R_slice h2
    have hDn : D ≠ w.heap.size + 1 := by omega
    obtain ⟨X, hX⟩ : ∃ X, X = W.setCell ⟨w.heap.size + 1, 0, none⟩ (.slice A (accT a0_2 a0_3 ys).length c) := ⟨_, rfl⟩
    have hKX : X.heap[D]? = some (.deferred (some [])) := by rw [hX]; exact (Below.heap_setCell _ _ _ _ hDn).trans hK
    have h1X : X.heap[w.heap.size + 1]? = some (.cells #[.slice A (accT a0_2 a0_3 ys).length c] 27 (0, 0)) := by rw [hX]; simpa using blk_set h1 0 (.slice A (accT a0_2 a0_3 ys).length c)
    have h2X : Kd.R k35 35 X w.heap.size (fun _ => True) (.slice A (accT a0_2 a0_3 ys).length c) (accT a0_2 a0_3 ys) := by rw [hX]; exact Kd.R_set h2 h1 (by decide) 0 _
    have h4X : Below w.heap.size w X := by rw [hX]; exact h4.setCell (p := ⟨w.heap.size + 1, 0, none⟩) (by show w.heap.size ≤ w.heap.size + 1; omega) _
    have HX := Aside0.mk hX
    clear hX
    gi_wp2
    rw [← HX.out]
    refine ⟨by simp, .inl ⟨_, _, rfl, run_takeDeferred hKX, ?_⟩⟩
    have hP : (X.putObj D (.deferred none)).heap[w.heap.size + 1]? = some (.cells #[.slice A (accT a0_2 a0_3 ys).length c] 27 (0, 0)) := (World.putObj_heap_other (by omega)).trans h1X
    have hcP : (X.putObj D (.deferred none)).cell? ⟨w.heap.size + 1, 0, none⟩ = some (.slice A (accT a0_2 a0_3 ys).length c) := (blk_cell hP 0).trans rfl
    have hu27' := Try.underlying27
    refine ⟨.slice A (accT a0_2 a0_3 ys).length c, (by simp [results, Try.results52, go_sem, hcP]), _, rfl, ?_, ?_⟩
    · have e : takesP a0_0 l0_1 a0_2 a0_3 = accT a0_2 a0_3 ys := by rw [takesP, accT, hys]
      rw [e]
      refine Kd.R_mono (Kd.R_step (Kd.R_bound h2X) (fun k hk hlt => ?_)) (fun _ _ => trivial)
      obtain ⟨_, _, _, q, _, cells, hcs⟩ := hk
      exact World.putObj_heap_other (fun e => by rw [e, hKX] at hcs; cases hcs)
    · exact h4X.trans (belowK_b (w := w2) (by omega) X D _ _ (by omega) hKX rfl rfl)
  case stop =>
    rintro D c pre W _ _ h _
    exact h.elim
end Go.Proofs.Ytillieimgjdpbaa.Pr
