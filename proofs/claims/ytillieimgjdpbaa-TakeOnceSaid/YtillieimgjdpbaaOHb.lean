/- Contracts by hand: slices.Clone. -/
import Derived.Test.YtillieimgjdpbaaOPr2
import Derived.WalkMore
import Derived.WalkSpells
import Derived.Outline
namespace Go.Proofs.Ytillieimgjdpbaa.Pr
open Go.RowKit Go.Proofs.YtillieimgjdpbaaW.PrintWords Go.Proofs.YtillieimgjdpbaaW.PrintLast Go.Proofs.YtillieimgjdpbaaW.PrintMore
set_option linter.unusedVariables false
set_option linter.unusedSimpArgs false
/-- An empty row of the call's own, just made. -/
theorem R_empty {α : Type} (d : Kd α) (e : Nat) (W : World) (base : Nat) (h : base ≤ W.heap.size) (ok : Nat → Prop) (hok : ok W.heap.size) : d.R e (W.alloc (.cells #[] e)) base ok (.slice (some ⟨W.heap.size, 0, none⟩) 0 0) [] := by
  refine ⟨fun k hk => ?_, [], ⟨by simp, .inr ⟨W.heap.size, 0, #[], rfl, h, heap_alloc_new W _, Nat.le_refl _, by simp [maxLen], by simp, by simp⟩⟩, Reps.none _ _⟩
  have : W.heap.size = k := by simpa [Value.ownBlock] using hk
  exact this ▸ hok
set_option maxHeartbeats 2000000 in
set_option maxRecDepth 100000 in
theorem clone35 (A : Option Addr) (c : Nat) (l : List S35) (w : World) (hr : Kd.C k35 w A l.length l) (hc : l.length ≤ c) (hb : l.length * 16 ≤ 140737488355328) :
    Calls Try.prog 70 #[.slice A l.length c] w fun e w' => ∃ v : Value, e = .returned v ∧ Kd.R k35 35 w' w.heap.size (fun _ => True) v l ∧ Below w.heap.size w w' := by
  have heq := fun W : World => Lib.run_eql_slice_nil W 27 35 A l.length c 0 0 Try.underlying27
  have HC := Kd.C_below hr ((Below.refl w.heap.size w).alloc (Nat.le_refl _) (.cells #[] 35))
  have HR := Aside0.mk hr
  clear hr
  go_enter Try.func70, Try.ntmps70
  cases A with
  | none =>
    have hl : l.length = 0 := by
      rcases Nat.eq_zero_or_pos l.length with h | h
      · exact h
      · obtain ⟨ad, h2, _⟩ := HR.out.2.2 h
        cases h2
    have hn := Aside0.mk (List.eq_nil_of_length_eq_zero hl)
    clear hl
    go_wp2
    go_ret
    exact ⟨_, rfl, by rw [hn.out]; exact Kd.R_nil _ _ _ _ _, Below.refl _ _⟩
  | some ad =>
    go_wp2_with (at_builtin; refine Kd.R_append_rows k35 (Rr := k35.K (w.alloc (.cells #[] 35))) (w0 := w) w.heap.size rfl (.tmp 5) (.tmp 6) 27 35 (.agg #[(.int .i64 0), (.int .i64 0)]) 16 rfl Try.underlying27 info35 rfl (by decide) (by decide) (.slice (some ⟨w.heap.size, 0, none⟩) 0 0) [] l (some ad) l.length c (fun _ => True) (fun k => k ≠ w.heap.size) rfl rfl (R_empty k35 35 w w.heap.size (Nat.le_refl _) _ trivial) HC (by intro x cs hx; obtain rfl := k35_open hx; exact k35_mkM _ _ _ x) (fun k hk => ⟨trivial, fun h => hk (by simpa [Value.ownBlock] using h)⟩) (fun _ _ => trivial) ((Below.refl _ _).alloc (Nat.le_refl _) _) (by simp) (by simpa using hb) ?_; intro v1 w1 h1 h2 _ _)
    go_ret
    exact ⟨_, rfl, h1, h2⟩
set_option maxHeartbeats 2000000 in
set_option maxRecDepth 100000 in
theorem clone3 (A : Option Addr) (c : Nat) (l : List Int) (w : World) (hr : Kd.C (Kd.int .i64) w A l.length l) (hc : l.length ≤ c) (hb : l.length * 8 ≤ 140737488355328) :
    Calls Try.prog 56 #[.slice A l.length c] w fun e w' => ∃ v : Value, e = .returned v ∧ Kd.R (Kd.int .i64) 3 w' w.heap.size (fun _ => True) v l ∧ Below w.heap.size w w' := by
  have heq := fun W : World => Lib.run_eql_slice_nil W 46 3 A l.length c 0 0 Try.underlying46
  have HC := Kd.C_below hr ((Below.refl w.heap.size w).alloc (Nat.le_refl _) (.cells #[] 3))
  have HR := Aside0.mk hr
  clear hr
  go_enter Try.func56, Try.ntmps56
  cases A with
  | none =>
    have hl : l.length = 0 := by
      rcases Nat.eq_zero_or_pos l.length with h | h
      · exact h
      · obtain ⟨ad, h2, _⟩ := HR.out.2.2 h
        cases h2
    have hn := Aside0.mk (List.eq_nil_of_length_eq_zero hl)
    clear hl
    go_wp2
    go_ret
    exact ⟨_, rfl, by rw [hn.out]; exact Kd.R_nil _ _ _ _ _, Below.refl _ _⟩
  | some ad =>
    go_wp2_with (at_builtin; refine Kd.R_append_rows (Kd.int .i64) (Rr := (Kd.int .i64).K (w.alloc (.cells #[] 3))) (w0 := w) w.heap.size rfl (.tmp 5) (.tmp 6) 46 3 (.int .i64 0) 8 rfl Try.underlying46 info3 rfl (by decide) (by decide) (.slice (some ⟨w.heap.size, 0, none⟩) 0 0) [] l (some ad) l.length c (fun _ => True) (fun k => k ≠ w.heap.size) rfl rfl (R_empty (Kd.int .i64) 3 w w.heap.size (Nat.le_refl _) _ trivial) HC (by intro x cs hx; exact hx) (fun k hk => ⟨trivial, fun h => hk (by simpa [Value.ownBlock] using h)⟩) (fun _ _ => trivial) ((Below.refl _ _).alloc (Nat.le_refl _) _) (by simp) (by simpa using hb) ?_; intro v1 w1 h1 h2 _ _)
    go_ret
    exact ⟨_, rfl, h1, h2⟩
end Go.Proofs.Ytillieimgjdpbaa.Pr
