/- Plain laws of a sitting that is cut behind one of its takes. -/
import Derived.Test.YtillieimgjdpbaaMHu
import Derived.Test.YtillieimgjdpbaaMHh
namespace Go.Proofs.Ytillieimgjdpbaa.Pr
open Go.RowKit Go.Proofs.YtillieimgjdpbaaW.PrintWords Go.Proofs.YtillieimgjdpbaaW.PrintLast Go.Proofs.YtillieimgjdpbaaW.PrintMore
set_option linter.unusedVariables false
set_option linter.unusedSimpArgs false
def hasP (s : Int) (t : S35) : Bool := decide (t.f0 ≤ s) && decide (s < t.f1)
set_option maxHeartbeats 2000000 in
theorem has40 (t : S35) (s : Int) (w : World) : Calls Try.prog 40 #[.agg #[.int .i64 t.f0, .int .i64 t.f1], .int .i64 s] w fun e w' => e = .returned (.bool (hasP s t)) ∧ Below w.heap.size w w' := by
  have HB := Aside0.mk ((Below.refl w.heap.size w).alloc (Nat.le_refl _) (.cells #[.int .i64 t.f0, .int .i64 t.f1] 35))
  by_cases h1 : t.f0 ≤ s
  · go_enter Try.func40, Try.ntmps40
    go_wp2_with fail
    go_ret
    exact ⟨by rw [hasP, decide_eq_true h1]; rfl, HB.out⟩
  · have h1b : decide (t.f0 ≤ s) = false := decide_eq_false h1
    go_enter Try.func40, Try.ntmps40
    go_wp2_with fail
    go_ret
    exact ⟨by rw [hasP, h1b]; rfl, HB.out⟩
set_option maxHeartbeats 2000000 in
theorem at39 (t : S35) (s : Int) (b : Nat) (w : World) (hb : w.heap[b]? = some (.cells #[.int .i64 s] 3 (0, 0))) : Calls Try.prog 39 #[.agg #[.int .i64 t.f0, .int .i64 t.f1], .pointer (some ⟨b, 0, none⟩)] w fun e w' => e = .returned (.bool (hasP s t)) ∧ Below w.heap.size w w' := by
  have hc := (blk_cell hb 0).trans rfl
  have hlt := blk_lt hb
  have HB := Aside0.mk ((Below.refl w.heap.size w).alloc (Nat.le_refl _) (.cells #[.int .i64 t.f0, .int .i64 t.f1] 35))
  clear hb
  go_enter Try.func39, Try.ntmps39
  go_wp2_with (go_at_call 40; refine (has40 t s _).mono ?_; rintro e w' ⟨rfl, hbb⟩)
  go_ret
  exact ⟨rfl, below_then HB.out HB.out.size hbb⟩
def atP (L : Int) (ps : List S35) (long short s : Int) : Int × Int :=
  if (checkP L ps long short).2 ≠ 0 then (0, (checkP L ps long short).2) else if (decide (0 ≤ s ∧ s ≤ L - 1)) = true then (if idxFrom (hasP s) (checkP L ps long short).1 0 < 0 then (0, 7) else (idxFrom (hasP s) (checkP L ps long short).1 0, 0)) else (0, 2)
def take_At.f (a0_0 : Int) (l0_1 : List (S35)) (a0_2 : Int) (a0_3 : Int) (a1 : Int) : Option (Int × Int) := some (atP a0_0 l0_1 a0_2 a0_3 a1)
theorem check_is {L : Int} {ps : List S35} {long short : Int} (h : (checkP L ps long short).2 = 0) : sittingOk L ps long short = true ∧ (checkP L ps long short).1 = takesP L ps long short ∧ (takesP L ps long short).length ≤ 40 := by
  unfold checkP at h ⊢
  split at h
  · rename_i hs
    split at h
    · cases h
    · rename_i h40; rw [if_pos hs, if_neg h40]; exact ⟨hs, rfl, by omega⟩
  · cases h
set_option maxRecDepth 100000 in
set_option maxHeartbeats 1000000 in
theorem take_At.calls (a0_0 : Int) (A0_1 : Option Addr) (c0_1 : Nat) (l0_1 : List (S35)) (a0_2 : Int) (a0_3 : Int) (a1 : Int) (r1 : Int) (r2 : Int) (w : World) (hr0_1 : Kd.C k35 w A0_1 l0_1.length l0_1) (hc0_1 : l0_1.length ≤ c0_1) (h : take_At.f a0_0 l0_1 a0_2 a0_3 a1 = some (r1, r2)) :
    Calls Try.prog 15 #[.agg #[.int .i64 a0_0, .slice A0_1 l0_1.length c0_1, .int .i64 a0_2, .int .i64 a0_3], .int .i64 a1] w fun e w' => e = .returned (.tuple #[.int .i64 r1, .int .i64 r2]) ∧ Below w.heap.size w w' := by
  have hres := Option.some.inj h
  clear h
  have HV := fun W hb => take_Sitting_check.calls a0_0 A0_1 c0_1 l0_1 a0_2 a0_3 (checkP a0_0 l0_1 a0_2 a0_3).1 (checkP a0_0 l0_1 a0_2 a0_3).2 W (Kd.C_below hr0_1 (w1 := W) hb) hc0_1 rfl
  have hck := @check_is a0_0 l0_1 a0_2 a0_3
  rw [atP] at hres
  obtain ⟨⟨T, er⟩, hT⟩ : ∃ x, x = checkP a0_0 l0_1 a0_2 a0_3 := ⟨_, rfl⟩
  rw [← hT] at HV hres hck
  have HB := Aside0.mk (below_alloc (below_alloc (Below.refl w.heap.size w) (.cells #[.int .i64 a0_0, .slice A0_1 l0_1.length c0_1, .int .i64 a0_2, .int .i64 a0_3] 32)) (.cells #[.int .i64 a1] 3))
  have HBX : Aside0 (∀ w', Below ((w.alloc (.cells #[.int .i64 a0_0, .slice A0_1 l0_1.length c0_1, .int .i64 a0_2, .int .i64 a0_3] 32)).alloc (.cells #[.int .i64 a1] 3)).heap.size ((w.alloc (.cells #[.int .i64 a0_0, .slice A0_1 l0_1.length c0_1, .int .i64 a0_2, .int .i64 a0_3] 32)).alloc (.cells #[.int .i64 a1] 3)) w' → Below w.heap.size w w' ∧ w'.heap[w.heap.size]? = some (.cells #[.int .i64 a0_0, .slice A0_1 l0_1.length c0_1, .int .i64 a0_2, .int .i64 a0_3] 32 (0, 0)) ∧ w'.heap[w.heap.size + 1]? = some (.cells #[.int .i64 a1] 3 (0, 0))) := ⟨fun w' hb =>
    ⟨below_then HB.out HB.out.size hb, blk_below (blk_alloc (blk_new w _) _) hb, by have := blk_below (blk_new (w.alloc (.cells #[.int .i64 a0_0, .slice A0_1 l0_1.length c0_1, .int .i64 a0_2, .int .i64 a0_3] 32)) (.cells #[.int .i64 a1] 3)) hb; simpa using this⟩⟩
  have HV' := Aside0.mk HV
  clear HV hT hr0_1
  by_cases he : er = 0
  · subst he
    obtain ⟨hs, -, -⟩ := hck rfl
    obtain ⟨-, hL0, hL1, -⟩ := sittingOk_parts hs
    clear hs hck
    rw [if_neg (by simp)] at hres
    have hw1 : ∀ W : World, Calls Try.prog 37 #[.int .i64 a1, .int .i64 0, .int .i64 (a0_0 - 1)] W fun e w' => e = .returned (.bool (decide (0 ≤ a1 ∧ a1 ≤ a0_0 - 1))) ∧ Drawn0 W w' := fun W => take_within.calls _ _ _ _ W (within_some _ _ _)
    obtain ⟨b1, hb1⟩ : ∃ b, b = decide (0 ≤ a1 ∧ a1 ≤ a0_0 - 1) := ⟨_, rfl⟩
    rw [← hb1] at hw1 hres
    clear hb1
    have HW1 := Aside0.mk hw1
    clear hw1
    have HX : Aside0 (∀ (W : World) (A : Option Addr) (c : Nat), Below w.heap.size w W → W.heap[w.heap.size + 1]? = some (.cells #[.int .i64 a1] 3 (0, 0)) → Kd.C k35 W A T.length T → Calls Try.prog 38 #[.slice A T.length c, .func (.func 39) #[] #[.pointer (some ⟨w.heap.size + 1, 0, none⟩)]] W fun e w' => e = .returned (.int .i64 (idxFrom (hasP a1) T 0)) ∧ Below W.heap.size W w') :=
      ⟨fun W A c hb hx hC => idx38 A c T _ (hasP a1) W hC (fun x X _ hbX => at39 x a1 _ X (blk_below hx hbX))⟩
    obtain ⟨n, hn⟩ : ∃ n, n = idxFrom (hasP a1) T 0 := ⟨_, rfl⟩
    rw [← hn] at hres HX
    clear hn
    cases b1 with
    | false =>
      rw [if_neg (by decide)] at hres
      obtain ⟨rfl, rfl⟩ := Prod.mk.inj hres
      go_enter Try.func15, Try.ntmps15
      go_wp2_with (first | (go_at_call 35; refine (HV'.out _ HB.out).mono ?_; rintro e w' ⟨v, rfl, hR, hbb⟩; obtain ⟨hbw, hbx, hby⟩ := HBX.out _ hbb; have g0 := (blk_cell hbx 0).trans rfl; have g1 := (blk_cell hby 0).trans rfl) | (go_at_call 37; refine (HW1.out _).mono ?_; rintro e w' ⟨rfl, ⟨nd, rfl⟩⟩))
      go_ret2
      exact ⟨rfl, pw_below_drewN hbw _⟩
    | true =>
      rw [if_pos rfl] at hres
      have HRES := Aside0.mk hres
      clear hres
      by_cases hn : n < 0
      · have hr := HRES.out
        rw [if_pos hn] at hr
        obtain ⟨rfl, rfl⟩ := Prod.mk.inj hr
        clear HRES hr
        go_enter Try.func15, Try.ntmps15
        go_wp2_with (first | (go_at_call 35; refine (HV'.out _ HB.out).mono ?_; rintro e w' ⟨v, rfl, hR, hbb⟩; obtain ⟨hbw, hbx, hby⟩ := HBX.out _ hbb; have g0 := (blk_cell hbx 0).trans rfl; have g1 := (blk_cell hby 0).trans rfl; obtain ⟨A2, c2, rfl⟩ := Kd.R_slice hR; have HC2 : Aside0 (Kd.C k35 w' A2 T.length T) := ⟨(Kd.R_reads' hR).2.2⟩; have HBW := Aside0.mk hbw; have HBY := Aside0.mk hby; clear hR hbw hbb hbx hby) | (go_at_call 37; refine (HW1.out _).mono ?_; rintro e w' ⟨rfl, ⟨nd, rfl⟩⟩) | (go_at_call 38; refine (HX.out _ A2 c2 (pw_below_drewN HBW.out _) (blk_drewN HBY.out _) (Kd.C_drewN HC2.out _)).mono ?_; rintro e w3 ⟨rfl, hb3⟩))
        go_ret2
        exact ⟨rfl, below_then (pw_below_drewN HBW.out _) (pw_below_drewN HBW.out _).size hb3⟩
      · have hr := HRES.out
        rw [if_neg hn] at hr
        obtain ⟨rfl, rfl⟩ := Prod.mk.inj hr
        clear HRES hr
        go_enter Try.func15, Try.ntmps15
        go_wp2_with (first | (go_at_call 35; refine (HV'.out _ HB.out).mono ?_; rintro e w' ⟨v, rfl, hR, hbb⟩; obtain ⟨hbw, hbx, hby⟩ := HBX.out _ hbb; have g0 := (blk_cell hbx 0).trans rfl; have g1 := (blk_cell hby 0).trans rfl; obtain ⟨A2, c2, rfl⟩ := Kd.R_slice hR; have HC2 : Aside0 (Kd.C k35 w' A2 T.length T) := ⟨(Kd.R_reads' hR).2.2⟩; have HBW := Aside0.mk hbw; have HBY := Aside0.mk hby; clear hR hbw hbb hbx hby) | (go_at_call 37; refine (HW1.out _).mono ?_; rintro e w' ⟨rfl, ⟨nd, rfl⟩⟩) | (go_at_call 38; refine (HX.out _ A2 c2 (pw_below_drewN HBW.out _) (blk_drewN HBY.out _) (Kd.C_drewN HC2.out _)).mono ?_; rintro e w3 ⟨rfl, hb3⟩))
        go_ret2
        exact ⟨rfl, below_then (pw_below_drewN HBW.out _) (pw_below_drewN HBW.out _).size hb3⟩
  · rw [if_pos he] at hres
    obtain ⟨rfl, rfl⟩ := Prod.mk.inj hres
    have heb : (er != 0) = true := by simpa using he
    clear hck hres
    go_enter Try.func15, Try.ntmps15
    go_wp2_with (go_at_call 35; refine (HV'.out _ HB.out).mono ?_; rintro e w' ⟨v, rfl, hR, hbb⟩; obtain ⟨hbw, hbx, hby⟩ := HBX.out _ hbb)
    go_ret2
    exact ⟨rfl, hbw⟩
end Go.Proofs.Ytillieimgjdpbaa.Pr
namespace Go.Proofs.Ytillieimgjdpbaa.Pr
open Go.RowKit Go.Proofs.YtillieimgjdpbaaW.PrintWords
set_option linter.unusedVariables false
set_option linter.unusedSimpArgs false
/-- Spans that rise, from a on, none past L. -/
def Rise (L : Int) : Int → List S35 → Prop
  | a, [] => True
  | a, t :: r => a ≤ t.f0 ∧ t.f0 < t.f1 ∧ t.f1 ≤ L ∧ Rise L t.f1 r
theorem Rise.mono {L : Int} : ∀ {l : List S35} {a b : Int}, Rise L b l → a ≤ b → Rise L a l
  | [], _, _, _, _ => trivial
  | t :: r, a, b, ⟨h1, h2, h3, h4⟩, h => ⟨by omega, h2, h3, h4⟩
theorem Rise.get {L : Int} : ∀ {l : List S35} {a : Int}, Rise L a l → ∀ (i : Nat) (h : i < l.length), a ≤ l[i].f0 ∧ l[i].f0 < l[i].f1 ∧ l[i].f1 ≤ L ∧ (∀ h2 : i + 1 < l.length, l[i].f1 ≤ l[i + 1].f0)
  | t :: r, a, ⟨h1, h2, h3, h4⟩, 0, h => ⟨h1, h2, h3, fun h5 => (h4.get 0 (by simpa using h5)).1⟩
  | t :: r, a, ⟨h1, h2, h3, h4⟩, i + 1, h => by
    obtain ⟨g1, g2, g3, g4⟩ := h4.get i (by simpa using h)
    exact ⟨by simp only [List.getElem_cons_succ]; omega, g2, g3, fun h5 => g4 (by simpa using h5)⟩
end Go.Proofs.Ytillieimgjdpbaa.Pr
namespace Go.Proofs.Ytillieimgjdpbaa.Pr
open Go.RowKit Go.Proofs.YtillieimgjdpbaaW.PrintWords
set_option linter.unusedVariables false
set_option linter.unusedSimpArgs false
end Go.Proofs.Ytillieimgjdpbaa.Pr
