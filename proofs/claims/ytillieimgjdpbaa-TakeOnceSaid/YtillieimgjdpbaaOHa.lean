/- Contracts by hand: the sitting's validity. -/
import Derived.Test.YtillieimgjdpbaaOPr2
import Derived.WalkMore
import Derived.Outline
namespace Go.Proofs.Ytillieimgjdpbaa.Pr
open Go.RowKit Go.Proofs.YtillieimgjdpbaaW.PrintWords Go.Proofs.YtillieimgjdpbaaW.PrintLast Go.Proofs.YtillieimgjdpbaaW.PrintMore
set_option linter.unusedVariables false
set_option linter.unusedSimpArgs false
def pausesOk (L : Int) : Int → List S35 → Bool
  | _, [] => true
  | last, p :: t => if p.f0 ≤ last ∨ p.f1 ≤ p.f0 ∨ p.f1 > L then false else pausesOk L p.f1 t
def sittingOk (L : Int) (ps : List S35) (long short : Int) : Bool :=
  pausesOk L (-1) ps && decide (1 ≤ L ∧ L ≤ 36000) && decide (1 ≤ long ∧ long ≤ 1200) && decide (1 ≤ short ∧ short ≤ long)
def take_Sitting_valid.f (a0_0 : Int) (l0_1 : List (S35)) (a0_2 : Int) (a0_3 : Int) : Option (Bool) := some (sittingOk a0_0 l0_1 a0_2 a0_3)
theorem at35 {w : World} {A : Option Addr} {n : Nat} {xs : List S35} (h : Kd.C k35 w A n xs) (k : Nat) (hk : k < xs.length) : ∃ ad, A = some ad ∧ w.cell? (ad.add (k * 2)) = some (.int .i64 xs[k].f0) ∧ w.cell? ⟨(ad.add (k * 2)).block, (ad.add (k * 2)).off + 1, none⟩ = some (.int .i64 xs[k].f1) := by
  have hn := h.1
  have := at_T35 h (k : Int) (by omega) (by omega)
  simpa [rd_T35, List.getD_eq_getElem?_getD, hk] using this
theorem drop_cons' {α : Type} (xs : List α) (k : Nat) (h : k < xs.length) : xs.drop k = xs[k] :: xs.drop (k + 1) := List.drop_eq_getElem_cons h
theorem within_some (a b c : Int) : take_within.f a b c = some (decide (b ≤ a ∧ a ≤ c)) := by
  unfold take_within.f
  by_cases h1 : b ≤ a <;> by_cases h2 : a ≤ c <;> simp [h1, h2]
set_option maxHeartbeats 2000000 in
set_option maxRecDepth 100000 in
theorem take_Sitting_valid.calls (a0_0 : Int) (A0_1 : Option Addr) (c0_1 : Nat) (l0_1 : List (S35)) (a0_2 : Int) (a0_3 : Int) (r : Bool) (w : World) (hr0_1 : Kd.C k35 w A0_1 l0_1.length l0_1) (hc0_1 : l0_1.length ≤ c0_1) (h : take_Sitting_valid.f a0_0 l0_1 a0_2 a0_3 = some r) :
    Calls Try.prog 51 #[.agg #[.int .i64 a0_0, .slice A0_1 l0_1.length c0_1, .int .i64 a0_2, .int .i64 a0_3]] w fun e w' => e = .returned (.bool r) ∧ Below w.heap.size w w' := by
  have hu32 := Try.underlying32
  have hu35 := Try.underlying35
  have hu27 := Try.underlying27
  have hlen : l0_1.length ≤ 9223372036854775807 := hr0_1.2.1
  have HR := Aside0.mk hr0_1
  clear hr0_1
  obtain rfl := Option.some.inj h
  clear h
  go_enter Try.func51, Try.ntmps51
  go_wp2
  go_step3
  go_wp2
  go_step3
  go_upto_block 0 with fail
  go_cut [4] (fun v4 wc => ∃ b : Bool, v4 = .bool b ∧ Aside0 (pausesOk a0_0 (-1) l0_1 = b) ∧ Aside0 (wc.heap[w.heap.size]? = some (.cells #[.int .i64 a0_0, .slice A0_1 l0_1.length c0_1, .int .i64 a0_2, .int .i64 a0_3] 32 (0, 0))) ∧ Aside0 (Below w.heap.size w wc))
  case first =>
    go_wp2
    go_loopw [3, 4, 10] (fun v3 v4 v10 wr => ∃ (k : Nat) (last : Int), k ≤ l0_1.length ∧ v3 = .int .i64 last ∧ v4 = .bool true ∧ v10 = .int .i64 k ∧ Aside0 (pausesOk a0_0 (-1) l0_1 = pausesOk a0_0 last (l0_1.drop k)) ∧ Aside0 (wr.heap[w.heap.size]? = some (.cells #[.int .i64 a0_0, .slice A0_1 l0_1.length c0_1, .int .i64 a0_2, .int .i64 a0_3] 32 (0, 0))) ∧ Aside0 (Below w.heap.size w wr)) (fun _ _ v10 _ => l0_1.length - (intOf v10).toNat)
    case atStart => exact ⟨0, -1, Nat.zero_le _, rfl, rfl, rfl, ⟨rfl⟩, ⟨heap_alloc_new w _⟩, ⟨(Below.refl _ _).alloc (Nat.le_refl _) _⟩⟩
    case round =>
      obtain ⟨k, last, hk, rfl, rfl, rfl, HP, BK, HB⟩ := hrel
      have h0 : wr.cell? ⟨w.heap.size, 0, none⟩ = some (.int .i64 a0_0) := (blk_cell BK.out 0).trans rfl
      have h1 : wr.cell? ⟨w.heap.size, 1, none⟩ = some (.slice A0_1 l0_1.length c0_1) := (blk_cell BK.out 1).trans rfl
      have h2 : wr.cell? ⟨w.heap.size, 2, none⟩ = some (.int .i64 a0_2) := (blk_cell BK.out 2).trans rfl
      have h3 : wr.cell? ⟨w.heap.size, 3, none⟩ = some (.int .i64 a0_3) := (blk_cell BK.out 3).trans rfl
      have hsz : w.heap.size < wr.heap.size := blk_lt BK.out
      by_cases hlt : k < l0_1.length
      · obtain ⟨ad, e, hx0, hx1⟩ := at35 HR.out k hlt
        cases e
        replace hx0 := (HB.out.cell (World.block_lt_of_cell? w _ hx0)).trans hx0
        replace hx1 := (HB.out.cell (World.block_lt_of_cell? w _ hx1)).trans hx1
        obtain ⟨p, hp⟩ : ∃ p, p = l0_1[k] := ⟨_, rfl⟩
        rw [← hp] at hx0 hx1
        have HD := Aside0.mk (drop_cons' l0_1 k hlt)
        rw [← hp] at HD
        clear hp
        by_cases c1 : p.f0 ≤ last ∨ p.f1 ≤ p.f0 ∨ p.f1 > a0_0
        · have HF : Aside0 (pausesOk a0_0 (-1) l0_1 = false) := ⟨by rw [HP.out, HD.out, pausesOk, if_pos c1]⟩
          clear HP HD
          have c1' : p.f0 ≤ last ∨ (¬ p.f0 ≤ last ∧ p.f1 ≤ p.f0) ∨ (¬ p.f0 ≤ last ∧ ¬ p.f1 ≤ p.f0 ∧ p.f1 > a0_0) := by omega
          clear c1
          rcases c1' with c2 | ⟨c2, c3⟩ | ⟨c2, c3, c4⟩
          all_goals
            go_wp2
            go_meet
            case rel => exact ⟨_, rfl, HF, ⟨blk_alloc BK.out _⟩, ⟨HB.out.alloc HB.out.size _⟩⟩
        · have HN : Aside0 (pausesOk a0_0 (-1) l0_1 = pausesOk a0_0 p.f1 (l0_1.drop (k + 1))) := ⟨by rw [HP.out, HD.out, pausesOk, if_neg c1]⟩
          clear HP HD
          have c2 : ¬ p.f0 ≤ last := fun h => c1 (.inl h)
          have c3 : ¬ p.f1 ≤ p.f0 := fun h => c1 (.inr (.inl h))
          have c4 : ¬ p.f1 > a0_0 := fun h => c1 (.inr (.inr h))
          clear c1
          go_wp2
          go_roundw
          case rel => exact ⟨k + 1, p.f1, by omega, rfl, rfl, by go_num, HN, ⟨blk_alloc BK.out _⟩, ⟨HB.out.alloc HB.out.size _⟩⟩
          case measure => simp [intOf]; omega
      · have e : k = l0_1.length := by omega
        have HT : Aside0 (pausesOk a0_0 (-1) l0_1 = true) := ⟨by rw [HP.out, List.drop_eq_nil_of_le (by omega), pausesOk]⟩
        clear HP
        go_wp2
        go_meet
        case rel => exact ⟨_, rfl, HT, BK, HB⟩
  case rest =>
    obtain ⟨b, rfl, HP, BK, HB⟩ := hcut
    have h0 : wc.cell? ⟨w.heap.size, 0, none⟩ = some (.int .i64 a0_0) := (blk_cell BK.out 0).trans rfl
    have h2 : wc.cell? ⟨w.heap.size, 2, none⟩ = some (.int .i64 a0_2) := (blk_cell BK.out 2).trans rfl
    have h3 : wc.cell? ⟨w.heap.size, 3, none⟩ = some (.int .i64 a0_3) := (blk_cell BK.out 3).trans rfl
    have hw1 : ∀ W : World, Calls Try.prog 37 #[.int .i64 a0_0, .int .i64 1, .int .i64 36000] W fun e w' => e = .returned (.bool (decide (1 ≤ a0_0 ∧ a0_0 ≤ 36000))) ∧ Drawn0 W w' := fun W => take_within.calls _ _ _ _ W (within_some _ _ _)
    have hw2 : ∀ W : World, Calls Try.prog 37 #[.int .i64 a0_2, .int .i64 1, .int .i64 1200] W fun e w' => e = .returned (.bool (decide (1 ≤ a0_2 ∧ a0_2 ≤ 1200))) ∧ Drawn0 W w' := fun W => take_within.calls _ _ _ _ W (within_some _ _ _)
    have hw3 : ∀ W : World, Calls Try.prog 37 #[.int .i64 a0_3, .int .i64 1, .int .i64 a0_2] W fun e w' => e = .returned (.bool (decide (1 ≤ a0_3 ∧ a0_3 ≤ a0_2))) ∧ Drawn0 W w' := fun W => take_within.calls _ _ _ _ W (within_some _ _ _)
    have HE : Aside0 (sittingOk a0_0 l0_1 a0_2 a0_3 = (b && decide (1 ≤ a0_0 ∧ a0_0 ≤ 36000) && decide (1 ≤ a0_2 ∧ a0_2 ≤ 1200) && decide (1 ≤ a0_3 ∧ a0_3 ≤ a0_2))) := ⟨by rw [sittingOk, HP.out]⟩
    clear HP
    cases b
    · go_wp2
      rw [Exit.noGoto_ret]
      go_ret
      exact ⟨by rw [HE.out]; rfl, HB.out⟩
    · generalize decide (1 ≤ a0_0 ∧ a0_0 ≤ 36000) = b1 at *
      generalize decide (1 ≤ a0_2 ∧ a0_2 ≤ 1200) = b2 at *
      generalize decide (1 ≤ a0_3 ∧ a0_3 ≤ a0_2) = b3 at *
      cases b1
      · go_wp2_with (go_at_call 37; refine (hw1 _).mono ?_; rintro e w' ⟨rfl, ⟨nd, rfl⟩⟩)
        rw [Exit.noGoto_ret]
        go_ret
        exact ⟨by rw [HE.out]; rfl, pw_below_drewN HB.out _⟩
      · cases b2
        · go_wp2_with (first | (go_at_call 37; refine (hw1 _).mono ?_; rintro e w' ⟨rfl, ⟨nd, rfl⟩⟩; clear hw1) | (go_at_call 37; refine (hw2 _).mono ?_; rintro e w' ⟨rfl, ⟨nd, rfl⟩⟩; clear hw2))
          rw [Exit.noGoto_ret]
          go_ret
          exact ⟨by rw [HE.out]; rfl, by repeat (first | exact HB.out | apply pw_below_drewN)⟩
        · go_wp2_with (first | (go_at_call 37; refine (hw1 _).mono ?_; rintro e w' ⟨rfl, ⟨nd, rfl⟩⟩; clear hw1) | (go_at_call 37; refine (hw2 _).mono ?_; rintro e w' ⟨rfl, ⟨nd, rfl⟩⟩; clear hw2) | (go_at_call 37; refine (hw3 _).mono ?_; rintro e w' ⟨rfl, ⟨nd, rfl⟩⟩; clear hw3))
          rw [Exit.noGoto_ret]
          go_ret
          exact ⟨by rw [HE.out]; simp, by repeat (first | exact HB.out | apply pw_below_drewN)⟩
end Go.Proofs.Ytillieimgjdpbaa.Pr
