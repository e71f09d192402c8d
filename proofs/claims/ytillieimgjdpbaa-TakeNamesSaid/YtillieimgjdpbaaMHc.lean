/- Contracts by hand: the stretches. -/
import Derived.Test.YtillieimgjdpbaaMHb
import Derived.WalkMore
import Derived.Outline
import Derived.RangeFuncNested
import Derived.RangeFuncBound
import Derived.RangeFuncCalls
import Derived.RangeFuncLeaves
import Derived.Shelf.Abstract
import Derived.Shelf.RegionOpen
import Derived.WalkKit
import Derived.OwnWalkIn
import Derived.TacticsInMore
import Derived.LoopNIn
import Derived.LoopIn
import Derived.Deep.RegionWith
import Derived.Deep.RegionLaw
namespace Go.Proofs.Ytillieimgjdpbaa.Pr
open Go.RowKit Go.Proofs.YtillieimgjdpbaaW.PrintWords Go.Proofs.YtillieimgjdpbaaW.PrintLast Go.Proofs.YtillieimgjdpbaaW.PrintMore
set_option linter.unusedVariables false
set_option linter.unusedSimpArgs false
def pausesOk (L : Int) : Int → List S35 → Bool
  | _, [] => true
  | last, p :: t => if p.f0 ≤ last ∨ p.f1 ≤ p.f0 ∨ p.f1 > L then false else pausesOk L p.f1 t
def sittingOk (L : Int) (ps : List S35) (long short : Int) : Bool :=
  pausesOk L (-1) ps && decide (1 ≤ L ∧ L ≤ 36000) && decide (1 ≤ long ∧ long ≤ 1200) && decide (1 ≤ short ∧ short ≤ long)
def take_Sitting_valid.f (a0_0 : Int) (l0_1 : List (S35)) (a0_2 : Int) (a0_3 : Int) : Option (Bool) := some (sittingOk a0_0 l0_1 a0_2 a0_3)
theorem at35 {w : World} {A : Option Addr} {n : Nat} {xs : List S35} (h : Kd.C k35 w A n xs) (k : Nat) (hk : k < xs.length) : ∃ ad, A = some ad ∧ w.cell? (ad.add (k * 2)) = some (.int .i64 xs[k].f0) ∧ w.cell? ⟨(ad.add (k * 2)).block, (ad.add (k * 2)).off + 1, none⟩ = some (.int .i64 xs[k].f1) := by
  have hn := h.1
  have := at_T35 h (k : Int) (by omega) (by omega)
  simpa [rd_T35, List.getD_eq_getElem?_getD, hk] using this
theorem drop_cons' {α : Type} (xs : List α) (k : Nat) (h : k < xs.length) : xs.drop k = xs[k] :: xs.drop (k + 1) := List.drop_eq_getElem_cons h
theorem within_some (a b c : Int) : take_within.f a b c = some (decide (b ≤ a ∧ a ≤ c)) := by
  unfold take_within.f
  by_cases h1 : b ≤ a <;> by_cases h2 : a ≤ c <;> simp [h1, h2]
set_option maxHeartbeats 2000000 in
set_option maxRecDepth 100000 in
theorem take_Sitting_valid.calls (a0_0 : Int) (A0_1 : Option Addr) (c0_1 : Nat) (l0_1 : List (S35)) (a0_2 : Int) (a0_3 : Int) (r : Bool) (w : World) (hr0_1 : Kd.C k35 w A0_1 l0_1.length l0_1) (hc0_1 : l0_1.length ≤ c0_1) (h : take_Sitting_valid.f a0_0 l0_1 a0_2 a0_3 = some r) :
    Calls Try.prog 51 #[.agg #[.int .i64 a0_0, .slice A0_1 l0_1.length c0_1, .int .i64 a0_2, .int .i64 a0_3]] w fun e w' => e = .returned (.bool r) ∧ Below w.heap.size w w' := by
  have hu32 := Try.underlying32
  have hu35 := Try.underlying35
  have hu27 := Try.underlying27
  have hlen : l0_1.length ≤ 9223372036854775807 := hr0_1.2.1
  have HR := Aside0.mk hr0_1
  clear hr0_1
  obtain rfl := Option.some.inj h
  clear h
  go_enter Try.func51, Try.ntmps51
  go_wp2
  go_step3
  go_wp2
  go_step3
  go_upto_block 0 with fail
  go_cut [4] (fun v4 wc => ∃ b : Bool, v4 = .bool b ∧ Aside0 (pausesOk a0_0 (-1) l0_1 = b) ∧ Aside0 (wc.heap[w.heap.size]? = some (.cells #[.int .i64 a0_0, .slice A0_1 l0_1.length c0_1, .int .i64 a0_2, .int .i64 a0_3] 32 (0, 0))) ∧ Aside0 (Below w.heap.size w wc))
  case first =>
    go_wp2
    go_loopw [3, 4, 10] (fun v3 v4 v10 wr => ∃ (k : Nat) (last : Int), k ≤ l0_1.length ∧ v3 = .int .i64 last ∧ v4 = .bool true ∧ v10 = .int .i64 k ∧ Aside0 (pausesOk a0_0 (-1) l0_1 = pausesOk a0_0 last (l0_1.drop k)) ∧ Aside0 (wr.heap[w.heap.size]? = some (.cells #[.int .i64 a0_0, .slice A0_1 l0_1.length c0_1, .int .i64 a0_2, .int .i64 a0_3] 32 (0, 0))) ∧ Aside0 (Below w.heap.size w wr)) (fun _ _ v10 _ => l0_1.length - (intOf v10).toNat)
    case atStart => exact ⟨0, -1, Nat.zero_le _, rfl, rfl, rfl, ⟨rfl⟩, ⟨heap_alloc_new w _⟩, ⟨(Below.refl _ _).alloc (Nat.le_refl _) _⟩⟩
    case round =>
      obtain ⟨k, last, hk, rfl, rfl, rfl, HP, BK, HB⟩ := hrel
      have h0 : wr.cell? ⟨w.heap.size, 0, none⟩ = some (.int .i64 a0_0) := (blk_cell BK.out 0).trans rfl
      have h1 : wr.cell? ⟨w.heap.size, 1, none⟩ = some (.slice A0_1 l0_1.length c0_1) := (blk_cell BK.out 1).trans rfl
      have h2 : wr.cell? ⟨w.heap.size, 2, none⟩ = some (.int .i64 a0_2) := (blk_cell BK.out 2).trans rfl
      have h3 : wr.cell? ⟨w.heap.size, 3, none⟩ = some (.int .i64 a0_3) := (blk_cell BK.out 3).trans rfl
      have hsz : w.heap.size < wr.heap.size := blk_lt BK.out
      by_cases hlt : k < l0_1.length
      · obtain ⟨ad, e, hx0, hx1⟩ := at35 HR.out k hlt
        cases e
        replace hx0 := (HB.out.cell (World.block_lt_of_cell? w _ hx0)).trans hx0
        replace hx1 := (HB.out.cell (World.block_lt_of_cell? w _ hx1)).trans hx1
        obtain ⟨p, hp⟩ : ∃ p, p = l0_1[k] := ⟨_, rfl⟩
        rw [← hp] at hx0 hx1
        have HD := Aside0.mk (drop_cons' l0_1 k hlt)
        rw [← hp] at HD
        clear hp
        by_cases c1 : p.f0 ≤ last ∨ p.f1 ≤ p.f0 ∨ p.f1 > a0_0
        · have HF : Aside0 (pausesOk a0_0 (-1) l0_1 = false) := ⟨by rw [HP.out, HD.out, pausesOk, if_pos c1]⟩
          clear HP HD
          have c1' : p.f0 ≤ last ∨ (¬ p.f0 ≤ last ∧ p.f1 ≤ p.f0) ∨ (¬ p.f0 ≤ last ∧ ¬ p.f1 ≤ p.f0 ∧ p.f1 > a0_0) := by omega
          clear c1
          rcases c1' with c2 | ⟨c2, c3⟩ | ⟨c2, c3, c4⟩
          all_goals
            go_wp2
            go_meet
            case rel => exact ⟨_, rfl, HF, ⟨blk_alloc BK.out _⟩, ⟨HB.out.alloc HB.out.size _⟩⟩
        · have HN : Aside0 (pausesOk a0_0 (-1) l0_1 = pausesOk a0_0 p.f1 (l0_1.drop (k + 1))) := ⟨by rw [HP.out, HD.out, pausesOk, if_neg c1]⟩
          clear HP HD
          have c2 : ¬ p.f0 ≤ last := fun h => c1 (.inl h)
          have c3 : ¬ p.f1 ≤ p.f0 := fun h => c1 (.inr (.inl h))
          have c4 : ¬ p.f1 > a0_0 := fun h => c1 (.inr (.inr h))
          clear c1
          go_wp2
          go_roundw
          case rel => exact ⟨k + 1, p.f1, by omega, rfl, rfl, by go_num, HN, ⟨blk_alloc BK.out _⟩, ⟨HB.out.alloc HB.out.size _⟩⟩
          case measure => simp [intOf]; omega
      · have e : k = l0_1.length := by omega
        have HT : Aside0 (pausesOk a0_0 (-1) l0_1 = true) := ⟨by rw [HP.out, List.drop_eq_nil_of_le (by omega), pausesOk]⟩
        clear HP
        go_wp2
        go_meet
        case rel => exact ⟨_, rfl, HT, BK, HB⟩
  case rest =>
    obtain ⟨b, rfl, HP, BK, HB⟩ := hcut
    have h0 : wc.cell? ⟨w.heap.size, 0, none⟩ = some (.int .i64 a0_0) := (blk_cell BK.out 0).trans rfl
    have h2 : wc.cell? ⟨w.heap.size, 2, none⟩ = some (.int .i64 a0_2) := (blk_cell BK.out 2).trans rfl
    have h3 : wc.cell? ⟨w.heap.size, 3, none⟩ = some (.int .i64 a0_3) := (blk_cell BK.out 3).trans rfl
    have hw1 : ∀ W : World, Calls Try.prog 37 #[.int .i64 a0_0, .int .i64 1, .int .i64 36000] W fun e w' => e = .returned (.bool (decide (1 ≤ a0_0 ∧ a0_0 ≤ 36000))) ∧ Drawn0 W w' := fun W => take_within.calls _ _ _ _ W (within_some _ _ _)
    have hw2 : ∀ W : World, Calls Try.prog 37 #[.int .i64 a0_2, .int .i64 1, .int .i64 1200] W fun e w' => e = .returned (.bool (decide (1 ≤ a0_2 ∧ a0_2 ≤ 1200))) ∧ Drawn0 W w' := fun W => take_within.calls _ _ _ _ W (within_some _ _ _)
    have hw3 : ∀ W : World, Calls Try.prog 37 #[.int .i64 a0_3, .int .i64 1, .int .i64 a0_2] W fun e w' => e = .returned (.bool (decide (1 ≤ a0_3 ∧ a0_3 ≤ a0_2))) ∧ Drawn0 W w' := fun W => take_within.calls _ _ _ _ W (within_some _ _ _)
    have HE : Aside0 (sittingOk a0_0 l0_1 a0_2 a0_3 = (b && decide (1 ≤ a0_0 ∧ a0_0 ≤ 36000) && decide (1 ≤ a0_2 ∧ a0_2 ≤ 1200) && decide (1 ≤ a0_3 ∧ a0_3 ≤ a0_2))) := ⟨by rw [sittingOk, HP.out]⟩
    clear HP
    cases b
    · go_wp2
      rw [Exit.noGoto_ret]
      go_ret
      exact ⟨by rw [HE.out]; rfl, HB.out⟩
    · generalize decide (1 ≤ a0_0 ∧ a0_0 ≤ 36000) = b1 at *
      generalize decide (1 ≤ a0_2 ∧ a0_2 ≤ 1200) = b2 at *
      generalize decide (1 ≤ a0_3 ∧ a0_3 ≤ a0_2) = b3 at *
      cases b1
      · go_wp2_with (go_at_call 37; refine (hw1 _).mono ?_; rintro e w' ⟨rfl, ⟨nd, rfl⟩⟩)
        rw [Exit.noGoto_ret]
        go_ret
        exact ⟨by rw [HE.out]; rfl, pw_below_drewN HB.out _⟩
      · cases b2
        · go_wp2_with (first | (go_at_call 37; refine (hw1 _).mono ?_; rintro e w' ⟨rfl, ⟨nd, rfl⟩⟩; clear hw1) | (go_at_call 37; refine (hw2 _).mono ?_; rintro e w' ⟨rfl, ⟨nd, rfl⟩⟩; clear hw2))
          rw [Exit.noGoto_ret]
          go_ret
          exact ⟨by rw [HE.out]; rfl, by repeat (first | exact HB.out | apply pw_below_drewN)⟩
        · go_wp2_with (first | (go_at_call 37; refine (hw1 _).mono ?_; rintro e w' ⟨rfl, ⟨nd, rfl⟩⟩; clear hw1) | (go_at_call 37; refine (hw2 _).mono ?_; rintro e w' ⟨rfl, ⟨nd, rfl⟩⟩; clear hw2) | (go_at_call 37; refine (hw3 _).mono ?_; rintro e w' ⟨rfl, ⟨nd, rfl⟩⟩; clear hw3))
          rw [Exit.noGoto_ret]
          go_ret
          exact ⟨by rw [HE.out]; simp, by repeat (first | exact HB.out | apply pw_below_drewN)⟩
end Go.Proofs.Ytillieimgjdpbaa.Pr
namespace Go.Proofs.Ytillieimgjdpbaa.Pr
open Go.RowKit Go.Shelf Go.Proofs.YtillieimgjdpbaaW.PrintWords Go.Proofs.YtillieimgjdpbaaW.PrintLast Go.Proofs.YtillieimgjdpbaaW.PrintMore
set_option linter.unusedVariables false
set_option linter.unusedSimpArgs false
attribute [local go_sem] Oper.semAt_some
/-- The stretches from a second on, before the pauses that are still to come. -/
def strP : Int → List S35 → List S35
  | _, [] => []
  | a, p :: t => if p.f0 - a > 0 then ⟨a, p.f0⟩ :: strP p.f1 t else strP p.f1 t
/-- A stretch: seconds from 0 to 36000, at least one. -/
abbrev Str := { x : S35 // 0 ≤ x.f0 ∧ x.f0 < x.f1 ∧ x.f1 ≤ 36000 }
/-- Block k is the collector's: its box, or the row that its box leads to. -/
def mineAt (ob : Nat) (W : World) (k : Nat) : Prop := k = ob ∨ ∃ a n c, W.cell? ⟨ob, 0, none⟩ = some (.slice (some a) n c) ∧ a.block = k
/-- The collector's blocks are there. -/
def FineAt (ob : Nat) (W : World) : Prop := ∀ k, mineAt ob W k → k < W.heap.size
theorem mineAt_of {ob : Nat} {W W' : World} (h : W'.cell? ⟨ob, 0, none⟩ = W.cell? ⟨ob, 0, none⟩) (k : Nat) : mineAt ob W' k ↔ mineAt ob W k := by unfold mineAt; rw [h]
theorem FineAt.of {ob : Nat} {W W' : World} (h : FineAt ob W) (hc : W'.cell? ⟨ob, 0, none⟩ = W.cell? ⟨ob, 0, none⟩) (hs : W.heap.size ≤ W'.heap.size) : FineAt ob W' := fun k hk => Nat.lt_of_lt_of_le (h k ((mineAt_of hc k).1 hk)) hs
/-- What a round keeps: all cells that are not the collector's. -/
structure KeepT (ob : Nat) (W W' : World) : Prop where
  size : W.heap.size ≤ W'.heap.size
  fine : FineAt ob W → FineAt ob W'
  keep : ∀ k cs e fr, W.heap[k]? = some (.cells cs e fr) → ¬ mineAt ob W k → W'.heap[k]? = some (.cells cs e fr) ∧ ¬ mineAt ob W' k
theorem KeepT.trans {ob : Nat} {X Y Z : World} (h : KeepT ob X Y) (k : KeepT ob Y Z) : KeepT ob X Z :=
  ⟨Nat.le_trans h.size k.size, fun f => k.fine (h.fine f), fun i cs e fr hi hm => k.keep i cs e fr (h.keep i cs e fr hi hm).1 (h.keep i cs e fr hi hm).2⟩
theorem keepT_b {ob n : Nat} (hn : ob < n) (W : World) (l : Nat) (o o' : Obj) (hl : n ≤ l) (h : W.heap[l]? = some o) (hc : o.isCells = false) (_ : o.isWalk = false) : KeepT ob W (W.putObj l o') := by
  have hob : (W.putObj l o').cell? ⟨ob, 0, none⟩ = W.cell? ⟨ob, 0, none⟩ := World.cell?_of_block (World.putObj_heap_other (by show ob ≠ l; omega))
  refine ⟨by simp, fun f => f.of hob (by simp), fun k cs e fr hk hm => ⟨?_, fun hm' => hm ((mineAt_of hob k).1 hm')⟩⟩
  have : k ≠ l := by rintro rfl; rw [h] at hk; cases hk; cases hc
  exact (World.putObj_heap_other this).trans hk
theorem R35_narrow {w : World} {base g : Nat} {v : Value} {xs : List S35} (h : Kd.R k35 35 w base (fun _ => True) v xs) (hg : v.ownBlock = some g) : Kd.R k35 35 w base (fun k => k = g) v xs := by
  obtain ⟨_, inner, hown, hr⟩ := h
  refine ⟨fun k hk => ?_, inner, hown, hr.imp_ (fun p c hp => by obtain rfl := k35_openM hp; exact k35_mkM _ _ _ p)⟩
  rw [hg] at hk
  exact (Option.some.inj hk).symm
theorem R35_snoc {w : World} {base : Nat} {ok : Nat → Prop} {v : Value} {xs : List S35} {p : S35} (h : Kd.R k35 35 w base ok v (xs ++ [p])) : ∃ g cap, v = .slice (some ⟨g, 0, none⟩) (xs.length + 1) cap ∧ base ≤ g := by
  obtain ⟨_, inner, hown, _⟩ := h
  rcases hown.2 with ⟨_, hn⟩ | ⟨g, cap, cur, rfl, hg, _⟩
  · simp at hn
  · exact ⟨g, cap, by simp, hg⟩
theorem rowLL {w : World} {g : Nat} {L : Int} (h : w.heap[g]? = some (.cells #[.int .i64 L, .int .i64 L] 35 (0, 0))) : ReadsRow (k35.K w) k35.sz w (some ⟨g, 0, none⟩) 1 [(⟨L, L⟩ : S35)] := by
  refine ⟨rfl, by decide, fun _ => ⟨_, rfl, fun j p hj => ?_⟩⟩
  cases j with
  | succ j => simp at hj
  | zero =>
    obtain rfl : (⟨L, L⟩ : S35) = p := by simpa using hj
    refine ⟨[.int .i64 L, .int .i64 L], rfl, k35_mk w ⟨L, L⟩, fun i u hi => ?_⟩
    have h0 := (blk_cell h 0).trans rfl
    have h1 := (blk_cell h 1).trans rfl
    match i, hi with
    | 0, hi => simp at hi; subst hi; simpa [Addr.add] using h0
    | 1, hi => simp at hi; subst hi; simpa [Addr.add] using h1
set_option maxHeartbeats 4000000 in
set_option maxRecDepth 100000 in
theorem stretch_in (n ob B l : Nat) (L long short : Int) (A : Option Addr) (c : Nat) (ps : List S35) (J Jx : List Str → World → Prop) (W : World)
    (hJ : AbidesFrom W.heap.size J)
    (hY : ∀ pre x W1, J pre W1 → pre.length < ps.length + 1 → YieldAt Fence.wide (n - 1) Try.prog l #[.agg #[.int .i64 x.1.f0, .int .i64 x.1.f1]] W1 fun e W' =>
      (e = .returned (.bool true) ∧ J (pre ++ [x]) W' ∧ KeepT ob W1 W') ∨ (e = .returned (.bool false) ∧ Jx (pre ++ [x]) W'))
    (hB : W.heap[B]? = some (.cells #[.int .i64 L, .slice A ps.length c, .int .i64 long, .int .i64 short] 32 (0, 0)))
    (hR : Kd.C k35 W A ps.length ps) (hc : ps.length ≤ c) (hlen : ps.length ≤ 36000) (hL : 0 ≤ L ∧ L ≤ 36000)
    (hob : W.cell? ⟨ob, 0, none⟩ = some (.slice none 0 0))
    (hps : ∀ p ∈ ps, 0 ≤ p.f0 ∧ p.f0 ≤ 36000 ∧ 0 ≤ p.f1 ∧ p.f1 ≤ 36000) (hJ0 : J [] W) :
    CallsIn Fence.wide n Try.prog 69 #[.func (.yield l) #[] #[], .pointer (some ⟨B, 0, none⟩)] W fun e W' => (∃ v, e = .returned v) ∧
      ((∃ ys : List Str, ys.map (·.1) = strP 0 (ps ++ [⟨L, L⟩]) ∧ J ys W') ∨ (∃ pre, True ∧ Jx pre W')) := by
  have h0 : W.cell? ⟨B, 0, none⟩ = some (.int .i64 L) := (blk_cell hB 0).trans rfl
  have h1 : W.cell? ⟨B, 1, none⟩ = some (.slice A ps.length c) := (blk_cell hB 1).trans rfl
  refine callsIn_of_wp Try.func69 rfl trivial ?_ rfl
  simp only [Try.ntmps69, List.size_toArray, List.length_cons, List.length_nil, Nat.reduceAdd, Nat.reduceSub, Array.replicate_succ, Array.replicate_zero, List.push_toArray, List.append_toArray, List.nil_append, List.cons_append]
  gi_wp2_with fail
  refine wpIn_wide.2 ?_
  go_cut [16, 17, 18] from 7 to 18 (fun v16 v17 v18 wc => ∃ (g cap : Nat), v16 = .slice (some ⟨g, 0, none⟩) (ps.length + 1) cap ∧ v17 = .int .i64 ((ps.length : Int) + 1) ∧ v18 = .int .i64 0 ∧ Aside0 (Below W.heap.size W wc) ∧ Aside0 (Kd.R k35 35 wc W.heap.size (fun k => k = g) (.slice (some ⟨g, 0, none⟩) (ps.length + 1) cap) (ps ++ [⟨L, L⟩])))
  case first =>
    have hsz : B < W.heap.size := blk_lt hB
    have HR := Aside0.mk hR
    have HC := Aside0.mk hc
    have HD := Aside0.mk (Below.refl W.heap.size W).drew
    have HA := Aside0.mk ((Below.refl W.heap.size W).alloc (Nat.le_refl _) (.cells #[.int .i64 L, .int .i64 L] 35)).drew
    have HN : Aside0 ((W.alloc (.cells #[.int .i64 L, .int .i64 L] 35)).drew.heap[W.heap.size]? = some (.cells #[.int .i64 L, .int .i64 L] 35 (0, 0))) := ⟨blk_new W _⟩
    have HB0 : Aside0 (W.drew.heap[B]? = some (.cells #[.int .i64 L, .slice A ps.length c, .int .i64 long, .int .i64 short] 32 (0, 0))) := ⟨hB⟩
    have HB2 : Aside0 ((W.alloc (.cells #[.int .i64 L, .int .i64 L] 35)).drew.heap[B]? = some (.cells #[.int .i64 L, .slice A ps.length c, .int .i64 long, .int .i64 short] 32 (0, 0))) := ⟨blk_alloc hB _⟩
    have HCA := Aside0.mk (Kd.C_below hR HA.out)
    clear hR hc hY hJ hps hob
    go_region_held3 (fun w' : World => w'.cell? ⟨B, 0, none⟩ = some (.int .i64 L) ∧ w'.cell? ⟨B, 1, none⟩ = some (.slice A ps.length c)) (first | exact ⟨h0, h1⟩ | exact ⟨h0', h1'⟩ | exact ⟨(hb1.cell (p := ⟨B, 0, none⟩) hsz).trans h0, (hb1.cell (p := ⟨B, 1, none⟩) hsz).trans h1⟩ | go_keep) (first
      | (refine Kd.R_append_step k35 (w0 := W) W.heap.size ?hw (.tmp 9) (.tmp 15) 27 35 (.agg #[(.int .i64 0), (.int .i64 0)]) 16 rfl Try.underlying27 info35 rfl (by decide) (by decide) _ ps ⟨L, L⟩ [.int .i64 L, .int .i64 L] (fun _ => True) (fun _ => False) rfl rfl ?hp ?hokp ?hfresh ?HO ?HB ?hbase ?hl ?_; (case hw => rfl); (case hp => exact k35_mkM _ _ _ ⟨L, L⟩); (case hokp => intro k hk; exact hk.elim); (case hfresh => intro _ _; trivial); (case HO => exact Kd.R_lower hv (by simp)); (case HB => first | exact hB1.out | exact hB1.out.drew); (case hbase => exact hB1.out.size); (case hl => omega); intro v1 w1 hv1 hb1 _ _; obtain ⟨g, cap, rfl, hge⟩ := R35_snoc hv1)
      | (refine Kd.R_append_rows_step k35 (Rr := k35.K w') (w0 := W) W.heap.size ?hw (.tmp 9) (.tmp 15) 27 35 (.agg #[(.int .i64 0), (.int .i64 0)]) 16 rfl Try.underlying27 info35 rfl (by decide) (by decide) v ps [⟨L, L⟩] (some ⟨W.heap.size, 0, none⟩) 1 1 (fun _ => True) (fun _ => False) rfl rfl ?HO ?HR ?hKM ?hokp ?hfresh ?HB ?hbase ?hl ?_; (case hw => rfl); (case HO => exact Kd.R_lower hv (by simp)); (case HR => exact rowLL hrow); (case hKM => intro x cs hx; obtain rfl := k35_open hx; exact k35_mkM _ _ _ x); (case hokp => intro k hk; exact hk.elim); (case hfresh => intro _ _; trivial); (case HB => exact hB1.out); (case hbase => exact hB1.out.size); (case hl => omega); intro v1 w1 hv1 hb1 _ _; obtain ⟨g, cap, rfl, hge⟩ := R35_snoc hv1)
      | (go_at_call 70; refine (clone35 A c ps _ ?h1 HC.out (by omega)).mono ?_; (case h1 => first | exact HR.out | exact HCA.out); rintro e w' ⟨v, rfl, hv, hbv⟩; have hb2 := blk_below (o := .cells #[.int .i64 L, .slice A ps.length c, .int .i64 long, .int .i64 short] 32 (0, 0)) (by first | exact HB0.out | exact HB2.out) hbv; have h0' : w'.cell? ⟨B, 0, none⟩ = some (.int .i64 L) := (blk_cell hb2 0).trans rfl; have h1' : w'.cell? ⟨B, 1, none⟩ = some (.slice A ps.length c) := (blk_cell hb2 1).trans rfl; first | (have hB1 : Aside0 (Below W.heap.size W w') := ⟨below_then HD.out (Nat.le_refl _) hbv⟩) | (have hB1 : Aside0 (Below W.heap.size W w') := ⟨below_then HA.out HA.out.size hbv⟩; have hrow := blk_below HN.out hbv)))
    all_goals
      go_wp2_with fail
      go_meet
      case rel => exact ⟨g, cap, rfl, by first | rfl | simp, rfl, ⟨hb1⟩, ⟨R35_narrow hv1 rfl⟩⟩
  case rest =>
    obtain ⟨g, cap, rfl, rfl, rfl, HB, HR⟩ := hcut
    have hobl : ob < W.heap.size := World.block_lt_of_cell? W _ hob
    have hobc : wc.cell? ⟨ob, 0, none⟩ = some (.slice none 0 0) := (HB.out.cell (p := ⟨ob, 0, none⟩) hobl).trans hob
    have HM0 : ∀ k, mineAt ob wc k ↔ k = ob := fun k => by unfold mineAt; rw [hobc]; simp
    have HG := Aside0.mk (show W.heap.size ≤ g from own_base (Classical.choose_spec (Kd.R_own HR.out)) g rfl)
    have HM := Aside0.mk (show ¬ mineAt ob wc g from fun h => by have := (HM0 g).1 h; have := HG.out; omega)
    have HF := Aside0.mk (show FineAt ob wc from fun k hk => by have := (HM0 k).1 hk; have := HB.out.size; omega)
    have HJ := Aside0.mk (hJ [] W wc none hJ0 (grown_of_below HB.out none) (fun r e => by cases e))
    have HBd := Aside0.mk (show ∀ p ∈ ps ++ [(⟨L, L⟩ : S35)], 0 ≤ p.f0 ∧ p.f0 ≤ 36000 ∧ 0 ≤ p.f1 ∧ p.f1 ≤ 36000 from fun p hp => by
      rcases List.mem_append.1 hp with hp | hp
      · exact hps p hp
      · simp at hp; subst hp; simp; omega)
    have HYY := Aside0.mk hY
    have HJA := Aside0.mk hJ
    clear hps hR hc hobc HM0 h0 h1 hY hob hJ
    have hn1 : (ps ++ [(⟨L, L⟩ : S35)]).length = ps.length + 1 := by simp
    have HW := Aside0.mk HB.out.size
    obtain ⟨es, hes⟩ : ∃ es, es = ps ++ [(⟨L, L⟩ : S35)] := ⟨_, rfl⟩
    rw [← hes] at hn1 HR HBd
    obtain ⟨m, hm⟩ : ∃ m, m = ps.length + 1 := ⟨_, rfl⟩
    have hmI : (ps.length : Int) + 1 = (m : Int) := by omega
    rw [← hm] at hn1 HR HYY
    have hm36 : m ≤ 36001 := by omega
    simp only [hmI, ← hm] at *
    clear hmI hm HB
    gi_wp2
    gi_loopw [3, 18] (fun v3 v18 wr => ∃ (k : Nat) (a : Int) (pre : List Str), k ≤ m ∧ 0 ≤ a ∧ a ≤ 36000 ∧ v3 = .int .i64 a ∧ v18 = .int .i64 k ∧ Aside0 (strP 0 es = pre.map (·.1) ++ strP a (es.drop k)) ∧ Aside0 (pre.length ≤ k) ∧ Aside0 (J pre wr) ∧ Aside0 (Kd.R k35 35 wr W.heap.size (fun k => k = g) (.slice (some ⟨g, 0, none⟩) m cap) es) ∧ Aside0 (¬ mineAt ob wr g) ∧ Aside0 (FineAt ob wr) ∧ Aside0 (W.heap.size ≤ wr.heap.size)) (fun _ v18 _ => m - (intOf v18).toNat)
    case atStart => exact ⟨0, 0, [], Nat.zero_le _, by omega, by omega, rfl, rfl, ⟨rfl⟩, ⟨Nat.le_refl _⟩, HJ, HR, HM, HF, HW⟩
    case round =>
      clear HJ HR HM HF
      obtain ⟨k, a, pre, hk, ha0, ha1, rfl, rfl, HP, HL, HJ, HR, HM, HF, HS⟩ := hrel
      by_cases hlt : k < m
      · have hC : Kd.C k35 wr (some ⟨g, 0, none⟩) es.length es := by
          obtain ⟨A2, c2, he, _, hC⟩ := Kd.R_reads HR.out
          cases he
          exact hC
        obtain ⟨ad, e, hx0, hx1⟩ := at35 hC k (by omega)
        cases e
        clear hC
        simp only [add_plain] at hx0 hx1
        obtain ⟨p, hp⟩ : ∃ p, p = es[k] := ⟨_, rfl⟩
        rw [← hp] at hx0 hx1
        have hbd := HBd.out p (by rw [hp]; exact List.getElem_mem _)
        have HD := Aside0.mk (drop_cons' es k (by omega))
        rw [← hp] at HD
        clear hp
        have hglt : g < wr.heap.size := own_lt (Classical.choose_spec (Kd.R_own HR.out)) g rfl
        have hlong : ∀ X : World, Calls Try.prog 61 #[.agg #[.int .i64 a, .int .i64 p.f0]] X fun e w' => e = .returned (.int .i64 (p.f0 - a)) ∧ Below X.heap.size X w' := fun X => take_Span_long.calls a p.f0 _ X (by rw [take_Span_long.f, IntWalk.wrap64_in _ (by omega)])
        have HT : ∀ w' : World, Below ((wr.alloc (.cells #[.int .i64 p.f0, .int .i64 p.f1] 35)).alloc (.cells #[.int .i64 a, .int .i64 p.f0] 35)).heap.size ((wr.alloc (.cells #[.int .i64 p.f0, .int .i64 p.f1] 35)).alloc (.cells #[.int .i64 a, .int .i64 p.f0] 35)) w' → Aside0 (w'.heap[wr.heap.size]? = some (.cells #[.int .i64 p.f0, .int .i64 p.f1] 35 (0, 0))) ∧ Aside0 (w'.heap[wr.heap.size + 1]? = some (.cells #[.int .i64 a, .int .i64 p.f0] 35 (0, 0))) ∧ Aside0 (Below wr.heap.size wr w') := fun w' hb => by
          refine ⟨⟨blk_below (blk_alloc (blk_new wr _) _) hb⟩, ⟨?_⟩, ⟨below_then (((Below.refl _ _).alloc (Nat.le_refl _) _).alloc (by simp) _) (by simp; omega) hb⟩⟩
          have := blk_below (blk_new (wr.alloc (.cells #[.int .i64 p.f0, .int .i64 p.f1] 35)) (.cells #[.int .i64 a, .int .i64 p.f0] 35)) hb
          simpa using this
        have HT' := Aside0.mk HT
        clear HT
        have HK : ∀ w' : World, Below wr.heap.size wr w' → Aside0 (Kd.R k35 35 w' W.heap.size (fun k => k = g) (.slice (some ⟨g, 0, none⟩) m cap) es) ∧ Aside0 (¬ mineAt ob w' g) ∧ Aside0 (FineAt ob w') ∧ Aside0 (W.heap.size ≤ w'.heap.size) ∧ Aside0 (¬ mineAt ob w' wr.heap.size) := fun w' hb => by
          have hc : w'.cell? ⟨ob, 0, none⟩ = wr.cell? ⟨ob, 0, none⟩ := hb.cell (p := ⟨ob, 0, none⟩) (by have := HS.out; show ob < _; omega)
          refine ⟨⟨Kd.R_below HR.out hb⟩, ⟨fun h => HM.out ((mineAt_of hc g).1 h)⟩, ⟨HF.out.of hc hb.size⟩, ⟨by have := HS.out; have := hb.size; omega⟩, ⟨fun h => ?_⟩⟩
          have := HF.out _ ((mineAt_of hc _).1 h)
          omega
        have HK' := Aside0.mk HK
        clear HK
        by_cases c1 : p.f0 - a > 0
        · gi_wp2_with (refine ⟨trivial, fun h => (by cases h), ?_⟩; gi_at_call 61; refine (callsIn_wide.2 (hlong _)).mono ?_; rintro e w' ⟨rfl, hbb⟩; obtain ⟨B1, B2, HBB⟩ := HT'.out w' hbb; clear hbb; have hz0 : w'.cell? ⟨wr.heap.size + 1, 0, none⟩ = some (.int .i64 a) := (blk_cell B2.out 0).trans rfl; have hz1 : w'.cell? ⟨wr.heap.size + 1, 1, none⟩ = some (.int .i64 p.f0) := (blk_cell B2.out 1).trans rfl; obtain ⟨fn0, tmps0, assign0, body0, hy, hRR⟩ := HYY.out pre ⟨⟨a, p.f0⟩, ha0, by dsimp only; omega, hbd.2.1⟩ w' (HJA.out pre wr w' none HJ.out (grown_of_below HBB.out none) (fun r e => (by cases e))) (by have := HL.out; omega); dsimp only at hy)
          refine ⟨fun h => (by cases h), hRR.mono ?_⟩
          obtain ⟨HR', HM', HF', HS', HN'⟩ := HK'.out w' HBB.out
          rintro e W3 (⟨rfl, hJ3, hk3⟩ | ⟨rfl, hJx3⟩)
          · obtain ⟨hb3, _⟩ := hk3.keep _ _ _ _ B1.out HN'.out
            have hz3 : W3.cell? ⟨wr.heap.size, 1, none⟩ = some (.int .i64 p.f1) := (blk_cell hb3 1).trans rfl
            obtain ⟨cs, hcs⟩ := own_typed (Classical.choose_spec (Kd.R_own HR'.out)) g rfl
            obtain ⟨hg3, hm3⟩ := hk3.keep _ _ _ _ hcs HM'.out
            have HR3 := Aside0.mk (Kd.R_step HR'.out (fun k hk _ => by rw [hk, hg3, hcs]))
            have HF3 := Aside0.mk (hk3.fine HF'.out)
            have HS3 := Aside0.mk (Nat.le_trans HS'.out hk3.size)
            have HP3 : Aside0 (strP 0 es = (pre ++ [(⟨⟨a, p.f0⟩, ha0, by dsimp only; omega, hbd.2.1⟩ : Str)]).map (·.1) ++ strP p.f1 (es.drop (k + 1))) := ⟨by rw [HP.out, HD.out, strP, if_pos c1]; simp⟩
            have HJ3 := Aside0.mk hJ3
            have HM3 := Aside0.mk hm3
            clear hb3 hg3 hm3 hcs hk3 hJ3
            gi_wp2
            go_roundw
            case rel => exact ⟨k + 1, p.f1, pre ++ [⟨⟨a, p.f0⟩, ha0, by dsimp only; omega, hbd.2.1⟩], by omega, by omega, by omega, rfl, by go_num, HP3, ⟨by have := HL.out; simp; omega⟩, HJ3, HR3, HM3, HF3, HS3⟩
            case measure => simp [intOf]; omega
          · gi_wp2
            refine bodyPost_ret (results_none rfl _ _ _) rfl ?_
            exact ⟨⟨_, rfl⟩, .inr ⟨_, trivial, hJx3⟩⟩
        · gi_wp2_with (refine ⟨trivial, fun h => (by cases h), ?_⟩; gi_at_call 61; refine (callsIn_wide.2 (hlong _)).mono ?_; rintro e w' ⟨rfl, hbb⟩; obtain ⟨B1, B2, HBB⟩ := HT'.out w' hbb; clear hbb; have hz3 : w'.cell? ⟨wr.heap.size, 1, none⟩ = some (.int .i64 p.f1) := (blk_cell B1.out 1).trans rfl)
          refine ⟨fun _ h => (by cases h), ?_⟩
          obtain ⟨HR', HM', HF', HS', _⟩ := HK'.out w' HBB.out
          have HP3 : Aside0 (strP 0 es = pre.map (·.1) ++ strP p.f1 (es.drop (k + 1))) := ⟨by rw [HP.out, HD.out, strP, if_neg (by omega)]⟩
          have HJ3 := Aside0.mk (HJA.out pre wr w' none HJ.out (grown_of_below HBB.out none) (fun r e => (by cases e)))
          gi_wp2
          go_roundw
          case rel => exact ⟨k + 1, p.f1, pre, by omega, by omega, by omega, rfl, by go_num, HP3, ⟨by have := HL.out; omega⟩, HJ3, HR', HM', HF', HS'⟩
          case measure => simp [intOf]; omega
      · have HE : Aside0 (strP 0 es = pre.map (·.1)) := ⟨by rw [HP.out, List.drop_eq_nil_of_le (by omega), strP, List.append_nil]⟩
        gi_wp2
        go_end0
        exact ⟨⟨_, rfl⟩, .inl ⟨pre, by rw [← hes, HE.out], HJ.out⟩⟩
end Go.Proofs.Ytillieimgjdpbaa.Pr
