/- Contracts by hand: the first rota; the take that cannot be given. -/
import Derived.Test.YtillieimgjdpbaaOHn
namespace Go.Proofs.Ytillieimgjdpbaa.Pr
open Go.RowKit Go.Proofs.YtillieimgjdpbaaW.PrintWords Go.Proofs.YtillieimgjdpbaaW.PrintLast Go.Proofs.YtillieimgjdpbaaW.PrintMore
set_option linter.unusedVariables false
set_option linter.unusedSimpArgs false
def rotaR (W : Wk) (e : Int) : List Int × Int := if e ≠ 0 then ([], e) else if reachP W (-1) [] < W.T.length then ([], 9) else (rotaP W (-1) [], 0)
def take_Rota.f (a0_0 : Int) (l0_1 : List (S35)) (a0_2 : Int) (a0_3 : Int) (l1_0 : List (S99)) (a1_1 : Int) (a1_2 : Int) : Option (List Int × Int) := some (rotaR (wkOf a0_0 l0_1 a0_2 a0_3 l1_0 a1_1 a1_2) (workE a0_0 l0_1 a0_2 a0_3 l1_0 a1_1 a1_2))
set_option maxRecDepth 100000 in
set_option maxHeartbeats 1000000 in
theorem take_Rota.calls (a0_0 : Int) (A0_1 : Option Addr) (c0_1 : Nat) (l0_1 : List (S35)) (a0_2 : Int) (a0_3 : Int) (A1_0 : Option Addr) (c1_0 : Nat) (l1_0 : List (S99)) (a1_1 : Int) (a1_2 : Int) (r1 : List Int) (r2 : Int) (w : World) (hr0_1 : Kd.C k35 w A0_1 l0_1.length l0_1) (hc0_1 : l0_1.length ≤ c0_1) (hr1_0 : Kd.C k99 w A1_0 l1_0.length l1_0) (hc1_0 : l1_0.length ≤ c1_0) (h : take_Rota.f a0_0 l0_1 a0_2 a0_3 l1_0 a1_1 a1_2 = some (r1, r2)) :
    Calls Try.prog 17 #[.agg #[.int .i64 a0_0, .slice A0_1 l0_1.length c0_1, .int .i64 a0_2, .int .i64 a0_3], .agg #[.slice A1_0 l1_0.length c1_0, .int .i64 a1_1, .int .i64 a1_2]] w fun e w' => ∃ v0_ : Value, e = .returned (.tuple #[v0_, .int .i64 r2]) ∧ Kd.V (Kd.int .i64) 3 w' w.heap.size (fun k_ => (w.heap.size ≤ k_)) v0_ r1 ∧ Below w.heap.size w w' := by
  have hres := Option.some.inj h
  clear h
  obtain ⟨we, hwe⟩ : ∃ x, x = workE a0_0 l0_1 a0_2 a0_3 l1_0 a1_1 a1_2 := ⟨_, rfl⟩
  obtain ⟨W1, hW1⟩ : ∃ X, X = (w.alloc (.cells #[.int .i64 a0_0, .slice A0_1 l0_1.length c0_1, .int .i64 a0_2, .int .i64 a0_3] 32)).alloc (.cells #[.slice A1_0 l1_0.length c1_0, .int .i64 a1_1, .int .i64 a1_2] 52) := ⟨_, rfl⟩
  have hB1 : Below w.heap.size w W1 := hW1 ▸ below_alloc (below_alloc (Below.refl _ _) _) _
  have hwk := work43 a0_0 A0_1 c0_1 l0_1 a0_2 a0_3 A1_0 c1_0 l1_0 a1_1 a1_2 W1 (Kd.C_below hr0_1 hB1) hc0_1 (Kd.C_below hr1_0 hB1) hc1_0
  have hok : we = 0 → (wkOf a0_0 l0_1 a0_2 a0_3 l1_0 a1_1 a1_2).Ok := fun he => wk_ok (hwe.symm.trans he)
  rw [← hwe] at hwk hres
  obtain ⟨W, hW⟩ : ∃ x, x = wkOf a0_0 l0_1 a0_2 a0_3 l1_0 a1_1 a1_2 := ⟨_, rfl⟩
  rw [← hW] at hwk hres hok
  have HB1 := Aside0.mk hB1
  subst hW1
  clear hwe hW hr0_1 hr1_0 hB1
  by_cases he : we = 0
  · have hn := hok he
    have HWK : Aside0 (Calls Try.prog 43 #[.agg #[.int .i64 a0_0, .slice A0_1 l0_1.length c0_1, .int .i64 a0_2, .int .i64 a0_3], .agg #[.slice A1_0 l1_0.length c1_0, .int .i64 a1_1, .int .i64 a1_2]] _ fun e w' => ∃ p, e = .returned (.tuple #[.pointer (some ⟨p, 0, none⟩), .int .i64 0]) ∧ Aside0 (W.Here w' p ∧ Below w.heap.size w w')) := ⟨hwk.mono (fun e w' h => by
      obtain ⟨h1, ⟨h2, _⟩ | ⟨_, p, h3, h4⟩⟩ := h
      · exact absurd he h2
      · exact ⟨p, h3, ⟨h4, below_then HB1.out HB1.out.size h1⟩⟩)⟩
    have hT := hn.t
    rw [rotaR, if_neg (by simp [he])] at hres
    have HRES := Aside0.mk hres
    have HNO := Aside0.mk hn
    clear hwk hok hres hn he
    have HLE : Aside0 (∀ (X : World) (p : Nat), W.Here X p → Calls Try.prog 44 #[.pointer (some ⟨p, 0, none⟩), .slice none 0 0, .int .i64 (-1)] X fun e w' => ∃ v : Value, e = .returned (.tuple #[v, .int .i64 (reachP W (-1) [])]) ∧ Aside0 (Kd.V (Kd.int .i64) 3 w' X.heap.size (fun k_ => (X.heap.size ≤ k_)) v (rotaP W (-1) []) ∧ Below X.heap.size X w')) := ⟨fun X p hX =>
      (least44 W HNO.out X p hX (-1) none 0 [] (Nat.zero_le _) (by simp) ⟨rfl, by decide, fun h => absurd h (by decide)⟩ (Nat.le_refl _)).mono (fun e w' h => by obtain ⟨v, h1, h2, h3⟩ := h; exact ⟨v, h1, ⟨h2, h3⟩⟩)⟩
    obtain ⟨rc, hrc⟩ : ∃ x, x = reachP W (-1) [] := ⟨_, rfl⟩
    obtain ⟨nT, hnT⟩ : ∃ x, x = W.T.length := ⟨_, rfl⟩
    rw [← hrc, ← hnT] at HRES
    rw [← hrc] at HLE
    clear hrc
    have HNT := Aside0.mk hnT
    rw [← hnT] at hT
    clear hnT
    by_cases hd : rc < (nT : Int)
    · have HR2 := Aside0.mk (by have := HRES.out; rwa [if_pos hd] at this)
      clear HRES
      have hdb : decide (rc < (nT : Int)) = true := decide_eq_true hd
      go_enter Try.func17, Try.ntmps17
      go_wp2_with (first | (go_at_call 43; refine (HWK.out).mono ?_; rintro e w' ⟨p, rfl, hX⟩) | (go_at_call 44; refine (HLE.out _ p hX.out.1).mono ?_; rintro e w2 ⟨v, rfl, hV⟩; obtain ⟨A1, n1, c1, lo, sh, AC, cC, AT, cT, hA⟩ := hX.out.1.below hV.out.2; have u7 : w2.cell? ⟨p, 7, none⟩ = some (.slice AT nT cT) := (blk_cell hA.blk 7).trans (by rw [HNT.out]; rfl); clear hA))
      go_ret2
      obtain ⟨rfl, rfl⟩ := Prod.mk.inj HR2.out
      exact ⟨_, rfl, Kd.V_nil _ _ _ _ _, hX.out.2.trans (hV.out.2.mono hX.out.2.size)⟩
    · have HR2 := Aside0.mk (by have := HRES.out; rwa [if_neg hd] at this)
      clear HRES
      have hdb : decide (rc < (nT : Int)) = false := decide_eq_false hd
      go_enter Try.func17, Try.ntmps17
      go_wp2_with (first | (go_at_call 43; refine (HWK.out).mono ?_; rintro e w' ⟨p, rfl, hX⟩) | (go_at_call 44; refine (HLE.out _ p hX.out.1).mono ?_; rintro e w2 ⟨v, rfl, hV⟩; obtain ⟨A1, n1, c1, lo, sh, AC, cC, AT, cT, hA⟩ := hX.out.1.below hV.out.2; have u7 : w2.cell? ⟨p, 7, none⟩ = some (.slice AT nT cT) := (blk_cell hA.blk 7).trans (by rw [HNT.out]; rfl); clear hA))
      go_ret2
      obtain ⟨rfl, rfl⟩ := Prod.mk.inj HR2.out
      exact ⟨_, rfl, Kd.V_mono hV.out.1 (fun k hk => Nat.le_trans hX.out.2.size hk), hX.out.2.trans (hV.out.2.mono hX.out.2.size)⟩
  · have HWK : Aside0 (Calls Try.prog 43 #[.agg #[.int .i64 a0_0, .slice A0_1 l0_1.length c0_1, .int .i64 a0_2, .int .i64 a0_3], .agg #[.slice A1_0 l1_0.length c1_0, .int .i64 a1_1, .int .i64 a1_2]] _ fun e w' => e = .returned (.tuple #[.pointer none, .int .i64 we]) ∧ Aside0 (Below w.heap.size w w')) := ⟨hwk.mono (fun e w' h => by
      obtain ⟨h1, ⟨_, h2⟩ | ⟨h3, _⟩⟩ := h
      · exact ⟨h2, ⟨below_then HB1.out HB1.out.size h1⟩⟩
      · exact absurd h3 he)⟩
    rw [rotaR, if_pos he] at hres
    have HRES := Aside0.mk hres
    have heb : (we != 0) = true := by simpa using he
    clear hwk hok hres
    go_enter Try.func17, Try.ntmps17
    go_wp2_with (first | (go_at_call 43; refine (HWK.out).mono ?_; rintro e w' ⟨rfl, hX⟩))
    go_ret2
    obtain ⟨rfl, rfl⟩ := Prod.mk.inj HRES.out
    exact ⟨_, rfl, Kd.V_nil _ _ _ _ _, hX.out⟩
end Go.Proofs.Ytillieimgjdpbaa.Pr
