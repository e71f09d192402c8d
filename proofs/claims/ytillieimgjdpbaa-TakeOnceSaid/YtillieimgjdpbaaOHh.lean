/- Contracts by hand: whether a reporter may have a take. -/
import Derived.Test.YtillieimgjdpbaaOHg
namespace Go.Proofs.Ytillieimgjdpbaa.Pr
open Go.RowKit Go.Proofs.YtillieimgjdpbaaW.PrintWords Go.Proofs.YtillieimgjdpbaaW.PrintLast Go.Proofs.YtillieimgjdpbaaW.PrintMore
set_option linter.unusedVariables false
set_option linter.unusedSimpArgs false
/-- A state: the next take, and which take each reporter had last. -/
structure Sx where
  k : Int
  h0 : Int
  h1 : Int
  h2 : Int
  h3 : Int
  h4 : Int
def Sx.hs (s : Sx) : List Int := [s.h0, s.h1, s.h2, s.h3, s.h4]
def Sx.get (s : Sx) (r : Int) : Int := s.hs.getD r.toNat 0
def Sx.cells (s : Sx) : Array Value := #[.int .i64 s.k, .int .i64 s.h0, .int .i64 s.h1, .int .i64 s.h2, .int .i64 s.h3, .int .i64 s.h4]
theorem Sx.cell (s : Sx) (r : Int) (h0 : 0 ≤ r) (h1 : r < 5) : s.cells[1 + r.toNat]? = some (.int .i64 (s.get r)) := by
  obtain rfl | rfl | rfl | rfl | rfl : r = 0 ∨ r = 1 ∨ r = 2 ∨ r = 3 ∨ r = 4 := by omega
  all_goals rfl
def mayP (W : Wk) (s : Sx) (r : Int) : Bool :=
  !(decide (worstP W s.k r > (rd_T35 W.T s.k).f1 + W.due)) && (decide (s.get r = -1) || decide (worstP W (s.get r) r + (rd_T99 W.C r).f1 ≤ (rd_T35 W.T s.k).f0))
theorem worst_range (W : Wk) (hn : W.Ok) (k r : Int) (k0 : 0 ≤ k) (k1 : k < W.T.length) (r0 : 0 ≤ r) (r1 : r < W.C.length) : 0 ≤ worstP W k r ∧ worstP W k r ≤ 1000000 := by
  have ht := hn.tk' k k0 k1
  have hr := hn.cr' r r0 r1
  have e0 := hn.e0
  have e1 := hn.e1
  have hm0 : 0 ≤ ((rd_T35 W.T k).f1 - (rd_T35 W.T k).f0) * (rd_T99 W.C r).f0.f1 := Int.mul_nonneg (by omega) (by omega)
  have hm1 : ((rd_T35 W.T k).f1 - (rd_T35 W.T k).f0) * (rd_T99 W.C r).f0.f1 ≤ 36000 * 20 := Int.mul_le_mul (by omega) (by omega) (by omega) (by omega)
  unfold worstP doneP
  omega
set_option maxHeartbeats 4000000 in
theorem may53 (W : Wk) (hn : W.Ok) (w : World) (p : Nat) {A1 : Option Addr} {n1 c1 : Nat} {lo sh : Int} {AC : Option Addr} {cC : Nat} {AT : Option Addr} {cT : Nat} (h : W.At w p A1 n1 c1 lo sh AC cC AT cT)
    (s : Sx) (r : Int) (k0 : 0 ≤ s.k) (k1 : s.k < W.T.length) (r0 : 0 ≤ r) (r1 : r < W.C.length) (g0 : -1 ≤ s.get r) (g1 : s.get r < s.k) :
    Calls Try.prog 53 #[.pointer (some ⟨p, 0, none⟩), .agg s.cells, .int .i64 r] w fun e w' => e = .returned (.bool (mayP W s r)) ∧ Below w.heap.size w w' := by
  have hb0 : Below w.heap.size w (w.alloc (.cells s.cells 110)) := below_alloc (Below.refl _ _) _
  have hw0 := h.below hb0
  obtain ⟨ad, hA, t0, t1⟩ := at_T35 hw0.tk s.k k0 k1
  obtain ⟨bd, hBd, q0, q1, q2⟩ := at_T99 hw0.cr r r0 r1
  subst hA hBd
  have u4 : (w.alloc (.cells s.cells 110)).cell? ⟨p, 4, none⟩ = some (.slice (some bd) W.C.length cC) := (blk_cell hw0.blk 4).trans rfl
  have u5 : (w.alloc (.cells s.cells 110)).cell? ⟨p, 5, none⟩ = some (.int .i64 W.due) := (blk_cell hw0.blk 5).trans rfl
  have u7 : (w.alloc (.cells s.cells 110)).cell? ⟨p, 7, none⟩ = some (.slice (some ad) W.T.length cT) := (blk_cell hw0.blk 7).trans rfl
  have b0 : (w.alloc (.cells s.cells 110)).cell? ⟨w.heap.size, 0, none⟩ = some (.int .i64 s.k) := (blk_cell (blk_new w (.cells s.cells 110)) 0).trans rfl
  have b1 : (w.alloc (.cells s.cells 110)).cell? ⟨w.heap.size, 1 + r.toNat, none⟩ = some (.int .i64 (s.get r)) := (blk_cell (blk_new w (.cells s.cells 110)) _).trans (s.cell r r0 (by have := hn.c1; omega))
  have HALL : Aside0 (∀ X : World, Below (w.alloc (.cells s.cells 110)).heap.size (w.alloc (.cells s.cells 110)) X → W.At X p A1 n1 c1 lo sh (some bd) cC (some ad) cT) := ⟨fun X hX => hw0.below hX⟩
  have HC1 : Aside0 (∀ X : World, Below (w.alloc (.cells s.cells 110)).heap.size (w.alloc (.cells s.cells 110)) X → Calls Try.prog 48 #[.pointer (some ⟨p, 0, none⟩), .int .i64 s.k, .int .i64 r] X fun e w' => e = .returned (.int .i64 (worstP W s.k r)) ∧ Below X.heap.size X w') :=
    ⟨fun X hX => worst48 W hn X p (HALL.out X hX) s.k r k0 k1 r0 r1⟩
  have HC2 : Aside0 (0 ≤ s.get r → ∀ X : World, Below (w.alloc (.cells s.cells 110)).heap.size (w.alloc (.cells s.cells 110)) X → Calls Try.prog 48 #[.pointer (some ⟨p, 0, none⟩), .int .i64 (s.get r), .int .i64 r] X fun e w' => e = .returned (.int .i64 (worstP W (s.get r) r)) ∧ Below X.heap.size X w') :=
    ⟨fun hg X hX => worst48 W hn X p (HALL.out X hX) (s.get r) r hg (by omega) r0 r1⟩
  have HM : Aside0 (mayP W s r = (!(decide (worstP W s.k r > (rd_T35 W.T s.k).f1 + W.due)) && (decide (s.get r = -1) || decide (worstP W (s.get r) r + (rd_T99 W.C r).f1 ≤ (rd_T35 W.T s.k).f0)))) := ⟨rfl⟩
  have hx1 := worst_range W hn s.k r k0 k1 r0 r1
  have hx2 : 0 ≤ s.get r → 0 ≤ worstP W (s.get r) r ∧ worstP W (s.get r) r ≤ 1000000 := fun hg => worst_range W hn (s.get r) r hg (by omega) r0 r1
  have hx3 := hn.tk' s.k k0 k1
  have hx4 := hn.cr' r r0 r1
  have d0 := hn.d0
  have d1 := hn.d1
  have HB0 := Aside0.mk hb0
  obtain ⟨mv, hmv⟩ : ∃ m, m = mayP W s r := ⟨_, rfl⟩
  rw [← hmv] at HM ⊢
  clear hmv
  obtain ⟨f0, hf0⟩ : ∃ v, v = (rd_T35 W.T s.k).f0 := ⟨_, rfl⟩
  obtain ⟨f1, hf1⟩ : ∃ v, v = (rd_T35 W.T s.k).f1 := ⟨_, rfl⟩
  obtain ⟨rest, hrest⟩ : ∃ v, v = (rd_T99 W.C r).f1 := ⟨_, rfl⟩
  obtain ⟨due, hdue⟩ : ∃ v, v = W.due := ⟨_, rfl⟩
  obtain ⟨x1, hx1'⟩ : ∃ v, v = worstP W s.k r := ⟨_, rfl⟩
  obtain ⟨x2, hx2'⟩ : ∃ v, v = worstP W (s.get r) r := ⟨_, rfl⟩
  obtain ⟨nT, hnT⟩ : ∃ v, v = W.T.length := ⟨_, rfl⟩
  obtain ⟨nC, hnC⟩ : ∃ v, v = W.C.length := ⟨_, rfl⟩
  have hnTb : nT ≤ 40 := hnT ▸ hn.t
  have hnCb : nC ≤ 5 := hnC ▸ hn.c1
  rw [← hf0] at t0 hx3 HM
  rw [← hf1] at t1 hx3 HM
  rw [← hrest] at q2 hx4 HM
  rw [← hdue] at u5 HM d0 d1
  rw [← hx1'] at hx1 HC1 HM
  rw [← hx2'] at hx2 HC2 HM
  rw [← hnT] at u7 k1
  rw [← hnC] at u4 r1
  clear hf0 hf1 hrest hdue hx1' hx2' hnT hnC HALL hw0 h hn hb0 q0 q1
  obtain ⟨last, hlast⟩ : ∃ v, v = s.get r := ⟨_, rfl⟩
  rw [← hlast] at b1 hx2 HC2 HM g0 g1
  obtain ⟨k, hk⟩ : ∃ v, v = s.k := ⟨_, rfl⟩
  rw [← hk] at b0 HC1 k0 k1 g1 t0 t1
  obtain ⟨cs, hcs⟩ : ∃ v, v = s.cells := ⟨_, rfl⟩
  have hsz : cs.size = 6 := by rw [hcs]; rfl
  rw [← hcs] at u4 u5 u7 b0 b1 t0 t1 q2 HC1 HC2 HB0 ⊢
  clear hlast hk hcs
  have hbr : Aside0 (Below (w.alloc (.cells cs 110)).heap.size (w.alloc (.cells cs 110)) (w.alloc (.cells cs 110)).drew) := ⟨below_drew (Below.refl _ _)⟩
  have hmo : Try.prog.follows .mixedOrders = true := by kernel_rfl
  by_cases hc1 : x1 > f1 + due
  · go_enter Try.func53, Try.ntmps53
    go_wp2_with fail
    go_region_held3 (fun w' : World => w'.cell? ⟨w.heap.size, 0, none⟩ = some (.int .i64 k) ∧ w'.cell? ⟨w.heap.size, 1 + r.toNat, none⟩ = some (.int .i64 last) ∧ w'.cell? ⟨p, 4, none⟩ = some (.slice (some bd) nC cC) ∧ w'.cell? ⟨p, 5, none⟩ = some (.int .i64 due) ∧ w'.cell? ⟨p, 7, none⟩ = some (.slice (some ad) nT cT) ∧ w'.cell? (ad.add (k.toNat * 2)) = some (.int .i64 f0) ∧ w'.cell? ⟨(ad.add (k.toNat * 2)).block, (ad.add (k.toNat * 2)).off + 1, none⟩ = some (.int .i64 f1) ∧ w'.cell? ⟨(bd.add (r.toNat * 3)).block, (bd.add (r.toNat * 3)).off + 2, none⟩ = some (.int .i64 rest)) (first | go_keep | exact ⟨pw_cell_below hb b0, pw_cell_below hb b1, pw_cell_below hb u4, pw_cell_below hb u5, pw_cell_below hb u7, pw_cell_below hb t0, pw_cell_below hb t1, pw_cell_below hb q2⟩) (first
      | (go_at_call 48; refine (HC1.out _ hbr.out).mono ?_; rintro e w' ⟨rfl, hb⟩))
    rename_i hHeld
    have hd : decide (IntKind.i64.wrap (f1 + due) < x1) = true := by rw [i64_w, win _ (by omega)]; exact decide_eq_true hc1
    rw [hd]
    go_wp2_with fail
    go_ret
    exact ⟨by rw [HM.out, decide_eq_true hc1]; rfl, HB0.out.trans ((below_drew (Below.refl _ _)).trans (hb.mono HB0.out.size))⟩
  · have hm2 : Aside0 (mv = (decide (last = -1) || decide (x2 + rest ≤ f0))) := ⟨by rw [HM.out, decide_eq_false hc1]; simp⟩
    clear HM
    by_cases hl : last = -1
    · have hm3 : Aside0 (mv = true) := ⟨by rw [hm2.out, decide_eq_true hl]; rfl⟩
      clear hm2
      subst hl
      go_enter Try.func53, Try.ntmps53
      go_wp2_with fail
      go_region_held3 (fun w' : World => w'.cell? ⟨w.heap.size, 0, none⟩ = some (.int .i64 k) ∧ w'.cell? ⟨w.heap.size, 1 + r.toNat, none⟩ = some (.int .i64 (-1)) ∧ w'.cell? ⟨p, 4, none⟩ = some (.slice (some bd) nC cC) ∧ w'.cell? ⟨p, 5, none⟩ = some (.int .i64 due) ∧ w'.cell? ⟨p, 7, none⟩ = some (.slice (some ad) nT cT) ∧ w'.cell? (ad.add (k.toNat * 2)) = some (.int .i64 f0) ∧ w'.cell? ⟨(ad.add (k.toNat * 2)).block, (ad.add (k.toNat * 2)).off + 1, none⟩ = some (.int .i64 f1) ∧ w'.cell? ⟨(bd.add (r.toNat * 3)).block, (bd.add (r.toNat * 3)).off + 2, none⟩ = some (.int .i64 rest)) (first | go_keep | exact ⟨pw_cell_below hb b0, pw_cell_below hb b1, pw_cell_below hb u4, pw_cell_below hb u5, pw_cell_below hb u7, pw_cell_below hb t0, pw_cell_below hb t1, pw_cell_below hb q2⟩) (first
        | (go_at_call 48; refine (HC1.out _ hbr.out).mono ?_; rintro e w' ⟨rfl, hb⟩))
      rename_i hHeld
      obtain ⟨b0', b1', u4', u5', u7', t0', t1', q2'⟩ := hHeld
      have hd : decide (IntKind.i64.wrap (f1 + due) < x1) = false := by rw [i64_w, win _ (by omega)]; exact decide_eq_false (by omega)
      rw [hd]
      have hBw : Below w.heap.size w w' := HB0.out.trans ((below_drew (Below.refl _ _)).trans (hb.mono HB0.out.size))
      clear b0 b1 u4 u5 u7 t0 t1 q2
      go_wp2_with fail
      go_quiet (fail)
      go_wp2_with fail
      go_ret
      exact ⟨by rw [hm3.out]; rfl, pw_below_drewN hBw _⟩
    · have hm3 : Aside0 (mv = decide (x2 + rest ≤ f0)) := ⟨by rw [hm2.out, decide_eq_false hl]; rfl⟩
      clear hm2
      obtain ⟨m, rfl⟩ := Int.eq_ofNat_of_zero_le (show 0 ≤ last by omega)
      go_enter Try.func53, Try.ntmps53
      go_wp2_with fail
      go_region_held3 (fun w' : World => w'.cell? ⟨w.heap.size, 0, none⟩ = some (.int .i64 k) ∧ w'.cell? ⟨w.heap.size, 1 + r.toNat, none⟩ = some (.int .i64 (m : Int)) ∧ w'.cell? ⟨p, 4, none⟩ = some (.slice (some bd) nC cC) ∧ w'.cell? ⟨p, 5, none⟩ = some (.int .i64 due) ∧ w'.cell? ⟨p, 7, none⟩ = some (.slice (some ad) nT cT) ∧ w'.cell? (ad.add (k.toNat * 2)) = some (.int .i64 f0) ∧ w'.cell? ⟨(ad.add (k.toNat * 2)).block, (ad.add (k.toNat * 2)).off + 1, none⟩ = some (.int .i64 f1) ∧ w'.cell? ⟨(bd.add (r.toNat * 3)).block, (bd.add (r.toNat * 3)).off + 2, none⟩ = some (.int .i64 rest)) (first | go_keep | exact ⟨pw_cell_below hb b0, pw_cell_below hb b1, pw_cell_below hb u4, pw_cell_below hb u5, pw_cell_below hb u7, pw_cell_below hb t0, pw_cell_below hb t1, pw_cell_below hb q2⟩) (first
        | (go_at_call 48; refine (HC1.out _ hbr.out).mono ?_; rintro e w' ⟨rfl, hb⟩))
      rename_i hHeld
      obtain ⟨b0', b1', u4', u5', u7', t0', t1', q2'⟩ := hHeld
      have hd : decide (IntKind.i64.wrap (f1 + due) < x1) = false := by rw [i64_w, win _ (by omega)]; exact decide_eq_false (by omega)
      rw [hd]
      have hBw : Below w.heap.size w w' := HB0.out.trans ((below_drew (Below.refl _ _)).trans (hb.mono HB0.out.size))
      have hBw2 : Below (w.alloc (.cells cs 110)).heap.size (w.alloc (.cells cs 110)) w' := (below_drew (Below.refl _ _)).trans hb
      clear b0 b1 u4 u5 u7 t0 t1 q2 hbr
      have hbr : Aside0 (Below (w.alloc (.cells cs 110)).heap.size (w.alloc (.cells cs 110)) w'.drew) := ⟨below_drew hBw2⟩
      have hx2' := hx2 (Int.natCast_nonneg m)
      have HC3 := Aside0.mk (HC2.out (Int.natCast_nonneg m))
      clear hx2 HC1 HC2
      go_wp2_with fail
      go_region_held3 (fun w' : World => w'.cell? ⟨w.heap.size, 0, none⟩ = some (.int .i64 k) ∧ w'.cell? ⟨w.heap.size, 1 + r.toNat, none⟩ = some (.int .i64 (m : Int)) ∧ w'.cell? ⟨p, 4, none⟩ = some (.slice (some bd) nC cC) ∧ w'.cell? ⟨p, 5, none⟩ = some (.int .i64 due) ∧ w'.cell? ⟨p, 7, none⟩ = some (.slice (some ad) nT cT) ∧ w'.cell? (ad.add (k.toNat * 2)) = some (.int .i64 f0) ∧ w'.cell? ⟨(ad.add (k.toNat * 2)).block, (ad.add (k.toNat * 2)).off + 1, none⟩ = some (.int .i64 f1) ∧ w'.cell? ⟨(bd.add (r.toNat * 3)).block, (bd.add (r.toNat * 3)).off + 2, none⟩ = some (.int .i64 rest)) (first | go_keep | exact ⟨pw_cell_below hb2 b0', pw_cell_below hb2 b1', pw_cell_below hb2 u4', pw_cell_below hb2 u5', pw_cell_below hb2 u7', pw_cell_below hb2 t0', pw_cell_below hb2 t1', pw_cell_below hb2 q2'⟩) (first
        | (go_at_call 48; refine (HC3.out _ hbr.out).mono ?_; rintro e w2 ⟨rfl, hb2⟩))
      have hd2 : IntKind.i64.wrap (x2 + rest) = x2 + rest := by rw [i64_w, win _ (by omega)]
      have hd3 : ((m : Int) == -1) = false := beq_eq_false_iff_ne.mpr (by omega)
      have hgo : Below w.heap.size w w2 := hBw.trans ((below_drew (Below.refl _ _)).trans (hb2.mono hBw.size))
      have hval : ((m : Int) == -1 || decide (IntKind.i64.wrap (x2 + rest) ≤ f0)) = mv := by rw [hm3.out, hd2, hd3]; rfl
      rw [hval]
      go_wp2_with fail
      go_ret
      exact ⟨rfl, hgo⟩
end Go.Proofs.Ytillieimgjdpbaa.Pr
