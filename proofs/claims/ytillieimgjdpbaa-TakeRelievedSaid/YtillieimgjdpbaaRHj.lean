/- The map of the states that lead nowhere: its laws. -/
import Derived.Test.YtillieimgjdpbaaRHf
import Derived.Test.YtillieimgjdpbaaRPr5
import Derived.IntWalk
import Derived.Laws.CopyOwn
import Derived.Maps.OwnOps
import Derived.DeepKeys4
namespace Go.Proofs.Ytillieimgjdpbaa.Pr
open Go.RowKit Go.Proofs.YtillieimgjdpbaaW.PrintWords Go.Proofs.YtillieimgjdpbaaW.PrintLast Go.Proofs.YtillieimgjdpbaaW.PrintMore
set_option linter.unusedVariables false
set_option linter.unusedSimpArgs false
/-- A sitting at an office, with its takes. -/
structure Wk where
  L : Int
  T : List S35
  C : List S99
  due : Int
  dl : Int
/-- Its numbers. -/
structure Wk.Ok (W : Wk) : Prop where
  l0 : 1 ≤ W.L
  l1 : W.L ≤ 36000
  t : W.T.length ≤ 40
  c0 : 1 ≤ W.C.length
  c1 : W.C.length ≤ 5
  d0 : 0 ≤ W.due
  d1 : W.due ≤ 36000
  e0 : 0 ≤ W.dl
  e1 : W.dl ≤ 36000
  tk : ∀ t ∈ W.T, 0 ≤ t.f0 ∧ t.f0 < t.f1 ∧ t.f1 ≤ 36000
  cr : ∀ c ∈ W.C, repOk c = true
/-- It lies at a block. -/
structure Wk.At (W : Wk) (w : World) (p : Nat) (A1 : Option Addr) (n1 c1 : Nat) (lo sh : Int) (AC : Option Addr) (cC : Nat) (AT : Option Addr) (cT : Nat) : Prop where
  blk : w.heap[p]? = some (.cells #[.int .i64 W.L, .slice A1 n1 c1, .int .i64 lo, .int .i64 sh, .slice AC W.C.length cC, .int .i64 W.due, .int .i64 W.dl, .slice AT W.T.length cT] 96 (0, 0))
  tk : Kd.C k35 w AT W.T.length W.T
  cr : Kd.C k99 w AC W.C.length W.C
theorem Wk.At.below {W : Wk} {w w' : World} {p : Nat} {A1 : Option Addr} {n1 c1 : Nat} {lo sh : Int} {AC : Option Addr} {cC : Nat} {AT : Option Addr} {cT : Nat} (h : W.At w p A1 n1 c1 lo sh AC cC AT cT) (hb : Below w.heap.size w w') : W.At w' p A1 n1 c1 lo sh AC cC AT cT :=
  ⟨blk_below h.blk hb, Kd.C_below h.tk hb, Kd.C_below h.cr hb⟩
theorem Wk.Ok.tk' {W : Wk} (h : W.Ok) (k : Int) (h0 : 0 ≤ k) (h1 : k < W.T.length) : 0 ≤ (rd_T35 W.T k).f0 ∧ (rd_T35 W.T k).f0 < (rd_T35 W.T k).f1 ∧ (rd_T35 W.T k).f1 ≤ 36000 := by
  have e : rd_T35 W.T k = W.T[k.toNat]'(by omega) := by unfold rd_T35; rw [List.getD_eq_getElem?_getD, List.getElem?_eq_getElem (by omega)]; rfl
  rw [e]
  exact h.tk _ (List.getElem_mem _)
theorem Wk.Ok.cr' {W : Wk} (h : W.Ok) (r : Int) (h0 : 0 ≤ r) (h1 : r < W.C.length) : 0 ≤ (rd_T99 W.C r).f0.f0 ∧ (rd_T99 W.C r).f0.f0 ≤ (rd_T99 W.C r).f0.f1 ∧ (rd_T99 W.C r).f0.f1 ≤ 20 ∧ 0 ≤ (rd_T99 W.C r).f1 ∧ (rd_T99 W.C r).f1 ≤ 36000 := by
  have e : rd_T99 W.C r = W.C[r.toNat]'(by omega) := by unfold rd_T99; rw [List.getD_eq_getElem?_getD, List.getElem?_eq_getElem (by omega)]; rfl
  rw [e]
  have := h.cr _ (List.getElem_mem (h := show r.toNat < W.C.length by omega))
  simp only [repOk, Bool.and_eq_true, decide_eq_true_eq] at this
  omega
def doneP (t : S35) (slow dl : Int) : Int := t.f1 + (t.f1 - t.f0) * slow + dl
def worstP (W : Wk) (k r : Int) : Int := doneP (rd_T35 W.T k) (rd_T99 W.C r).f0.f1 W.dl
theorem win (n : Int) (h : -9223372036854775808 ≤ n ∧ n ≤ 9223372036854775807) : wrap64 n = n := by unfold wrap64; omega
theorem done_some (t : S35) (slow dl : Int) (h0 : 0 ≤ t.f0) (h1 : t.f0 < t.f1) (h2 : t.f1 ≤ 36000) (s0 : 0 ≤ slow) (s1 : slow ≤ 20) (d0 : 0 ≤ dl) (d1 : dl ≤ 36000) :
    take_Span_done.f 5 t.f0 t.f1 slow dl = some (doneP t slow dl) := by
  have hm0 : 0 ≤ (t.f1 - t.f0) * slow := Int.mul_nonneg (by omega) s0
  have hm1 : (t.f1 - t.f0) * slow ≤ 36000 * 20 := Int.mul_le_mul (by omega) s1 s0 (by omega)
  have e1 : wrap64 (t.f1 - t.f0) = t.f1 - t.f0 := win _ (by omega)
  have e2 : wrap64 ((t.f1 - t.f0) * slow) = (t.f1 - t.f0) * slow := win _ (by omega)
  have e3 : wrap64 t.f1 = t.f1 := win _ (by omega)
  have e4 : wrap64 (t.f1 + (t.f1 - t.f0) * slow) = t.f1 + (t.f1 - t.f0) * slow := win _ (by omega)
  have e5 : wrap64 (t.f1 + (t.f1 - t.f0) * slow + dl) = doneP t slow dl := win _ (by omega)
  simp [take_Span_done.f, take_Span_long.f, take_sum.f, take_sum.l0, rd, e1, e2, e3, e4, e5, win 1 (by omega), win 2 (by omega), win 3 (by omega)]
set_option maxHeartbeats 4000000 in
theorem worst48 (W : Wk) (hn : W.Ok) (w : World) (p : Nat) {A1 : Option Addr} {n1 c1 : Nat} {lo sh : Int} {AC : Option Addr} {cC : Nat} {AT : Option Addr} {cT : Nat} (h : W.At w p A1 n1 c1 lo sh AC cC AT cT)
    (k r : Int) (k0 : 0 ≤ k) (k1 : k < W.T.length) (r0 : 0 ≤ r) (r1 : r < W.C.length) :
    Calls Try.prog 48 #[.pointer (some ⟨p, 0, none⟩), .int .i64 k, .int .i64 r] w fun e w' => e = .returned (.int .i64 (worstP W k r)) ∧ Below w.heap.size w w' := by
  obtain ⟨ad, rfl, t0, t1⟩ := at_T35 h.tk k k0 k1
  obtain ⟨bd, rfl, q0, q1, q2⟩ := at_T99 h.cr r r0 r1
  have u4 : w.cell? ⟨p, 4, none⟩ = some (.slice (some bd) W.C.length cC) := (blk_cell h.blk 4).trans rfl
  have u6 : w.cell? ⟨p, 6, none⟩ = some (.int .i64 W.dl) := (blk_cell h.blk 6).trans rfl
  have u7 : w.cell? ⟨p, 7, none⟩ = some (.slice (some ad) W.T.length cT) := (blk_cell h.blk 7).trans rfl
  have hcall : ∀ X : World, Calls Try.prog 47 #[.agg #[.int .i64 (rd_T35 W.T k).f0, .int .i64 (rd_T35 W.T k).f1], .agg #[.int .i64 (rd_T99 W.C r).f0.f1, .int .i64 W.dl]] X fun e w' => e = .returned (.int .i64 (worstP W k r)) ∧ Below X.heap.size X w' := fun X => by
    have ht := hn.tk' k k0 k1
    have hr := hn.cr' r r0 r1
    exact take_Span_done.calls 5 _ _ _ _ _ X (done_some _ _ _ ht.1 ht.2.1 ht.2.2 (by omega) hr.2.2.1 hn.e0 hn.e1)
  have HC := Aside0.mk hcall
  clear hcall h q0 q2
  obtain ⟨v, hv⟩ : ∃ v, v = worstP W k r := ⟨_, rfl⟩
  rw [← hv] at HC ⊢
  clear hv
  obtain ⟨a0, ha0⟩ : ∃ v, v = (rd_T35 W.T k).f0 := ⟨_, rfl⟩
  obtain ⟨a1, ha1⟩ : ∃ v, v = (rd_T35 W.T k).f1 := ⟨_, rfl⟩
  obtain ⟨b1, hb1⟩ : ∃ v, v = (rd_T99 W.C r).f0.f1 := ⟨_, rfl⟩
  obtain ⟨dl, hdl⟩ : ∃ v, v = W.dl := ⟨_, rfl⟩
  rw [← ha0] at t0 HC
  rw [← ha1] at t1 HC
  rw [← hb1] at q1 HC
  rw [← hdl] at u6 HC
  clear ha0 ha1 hb1 hdl
  obtain ⟨nT, hnT⟩ : ∃ v, v = W.T.length := ⟨_, rfl⟩
  obtain ⟨nC, hnC⟩ : ∃ v, v = W.C.length := ⟨_, rfl⟩
  rw [← hnT] at u7 k1
  rw [← hnC] at u4 r1
  have HN := Aside0.mk hn
  have hnTb : nT ≤ 40 := hnT ▸ hn.t
  have hnCb : nC ≤ 5 := hnC ▸ hn.c1
  clear hnT hnC hn
  have hmo : Try.prog.follows .mixedOrders = true := by kernel_rfl
  go_enter Try.func48, Try.ntmps48
  go_wp2_with fail
  go_region_held3 (fun w' : World => w'.cell? ⟨p, 4, none⟩ = some (.slice (some bd) nC cC) ∧ w'.cell? ⟨p, 6, none⟩ = some (.int .i64 dl) ∧ w'.cell? ⟨p, 7, none⟩ = some (.slice (some ad) nT cT) ∧ w'.cell? (ad.add (k.toNat * 2)) = some (.int .i64 a0) ∧ w'.cell? ⟨(ad.add (k.toNat * 2)).block, (ad.add (k.toNat * 2)).off + 1, none⟩ = some (.int .i64 a1) ∧ w'.cell? ⟨(bd.add (r.toNat * 3)).block, (bd.add (r.toNat * 3)).off + 1, none⟩ = some (.int .i64 b1)) (first | go_keep | exact ⟨pw_cell_below hb u4, pw_cell_below hb u6, pw_cell_below hb u7, pw_cell_below hb t0, pw_cell_below hb t1, pw_cell_below hb q1⟩) (first
    | (go_at_call 47; refine (HC.out _).mono ?_; rintro e w' ⟨rfl, hb⟩))
  go_wp2_with fail
  go_ret
  exact ⟨rfl, (below_drew (Below.refl _ _)).trans hb⟩
end Go.Proofs.Ytillieimgjdpbaa.Pr
namespace Go.Proofs.Ytillieimgjdpbaa.Pr
open Go.RowKit Go.Proofs.YtillieimgjdpbaaW.PrintWords Go.Proofs.YtillieimgjdpbaaW.PrintLast Go.Proofs.YtillieimgjdpbaaW.PrintMore
set_option linter.unusedVariables false
set_option linter.unusedSimpArgs false
/-- A state: the next take, and which take each reporter had last. -/
structure Sx where
  k : Int
  h0 : Int
  h1 : Int
  h2 : Int
  h3 : Int
  h4 : Int
def Sx.hs (s : Sx) : List Int := [s.h0, s.h1, s.h2, s.h3, s.h4]
def Sx.get (s : Sx) (r : Int) : Int := s.hs.getD r.toNat 0
def Sx.cells (s : Sx) : Array Value := #[.int .i64 s.k, .int .i64 s.h0, .int .i64 s.h1, .int .i64 s.h2, .int .i64 s.h3, .int .i64 s.h4]
theorem Sx.cell (s : Sx) (r : Int) (h0 : 0 ≤ r) (h1 : r < 5) : s.cells[1 + r.toNat]? = some (.int .i64 (s.get r)) := by
  obtain rfl | rfl | rfl | rfl | rfl : r = 0 ∨ r = 1 ∨ r = 2 ∨ r = 3 ∨ r = 4 := by omega
  all_goals rfl
def mayP (W : Wk) (s : Sx) (r : Int) : Bool :=
  !(decide (worstP W s.k r > (rd_T35 W.T s.k).f1 + W.due)) && (decide (s.get r = -1) || decide (worstP W (s.get r) r + (rd_T99 W.C r).f1 ≤ (rd_T35 W.T s.k).f0))
theorem worst_range (W : Wk) (hn : W.Ok) (k r : Int) (k0 : 0 ≤ k) (k1 : k < W.T.length) (r0 : 0 ≤ r) (r1 : r < W.C.length) : 0 ≤ worstP W k r ∧ worstP W k r ≤ 1000000 := by
  have ht := hn.tk' k k0 k1
  have hr := hn.cr' r r0 r1
  have e0 := hn.e0
  have e1 := hn.e1
  have hm0 : 0 ≤ ((rd_T35 W.T k).f1 - (rd_T35 W.T k).f0) * (rd_T99 W.C r).f0.f1 := Int.mul_nonneg (by omega) (by omega)
  have hm1 : ((rd_T35 W.T k).f1 - (rd_T35 W.T k).f0) * (rd_T99 W.C r).f0.f1 ≤ 36000 * 20 := Int.mul_le_mul (by omega) (by omega) (by omega) (by omega)
  unfold worstP doneP
  omega
set_option maxHeartbeats 4000000 in
theorem may53 (W : Wk) (hn : W.Ok) (w : World) (p : Nat) {A1 : Option Addr} {n1 c1 : Nat} {lo sh : Int} {AC : Option Addr} {cC : Nat} {AT : Option Addr} {cT : Nat} (h : W.At w p A1 n1 c1 lo sh AC cC AT cT)
    (s : Sx) (r : Int) (k0 : 0 ≤ s.k) (k1 : s.k < W.T.length) (r0 : 0 ≤ r) (r1 : r < W.C.length) (g0 : -1 ≤ s.get r) (g1 : s.get r < s.k) :
    Calls Try.prog 53 #[.pointer (some ⟨p, 0, none⟩), .agg s.cells, .int .i64 r] w fun e w' => e = .returned (.bool (mayP W s r)) ∧ Below w.heap.size w w' := by
  have hb0 : Below w.heap.size w (w.alloc (.cells s.cells 110)) := below_alloc (Below.refl _ _) _
  have hw0 := h.below hb0
  obtain ⟨ad, hA, t0, t1⟩ := at_T35 hw0.tk s.k k0 k1
  obtain ⟨bd, hBd, q0, q1, q2⟩ := at_T99 hw0.cr r r0 r1
  subst hA hBd
  have u4 : (w.alloc (.cells s.cells 110)).cell? ⟨p, 4, none⟩ = some (.slice (some bd) W.C.length cC) := (blk_cell hw0.blk 4).trans rfl
  have u5 : (w.alloc (.cells s.cells 110)).cell? ⟨p, 5, none⟩ = some (.int .i64 W.due) := (blk_cell hw0.blk 5).trans rfl
  have u7 : (w.alloc (.cells s.cells 110)).cell? ⟨p, 7, none⟩ = some (.slice (some ad) W.T.length cT) := (blk_cell hw0.blk 7).trans rfl
  have b0 : (w.alloc (.cells s.cells 110)).cell? ⟨w.heap.size, 0, none⟩ = some (.int .i64 s.k) := (blk_cell (blk_new w (.cells s.cells 110)) 0).trans rfl
  have b1 : (w.alloc (.cells s.cells 110)).cell? ⟨w.heap.size, 1 + r.toNat, none⟩ = some (.int .i64 (s.get r)) := (blk_cell (blk_new w (.cells s.cells 110)) _).trans (s.cell r r0 (by have := hn.c1; omega))
  have HALL : Aside0 (∀ X : World, Below (w.alloc (.cells s.cells 110)).heap.size (w.alloc (.cells s.cells 110)) X → W.At X p A1 n1 c1 lo sh (some bd) cC (some ad) cT) := ⟨fun X hX => hw0.below hX⟩
  have HC1 : Aside0 (∀ X : World, Below (w.alloc (.cells s.cells 110)).heap.size (w.alloc (.cells s.cells 110)) X → Calls Try.prog 48 #[.pointer (some ⟨p, 0, none⟩), .int .i64 s.k, .int .i64 r] X fun e w' => e = .returned (.int .i64 (worstP W s.k r)) ∧ Below X.heap.size X w') :=
    ⟨fun X hX => worst48 W hn X p (HALL.out X hX) s.k r k0 k1 r0 r1⟩
  have HC2 : Aside0 (0 ≤ s.get r → ∀ X : World, Below (w.alloc (.cells s.cells 110)).heap.size (w.alloc (.cells s.cells 110)) X → Calls Try.prog 48 #[.pointer (some ⟨p, 0, none⟩), .int .i64 (s.get r), .int .i64 r] X fun e w' => e = .returned (.int .i64 (worstP W (s.get r) r)) ∧ Below X.heap.size X w') :=
    ⟨fun hg X hX => worst48 W hn X p (HALL.out X hX) (s.get r) r hg (by omega) r0 r1⟩
  have HM : Aside0 (mayP W s r = (!(decide (worstP W s.k r > (rd_T35 W.T s.k).f1 + W.due)) && (decide (s.get r = -1) || decide (worstP W (s.get r) r + (rd_T99 W.C r).f1 ≤ (rd_T35 W.T s.k).f0)))) := ⟨rfl⟩
  have hx1 := worst_range W hn s.k r k0 k1 r0 r1
  have hx2 : 0 ≤ s.get r → 0 ≤ worstP W (s.get r) r ∧ worstP W (s.get r) r ≤ 1000000 := fun hg => worst_range W hn (s.get r) r hg (by omega) r0 r1
  have hx3 := hn.tk' s.k k0 k1
  have hx4 := hn.cr' r r0 r1
  have d0 := hn.d0
  have d1 := hn.d1
  have HB0 := Aside0.mk hb0
  obtain ⟨mv, hmv⟩ : ∃ m, m = mayP W s r := ⟨_, rfl⟩
  rw [← hmv] at HM ⊢
  clear hmv
  obtain ⟨f0, hf0⟩ : ∃ v, v = (rd_T35 W.T s.k).f0 := ⟨_, rfl⟩
  obtain ⟨f1, hf1⟩ : ∃ v, v = (rd_T35 W.T s.k).f1 := ⟨_, rfl⟩
  obtain ⟨rest, hrest⟩ : ∃ v, v = (rd_T99 W.C r).f1 := ⟨_, rfl⟩
  obtain ⟨due, hdue⟩ : ∃ v, v = W.due := ⟨_, rfl⟩
  obtain ⟨x1, hx1'⟩ : ∃ v, v = worstP W s.k r := ⟨_, rfl⟩
  obtain ⟨x2, hx2'⟩ : ∃ v, v = worstP W (s.get r) r := ⟨_, rfl⟩
  obtain ⟨nT, hnT⟩ : ∃ v, v = W.T.length := ⟨_, rfl⟩
  obtain ⟨nC, hnC⟩ : ∃ v, v = W.C.length := ⟨_, rfl⟩
  have hnTb : nT ≤ 40 := hnT ▸ hn.t
  have hnCb : nC ≤ 5 := hnC ▸ hn.c1
  rw [← hf0] at t0 hx3 HM
  rw [← hf1] at t1 hx3 HM
  rw [← hrest] at q2 hx4 HM
  rw [← hdue] at u5 HM d0 d1
  rw [← hx1'] at hx1 HC1 HM
  rw [← hx2'] at hx2 HC2 HM
  rw [← hnT] at u7 k1
  rw [← hnC] at u4 r1
  clear hf0 hf1 hrest hdue hx1' hx2' hnT hnC HALL hw0 h hn hb0 q0 q1
  obtain ⟨last, hlast⟩ : ∃ v, v = s.get r := ⟨_, rfl⟩
  rw [← hlast] at b1 hx2 HC2 HM g0 g1
  obtain ⟨k, hk⟩ : ∃ v, v = s.k := ⟨_, rfl⟩
  rw [← hk] at b0 HC1 k0 k1 g1 t0 t1
  obtain ⟨cs, hcs⟩ : ∃ v, v = s.cells := ⟨_, rfl⟩
  have hsz : cs.size = 6 := by rw [hcs]; rfl
  rw [← hcs] at u4 u5 u7 b0 b1 t0 t1 q2 HC1 HC2 HB0 ⊢
  clear hlast hk hcs
  have hbr : Aside0 (Below (w.alloc (.cells cs 110)).heap.size (w.alloc (.cells cs 110)) (w.alloc (.cells cs 110)).drew) := ⟨below_drew (Below.refl _ _)⟩
  have hmo : Try.prog.follows .mixedOrders = true := by kernel_rfl
  by_cases hc1 : x1 > f1 + due
  · go_enter Try.func53, Try.ntmps53
    go_wp2_with fail
    go_region_held3 (fun w' : World => w'.cell? ⟨w.heap.size, 0, none⟩ = some (.int .i64 k) ∧ w'.cell? ⟨w.heap.size, 1 + r.toNat, none⟩ = some (.int .i64 last) ∧ w'.cell? ⟨p, 4, none⟩ = some (.slice (some bd) nC cC) ∧ w'.cell? ⟨p, 5, none⟩ = some (.int .i64 due) ∧ w'.cell? ⟨p, 7, none⟩ = some (.slice (some ad) nT cT) ∧ w'.cell? (ad.add (k.toNat * 2)) = some (.int .i64 f0) ∧ w'.cell? ⟨(ad.add (k.toNat * 2)).block, (ad.add (k.toNat * 2)).off + 1, none⟩ = some (.int .i64 f1) ∧ w'.cell? ⟨(bd.add (r.toNat * 3)).block, (bd.add (r.toNat * 3)).off + 2, none⟩ = some (.int .i64 rest)) (first | go_keep | exact ⟨pw_cell_below hb b0, pw_cell_below hb b1, pw_cell_below hb u4, pw_cell_below hb u5, pw_cell_below hb u7, pw_cell_below hb t0, pw_cell_below hb t1, pw_cell_below hb q2⟩) (first
      | (go_at_call 48; refine (HC1.out _ hbr.out).mono ?_; rintro e w' ⟨rfl, hb⟩))
    rename_i hHeld
    have hd : decide (IntKind.i64.wrap (f1 + due) < x1) = true := by rw [i64_w, win _ (by omega)]; exact decide_eq_true hc1
    rw [hd]
    go_wp2_with fail
    go_ret
    exact ⟨by rw [HM.out, decide_eq_true hc1]; rfl, HB0.out.trans ((below_drew (Below.refl _ _)).trans (hb.mono HB0.out.size))⟩
  · have hm2 : Aside0 (mv = (decide (last = -1) || decide (x2 + rest ≤ f0))) := ⟨by rw [HM.out, decide_eq_false hc1]; simp⟩
    clear HM
    by_cases hl : last = -1
    · have hm3 : Aside0 (mv = true) := ⟨by rw [hm2.out, decide_eq_true hl]; rfl⟩
      clear hm2
      subst hl
      go_enter Try.func53, Try.ntmps53
      go_wp2_with fail
      go_region_held3 (fun w' : World => w'.cell? ⟨w.heap.size, 0, none⟩ = some (.int .i64 k) ∧ w'.cell? ⟨w.heap.size, 1 + r.toNat, none⟩ = some (.int .i64 (-1)) ∧ w'.cell? ⟨p, 4, none⟩ = some (.slice (some bd) nC cC) ∧ w'.cell? ⟨p, 5, none⟩ = some (.int .i64 due) ∧ w'.cell? ⟨p, 7, none⟩ = some (.slice (some ad) nT cT) ∧ w'.cell? (ad.add (k.toNat * 2)) = some (.int .i64 f0) ∧ w'.cell? ⟨(ad.add (k.toNat * 2)).block, (ad.add (k.toNat * 2)).off + 1, none⟩ = some (.int .i64 f1) ∧ w'.cell? ⟨(bd.add (r.toNat * 3)).block, (bd.add (r.toNat * 3)).off + 2, none⟩ = some (.int .i64 rest)) (first | go_keep | exact ⟨pw_cell_below hb b0, pw_cell_below hb b1, pw_cell_below hb u4, pw_cell_below hb u5, pw_cell_below hb u7, pw_cell_below hb t0, pw_cell_below hb t1, pw_cell_below hb q2⟩) (first
        | (go_at_call 48; refine (HC1.out _ hbr.out).mono ?_; rintro e w' ⟨rfl, hb⟩))
      rename_i hHeld
      obtain ⟨b0', b1', u4', u5', u7', t0', t1', q2'⟩ := hHeld
      have hd : decide (IntKind.i64.wrap (f1 + due) < x1) = false := by rw [i64_w, win _ (by omega)]; exact decide_eq_false (by omega)
      rw [hd]
      have hBw : Below w.heap.size w w' := HB0.out.trans ((below_drew (Below.refl _ _)).trans (hb.mono HB0.out.size))
      clear b0 b1 u4 u5 u7 t0 t1 q2
      go_wp2_with fail
      go_quiet (fail)
      go_wp2_with fail
      go_ret
      exact ⟨by rw [hm3.out]; rfl, pw_below_drewN hBw _⟩
    · have hm3 : Aside0 (mv = decide (x2 + rest ≤ f0)) := ⟨by rw [hm2.out, decide_eq_false hl]; rfl⟩
      clear hm2
      obtain ⟨m, rfl⟩ := Int.eq_ofNat_of_zero_le (show 0 ≤ last by omega)
      go_enter Try.func53, Try.ntmps53
      go_wp2_with fail
      go_region_held3 (fun w' : World => w'.cell? ⟨w.heap.size, 0, none⟩ = some (.int .i64 k) ∧ w'.cell? ⟨w.heap.size, 1 + r.toNat, none⟩ = some (.int .i64 (m : Int)) ∧ w'.cell? ⟨p, 4, none⟩ = some (.slice (some bd) nC cC) ∧ w'.cell? ⟨p, 5, none⟩ = some (.int .i64 due) ∧ w'.cell? ⟨p, 7, none⟩ = some (.slice (some ad) nT cT) ∧ w'.cell? (ad.add (k.toNat * 2)) = some (.int .i64 f0) ∧ w'.cell? ⟨(ad.add (k.toNat * 2)).block, (ad.add (k.toNat * 2)).off + 1, none⟩ = some (.int .i64 f1) ∧ w'.cell? ⟨(bd.add (r.toNat * 3)).block, (bd.add (r.toNat * 3)).off + 2, none⟩ = some (.int .i64 rest)) (first | go_keep | exact ⟨pw_cell_below hb b0, pw_cell_below hb b1, pw_cell_below hb u4, pw_cell_below hb u5, pw_cell_below hb u7, pw_cell_below hb t0, pw_cell_below hb t1, pw_cell_below hb q2⟩) (first
        | (go_at_call 48; refine (HC1.out _ hbr.out).mono ?_; rintro e w' ⟨rfl, hb⟩))
      rename_i hHeld
      obtain ⟨b0', b1', u4', u5', u7', t0', t1', q2'⟩ := hHeld
      have hd : decide (IntKind.i64.wrap (f1 + due) < x1) = false := by rw [i64_w, win _ (by omega)]; exact decide_eq_false (by omega)
      rw [hd]
      have hBw : Below w.heap.size w w' := HB0.out.trans ((below_drew (Below.refl _ _)).trans (hb.mono HB0.out.size))
      have hBw2 : Below (w.alloc (.cells cs 110)).heap.size (w.alloc (.cells cs 110)) w' := (below_drew (Below.refl _ _)).trans hb
      clear b0 b1 u4 u5 u7 t0 t1 q2 hbr
      have hbr : Aside0 (Below (w.alloc (.cells cs 110)).heap.size (w.alloc (.cells cs 110)) w'.drew) := ⟨below_drew hBw2⟩
      have hx2' := hx2 (Int.natCast_nonneg m)
      have HC3 := Aside0.mk (HC2.out (Int.natCast_nonneg m))
      clear hx2 HC1 HC2
      go_wp2_with fail
      go_region_held3 (fun w' : World => w'.cell? ⟨w.heap.size, 0, none⟩ = some (.int .i64 k) ∧ w'.cell? ⟨w.heap.size, 1 + r.toNat, none⟩ = some (.int .i64 (m : Int)) ∧ w'.cell? ⟨p, 4, none⟩ = some (.slice (some bd) nC cC) ∧ w'.cell? ⟨p, 5, none⟩ = some (.int .i64 due) ∧ w'.cell? ⟨p, 7, none⟩ = some (.slice (some ad) nT cT) ∧ w'.cell? (ad.add (k.toNat * 2)) = some (.int .i64 f0) ∧ w'.cell? ⟨(ad.add (k.toNat * 2)).block, (ad.add (k.toNat * 2)).off + 1, none⟩ = some (.int .i64 f1) ∧ w'.cell? ⟨(bd.add (r.toNat * 3)).block, (bd.add (r.toNat * 3)).off + 2, none⟩ = some (.int .i64 rest)) (first | go_keep | exact ⟨pw_cell_below hb2 b0', pw_cell_below hb2 b1', pw_cell_below hb2 u4', pw_cell_below hb2 u5', pw_cell_below hb2 u7', pw_cell_below hb2 t0', pw_cell_below hb2 t1', pw_cell_below hb2 q2'⟩) (first
        | (go_at_call 48; refine (HC3.out _ hbr.out).mono ?_; rintro e w2 ⟨rfl, hb2⟩))
      have hd2 : IntKind.i64.wrap (x2 + rest) = x2 + rest := by rw [i64_w, win _ (by omega)]
      have hd3 : ((m : Int) == -1) = false := beq_eq_false_iff_ne.mpr (by omega)
      have hgo : Below w.heap.size w w2 := hBw.trans ((below_drew (Below.refl _ _)).trans (hb2.mono hBw.size))
      have hval : ((m : Int) == -1 || decide (IntKind.i64.wrap (x2 + rest) ≤ f0)) = mv := by rw [hm3.out, hd2, hd3]; rfl
      rw [hval]
      go_wp2_with fail
      go_ret
      exact ⟨rfl, hgo⟩
end Go.Proofs.Ytillieimgjdpbaa.Pr
namespace Go.Proofs.Ytillieimgjdpbaa.Pr
open Go.RowKit Go.Proofs.YtillieimgjdpbaaW.PrintWords Go.Proofs.YtillieimgjdpbaaW.PrintLast Go.Proofs.YtillieimgjdpbaaW.PrintMore
set_option linter.unusedVariables false
set_option linter.unusedSimpArgs false
def givenP (s : Sx) (r : Int) : Sx :=
  if r = 0 then { s with k := s.k + 1, h0 := s.k } else if r = 1 then { s with k := s.k + 1, h1 := s.k } else if r = 2 then { s with k := s.k + 1, h2 := s.k } else if r = 3 then { s with k := s.k + 1, h3 := s.k } else { s with k := s.k + 1, h4 := s.k }
set_option maxHeartbeats 2000000 in
theorem given55 (s : Sx) (r : Int) (r0 : 0 ≤ r) (r1 : r < 5) (k0 : 0 ≤ s.k) (k1 : s.k ≤ 40) (w : World) :
    Calls Try.prog 55 #[.agg s.cells, .int .i64 r] w fun e w' => e = .returned (.agg (givenP s r).cells) ∧ Below w.heap.size w w' := by
  obtain ⟨k, h0, h1, h2, h3, h4⟩ := s
  have HB := Aside0.mk (below_alloc (below_alloc (Below.refl w.heap.size w) (.cells #[.int .i64 k, .int .i64 h0, .int .i64 h1, .int .i64 h2, .int .i64 h3, .int .i64 h4] 110)) (.cells #[.int .i64 0, .int .i64 0, .int .i64 0, .int .i64 0, .int .i64 0, .int .i64 0] 110))
  have hw : wrap64 (k + 1) = k + 1 := win _ (by simp only at k0 k1; omega)
  simp only [Sx.cells]
  obtain rfl | rfl | rfl | rfl | rfl : r = 0 ∨ r = 1 ∨ r = 2 ∨ r = 3 ∨ r = 4 := by omega
  all_goals
    go_enter Try.func55, Try.ntmps55
    go_wp2_with fail
    refine bodyPost_ret (results_cell_row rfl _ _ (w.heap.size + 1) 110 _ (0, 0) _ rfl (heap_alloc2_new _ _ _) Try.underlying110 rfl (by kernel_rfl)) rfl ?_
    exact ⟨rfl, below_alloc (below_alloc (Below.refl _ _) _) _⟩
/-- The state ahead of all takes, and when some are given. -/
def initN (i : Nat) : Sx := ⟨0, if 0 < i then -1 else 0, if 1 < i then -1 else 0, if 2 < i then -1 else 0, if 3 < i then -1 else 0, if 4 < i then -1 else 0⟩
def initP : Sx := ⟨0, -1, -1, -1, -1, -1⟩
def beginP (l : List Int) : Sx := l.foldl givenP initP
theorem givenP_k (s : Sx) (r : Int) : (givenP s r).k = s.k + 1 := by unfold givenP; split <;> (try split) <;> (try split) <;> (try split) <;> rfl
theorem beginP_snoc (l : List Int) (r : Int) : beginP (l ++ [r]) = givenP (beginP l) r := by simp [beginP]
theorem beginP_k (l : List Int) : (beginP l).k = l.length := by
  suffices h : ∀ (l : List Int) (s : Sx), (l.foldl givenP s).k = s.k + l.length by rw [beginP, h]; simp [initP]
  intro l
  induction l with
  | nil => intro s; simp
  | cons r t ih => intro s; rw [List.foldl_cons, ih, givenP_k]; simp; omega
set_option maxHeartbeats 4000000 in
theorem begin57 (A : Option Addr) (c : Nat) (l : List Int) (hl : l.length ≤ 40) (hr : ∀ r ∈ l, 0 ≤ r ∧ r < 5) (w : World) (h : Kd.C (Kd.int .i64) w A l.length l) :
    Calls Try.prog 57 #[.slice A l.length c] w fun e w' => e = .returned (.agg (beginP l).cells) ∧ Below w.heap.size w w' := by
  have HB := Aside0.mk (below_alloc (below_alloc (Below.refl w.heap.size w) (.cells initP.cells 110)) (.cells initP.cells 110))
  have hlen : l.length ≤ 9223372036854775807 := h.2.1
  have HR := Aside0.mk h
  clear h
  go_enter Try.func57, Try.ntmps57
  go_wp2_with fail
  go_loopw [4, 7] (fun v4 v7 wr => ∃ i : Int, 0 ≤ i ∧ i ≤ 5 ∧ v7 = .int .i64 i ∧ wr = (w.alloc (.cells #[.int .i64 0, .int .i64 0, .int .i64 0, .int .i64 0, .int .i64 0, .int .i64 0] 110)).alloc (.cells (initN i.toNat).cells 110)) (fun _ v7 _ => 5 - (intOf v7).toNat)
  case atStart => exact ⟨0, by omega, by omega, rfl, rfl⟩
  case round =>
    obtain ⟨i, hi0, hi, rfl, rfl⟩ := hrel
    obtain rfl | rfl | rfl | rfl | rfl | rfl : i = 0 ∨ i = 1 ∨ i = 2 ∨ i = 3 ∨ i = 4 ∨ i = 5 := by omega
    · rw [show (initN (0 : Int).toNat).cells = #[.int .i64 0, .int .i64 0, .int .i64 0, .int .i64 0, .int .i64 0, .int .i64 0] from rfl]
      go_wp2_with fail
      go_roundw
      case rel => exact ⟨1, by omega, by omega, by go_num, rfl⟩
      case measure => simp [intOf]
    · rw [show (initN (1 : Int).toNat).cells = #[.int .i64 0, .int .i64 (-1), .int .i64 0, .int .i64 0, .int .i64 0, .int .i64 0] from rfl]
      go_wp2_with fail
      go_roundw
      case rel => exact ⟨2, by omega, by omega, by go_num, rfl⟩
      case measure => simp [intOf]
    · rw [show (initN (2 : Int).toNat).cells = #[.int .i64 0, .int .i64 (-1), .int .i64 (-1), .int .i64 0, .int .i64 0, .int .i64 0] from rfl]
      go_wp2_with fail
      go_roundw
      case rel => exact ⟨3, by omega, by omega, by go_num, rfl⟩
      case measure => simp [intOf]
    · rw [show (initN (3 : Int).toNat).cells = #[.int .i64 0, .int .i64 (-1), .int .i64 (-1), .int .i64 (-1), .int .i64 0, .int .i64 0] from rfl]
      go_wp2_with fail
      go_roundw
      case rel => exact ⟨4, by omega, by omega, by go_num, rfl⟩
      case measure => simp [intOf]
    · rw [show (initN (4 : Int).toNat).cells = #[.int .i64 0, .int .i64 (-1), .int .i64 (-1), .int .i64 (-1), .int .i64 (-1), .int .i64 0] from rfl]
      go_wp2_with fail
      go_roundw
      case rel => exact ⟨5, by omega, by omega, by go_num, rfl⟩
      case measure => simp [intOf]
    · rw [show (initN (5 : Int).toNat).cells = #[.int .i64 0, .int .i64 (-1), .int .i64 (-1), .int .i64 (-1), .int .i64 (-1), .int .i64 (-1)] from rfl]
      go_wp2_with fail
      have hB0 := Aside0.mk (below_alloc (below_alloc (Below.refl w.heap.size w) (.cells #[.int .i64 0, .int .i64 0, .int .i64 0, .int .i64 0, .int .i64 0, .int .i64 0] 110)) (.cells #[.int .i64 0, .int .i64 (-1), .int .i64 (-1), .int .i64 (-1), .int .i64 (-1), .int .i64 (-1)] 110))
      have hK1 : ((w.alloc (.cells #[.int .i64 0, .int .i64 0, .int .i64 0, .int .i64 0, .int .i64 0, .int .i64 0] 110)).alloc (.cells #[.int .i64 0, .int .i64 (-1), .int .i64 (-1), .int .i64 (-1), .int .i64 (-1), .int .i64 (-1)] 110)).heap[w.heap.size + 1]? = some (.cells (beginP (l.take 0)).cells 110 (0, 0)) := heap_alloc2_new _ _ _
      have hK0 : ((w.alloc (.cells #[.int .i64 0, .int .i64 0, .int .i64 0, .int .i64 0, .int .i64 0, .int .i64 0] 110)).alloc (.cells #[.int .i64 0, .int .i64 (-1), .int .i64 (-1), .int .i64 (-1), .int .i64 (-1), .int .i64 (-1)] 110)).heap[w.heap.size]? = some (.cells #[.int .i64 0, .int .i64 0, .int .i64 0, .int .i64 0, .int .i64 0, .int .i64 0] 110 (0, 0)) := heap_alloc2_old _ _ _
      go_loopw [16] (fun v16 wr => ∃ k : Nat, k ≤ l.length ∧ v16 = .int .i64 k ∧ Aside0 (wr.heap[w.heap.size + 1]? = some (.cells (beginP (l.take k)).cells 110 (0, 0))) ∧ Aside0 (wr.heap[w.heap.size]? = some (.cells #[.int .i64 0, .int .i64 0, .int .i64 0, .int .i64 0, .int .i64 0, .int .i64 0] 110 (0, 0))) ∧ Aside0 (Below w.heap.size w wr)) (fun v16 _ => l.length - (intOf v16).toNat)
      case atStart => exact ⟨0, Nat.zero_le _, rfl, ⟨hK1⟩, ⟨hK0⟩, hB0⟩
      case round =>
        clear hK0 hK1 hB0
        obtain ⟨k, hk, rfl, H1, H0, HB⟩ := hrel
        obtain ⟨s, hs⟩ : ∃ s, s = beginP (l.take k) := ⟨_, rfl⟩
        have hsk : s.k = k := by rw [hs, beginP_k, List.length_take]; omega
        rw [← hs] at H1
        by_cases hlt : k < l.length
        · obtain ⟨ad, e, hx0⟩ := at3 HR.out k hlt
          cases e
          replace hx0 := (HB.out.cell (World.block_lt_of_cell? w _ hx0)).trans hx0
          obtain ⟨x, hx⟩ : ∃ x, x = l[k] := ⟨_, rfl⟩
          rw [← hx] at hx0
          have hxr : 0 ≤ x ∧ x < 5 := hr x (by rw [hx]; exact List.getElem_mem _)
          have HN : beginP (l.take (k + 1)) = givenP s x := by rw [hs, hx, ← beginP_snoc, List.take_append_getElem]
          have hgv := given55 s x hxr.1 hxr.2 (by omega) (by omega) wr
          rw [← HN] at hgv
          obtain ⟨s1, hs1⟩ : ∃ s1, s1 = beginP (l.take (k + 1)) := ⟨_, rfl⟩
          rw [← hs1] at hgv
          have HN1 := Aside0.mk hs1
          have HC : Aside0 (Calls Try.prog 55 #[.agg s.cells, .int .i64 x] wr fun e w' => e = .returned (.agg s1.cells) ∧ Aside0 (w'.heap[w.heap.size + 1]? = some (.cells s.cells 110 (0, 0))) ∧ Aside0 (w'.heap[w.heap.size]? = some (.cells #[.int .i64 0, .int .i64 0, .int .i64 0, .int .i64 0, .int .i64 0, .int .i64 0] 110 (0, 0))) ∧ Aside0 (Below w.heap.size w w')) :=
            ⟨hgv.mono (fun e w' h => ⟨h.1, ⟨blk_below H1.out h.2⟩, ⟨blk_below H0.out h.2⟩, ⟨HB.out.trans (h.2.mono HB.out.size)⟩⟩)⟩
          clear hs hx hs1 HN hgv
          have hsz : s.cells.size = 6 := rfl
          have hsz1 : s1.cells.size = 6 := rfl
          have hone : s1.cells.all (·.oneCell') = true := by simp [Sx.cells, Value.oneCell']
          obtain ⟨cs, hcs⟩ : ∃ cs, cs = s.cells := ⟨_, rfl⟩
          obtain ⟨cs1, hcs1⟩ : ∃ cs, cs = s1.cells := ⟨_, rfl⟩
          rw [← hcs] at H1 HC hsz
          rw [← hcs1] at HC hsz1 hone
          have HCS := Aside0.mk hcs1
          clear hcs hcs1
          have hi1 : (Try.prog.info? 110).map (·.size) = some cs.size := by rw [hsz]; kernel_rfl
          have hi2 : (Try.prog.info? 110).map (·.size) = some cs1.size := by rw [hsz1]; kernel_rfl
          have hss : cs.size = cs1.size := hsz.trans hsz1.symm
          have HI := Aside0.mk (show _ ∧ _ ∧ _ ∧ _ from ⟨hi1, hi2, hss, hone⟩)
          clear hi1 hi2 hss hone hsz hsz1
          go_wp2_with (first
            | (refine wpList_load_row rfl 110 _ rfl (w.heap.size + 1) rfl 110 cs (0, 0) _ H1.out Try.underlying110 rfl HI.out.1 ?_)
            | (go_at_call 55; refine (HC.out).mono ?_; rintro e w' ⟨rfl, H1', H0', HB'⟩)
            | (refine wpList_store_row rfl 110 _ _ rfl (w.heap.size + 1) cs1 rfl rfl 110 cs H1'.out HI.out.2.1 HI.out.2.2.1 HI.out.2.2.2 ?_))
          go_roundw
          case rel => exact ⟨k + 1, by omega, by go_num, ⟨by rw [setRow_heap _ _ _ _ _ _ H1'.out, HCS.out, HN1.out]⟩, ⟨(setRow_other _ _ _ _ (by omega)).trans H0'.out⟩, ⟨below_setRow HB'.out (by omega) _⟩⟩
          case measure => simp [intOf]; omega
        · have hkl : k = l.length := by omega
          have HE : Aside0 (s = beginP l) := ⟨by rw [hs, hkl, List.take_length]⟩
          clear hs
          have hsz : s.cells.size = 6 := rfl
          have hone : s.cells.all (·.oneCell') = true := by simp [Sx.cells, Value.oneCell']
          obtain ⟨cs, hcs⟩ : ∃ cs, cs = s.cells := ⟨_, rfl⟩
          rw [← hcs] at H1 hsz hone
          have HCS := Aside0.mk hcs
          clear hcs
          have hi1 : (Try.prog.info? 110).map (·.size) = some cs.size := by rw [hsz]; kernel_rfl
          have hss : (#[.int .i64 0, .int .i64 0, .int .i64 0, .int .i64 0, .int .i64 0, .int .i64 0] : Array Value).size = cs.size := by rw [hsz]; rfl
          have HI := Aside0.mk (show _ ∧ _ ∧ _ from ⟨hi1, hss, hone⟩)
          clear hi1 hss hone hsz
          go_wp2_with (first
            | (refine wpList_load_row rfl 110 _ rfl (w.heap.size + 1) rfl 110 cs (0, 0) _ H1.out Try.underlying110 rfl HI.out.1 ?_)
            | (refine wpList_store_row rfl 110 _ _ rfl w.heap.size cs rfl rfl 110 #[.int .i64 0, .int .i64 0, .int .i64 0, .int .i64 0, .int .i64 0, .int .i64 0] H0.out HI.out.1 HI.out.2.1 HI.out.2.2 ?_))
          refine bodyPost_ret (results_cell_row rfl _ _ w.heap.size 110 _ (0, 0) _ rfl (setRow_heap _ _ _ _ _ _ H0.out) Try.underlying110 rfl HI.out.1) rfl ?_
          exact ⟨by rw [HCS.out, HE.out], below_setRow HB.out (Nat.le_refl _) _⟩
end Go.Proofs.Ytillieimgjdpbaa.Pr
namespace Go.Proofs.Ytillieimgjdpbaa.Pr
open Go.RowKit Go.Proofs.YtillieimgjdpbaaW.PrintWords Go.Proofs.YtillieimgjdpbaaW.PrintLast Go.Proofs.YtillieimgjdpbaaW.PrintMore
open Go.WideElems (Fit)
open Go.Maps (Keyed)
open Go.MapKept
open Go.ChangeMaps
set_option linter.unusedVariables false
set_option linter.unusedSimpArgs false
theorem laid110 : laidOutB Try.prog = true := by kernel_rfl
theorem row110 : 110 < Try.prog.types.size := of_decide_eq_true (by kernel_rfl)
theorem kt110 : Try.prog.keyTypeAt 3 110 = true := by kernel_rfl
theorem law110 : Keyed Try.prog 110 := Keyed.of_law (deep_law_laid laid110 (m := 3) (by omega) row110 kt110 (by rw [Try.underlying110]))
/-- A state that may be met. -/
structure Sx.Ok (s : Sx) : Prop where
  k0 : 0 ≤ s.k
  k1 : s.k ≤ 40
  h : ∀ r : Int, 0 ≤ r → r < 5 → -1 ≤ s.get r ∧ s.get r ≤ 40
theorem Sx.Ok.all {s : Sx} (h : s.Ok) : (-1 ≤ s.h0 ∧ s.h0 ≤ 40) ∧ (-1 ≤ s.h1 ∧ s.h1 ≤ 40) ∧ (-1 ≤ s.h2 ∧ s.h2 ≤ 40) ∧ (-1 ≤ s.h3 ∧ s.h3 ≤ 40) ∧ (-1 ≤ s.h4 ∧ s.h4 ≤ 40) :=
  ⟨h.h 0 (by omega) (by omega), h.h 1 (by omega) (by omega), h.h 2 (by omega) (by omega), h.h 3 (by omega) (by omega), h.h 4 (by omega) (by omega)⟩
theorem Sx.cells_inj {s t : Sx} (h : s.cells = t.cells) : s = t := by
  obtain ⟨a, b, c, d, e, f⟩ := s
  obtain ⟨a', b', c', d', e', f'⟩ := t
  simp [Sx.cells] at h
  obtain ⟨rfl, rfl, rfl, rfl, rfl, rfl⟩ := h
  rfl
def Sx.code (s : Sx) : Nat := (((((s.k.toNat * 42 + (s.h0 + 1).toNat) * 42 + (s.h1 + 1).toNat) * 42 + (s.h2 + 1).toNat) * 42 + (s.h3 + 1).toNat) * 42 + (s.h4 + 1).toNat)
theorem Sx.code_lt {s : Sx} (h : s.Ok) : s.code < 5489031744 := by
  have := h.all
  have := h.k0
  have := h.k1
  unfold Sx.code
  omega
theorem dig {a b a' b' : Nat} (hb : b < 42) (hb' : b' < 42) (h : a * 42 + b = a' * 42 + b') : a = a' ∧ b = b' := by omega
theorem dg {x : Int} (h : -1 ≤ x ∧ x ≤ 40) : (x + 1).toNat < 42 := by omega
theorem dgi {x y : Int} (h : -1 ≤ x ∧ x ≤ 40) (h' : -1 ≤ y ∧ y ≤ 40) (e : (x + 1).toNat = (y + 1).toNat) : x = y := by omega
theorem dgk {x y : Int} (h : 0 ≤ x) (h' : 0 ≤ y) (e : x.toNat = y.toNat) : x = y := by omega
theorem Sx.code_inj {s t : Sx} (hs : s.Ok) (ht : t.Ok) (h : s.code = t.code) : s = t := by
  have A := hs.all
  have B := ht.all
  have h0 := hs.k0
  have h0' := ht.k0
  obtain ⟨a, b, c, d, e, f⟩ := s
  obtain ⟨a', b', c', d', e', f'⟩ := t
  obtain ⟨a1, a2, a3, a4, a5⟩ := A
  obtain ⟨b1, b2, b3, b4, b5⟩ := B
  simp only at a1 a2 a3 a4 a5 b1 b2 b3 b4 b5 h0 h0'
  have p1 := dig (dg a5) (dg b5) h
  have p2 := dig (dg a4) (dg b4) p1.1
  have p3 := dig (dg a3) (dg b3) p2.1
  have p4 := dig (dg a2) (dg b2) p3.1
  have p5 := dig (dg a1) (dg b1) p4.1
  rw [dgk h0 h0' p5.1, dgi a1 b1 p5.2, dgi a2 b2 p4.2, dgi a3 b3 p3.2, dgi a4 b4 p2.2, dgi a5 b5 p1.2]
/-- Different numbers below a bound are at most so many. -/
theorem few : ∀ (N : Nat) (l : List Nat), l.Pairwise (· ≠ ·) → (∀ x ∈ l, x < N) → l.length ≤ N
  | 0, l, _, h => by
    cases l with
    | nil => simp
    | cons a t => exact absurd (h a (by simp)) (by omega)
  | N + 1, l, hd, h => by
    have h1 := few N (l.filter (· != N)) (hd.filter _) (fun x hx => by
      obtain ⟨hm, hn⟩ := List.mem_filter.1 hx
      have := h x hm
      have : x ≠ N := by simpa using hn
      omega)
    have h2 : ∀ l : List Nat, l.Pairwise (· ≠ ·) → l.length ≤ (l.filter (· != N)).length + 1 := by
      intro l
      induction l with
      | nil => intro _; simp
      | cons a t ih =>
        intro hp
        obtain ⟨ha, ht⟩ := List.pairwise_cons.1 hp
        by_cases hn : a = N
        · subst hn
          have : t.filter (· != a) = t := List.filter_eq_self.2 (fun x hx => by simpa using (ha x hx).symm)
          simp [this]
        · rw [List.filter_cons, if_pos (by simpa using hn)]
          have := ih ht
          simp only [List.length_cons]
          omega
    have := h2 l hd
    omega
def keyL (s : Sx) : Lit := .string (keyBytes [.int .i64 s.k, .int .i64 s.h0, .int .i64 s.h1, .int .i64 s.h2, .int .i64 s.h3, .int .i64 s.h4])
theorem wf64 (x : Int) (h0 : -1 ≤ x) (h1 : x ≤ 40) : (Lit.int .i64 x).wf = true := by
  rw [← win x (by omega)]
  exact wrap64_wf x
theorem lits110 (s : Sx) (hs : s.Ok) (d : Nat) : Try.prog.keyLits (d + 3) 110 s.cells.toList = some [.int .i64 s.k, .int .i64 s.h0, .int .i64 s.h1, .int .i64 s.h2, .int .i64 s.h3, .int .i64 s.h4] := by
  have h := hs.all
  have w0 := wf64 s.k (by have := hs.k0; omega) hs.k1
  have w1 := wf64 _ h.1.1 h.1.2
  have w2 := wf64 _ h.2.1.1 h.2.1.2
  have w3 := wf64 _ h.2.2.1.1 h.2.2.1.2
  have w4 := wf64 _ h.2.2.2.1.1 h.2.2.2.1.2
  have w5 := wf64 _ h.2.2.2.2.1 h.2.2.2.2.2
  have c110 : Try.prog.cellsOf 110 = 6 := by kernel_rfl
  have c108 : Try.prog.cellsOf 108 = 5 := by kernel_rfl
  have c3 : Try.prog.cellsOf 3 = 1 := by kernel_rfl
  have u110 := Try.underlying110
  have u108 := Try.underlying108
  have u3 := Try.underlying3
  simp [Program.keyLits, u110, u108, u3, c110, c108, c3, Sx.cells, w0, w1, w2, w3, w4, w5, List.range, List.range.loop]
  done
theorem key110 (s : Sx) (hs : s.Ok) : keyOf Try.prog 110 (.agg s.cells) = some (keyL s) := by
  have c110 : Try.prog.cellsOf 110 = 6 := by kernel_rfl
  have hk : Try.prog.keyType 110 = true := by kernel_rfl
  have h2 : 2 ≤ Try.prog.types.size := of_decide_eq_true (by kernel_rfl)
  obtain ⟨m, hm⟩ : ∃ m, Try.prog.types.size + 1 = m + 3 := ⟨Try.prog.types.size - 2, by omega⟩
  have u110 := Try.underlying110
  have hf : (Value.agg s.cells).formed Try.prog 110 = true := by simp [Value.formed, u110, c110]; rfl
  simp only [keyOf, u110, hk, hf, Bool.and_self, if_true, Value.cells, hm, lits110 s hs m]
  rfl
/-- Block mb is a map whose keys are states of which D holds. -/
def LostAt (w : World) (mb : Nat) (D : Sx → Prop) : Prop :=
  ∃ es clock, w.heap[mb]? = some (.map es clock) ∧ Fit Try.prog 110 (plainElem (H := Unit) Try.prog 4) es clock ∧ ∀ x ∈ es.toList, ∃ s : Sx, s.Ok ∧ x.key = .agg s.cells ∧ x.val = .bool true ∧ D s
theorem LostAt.mono {w : World} {mb : Nat} {D D' : Sx → Prop} (h : LostAt w mb D) (hd : ∀ s, D s → D' s) : LostAt w mb D' := by
  obtain ⟨es, clock, hb, hf, hx⟩ := h
  exact ⟨es, clock, hb, hf, fun x hm => by obtain ⟨s, h1, h2, h3, h4⟩ := hx x hm; exact ⟨s, h1, h2, h3, hd s h4⟩⟩
theorem LostAt.move {w w' : World} {mb : Nat} {D : Sx → Prop} (h : LostAt w mb D) (hb : w'.heap[mb]? = w.heap[mb]?) : LostAt w' mb D := by
  obtain ⟨es, clock, hb', hf, hx⟩ := h
  exact ⟨es, clock, hb.trans hb', hf, hx⟩
theorem LostAt.lt {w : World} {mb : Nat} {D : Sx → Prop} (h : LostAt w mb D) : mb < w.heap.size := by
  obtain ⟨es, clock, hb, _⟩ := h
  exact (Array.getElem?_eq_some_iff.1 hb).1
theorem LostAt.made (w : World) (D : Sx → Prop) : LostAt (w.alloc (.map #[] 0)) w.heap.size D :=
  ⟨#[], 0, (MapKept.heap_alloc w _).1, ⟨by simp, stamped_empty 0, by simp⟩, by simp⟩
theorem LostAt.look {w : World} {mb : Nat} {D : Sx → Prop} (h : LostAt w mb D) (s : Sx) (hs : s.Ok) :
    ∃ b : Bool, (b = true → D s) ∧ ∀ X : World, X.heap[mb]? = w.heap[mb]? → (Instr.lookup 104 (.map (some mb)) (.agg s.cells) false).run Try.prog X = .ok (.bool b) X := by
  obtain ⟨es, clock, hb, hf, hx⟩ := h
  have hz : ∀ X : World, (zeroValue 4).run Try.prog X = .ok (.bool false) X := fun X => by kernel_rfl
  have hany : ∃ x : MapEntry, x ∈ es.toList ∧ x.key = .agg s.cells ∨ (∀ x ∈ es.toList, x.key ≠ .agg s.cells) := by
    by_cases hc : ∃ x ∈ es.toList, x.key = .agg s.cells
    · obtain ⟨x, h1, h2⟩ := hc
      exact ⟨x, .inl ⟨h1, h2⟩⟩
    · exact ⟨⟨.bool false, .bool false, 0⟩, .inr (fun x h1 h2 => hc ⟨x, h1, h2⟩)⟩
  obtain ⟨x, ⟨hm, hk⟩ | hno⟩ := hany
  · obtain ⟨t, ht, e1, e2, hD⟩ := hx x hm
    have hst : t = s := Sx.cells_inj (Value.agg.inj (e1.symm.trans hk))
    refine ⟨true, fun _ => hst ▸ hD, fun X hX => ?_⟩
    rcases Maps.fit_look false law110 Try.underlying104 (hz X) (hX.trans hb) hf (key110 s hs) with ⟨_, hn, _⟩ | ⟨e0, y, hm0, hk0, hrun, _⟩
    · exact absurd hk (hn x hm)
    · obtain ⟨t0, _, _, e3, _⟩ := hx e0 hm0
      rw [hrun, e3]
      rfl
  · refine ⟨false, (fun h => Bool.noConfusion h), fun X hX => ?_⟩
    rcases Maps.fit_look false law110 Try.underlying104 (hz X) (hX.trans hb) hf (key110 s hs) with ⟨hrun, _⟩ | ⟨e0, y, hm0, hk0, _⟩
    · rw [hrun]
      rfl
    · exact absurd hk0 (hno e0 hm0)
theorem LostAt.put {w : World} {mb : Nat} {D : Sx → Prop} (h : LostAt w mb D) (s : Sx) (hs : s.Ok) (hD : D s) :
    ∃ w', (Instr.mapUpdate 104 (.map (some mb)) (.agg s.cells) (.bool true)).run Try.prog w = .ok () w' ∧ LostAt w' mb D ∧ w.grownBy w' (some mb) := by
  obtain ⟨es, clock, hb, hf, hx⟩ := h
  have hsize : es.size < maxLen := by
    have hn : es.toList.Pairwise (fun x y => x.key ≠ y.key) := ((stamped_iff es clock).1 hf.stamped).2.2
    have hex : ∀ x ∈ es.toList, ∃ t : Sx, t.Ok ∧ x.key = .agg t.cells := fun x hm => by obtain ⟨t, h1, h2, _⟩ := hx x hm; exact ⟨t, h1, h2⟩
    have hc : ∃ c : MapEntry → Nat, (∀ x ∈ es.toList, c x < 5489031744) ∧ (∀ x ∈ es.toList, ∀ y ∈ es.toList, c x = c y → x.key = y.key) := by
      classical
      refine ⟨fun x => if hh : ∃ t : Sx, t.Ok ∧ x.key = .agg t.cells then (Classical.choose hh).code else 0, fun x hm => ?_, fun x hm y hm' hxy => ?_⟩
      · simp only [dif_pos (hex x hm)]
        exact Sx.code_lt (Classical.choose_spec (hex x hm)).1
      · simp only [dif_pos (hex x hm), dif_pos (hex y hm')] at hxy
        have h1 := Classical.choose_spec (hex x hm)
        have h2 := Classical.choose_spec (hex y hm')
        have := Sx.code_inj h1.1 h2.1 hxy
        rw [h1.2, h2.2, this]
    obtain ⟨c, c1, c2⟩ := hc
    have hp : (es.toList.map c).Pairwise (· ≠ ·) := by
      rw [List.pairwise_map]
      exact (List.Pairwise.imp_of_mem (R := fun x y => x.key ≠ y.key) (S := fun x y => c x ≠ c y) (fun {a b} ha hb h e => h (c2 a ha b hb e)) hn)
    have := few 5489031744 _ hp (fun n hn => by
      obtain ⟨x, hx, rfl⟩ := List.mem_map.1 hn
      exact c1 x hx)
    rw [List.length_map, Array.length_toList] at this
    unfold maxLen
    omega
  obtain ⟨es', clock', hrun, hf', _, _, _, hwho⟩ := Maps.fit_store (R' := plainElem (H := Unit) Try.prog 4) law110 Try.underlying104 hb hf hsize (fun _ _ _ _ hz => hz) (key110 s hs) (plainElem_bool Try.underlying4 true)
  refine ⟨_, hrun, ⟨es', clock', heap_setBlock_same hb _, hf', fun x hm => ?_⟩, ⟨rfl, rfl, rfl, by simp [setBlock], fun i _ hi => heap_setBlock_other hb _ (fun e => hi (by rw [e]))⟩⟩
  rcases hwho x hm with ⟨hm', _⟩ | ⟨e1, e2⟩
  · exact hx x hm'
  · exact ⟨s, hs, e1, e2, hD⟩
end Go.Proofs.Ytillieimgjdpbaa.Pr
