/- Contracts by hand: when a take is done at the latest. -/
import Derived.Test.YtillieimgjdpbaaOHf
import Derived.Test.YtillieimgjdpbaaOPr5
import Derived.IntWalk
namespace Go.Proofs.Ytillieimgjdpbaa.Pr
open Go.RowKit Go.Proofs.YtillieimgjdpbaaW.PrintWords Go.Proofs.YtillieimgjdpbaaW.PrintLast Go.Proofs.YtillieimgjdpbaaW.PrintMore
set_option linter.unusedVariables false
set_option linter.unusedSimpArgs false
/-- A sitting at an office, with its takes. -/
structure Wk where
  L : Int
  T : List S35
  C : List S99
  due : Int
  dl : Int
/-- Its numbers. -/
structure Wk.Ok (W : Wk) : Prop where
  l0 : 1 ≤ W.L
  l1 : W.L ≤ 36000
  t : W.T.length ≤ 40
  c0 : 1 ≤ W.C.length
  c1 : W.C.length ≤ 5
  d0 : 0 ≤ W.due
  d1 : W.due ≤ 36000
  e0 : 0 ≤ W.dl
  e1 : W.dl ≤ 36000
  tk : ∀ t ∈ W.T, 0 ≤ t.f0 ∧ t.f0 < t.f1 ∧ t.f1 ≤ 36000
  cr : ∀ c ∈ W.C, repOk c = true
/-- It lies at a block. -/
structure Wk.At (W : Wk) (w : World) (p : Nat) (A1 : Option Addr) (n1 c1 : Nat) (lo sh : Int) (AC : Option Addr) (cC : Nat) (AT : Option Addr) (cT : Nat) : Prop where
  blk : w.heap[p]? = some (.cells #[.int .i64 W.L, .slice A1 n1 c1, .int .i64 lo, .int .i64 sh, .slice AC W.C.length cC, .int .i64 W.due, .int .i64 W.dl, .slice AT W.T.length cT] 96 (0, 0))
  tk : Kd.C k35 w AT W.T.length W.T
  cr : Kd.C k99 w AC W.C.length W.C
theorem Wk.At.below {W : Wk} {w w' : World} {p : Nat} {A1 : Option Addr} {n1 c1 : Nat} {lo sh : Int} {AC : Option Addr} {cC : Nat} {AT : Option Addr} {cT : Nat} (h : W.At w p A1 n1 c1 lo sh AC cC AT cT) (hb : Below w.heap.size w w') : W.At w' p A1 n1 c1 lo sh AC cC AT cT :=
  ⟨blk_below h.blk hb, Kd.C_below h.tk hb, Kd.C_below h.cr hb⟩
theorem Wk.Ok.tk' {W : Wk} (h : W.Ok) (k : Int) (h0 : 0 ≤ k) (h1 : k < W.T.length) : 0 ≤ (rd_T35 W.T k).f0 ∧ (rd_T35 W.T k).f0 < (rd_T35 W.T k).f1 ∧ (rd_T35 W.T k).f1 ≤ 36000 := by
  have e : rd_T35 W.T k = W.T[k.toNat]'(by omega) := by unfold rd_T35; rw [List.getD_eq_getElem?_getD, List.getElem?_eq_getElem (by omega)]; rfl
  rw [e]
  exact h.tk _ (List.getElem_mem _)
theorem Wk.Ok.cr' {W : Wk} (h : W.Ok) (r : Int) (h0 : 0 ≤ r) (h1 : r < W.C.length) : 0 ≤ (rd_T99 W.C r).f0.f0 ∧ (rd_T99 W.C r).f0.f0 ≤ (rd_T99 W.C r).f0.f1 ∧ (rd_T99 W.C r).f0.f1 ≤ 20 ∧ 0 ≤ (rd_T99 W.C r).f1 ∧ (rd_T99 W.C r).f1 ≤ 36000 := by
  have e : rd_T99 W.C r = W.C[r.toNat]'(by omega) := by unfold rd_T99; rw [List.getD_eq_getElem?_getD, List.getElem?_eq_getElem (by omega)]; rfl
  rw [e]
  have := h.cr _ (List.getElem_mem (h := show r.toNat < W.C.length by omega))
  simp only [repOk, Bool.and_eq_true, decide_eq_true_eq] at this
  omega
def doneP (t : S35) (slow dl : Int) : Int := t.f1 + (t.f1 - t.f0) * slow + dl
def worstP (W : Wk) (k r : Int) : Int := doneP (rd_T35 W.T k) (rd_T99 W.C r).f0.f1 W.dl
theorem win (n : Int) (h : -9223372036854775808 ≤ n ∧ n ≤ 9223372036854775807) : wrap64 n = n := by unfold wrap64; omega
theorem done_some (t : S35) (slow dl : Int) (h0 : 0 ≤ t.f0) (h1 : t.f0 < t.f1) (h2 : t.f1 ≤ 36000) (s0 : 0 ≤ slow) (s1 : slow ≤ 20) (d0 : 0 ≤ dl) (d1 : dl ≤ 36000) :
    take_Span_done.f 5 t.f0 t.f1 slow dl = some (doneP t slow dl) := by
  have hm0 : 0 ≤ (t.f1 - t.f0) * slow := Int.mul_nonneg (by omega) s0
  have hm1 : (t.f1 - t.f0) * slow ≤ 36000 * 20 := Int.mul_le_mul (by omega) s1 s0 (by omega)
  have e1 : wrap64 (t.f1 - t.f0) = t.f1 - t.f0 := win _ (by omega)
  have e2 : wrap64 ((t.f1 - t.f0) * slow) = (t.f1 - t.f0) * slow := win _ (by omega)
  have e3 : wrap64 t.f1 = t.f1 := win _ (by omega)
  have e4 : wrap64 (t.f1 + (t.f1 - t.f0) * slow) = t.f1 + (t.f1 - t.f0) * slow := win _ (by omega)
  have e5 : wrap64 (t.f1 + (t.f1 - t.f0) * slow + dl) = doneP t slow dl := win _ (by omega)
  simp [take_Span_done.f, take_Span_long.f, take_sum.f, take_sum.l0, rd, e1, e2, e3, e4, e5, win 1 (by omega), win 2 (by omega), win 3 (by omega)]
set_option maxHeartbeats 4000000 in
theorem worst48 (W : Wk) (hn : W.Ok) (w : World) (p : Nat) {A1 : Option Addr} {n1 c1 : Nat} {lo sh : Int} {AC : Option Addr} {cC : Nat} {AT : Option Addr} {cT : Nat} (h : W.At w p A1 n1 c1 lo sh AC cC AT cT)
    (k r : Int) (k0 : 0 ≤ k) (k1 : k < W.T.length) (r0 : 0 ≤ r) (r1 : r < W.C.length) :
    Calls Try.prog 48 #[.pointer (some ⟨p, 0, none⟩), .int .i64 k, .int .i64 r] w fun e w' => e = .returned (.int .i64 (worstP W k r)) ∧ Below w.heap.size w w' := by
  obtain ⟨ad, rfl, t0, t1⟩ := at_T35 h.tk k k0 k1
  obtain ⟨bd, rfl, q0, q1, q2⟩ := at_T99 h.cr r r0 r1
  have u4 : w.cell? ⟨p, 4, none⟩ = some (.slice (some bd) W.C.length cC) := (blk_cell h.blk 4).trans rfl
  have u6 : w.cell? ⟨p, 6, none⟩ = some (.int .i64 W.dl) := (blk_cell h.blk 6).trans rfl
  have u7 : w.cell? ⟨p, 7, none⟩ = some (.slice (some ad) W.T.length cT) := (blk_cell h.blk 7).trans rfl
  have hcall : ∀ X : World, Calls Try.prog 47 #[.agg #[.int .i64 (rd_T35 W.T k).f0, .int .i64 (rd_T35 W.T k).f1], .agg #[.int .i64 (rd_T99 W.C r).f0.f1, .int .i64 W.dl]] X fun e w' => e = .returned (.int .i64 (worstP W k r)) ∧ Below X.heap.size X w' := fun X => by
    have ht := hn.tk' k k0 k1
    have hr := hn.cr' r r0 r1
    exact take_Span_done.calls 5 _ _ _ _ _ X (done_some _ _ _ ht.1 ht.2.1 ht.2.2 (by omega) hr.2.2.1 hn.e0 hn.e1)
  have HC := Aside0.mk hcall
  clear hcall h q0 q2
  obtain ⟨v, hv⟩ : ∃ v, v = worstP W k r := ⟨_, rfl⟩
  rw [← hv] at HC ⊢
  clear hv
  obtain ⟨a0, ha0⟩ : ∃ v, v = (rd_T35 W.T k).f0 := ⟨_, rfl⟩
  obtain ⟨a1, ha1⟩ : ∃ v, v = (rd_T35 W.T k).f1 := ⟨_, rfl⟩
  obtain ⟨b1, hb1⟩ : ∃ v, v = (rd_T99 W.C r).f0.f1 := ⟨_, rfl⟩
  obtain ⟨dl, hdl⟩ : ∃ v, v = W.dl := ⟨_, rfl⟩
  rw [← ha0] at t0 HC
  rw [← ha1] at t1 HC
  rw [← hb1] at q1 HC
  rw [← hdl] at u6 HC
  clear ha0 ha1 hb1 hdl
  obtain ⟨nT, hnT⟩ : ∃ v, v = W.T.length := ⟨_, rfl⟩
  obtain ⟨nC, hnC⟩ : ∃ v, v = W.C.length := ⟨_, rfl⟩
  rw [← hnT] at u7 k1
  rw [← hnC] at u4 r1
  have HN := Aside0.mk hn
  have hnTb : nT ≤ 40 := hnT ▸ hn.t
  have hnCb : nC ≤ 5 := hnC ▸ hn.c1
  clear hnT hnC hn
  have hmo : Try.prog.follows .mixedOrders = true := by kernel_rfl
  go_enter Try.func48, Try.ntmps48
  go_wp2_with fail
  go_region_held3 (fun w' : World => w'.cell? ⟨p, 4, none⟩ = some (.slice (some bd) nC cC) ∧ w'.cell? ⟨p, 6, none⟩ = some (.int .i64 dl) ∧ w'.cell? ⟨p, 7, none⟩ = some (.slice (some ad) nT cT) ∧ w'.cell? (ad.add (k.toNat * 2)) = some (.int .i64 a0) ∧ w'.cell? ⟨(ad.add (k.toNat * 2)).block, (ad.add (k.toNat * 2)).off + 1, none⟩ = some (.int .i64 a1) ∧ w'.cell? ⟨(bd.add (r.toNat * 3)).block, (bd.add (r.toNat * 3)).off + 1, none⟩ = some (.int .i64 b1)) (first | go_keep | exact ⟨pw_cell_below hb u4, pw_cell_below hb u6, pw_cell_below hb u7, pw_cell_below hb t0, pw_cell_below hb t1, pw_cell_below hb q1⟩) (first
    | (go_at_call 47; refine (HC.out _).mono ?_; rintro e w' ⟨rfl, hb⟩))
  go_wp2_with fail
  go_ret
  exact ⟨rfl, (below_drew (Below.refl _ _)).trans hb⟩
end Go.Proofs.Ytillieimgjdpbaa.Pr
