/- The least rota: its contract. -/
import Derived.Test.YtillieimgjdpbaaOHl
import Derived.Laws.EntriesVeiled
namespace Go.Proofs.Ytillieimgjdpbaa.Pr
open Go.RowKit Go.Proofs.YtillieimgjdpbaaW.PrintWords Go.Proofs.YtillieimgjdpbaaW.PrintLast Go.Proofs.YtillieimgjdpbaaW.PrintMore
set_option linter.unusedVariables false
set_option linter.unusedSimpArgs false
theorem give_all (W : Wk) (hn : W.Ok) (w0 : World) (p : Nat) (hW : W.Here w0 p) (nt : Int) : ∀ f, GiveSpec W w0 p nt f
  | 0 => give_zero W hn w0 p hW nt
  | f + 1 => give_succ W hn w0 p hW nt f (give_all W hn w0 p hW nt f)
theorem env_made (W : Wk) (w : World) (p : Nat) (nt : Int) :
    Env W w p nt 0 (((((((w.alloc (.cells #[.pointer (some ⟨p, 0, none⟩)] 90)).alloc (.cells #[.int .i64 nt] 3)).alloc (.cells #[.int .i64 0] 3)).alloc (.map #[] 0)).alloc (.cells #[.map (some (w.heap.size + 3))] 104)).alloc (.cells #[.func (.func 53) #[.pointer (some ⟨p, 0, none⟩)] #[]] 105)).alloc (.cells #[.func (.func 54) #[] #[.pointer (some ⟨w.heap.size + 2, 0, none⟩), .pointer (some ⟨w.heap.size, 0, none⟩), .pointer (some ⟨w.heap.size + 4, 0, none⟩), .pointer (some ⟨w.heap.size + 1, 0, none⟩), .pointer (some ⟨w.heap.size + 5, 0, none⟩), .pointer (some ⟨w.heap.size + 6, 0, none⟩)]] 106)) := by
  have g0 := blk_new w (.cells #[.pointer (some ⟨p, 0, none⟩)] 90)
  have b0 := below_alloc (Below.refl w.heap.size w) (.cells #[.pointer (some ⟨p, 0, none⟩)] 90)
  have s0 : (w.alloc (.cells #[.pointer (some ⟨p, 0, none⟩)] 90)).heap.size = w.heap.size + 1 := by simp
  generalize w.alloc (.cells #[.pointer (some ⟨p, 0, none⟩)] 90) = w1 at *
  have g1 := blk_new w1 (.cells #[.int .i64 nt] 3)
  have s1 : (w1.alloc (.cells #[.int .i64 nt] 3)).heap.size = w.heap.size + 2 := by simp [s0]
  replace g0 := blk_alloc g0 (.cells #[.int .i64 nt] 3)
  replace b0 := below_alloc b0 (.cells #[.int .i64 nt] 3)
  rw [s0] at g1
  generalize w1.alloc (.cells #[.int .i64 nt] 3) = w2 at *
  have g2 := blk_new w2 (.cells #[.int .i64 0] 3)
  have s2 : (w2.alloc (.cells #[.int .i64 0] 3)).heap.size = w.heap.size + 3 := by simp [s1]
  replace g0 := blk_alloc g0 (.cells #[.int .i64 0] 3)
  replace g1 := blk_alloc g1 (.cells #[.int .i64 0] 3)
  replace b0 := below_alloc b0 (.cells #[.int .i64 0] 3)
  rw [s1] at g2
  generalize w2.alloc (.cells #[.int .i64 0] 3) = w3 at *
  have g3 := LostAt.made w3 (DeadP W nt 0)
  have s3 : (w3.alloc (.map #[] 0)).heap.size = w.heap.size + 4 := by simp [s2]
  replace g0 := blk_alloc g0 (.map #[] 0)
  replace g1 := blk_alloc g1 (.map #[] 0)
  replace g2 := blk_alloc g2 (.map #[] 0)
  replace b0 := below_alloc b0 (.map #[] 0)
  rw [s2] at g3
  generalize w3.alloc (.map #[] 0) = w4 at *
  have g4 := blk_new w4 (.cells #[.map (some (w.heap.size + 3))] 104)
  have s4 : (w4.alloc (.cells #[.map (some (w.heap.size + 3))] 104)).heap.size = w.heap.size + 5 := by simp [s3]
  replace g0 := blk_alloc g0 (.cells #[.map (some (w.heap.size + 3))] 104)
  replace g1 := blk_alloc g1 (.cells #[.map (some (w.heap.size + 3))] 104)
  replace g2 := blk_alloc g2 (.cells #[.map (some (w.heap.size + 3))] 104)
  replace g3 := g3.move (Below.heap_alloc w4 (.cells #[.map (some (w.heap.size + 3))] 104) _ g3.lt)
  replace b0 := below_alloc b0 (.cells #[.map (some (w.heap.size + 3))] 104)
  rw [s3] at g4
  generalize w4.alloc (.cells #[.map (some (w.heap.size + 3))] 104) = w5 at *
  have g5 := blk_new w5 (.cells #[.func (.func 53) #[.pointer (some ⟨p, 0, none⟩)] #[]] 105)
  have s5 : (w5.alloc (.cells #[.func (.func 53) #[.pointer (some ⟨p, 0, none⟩)] #[]] 105)).heap.size = w.heap.size + 6 := by simp [s4]
  replace g0 := blk_alloc g0 (.cells #[.func (.func 53) #[.pointer (some ⟨p, 0, none⟩)] #[]] 105)
  replace g1 := blk_alloc g1 (.cells #[.func (.func 53) #[.pointer (some ⟨p, 0, none⟩)] #[]] 105)
  replace g2 := blk_alloc g2 (.cells #[.func (.func 53) #[.pointer (some ⟨p, 0, none⟩)] #[]] 105)
  replace g4 := blk_alloc g4 (.cells #[.func (.func 53) #[.pointer (some ⟨p, 0, none⟩)] #[]] 105)
  replace g3 := g3.move (Below.heap_alloc w5 (.cells #[.func (.func 53) #[.pointer (some ⟨p, 0, none⟩)] #[]] 105) _ g3.lt)
  replace b0 := below_alloc b0 (.cells #[.func (.func 53) #[.pointer (some ⟨p, 0, none⟩)] #[]] 105)
  rw [s4] at g5
  generalize w5.alloc (.cells #[.func (.func 53) #[.pointer (some ⟨p, 0, none⟩)] #[]] 105) = w6 at *
  have g6 := blk_new w6 (.cells #[.func (.func 54) #[] #[.pointer (some ⟨w.heap.size + 2, 0, none⟩), .pointer (some ⟨w.heap.size, 0, none⟩), .pointer (some ⟨w.heap.size + 4, 0, none⟩), .pointer (some ⟨w.heap.size + 1, 0, none⟩), .pointer (some ⟨w.heap.size + 5, 0, none⟩), .pointer (some ⟨w.heap.size + 6, 0, none⟩)]] 106)
  rw [s5] at g6
  exact ⟨below_alloc b0 _, blk_alloc g0 _, blk_alloc g1 _, blk_alloc g2 _, g3.move (Below.heap_alloc w6 _ _ g3.lt), blk_alloc g4 _, blk_alloc g5 _, g6⟩
/-- The least rota that begins so, and how far one comes. -/
def rotaP (W : Wk) (nt : Int) (l : List Int) : List Int := l ++ (firstF W nt (W.T.length - l.length) (beginP l)).getD []
def reachP (W : Wk) (nt : Int) (l : List Int) : Int := l.length + best W nt (W.T.length - l.length) (beginP l)
theorem results_tmp_cell {fn : Func} {t q : Tmp} {ty : TypeId} (h : fn.results = #[.tmp t, .cell q ty]) (tmps : Array Value) (P : Program) (w : World) :
    (results fn tmps).run P w = ((asAddr (tmps.getD q undef)).run P w).andThen fun a w₁ => ((loadVar ty a).run P w₁).andThen fun v w₂ => .ok (.tuple #[tmps.getD t undef, v]) w₂ := by
  simp only [results, h]
  simp [Sem.run_bind, Result.andThen]
set_option maxRecDepth 100000 in
set_option maxHeartbeats 1000000 in
theorem least44 (W : Wk) (hn : W.Ok) (w : World) (p : Nat) (hW : W.Here w p) (nt : Int) (A : Option Addr) (c : Nat) (l : List Int) (hl : l.length ≤ W.T.length) (hr : ∀ r ∈ l, 0 ≤ r ∧ r < 5) (h : Kd.C (Kd.int .i64) w A l.length l) (hc : l.length ≤ c) :
    Calls Try.prog 44 #[.pointer (some ⟨p, 0, none⟩), .slice A l.length c, .int .i64 nt] w fun e w' => ∃ v : Value, e = .returned (.tuple #[v, .int .i64 (reachP W nt l)]) ∧ Kd.V (Kd.int .i64) 3 w' w.heap.size (fun k_ => (w.heap.size ≤ k_)) v (rotaP W nt l) ∧ Below w.heap.size w w' := by
  have hmm := @run_makeMap Try.prog
  have HE := Aside0.mk (env_made W w p nt)
  have hT := hn.t
  go_enter Try.func44, Try.ntmps44
  go_wp2_with fail
  refine (?f : ∀ X : World, Env W w p nt 0 X → Code.wp Try.prog _ _ _ X) _ HE.out
  intro X hX
  have x6 : X.cell? ⟨w.heap.size + 1 + 1 + 1 + 1 + 1 + 1, 0, none⟩ = some (.func (.func 54) #[] #[.pointer (some ⟨w.heap.size + 1 + 1, 0, none⟩), .pointer (some ⟨w.heap.size, 0, none⟩), .pointer (some ⟨w.heap.size + 1 + 1 + 1 + 1, 0, none⟩), .pointer (some ⟨w.heap.size + 1, 0, none⟩), .pointer (some ⟨w.heap.size + 1 + 1 + 1 + 1 + 1, 0, none⟩), .pointer (some ⟨w.heap.size + 1 + 1 + 1 + 1 + 1 + 1, 0, none⟩)]) := (blk_cell hX.gb 0).trans rfl
  have HBZ : Aside0 (Below X.heap.size X X.drew) := ⟨below_drew (Below.refl _ _)⟩
  have HCX : Aside0 (Kd.C (Kd.int .i64) X A l.length l) := ⟨Kd.C_below h hX.below⟩
  have HX := Aside0.mk hX
  have HLB : Aside0 (w.heap.size + 7 ≤ X.heap.size) := ⟨blk_lt hX.gb⟩
  obtain ⟨rho, hrho⟩ : ∃ x, x = max 0 ((beginP l).k + (best W nt (W.T.length - l.length) (beginP l) : Nat)) := ⟨_, rfl⟩
  have HRHO := Aside0.mk hrho
  clear hX hmm HE h hrho
  go_region_held3 (fun Y : World => Y.cell? ⟨w.heap.size + 1 + 1 + 1 + 1 + 1 + 1, 0, none⟩ = some (.func (.func 54) #[] #[.pointer (some ⟨w.heap.size + 1 + 1, 0, none⟩), .pointer (some ⟨w.heap.size, 0, none⟩), .pointer (some ⟨w.heap.size + 1 + 1 + 1 + 1, 0, none⟩), .pointer (some ⟨w.heap.size + 1, 0, none⟩), .pointer (some ⟨w.heap.size + 1 + 1 + 1 + 1 + 1, 0, none⟩), .pointer (some ⟨w.heap.size + 1 + 1 + 1 + 1 + 1 + 1, 0, none⟩)])) (first
    | exact pw_cell_below HBZ.out x6
    | exact (blk_cell hE2.gb 0).trans rfl
    | go_keep) (first
    | (go_at_call 57; refine (begin57 A c l (by omega) hr _ (Kd.C_below HCX.out HBZ.out)).mono ?_; rintro e wa ⟨rfl, hba⟩; have HBN : Aside0 (Below X.heap.size X wa) := ⟨below_then HBZ.out HBZ.out.size hba⟩; clear HBZ; have HBZ := HBN; clear HBN)
    | (go_at_call 56; refine (clone3 A c l _ (Kd.C_below HCX.out HBZ.out) hc (by omega)).mono ?_; rintro e wb ⟨v, rfl, hv, hbb⟩; have HSA := HBZ.out.size; have HBN : Aside0 (Below X.heap.size X wb) := ⟨below_then HBZ.out HBZ.out.size hbb⟩; clear HBZ; have HBZ := HBN; clear HBN; obtain ⟨A2, c2, rfl⟩ := Kd.R_slice hv)
    | (go_at_call 54; refine (give_all W hn w p hW nt (W.T.length - l.length) (beginP l) l A2 c2 0 wb (HX.out.of_below HBZ.out) (begin_fine l hr) ?z1 (by omega) (beginP_k l) (VI.ofR hv (Nat.le_trans HLB.out HSA))).mono ?_; (case z1 => rw [beginP_k]; omega); rintro e w2 ⟨v2, rfl, hv2, hk2, hE2⟩; rw [← HRHO.out] at hE2; have y2 : w2.cell? ⟨w.heap.size + 1 + 1, 0, none⟩ = some (.int .i64 rho) := (blk_cell hE2.rb 0).trans rfl; have z2 : w2.frozen? ⟨w.heap.size + 1 + 1, 0, none⟩ = false := blk_frozen hE2.rb 0))
  go_wp2_with fail
  go_region
  go_wp2_with fail
  have hEz : Env W w p nt rho (w2.setCell ⟨w.heap.size + 1 + 1, 0, none⟩ (.int .i64 rho)) := Env.set hE2 (Int.le_refl rho)
  have y3 : ((w2.setCell ⟨w.heap.size + 1 + 1, 0, none⟩ (.int .i64 rho)).drew).cell? ⟨w.heap.size + 1 + 1, 0, none⟩ = some (.int .i64 rho) := (blk_cell hEz.rb 0).trans rfl
  have hrp : rho = reachP W nt l := by rw [HRHO.out, reachP, beginP_k]; omega
  have hkz : Kp w.heap.size w2 ((w2.setCell ⟨w.heap.size + 1 + 1, 0, none⟩ (.int .i64 rho)).drew) := ((Kp.refl _ w2).set (.int .i64 rho)).trans (.of (below_drew (Below.refl _ _)))
  refine bodyPost_ret (v := .tuple #[v2, .int .i64 rho]) ((results_tmp_cell rfl _ _ _).trans ?_) rfl ?_
  · generalize (w2.setCell ⟨w.heap.size + 1 + 1, 0, none⟩ (.int .i64 rho)).drew = w3 at y3 hkz ⊢
    simp [go_sem, y3, Result.andThen]
  · exact ⟨v2, by rw [hrp], Kd.V_mono (VI.keep hv2 hkz) (fun k hk => by unfold okF at hk; omega), below_drew hEz.below⟩
end Go.Proofs.Ytillieimgjdpbaa.Pr
