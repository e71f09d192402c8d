/- Contracts by hand: the first rota; the take that cannot be given. -/
import Derived.Test.YtillieimgjdpbaaRHl
import Derived.Laws.EntriesVeiled
import Derived.Test.YtillieimgjdpbaaRHf
namespace Go.Proofs.Ytillieimgjdpbaa.Pr
open Go.RowKit Go.Proofs.YtillieimgjdpbaaW.PrintWords Go.Proofs.YtillieimgjdpbaaW.PrintLast Go.Proofs.YtillieimgjdpbaaW.PrintMore
set_option linter.unusedVariables false
set_option linter.unusedSimpArgs false
theorem give_all (W : Wk) (hn : W.Ok) (w0 : World) (p : Nat) (hW : W.Here w0 p) (nt : Int) : ∀ f, GiveSpec W w0 p nt f
  | 0 => give_zero W hn w0 p hW nt
  | f + 1 => give_succ W hn w0 p hW nt f (give_all W hn w0 p hW nt f)
theorem env_made (W : Wk) (w : World) (p : Nat) (nt : Int) :
    Env W w p nt 0 (((((((w.alloc (.cells #[.pointer (some ⟨p, 0, none⟩)] 90)).alloc (.cells #[.int .i64 nt] 3)).alloc (.cells #[.int .i64 0] 3)).alloc (.map #[] 0)).alloc (.cells #[.map (some (w.heap.size + 3))] 104)).alloc (.cells #[.func (.func 53) #[.pointer (some ⟨p, 0, none⟩)] #[]] 105)).alloc (.cells #[.func (.func 54) #[] #[.pointer (some ⟨w.heap.size + 2, 0, none⟩), .pointer (some ⟨w.heap.size, 0, none⟩), .pointer (some ⟨w.heap.size + 4, 0, none⟩), .pointer (some ⟨w.heap.size + 1, 0, none⟩), .pointer (some ⟨w.heap.size + 5, 0, none⟩), .pointer (some ⟨w.heap.size + 6, 0, none⟩)]] 106)) := by
  have g0 := blk_new w (.cells #[.pointer (some ⟨p, 0, none⟩)] 90)
  have b0 := below_alloc (Below.refl w.heap.size w) (.cells #[.pointer (some ⟨p, 0, none⟩)] 90)
  have s0 : (w.alloc (.cells #[.pointer (some ⟨p, 0, none⟩)] 90)).heap.size = w.heap.size + 1 := by simp
  generalize w.alloc (.cells #[.pointer (some ⟨p, 0, none⟩)] 90) = w1 at *
  have g1 := blk_new w1 (.cells #[.int .i64 nt] 3)
  have s1 : (w1.alloc (.cells #[.int .i64 nt] 3)).heap.size = w.heap.size + 2 := by simp [s0]
  replace g0 := blk_alloc g0 (.cells #[.int .i64 nt] 3)
  replace b0 := below_alloc b0 (.cells #[.int .i64 nt] 3)
  rw [s0] at g1
  generalize w1.alloc (.cells #[.int .i64 nt] 3) = w2 at *
  have g2 := blk_new w2 (.cells #[.int .i64 0] 3)
  have s2 : (w2.alloc (.cells #[.int .i64 0] 3)).heap.size = w.heap.size + 3 := by simp [s1]
  replace g0 := blk_alloc g0 (.cells #[.int .i64 0] 3)
  replace g1 := blk_alloc g1 (.cells #[.int .i64 0] 3)
  replace b0 := below_alloc b0 (.cells #[.int .i64 0] 3)
  rw [s1] at g2
  generalize w2.alloc (.cells #[.int .i64 0] 3) = w3 at *
  have g3 := LostAt.made w3 (DeadP W nt 0)
  have s3 : (w3.alloc (.map #[] 0)).heap.size = w.heap.size + 4 := by simp [s2]
  replace g0 := blk_alloc g0 (.map #[] 0)
  replace g1 := blk_alloc g1 (.map #[] 0)
  replace g2 := blk_alloc g2 (.map #[] 0)
  replace b0 := below_alloc b0 (.map #[] 0)
  rw [s2] at g3
  generalize w3.alloc (.map #[] 0) = w4 at *
  have g4 := blk_new w4 (.cells #[.map (some (w.heap.size + 3))] 104)
  have s4 : (w4.alloc (.cells #[.map (some (w.heap.size + 3))] 104)).heap.size = w.heap.size + 5 := by simp [s3]
  replace g0 := blk_alloc g0 (.cells #[.map (some (w.heap.size + 3))] 104)
  replace g1 := blk_alloc g1 (.cells #[.map (some (w.heap.size + 3))] 104)
  replace g2 := blk_alloc g2 (.cells #[.map (some (w.heap.size + 3))] 104)
  replace g3 := g3.move (Below.heap_alloc w4 (.cells #[.map (some (w.heap.size + 3))] 104) _ g3.lt)
  replace b0 := below_alloc b0 (.cells #[.map (some (w.heap.size + 3))] 104)
  rw [s3] at g4
  generalize w4.alloc (.cells #[.map (some (w.heap.size + 3))] 104) = w5 at *
  have g5 := blk_new w5 (.cells #[.func (.func 53) #[.pointer (some ⟨p, 0, none⟩)] #[]] 105)
  have s5 : (w5.alloc (.cells #[.func (.func 53) #[.pointer (some ⟨p, 0, none⟩)] #[]] 105)).heap.size = w.heap.size + 6 := by simp [s4]
  replace g0 := blk_alloc g0 (.cells #[.func (.func 53) #[.pointer (some ⟨p, 0, none⟩)] #[]] 105)
  replace g1 := blk_alloc g1 (.cells #[.func (.func 53) #[.pointer (some ⟨p, 0, none⟩)] #[]] 105)
  replace g2 := blk_alloc g2 (.cells #[.func (.func 53) #[.pointer (some ⟨p, 0, none⟩)] #[]] 105)
  replace g4 := blk_alloc g4 (.cells #[.func (.func 53) #[.pointer (some ⟨p, 0, none⟩)] #[]] 105)
  replace g3 := g3.move (Below.heap_alloc w5 (.cells #[.func (.func 53) #[.pointer (some ⟨p, 0, none⟩)] #[]] 105) _ g3.lt)
  replace b0 := below_alloc b0 (.cells #[.func (.func 53) #[.pointer (some ⟨p, 0, none⟩)] #[]] 105)
  rw [s4] at g5
  generalize w5.alloc (.cells #[.func (.func 53) #[.pointer (some ⟨p, 0, none⟩)] #[]] 105) = w6 at *
  have g6 := blk_new w6 (.cells #[.func (.func 54) #[] #[.pointer (some ⟨w.heap.size + 2, 0, none⟩), .pointer (some ⟨w.heap.size, 0, none⟩), .pointer (some ⟨w.heap.size + 4, 0, none⟩), .pointer (some ⟨w.heap.size + 1, 0, none⟩), .pointer (some ⟨w.heap.size + 5, 0, none⟩), .pointer (some ⟨w.heap.size + 6, 0, none⟩)]] 106)
  rw [s5] at g6
  exact ⟨below_alloc b0 _, blk_alloc g0 _, blk_alloc g1 _, blk_alloc g2 _, g3.move (Below.heap_alloc w6 _ _ g3.lt), blk_alloc g4 _, blk_alloc g5 _, g6⟩
/-- The least rota that begins so, and how far one comes. -/
def rotaP (W : Wk) (nt : Int) (l : List Int) : List Int := l ++ (firstF W nt (W.T.length - l.length) (beginP l)).getD []
def reachP (W : Wk) (nt : Int) (l : List Int) : Int := l.length + best W nt (W.T.length - l.length) (beginP l)
theorem results_tmp_cell {fn : Func} {t q : Tmp} {ty : TypeId} (h : fn.results = #[.tmp t, .cell q ty]) (tmps : Array Value) (P : Program) (w : World) :
    (results fn tmps).run P w = ((asAddr (tmps.getD q undef)).run P w).andThen fun a w₁ => ((loadVar ty a).run P w₁).andThen fun v w₂ => .ok (.tuple #[tmps.getD t undef, v]) w₂ := by
  simp only [results, h]
  simp [Sem.run_bind, Result.andThen]
set_option maxRecDepth 100000 in
set_option maxHeartbeats 1000000 in
theorem least44 (W : Wk) (hn : W.Ok) (w : World) (p : Nat) (hW : W.Here w p) (nt : Int) (A : Option Addr) (c : Nat) (l : List Int) (hl : l.length ≤ W.T.length) (hr : ∀ r ∈ l, 0 ≤ r ∧ r < 5) (h : Kd.C (Kd.int .i64) w A l.length l) (hc : l.length ≤ c) :
    Calls Try.prog 44 #[.pointer (some ⟨p, 0, none⟩), .slice A l.length c, .int .i64 nt] w fun e w' => ∃ v : Value, e = .returned (.tuple #[v, .int .i64 (reachP W nt l)]) ∧ Kd.V (Kd.int .i64) 3 w' w.heap.size (fun k_ => (w.heap.size ≤ k_)) v (rotaP W nt l) ∧ Below w.heap.size w w' := by
  have hmm := @run_makeMap Try.prog
  have HE := Aside0.mk (env_made W w p nt)
  have hT := hn.t
  go_enter Try.func44, Try.ntmps44
  go_wp2_with fail
  refine (?f : ∀ X : World, Env W w p nt 0 X → Code.wp Try.prog _ _ _ X) _ HE.out
  intro X hX
  have x6 : X.cell? ⟨w.heap.size + 1 + 1 + 1 + 1 + 1 + 1, 0, none⟩ = some (.func (.func 54) #[] #[.pointer (some ⟨w.heap.size + 1 + 1, 0, none⟩), .pointer (some ⟨w.heap.size, 0, none⟩), .pointer (some ⟨w.heap.size + 1 + 1 + 1 + 1, 0, none⟩), .pointer (some ⟨w.heap.size + 1, 0, none⟩), .pointer (some ⟨w.heap.size + 1 + 1 + 1 + 1 + 1, 0, none⟩), .pointer (some ⟨w.heap.size + 1 + 1 + 1 + 1 + 1 + 1, 0, none⟩)]) := (blk_cell hX.gb 0).trans rfl
  have HBZ : Aside0 (Below X.heap.size X X.drew) := ⟨below_drew (Below.refl _ _)⟩
  have HCX : Aside0 (Kd.C (Kd.int .i64) X A l.length l) := ⟨Kd.C_below h hX.below⟩
  have HX := Aside0.mk hX
  have HLB : Aside0 (w.heap.size + 7 ≤ X.heap.size) := ⟨blk_lt hX.gb⟩
  obtain ⟨rho, hrho⟩ : ∃ x, x = max 0 ((beginP l).k + (best W nt (W.T.length - l.length) (beginP l) : Nat)) := ⟨_, rfl⟩
  have HRHO := Aside0.mk hrho
  clear hX hmm HE h hrho
  go_region_held3 (fun Y : World => Y.cell? ⟨w.heap.size + 1 + 1 + 1 + 1 + 1 + 1, 0, none⟩ = some (.func (.func 54) #[] #[.pointer (some ⟨w.heap.size + 1 + 1, 0, none⟩), .pointer (some ⟨w.heap.size, 0, none⟩), .pointer (some ⟨w.heap.size + 1 + 1 + 1 + 1, 0, none⟩), .pointer (some ⟨w.heap.size + 1, 0, none⟩), .pointer (some ⟨w.heap.size + 1 + 1 + 1 + 1 + 1, 0, none⟩), .pointer (some ⟨w.heap.size + 1 + 1 + 1 + 1 + 1 + 1, 0, none⟩)])) (first
    | exact pw_cell_below HBZ.out x6
    | exact (blk_cell hE2.gb 0).trans rfl
    | go_keep) (first
    | (go_at_call 57; refine (begin57 A c l (by omega) hr _ (Kd.C_below HCX.out HBZ.out)).mono ?_; rintro e wa ⟨rfl, hba⟩; have HBN : Aside0 (Below X.heap.size X wa) := ⟨below_then HBZ.out HBZ.out.size hba⟩; clear HBZ; have HBZ := HBN; clear HBN)
    | (go_at_call 56; refine (clone3 A c l _ (Kd.C_below HCX.out HBZ.out) hc (by omega)).mono ?_; rintro e wb ⟨v, rfl, hv, hbb⟩; have HSA := HBZ.out.size; have HBN : Aside0 (Below X.heap.size X wb) := ⟨below_then HBZ.out HBZ.out.size hbb⟩; clear HBZ; have HBZ := HBN; clear HBN; obtain ⟨A2, c2, rfl⟩ := Kd.R_slice hv)
    | (go_at_call 54; refine (give_all W hn w p hW nt (W.T.length - l.length) (beginP l) l A2 c2 0 wb (HX.out.of_below HBZ.out) (begin_fine l hr) ?z1 (by omega) (beginP_k l) (VI.ofR hv (Nat.le_trans HLB.out HSA))).mono ?_; (case z1 => rw [beginP_k]; omega); rintro e w2 ⟨v2, rfl, hv2, hk2, hE2⟩; rw [← HRHO.out] at hE2; have y2 : w2.cell? ⟨w.heap.size + 1 + 1, 0, none⟩ = some (.int .i64 rho) := (blk_cell hE2.rb 0).trans rfl; have z2 : w2.frozen? ⟨w.heap.size + 1 + 1, 0, none⟩ = false := blk_frozen hE2.rb 0))
  go_wp2_with fail
  go_region
  go_wp2_with fail
  have hEz : Env W w p nt rho (w2.setCell ⟨w.heap.size + 1 + 1, 0, none⟩ (.int .i64 rho)) := Env.set hE2 (Int.le_refl rho)
  have y3 : ((w2.setCell ⟨w.heap.size + 1 + 1, 0, none⟩ (.int .i64 rho)).drew).cell? ⟨w.heap.size + 1 + 1, 0, none⟩ = some (.int .i64 rho) := (blk_cell hEz.rb 0).trans rfl
  have hrp : rho = reachP W nt l := by rw [HRHO.out, reachP, beginP_k]; omega
  have hkz : Kp w.heap.size w2 ((w2.setCell ⟨w.heap.size + 1 + 1, 0, none⟩ (.int .i64 rho)).drew) := ((Kp.refl _ w2).set (.int .i64 rho)).trans (.of (below_drew (Below.refl _ _)))
  refine bodyPost_ret (v := .tuple #[v2, .int .i64 rho]) ((results_tmp_cell rfl _ _ _).trans ?_) rfl ?_
  · generalize (w2.setCell ⟨w.heap.size + 1 + 1, 0, none⟩ (.int .i64 rho)).drew = w3 at y3 hkz ⊢
    simp [go_sem, y3, Result.andThen]
  · exact ⟨v2, by rw [hrp], Kd.V_mono (VI.keep hv2 hkz) (fun k hk => by unfold okF at hk; omega), below_drew hEz.below⟩
end Go.Proofs.Ytillieimgjdpbaa.Pr
namespace Go.Proofs.Ytillieimgjdpbaa.Pr
open Go.RowKit Go.Proofs.YtillieimgjdpbaaW.PrintWords
set_option linter.unusedVariables false
set_option linter.unusedSimpArgs false
/-- A stretch, cut by itself. -/
def chop (long short : Int) (x : S35) : List S35 :=
  let m := (x.f1 - x.f0) / long
  if x.f1 - (x.f0 + m * long) = 0 then fulls x.f0 long m.toNat
  else if short ≤ x.f1 - (x.f0 + m * long) ∨ m = 0 then fulls x.f0 long m.toNat ++ [⟨x.f0 + m * long, x.f1⟩]
  else fulls x.f0 long (m.toNat - 1) ++ [⟨x.f0 + (m - 1) * long, x.f1⟩]
theorem setLast_snoc (l : List S35) (p : S35) (v : Int) : setLast (l ++ [p]) v = l ++ [⟨p.f0, v⟩] := by simp [setLast]
theorem takesStep_chop (long short : Int) (hl : 1 ≤ long) (out : List S35) (x : S35) (hx : x.f0 < x.f1) : takesStep long short out x = out ++ chop long short x := by
  unfold takesStep chop
  simp only
  have hm0 : 0 ≤ (x.f1 - x.f0) / long := Int.ediv_nonneg (by omega) (by omega)
  split
  · rfl
  · split
    · rw [List.append_assoc]
    · rename_i h1 h2
      obtain ⟨m, hm⟩ : ∃ m : Nat, ((x.f1 - x.f0) / long).toNat = m + 1 := ⟨((x.f1 - x.f0) / long).toNat - 1, by omega⟩
      rw [hm, fulls_succ, ← List.append_assoc, setLast_snoc, List.append_assoc, Nat.add_sub_cancel]
      have : ((m : Nat) : Int) = (x.f1 - x.f0) / long - 1 := by omega
      rw [this]
theorem foldl_chop (long short : Int) (hl : 1 ≤ long) : ∀ (xs : List S35) (out : List S35), (∀ x ∈ xs, x.f0 < x.f1) → xs.foldl (takesStep long short) out = out ++ xs.flatMap (chop long short)
  | [], out, _ => by simp
  | x :: t, out, h => by
    rw [List.foldl_cons, takesStep_chop long short hl out x (h x (by simp)), foldl_chop long short hl t _ (fun y hy => h y (by simp [hy]))]
    simp
theorem strP_lt : ∀ (ps : List S35) (a : Int) (x : S35), x ∈ strP a ps → x.f0 < x.f1
  | [], a, x, h => by simp [strP] at h
  | p :: t, a, x, h => by
    rw [strP] at h
    split at h
    · rcases List.mem_cons.1 h with rfl | h
      · simp only; omega
      · exact strP_lt t _ x h
    · exact strP_lt t _ x h
theorem takesP_chop (L : Int) (ps : List S35) (long short : Int) (hl : 1 ≤ long) : takesP L ps long short = (strP 0 (ps ++ [⟨L, L⟩])).flatMap (chop long short) := by
  rw [takesP, foldl_chop long short hl _ _ (fun x hx => strP_lt _ _ x hx), List.nil_append]
/-- Where the stretches lie. -/
theorem strP_in (L : Int) : ∀ (ps : List S35) (a : Int), 0 ≤ a → (∀ p ∈ ps, 0 ≤ p.f0 ∧ p.f0 ≤ L ∧ 0 ≤ p.f1 ∧ p.f1 ≤ L) → ∀ x ∈ strP a ps, 0 ≤ x.f0 ∧ x.f0 < x.f1 ∧ x.f1 ≤ L
  | [], a, ha, _, x, h => by simp [strP] at h
  | p :: t, a, ha, hp, x, h => by
    have h1 := hp p (by simp)
    rw [strP] at h
    split at h
    · rcases List.mem_cons.1 h with rfl | h
      · simp only; omega
      · exact strP_in L t _ h1.2.2.1 (fun q hq => hp q (by simp [hq])) x h
    · exact strP_in L t _ h1.2.2.1 (fun q hq => hp q (by simp [hq])) x h
theorem mem_fulls {a long : Int} {n : Nat} {t : S35} (h : t ∈ fulls a long n) : ∃ k : Nat, k < n ∧ t = ⟨a + k * long, a + (k + 1) * long⟩ := by
  obtain ⟨k, hk, rfl⟩ := List.mem_map.1 h
  exact ⟨k, List.mem_range.1 hk, rfl⟩
/-- What a take of a stretch is: a whole one; the rest; the last, gone on. -/
theorem mem_chop {long short : Int} (hl : 1 ≤ long) {x : S35} (hx : x.f0 < x.f1) {t : S35} (h : t ∈ chop long short x) :
    x.f0 ≤ t.f0 ∧ t.f0 < t.f1 ∧ t.f1 ≤ x.f1 ∧ (t.f1 - t.f0 = long ∨ (t.f1 = x.f1 ∧ t.f1 - t.f0 < long ∧ (short ≤ t.f1 - t.f0 ∨ t.f0 = x.f0)) ∨ (t.f1 = x.f1 ∧ long < t.f1 - t.f0 ∧ t.f1 - t.f0 < long + short)) := by
  have hd1 := Int.mul_ediv_self_le (x := x.f1 - x.f0) (k := long) (by omega)
  have hd2 := Int.lt_mul_ediv_self_add (x := x.f1 - x.f0) (k := long) (by omega)
  have hm0 : 0 ≤ (x.f1 - x.f0) / long := Int.ediv_nonneg (by omega) (by omega)
  unfold chop at h
  simp only at h
  obtain ⟨m, hm⟩ : ∃ m : Nat, (x.f1 - x.f0) / long = m := ⟨((x.f1 - x.f0) / long).toNat, by omega⟩
  rw [hm, Int.mul_comm] at hd1 hd2
  rw [hm] at h
  simp only [Int.toNat_natCast] at h
  have hful : ∀ n : Nat, n ≤ m → t ∈ fulls x.f0 long n → x.f0 ≤ t.f0 ∧ t.f0 < t.f1 ∧ t.f1 ≤ x.f1 ∧ t.f1 - t.f0 = long := by
    intro n hn ht
    obtain ⟨k, hk, rfl⟩ := mem_fulls ht
    have h1 : (0 : Int) ≤ k * long := Int.mul_nonneg (by omega) (by omega)
    have h2 : ((k : Int) + 1) * long = k * long + long := by rw [Int.add_mul, Int.one_mul]
    have h3 : ((k : Int) + 1) * long ≤ m * long := Int.mul_le_mul_of_nonneg_right (by omega) (by omega)
    simp only
    omega
  split at h
  · obtain ⟨h1, h2, h3, h4⟩ := hful m (Nat.le_refl _) h
    exact ⟨h1, h2, h3, .inl h4⟩
  · rename_i hne
    split at h
    · rename_i hs
      rcases List.mem_append.1 h with h | h
      · obtain ⟨h1, h2, h3, h4⟩ := hful m (Nat.le_refl _) h
        exact ⟨h1, h2, h3, .inl h4⟩
      · obtain rfl := List.mem_singleton.1 h
        have h1 : (0 : Int) ≤ m * long := Int.mul_nonneg (by omega) (by omega)
        refine ⟨by simp only; omega, by simp only; omega, Int.le_refl _, .inr (.inl ⟨rfl, by simp only; omega, ?_⟩)⟩
        rcases hs with hs | hs
        · exact .inl hs
        · right; simp [hs]
    · rename_i hs
      have hmp : 1 ≤ m := by
        have : ¬ (m : Int) = 0 := fun e => hs (.inr e)
        omega
      rcases List.mem_append.1 h with h | h
      · obtain ⟨h1, h2, h3, h4⟩ := hful (m - 1) (by omega) h
        exact ⟨h1, h2, h3, .inl h4⟩
      · obtain rfl := List.mem_singleton.1 h
        have h1 : (0 : Int) ≤ ((m : Int) - 1) * long := Int.mul_nonneg (by omega) (by omega)
        have h2 : ((m : Int) - 1) * long = m * long - long := by rw [Int.sub_mul, Int.one_mul]
        have h3 : ¬ short ≤ x.f1 - (x.f0 + m * long) := fun e => hs (.inl e)
        refine ⟨by simp only; omega, by simp only; omega, Int.le_refl _, .inr (.inr ⟨rfl, by simp only; omega, by simp only; omega⟩)⟩
theorem takesP_in {L : Int} {ps : List S35} {long short : Int} (h : sittingOk L ps long short = true) : ∀ t ∈ takesP L ps long short, 0 ≤ t.f0 ∧ t.f0 < t.f1 ∧ t.f1 ≤ L := by
  obtain ⟨hp, hL0, hL1, hl, hl1, hs0, hs1⟩ := sittingOk_parts h
  have hb := (pausesOk_bounds L ps (-1) hp).1
  intro t ht
  rw [takesP_chop L ps long short hl] at ht
  obtain ⟨x, hx, htx⟩ := List.mem_flatMap.1 ht
  have h1 := strP_in L _ 0 (Int.le_refl _) (fun p hm => by
    rcases List.mem_append.1 hm with hm | hm
    · have := hb p hm; omega
    · obtain rfl := List.mem_singleton.1 hm; simp only; omega) x hx
  have h2 := mem_chop hl h1.2.1 htx
  omega
end Go.Proofs.Ytillieimgjdpbaa.Pr
namespace Go.Proofs.Ytillieimgjdpbaa.Pr
open Go.RowKit Go.Proofs.YtillieimgjdpbaaW.PrintWords Go.Proofs.YtillieimgjdpbaaW.PrintLast Go.Proofs.YtillieimgjdpbaaW.PrintMore
set_option linter.unusedVariables false
set_option linter.unusedSimpArgs false
def wkOf (L : Int) (ps : List S35) (long short : Int) (cr : List S99) (due dl : Int) : Wk := ⟨L, takesP L ps long short, cr, due, dl⟩
/-- The error of a sitting at an office. -/
def workE (L : Int) (ps : List S35) (long short : Int) (cr : List S99) (due dl : Int) : Int :=
  if (checkP L ps long short).2 ≠ 0 then (checkP L ps long short).2 else if officeOk cr due dl = true then 0 else 1
set_option maxRecDepth 100000 in
set_option maxHeartbeats 1000000 in
theorem work43 (a0_0 : Int) (A0_1 : Option Addr) (c0_1 : Nat) (l0_1 : List (S35)) (a0_2 : Int) (a0_3 : Int) (A1_0 : Option Addr) (c1_0 : Nat) (l1_0 : List (S99)) (a1_1 : Int) (a1_2 : Int) (w : World) (hr0_1 : Kd.C k35 w A0_1 l0_1.length l0_1) (hc0_1 : l0_1.length ≤ c0_1) (hr1_0 : Kd.C k99 w A1_0 l1_0.length l1_0) (hc1_0 : l1_0.length ≤ c1_0) :
    Calls Try.prog 43 #[.agg #[.int .i64 a0_0, .slice A0_1 l0_1.length c0_1, .int .i64 a0_2, .int .i64 a0_3], .agg #[.slice A1_0 l1_0.length c1_0, .int .i64 a1_1, .int .i64 a1_2]] w fun e w' => Below w.heap.size w w' ∧
      ((workE a0_0 l0_1 a0_2 a0_3 l1_0 a1_1 a1_2 ≠ 0 ∧ e = .returned (.tuple #[.pointer none, .int .i64 (workE a0_0 l0_1 a0_2 a0_3 l1_0 a1_1 a1_2)])) ∨
       (workE a0_0 l0_1 a0_2 a0_3 l1_0 a1_1 a1_2 = 0 ∧ ∃ p, e = .returned (.tuple #[.pointer (some ⟨p, 0, none⟩), .int .i64 0]) ∧ (wkOf a0_0 l0_1 a0_2 a0_3 l1_0 a1_1 a1_2).Here w' p)) := by
  obtain ⟨W1, hW1⟩ : ∃ X, X = (w.alloc (.cells #[.int .i64 a0_0, .slice A0_1 l0_1.length c0_1, .int .i64 a0_2, .int .i64 a0_3] 32)).alloc (.cells #[.slice A1_0 l1_0.length c1_0, .int .i64 a1_1, .int .i64 a1_2] 52) := ⟨_, rfl⟩
  have hB1 : Below w.heap.size w W1 := hW1 ▸ below_alloc (below_alloc (Below.refl _ _) _) _
  have g0 : W1.heap[w.heap.size]? = some (.cells #[.int .i64 a0_0, .slice A0_1 l0_1.length c0_1, .int .i64 a0_2, .int .i64 a0_3] 32 (0, 0)) := hW1 ▸ heap_alloc2_old _ _ _
  have g1 : W1.heap[w.heap.size + 1]? = some (.cells #[.slice A1_0 l1_0.length c1_0, .int .i64 a1_1, .int .i64 a1_2] 52 (0, 0)) := hW1 ▸ heap_alloc2_new _ _ _
  obtain ⟨r1, r2, hr⟩ : ∃ r1 r2, checkP a0_0 l0_1 a0_2 a0_3 = (r1, r2) := ⟨_, _, rfl⟩
  have HCH : Aside0 (Calls Try.prog 35 #[.agg #[.int .i64 a0_0, .slice A0_1 l0_1.length c0_1, .int .i64 a0_2, .int .i64 a0_3]] W1 fun e w' => ∃ v0_ : Value, e = .returned (.tuple #[v0_, .int .i64 r2]) ∧ Aside0 (Kd.R k35 35 w' W1.heap.size (fun _ => True) v0_ r1 ∧ Below W1.heap.size W1 w')) :=
    ⟨(take_Sitting_check.calls a0_0 A0_1 c0_1 l0_1 a0_2 a0_3 r1 r2 W1 (Kd.C_below hr0_1 hB1) hc0_1 (by rw [take_Sitting_check.f, hr])).mono (fun e w' h => by obtain ⟨v, h1, h2, h3⟩ := h; exact ⟨v, h1, ⟨h2, h3⟩⟩)⟩
  have HOF : Aside0 (∀ X : World, Below w.heap.size w X → Calls Try.prog 49 #[.agg #[.slice A1_0 l1_0.length c1_0, .int .i64 a1_1, .int .i64 a1_2]] X fun e w' => e = .returned (.bool (officeOk l1_0 a1_1 a1_2)) ∧ Below X.heap.size X w') :=
    ⟨fun X hX => take_Office_valid.calls A1_0 c1_0 l1_0 a1_1 a1_2 _ X (Kd.C_below hr1_0 hX) hc1_0 rfl⟩
  have HE : Aside0 (workE a0_0 l0_1 a0_2 a0_3 l1_0 a1_1 a1_2 = if r2 ≠ 0 then r2 else if officeOk l1_0 a1_1 a1_2 = true then 0 else 1) := ⟨by rw [workE, hr]⟩
  have HT : Aside0 (r2 = 0 → r1 = takesP a0_0 l0_1 a0_2 a0_3) := ⟨fun h => by
    subst h
    unfold checkP at hr
    split at hr
    · split at hr
      · exact absurd (Prod.mk.inj hr).2 (by decide)
      · exact (Prod.mk.inj hr).1.symm
    · exact absurd (Prod.mk.inj hr).2 (by decide)⟩
  have HR0 := Aside0.mk hr0_1
  have HR1 := Aside0.mk hr1_0
  have HB1 := Aside0.mk hB1
  have G0 := Aside0.mk g0
  have G1 := Aside0.mk g1
  obtain ⟨we, hwe⟩ : ∃ x, x = workE a0_0 l0_1 a0_2 a0_3 l1_0 a1_1 a1_2 := ⟨_, rfl⟩
  rw [← hwe] at HE ⊢
  subst hW1
  clear hr hr0_1 hr1_0 hB1 g0 g1 hwe
  by_cases h2 : r2 = 0
  · subst h2
    obtain ⟨b, hb⟩ : ∃ b, b = officeOk l1_0 a1_1 a1_2 := ⟨_, rfl⟩
    rw [← hb] at HOF HE
    clear hb
    cases b with
    | false =>
      have HE2 : Aside0 (we = 1) := ⟨by rw [HE.out]; rfl⟩
      go_enter Try.func43, Try.ntmps43
      go_wp2_with (first | (go_at_call 35; refine (HCH.out).mono ?_; rintro e w' ⟨v, rfl, hX⟩; have k0 := blk_below G0.out hX.out.2; have k1 := blk_below G1.out hX.out.2; have c0 := (blk_cell k1 0).trans rfl; have c1 := (blk_cell k1 1).trans rfl; have c2 := (blk_cell k1 2).trans rfl; have HB2 : Aside0 (Below w.heap.size w w') := ⟨below_then HB1.out HB1.out.size hX.out.2⟩; clear k0 k1) | (go_at_call 49; refine (HOF.out _ HB2.out).mono ?_; rintro e w2 ⟨rfl, hb2⟩))
      go_ret2
      exact ⟨HB2.out.trans (hb2.mono HB2.out.size), .inl ⟨by rw [HE2.out]; decide, by rw [HE2.out]; rfl⟩⟩
    | true =>
      have HE2 : Aside0 (we = 0) := ⟨by rw [HE.out]; rfl⟩
      go_enter Try.func43, Try.ntmps43
      go_wp2_with (first | (go_at_call 35; refine (HCH.out).mono ?_; rintro e w' ⟨v, rfl, hX⟩; have k0 := blk_below G0.out hX.out.2; have k1 := blk_below G1.out hX.out.2; have K0 := Aside0.mk k0; have K1 := Aside0.mk k1; have c0 := (blk_cell k1 0).trans rfl; have c1 := (blk_cell k1 1).trans rfl; have c2 := (blk_cell k1 2).trans rfl; have HB2 : Aside0 (Below w.heap.size w w') := ⟨below_then HB1.out HB1.out.size hX.out.2⟩; clear k0 k1) | (go_at_call 49; refine (HOF.out _ HB2.out).mono ?_; rintro e w2 ⟨rfl, hb2⟩; clear c0 c1 c2; have k0 := blk_below K0.out hb2; have k1 := blk_below K1.out hb2; have c0 := (blk_cell k1 0).trans rfl; have c1 := (blk_cell k1 1).trans rfl; have c2 := (blk_cell k1 2).trans rfl; have d0 := (blk_cell k0 0).trans rfl; have d1 := (blk_cell k0 1).trans rfl; have d2 := (blk_cell k0 2).trans rfl; have d3 := (blk_cell k0 3).trans rfl; obtain ⟨AT, cT, rfl⟩ := Kd.R_slice hX.out.1; clear k0 k1))
      go_ret2
      have hT := HT.out (by first | rfl | trivial)
      subst hT
      have hC := Kd.C_alloc (Kd.C_below (Kd.R_reads' hX.out.1).2.2 hb2)
      have hb3 : Below w.heap.size w w2 := HB2.out.trans (hb2.mono HB2.out.size)
      exact ⟨below_alloc hb3 _, .inr ⟨HE2.out, w2.heap.size, rfl, ⟨A0_1, l0_1.length, c0_1, a0_2, a0_3, A1_0, c1_0, AT, cT, ⟨blk_new w2 _, hC _, Kd.C_below HR1.out (below_alloc hb3 _)⟩⟩⟩⟩
  · have HE2 : Aside0 (we = r2) := ⟨by rw [HE.out, if_pos h2]⟩
    have h2b : (r2 != 0) = true := by simpa using h2
    go_enter Try.func43, Try.ntmps43
    go_wp2_with (first | (go_at_call 35; refine (HCH.out).mono ?_; rintro e w' ⟨v, rfl, hX⟩; have k0 := blk_below G0.out hX.out.2; have k1 := blk_below G1.out hX.out.2; have c0 := (blk_cell k1 0).trans rfl; have c1 := (blk_cell k1 1).trans rfl; have c2 := (blk_cell k1 2).trans rfl; have HB2 : Aside0 (Below w.heap.size w w') := ⟨below_then HB1.out HB1.out.size hX.out.2⟩; clear k0 k1))
    go_ret2
    exact ⟨HB2.out, .inl ⟨by rw [HE2.out]; exact h2, by rw [HE2.out]; rfl⟩⟩
theorem check_ok {L : Int} {ps : List S35} {long short : Int} (h : (checkP L ps long short).2 = 0) : sittingOk L ps long short = true ∧ (takesP L ps long short).length ≤ 40 := by
  unfold checkP at h
  split at h
  · rename_i hs
    split at h
    · cases h
    · exact ⟨hs, by omega⟩
  · cases h
theorem wk_ok {L : Int} {ps : List S35} {long short : Int} {cr : List S99} {due dl : Int} (h : workE L ps long short cr due dl = 0) : (wkOf L ps long short cr due dl).Ok := by
  unfold workE at h
  by_cases hc : (checkP L ps long short).2 = 0
  · rw [if_neg (fun e => e hc)] at h
    split at h
    · rename_i ho
      obtain ⟨hs, ht⟩ := check_ok hc
      obtain ⟨_, hL0, hL1, _⟩ := sittingOk_parts hs
      simp only [officeOk, Bool.and_eq_true, decide_eq_true_eq, List.all_eq_true] at ho
      obtain ⟨⟨⟨h1, h2⟩, h3⟩, h4⟩ := ho
      exact ⟨hL0, hL1, ht, by show 1 ≤ cr.length; omega, by show cr.length ≤ 5; omega, h3.1, h3.2, h4.1, h4.2, fun t hm => by
        have := takesP_in hs t hm
        omega, h2⟩
    · cases h
  · rw [if_pos hc] at h
    exact absurd h hc
end Go.Proofs.Ytillieimgjdpbaa.Pr
namespace Go.Proofs.Ytillieimgjdpbaa.Pr
open Go.RowKit Go.Proofs.YtillieimgjdpbaaW.PrintWords Go.Proofs.YtillieimgjdpbaaW.PrintLast Go.Proofs.YtillieimgjdpbaaW.PrintMore
set_option linter.unusedVariables false
set_option linter.unusedSimpArgs false
def rotaR (W : Wk) (e : Int) : List Int × Int := if e ≠ 0 then ([], e) else if reachP W (-1) [] < W.T.length then ([], 9) else (rotaP W (-1) [], 0)
def failsR (W : Wk) (e : Int) : Int × Int := if e ≠ 0 then (0, e) else if reachP W (-1) [] = W.T.length then (0, 7) else (reachP W (-1) [], 0)
def take_Rota.f (a0_0 : Int) (l0_1 : List (S35)) (a0_2 : Int) (a0_3 : Int) (l1_0 : List (S99)) (a1_1 : Int) (a1_2 : Int) : Option (List Int × Int) := some (rotaR (wkOf a0_0 l0_1 a0_2 a0_3 l1_0 a1_1 a1_2) (workE a0_0 l0_1 a0_2 a0_3 l1_0 a1_1 a1_2))
def take_Fails.f (a0_0 : Int) (l0_1 : List (S35)) (a0_2 : Int) (a0_3 : Int) (l1_0 : List (S99)) (a1_1 : Int) (a1_2 : Int) : Option (Int × Int) := some (failsR (wkOf a0_0 l0_1 a0_2 a0_3 l1_0 a1_1 a1_2) (workE a0_0 l0_1 a0_2 a0_3 l1_0 a1_1 a1_2))
set_option maxRecDepth 100000 in
set_option maxHeartbeats 1000000 in
theorem take_Rota.calls (a0_0 : Int) (A0_1 : Option Addr) (c0_1 : Nat) (l0_1 : List (S35)) (a0_2 : Int) (a0_3 : Int) (A1_0 : Option Addr) (c1_0 : Nat) (l1_0 : List (S99)) (a1_1 : Int) (a1_2 : Int) (r1 : List Int) (r2 : Int) (w : World) (hr0_1 : Kd.C k35 w A0_1 l0_1.length l0_1) (hc0_1 : l0_1.length ≤ c0_1) (hr1_0 : Kd.C k99 w A1_0 l1_0.length l1_0) (hc1_0 : l1_0.length ≤ c1_0) (h : take_Rota.f a0_0 l0_1 a0_2 a0_3 l1_0 a1_1 a1_2 = some (r1, r2)) :
    Calls Try.prog 17 #[.agg #[.int .i64 a0_0, .slice A0_1 l0_1.length c0_1, .int .i64 a0_2, .int .i64 a0_3], .agg #[.slice A1_0 l1_0.length c1_0, .int .i64 a1_1, .int .i64 a1_2]] w fun e w' => ∃ v0_ : Value, e = .returned (.tuple #[v0_, .int .i64 r2]) ∧ Kd.V (Kd.int .i64) 3 w' w.heap.size (fun k_ => (w.heap.size ≤ k_)) v0_ r1 ∧ Below w.heap.size w w' := by
  have hres := Option.some.inj h
  clear h
  obtain ⟨we, hwe⟩ : ∃ x, x = workE a0_0 l0_1 a0_2 a0_3 l1_0 a1_1 a1_2 := ⟨_, rfl⟩
  obtain ⟨W1, hW1⟩ : ∃ X, X = (w.alloc (.cells #[.int .i64 a0_0, .slice A0_1 l0_1.length c0_1, .int .i64 a0_2, .int .i64 a0_3] 32)).alloc (.cells #[.slice A1_0 l1_0.length c1_0, .int .i64 a1_1, .int .i64 a1_2] 52) := ⟨_, rfl⟩
  have hB1 : Below w.heap.size w W1 := hW1 ▸ below_alloc (below_alloc (Below.refl _ _) _) _
  have hwk := work43 a0_0 A0_1 c0_1 l0_1 a0_2 a0_3 A1_0 c1_0 l1_0 a1_1 a1_2 W1 (Kd.C_below hr0_1 hB1) hc0_1 (Kd.C_below hr1_0 hB1) hc1_0
  have hok : we = 0 → (wkOf a0_0 l0_1 a0_2 a0_3 l1_0 a1_1 a1_2).Ok := fun he => wk_ok (hwe.symm.trans he)
  rw [← hwe] at hwk hres
  obtain ⟨W, hW⟩ : ∃ x, x = wkOf a0_0 l0_1 a0_2 a0_3 l1_0 a1_1 a1_2 := ⟨_, rfl⟩
  rw [← hW] at hwk hres hok
  have HB1 := Aside0.mk hB1
  subst hW1
  clear hwe hW hr0_1 hr1_0 hB1
  by_cases he : we = 0
  · have hn := hok he
    have HWK : Aside0 (Calls Try.prog 43 #[.agg #[.int .i64 a0_0, .slice A0_1 l0_1.length c0_1, .int .i64 a0_2, .int .i64 a0_3], .agg #[.slice A1_0 l1_0.length c1_0, .int .i64 a1_1, .int .i64 a1_2]] _ fun e w' => ∃ p, e = .returned (.tuple #[.pointer (some ⟨p, 0, none⟩), .int .i64 0]) ∧ Aside0 (W.Here w' p ∧ Below w.heap.size w w')) := ⟨hwk.mono (fun e w' h => by
      obtain ⟨h1, ⟨h2, _⟩ | ⟨_, p, h3, h4⟩⟩ := h
      · exact absurd he h2
      · exact ⟨p, h3, ⟨h4, below_then HB1.out HB1.out.size h1⟩⟩)⟩
    have hT := hn.t
    rw [rotaR, if_neg (by simp [he])] at hres
    have HRES := Aside0.mk hres
    have HNO := Aside0.mk hn
    clear hwk hok hres hn he
    have HLE : Aside0 (∀ (X : World) (p : Nat), W.Here X p → Calls Try.prog 44 #[.pointer (some ⟨p, 0, none⟩), .slice none 0 0, .int .i64 (-1)] X fun e w' => ∃ v : Value, e = .returned (.tuple #[v, .int .i64 (reachP W (-1) [])]) ∧ Aside0 (Kd.V (Kd.int .i64) 3 w' X.heap.size (fun k_ => (X.heap.size ≤ k_)) v (rotaP W (-1) []) ∧ Below X.heap.size X w')) := ⟨fun X p hX =>
      (least44 W HNO.out X p hX (-1) none 0 [] (Nat.zero_le _) (by simp) ⟨rfl, by decide, fun h => absurd h (by decide)⟩ (Nat.le_refl _)).mono (fun e w' h => by obtain ⟨v, h1, h2, h3⟩ := h; exact ⟨v, h1, ⟨h2, h3⟩⟩)⟩
    obtain ⟨rc, hrc⟩ : ∃ x, x = reachP W (-1) [] := ⟨_, rfl⟩
    obtain ⟨nT, hnT⟩ : ∃ x, x = W.T.length := ⟨_, rfl⟩
    rw [← hrc, ← hnT] at HRES
    rw [← hrc] at HLE
    clear hrc
    have HNT := Aside0.mk hnT
    rw [← hnT] at hT
    clear hnT
    by_cases hd : rc < (nT : Int)
    · have HR2 := Aside0.mk (by have := HRES.out; rwa [if_pos hd] at this)
      clear HRES
      have hdb : decide (rc < (nT : Int)) = true := decide_eq_true hd
      go_enter Try.func17, Try.ntmps17
      go_wp2_with (first | (go_at_call 43; refine (HWK.out).mono ?_; rintro e w' ⟨p, rfl, hX⟩) | (go_at_call 44; refine (HLE.out _ p hX.out.1).mono ?_; rintro e w2 ⟨v, rfl, hV⟩; obtain ⟨A1, n1, c1, lo, sh, AC, cC, AT, cT, hA⟩ := hX.out.1.below hV.out.2; have u7 : w2.cell? ⟨p, 7, none⟩ = some (.slice AT nT cT) := (blk_cell hA.blk 7).trans (by rw [HNT.out]; rfl); clear hA))
      go_ret2
      obtain ⟨rfl, rfl⟩ := Prod.mk.inj HR2.out
      exact ⟨_, rfl, Kd.V_nil _ _ _ _ _, hX.out.2.trans (hV.out.2.mono hX.out.2.size)⟩
    · have HR2 := Aside0.mk (by have := HRES.out; rwa [if_neg hd] at this)
      clear HRES
      have hdb : decide (rc < (nT : Int)) = false := decide_eq_false hd
      go_enter Try.func17, Try.ntmps17
      go_wp2_with (first | (go_at_call 43; refine (HWK.out).mono ?_; rintro e w' ⟨p, rfl, hX⟩) | (go_at_call 44; refine (HLE.out _ p hX.out.1).mono ?_; rintro e w2 ⟨v, rfl, hV⟩; obtain ⟨A1, n1, c1, lo, sh, AC, cC, AT, cT, hA⟩ := hX.out.1.below hV.out.2; have u7 : w2.cell? ⟨p, 7, none⟩ = some (.slice AT nT cT) := (blk_cell hA.blk 7).trans (by rw [HNT.out]; rfl); clear hA))
      go_ret2
      obtain ⟨rfl, rfl⟩ := Prod.mk.inj HR2.out
      exact ⟨_, rfl, Kd.V_mono hV.out.1 (fun k hk => Nat.le_trans hX.out.2.size hk), hX.out.2.trans (hV.out.2.mono hX.out.2.size)⟩
  · have HWK : Aside0 (Calls Try.prog 43 #[.agg #[.int .i64 a0_0, .slice A0_1 l0_1.length c0_1, .int .i64 a0_2, .int .i64 a0_3], .agg #[.slice A1_0 l1_0.length c1_0, .int .i64 a1_1, .int .i64 a1_2]] _ fun e w' => e = .returned (.tuple #[.pointer none, .int .i64 we]) ∧ Aside0 (Below w.heap.size w w')) := ⟨hwk.mono (fun e w' h => by
      obtain ⟨h1, ⟨_, h2⟩ | ⟨h3, _⟩⟩ := h
      · exact ⟨h2, ⟨below_then HB1.out HB1.out.size h1⟩⟩
      · exact absurd h3 he)⟩
    rw [rotaR, if_pos he] at hres
    have HRES := Aside0.mk hres
    have heb : (we != 0) = true := by simpa using he
    clear hwk hok hres
    go_enter Try.func17, Try.ntmps17
    go_wp2_with (first | (go_at_call 43; refine (HWK.out).mono ?_; rintro e w' ⟨rfl, hX⟩))
    go_ret2
    obtain ⟨rfl, rfl⟩ := Prod.mk.inj HRES.out
    exact ⟨_, rfl, Kd.V_nil _ _ _ _ _, hX.out⟩
set_option maxRecDepth 100000 in
set_option maxHeartbeats 1000000 in
theorem take_Fails.calls (a0_0 : Int) (A0_1 : Option Addr) (c0_1 : Nat) (l0_1 : List (S35)) (a0_2 : Int) (a0_3 : Int) (A1_0 : Option Addr) (c1_0 : Nat) (l1_0 : List (S99)) (a1_1 : Int) (a1_2 : Int) (r1 : Int) (r2 : Int) (w : World) (hr0_1 : Kd.C k35 w A0_1 l0_1.length l0_1) (hc0_1 : l0_1.length ≤ c0_1) (hr1_0 : Kd.C k99 w A1_0 l1_0.length l1_0) (hc1_0 : l1_0.length ≤ c1_0) (h : take_Fails.f a0_0 l0_1 a0_2 a0_3 l1_0 a1_1 a1_2 = some (r1, r2)) :
    Calls Try.prog 19 #[.agg #[.int .i64 a0_0, .slice A0_1 l0_1.length c0_1, .int .i64 a0_2, .int .i64 a0_3], .agg #[.slice A1_0 l1_0.length c1_0, .int .i64 a1_1, .int .i64 a1_2]] w fun e w' => e = .returned (.tuple #[.int .i64 r1, .int .i64 r2]) ∧ Below w.heap.size w w' := by
  have hres := Option.some.inj h
  clear h
  obtain ⟨we, hwe⟩ : ∃ x, x = workE a0_0 l0_1 a0_2 a0_3 l1_0 a1_1 a1_2 := ⟨_, rfl⟩
  obtain ⟨W1, hW1⟩ : ∃ X, X = (w.alloc (.cells #[.int .i64 a0_0, .slice A0_1 l0_1.length c0_1, .int .i64 a0_2, .int .i64 a0_3] 32)).alloc (.cells #[.slice A1_0 l1_0.length c1_0, .int .i64 a1_1, .int .i64 a1_2] 52) := ⟨_, rfl⟩
  have hB1 : Below w.heap.size w W1 := hW1 ▸ below_alloc (below_alloc (Below.refl _ _) _) _
  have hwk := work43 a0_0 A0_1 c0_1 l0_1 a0_2 a0_3 A1_0 c1_0 l1_0 a1_1 a1_2 W1 (Kd.C_below hr0_1 hB1) hc0_1 (Kd.C_below hr1_0 hB1) hc1_0
  have hok : we = 0 → (wkOf a0_0 l0_1 a0_2 a0_3 l1_0 a1_1 a1_2).Ok := fun he => wk_ok (hwe.symm.trans he)
  rw [← hwe] at hwk hres
  obtain ⟨W, hW⟩ : ∃ x, x = wkOf a0_0 l0_1 a0_2 a0_3 l1_0 a1_1 a1_2 := ⟨_, rfl⟩
  rw [← hW] at hwk hres hok
  have HB1 := Aside0.mk hB1
  subst hW1
  clear hwe hW hr0_1 hr1_0 hB1
  by_cases he : we = 0
  · have hn := hok he
    have HWK : Aside0 (Calls Try.prog 43 #[.agg #[.int .i64 a0_0, .slice A0_1 l0_1.length c0_1, .int .i64 a0_2, .int .i64 a0_3], .agg #[.slice A1_0 l1_0.length c1_0, .int .i64 a1_1, .int .i64 a1_2]] _ fun e w' => ∃ p, e = .returned (.tuple #[.pointer (some ⟨p, 0, none⟩), .int .i64 0]) ∧ Aside0 (W.Here w' p ∧ Below w.heap.size w w')) := ⟨hwk.mono (fun e w' h => by
      obtain ⟨h1, ⟨h2, _⟩ | ⟨_, p, h3, h4⟩⟩ := h
      · exact absurd he h2
      · exact ⟨p, h3, ⟨h4, below_then HB1.out HB1.out.size h1⟩⟩)⟩
    have hT := hn.t
    rw [failsR, if_neg (by simp [he])] at hres
    have HRES := Aside0.mk hres
    have HNO := Aside0.mk hn
    clear hwk hok hres hn he
    have HLE : Aside0 (∀ (X : World) (p : Nat), W.Here X p → Calls Try.prog 44 #[.pointer (some ⟨p, 0, none⟩), .slice none 0 0, .int .i64 (-1)] X fun e w' => ∃ v : Value, e = .returned (.tuple #[v, .int .i64 (reachP W (-1) [])]) ∧ Aside0 (Kd.V (Kd.int .i64) 3 w' X.heap.size (fun k_ => (X.heap.size ≤ k_)) v (rotaP W (-1) []) ∧ Below X.heap.size X w')) := ⟨fun X p hX =>
      (least44 W HNO.out X p hX (-1) none 0 [] (Nat.zero_le _) (by simp) ⟨rfl, by decide, fun h => absurd h (by decide)⟩ (Nat.le_refl _)).mono (fun e w' h => by obtain ⟨v, h1, h2, h3⟩ := h; exact ⟨v, h1, ⟨h2, h3⟩⟩)⟩
    obtain ⟨rc, hrc⟩ : ∃ x, x = reachP W (-1) [] := ⟨_, rfl⟩
    obtain ⟨nT, hnT⟩ : ∃ x, x = W.T.length := ⟨_, rfl⟩
    rw [← hrc, ← hnT] at HRES
    rw [← hrc] at HLE
    clear hrc
    have HNT := Aside0.mk hnT
    rw [← hnT] at hT
    clear hnT
    by_cases hd : rc = (nT : Int)
    · have HR2 := Aside0.mk (by have := HRES.out; rwa [if_pos hd] at this)
      clear HRES
      have hdb : (rc == (nT : Int)) = true := by simpa using hd
      go_enter Try.func19, Try.ntmps19
      go_wp2_with (first | (go_at_call 43; refine (HWK.out).mono ?_; rintro e w' ⟨p, rfl, hX⟩) | (go_at_call 44; refine (HLE.out _ p hX.out.1).mono ?_; rintro e w2 ⟨v, rfl, hV⟩; obtain ⟨A1, n1, c1, lo, sh, AC, cC, AT, cT, hA⟩ := hX.out.1.below hV.out.2; have u7 : w2.cell? ⟨p, 7, none⟩ = some (.slice AT nT cT) := (blk_cell hA.blk 7).trans (by rw [HNT.out]; rfl); clear hA))
      go_ret2
      obtain ⟨rfl, rfl⟩ := Prod.mk.inj HR2.out
      exact ⟨rfl, hX.out.2.trans (hV.out.2.mono hX.out.2.size)⟩
    · have HR2 := Aside0.mk (by have := HRES.out; rwa [if_neg hd] at this)
      clear HRES
      have hdb : (rc == (nT : Int)) = false := by simpa using hd
      go_enter Try.func19, Try.ntmps19
      go_wp2_with (first | (go_at_call 43; refine (HWK.out).mono ?_; rintro e w' ⟨p, rfl, hX⟩) | (go_at_call 44; refine (HLE.out _ p hX.out.1).mono ?_; rintro e w2 ⟨v, rfl, hV⟩; obtain ⟨A1, n1, c1, lo, sh, AC, cC, AT, cT, hA⟩ := hX.out.1.below hV.out.2; have u7 : w2.cell? ⟨p, 7, none⟩ = some (.slice AT nT cT) := (blk_cell hA.blk 7).trans (by rw [HNT.out]; rfl); clear hA))
      go_ret2
      obtain ⟨rfl, rfl⟩ := Prod.mk.inj HR2.out
      exact ⟨rfl, hX.out.2.trans (hV.out.2.mono hX.out.2.size)⟩
  · have HWK : Aside0 (Calls Try.prog 43 #[.agg #[.int .i64 a0_0, .slice A0_1 l0_1.length c0_1, .int .i64 a0_2, .int .i64 a0_3], .agg #[.slice A1_0 l1_0.length c1_0, .int .i64 a1_1, .int .i64 a1_2]] _ fun e w' => e = .returned (.tuple #[.pointer none, .int .i64 we]) ∧ Aside0 (Below w.heap.size w w')) := ⟨hwk.mono (fun e w' h => by
      obtain ⟨h1, ⟨_, h2⟩ | ⟨h3, _⟩⟩ := h
      · exact ⟨h2, ⟨below_then HB1.out HB1.out.size h1⟩⟩
      · exact absurd h3 he)⟩
    rw [failsR, if_pos he] at hres
    have HRES := Aside0.mk hres
    have heb : (we != 0) = true := by simpa using he
    clear hwk hok hres
    go_enter Try.func19, Try.ntmps19
    go_wp2_with (first | (go_at_call 43; refine (HWK.out).mono ?_; rintro e w' ⟨rfl, hX⟩))
    go_ret2
    obtain ⟨rfl, rfl⟩ := Prod.mk.inj HRES.out
    exact ⟨rfl, hX.out⟩
end Go.Proofs.Ytillieimgjdpbaa.Pr
