/- The least rota: its contract. -/
import Derived.Test.YtillieimgjdpbaaMHk
import Derived.Laws.EntriesVeiled
namespace Go.Proofs.Ytillieimgjdpbaa.Pr
open Go.RowKit Go.Proofs.YtillieimgjdpbaaW.PrintWords Go.Proofs.YtillieimgjdpbaaW.PrintLast Go.Proofs.YtillieimgjdpbaaW.PrintMore
set_option linter.unusedVariables false
set_option linter.unusedSimpArgs false
def okF (base : Nat) (k : Nat) : Prop := base + 7 ≤ k
abbrev VI (base : Nat) (w : World) (v : Value) (l : List Int) : Prop := Kd.V (Kd.int .i64) 3 w base (okF base) v l
theorem VI.keep {base : Nat} {w w' : World} {v : Value} {l : List Int} (h : VI base w v l) (hk : Kp base w w') : VI base w' v l :=
  Kd.V_step h (fun k ho hl => hk.block k hl (by unfold okF at ho; omega) (by unfold okF at ho; omega))
/-- What a search answers. -/
def GivePost (W : Wk) (w0 : World) (p : Nat) (nt ρ : Int) (f : Nat) (s : Sx) (l : List Int) (w : World) (e : Ending) (w' : World) : Prop :=
  ∃ v : Value, e = .returned v ∧ VI w0.heap.size w' v (l ++ (firstF W nt f s).getD []) ∧ Kp w0.heap.size w w' ∧ Env W w0 p nt (max ρ (s.k + best W nt f s)) w'
def GiveSpec (W : Wk) (w0 : World) (p : Nat) (nt : Int) (f : Nat) : Prop :=
  ∀ (s : Sx) (l : List Int) (Al : Option Addr) (cl : Nat) (ρ : Int) (w : World), Env W w0 p nt ρ w → s.Fine → s.k + f = W.T.length → ρ ≤ W.T.length → s.k = l.length → VI w0.heap.size w (.slice Al l.length cl) l →
    Calls Try.prog 54 #[.agg s.cells, .slice Al l.length cl, .pointer (some ⟨w0.heap.size + 2, 0, none⟩), .pointer (some ⟨w0.heap.size, 0, none⟩), .pointer (some ⟨w0.heap.size + 4, 0, none⟩), .pointer (some ⟨w0.heap.size + 1, 0, none⟩), .pointer (some ⟨w0.heap.size + 5, 0, none⟩), .pointer (some ⟨w0.heap.size + 6, 0, none⟩)] w (GivePost W w0 p nt ρ f s l w)
set_option maxRecDepth 100000 in
set_option maxHeartbeats 1000000 in
theorem give_zero (W : Wk) (hn : W.Ok) (w0 : World) (p : Nat) (hW : W.Here w0 p) (nt : Int) : GiveSpec W w0 p nt 0 := by
  intro s l Al cl ρ w hE hs hk hρ hkl hl
  have hE1 : Env W w0 p nt ρ (w.alloc (.cells s.cells 110)) := hE.of_below (below_alloc (Below.refl _ _) _)
  have HX : Aside0 (∀ wc : World, wc = (w.setCell ⟨w0.heap.size + 2, 0, none⟩ (.int .i64 (max ρ s.k))).alloc (.cells s.cells 110) → Env W w0 p nt (max ρ s.k) wc ∧ Kp w0.heap.size w wc ∧ wc.heap[w.heap.size]? = some (.cells s.cells 110 (0, 0)) ∧ VI w0.heap.size wc (.slice Al l.length cl) l) := ⟨fun wc hwc => by
    subst hwc
    have a1 := (Env.set hE (Int.le_max_left ρ s.k)).of_below (below_alloc (Below.refl _ _) (.cells s.cells 110))
    have a2 : Kp w0.heap.size w ((w.setCell ⟨w0.heap.size + 2, 0, none⟩ (.int .i64 (max ρ s.k))).alloc (.cells s.cells 110)) := ((Kp.refl _ w).set _).alloc _
    have a3 := blk_new (w.setCell ⟨w0.heap.size + 2, 0, none⟩ (.int .i64 (max ρ s.k))) (.cells s.cells 110)
    rw [show (w.setCell ⟨w0.heap.size + 2, 0, none⟩ (.int .i64 (max ρ s.k))).heap.size = w.heap.size from by simp [World.setCell]] at a3
    exact ⟨a1, a2, a3, hl.keep a2⟩⟩
  have r0 : w.cell? ⟨w0.heap.size + 2, 0, none⟩ = some (.int .i64 ρ) := (blk_cell hE.rb 0).trans rfl
  have r1 : w.frozen? ⟨w0.heap.size + 2, 0, none⟩ = false := blk_frozen hE.rb 0
  have r2 : w0.heap.size + 2 < w.heap.size := blk_lt hE.rb
  have r3 := World.new_ne w ⟨w0.heap.size + 2, 0, none⟩ r0
  have q0 : (w.alloc (.cells s.cells 110)).cell? ⟨w.heap.size, 0, none⟩ = some (.int .i64 s.k) := (blk_cell (blk_new w (.cells s.cells 110)) 0).trans rfl
  have HKL := Aside0.mk hkl
  have HKF := Aside0.mk hk
  have HLW : Aside0 (w0.heap.size + 7 ≤ w.heap.size) := ⟨blk_lt hE.gb⟩
  clear hE1 hl hE hkl hk
  go_enter Try.func54, Try.ntmps54
  go_upto_region 1 with fail
  go_cut [13] (fun _ wc => Aside0 (wc = (w.setCell ⟨w0.heap.size + 2, 0, none⟩ (.int .i64 (max ρ s.k))).alloc (.cells s.cells 110)))
  case first =>
    by_cases hmx : s.k ≤ ρ
    · have hm : max ρ s.k = ρ := by omega
      have hm2 : ¬ ρ < s.k := by omega
      go_wp2_with fail
      go_meet
      case rel => exact ⟨by rw [hm]⟩
    · have hm : max ρ s.k = s.k := by omega
      have hm2 : ρ < s.k := by omega
      go_wp2_with fail
      go_meet
      case rel => exact ⟨by rw [hm]⟩
  case rest =>
    obtain ⟨hE, hK, hbox, hl⟩ := HX.out wc hcut.out
    clear HX hcut r0 r1 r2 r3 q0

    obtain ⟨A1, n1, c1, lo, sh, AC, cC, AT, cT, hA⟩ := hE.here hW
    have e0 : wc.cell? ⟨w.heap.size, 0, none⟩ = some (.int .i64 s.k) := (blk_cell hbox 0).trans rfl
    have e1 : wc.cell? ⟨w0.heap.size, 0, none⟩ = some (.pointer (some ⟨p, 0, none⟩)) := (blk_cell hE.wb 0).trans rfl
    have e2 : wc.cell? ⟨p, 7, none⟩ = some (.slice AT W.T.length cT) := (blk_cell hA.blk 7).trans rfl
    have hT : W.T.length ≤ 40 := hn.t
    have hE' := Aside0.mk hE
    have hK' := Aside0.mk hK
    have hl' := Aside0.mk hl
    have hcl : l.length ≤ cl := (Kd.V_reads' hl).2.1
    have hk2 : s.k = W.T.length := by have := HKF.out; omega
    have hd : (s.k == (W.T.length : Int)) = true := by simp [hk2]
    obtain ⟨n, hnn⟩ : ∃ n, n = W.T.length := ⟨_, rfl⟩
    obtain ⟨k, hkk⟩ : ∃ k, k = s.k := ⟨_, rfl⟩
    rw [← hnn] at e2 hd hT
    rw [← hkk] at e0 hd
    clear hE hK hl hA hbox hn hk2
    have HKK := Aside0.mk hkk
    have HNN := Aside0.mk hnn
    clear hkk hnn
    go_wp2_with fail
    go_quiet (fail)
    go_wp2_with fail
    go_ret
    refine ⟨_, rfl, ?_, hK'.out.trans (.of (pw_below_drewN (Below.refl _ _) _)), ?_⟩
    · have := Kd.F_drewN (Kd.V_at hl'.out).2.2 nq
      simp only [firstF, Option.getD_some, List.append_nil]
      exact Kd.V_mk (Nat.le_refl _) this
    · simp only [best, Int.ofNat_zero, Int.add_zero, Int.natCast_zero]
      exact hE'.out.of_below (pw_below_drewN (Below.refl _ _) _)
theorem wpList_put_lost (w : World) {ops : Array Oper} {rest : List Oper} {o : Oper} {a : Act} {Q : Exit → Act → World → Prop} (hg : o.guard = none) (m x v : Operand) (hop : o.op = Op.mapUpdate 104 m x v)
    (mb : Nat) (D : Sx → Prop) (s : Sx) (hm : a.eval m = .map (some mb)) (hx : a.eval x = .agg s.cells) (hv : a.eval v = .bool true) (hl : LostAt w mb D) (hs : s.Ok) (hD : D s)
    (hK : ∀ w', LostAt w' mb D → w.grownBy w' (some mb) → wpList Try.prog ops Q rest (a.put o.dst undef) w') : wpList Try.prog ops Q (o :: rest) a w := by
  refine wpList_plain hg fun K' hK' => ?_
  obtain ⟨w', hrun, r1, r2⟩ := hl.put s hs hD
  unfold Oper.wp
  simp [execOp, hop, hm, hx, hv, hrun, Result.andThen]
  exact hK' _ _ (hK w' r1 r2)
theorem range_hit {α : Type} (h : Nat → Option α) (i : Nat) (x : α) (h0 : ∀ r, r < i → h r = none) (h1 : h i = some x) : ∀ m, i < m → (List.range m).findSome? h = some x
  | m + 1, hm => by
    rw [List.range_succ, List.findSome?_append]
    by_cases hi : i < m
    · rw [range_hit h i x h0 h1 m hi]; rfl
    · obtain rfl : i = m := by omega
      have : (List.range i).findSome? h = none := List.findSome?_eq_none_iff.2 (fun r hr => h0 r (List.mem_range.1 hr))
      rw [this]
      simp [h1]
def gOf (W : Wk) (nt : Int) (f : Nat) (s : Sx) (r : Nat) : Nat := if allow W nt s r = true then 1 + best W nt f (givenP s r) else 0
def noneTo (W : Wk) (nt : Int) (f : Nat) (s : Sx) (i : Nat) : Prop := ∀ r, r < i → allow W nt s r = true → firstF W nt f (givenP s r) = none
theorem first_none (W : Wk) (nt : Int) (f : Nat) (s : Sx) (h : noneTo W nt f s W.C.length) : firstF W nt (f + 1) s = none := by
  refine List.findSome?_eq_none_iff.2 (fun r hr => ?_)
  split
  · rename_i ha
    rw [h r (List.mem_range.1 hr) ha]
    rfl
  · rfl
theorem first_some (W : Wk) (nt : Int) (f : Nat) (s : Sx) (i : Nat) (hi : i < W.C.length) (h : noneTo W nt f s i) (ha : allow W nt s i = true) (c : List Int) (hc : firstF W nt f (givenP s i) = some c) : firstF W nt (f + 1) s = some ((i : Int) :: c) := by
  refine range_hit _ i _ (fun r hr => ?_) ?_ _ hi
  · split
    · rename_i hb
      rw [h r hr hb]
      rfl
    · rfl
  · rw [if_pos ha, hc]
    rfl
theorem rowI {w : World} {g : Nat} {x : Int} (h : w.heap[g]? = some (.cells #[.int .i64 x] 3 (0, 0))) : ReadsRow ((Kd.int .i64).K w) (Kd.int .i64).sz w (some ⟨g, 0, none⟩) 1 [x] := by
  refine ⟨rfl, by decide, fun _ => ⟨_, rfl, fun j p hj => ?_⟩⟩
  cases j with
  | succ j => simp at hj
  | zero =>
    obtain rfl : x = p := by simpa using hj
    refine ⟨[.int .i64 x], rfl, rfl, fun i u hi => ?_⟩
    cases i with
    | succ i => simp at hi
    | zero =>
      obtain rfl : Value.int .i64 x = u := by simpa using hi
      exact (blk_cell h 0).trans rfl
theorem VI.ofR {base : Nat} {w : World} {v : Value} {l : List Int} {b : Nat} (h : Kd.R (Kd.int .i64) 3 w b (fun _ => True) v l) (hb : base + 7 ≤ b) : VI base w v l :=
  Kd.V_mono (Kd.R_V (Kd.R_bound h)) (fun k hk => Nat.le_trans hb hk.2.1)
/-- What a round of the search's loop has at hand. -/
structure Rnd (W : Wk) (w0 : World) (p : Nat) (nt ρ : Int) (s : Sx) (l : List Int) (v : Value) (w wr : World) : Prop where
  kp : Kp w0.heap.size w wr
  env : Env W w0 p nt ρ wr
  box : wr.heap[w.heap.size]? = some (.cells s.cells 110 (0, 0))
  row : VI w0.heap.size wr v l
theorem Rnd.below {W : Wk} {w0 : World} {p : Nat} {nt ρ : Int} {s : Sx} {l : List Int} {v : Value} {w wr w' : World} (h : Rnd W w0 p nt ρ s l v w wr) (hb : Below wr.heap.size wr w') : Rnd W w0 p nt ρ s l v w w' :=
  ⟨h.kp.trans (.of hb), h.env.of_below hb, blk_below h.box hb, Kd.V_below h.row hb⟩
set_option maxRecDepth 100000 in
set_option maxHeartbeats 1000000 in
theorem give_succ (W : Wk) (hn : W.Ok) (w0 : World) (p : Nat) (hW : W.Here w0 p) (nt : Int) (f : Nat) (IH : GiveSpec W w0 p nt f) : GiveSpec W w0 p nt (f + 1) := by
  intro s l Al cl ρ w hE hs hk hρ hkl hl
  have hIH := Aside0.mk IH
  clear IH
  have hE1 : Env W w0 p nt ρ (w.alloc (.cells s.cells 110)) := hE.of_below (below_alloc (Below.refl _ _) _)
  have HX : Aside0 (∀ wc : World, wc = (w.setCell ⟨w0.heap.size + 2, 0, none⟩ (.int .i64 (max ρ s.k))).alloc (.cells s.cells 110) → Env W w0 p nt (max ρ s.k) wc ∧ Kp w0.heap.size w wc ∧ wc.heap[w.heap.size]? = some (.cells s.cells 110 (0, 0)) ∧ VI w0.heap.size wc (.slice Al l.length cl) l) := ⟨fun wc hwc => by
    subst hwc
    have a1 := (Env.set hE (Int.le_max_left ρ s.k)).of_below (below_alloc (Below.refl _ _) (.cells s.cells 110))
    have a2 : Kp w0.heap.size w ((w.setCell ⟨w0.heap.size + 2, 0, none⟩ (.int .i64 (max ρ s.k))).alloc (.cells s.cells 110)) := ((Kp.refl _ w).set _).alloc _
    have a3 := blk_new (w.setCell ⟨w0.heap.size + 2, 0, none⟩ (.int .i64 (max ρ s.k))) (.cells s.cells 110)
    rw [show (w.setCell ⟨w0.heap.size + 2, 0, none⟩ (.int .i64 (max ρ s.k))).heap.size = w.heap.size from by simp [World.setCell]] at a3
    exact ⟨a1, a2, a3, hl.keep a2⟩⟩
  have r0 : w.cell? ⟨w0.heap.size + 2, 0, none⟩ = some (.int .i64 ρ) := (blk_cell hE.rb 0).trans rfl
  have r1 : w.frozen? ⟨w0.heap.size + 2, 0, none⟩ = false := blk_frozen hE.rb 0
  have r2 : w0.heap.size + 2 < w.heap.size := blk_lt hE.rb
  have r3 := World.new_ne w ⟨w0.heap.size + 2, 0, none⟩ r0
  have q0 : (w.alloc (.cells s.cells 110)).cell? ⟨w.heap.size, 0, none⟩ = some (.int .i64 s.k) := (blk_cell (blk_new w (.cells s.cells 110)) 0).trans rfl
  have HKL := Aside0.mk hkl
  have HKF := Aside0.mk hk
  have HLW : Aside0 (w0.heap.size + 7 ≤ w.heap.size) := ⟨blk_lt hE.gb⟩
  clear hE1 hl hE hkl hk
  go_enter Try.func54, Try.ntmps54
  go_upto_region 1 with fail
  go_cut [13] (fun _ wc => Aside0 (wc = (w.setCell ⟨w0.heap.size + 2, 0, none⟩ (.int .i64 (max ρ s.k))).alloc (.cells s.cells 110)))
  case first =>
    by_cases hmx : s.k ≤ ρ
    · have hm : max ρ s.k = ρ := by omega
      have hm2 : ¬ ρ < s.k := by omega
      go_wp2_with fail
      go_meet
      case rel => exact ⟨by rw [hm]⟩
    · have hm : max ρ s.k = s.k := by omega
      have hm2 : ρ < s.k := by omega
      go_wp2_with fail
      go_meet
      case rel => exact ⟨by rw [hm]⟩
  case rest =>
    obtain ⟨hE, hK, hbox, hl⟩ := HX.out wc hcut.out
    clear HX hcut r0 r1 r2 r3 q0

    obtain ⟨A1, n1, c1, lo, sh, AC, cC, AT, cT, hA⟩ := hE.here hW
    have hsok : s.Ok := hs.ok (by have := HKF.out; have := hn.t; omega)
    obtain ⟨b, hbD, hbrun⟩ := hE.lost.look s hsok
    have hrun : ∀ n, (Instr.lookup 104 (.map (some (w0.heap.size + 3))) (.agg #[.int .i64 s.k, .int .i64 s.h0, .int .i64 s.h1, .int .i64 s.h2, .int .i64 s.h3, .int .i64 s.h4]) false).run Try.prog (wc.drewN n) = .ok (.bool b) (wc.drewN n) := fun n => hbrun _ rfl
    have e0 : wc.cell? ⟨w.heap.size, 0, none⟩ = some (.int .i64 s.k) := (blk_cell hbox 0).trans rfl
    have f1 : wc.cell? ⟨w.heap.size, 1, none⟩ = some (.int .i64 s.h0) := (blk_cell hbox 1).trans rfl
    have f2 : wc.cell? ⟨w.heap.size, 2, none⟩ = some (.int .i64 s.h1) := (blk_cell hbox 2).trans rfl
    have f3 : wc.cell? ⟨w.heap.size, 3, none⟩ = some (.int .i64 s.h2) := (blk_cell hbox 3).trans rfl
    have f4 : wc.cell? ⟨w.heap.size, 4, none⟩ = some (.int .i64 s.h3) := (blk_cell hbox 4).trans rfl
    have f5 : wc.cell? ⟨w.heap.size, 5, none⟩ = some (.int .i64 s.h4) := (blk_cell hbox 5).trans rfl
    have e1 : wc.cell? ⟨w0.heap.size, 0, none⟩ = some (.pointer (some ⟨p, 0, none⟩)) := (blk_cell hE.wb 0).trans rfl
    have e2 : wc.cell? ⟨p, 7, none⟩ = some (.slice AT W.T.length cT) := (blk_cell hA.blk 7).trans rfl
    have e3 : wc.cell? ⟨w0.heap.size + 4, 0, none⟩ = some (.map (some (w0.heap.size + 3))) := (blk_cell hE.lb 0).trans rfl
    have e4 : wc.cell? ⟨p, 4, none⟩ = some (.slice AC W.C.length cC) := (blk_cell hA.blk 4).trans rfl
    have hE' := Aside0.mk hE
    have hK' := Aside0.mk hK
    have hl' := Aside0.mk hl
    have hA' := Aside0.mk hA
    have hbox' := Aside0.mk hbox
    have hT : W.T.length ≤ 40 := hn.t
    have hC : W.C.length ≤ 5 := hn.c1
    have hcl : l.length ≤ cl := (Kd.V_reads' hl).2.1
    have hk2 : s.k ≠ W.T.length := by have := HKF.out; omega
    have hd : (s.k == (W.T.length : Int)) = false := beq_eq_false_iff_ne.mpr hk2
    have HD := Aside0.mk hbD
    have HNO := Aside0.mk hn
    clear hE hK hl hA hbox hn hk2 hbD hbrun
    cases b with
    | true =>
      go_wp2_with fail
      go_quiet (fail)
      go_wp2_with fail
      go_ret
      have hdead := HD.out (by first | rfl | trivial)
      have hf : W.T.length - s.k.toNat = f + 1 := by have := HKF.out; have := hs.k0; omega
      refine ⟨_, rfl, ?_, hK'.out.trans (.of (pw_below_drewN (Below.refl _ _) _)), ?_⟩
      · have := Kd.F_drewN (Kd.V_at hl'.out).2.2 nq
        have h2 := hdead.2.1
        rw [hf] at h2
        rw [h2]
        simp only [Option.getD_none, List.append_nil]
        exact Kd.V_mk (Nat.le_refl _) this
      · have h3 := hdead.2.2
        rw [hf] at h3
        rw [show max ρ (s.k + (best W nt (f + 1) s : Nat)) = max ρ s.k from by omega]
        exact hE'.out.of_below (pw_below_drewN (Below.refl _ _) _)
    | false =>
      go_wp2_with fail
      go_quiet (fail)
      have hR0 := Aside0.mk (Rnd.mk hK'.out hE'.out hbox'.out hl'.out)
      clear HD hE' hK' hl' hA' hbox' e0 e2 e3 f1 f2 f3 f4 f5 hrun
      obtain ⟨nC, hnC⟩ : ∃ n, n = W.C.length := ⟨_, rfl⟩
      rw [← hnC] at hC e4
      have HNC := Aside0.mk hnC
      clear hnC
      go_wp2_with fail
      clear e1 e4
      go_loopw [42] (fun v42 wr => ∃ i : Nat, i ≤ nC ∧ v42 = .int .i64 i ∧ Aside0 (noneTo W nt f s i) ∧ Aside0 (Rnd W w0 p nt (max (max ρ s.k) (s.k + top (gOf W nt f s) i)) s l (.slice Al l.length cl) w wr)) (fun v42 _ => nC - (intOf v42).toNat)
      case atStart =>
        refine ⟨0, Nat.zero_le _, rfl, ⟨fun r hr => absurd hr (Nat.not_lt_zero _)⟩, ⟨?_⟩⟩
        rw [show max (max ρ s.k) (s.k + (top (gOf W nt f s) 0 : Nat)) = max ρ s.k from by rw [top_zero]; omega]
        exact hR0.out.below (pw_below_drewN (Below.refl _ _) _)
      case round =>
        obtain ⟨i, hi, rfl, hno, hR⟩ := hrel
        clear hR0
        obtain ⟨ρi, hρi⟩ : ∃ x, x = max (max ρ s.k) (s.k + (top (gOf W nt f s) i : Nat)) := ⟨_, rfl⟩
        rw [← hρi] at hR
        have HRHO := Aside0.mk hρi
        clear hρi
        have hEr := hR.out.env
        obtain ⟨A1, n1, c1, lo, sh, AC, cC, AT, cT, hA⟩ := hEr.here hW
        have e0 : wr.cell? ⟨w.heap.size, 0, none⟩ = some (.int .i64 s.k) := (blk_cell hR.out.box 0).trans rfl
        have f1 : wr.cell? ⟨w.heap.size, 1, none⟩ = some (.int .i64 s.h0) := (blk_cell hR.out.box 1).trans rfl
        have f2 : wr.cell? ⟨w.heap.size, 2, none⟩ = some (.int .i64 s.h1) := (blk_cell hR.out.box 2).trans rfl
        have f3 : wr.cell? ⟨w.heap.size, 3, none⟩ = some (.int .i64 s.h2) := (blk_cell hR.out.box 3).trans rfl
        have f4 : wr.cell? ⟨w.heap.size, 4, none⟩ = some (.int .i64 s.h3) := (blk_cell hR.out.box 4).trans rfl
        have f5 : wr.cell? ⟨w.heap.size, 5, none⟩ = some (.int .i64 s.h4) := (blk_cell hR.out.box 5).trans rfl
        have e1 : wr.cell? ⟨w0.heap.size + 1, 0, none⟩ = some (.int .i64 nt) := (blk_cell hEr.nb 0).trans rfl
        have e5 : wr.cell? ⟨w0.heap.size + 5, 0, none⟩ = some (.func (.func 53) #[.pointer (some ⟨p, 0, none⟩)] #[]) := (blk_cell hEr.mb 0).trans rfl
        have e3 : wr.cell? ⟨w0.heap.size + 4, 0, none⟩ = some (.map (some (w0.heap.size + 3))) := (blk_cell hEr.lb 0).trans rfl
        clear hEr
        by_cases hlt : i < nC
        · have HM : Aside0 (Calls Try.prog 53 #[.pointer (some ⟨p, 0, none⟩), .agg #[.int .i64 s.k, .int .i64 s.h0, .int .i64 s.h1, .int .i64 s.h2, .int .i64 s.h3, .int .i64 s.h4], .int .i64 i] wr fun e w' => e = .returned (.bool (mayP W s i)) ∧ Aside0 (Rnd W w0 p nt ρi s l (.slice Al l.length cl) w w')) := ⟨by
            have hF := hs.h i (by omega) (by omega)
            have hKF := HKF.out
            exact (may53 W HNO.out wr p hA s i hs.k0 (by omega) (by omega) (by rw [← HNC.out]; omega) hF.1 hF.2).mono (fun e w' h => ⟨h.1, ⟨hR.out.below h.2⟩⟩)⟩
          clear hA
          by_cases hnt : (i : Int) = nt
          · have hb : ((i : Int) == nt) = true := by simpa using hnt
            have hna : Aside0 (allow W nt s i = false) := ⟨by simp [allow, hnt]⟩
            clear hnt HM
            go_wp2_with fail
            go_roundw
            case rel =>
              refine ⟨i + 1, by omega, by go_num, ⟨fun r hr ha => ?_⟩, ⟨?_⟩⟩
              · by_cases hri : r = i
                · rw [hri, hna.out] at ha; cases ha
                · exact hno.out r (by omega) ha
              · rw [top_succ, show gOf W nt f s i = 0 from by rw [gOf, hna.out]; rfl, Nat.max_zero, ← HRHO.out]
                exact hR.out
            case measure => simp [intOf]; omega
          · have hb : ((i : Int) == nt) = false := by simpa using hnt
            cases hmay : mayP W s i with
            | false =>
              have hna : Aside0 (allow W nt s i = false) := ⟨by simp [allow, hmay]⟩
              rw [hmay] at HM
              clear hnt hmay
              go_wp2_with (go_at_call 53; refine (HM.out).mono ?_; rintro e w' ⟨rfl, hR2⟩)
              go_roundw
              case rel =>
                refine ⟨i + 1, by omega, by go_num, ⟨fun r hr ha => ?_⟩, ⟨?_⟩⟩
                · by_cases hri : r = i
                  · rw [hri, hna.out] at ha; cases ha
                  · exact hno.out r (by omega) ha
                · rw [top_succ, show gOf W nt f s i = 0 from by rw [gOf, hna.out]; rfl, Nat.max_zero, ← HRHO.out]
                  exact hR2.out
              case measure => simp [intOf]; omega
            | true =>
              have hal : Aside0 (allow W nt s i = true) := ⟨by simp [allow, hmay, hnt]⟩
              rw [hmay] at HM
              clear hnt hmay
              clear e0 e1 e3 e5 f1 f2 f3 f4 f5
              have hR' := hR
              have e0 : wr.cell? ⟨w.heap.size, 0, none⟩ = some (.int .i64 s.k) := (blk_cell hR.out.box 0).trans rfl
              have f1 : wr.cell? ⟨w.heap.size, 1, none⟩ = some (.int .i64 s.h0) := (blk_cell hR.out.box 1).trans rfl
              have f2 : wr.cell? ⟨w.heap.size, 2, none⟩ = some (.int .i64 s.h1) := (blk_cell hR.out.box 2).trans rfl
              have f3 : wr.cell? ⟨w.heap.size, 3, none⟩ = some (.int .i64 s.h2) := (blk_cell hR.out.box 3).trans rfl
              have f4 : wr.cell? ⟨w.heap.size, 4, none⟩ = some (.int .i64 s.h3) := (blk_cell hR.out.box 4).trans rfl
              have f5 : wr.cell? ⟨w.heap.size, 5, none⟩ = some (.int .i64 s.h4) := (blk_cell hR.out.box 5).trans rfl
              have e1 : wr.cell? ⟨w0.heap.size + 1, 0, none⟩ = some (.int .i64 nt) := (blk_cell hR.out.env.nb 0).trans rfl
              have e5 : wr.cell? ⟨w0.heap.size + 5, 0, none⟩ = some (.func (.func 53) #[.pointer (some ⟨p, 0, none⟩)] #[]) := (blk_cell hR.out.env.mb 0).trans rfl
              go_wp2_with (go_at_call 53; refine (HM.out).mono ?_; rintro e w' ⟨rfl, hR2⟩)
              clear e0 f1 f2 f3 f4 f5 e1 e5 HM hR hR'
              have hgk : (givenP s i).k = s.k + 1 := givenP_k s i
              have hgf : (givenP s i).Fine := hs.given i (by omega) (by omega)
              have hr5 : (i : Int) < 5 := by omega
              have hk40 : s.k ≤ 40 := by have := HKF.out; omega
              have HG : Aside0 (∀ X : World, Calls Try.prog 55 #[.agg #[.int .i64 s.k, .int .i64 s.h0, .int .i64 s.h1, .int .i64 s.h2, .int .i64 s.h3, .int .i64 s.h4], .int .i64 i] X fun e w' => e = .returned (.agg (givenP s i).cells) ∧ Below X.heap.size X w') := ⟨fun X => given55 s i (by omega) hr5 hs.k0 hk40 X⟩
              obtain ⟨g, hg⟩ : ∃ g, g = givenP s i := ⟨_, rfl⟩
              rw [← hg] at hgk hgf HG
              have HGE := Aside0.mk hg
              clear hg
              have x0 : w'.cell? ⟨w.heap.size, 0, none⟩ = some (.int .i64 s.k) := (blk_cell hR2.out.box 0).trans rfl
              have x1 : w'.cell? ⟨w.heap.size, 1, none⟩ = some (.int .i64 s.h0) := (blk_cell hR2.out.box 1).trans rfl
              have x2 : w'.cell? ⟨w.heap.size, 2, none⟩ = some (.int .i64 s.h1) := (blk_cell hR2.out.box 2).trans rfl
              have x3 : w'.cell? ⟨w.heap.size, 3, none⟩ = some (.int .i64 s.h2) := (blk_cell hR2.out.box 3).trans rfl
              have x4 : w'.cell? ⟨w.heap.size, 4, none⟩ = some (.int .i64 s.h3) := (blk_cell hR2.out.box 4).trans rfl
              have x5 : w'.cell? ⟨w.heap.size, 5, none⟩ = some (.int .i64 s.h4) := (blk_cell hR2.out.box 5).trans rfl
              have x6 : w'.cell? ⟨w0.heap.size + 6, 0, none⟩ = some (.func (.func 54) #[] #[.pointer (some ⟨w0.heap.size + 2, 0, none⟩), .pointer (some ⟨w0.heap.size, 0, none⟩), .pointer (some ⟨w0.heap.size + 4, 0, none⟩), .pointer (some ⟨w0.heap.size + 1, 0, none⟩), .pointer (some ⟨w0.heap.size + 5, 0, none⟩), .pointer (some ⟨w0.heap.size + 6, 0, none⟩)]) := (blk_cell hR2.out.env.gb 0).trans rfl
              have HBZ : Aside0 (Below w'.heap.size w' w'.drew) := ⟨below_drew (Below.refl _ _)⟩
              have HN : Aside0 ((w'.alloc (.cells #[.int .i64 (i : Int)] 3)).drew.heap[w'.heap.size]? = some (.cells #[.int .i64 (i : Int)] 3 (0, 0))) := ⟨blk_new w' _⟩
              have HBA : Aside0 (Below w'.heap.size w' (w'.alloc (.cells #[.int .i64 (i : Int)] 3)).drew) := ⟨below_drew (below_alloc (Below.refl _ _) _)⟩
              have HCL : Aside0 (Kd.C (Kd.int .i64) w' Al l.length l) := ⟨(Kd.V_reads' hR2.out.row).2.2⟩
              have hll : l.length ≤ 40 := by have := HKL.out; omega
              have HLB : Aside0 (w0.heap.size + 7 ≤ w'.heap.size) := ⟨blk_lt hR2.out.env.gb⟩
              have hz0 := World.new_ne w' ⟨w.heap.size, 0, none⟩ x0
              have hz6 := World.new_ne w' ⟨w0.heap.size + 6, 0, none⟩ x6
              obtain ⟨l2, hl2⟩ : ∃ l2, l2 = l ++ [(i : Int)] := ⟨_, rfl⟩
              have HL2 := Aside0.mk hl2
              have HL2L : Aside0 (l2.length = l.length + 1) := ⟨by rw [hl2]; simp⟩
              clear hl2
              obtain ⟨out, hout⟩ : ∃ out, out = l2 ++ (firstF W nt f g).getD [] := ⟨_, rfl⟩
              have HOUT := Aside0.mk hout
              clear hout
              go_cut [12] from 55 to 64 (fun v12 wd => ∃ A3 c3, v12 = .slice A3 out.length c3 ∧ Aside0 (Kp w0.heap.size w' wd ∧ Env W w0 p nt (max ρi (g.k + best W nt f g)) wd ∧ VI w0.heap.size wd (.slice A3 out.length c3) out))
              case first =>
                go_region_held3 (fun X : World => X.cell? ⟨w.heap.size, 0, none⟩ = some (.int .i64 s.k) ∧ X.cell? ⟨w.heap.size, 1, none⟩ = some (.int .i64 s.h0) ∧ X.cell? ⟨w.heap.size, 2, none⟩ = some (.int .i64 s.h1) ∧ X.cell? ⟨w.heap.size, 3, none⟩ = some (.int .i64 s.h2) ∧ X.cell? ⟨w.heap.size, 4, none⟩ = some (.int .i64 s.h3) ∧ X.cell? ⟨w.heap.size, 5, none⟩ = some (.int .i64 s.h4) ∧ X.cell? ⟨w0.heap.size + 6, 0, none⟩ = some (.func (.func 54) #[] #[.pointer (some ⟨w0.heap.size + 2, 0, none⟩), .pointer (some ⟨w0.heap.size, 0, none⟩), .pointer (some ⟨w0.heap.size + 4, 0, none⟩), .pointer (some ⟨w0.heap.size + 1, 0, none⟩), .pointer (some ⟨w0.heap.size + 5, 0, none⟩), .pointer (some ⟨w0.heap.size + 6, 0, none⟩)])) (first
                  | exact ⟨pw_cell_below HBZ.out x0, pw_cell_below HBZ.out x1, pw_cell_below HBZ.out x2, pw_cell_below HBZ.out x3, pw_cell_below HBZ.out x4, pw_cell_below HBZ.out x5, pw_cell_below HBZ.out x6⟩
                  | exact ⟨pw_cell_below (below_alloc HBZ.out _) x0, pw_cell_below (below_alloc HBZ.out _) x1, pw_cell_below (below_alloc HBZ.out _) x2, pw_cell_below (below_alloc HBZ.out _) x3, pw_cell_below (below_alloc HBZ.out _) x4, pw_cell_below (below_alloc HBZ.out _) x5, pw_cell_below (below_alloc HBZ.out _) x6⟩
                  | exact ⟨pw_cell_below hb1 x0, pw_cell_below hb1 x1, pw_cell_below hb1 x2, pw_cell_below hb1 x3, pw_cell_below hb1 x4, pw_cell_below hb1 x5, pw_cell_below hb1 x6⟩
                  | exact ⟨(blk_cell hbx2 0).trans rfl, (blk_cell hbx2 1).trans rfl, (blk_cell hbx2 2).trans rfl, (blk_cell hbx2 3).trans rfl, (blk_cell hbx2 4).trans rfl, (blk_cell hbx2 5).trans rfl, (blk_cell hE2.gb 0).trans rfl⟩
                  | exact ⟨pw_cell_below HBA.out x0, pw_cell_below HBA.out x1, pw_cell_below HBA.out x2, pw_cell_below HBA.out x3, pw_cell_below HBA.out x4, pw_cell_below HBA.out x5, pw_cell_below HBA.out x6⟩
                  | go_keep) (first
                  | (go_at_call 55; refine (HG.out _).mono ?_; rintro e wa ⟨rfl, hba⟩; first
                    | (have HBN : Aside0 (Below w'.heap.size w' wa) := ⟨below_then HBZ.out HBZ.out.size hba⟩; clear HBZ; have HBZ := HBN; clear HBN; have HSA := HBZ.out.size)
                    | (have hrow := blk_below HN.out hba; have HBN : Aside0 (Below w'.heap.size w' wa) := ⟨below_then HBA.out HBA.out.size hba⟩; clear HBZ; have HBZ := HBN; clear HBN; have HSA := HBZ.out.size))
                  | (go_at_call 56; refine (clone3 Al cl l _ ?h1 hcl (by omega)).mono ?_; (case h1 => first | exact Kd.C_below HCL.out HBZ.out | exact Kd.C_below HCL.out (below_alloc HBZ.out _)); rintro e wb ⟨v, rfl, hv, hbb⟩; first
                    | (have HBN : Aside0 (Below w'.heap.size w' wb) := ⟨below_then HBZ.out HBZ.out.size hbb⟩; (try replace hrow := blk_below hrow hbb); clear HBZ; have HBZ := HBN; clear HBN)
                    | (have hrow := blk_below (blk_new _ _) hbb; have HBN : Aside0 (Below w'.heap.size w' wb) := ⟨below_then (below_alloc HBZ.out _) (below_alloc HBZ.out _).size hbb⟩; clear HBZ; have HBZ := HBN; clear HBN))
                  | (refine Kd.R_append_step (Kd.int .i64) (w0 := w') w'.heap.size ?hw (.tmp 60) (.tmp 62) 46 3 (.int .i64 0) 8 rfl Try.underlying46 info3 rfl (by decide) (by decide) _ l (i : Int) [.int .i64 i] (fun _ => True) (fun _ => False) rfl rfl ?hp ?hokp ?hfresh ?HO ?HB ?hbase ?hl ?_; (case hw => rfl); (case hp => rfl); (case hokp => intro k hk; exact hk.elim); (case hfresh => intro _ _; trivial); (case HO => exact Kd.R_lower hv (by first | exact HSA | (simp; omega))); (case HB => exact HBZ.out); (case hbase => exact HBZ.out.size); (case hl => omega); intro v1 w1 hv1 hb1 _ _; rw [← HL2.out] at hv1; obtain ⟨A2, c2, rfl⟩ := Kd.R_slice hv1)
                  | (refine Kd.R_append_rows_step (Kd.int .i64) (Rr := (Kd.int .i64).K wb) (w0 := w') w'.heap.size ?hw (.tmp 60) (.tmp 62) 46 3 (.int .i64 0) 8 rfl Try.underlying46 info3 rfl (by decide) (by decide) v l [(i : Int)] _ 1 1 (fun _ => True) (fun _ => False) rfl rfl ?HO ?HR ?hKM ?hokp ?hfresh ?HB ?hbase ?hl ?_; (case hw => rfl); (case HO => exact Kd.R_lower hv (by first | exact HSA | (simp; omega))); (case HR => exact rowI hrow); (case hKM => intro x cs hx; exact hx); (case hokp => intro k hk; exact hk.elim); (case hfresh => intro _ _; trivial); (case HB => exact HBZ.out); (case hbase => exact HBZ.out.size); (case hl => omega); intro v1 w1 hv1 hb1 _ _; rw [← HL2.out] at hv1; obtain ⟨A2, c2, rfl⟩ := Kd.R_slice hv1)
                  | (go_at_call 54; refine (hIH.out g l2 A2 c2 ρi w1 (hR2.out.env.of_below hb1) hgf ?z1 ?z2 ?z3 (VI.ofR hv1 HLB.out)).mono ?_; (case z1 => have := HKF.out; omega); (case z2 => have := HKF.out; have := HRHO.out; have := top_le (gOf W nt f s) (f + 1) (fun r => by unfold gOf; have := best_le W nt f (givenP s r); split <;> omega) i; omega); (case z3 => have := HKL.out; have := HL2L.out; omega); rintro e w2 ⟨v2, rfl, hv2, hk2, hE2⟩; rw [← HOUT.out] at hv2; obtain ⟨A3, c3, rfl⟩ := Kd.V_slice hv2; have hbx2 := hk2.blk (blk_below hR2.out.box hb1) (by have := HLW.out; omega) (by have := HLW.out; omega)))
                all_goals
                  go_wp2_with fail
                  go_meet
                  case rel => exact ⟨A3, c3, rfl, ⟨(Kp.of hb1).trans hk2, hE2, hv2⟩⟩
              case rest =>
                obtain ⟨A3, c3, rfl, hX⟩ := hcut
                clear x0 x1 x2 x3 x4 x5 x6 hz0 hz6 HN HBA HBZ HCL HG
                obtain ⟨A1, n1, c1, lo, sh, AC, cC, AT, cT, hAd⟩ := hX.out.2.1.here hW
                have e1 : wc.cell? ⟨w0.heap.size, 0, none⟩ = some (.pointer (some ⟨p, 0, none⟩)) := (blk_cell hX.out.2.1.wb 0).trans rfl
                have e2 : wc.cell? ⟨p, 7, none⟩ = some (.slice AT W.T.length cT) := (blk_cell hAd.blk 7).trans rfl
                clear hAd
                have hkf := HKF.out
                have hkl := HKL.out
                have hl2 := HL2L.out
                have hi3 := top_le (gOf W nt f s) (f + 1) (fun r => by unfold gOf; have := best_le W nt f (givenP s r); split <;> omega) i
                have hgi : gOf W nt f s i = 1 + best W nt f g := by rw [gOf, hal.out, HGE.out]; rfl
                have hbl := best_le W nt f g
                have hs0 := hs.k0
                cases hff : firstF W nt f g with
                | none =>
                  have hol : out.length = l.length + 1 := by rw [HOUT.out, hff]; simp [hl2]
                  have hf0 : f ≠ 0 := fun h0 => by subst h0; cases hff
                  have hb : ((out.length : Int) == (W.T.length : Int)) = false := beq_eq_false_iff_ne.mpr (by omega)
                  have HFF : Aside0 (firstF W nt f (givenP s i) = none) := ⟨by rw [← HGE.out]; exact hff⟩
                  have HRE : Aside0 (max ρi (g.k + (best W nt f g : Nat)) = max (max ρ s.k) (s.k + (top (gOf W nt f s) (i + 1) : Nat))) := ⟨by
                    rw [top_succ, hgi, HRHO.out, hgk]
                    omega⟩
                  clear hkf hkl hl2 hi3 hgi hbl hs0 hff hol hf0 hgk hgf hr5 hk40 hll
                  go_wp2_with fail
                  go_roundw
                  case rel =>
                    refine ⟨i + 1, by omega, by go_num, ⟨fun r hr ha => ?_⟩, ⟨hR2.out.kp.trans hX.out.1, ?_, hX.out.1.blk hR2.out.box (by have := HLW.out; omega) (by have := HLW.out; omega), VI.keep hR2.out.row hX.out.1⟩⟩
                    · by_cases hri : r = i
                      · rw [hri]; exact HFF.out
                      · exact hno.out r (by omega) ha
                    · rw [← HRE.out]; exact hX.out.2.1
                  case measure => simp [intOf]; omega
                | some c =>
                  obtain ⟨hbf, hcf⟩ := first_full W nt f g c hff
                  have hol : out.length = W.T.length := by rw [HOUT.out, hff]; simp [hl2, hcf]; omega
                  have hb : ((out.length : Int) == (W.T.length : Int)) = true := by simp [hol]
                  have hfirst : firstF W nt (f + 1) s = some ((i : Int) :: c) := first_some W nt f s i (by rw [← HNC.out]; omega) hno.out hal.out c (by rw [← HGE.out]; exact hff)
                  have hbest := (first_full W nt (f + 1) s _ hfirst).1
                  have HO2 : Aside0 (l ++ (firstF W nt (f + 1) s).getD [] = out) := ⟨by rw [HOUT.out, hff, hfirst, HL2.out]; simp⟩
                  have HRE : Aside0 (max ρi (g.k + (best W nt f g : Nat)) = max ρ (s.k + (best W nt (f + 1) s : Nat))) := ⟨by
                    rw [hbf, hbest, HRHO.out, hgk]
                    omega⟩
                  clear hkf hkl hl2 hi3 hgi hbl hs0 hff hol hgk hgf hr5 hk40 hll hbf hcf hfirst hbest
                  go_wp2_with fail
                  go_ret
                  refine ⟨_, rfl, ?_, hR2.out.kp.trans hX.out.1, ?_⟩
                  · rw [HO2.out]; exact hX.out.2.2
                  · rw [← HRE.out]; exact hX.out.2.1
        · have him : i = W.C.length := by rw [← HNC.out]; omega
          have hfirst := first_none W nt f s (him ▸ hno.out)
          have hbest : s.k + (best W nt (f + 1) s : Nat) ≤ ρi := by
            rw [HRHO.out, him]
            exact Int.le_max_right _ _
          have hρe : Aside0 (ρi = max ρ (s.k + (best W nt (f + 1) s : Nat))) := ⟨by
            rw [HRHO.out, him]
            show max (max ρ s.k) (s.k + (best W nt (f + 1) s : Nat)) = _
            omega⟩
          have hf : W.T.length - s.k.toNat = f + 1 := by have := HKF.out; have := hs.k0; omega
          have hdead : Aside0 (DeadP W nt ρi s) := ⟨by have := HKF.out; omega, by rw [hf]; exact hfirst, by rw [hf]; exact hbest⟩
          have hfn := Aside0.mk hfirst
          clear hA hfirst hbest him
          go_wp2_with (first | (refine wpList_put_lost _ rfl _ _ _ rfl (w0.heap.size + 3) _ s rfl rfl rfl hR.out.env.lost hsok hdead.out ?_; intro w' hlost hgr))
          go_ret
          have hKw : Kp w0.heap.size wr w' := (Kp.refl _ _).grown hgr
          refine ⟨_, rfl, ?_, hR.out.kp.trans hKw, ?_⟩
          · rw [hfn.out]
            simp only [Option.getD_none, List.append_nil]
            exact hR.out.row.keep hKw
          · rw [← hρe.out]
            exact hR.out.env.move hKw ((hgr.block _ (blk_lt hR.out.env.rb) (by simp)).trans hR.out.env.rb) hlost
end Go.Proofs.Ytillieimgjdpbaa.Pr
namespace Go.Proofs.Ytillieimgjdpbaa.Pr
open Go.RowKit Go.Proofs.YtillieimgjdpbaaW.PrintWords Go.Proofs.YtillieimgjdpbaaW.PrintLast Go.Proofs.YtillieimgjdpbaaW.PrintMore
set_option linter.unusedVariables false
set_option linter.unusedSimpArgs false
theorem give_all (W : Wk) (hn : W.Ok) (w0 : World) (p : Nat) (hW : W.Here w0 p) (nt : Int) : ∀ f, GiveSpec W w0 p nt f
  | 0 => give_zero W hn w0 p hW nt
  | f + 1 => give_succ W hn w0 p hW nt f (give_all W hn w0 p hW nt f)
theorem env_made (W : Wk) (w : World) (p : Nat) (nt : Int) :
    Env W w p nt 0 (((((((w.alloc (.cells #[.pointer (some ⟨p, 0, none⟩)] 90)).alloc (.cells #[.int .i64 nt] 3)).alloc (.cells #[.int .i64 0] 3)).alloc (.map #[] 0)).alloc (.cells #[.map (some (w.heap.size + 3))] 104)).alloc (.cells #[.func (.func 53) #[.pointer (some ⟨p, 0, none⟩)] #[]] 105)).alloc (.cells #[.func (.func 54) #[] #[.pointer (some ⟨w.heap.size + 2, 0, none⟩), .pointer (some ⟨w.heap.size, 0, none⟩), .pointer (some ⟨w.heap.size + 4, 0, none⟩), .pointer (some ⟨w.heap.size + 1, 0, none⟩), .pointer (some ⟨w.heap.size + 5, 0, none⟩), .pointer (some ⟨w.heap.size + 6, 0, none⟩)]] 106)) := by
  have g0 := blk_new w (.cells #[.pointer (some ⟨p, 0, none⟩)] 90)
  have b0 := below_alloc (Below.refl w.heap.size w) (.cells #[.pointer (some ⟨p, 0, none⟩)] 90)
  have s0 : (w.alloc (.cells #[.pointer (some ⟨p, 0, none⟩)] 90)).heap.size = w.heap.size + 1 := by simp
  generalize w.alloc (.cells #[.pointer (some ⟨p, 0, none⟩)] 90) = w1 at *
  have g1 := blk_new w1 (.cells #[.int .i64 nt] 3)
  have s1 : (w1.alloc (.cells #[.int .i64 nt] 3)).heap.size = w.heap.size + 2 := by simp [s0]
  replace g0 := blk_alloc g0 (.cells #[.int .i64 nt] 3)
  replace b0 := below_alloc b0 (.cells #[.int .i64 nt] 3)
  rw [s0] at g1
  generalize w1.alloc (.cells #[.int .i64 nt] 3) = w2 at *
  have g2 := blk_new w2 (.cells #[.int .i64 0] 3)
  have s2 : (w2.alloc (.cells #[.int .i64 0] 3)).heap.size = w.heap.size + 3 := by simp [s1]
  replace g0 := blk_alloc g0 (.cells #[.int .i64 0] 3)
  replace g1 := blk_alloc g1 (.cells #[.int .i64 0] 3)
  replace b0 := below_alloc b0 (.cells #[.int .i64 0] 3)
  rw [s1] at g2
  generalize w2.alloc (.cells #[.int .i64 0] 3) = w3 at *
  have g3 := LostAt.made w3 (DeadP W nt 0)
  have s3 : (w3.alloc (.map #[] 0)).heap.size = w.heap.size + 4 := by simp [s2]
  replace g0 := blk_alloc g0 (.map #[] 0)
  replace g1 := blk_alloc g1 (.map #[] 0)
  replace g2 := blk_alloc g2 (.map #[] 0)
  replace b0 := below_alloc b0 (.map #[] 0)
  rw [s2] at g3
  generalize w3.alloc (.map #[] 0) = w4 at *
  have g4 := blk_new w4 (.cells #[.map (some (w.heap.size + 3))] 104)
  have s4 : (w4.alloc (.cells #[.map (some (w.heap.size + 3))] 104)).heap.size = w.heap.size + 5 := by simp [s3]
  replace g0 := blk_alloc g0 (.cells #[.map (some (w.heap.size + 3))] 104)
  replace g1 := blk_alloc g1 (.cells #[.map (some (w.heap.size + 3))] 104)
  replace g2 := blk_alloc g2 (.cells #[.map (some (w.heap.size + 3))] 104)
  replace g3 := g3.move (Below.heap_alloc w4 (.cells #[.map (some (w.heap.size + 3))] 104) _ g3.lt)
  replace b0 := below_alloc b0 (.cells #[.map (some (w.heap.size + 3))] 104)
  rw [s3] at g4
  generalize w4.alloc (.cells #[.map (some (w.heap.size + 3))] 104) = w5 at *
  have g5 := blk_new w5 (.cells #[.func (.func 53) #[.pointer (some ⟨p, 0, none⟩)] #[]] 105)
  have s5 : (w5.alloc (.cells #[.func (.func 53) #[.pointer (some ⟨p, 0, none⟩)] #[]] 105)).heap.size = w.heap.size + 6 := by simp [s4]
  replace g0 := blk_alloc g0 (.cells #[.func (.func 53) #[.pointer (some ⟨p, 0, none⟩)] #[]] 105)
  replace g1 := blk_alloc g1 (.cells #[.func (.func 53) #[.pointer (some ⟨p, 0, none⟩)] #[]] 105)
  replace g2 := blk_alloc g2 (.cells #[.func (.func 53) #[.pointer (some ⟨p, 0, none⟩)] #[]] 105)
  replace g4 := blk_alloc g4 (.cells #[.func (.func 53) #[.pointer (some ⟨p, 0, none⟩)] #[]] 105)
  replace g3 := g3.move (Below.heap_alloc w5 (.cells #[.func (.func 53) #[.pointer (some ⟨p, 0, none⟩)] #[]] 105) _ g3.lt)
  replace b0 := below_alloc b0 (.cells #[.func (.func 53) #[.pointer (some ⟨p, 0, none⟩)] #[]] 105)
  rw [s4] at g5
  generalize w5.alloc (.cells #[.func (.func 53) #[.pointer (some ⟨p, 0, none⟩)] #[]] 105) = w6 at *
  have g6 := blk_new w6 (.cells #[.func (.func 54) #[] #[.pointer (some ⟨w.heap.size + 2, 0, none⟩), .pointer (some ⟨w.heap.size, 0, none⟩), .pointer (some ⟨w.heap.size + 4, 0, none⟩), .pointer (some ⟨w.heap.size + 1, 0, none⟩), .pointer (some ⟨w.heap.size + 5, 0, none⟩), .pointer (some ⟨w.heap.size + 6, 0, none⟩)]] 106)
  rw [s5] at g6
  exact ⟨below_alloc b0 _, blk_alloc g0 _, blk_alloc g1 _, blk_alloc g2 _, g3.move (Below.heap_alloc w6 _ _ g3.lt), blk_alloc g4 _, blk_alloc g5 _, g6⟩
/-- The least rota that begins so, and how far one comes. -/
def rotaP (W : Wk) (nt : Int) (l : List Int) : List Int := l ++ (firstF W nt (W.T.length - l.length) (beginP l)).getD []
def reachP (W : Wk) (nt : Int) (l : List Int) : Int := l.length + best W nt (W.T.length - l.length) (beginP l)
theorem results_tmp_cell {fn : Func} {t q : Tmp} {ty : TypeId} (h : fn.results = #[.tmp t, .cell q ty]) (tmps : Array Value) (P : Program) (w : World) :
    (results fn tmps).run P w = ((asAddr (tmps.getD q undef)).run P w).andThen fun a w₁ => ((loadVar ty a).run P w₁).andThen fun v w₂ => .ok (.tuple #[tmps.getD t undef, v]) w₂ := by
  simp only [results, h]
  simp [Sem.run_bind, Result.andThen]
set_option maxRecDepth 100000 in
set_option maxHeartbeats 1000000 in
theorem least44 (W : Wk) (hn : W.Ok) (w : World) (p : Nat) (hW : W.Here w p) (nt : Int) (A : Option Addr) (c : Nat) (l : List Int) (hl : l.length ≤ W.T.length) (hr : ∀ r ∈ l, 0 ≤ r ∧ r < 5) (h : Kd.C (Kd.int .i64) w A l.length l) (hc : l.length ≤ c) :
    Calls Try.prog 44 #[.pointer (some ⟨p, 0, none⟩), .slice A l.length c, .int .i64 nt] w fun e w' => ∃ v : Value, e = .returned (.tuple #[v, .int .i64 (reachP W nt l)]) ∧ Kd.V (Kd.int .i64) 3 w' w.heap.size (fun k_ => (w.heap.size ≤ k_)) v (rotaP W nt l) ∧ Below w.heap.size w w' := by
  have hmm := @run_makeMap Try.prog
  have HE := Aside0.mk (env_made W w p nt)
  have hT := hn.t
  go_enter Try.func44, Try.ntmps44
  go_wp2_with fail
  refine (?f : ∀ X : World, Env W w p nt 0 X → Code.wp Try.prog _ _ _ X) _ HE.out
  intro X hX
  have x6 : X.cell? ⟨w.heap.size + 1 + 1 + 1 + 1 + 1 + 1, 0, none⟩ = some (.func (.func 54) #[] #[.pointer (some ⟨w.heap.size + 1 + 1, 0, none⟩), .pointer (some ⟨w.heap.size, 0, none⟩), .pointer (some ⟨w.heap.size + 1 + 1 + 1 + 1, 0, none⟩), .pointer (some ⟨w.heap.size + 1, 0, none⟩), .pointer (some ⟨w.heap.size + 1 + 1 + 1 + 1 + 1, 0, none⟩), .pointer (some ⟨w.heap.size + 1 + 1 + 1 + 1 + 1 + 1, 0, none⟩)]) := (blk_cell hX.gb 0).trans rfl
  have HBZ : Aside0 (Below X.heap.size X X.drew) := ⟨below_drew (Below.refl _ _)⟩
  have HCX : Aside0 (Kd.C (Kd.int .i64) X A l.length l) := ⟨Kd.C_below h hX.below⟩
  have HX := Aside0.mk hX
  have HLB : Aside0 (w.heap.size + 7 ≤ X.heap.size) := ⟨blk_lt hX.gb⟩
  obtain ⟨rho, hrho⟩ : ∃ x, x = max 0 ((beginP l).k + (best W nt (W.T.length - l.length) (beginP l) : Nat)) := ⟨_, rfl⟩
  have HRHO := Aside0.mk hrho
  clear hX hmm HE h hrho
  go_region_held3 (fun Y : World => Y.cell? ⟨w.heap.size + 1 + 1 + 1 + 1 + 1 + 1, 0, none⟩ = some (.func (.func 54) #[] #[.pointer (some ⟨w.heap.size + 1 + 1, 0, none⟩), .pointer (some ⟨w.heap.size, 0, none⟩), .pointer (some ⟨w.heap.size + 1 + 1 + 1 + 1, 0, none⟩), .pointer (some ⟨w.heap.size + 1, 0, none⟩), .pointer (some ⟨w.heap.size + 1 + 1 + 1 + 1 + 1, 0, none⟩), .pointer (some ⟨w.heap.size + 1 + 1 + 1 + 1 + 1 + 1, 0, none⟩)])) (first
    | exact pw_cell_below HBZ.out x6
    | exact (blk_cell hE2.gb 0).trans rfl
    | go_keep) (first
    | (go_at_call 57; refine (begin57 A c l (by omega) hr _ (Kd.C_below HCX.out HBZ.out)).mono ?_; rintro e wa ⟨rfl, hba⟩; have HBN : Aside0 (Below X.heap.size X wa) := ⟨below_then HBZ.out HBZ.out.size hba⟩; clear HBZ; have HBZ := HBN; clear HBN)
    | (go_at_call 56; refine (clone3 A c l _ (Kd.C_below HCX.out HBZ.out) hc (by omega)).mono ?_; rintro e wb ⟨v, rfl, hv, hbb⟩; have HSA := HBZ.out.size; have HBN : Aside0 (Below X.heap.size X wb) := ⟨below_then HBZ.out HBZ.out.size hbb⟩; clear HBZ; have HBZ := HBN; clear HBN; obtain ⟨A2, c2, rfl⟩ := Kd.R_slice hv)
    | (go_at_call 54; refine (give_all W hn w p hW nt (W.T.length - l.length) (beginP l) l A2 c2 0 wb (HX.out.of_below HBZ.out) (begin_fine l hr) ?z1 (by omega) (beginP_k l) (VI.ofR hv (Nat.le_trans HLB.out HSA))).mono ?_; (case z1 => rw [beginP_k]; omega); rintro e w2 ⟨v2, rfl, hv2, hk2, hE2⟩; rw [← HRHO.out] at hE2; have y2 : w2.cell? ⟨w.heap.size + 1 + 1, 0, none⟩ = some (.int .i64 rho) := (blk_cell hE2.rb 0).trans rfl; have z2 : w2.frozen? ⟨w.heap.size + 1 + 1, 0, none⟩ = false := blk_frozen hE2.rb 0))
  go_wp2_with fail
  go_region
  go_wp2_with fail
  have hEz : Env W w p nt rho (w2.setCell ⟨w.heap.size + 1 + 1, 0, none⟩ (.int .i64 rho)) := Env.set hE2 (Int.le_refl rho)
  have y3 : ((w2.setCell ⟨w.heap.size + 1 + 1, 0, none⟩ (.int .i64 rho)).drew).cell? ⟨w.heap.size + 1 + 1, 0, none⟩ = some (.int .i64 rho) := (blk_cell hEz.rb 0).trans rfl
  have hrp : rho = reachP W nt l := by rw [HRHO.out, reachP, beginP_k]; omega
  have hkz : Kp w.heap.size w2 ((w2.setCell ⟨w.heap.size + 1 + 1, 0, none⟩ (.int .i64 rho)).drew) := ((Kp.refl _ w2).set (.int .i64 rho)).trans (.of (below_drew (Below.refl _ _)))
  refine bodyPost_ret (v := .tuple #[v2, .int .i64 rho]) ((results_tmp_cell rfl _ _ _).trans ?_) rfl ?_
  · generalize (w2.setCell ⟨w.heap.size + 1 + 1, 0, none⟩ (.int .i64 rho)).drew = w3 at y3 hkz ⊢
    simp [go_sem, y3, Result.andThen]
  · exact ⟨v2, by rw [hrp], Kd.V_mono (VI.keep hv2 hkz) (fun k hk => by unfold okF at hk; omega), below_drew hEz.below⟩
end Go.Proofs.Ytillieimgjdpbaa.Pr
