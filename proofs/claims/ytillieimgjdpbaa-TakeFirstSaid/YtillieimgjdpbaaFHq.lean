/- What comes in: a sitting of the reference, opened. -/
import Derived.Test.YtillieimgjdpbaaFId
import Derived.Test.YtillieimgjdpbaaFPr0
import Derived.Deep.SlicePairs
import Derived.WalkKit
import Derived.ProofKit
import Derived.OpenShut
import Derived.SizedLaws
namespace Go.Proofs.Ytillieimgjdpbaa.Pr
open Go.RowKit Go.Proofs.YtillieimgjdpbaaW.PrintWords Go.Proofs.YtillieimgjdpbaaW.PrintLast Go.Proofs.YtillieimgjdpbaaW.PrintMore
set_option linter.unusedVariables false
set_option linter.unusedSimpArgs false
/-- The sittings that end with the take that fails, and with the one ahead of it. -/
theorem first_after {L : Int} {P : List S35} {lo sh : Int} {O : List S99} {due dl : Int} {T : List S35} {n : Int} (he : workE L P lo sh O due dl = 0) (hT : takesP L P lo sh = T) (h0 : 0 ≤ n) (h1 : n < T.length) (hn : n = reachP (wkOf L P lo sh O due dl) (-1) []) :
    (∀ l, proveR (wkOf (rd_T35 T n).f1 (cutP (rd_T35 T n).f1 P) lo sh O due dl) (workE (rd_T35 T n).f1 (cutP (rd_T35 T n).f1 P) lo sh O due dl) l = false) ∧
    rotaR (wkOf (rd_T35 T n).f1 (cutP (rd_T35 T n).f1 P) lo sh O due dl) (workE (rd_T35 T n).f1 (cutP (rd_T35 T n).f1 P) lo sh O due dl) = ([], 9) ∧
    (0 < n → (rotaR (wkOf (rd_T35 T (n - 1)).f1 (cutP (rd_T35 T (n - 1)).f1 P) lo sh O due dl) (workE (rd_T35 T (n - 1)).f1 (cutP (rd_T35 T (n - 1)).f1 P) lo sh O due dl)).2 = 0) := by
  have hc1 := (wk_ok he).c1
  have hcut : ∀ i : Nat, i < T.length → workE (rd_T35 T i).f1 (cutP (rd_T35 T i).f1 P) lo sh O due dl = 0 ∧ wkOf (rd_T35 T i).f1 (cutP (rd_T35 T i).f1 P) lo sh O due dl = (wkOf L P lo sh O due dl).upto (i + 1) (rd_T35 T i).f1 := fun i hi => by
    have hch : (checkP L P lo sh).2 = 0 := by
      unfold workE at he
      by_cases h : (checkP L P lo sh).2 = 0
      · exact h
      · rw [if_pos h] at he; exact absurd he h
    have hof : officeOk O due dl = true := by
      unfold workE at he
      rw [if_neg (by simp [hch])] at he
      split at he
      · assumption
      · cases he
    obtain ⟨hs, _, h40⟩ := check_is hch
    have hg : (takesP L P lo sh)[i]? = some (rd_T35 T i) := by
      rw [hT, rd35' T i hi, List.getElem?_eq_getElem hi]
    obtain ⟨g1, g2⟩ := sitting_cut hs i _ hg
    refine ⟨?_, ?_⟩
    · have hck : checkP (rd_T35 T i).f1 (cutP (rd_T35 T i).f1 P) lo sh = ((takesP L P lo sh).take (i + 1), 0) := by rw [checkP, if_pos g1, g2, if_neg (by rw [List.length_take]; omega)]
      rw [workE, hck, if_neg (by simp), if_pos hof]
    · show Wk.mk _ _ _ _ _ = Wk.mk _ _ _ _ _
      rw [g2]; rfl
  obtain ⟨m, rfl⟩ : ∃ m : Nat, n = m := ⟨n.toNat, by omega⟩
  have hTW : (wkOf L P lo sh O due dl).T = T := hT
  obtain ⟨f1, f2, f3, _⟩ := fails_upto (wkOf L P lo sh O due dl) hc1 m hn.symm (by rw [hTW]; omega) (rd_T35 T m).f1
  obtain ⟨g1, g2⟩ := hcut m (by omega)
  rw [g1, g2]
  refine ⟨f1, by rw [rotaR, if_neg (by simp), if_pos f2], fun hp => ?_⟩
  obtain ⟨i, rfl⟩ : ∃ i, m = i + 1 := ⟨m - 1, by omega⟩
  rw [show (((i + 1 : Nat) : Int) - 1) = (i : Int) by omega]
  obtain ⟨g3, g4⟩ := hcut i (by omega)
  obtain ⟨_, _, f6, _⟩ := fails_upto (wkOf L P lo sh O due dl) hc1 (i + 1) hn.symm (by rw [hTW]; omega) (rd_T35 T i).f1
  rw [g3, g4, rotaR, if_neg (by simp), if_neg f6]
set_option maxRecDepth 100000 in
set_option maxHeartbeats 4000000 in
theorem first_idle (w : World) (L lo sh due dl : Int) (A B D : Option Addr) (c d m : Nat) (l : List S41) (cr : List S62) (rota : List Int) (h1 : Kd.C k41 w A l.length l) (h1c : l.length ≤ c) (h2 : Kd.C k62 w B cr.length cr) (h2c : cr.length ≤ d) (h3 : Kd.C (Kd.int .i64) w D rota.length rota) (h3c : rota.length ≤ m) (hr : readyP L l lo sh cr due dl = false) :
    Calls Try.prog 5 #[.agg #[.int .i64 L, .slice A l.length c, .int .i64 lo, .int .i64 sh], .agg #[.slice B cr.length d, .int .i64 due, .int .i64 dl], .slice D rota.length m] w fun e w' => e = .returned (.bool true) ∧ Below w.heap.size w w' := by
  have HR1 := Aside0.mk h1
  have HR2 := Aside0.mk h2
  have H16 : Aside0 (∀ X, Below w.heap.size w X → Calls Try.prog 16 #[.agg #[.int .i64 L, .slice A l.length c, .int .i64 lo, .int .i64 sh], .agg #[.slice B cr.length d, .int .i64 due, .int .i64 dl]] X fun e w' => e = .returned (.bool false) ∧ Below X.heap.size X w') := ⟨fun X hX => by have := c16 (Kd.C_below HR1.out hX) h1c (Kd.C_below HR2.out hX) h2c L lo sh due dl; rwa [hr] at this⟩
  have HF := Aside0.mk (Fa.start w #[.int .i64 L, .slice A l.length c, .int .i64 lo, .int .i64 sh] #[.slice B cr.length d, .int .i64 due, .int .i64 dl])
  obtain ⟨u0, u1, u2, u3, u4, u5, u6⟩ := HF.out.cells
  have hl := h3.2.1
  clear h1 h2 h3 hr
  go_enter Try.func5, Try.ntmps5
  go_wp2_with (first | (go_at_call 16; refine (H16.out _ HF.out.b).mono ?_; rintro e w1 ⟨rfl, hb⟩; have HF1 := Aside0.mk (HF.out.below hb); clear hb) | (go_at_call 11; refine (c11 _).mono ?_; rintro e w2 ⟨rfl, hb⟩))
  go_ret
  exact ⟨rfl, (HF1.out.below hb).b⟩
set_option maxRecDepth 100000 in
set_option maxHeartbeats 4000000 in
theorem first_long (w : World) (L lo sh due dl : Int) (A B D : Option Addr) (c d m : Nat) (l : List S41) (cr : List S62) (rota : List Int) (h1 : Kd.C k41 w A l.length l) (h1c : l.length ≤ c) (h2 : Kd.C k62 w B cr.length cr) (h2c : cr.length ≤ d) (h3 : Kd.C (Kd.int .i64) w D rota.length rota) (h3c : rota.length ≤ m) (hr : readyP L l lo sh cr due dl = true) (hlong : 45 < rota.length) :
    Calls Try.prog 5 #[.agg #[.int .i64 L, .slice A l.length c, .int .i64 lo, .int .i64 sh], .agg #[.slice B cr.length d, .int .i64 due, .int .i64 dl], .slice D rota.length m] w fun e w' => e = .returned (.bool true) ∧ Below w.heap.size w w' := by
  have HR1 := Aside0.mk h1
  have HR2 := Aside0.mk h2
  have H16 : Aside0 (∀ X, Below w.heap.size w X → Calls Try.prog 16 #[.agg #[.int .i64 L, .slice A l.length c, .int .i64 lo, .int .i64 sh], .agg #[.slice B cr.length d, .int .i64 due, .int .i64 dl]] X fun e w' => e = .returned (.bool true) ∧ Below X.heap.size X w') := ⟨fun X hX => by have := c16 (Kd.C_below HR1.out hX) h1c (Kd.C_below HR2.out hX) h2c L lo sh due dl; rwa [hr] at this⟩
  have HF := Aside0.mk (Fa.start w #[.int .i64 L, .slice A l.length c, .int .i64 lo, .int .i64 sh] #[.slice B cr.length d, .int .i64 due, .int .i64 dl])
  obtain ⟨u0, u1, u2, u3, u4, u5, u6⟩ := HF.out.cells
  have hl := h3.2.1
  clear h1 h2 h3 hr
  go_enter Try.func5, Try.ntmps5
  go_wp2_with (first | (go_at_call 16; refine (H16.out _ HF.out.b).mono ?_; rintro e w1 ⟨rfl, hb⟩; have HF1 := Aside0.mk (HF.out.below hb); clear hb) | (go_at_call 11; refine (c11 _).mono ?_; rintro e w2 ⟨rfl, hb⟩))
  go_ret
  exact ⟨rfl, (HF1.out.below hb).b⟩
set_option maxRecDepth 100000 in
set_option maxHeartbeats 4000000 in
theorem first_ok (w : World) (L lo sh due dl : Int) (A B D : Option Addr) (c d m : Nat) (l : List S41) (cr : List S62) (rota : List Int) (h1 : Kd.C k41 w A l.length l) (h1c : l.length ≤ c) (h2 : Kd.C k62 w B cr.length cr) (h2c : cr.length ≤ d) (h3 : Kd.C (Kd.int .i64) w D rota.length rota) (h3c : rota.length ≤ m) (hr : readyP L l lo sh cr due dl = true) (hlong : rota.length ≤ 45) (hre : ¬ reachP (wkOf L (l.map to35) lo sh (cr.map to99) due dl) (-1) [] < (wkOf L (l.map to35) lo sh (cr.map to99) due dl).T.length) :
    Calls Try.prog 5 #[.agg #[.int .i64 L, .slice A l.length c, .int .i64 lo, .int .i64 sh], .agg #[.slice B cr.length d, .int .i64 due, .int .i64 dl], .slice D rota.length m] w fun e w' => e = .returned (.bool true) ∧ Below w.heap.size w w' := by
  obtain ⟨hl60, hc8, he⟩ := ready_parts hr
  have HR1 := Aside0.mk h1
  have HR2 := Aside0.mk h2
  have HR3 := Aside0.mk h3
  have H16 : Aside0 (∀ X, Below w.heap.size w X → Calls Try.prog 16 #[.agg #[.int .i64 L, .slice A l.length c, .int .i64 lo, .int .i64 sh], .agg #[.slice B cr.length d, .int .i64 due, .int .i64 dl]] X fun e w' => e = .returned (.bool true) ∧ Below X.heap.size X w') := ⟨fun X hX => by have := c16 (Kd.C_below HR1.out hX) h1c (Kd.C_below HR2.out hX) h2c L lo sh due dl; rwa [hr] at this⟩
  have HF := Aside0.mk (Fa.start w #[.int .i64 L, .slice A l.length c, .int .i64 lo, .int .i64 sh] #[.slice B cr.length d, .int .i64 due, .int .i64 dl])
  obtain ⟨u0, u1, u2, u3, u4, u5, u6⟩ := HF.out.cells
  have hl := h3.2.1
  obtain ⟨P, hP⟩ : ∃ P, P = l.map to35 := ⟨_, rfl⟩
  obtain ⟨O, hO⟩ : ∃ O, O = cr.map to99 := ⟨_, rfl⟩
  rw [← hP, ← hO] at he hre
  have hn := wk_ok he
  have H13 : Aside0 (∀ X, Below w.heap.size w X → Calls Try.prog 13 #[.agg #[.int .i64 L, .slice A l.length c, .int .i64 lo, .int .i64 sh]] X fun e w' => ∃ A1 c1, e = .returned (.agg #[.int .i64 L, .slice A1 P.length c1, .int .i64 lo, .int .i64 sh]) ∧ Aside0 (Kd.C k35 w' A1 P.length P) ∧ Aside0 (P.length ≤ c1) ∧ Below X.heap.size X w') := ⟨fun X hX => c13 (Kd.C_below HR1.out hX) h1c (by omega) L lo sh hP⟩
  have H18 : Aside0 (∀ X, Below w.heap.size w X → Calls Try.prog 18 #[.agg #[.slice B cr.length d, .int .i64 due, .int .i64 dl]] X fun e w' => ∃ A1 c1, e = .returned (.agg #[.slice A1 O.length c1, .int .i64 due, .int .i64 dl]) ∧ Aside0 (Kd.C k99 w' A1 O.length O) ∧ Aside0 (O.length ≤ c1) ∧ Below X.heap.size X w') := ⟨fun X hX => c18 (Kd.C_below HR2.out hX) h2c (by omega) due dl hO⟩
  have e1 : rotaR (wkOf L P lo sh O due dl) (workE L P lo sh O due dl) = (rotaP (wkOf L P lo sh O due dl) (-1) [], 0) := by rw [rotaR, if_neg (by simp [he]), if_neg hre]
  have e2 : failsR (wkOf L P lo sh O due dl) (workE L P lo sh O due dl) = (0, 7) := by
    have hb := best_le (wkOf L P lo sh O due dl) (-1) (wkOf L P lo sh O due dl).T.length initP
    have : reachP (wkOf L P lo sh O due dl) (-1) [] = (wkOf L P lo sh O due dl).T.length := by rw [reach_eq] at hre ⊢; omega
    rw [failsR, if_neg (by simp [he]), if_pos this]
  have H17 := Aside0.mk (fun (X : World) (A1 : Option Addr) (k1 : Nat) (B1 : Option Addr) (k2 : Nat) (g1 : Kd.C k35 X A1 P.length P) (g2 : P.length ≤ k1) (g3 : Kd.C k99 X B1 O.length O) (g4 : O.length ≤ k2) => c17 g1 g2 g3 g4 L lo sh due dl e1)
  have H19 := Aside0.mk (fun (X : World) (A1 : Option Addr) (k1 : Nat) (B1 : Option Addr) (k2 : Nat) (g1 : Kd.C k35 X A1 P.length P) (g2 : P.length ≤ k1) (g3 : Kd.C k99 X B1 O.length O) (g4 : O.length ≤ k2) => c19 g1 g2 g3 g4 L lo sh due dl e2)
  obtain ⟨rr, hrr⟩ : ∃ x, x = rotaP (wkOf L P lo sh O due dl) (-1) [] := ⟨_, rfl⟩
  rw [← hrr] at H17
  clear h1 h2 h3 hr hP hO he hn hre e1 e2 hrr
  go_enter Try.func5, Try.ntmps5
  go_wp2_with (first | (go_at_call 16; refine (H16.out _ HF.out.b).mono ?_; rintro e w1 ⟨rfl, hb⟩; have HF1 := Aside0.mk (HF.out.below hb); clear hb))
  clear u0 u1 u2 u3 u4 u5 u6
  obtain ⟨u0, u1, u2, u3, u4, u5, u6⟩ := HF1.out.cells
  have HF2 := Aside0.mk HF1.out.drew
  go_region_held3 (fun Y : World => Y.cell? ⟨w.heap.size, 0, none⟩ = some (.int .i64 L) ∧ Y.cell? ⟨w.heap.size, 1, none⟩ = some (.slice A l.length c) ∧ Y.cell? ⟨w.heap.size, 2, none⟩ = some (.int .i64 lo) ∧ Y.cell? ⟨w.heap.size, 3, none⟩ = some (.int .i64 sh) ∧ Y.cell? ⟨w.heap.size + 1, 0, none⟩ = some (.slice B cr.length d) ∧ Y.cell? ⟨w.heap.size + 1, 1, none⟩ = some (.int .i64 due) ∧ Y.cell? ⟨w.heap.size + 1, 2, none⟩ = some (.int .i64 dl)) (first | exact HF5.out.cells | exact HF4.out.cells | exact HF3.out.cells | exact HF2.out.cells | go_keep) (first
    | (go_at_call 13; refine (H13.out _ HF2.out.b).mono ?_; rintro e x1 ⟨A1, k1, rfl, HA1, HK1, hb⟩; have HF3 := Aside0.mk (HF2.out.below hb); clear hb)
    | (go_at_call 18; refine (H18.out _ HF3.out.b).mono ?_; rintro e x2 ⟨A2, k2, rfl, HA2, HK2, hb⟩; have HF4 := Aside0.mk (HF3.out.below hb); have HB1 := Aside0.mk (Kd.C_below HA1.out hb); clear hb)
    | (go_at_call 17; refine (H17.out _ _ _ _ _ HB1.out HK1.out HA2.out HK2.out).mono ?_; rintro e x3 ⟨A3, k3, rfl, HA3, HK3, hb⟩; have HF5 := Aside0.mk (HF4.out.below hb); clear hb))
  go_wp2
  have HF6 := Aside0.mk HF5.out.drew
  clear HA1 HK1 HB1 HA2 HK2 HA3 HK3 HF HF1 HF2 HF3 HF4
  clear u0 u1 u2 u3 u4 u5 u6
  obtain ⟨u0, u1, u2, u3, u4, u5, u6⟩ := HF5.out.cells
  go_region_held3 (fun Y : World => Y.cell? ⟨w.heap.size, 0, none⟩ = some (.int .i64 L) ∧ Y.cell? ⟨w.heap.size, 1, none⟩ = some (.slice A l.length c) ∧ Y.cell? ⟨w.heap.size, 2, none⟩ = some (.int .i64 lo) ∧ Y.cell? ⟨w.heap.size, 3, none⟩ = some (.int .i64 sh) ∧ Y.cell? ⟨w.heap.size + 1, 0, none⟩ = some (.slice B cr.length d) ∧ Y.cell? ⟨w.heap.size + 1, 1, none⟩ = some (.int .i64 due) ∧ Y.cell? ⟨w.heap.size + 1, 2, none⟩ = some (.int .i64 dl)) (first | exact HF9.out.cells | exact HF8.out.cells | exact HF7.out.cells | exact HF6.out.cells | go_keep) (first
    | (go_at_call 13; refine (H13.out _ HF6.out.b).mono ?_; rintro e x4 ⟨A4, k4, rfl, HA4, HK4, hb⟩; have HF7 := Aside0.mk (HF6.out.below hb); clear hb)
    | (go_at_call 18; refine (H18.out _ HF7.out.b).mono ?_; rintro e x5 ⟨A5, k5, rfl, HA5, HK5, hb⟩; have HF8 := Aside0.mk (HF7.out.below hb); have HB4 := Aside0.mk (Kd.C_below HA4.out hb); clear hb)
    | (go_at_call 19; refine (H19.out _ _ _ _ _ HB4.out HK4.out HA5.out HK5.out).mono ?_; rintro e x6 ⟨rfl, hb⟩; have HF9 := Aside0.mk (HF8.out.below hb); clear hb))
  go_wp2_with (first | (go_at_call 11; refine (c11 _).mono ?_; rintro e w2 ⟨rfl, hb⟩))
  go_ret
  exact ⟨rfl, (HF9.out.below hb).b⟩
set_option maxRecDepth 100000 in
set_option maxHeartbeats 4000000 in
theorem first_fail (w : World) (L lo sh due dl : Int) (A B D : Option Addr) (c d m : Nat) (l : List S41) (cr : List S62) (rota : List Int) (h1 : Kd.C k41 w A l.length l) (h1c : l.length ≤ c) (h2 : Kd.C k62 w B cr.length cr) (h2c : cr.length ≤ d) (h3 : Kd.C (Kd.int .i64) w D rota.length rota) (h3c : rota.length ≤ m) (hr : readyP L l lo sh cr due dl = true) (hlong : rota.length ≤ 45) (hre : reachP (wkOf L (l.map to35) lo sh (cr.map to99) due dl) (-1) [] < (wkOf L (l.map to35) lo sh (cr.map to99) due dl).T.length) :
    Calls Try.prog 5 #[.agg #[.int .i64 L, .slice A l.length c, .int .i64 lo, .int .i64 sh], .agg #[.slice B cr.length d, .int .i64 due, .int .i64 dl], .slice D rota.length m] w fun e w' => e = .returned (.bool true) ∧ Below w.heap.size w w' := by
  obtain ⟨hl60, hc8, he⟩ := ready_parts hr
  have HR1 := Aside0.mk h1
  have HR2 := Aside0.mk h2
  have HR3 := Aside0.mk h3
  have H16 : Aside0 (∀ X, Below w.heap.size w X → Calls Try.prog 16 #[.agg #[.int .i64 L, .slice A l.length c, .int .i64 lo, .int .i64 sh], .agg #[.slice B cr.length d, .int .i64 due, .int .i64 dl]] X fun e w' => e = .returned (.bool true) ∧ Below X.heap.size X w') := ⟨fun X hX => by have := c16 (Kd.C_below HR1.out hX) h1c (Kd.C_below HR2.out hX) h2c L lo sh due dl; rwa [hr] at this⟩
  have HF := Aside0.mk (Fa.start w #[.int .i64 L, .slice A l.length c, .int .i64 lo, .int .i64 sh] #[.slice B cr.length d, .int .i64 due, .int .i64 dl])
  obtain ⟨u0, u1, u2, u3, u4, u5, u6⟩ := HF.out.cells
  have hl := h3.2.1
  obtain ⟨P, hP⟩ : ∃ P, P = l.map to35 := ⟨_, rfl⟩
  obtain ⟨O, hO⟩ : ∃ O, O = cr.map to99 := ⟨_, rfl⟩
  rw [← hP, ← hO] at he hre
  have hn := wk_ok he
  have H13 : Aside0 (∀ X, Below w.heap.size w X → Calls Try.prog 13 #[.agg #[.int .i64 L, .slice A l.length c, .int .i64 lo, .int .i64 sh]] X fun e w' => ∃ A1 c1, e = .returned (.agg #[.int .i64 L, .slice A1 P.length c1, .int .i64 lo, .int .i64 sh]) ∧ Aside0 (Kd.C k35 w' A1 P.length P) ∧ Aside0 (P.length ≤ c1) ∧ Below X.heap.size X w') := ⟨fun X hX => c13 (Kd.C_below HR1.out hX) h1c (by omega) L lo sh hP⟩
  have H18 : Aside0 (∀ X, Below w.heap.size w X → Calls Try.prog 18 #[.agg #[.slice B cr.length d, .int .i64 due, .int .i64 dl]] X fun e w' => ∃ A1 c1, e = .returned (.agg #[.slice A1 O.length c1, .int .i64 due, .int .i64 dl]) ∧ Aside0 (Kd.C k99 w' A1 O.length O) ∧ Aside0 (O.length ≤ c1) ∧ Below X.heap.size X w') := ⟨fun X hX => c18 (Kd.C_below HR2.out hX) h2c (by omega) due dl hO⟩
  obtain ⟨n, hnr⟩ : ∃ n, n = reachP (wkOf L P lo sh O due dl) (-1) [] := ⟨_, rfl⟩
  have hn0 : 0 ≤ n := by rw [hnr, reach_eq]; omega
  have hch := check_of_work he
  have e1 : rotaR (wkOf L P lo sh O due dl) (workE L P lo sh O due dl) = ([], 9) := by rw [rotaR, if_neg (by simp [he]), if_pos hre]
  have e2 : failsR (wkOf L P lo sh O due dl) (workE L P lo sh O due dl) = (n, 0) := by
    rw [failsR, if_neg (by simp [he]), if_neg (by omega), hnr]
  have e3 : proveR (wkOf L P lo sh O due dl) (workE L P lo sh O due dl) rota = false := by
    rw [he]
    exact (fails_upto (wkOf L P lo sh O due dl) hn.c1 n.toNat (by omega) (by omega) 0).2.2.2 rota
  obtain ⟨T, hT⟩ : ∃ T, T = takesP L P lo sh := ⟨_, rfl⟩
  have hTW : (wkOf L P lo sh O due dl).T = T := hT.symm
  rw [hTW] at hre
  rw [← hT] at hch
  have hT40 : T.length ≤ 40 := hTW ▸ hn.t
  obtain ⟨q, hq⟩ : ∃ q, q = (rd_T35 T n).f1 := ⟨_, rfl⟩
  obtain ⟨q0, hq0⟩ : ∃ q, q = (rd_T35 T (n - 1)).f1 := ⟨_, rfl⟩
  obtain ⟨a1, a2, a3⟩ := first_after he hT.symm (by omega : 0 ≤ n) (by omega) hnr
  obtain ⟨l1, hl1⟩ : ∃ l', l' = cut41 q l := ⟨_, rfl⟩
  obtain ⟨l0, hl0⟩ : ∃ l', l' = cut41 q0 l := ⟨_, rfl⟩
  obtain ⟨P1, hP1⟩ : ∃ P1, P1 = l1.map to35 := ⟨_, rfl⟩
  obtain ⟨P0, hP0⟩ : ∃ P0, P0 = l0.map to35 := ⟨_, rfl⟩
  have hcP1 : P1 = cutP q P := by rw [hP1, hl1, cut41_35, hP]
  have hcP0 : P0 = cutP q0 P := by rw [hP0, hl0, cut41_35, hP]
  have hlen1 : l1.length ≤ 60 := by rw [hl1]; exact Nat.le_trans (List.length_filter_le _ _) hl60
  have hlen0 : l0.length ≤ 60 := by rw [hl0]; exact Nat.le_trans (List.length_filter_le _ _) hl60
  rw [← hq, ← hcP1] at a1 a2
  rw [← hq0, ← hcP0] at a3
  have a1' := a1 rota
  obtain ⟨r0, v0, hr0⟩ : ∃ r0 v0, rotaR (wkOf q0 P0 lo sh O due dl) (workE q0 P0 lo sh O due dl) = (r0, v0) := ⟨_, _, rfl⟩
  rw [hr0] at a3
  have H17 := Aside0.mk (fun (X : World) (A1 : Option Addr) (k1 : Nat) (B1 : Option Addr) (k2 : Nat) (g1 : Kd.C k35 X A1 P.length P) (g2 : P.length ≤ k1) (g3 : Kd.C k99 X B1 O.length O) (g4 : O.length ≤ k2) => c17 g1 g2 g3 g4 L lo sh due dl e1)
  have H17a := Aside0.mk (fun (X : World) (A1 : Option Addr) (k1 : Nat) (B1 : Option Addr) (k2 : Nat) (g1 : Kd.C k35 X A1 P1.length P1) (g2 : P1.length ≤ k1) (g3 : Kd.C k99 X B1 O.length O) (g4 : O.length ≤ k2) => c17 g1 g2 g3 g4 q lo sh due dl a2)
  have H17b := Aside0.mk (fun (X : World) (A1 : Option Addr) (k1 : Nat) (B1 : Option Addr) (k2 : Nat) (g1 : Kd.C k35 X A1 P0.length P0) (g2 : P0.length ≤ k1) (g3 : Kd.C k99 X B1 O.length O) (g4 : O.length ≤ k2) => c17 g1 g2 g3 g4 q0 lo sh due dl hr0)
  have H19 := Aside0.mk (fun (X : World) (A1 : Option Addr) (k1 : Nat) (B1 : Option Addr) (k2 : Nat) (g1 : Kd.C k35 X A1 P.length P) (g2 : P.length ≤ k1) (g3 : Kd.C k99 X B1 O.length O) (g4 : O.length ≤ k2) => c19 g1 g2 g3 g4 L lo sh due dl e2)
  have H20 := Aside0.mk (fun (X : World) (A1 : Option Addr) (k1 : Nat) (B1 : Option Addr) (k2 : Nat) (g1 : Kd.C k35 X A1 P.length P) (g2 : P.length ≤ k1) (g3 : Kd.C k99 X B1 O.length O) (g4 : O.length ≤ k2) (D1 : Option Addr) (k3 : Nat) (g5 : Kd.C (Kd.int .i64) X D1 rota.length rota) (g6 : rota.length ≤ k3) => c20 g1 g2 g3 g4 g5 g6 L lo sh due dl e3)
  have H20a := Aside0.mk (fun (X : World) (A1 : Option Addr) (k1 : Nat) (B1 : Option Addr) (k2 : Nat) (g1 : Kd.C k35 X A1 P1.length P1) (g2 : P1.length ≤ k1) (g3 : Kd.C k99 X B1 O.length O) (g4 : O.length ≤ k2) (D1 : Option Addr) (k3 : Nat) (g5 : Kd.C (Kd.int .i64) X D1 rota.length rota) (g6 : rota.length ≤ k3) => c20 g1 g2 g3 g4 g5 g6 q lo sh due dl a1')
  have H12 := Aside0.mk (fun (X : World) (A1 : Option Addr) (k1 : Nat) (g1 : Kd.C k35 X A1 P.length P) (g2 : P.length ≤ k1) => c12 g1 g2 L lo sh hch)
  have H21 : Aside0 (∀ X, Below w.heap.size w X → Calls Try.prog 21 #[.slice D rota.length m] X fun e w' => ∃ A1 c1, e = .returned (.slice A1 rota.length c1) ∧ Aside0 (Kd.C (Kd.int .i64) w' A1 rota.length rota) ∧ Aside0 (rota.length ≤ c1) ∧ Below X.heap.size X w') := ⟨fun X hX => c21 (Kd.C_below HR3.out hX) h3c (by omega)⟩
  have H22 := Aside0.mk (fun (X : World) (hX : Below w.heap.size w X) => c22 (Kd.C_below HR1.out hX) h1c (by omega) L lo sh q hl1)
  have H22b := Aside0.mk (fun (X : World) (hX : Below w.heap.size w X) => c22 (Kd.C_below HR1.out hX) h1c (by omega) L lo sh q0 hl0)
  have H13a := Aside0.mk (fun (X : World) (A1 : Option Addr) (k1 : Nat) (g1 : Kd.C k41 X A1 l1.length l1) (g2 : l1.length ≤ k1) => c13 g1 g2 (by omega) q lo sh hP1)
  have H13b := Aside0.mk (fun (X : World) (A1 : Option Addr) (k1 : Nat) (g1 : Kd.C k41 X A1 l0.length l0) (g2 : l0.length ≤ k1) => c13 g1 g2 (by omega) q0 lo sh hP0)
  have hn1 : n < (T.length : Int) := by omega
  have d0 : decide (n < 0) = false := decide_eq_false (by omega)
  have d1 : decide ((T.length : Int) ≤ n) = false := decide_eq_false (by omega)
  have HQ := Aside0.mk hq
  have HQ0 := Aside0.mk hq0
  have HAT3 := Aside0.mk a3
  clear h1 h2 h3 hr hP hO he hn e1 e2 e3 hch hT hTW hnr hq hq0 hl1 hl0 hP1 hP0 hcP1 hcP0 a1 a1' a2 a3 hr0
  go_enter Try.func5, Try.ntmps5
  go_wp2_with (first | (go_at_call 16; refine (H16.out _ HF.out.b).mono ?_; rintro e w1 ⟨rfl, hb⟩; have HF1 := Aside0.mk (HF.out.below hb); clear hb))
  clear u0 u1 u2 u3 u4 u5 u6
  obtain ⟨u0, u1, u2, u3, u4, u5, u6⟩ := HF1.out.cells
  have HF2 := Aside0.mk HF1.out.drew
  go_region_held3 (fun Y : World => Y.cell? ⟨w.heap.size, 0, none⟩ = some (.int .i64 L) ∧ Y.cell? ⟨w.heap.size, 1, none⟩ = some (.slice A l.length c) ∧ Y.cell? ⟨w.heap.size, 2, none⟩ = some (.int .i64 lo) ∧ Y.cell? ⟨w.heap.size, 3, none⟩ = some (.int .i64 sh) ∧ Y.cell? ⟨w.heap.size + 1, 0, none⟩ = some (.slice B cr.length d) ∧ Y.cell? ⟨w.heap.size + 1, 1, none⟩ = some (.int .i64 due) ∧ Y.cell? ⟨w.heap.size + 1, 2, none⟩ = some (.int .i64 dl)) (first | exact HF5.out.cells | exact HF4.out.cells | exact HF3.out.cells | exact HF2.out.cells | go_keep) (first
    | (go_at_call 13; refine (H13.out _ HF2.out.b).mono ?_; rintro e x1 ⟨A1, k1, rfl, HA1, HK1, hb⟩; have HF3 := Aside0.mk (HF2.out.below hb); clear hb)
    | (go_at_call 18; refine (H18.out _ HF3.out.b).mono ?_; rintro e x2 ⟨A2, k2, rfl, HA2, HK2, hb⟩; have HF4 := Aside0.mk (HF3.out.below hb); have HB1 := Aside0.mk (Kd.C_below HA1.out hb); clear hb)
    | (go_at_call 17; refine (H17.out _ _ _ _ _ HB1.out HK1.out HA2.out HK2.out).mono ?_; rintro e x3 ⟨A3, k3, rfl, HA3, HK3, hb⟩; have HF5 := Aside0.mk (HF4.out.below hb); clear hb))
  go_wp2
  have HF6 := Aside0.mk HF5.out.drew
  clear HA1 HK1 HB1 HA2 HK2 HA3 HK3 HF HF1 HF2 HF3 HF4 H16
  clear u0 u1 u2 u3 u4 u5 u6
  obtain ⟨u0, u1, u2, u3, u4, u5, u6⟩ := HF5.out.cells
  go_region_held3 (fun Y : World => Y.cell? ⟨w.heap.size, 0, none⟩ = some (.int .i64 L) ∧ Y.cell? ⟨w.heap.size, 1, none⟩ = some (.slice A l.length c) ∧ Y.cell? ⟨w.heap.size, 2, none⟩ = some (.int .i64 lo) ∧ Y.cell? ⟨w.heap.size, 3, none⟩ = some (.int .i64 sh) ∧ Y.cell? ⟨w.heap.size + 1, 0, none⟩ = some (.slice B cr.length d) ∧ Y.cell? ⟨w.heap.size + 1, 1, none⟩ = some (.int .i64 due) ∧ Y.cell? ⟨w.heap.size + 1, 2, none⟩ = some (.int .i64 dl)) (first | exact HF9.out.cells | exact HF8.out.cells | exact HF7.out.cells | exact HF6.out.cells | go_keep) (first
    | (go_at_call 13; refine (H13.out _ HF6.out.b).mono ?_; rintro e x4 ⟨A4, k4, rfl, HA4, HK4, hb⟩; have HF7 := Aside0.mk (HF6.out.below hb); clear hb)
    | (go_at_call 18; refine (H18.out _ HF7.out.b).mono ?_; rintro e x5 ⟨A5, k5, rfl, HA5, HK5, hb⟩; have HF8 := Aside0.mk (HF7.out.below hb); have HB4 := Aside0.mk (Kd.C_below HA4.out hb); clear hb)
    | (go_at_call 19; refine (H19.out _ _ _ _ _ HB4.out HK4.out HA5.out HK5.out).mono ?_; rintro e x6 ⟨rfl, hb⟩; have HF9 := Aside0.mk (HF8.out.below hb); clear hb))
  clear HA4 HK4 HB4 HA5 HK5 HF5 HF6 HF7 HF8 H17 H19
  clear u0 u1 u2 u3 u4 u5 u6
  obtain ⟨u0, u1, u2, u3, u4, u5, u6⟩ := HF9.out.cells
  go_wp2_with (first | (go_at_call 13; refine (H13.out _ HF9.out.b).mono ?_; rintro e x7 ⟨A7, k7, rfl, HA7, HK7, hb⟩; have HF10 := Aside0.mk (HF9.out.below hb); clear hb) | (go_at_call 12; refine (H12.out _ _ _ HA7.out HK7.out).mono ?_; rintro e x8 ⟨A8, k8, rfl, HA8, HK8, hb⟩; have HF11 := Aside0.mk ((HF10.out.below hb).add (fun X => Kd.C k35 X A8 T.length T) HA8.out); clear hb))
  have HF12 := Aside0.mk HF11.out.drew
  clear u0 u1 u2 u3 u4 u5 u6
  obtain ⟨u0, u1, u2, u3, u4, u5, u6⟩ := HF11.out.cells
  go_region_held3 (fun Y : World => Y.cell? ⟨w.heap.size, 0, none⟩ = some (.int .i64 L) ∧ Y.cell? ⟨w.heap.size, 1, none⟩ = some (.slice A l.length c) ∧ Y.cell? ⟨w.heap.size, 2, none⟩ = some (.int .i64 lo) ∧ Y.cell? ⟨w.heap.size, 3, none⟩ = some (.int .i64 sh) ∧ Y.cell? ⟨w.heap.size + 1, 0, none⟩ = some (.slice B cr.length d) ∧ Y.cell? ⟨w.heap.size + 1, 1, none⟩ = some (.int .i64 due) ∧ Y.cell? ⟨w.heap.size + 1, 2, none⟩ = some (.int .i64 dl)) (first | exact HF16.out.cells | exact HF15.out.cells | exact HF14.out.cells | exact HF13.out.cells | exact HF12.out.cells | go_keep) (first
    | (go_at_call 13; refine (H13.out _ HF12.out.b).mono ?_; rintro e x10 ⟨A10, k10, rfl, HA10, HK10, hb⟩; have HF13 := Aside0.mk (HF12.out.below hb); clear hb)
    | (go_at_call 18; refine (H18.out _ HF13.out.b).mono ?_; rintro e x11 ⟨A11, k11, rfl, HA11, HK11, hb⟩; have HF14 := Aside0.mk (HF13.out.below hb); have HB10 := Aside0.mk (Kd.C_below HA10.out hb); clear hb)
    | (go_at_call 21; refine (H21.out _ HF14.out.b).mono ?_; rintro e x12 ⟨A12, k12, rfl, HA12, HK12, hb⟩; have HF15 := Aside0.mk (HF14.out.below hb); have HC10 := Aside0.mk (Kd.C_below HB10.out hb); have HC11 := Aside0.mk (Kd.C_below HA11.out hb); clear hb)
    | (go_at_call 20; refine (H20.out _ _ _ _ _ HC10.out HK10.out HC11.out HK11.out _ _ HA12.out HK12.out).mono ?_; rintro e x13 ⟨rfl, hb⟩; have HF16 := Aside0.mk (HF15.out.below hb); clear hb))
  clear HA7 HK7 HA8 HK8 HA10 HK10 HB10 HA11 HK11 HA12 HK12 HC10 HC11 HF9 HF10 HF11 HF12 HF13 HF14 HF15 H20 H12
  go_upto_region 10 with fail
  obtain ⟨ad, eA, t0, t1⟩ := at_T35 HF16.out.k n (by omega) (by omega)
  cases eA
  rw [← HQ.out] at t1
  clear t0 u0 u1 u2 u3 u4 u5 u6
  go_cut [13] (fun v13 wc => ∃ (gb : Nat) (A1 : Option Addr) (k1 : Nat), v13 = .pointer (some ⟨gb, 0, none⟩) ∧ Aside0 (l1.length ≤ k1) ∧ Aside0 (Fa w #[.int .i64 L, .slice A l.length c, .int .i64 lo, .int .i64 sh] #[.slice B cr.length d, .int .i64 due, .int .i64 dl] (fun X => Kd.C k35 X (some ad) T.length T ∧ (X.heap[gb]? = some (.cells #[.int .i64 q, .slice A1 l1.length k1, .int .i64 lo, .int .i64 sh] 24 (0, 0)) ∧ Kd.C k41 X A1 l1.length l1)) wc))
  case first =>
    obtain ⟨u0, u1, u2, u3, u4, u5, u6⟩ := HF16.out.cells
    have HF17 := Aside0.mk HF16.out.drew
    have HT17 := Aside0.mk (pw_cell_below (below_drew (Below.refl _ _)) t1)
    have HFz := Aside0.mk ((HF16.out.alloc (.cells #[.int .i64 0, .slice none 0 0, .int .i64 0, .int .i64 0] 24)).drew)
    have HTz := Aside0.mk (pw_cell_below (below_drew (below_alloc (Below.refl _ _) (.cells #[.int .i64 0, .slice none 0 0, .int .i64 0, .int .i64 0] 24))) t1)
    have HZ := Aside0.mk (blk_drew (blk_new x13 (.cells #[.int .i64 0, .slice none 0 0, .int .i64 0, .int .i64 0] 24)))
    have HT16 := Aside0.mk t1
    clear t1
    go_region_held3 (fun Y : World => Y.cell? ⟨(ad.add (n.toNat * 2)).block, (ad.add (n.toNat * 2)).off + 1, none⟩ = some (.int .i64 q) ∧ Y.cell? ⟨w.heap.size, 0, none⟩ = some (.int .i64 L) ∧ Y.cell? ⟨w.heap.size, 1, none⟩ = some (.slice A l.length c) ∧ Y.cell? ⟨w.heap.size, 2, none⟩ = some (.int .i64 lo) ∧ Y.cell? ⟨w.heap.size, 3, none⟩ = some (.int .i64 sh) ∧ Y.cell? ⟨w.heap.size + 1, 0, none⟩ = some (.slice B cr.length d) ∧ Y.cell? ⟨w.heap.size + 1, 1, none⟩ = some (.int .i64 due) ∧ Y.cell? ⟨w.heap.size + 1, 2, none⟩ = some (.int .i64 dl)) (first | (with_reducible exact ⟨HT18.out, HF18.out.cells⟩) | (with_reducible exact ⟨HT17.out, HF17.out.cells⟩) | (with_reducible exact ⟨pw_cell_below (below_alloc (Below.refl _ _) _) HT18.out, (HF18.out.alloc _).cells⟩) | (with_reducible exact ⟨pw_cell_below (below_alloc (Below.refl _ _) _) HT17.out, (HF17.out.alloc _).cells⟩) | (with_reducible exact ⟨HTz.out, HFz.out.cells⟩) | (with_reducible exact ⟨pw_cell_below HL4.out.2.1 HT16.out, (HF16.out.below HL4.out.2.1).cells⟩)) (first
      | (go_at_call 22; (with_reducible refine (H22.out _ HF17.out.b).mono ?_); rintro e x14 ⟨A14, k14, rfl, HA14, HK14, hb⟩; have HF18 := Aside0.mk (HF17.out.below hb); have HT18 := Aside0.mk (pw_cell_below hb HT17.out); have HW1 := Aside0.mk hb; clear hb)
      | (go_at_call 22; (with_reducible refine (H22.out _ HFz.out.b).mono ?_); rintro e x14 ⟨A14, k14, rfl, HA14, HK14, hb⟩; have HF18 := Aside0.mk (HFz.out.below hb); have HT18 := Aside0.mk (pw_cell_below hb HTz.out); have hz := blk_below HZ.out hb; obtain ⟨z0, z1, z2, z3⟩ := cells4 hz; have f0 := blk_frozen hz 0; have f1 := blk_frozen hz 1; have f2 := blk_frozen hz 2; have f3 := blk_frozen hz 3; have HW2 := Aside0.mk hb; have HL4 := Aside0.mk (late4 (w0 := w) hb rfl (.int .i64 q) (.slice A14 l1.length k14) (.int .i64 lo) (.int .i64 sh)); clear hb hz))
    · go_wp2
      go_meet
      case rel => exact ⟨x14.heap.size, A14, k14, rfl, HK14, ⟨(HF18.out.alloc _).add _ ⟨(HF18.out.alloc _).k, blk_new x14 _, Kd.C_alloc (HA14.out x14 (fun _ _ => rfl)) _⟩⟩⟩
    · go_wp2
      go_meet
      case rel => exact ⟨x13.heap.size, A14, k14, rfl, HK14, ⟨(HF16.out.below HL4.out.2.1).add _ ⟨(HF16.out.below HL4.out.2.1).k, HL4.out.1, HA14.out _ (fun i hi => HL4.out.2.2 i (by simp at hi; omega))⟩⟩⟩
  case rest =>
    clear HF16 t1 H22
    obtain ⟨gb, A1, k1, rfl, HK1, HF1⟩ := hcut
    have HF2 := Aside0.mk HF1.out.drew
    obtain ⟨v0, v1, v2, v3⟩ := cells4 HF1.out.k.2.1
    obtain ⟨u0, u1, u2, u3, u4, u5, u6⟩ := HF1.out.cells
    go_wp2_with fail
    go_region_held3 (fun Y : World => Y.cell? ⟨gb, 0, none⟩ = some (.int .i64 q) ∧ Y.cell? ⟨gb, 1, none⟩ = some (.slice A1 l1.length k1) ∧ Y.cell? ⟨gb, 2, none⟩ = some (.int .i64 lo) ∧ Y.cell? ⟨gb, 3, none⟩ = some (.int .i64 sh) ∧ Y.cell? ⟨w.heap.size, 0, none⟩ = some (.int .i64 L) ∧ Y.cell? ⟨w.heap.size, 1, none⟩ = some (.slice A l.length c) ∧ Y.cell? ⟨w.heap.size, 2, none⟩ = some (.int .i64 lo) ∧ Y.cell? ⟨w.heap.size, 3, none⟩ = some (.int .i64 sh) ∧ Y.cell? ⟨w.heap.size + 1, 0, none⟩ = some (.slice B cr.length d) ∧ Y.cell? ⟨w.heap.size + 1, 1, none⟩ = some (.int .i64 due) ∧ Y.cell? ⟨w.heap.size + 1, 2, none⟩ = some (.int .i64 dl)) (first | (with_reducible exact and4 (cells4 HF6.out.k.2.1) HF6.out.cells) | (with_reducible exact and4 (cells4 HF5.out.k.2.1) HF5.out.cells) | (with_reducible exact and4 (cells4 HF4.out.k.2.1) HF4.out.cells) | (with_reducible exact and4 (cells4 HF3.out.k.2.1) HF3.out.cells) | (with_reducible exact and4 (cells4 HF2.out.k.2.1) HF2.out.cells)) (first
      | (go_at_call 13; (with_reducible refine (H13a.out _ _ _ HF2.out.k.2.2 HK1.out).mono ?_); rintro e x20 ⟨A20, k20, rfl, HA20, HK20, hb⟩; have HF3 := Aside0.mk (HF2.out.below hb); clear hb)
      | (go_at_call 18; refine (H18.out _ HF3.out.b).mono ?_; rintro e x21 ⟨A21, k21, rfl, HA21, HK21, hb⟩; have HF4 := Aside0.mk (HF3.out.below hb); have HB20 := Aside0.mk (Kd.C_below HA20.out hb); clear hb)
      | (go_at_call 21; refine (H21.out _ HF4.out.b).mono ?_; rintro e x22 ⟨A22, k22, rfl, HA22, HK22, hb⟩; have HF5 := Aside0.mk (HF4.out.below hb); have HC20 := Aside0.mk (Kd.C_below HB20.out hb); have HC21 := Aside0.mk (Kd.C_below HA21.out hb); clear hb)
      | (go_at_call 20; refine (H20a.out _ _ _ _ _ HC20.out HK20.out HC21.out HK21.out _ _ HA22.out HK22.out).mono ?_; rintro e x23 ⟨rfl, hb⟩; have HF6 := Aside0.mk (HF5.out.below hb); clear hb))
    clear HF1 HF2 HF3 HF4 HF5 HA20 HK20 HB20 HA21 HK21 HA22 HK22 HC20 HC21 H20a H21
    clear u0 u1 u2 u3 u4 u5 u6 v0 v1 v2 v3
    obtain ⟨v0, v1, v2, v3⟩ := cells4 HF6.out.k.2.1
    obtain ⟨u0, u1, u2, u3, u4, u5, u6⟩ := HF6.out.cells
    go_wp2
    have HF7 := Aside0.mk HF6.out.drew
    go_region_held3 (fun Y : World => Y.cell? ⟨gb, 0, none⟩ = some (.int .i64 q) ∧ Y.cell? ⟨gb, 1, none⟩ = some (.slice A1 l1.length k1) ∧ Y.cell? ⟨gb, 2, none⟩ = some (.int .i64 lo) ∧ Y.cell? ⟨gb, 3, none⟩ = some (.int .i64 sh) ∧ Y.cell? ⟨w.heap.size, 0, none⟩ = some (.int .i64 L) ∧ Y.cell? ⟨w.heap.size, 1, none⟩ = some (.slice A l.length c) ∧ Y.cell? ⟨w.heap.size, 2, none⟩ = some (.int .i64 lo) ∧ Y.cell? ⟨w.heap.size, 3, none⟩ = some (.int .i64 sh) ∧ Y.cell? ⟨w.heap.size + 1, 0, none⟩ = some (.slice B cr.length d) ∧ Y.cell? ⟨w.heap.size + 1, 1, none⟩ = some (.int .i64 due) ∧ Y.cell? ⟨w.heap.size + 1, 2, none⟩ = some (.int .i64 dl)) (first | (with_reducible exact and4 (cells4 HF10.out.k.2.1) HF10.out.cells) | (with_reducible exact and4 (cells4 HF9.out.k.2.1) HF9.out.cells) | (with_reducible exact and4 (cells4 HF8.out.k.2.1) HF8.out.cells) | (with_reducible exact and4 (cells4 HF7.out.k.2.1) HF7.out.cells)) (first
      | (go_at_call 13; (with_reducible refine (H13a.out _ _ _ HF7.out.k.2.2 HK1.out).mono ?_); rintro e x30 ⟨A30, k30, rfl, HA30, HK30, hb⟩; have HF8 := Aside0.mk (HF7.out.below hb); clear hb)
      | (go_at_call 18; refine (H18.out _ HF8.out.b).mono ?_; rintro e x31 ⟨A31, k31, rfl, HA31, HK31, hb⟩; have HF9 := Aside0.mk (HF8.out.below hb); have HB30 := Aside0.mk (Kd.C_below HA30.out hb); clear hb)
      | (go_at_call 17; refine (H17a.out _ _ _ _ _ HB30.out HK30.out HA31.out HK31.out).mono ?_; rintro e x32 ⟨A32, k32, rfl, HA32, HK32, hb⟩; have HF10 := Aside0.mk (HF9.out.below hb); clear hb))
    clear HF6 HF7 HF8 HF9 HA30 HK30 HB30 HA31 HK31 HA32 HK32 H17a
    clear u0 u1 u2 u3 u4 u5 u6 v0 v1 v2 v3
    obtain ⟨u0, u1, u2, u3, u4, u5, u6⟩ := HF10.out.cells
    by_cases hz : n = 0
    · have hzb : (n == 0) = true := by simpa using hz
      have HZ := Aside0.mk hz
      clear hz d0 d1
      go_wp2_with (first | (go_at_call 11; refine (c11 _).mono ?_; rintro e w2 ⟨rfl, hb⟩))
      go_ret
      exact ⟨rfl, (HF10.out.below hb).b⟩
    · have hzb : (n == 0) = false := by simpa using hz
      have hv := HAT3.out (by omega)
      have hv' : v0 = 0 := hv
      subst hv'
      have hw1 : IntKind.i64.wrap (n - 1) = n - 1 := by rw [i64_w, win _ (by omega)]
      obtain ⟨ad', eA, t0, t1⟩ := at_T35 HF10.out.k.1 (n - 1) (by omega) (by omega)
      cases eA
      rw [← HQ0.out, show (n - 1).toNat = n.toNat - 1 by omega] at t1
      have HT := Aside0.mk t1
      have HT1 := Aside0.mk (pw_cell_below (below_drew (Below.refl _ _)) t1)
      have hn2 : 0 ≤ n - 1 := by omega
      have hn3 : n - 1 < (T.length : Int) := by omega
      have hn4 : 1 ≤ n := by omega
      have hn5 : n ≤ (T.length : Int) := by omega
      have hn6 : n < (T.length : Int) + 1 := by omega
      clear t0 hv
      go_wp2_with fail
      have HF11 := Aside0.mk HF10.out.drew

      go_region_held3 (fun Y : World => Y.cell? ⟨(ad.add ((n.toNat - 1) * 2)).block, (ad.add ((n.toNat - 1) * 2)).off + 1, none⟩ = some (.int .i64 q0) ∧ Y.cell? ⟨w.heap.size, 0, none⟩ = some (.int .i64 L) ∧ Y.cell? ⟨w.heap.size, 1, none⟩ = some (.slice A l.length c) ∧ Y.cell? ⟨w.heap.size, 2, none⟩ = some (.int .i64 lo) ∧ Y.cell? ⟨w.heap.size, 3, none⟩ = some (.int .i64 sh) ∧ Y.cell? ⟨w.heap.size + 1, 0, none⟩ = some (.slice B cr.length d) ∧ Y.cell? ⟨w.heap.size + 1, 1, none⟩ = some (.int .i64 due) ∧ Y.cell? ⟨w.heap.size + 1, 2, none⟩ = some (.int .i64 dl)) (first | (with_reducible exact ⟨HT5.out, HF15.out.cells⟩) | (with_reducible exact ⟨HT4.out, HF14.out.cells⟩) | (with_reducible exact ⟨HT3.out, HF13.out.cells⟩) | (with_reducible exact ⟨HT2.out, HF12.out.cells⟩) | (with_reducible exact ⟨HT1.out, HF11.out.cells⟩)) (first
        | (go_at_call 22; (with_reducible refine (H22b.out _ HF11.out.b).mono ?_); rintro e x40 ⟨A40, k40, rfl, HA40, HK40, hb⟩; have HF12 := Aside0.mk (HF11.out.below hb); have HT2 := Aside0.mk (pw_cell_below hb HT1.out); clear hb)
        | (go_at_call 13; (with_reducible refine (H13b.out _ _ _ (HA40.out _ (fun _ _ => rfl)) HK40.out).mono ?_); rintro e x41 ⟨A41, k41_, rfl, HA41, HK41, hb⟩; have HF13 := Aside0.mk (HF12.out.below hb); have HT3 := Aside0.mk (pw_cell_below hb HT2.out); clear hb)
        | (go_at_call 18; (with_reducible refine (H18.out _ HF13.out.b).mono ?_); rintro e x42 ⟨A42, k42, rfl, HA42, HK42, hb⟩; have HF14 := Aside0.mk (HF13.out.below hb); have HT4 := Aside0.mk (pw_cell_below hb HT3.out); have HB41 := Aside0.mk (Kd.C_below HA41.out hb); clear hb)
        | (go_at_call 17; (with_reducible refine (H17b.out _ _ _ _ _ HB41.out HK41.out HA42.out HK42.out).mono ?_); rintro e x43 ⟨A43, k43, rfl, HA43, HK43, hb⟩; have HF15 := Aside0.mk (HF14.out.below hb); have HT5 := Aside0.mk (pw_cell_below hb HT4.out); clear hb))
      clear t1 u0 u1 u2 u3 u4 u5 u6 hw1
      go_wp2_with (first | (go_at_call 11; refine (c11 _).mono ?_; rintro e w2 ⟨rfl, hb⟩))
      go_ret
      exact ⟨rfl, (HF15.out.below hb).b⟩
theorem first_true (w : World) (L lo sh due dl : Int) (A B D : Option Addr) (c d m : Nat) (l : List S41) (cr : List S62) (rota : List Int) (h1 : Kd.C k41 w A l.length l) (h1c : l.length ≤ c) (h2 : Kd.C k62 w B cr.length cr) (h2c : cr.length ≤ d) (h3 : Kd.C (Kd.int .i64) w D rota.length rota) (h3c : rota.length ≤ m) :
    Calls Try.prog 5 #[.agg #[.int .i64 L, .slice A l.length c, .int .i64 lo, .int .i64 sh], .agg #[.slice B cr.length d, .int .i64 due, .int .i64 dl], .slice D rota.length m] w fun e w' => e = .returned (.bool true) ∧ Below w.heap.size w w' := by
  cases hr : readyP L l lo sh cr due dl with
  | false => exact first_idle w L lo sh due dl A B D c d m l cr rota h1 h1c h2 h2c h3 h3c hr
  | true =>
    by_cases hlong : 45 < rota.length
    · exact first_long w L lo sh due dl A B D c d m l cr rota h1 h1c h2 h2c h3 h3c hr hlong
    · by_cases hre : reachP (wkOf L (l.map to35) lo sh (cr.map to99) due dl) (-1) [] < (wkOf L (l.map to35) lo sh (cr.map to99) due dl).T.length
      · exact first_fail w L lo sh due dl A B D c d m l cr rota h1 h1c h2 h2c h3 h3c hr (by omega) hre
      · exact first_ok w L lo sh due dl A B D c d m l cr rota h1 h1c h2 h2c h3 h3c hr (by omega) hre
end Go.Proofs.Ytillieimgjdpbaa.Pr
namespace Go.Proofs.Ytillieimgjdpbaa.Pr
open Go.RowKit Go.Proofs.YtillieimgjdpbaaW.PrintWords
set_option linter.unusedVariables false
set_option linter.unusedSimpArgs false
theorem spans41 {H : Type} {enc : TypeId × Value → H} {W : World} {sp : Nat → Bool} {held : Bool} {fuel : Nat} {cs : List Value} {x : DataW H × List MemPlace} (h : DataW.trod enc Try.prog W 0 sp held fuel 22 cs = some x) :
    ∃ (A : Option Addr) (c : Nat) (l : List S41), cs = [.slice A l.length c] ∧ l.length ≤ c ∧ Kd.C k41 W A l.length l ∧ ∀ p ∈ l, (Lit.int .i64 p.f0).wf = true ∧ (Lit.int .i64 p.f1).wf = true := by
  rcases Go.Deep.open_slice_pairs Try.underlying22 Try.underlying41 (by kernel_rfl) rfl rfl (by kernel_rfl) (by kernel_rfl) h with ⟨rfl, _⟩ | ⟨a, len, cap, m, n, V0, V1, D0, D1, P0, P1, rfl, _, hlc, hcm, hm, _, hx⟩
  · exact ⟨none, 0, [], rfl, Nat.le_refl _, ⟨rfl, by decide, fun h => absurd h (by decide)⟩, by simp⟩
  · have hlm : len ≤ m := by rw [hm]; split <;> omega
    have hex : ∀ i, i < m → ∃ q : Int × Int, V0 i = .int .i64 q.1 ∧ V1 i = .int .i64 q.2 ∧ (Lit.int .i64 q.1).wf = true ∧ (Lit.int .i64 q.2).wf = true := fun i hi => by
      obtain ⟨_, _, h0, h1⟩ := hx i hi
      obtain ⟨p0, e0, _, w0⟩ := DataW.trod_int Try.underlying3 h0
      obtain ⟨p1, e1, _, w1⟩ := DataW.trod_int Try.underlying3 h1
      exact ⟨(p0, p1), by simpa using e0, by simpa using e1, w0, w1⟩
    have hq : ∃ q : Nat → Int × Int, ∀ i, i < m → V0 i = .int .i64 (q i).1 ∧ V1 i = .int .i64 (q i).2 ∧ (Lit.int .i64 (q i).1).wf = true ∧ (Lit.int .i64 (q i).2).wf = true := by
      classical
      exact ⟨fun i => if hi : i < m then Classical.choose (hex i hi) else (0, 0), fun i hi => by simp only [dif_pos hi]; exact Classical.choose_spec (hex i hi)⟩
    obtain ⟨q, hq⟩ := hq
    have hl : ((List.range len).map fun i => (⟨(q i).1, (q i).2⟩ : S41)).length = len := by simp
    refine ⟨some a, cap, (List.range len).map fun i => ⟨(q i).1, (q i).2⟩, by rw [hl], by rw [hl]; exact hlc, ⟨rfl, by rw [hl]; unfold maxLen at hcm; omega, fun _ => ⟨a, rfl, fun j p hj => ?_⟩⟩, fun p hp => ?_⟩
    · obtain ⟨hj1, hj2⟩ := List.getElem?_eq_some_iff.1 hj
      rw [hl] at hj1
      obtain ⟨c0, c1, _, _⟩ := hx j (by omega)
      obtain ⟨e0, e1, _, _⟩ := hq j (by omega)
      have hp : p = ⟨(q j).1, (q j).2⟩ := by rw [← hj2]; simp
      subst hp
      refine ⟨[.int .i64 (q j).1, .int .i64 (q j).2], rfl, k41_mk _ _, fun i u hi => ?_⟩
      match i, hi with
      | 0, hi =>
        obtain rfl : Value.int .i64 (q j).1 = u := by simpa using hi
        rw [← e0]; exact c0
      | 1, hi =>
        obtain rfl : Value.int .i64 (q j).2 = u := by simpa using hi
        rw [← e1]; exact c1
    · obtain ⟨i, hi, rfl⟩ := List.mem_map.1 hp
      obtain ⟨_, _, w0, w1⟩ := hq i (by have := List.mem_range.1 hi; omega)
      exact ⟨w0, w1⟩
set_option maxRecDepth 100000 in
theorem open24 {H : Type} {enc : TypeId × Value → H} {W : World} {sp : Nat → Bool} {held : Bool} {fuel : Nat} {cs : List Value} {x : DataW H × List MemPlace} (h : DataW.trod enc Try.prog W 0 sp held fuel 24 cs = some x) :
    ∃ (L : Int) (A : Option Addr) (c : Nat) (l : List S41) (lo sh : Int), cs = [.int .i64 L, .slice A l.length c, .int .i64 lo, .int .i64 sh] ∧ l.length ≤ c ∧ Kd.C k41 W A l.length l ∧ (∀ p ∈ l, (Lit.int .i64 p.f0).wf = true ∧ (Lit.int .i64 p.f1).wf = true) ∧ (Lit.int .i64 L).wf = true ∧ (Lit.int .i64 lo).wf = true ∧ (Lit.int .i64 sh).wf = true := by
  obtain ⟨xs, n, _, _, hlen, hxl, hf⟩ := DataW.trod_struct Try.underlying24 h
  have c24 : Try.prog.cellsOf 24 = 4 := by kernel_rfl
  have c3 : Try.prog.cellsOf 3 = 1 := by kernel_rfl
  have c22 : Try.prog.cellsOf 22 = 1 := by kernel_rfl
  rw [c24] at hlen
  match cs, hlen, xs, hxl with
  | [v0, v1, v2, v3], _, [y0, y1, y2, y3], _ =>
    have g0 := hf 0 _ rfl
    have g1 := hf 1 _ rfl
    have g2 := hf 2 _ rfl
    have g3 := hf 3 _ rfl
    simp [c3, c22] at g0 g1 g2 g3
    obtain ⟨L, e0, _, w0⟩ := DataW.trod_int Try.underlying3 g0
    obtain ⟨A, c, l, e1, hc, hC, hw⟩ := spans41 g1
    obtain ⟨lo, e2, _, w2⟩ := DataW.trod_int Try.underlying3 g2
    obtain ⟨sh, e3, _, w3⟩ := DataW.trod_int Try.underlying3 g3
    exact ⟨L, A, c, l, lo, sh, by simp at e0 e1 e2 e3; simp [e0, e1, e2, e3], hc, hC, hw, w0, w2, w3⟩
end Go.Proofs.Ytillieimgjdpbaa.Pr
