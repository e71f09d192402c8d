/- TakeAny, walked: whatever the sitting, the office and the words, it returns true. -/
import Derived.Test.YtillieimgjdpbaaAIh
import Derived.Deep.LoopGhost
namespace Go.Proofs.Ytillieimgjdpbaa.Pr
open Go.RowKit Go.Proofs.YtillieimgjdpbaaW.PrintWords Go.Proofs.YtillieimgjdpbaaW.PrintLast Go.Proofs.YtillieimgjdpbaaW.PrintMore
set_option linter.unusedVariables false
set_option linter.unusedSimpArgs false
theorem i64_win (n : Int) (h : -9223372036854775808 ≤ n ∧ n ≤ 9223372036854775807) : IntKind.i64.wrap n = n := by rw [i64_w, win n h]
theorem S3 {w X : World} {a1 a2 a3 : Addr} {v1 v2 v3 : Value} (hb : Below w.heap.size w X) (h : w.cell? a1 = some v1 ∧ w.cell? a2 = some v2 ∧ w.cell? a3 = some v3) : X.cell? a1 = some v1 ∧ X.cell? a2 = some v2 ∧ X.cell? a3 = some v3 :=
  ⟨pw_cell_below hb h.1, pw_cell_below hb h.2.1, pw_cell_below hb h.2.2⟩
theorem X3S {X : World} {g : Nat} {x0 x1 x2 : Value} {t : TypeId} {P : Prop} (h : X.heap[g]? = some (.cells #[x0, x1, x2] t (0, 0))) (hP : P) : X.cell? ⟨g, 0, none⟩ = some x0 ∧ X.cell? ⟨g, 1, none⟩ = some x1 ∧ P := ⟨(blk_cell h 0).trans rfl, (blk_cell h 1).trans rfl, hP⟩
theorem S6 {w X : World} {a1 a2 a3 a4 a5 a6 : Addr} {v1 v2 v3 v4 v5 v6 : Value} (hb : Below w.heap.size w X) (h : w.cell? a1 = some v1 ∧ w.cell? a2 = some v2 ∧ w.cell? a3 = some v3 ∧ w.cell? a4 = some v4 ∧ w.cell? a5 = some v5 ∧ w.cell? a6 = some v6) :
    X.cell? a1 = some v1 ∧ X.cell? a2 = some v2 ∧ X.cell? a3 = some v3 ∧ X.cell? a4 = some v4 ∧ X.cell? a5 = some v5 ∧ X.cell? a6 = some v6 :=
  ⟨pw_cell_below hb h.1, pw_cell_below hb h.2.1, pw_cell_below hb h.2.2.1, pw_cell_below hb h.2.2.2.1, pw_cell_below hb h.2.2.2.2.1, pw_cell_below hb h.2.2.2.2.2⟩
set_option maxRecDepth 100000 in
set_option maxHeartbeats 4000000 in
theorem any_idle (w : World) (L lo sh due dl : Int) (A B D : Option Addr) (c d m : Nat) (l : List S41) (cr : List S62) (ws : List Int) (h1 : Kd.C k41 w A l.length l) (h1c : l.length ≤ c) (h2 : Kd.C k62 w B cr.length cr) (h2c : cr.length ≤ d) (h3 : Kd.C (Kd.int .u16) w D ws.length ws) (h3c : ws.length ≤ m) (hws : ∀ x ∈ ws, 0 ≤ x ∧ x ≤ 65535) (hr : readyP L l lo sh cr due dl = false) :
    Calls Try.prog 7 #[.agg #[.int .i64 L, .slice A l.length c, .int .i64 lo, .int .i64 sh], .agg #[.slice B cr.length d, .int .i64 due, .int .i64 dl], .slice D ws.length m] w fun e w' => e = .returned (.bool true) ∧ Below w.heap.size w w' := by
  have HR1 := Aside0.mk h1
  have HR2 := Aside0.mk h2
  have H16 : Aside0 (∀ X, Below w.heap.size w X → Calls Try.prog 16 #[.agg #[.int .i64 L, .slice A l.length c, .int .i64 lo, .int .i64 sh], .agg #[.slice B cr.length d, .int .i64 due, .int .i64 dl]] X fun e w' => e = .returned (.bool false) ∧ Below X.heap.size X w') := ⟨fun X hX => by have := c16 (Kd.C_below HR1.out hX) h1c (Kd.C_below HR2.out hX) h2c L lo sh due dl; rwa [hr] at this⟩
  have HF := Aside0.mk (Fa.start w #[.int .i64 L, .slice A l.length c, .int .i64 lo, .int .i64 sh] #[.slice B cr.length d, .int .i64 due, .int .i64 dl])
  obtain ⟨u0, u1, u2, u3, u4, u5, u6⟩ := HF.out.cells
  clear h1 h2 h3 hr hws
  go_enter Try.func7, Try.ntmps7
  go_wp2_with (first | (go_at_call 16; refine (H16.out _ HF.out.b).mono ?_; rintro e w1 ⟨rfl, hb⟩; have HF1 := Aside0.mk (HF.out.below hb); clear hb) | (go_at_call 11; refine (c11 _).mono ?_; rintro e w2 ⟨rfl, hb⟩))
  go_ret
  exact ⟨rfl, (HF1.out.below hb).b⟩
set_option maxRecDepth 100000 in
set_option maxHeartbeats 4000000 in
theorem any_none (w : World) (L lo sh due dl : Int) (A B D : Option Addr) (c d m : Nat) (l : List S41) (cr : List S62) (ws : List Int) (h1 : Kd.C k41 w A l.length l) (h1c : l.length ≤ c) (h2 : Kd.C k62 w B cr.length cr) (h2c : cr.length ≤ d) (h3 : Kd.C (Kd.int .u16) w D ws.length ws) (h3c : ws.length ≤ m) (hws : ∀ x ∈ ws, 0 ≤ x ∧ x ≤ 65535) (hr : readyP L l lo sh cr due dl = true) (hre : reachP (wkOf L (l.map to35) lo sh (cr.map to99) due dl) (-1) [] < (wkOf L (l.map to35) lo sh (cr.map to99) due dl).T.length) :
    Calls Try.prog 7 #[.agg #[.int .i64 L, .slice A l.length c, .int .i64 lo, .int .i64 sh], .agg #[.slice B cr.length d, .int .i64 due, .int .i64 dl], .slice D ws.length m] w fun e w' => e = .returned (.bool true) ∧ Below w.heap.size w w' := by
  obtain ⟨hl60, hc8, he⟩ := ready_parts hr
  have HR1 := Aside0.mk h1
  have HR2 := Aside0.mk h2
  have HR3 := Aside0.mk h3
  have H16 : Aside0 (∀ X, Below w.heap.size w X → Calls Try.prog 16 #[.agg #[.int .i64 L, .slice A l.length c, .int .i64 lo, .int .i64 sh], .agg #[.slice B cr.length d, .int .i64 due, .int .i64 dl]] X fun e w' => e = .returned (.bool true) ∧ Below X.heap.size X w') := ⟨fun X hX => by have := c16 (Kd.C_below HR1.out hX) h1c (Kd.C_below HR2.out hX) h2c L lo sh due dl; rwa [hr] at this⟩
  have HF := Aside0.mk (Fa.start w #[.int .i64 L, .slice A l.length c, .int .i64 lo, .int .i64 sh] #[.slice B cr.length d, .int .i64 due, .int .i64 dl])
  obtain ⟨u0, u1, u2, u3, u4, u5, u6⟩ := HF.out.cells
  obtain ⟨P, hP⟩ : ∃ P, P = l.map to35 := ⟨_, rfl⟩
  obtain ⟨O, hO⟩ : ∃ O, O = cr.map to99 := ⟨_, rfl⟩
  rw [← hP, ← hO] at he hre
  have hn := wk_ok he
  have H13 : Aside0 (∀ X, Below w.heap.size w X → Calls Try.prog 13 #[.agg #[.int .i64 L, .slice A l.length c, .int .i64 lo, .int .i64 sh]] X fun e w' => ∃ A1 c1, e = .returned (.agg #[.int .i64 L, .slice A1 P.length c1, .int .i64 lo, .int .i64 sh]) ∧ Aside0 (Kd.C k35 w' A1 P.length P) ∧ Aside0 (P.length ≤ c1) ∧ Below X.heap.size X w') := ⟨fun X hX => c13 (Kd.C_below HR1.out hX) h1c (by omega) L lo sh hP⟩
  have H18 : Aside0 (∀ X, Below w.heap.size w X → Calls Try.prog 18 #[.agg #[.slice B cr.length d, .int .i64 due, .int .i64 dl]] X fun e w' => ∃ A1 c1, e = .returned (.agg #[.slice A1 O.length c1, .int .i64 due, .int .i64 dl]) ∧ Aside0 (Kd.C k99 w' A1 O.length O) ∧ Aside0 (O.length ≤ c1) ∧ Below X.heap.size X w') := ⟨fun X hX => c18 (Kd.C_below HR2.out hX) h2c (by omega) due dl hO⟩
  have e1 : rotaR (wkOf L P lo sh O due dl) (workE L P lo sh O due dl) = ([], 9) := by rw [rotaR, if_neg (by simp [he]), if_pos hre]
  have H17 := Aside0.mk (fun (X : World) (A1 : Option Addr) (k1 : Nat) (B1 : Option Addr) (k2 : Nat) (g1 : Kd.C k35 X A1 P.length P) (g2 : P.length ≤ k1) (g3 : Kd.C k99 X B1 O.length O) (g4 : O.length ≤ k2) => c17 g1 g2 g3 g4 L lo sh due dl e1)
  clear h1 h2 h3 hr hP hO he hn hre e1 hws
  go_enter Try.func7, Try.ntmps7
  go_wp2_with (first | (go_at_call 16; refine (H16.out _ HF.out.b).mono ?_; rintro e w1 ⟨rfl, hb⟩; have HF1 := Aside0.mk (HF.out.below hb); clear hb))
  clear u0 u1 u2 u3 u4 u5 u6
  obtain ⟨u0, u1, u2, u3, u4, u5, u6⟩ := HF1.out.cells
  have HF2 := Aside0.mk HF1.out.drew
  go_region_held3 (fun Y : World => Y.cell? ⟨w.heap.size, 0, none⟩ = some (.int .i64 L) ∧ Y.cell? ⟨w.heap.size, 1, none⟩ = some (.slice A l.length c) ∧ Y.cell? ⟨w.heap.size, 2, none⟩ = some (.int .i64 lo) ∧ Y.cell? ⟨w.heap.size, 3, none⟩ = some (.int .i64 sh) ∧ Y.cell? ⟨w.heap.size + 1, 0, none⟩ = some (.slice B cr.length d) ∧ Y.cell? ⟨w.heap.size + 1, 1, none⟩ = some (.int .i64 due) ∧ Y.cell? ⟨w.heap.size + 1, 2, none⟩ = some (.int .i64 dl)) (first | exact HF5.out.cells | exact HF4.out.cells | exact HF3.out.cells | exact HF2.out.cells | go_keep) (first
    | (go_at_call 13; refine (H13.out _ HF2.out.b).mono ?_; rintro e x1 ⟨A1, k1, rfl, HA1, HK1, hb⟩; have HF3 := Aside0.mk (HF2.out.below hb); clear hb)
    | (go_at_call 18; refine (H18.out _ HF3.out.b).mono ?_; rintro e x2 ⟨A2, k2, rfl, HA2, HK2, hb⟩; have HF4 := Aside0.mk (HF3.out.below hb); have HB1 := Aside0.mk (Kd.C_below HA1.out hb); clear hb)
    | (go_at_call 17; refine (H17.out _ _ _ _ _ HB1.out HK1.out HA2.out HK2.out).mono ?_; rintro e x3 ⟨A3, k3, rfl, HA3, HK3, hb⟩; have HF5 := Aside0.mk (HF4.out.below hb); clear hb))
  go_wp2_with (first | (go_at_call 11; refine (c11 _).mono ?_; rintro e w2 ⟨rfl, hb⟩))
  go_ret
  exact ⟨rfl, (HF5.out.below hb).b⟩
set_option maxRecDepth 100000 in
set_option maxHeartbeats 4000000 in
theorem any_rota (w : World) (L lo sh due dl : Int) (A B D : Option Addr) (c d m : Nat) (l : List S41) (cr : List S62) (ws : List Int) (h1 : Kd.C k41 w A l.length l) (h1c : l.length ≤ c) (h2 : Kd.C k62 w B cr.length cr) (h2c : cr.length ≤ d) (h3 : Kd.C (Kd.int .u16) w D ws.length ws) (h3c : ws.length ≤ m) (hws : ∀ x ∈ ws, 0 ≤ x ∧ x ≤ 65535) (hr : readyP L l lo sh cr due dl = true) (hre : ¬ reachP (wkOf L (l.map to35) lo sh (cr.map to99) due dl) (-1) [] < (wkOf L (l.map to35) lo sh (cr.map to99) due dl).T.length) :
    Calls Try.prog 7 #[.agg #[.int .i64 L, .slice A l.length c, .int .i64 lo, .int .i64 sh], .agg #[.slice B cr.length d, .int .i64 due, .int .i64 dl], .slice D ws.length m] w fun e w' => e = .returned (.bool true) ∧ Below w.heap.size w w' := by
  obtain ⟨hl60, hc8, he⟩ := ready_parts hr
  have HR1 := Aside0.mk h1
  have HR2 := Aside0.mk h2
  have HR3 := Aside0.mk h3
  have H16 : Aside0 (∀ X, Below w.heap.size w X → Calls Try.prog 16 #[.agg #[.int .i64 L, .slice A l.length c, .int .i64 lo, .int .i64 sh], .agg #[.slice B cr.length d, .int .i64 due, .int .i64 dl]] X fun e w' => e = .returned (.bool true) ∧ Below X.heap.size X w') := ⟨fun X hX => by have := c16 (Kd.C_below HR1.out hX) h1c (Kd.C_below HR2.out hX) h2c L lo sh due dl; rwa [hr] at this⟩
  have HF := Aside0.mk (Fa.start w #[.int .i64 L, .slice A l.length c, .int .i64 lo, .int .i64 sh] #[.slice B cr.length d, .int .i64 due, .int .i64 dl])
  obtain ⟨u0, u1, u2, u3, u4, u5, u6⟩ := HF.out.cells
  obtain ⟨P, hP⟩ : ∃ P, P = l.map to35 := ⟨_, rfl⟩
  obtain ⟨O, hO⟩ : ∃ O, O = cr.map to99 := ⟨_, rfl⟩
  rw [← hP, ← hO] at he hre
  have hn := wk_ok he
  have H13 : Aside0 (∀ X, Below w.heap.size w X → Calls Try.prog 13 #[.agg #[.int .i64 L, .slice A l.length c, .int .i64 lo, .int .i64 sh]] X fun e w' => ∃ A1 c1, e = .returned (.agg #[.int .i64 L, .slice A1 P.length c1, .int .i64 lo, .int .i64 sh]) ∧ Aside0 (Kd.C k35 w' A1 P.length P) ∧ Aside0 (P.length ≤ c1) ∧ Below X.heap.size X w') := ⟨fun X hX => c13 (Kd.C_below HR1.out hX) h1c (by omega) L lo sh hP⟩
  have H18 : Aside0 (∀ X, Below w.heap.size w X → Calls Try.prog 18 #[.agg #[.slice B cr.length d, .int .i64 due, .int .i64 dl]] X fun e w' => ∃ A1 c1, e = .returned (.agg #[.slice A1 O.length c1, .int .i64 due, .int .i64 dl]) ∧ Aside0 (Kd.C k99 w' A1 O.length O) ∧ Aside0 (O.length ≤ c1) ∧ Below X.heap.size X w') := ⟨fun X hX => c18 (Kd.C_below HR2.out hX) h2c (by omega) due dl hO⟩
  have hch := check_of_work he
  obtain ⟨W, hW⟩ : ∃ W, W = wkOf L P lo sh O due dl := ⟨_, rfl⟩
  rw [← hW] at hre hn
  have e1 : rotaR (wkOf L P lo sh O due dl) (workE L P lo sh O due dl) = (rotaP W (-1) [], 0) := by rw [rotaR, if_neg (by simp [he]), ← hW, if_neg hre]
  obtain ⟨hrr1, hrr2⟩ := rota_right hre
  obtain ⟨rr, hrr⟩ : ∃ x, x = rotaP W (-1) [] := ⟨_, rfl⟩
  obtain ⟨T, hT⟩ : ∃ T, T = takesP L P lo sh := ⟨_, rfl⟩
  have hTW : W.T = T := by rw [hW, hT]; rfl
  rw [← hrr] at e1 hrr1 hrr2
  rw [← hT] at hch
  have hCW : W.C = O := by rw [hW]; rfl
  have hrise : Rise W.L 0 W.T := by
    have := (takes_once (check_is (by rw [hch])).1).2.2
    rw [hW]; exact this
  obtain ⟨li1, li2⟩ := rota_listed hrr1 hrr2
  have e3 : proveR (wkOf L P lo sh O due dl) (workE L P lo sh O due dl) rr = true := by rw [he, ← hW, proveR, decide_eq_true rfl, li1, li2]; rfl
  have hlT : rr.length = T.length := by rw [hrr2, hTW]
  have hT40 : T.length ≤ 40 := hTW ▸ hn.t
  have hin : ∀ r ∈ rr, 0 ≤ r ∧ r < cr.length := fun r h => by
    have := rightN_in hrr1 r h
    rw [hCW, hO, List.length_map] at this
    omega
  obtain ⟨cz, hz1, hz2⟩ := made41 T.length (by omega)
  have H17 := Aside0.mk (fun (X : World) (A1 : Option Addr) (k1 : Nat) (B1 : Option Addr) (k2 : Nat) (g1 : Kd.C k35 X A1 P.length P) (g2 : P.length ≤ k1) (g3 : Kd.C k99 X B1 O.length O) (g4 : O.length ≤ k2) => c17 g1 g2 g3 g4 L lo sh due dl e1)
  have H12 := Aside0.mk (fun (X : World) (A1 : Option Addr) (k1 : Nat) (g1 : Kd.C k35 X A1 P.length P) (g2 : P.length ≤ k1) => c12 g1 g2 L lo sh hch)
  have H20 := Aside0.mk (fun (X : World) (A1 : Option Addr) (k1 : Nat) (B1 : Option Addr) (k2 : Nat) (g1 : Kd.C k35 X A1 P.length P) (g2 : P.length ≤ k1) (g3 : Kd.C k99 X B1 O.length O) (g4 : O.length ≤ k2) (D1 : Option Addr) (k3 : Nat) (g5 : Kd.C (Kd.int .i64) X D1 rr.length rr) (g6 : rr.length ≤ k3) => c20 g1 g2 g3 g4 g5 g6 L lo sh due dl e3)
  have H21 := Aside0.mk (fun (X : World) (A1 : Option Addr) (k1 : Nat) (g1 : Kd.C (Kd.int .i64) X A1 rr.length rr) (g2 : rr.length ≤ k1) => c21 g1 g2 (by omega))
  have H24 : Aside0 (∀ (X : World) (A1 : Option Addr) (k1 : Nat) (A2 : Option Addr) (k2 : Nat), Below w.heap.size w X → Kd.C k41 X A1 (List.replicate T.length z41).length (List.replicate T.length z41) → T.length ≤ k1 → Kd.C (Kd.int .i64) X A2 rr.length rr → rr.length ≤ k2 → Calls Try.prog 24 #[.agg #[.slice B cr.length d, .int .i64 due, .int .i64 dl], .slice A1 T.length k1, .slice A2 rr.length k2] X fun e w' => e = .returned (.bool true) ∧ Below X.heap.size X w') := ⟨fun X A1 k1 A2 k2 hX g1 g2 g3 g4 => by
    have := palantyperef01_Listed.calls (rr.length + 1) B d cr due dl A1 k1 (List.replicate T.length z41) A2 k2 rr true X (Kd.C_below HR2.out hX) h2c g1 (by rw [List.length_replicate]; exact g2) g3 g4 (reflisted_some cr due dl _ rr (by omega) (by omega) hin (by rw [List.length_replicate]; exact hlT))
    rwa [List.length_replicate] at this⟩
  have H26 : Aside0 (∀ (xs : List S71) (hx : xs.length = rr.length) (hg : ∀ (k : Nat) (h1 : k < rr.length) (h2 : k < xs.length), realOk W rr[k] xs[k]) (X : World) (A1 : Option Addr) (k1 : Nat) (B1 : Option Addr) (k2 : Nat) (D1 : Option Addr) (k3 : Nat) (E1 : Option Addr) (k4 : Nat), Kd.C k35 X A1 P.length P → P.length ≤ k1 → Kd.C k99 X B1 O.length O → O.length ≤ k2 → Kd.C (Kd.int .i64) X D1 rr.length rr → rr.length ≤ k3 → Kd.C k71 X E1 xs.length xs → xs.length ≤ k4 →
      Calls Try.prog 26 #[.agg #[.int .i64 L, .slice A1 P.length k1, .int .i64 lo, .int .i64 sh], .agg #[.slice B1 O.length k2, .int .i64 due, .int .i64 dl], .slice D1 rr.length k3, .slice E1 xs.length k4] X fun e w' => ∃ Ad kd, e = .returned (.tuple #[.slice Ad rr.length kd, .int .i64 0]) ∧ Aside0 (Kd.C (Kd.int .i64) w' Ad rr.length (doneFrom W 0 xs)) ∧ Below X.heap.size X w') := ⟨fun xs hx hg X A1 k1 B1 k2 D1 k3 E1 k4 g1 g2 g3 g4 g5 g6 g7 g8 =>
    (done26 L A1 k1 P lo sh B1 k2 O due dl D1 k3 rr E1 k4 xs X g1 g2 g3 g4 g5 g6 g7 g8 W hW he li1 hx hg).mono (fun e w' h => by
      obtain ⟨v, rfl, hR, hb⟩ := h
      obtain ⟨Ad, kd, rfl⟩ := Kd.R_slice hR
      have hC := (Kd.R_reads' hR).2.2
      rw [doneFrom_length, hx] at hC ⊢
      exact ⟨Ad, kd, rfl, ⟨hC⟩, hb⟩)⟩
  have HANY : Aside0 (∀ (i : Nat) (hi : i < rr.length) (x : S71), realOk W rr[i] x → (rd_T35 T i).f1 ≤ doneP (rd_T35 T i) x.f0 x.f1 ∧ doneP (rd_T35 T i) x.f0 x.f1 ≤ (rd_T35 T i).f1 + due ∧ doneP (rd_T35 T i) x.f0 x.f1 ≤ 1000000 ∧ ∀ (k : Nat) (hk : k < rr.length), i < k → rr[k] = rr[i] → doneP (rd_T35 T i) x.f0 x.f1 + (rd_T99 O rr[i]).f1 ≤ (rd_T35 T k).f0) := ⟨fun i hi x hx => by
    have := any_law hn hrise hrr1 hrr2 i hi x hx
    rw [hTW, hCW] at this
    have hd : W.due = due := by rw [hW]; rfl
    rwa [hd] at this⟩
  have H25 : Aside0 (∀ (r : Int) (k : Nat), r ∈ rr → k ≤ 40 → ∃ v1 v2 : Int, realOk W r ⟨v1, v2⟩ ∧ (∀ X, Below w.heap.size w X → Calls Try.prog 25 #[.int .i64 (rd_T62 cr r).f0.f0, .int .i64 (rd_T62 cr r).f0.f1, .slice D ws.length m, .int .i64 (2 * (k : Int))] X fun e w' => e = .returned (.int .i64 v1) ∧ Drawn0 X w') ∧ (∀ X, Below w.heap.size w X → Calls Try.prog 25 #[.int .i64 0, .int .i64 dl, .slice D ws.length m, .int .i64 (2 * (k : Int) + 1)] X fun e w' => e = .returned (.int .i64 v2) ∧ Drawn0 X w')) := ⟨fun r k hr hk => by
    have hr1 := rightN_in hrr1 r hr
    have h9 := hn.cr' r hr1.1 hr1.2.1
    have e99 : rd_T99 W.C r = to99 (rd_T62 cr r) := by
      have hlt : r.toNat < cr.length := by have := hin r hr; omega
      rw [hCW, hO]
      unfold rd_T99 rd_T62
      rw [List.getD_eq_getElem?_getD, List.getD_eq_getElem?_getD, List.getElem?_map, List.getElem?_eq_getElem hlt]; rfl
    have hdl : W.dl = dl := by rw [hW]; rfl
    have hd0 := hn.e0
    have hd1 := hn.e1
    rw [hdl] at hd0 hd1
    rw [e99] at h9
    have h9' : 0 ≤ (rd_T62 cr r).f0.f0 ∧ (rd_T62 cr r).f0.f0 ≤ (rd_T62 cr r).f0.f1 ∧ (rd_T62 cr r).f0.f1 ≤ 20 ∧ 0 ≤ (rd_T62 cr r).f1 ∧ (rd_T62 cr r).f1 ≤ 36000 := h9
    obtain ⟨v1, p1, p2, p3⟩ := pick_some (rd_T62 cr r).f0.f0 (rd_T62 cr r).f0.f1 ws (2 * (k : Int)) h9'.1 h9'.2.1 (by omega) (by omega) hws
    obtain ⟨v2, p4, p5, p6⟩ := pick_some 0 dl ws (2 * (k : Int) + 1) (Int.le_refl _) (by omega) (by omega) (by omega) hws
    refine ⟨v1, v2, ?_, fun X hX => palantypelaw01_pick.calls _ _ D m ws _ v1 X (Kd.C_below HR3.out hX) h3c p1, fun X hX => palantypelaw01_pick.calls _ _ D m ws _ v2 X (Kd.C_below HR3.out hX) h3c p4⟩
    unfold realOk
    rw [e99, hdl]
    exact ⟨p2, p3, p5, p6⟩⟩
  have HTB : Aside0 (∀ i : Int, 0 ≤ i → i < T.length → 0 ≤ (rd_T35 T i).f0 ∧ (rd_T35 T i).f0 < (rd_T35 T i).f1 ∧ (rd_T35 T i).f1 ≤ 36000) := ⟨fun i h0 h1 => by have := hn.tk' i h0 (by rw [hTW]; exact h1); rwa [hTW] at this⟩
  have HDU : Aside0 (0 ≤ due ∧ due ≤ 36000) := ⟨by have h1 := hn.d0; have h2 := hn.d1; rw [hW] at h1 h2; exact ⟨h1, h2⟩⟩
  have HCR : Aside0 (∀ r ∈ rr, 0 ≤ (rd_T62 cr r).f1 ∧ (rd_T62 cr r).f1 ≤ 36000 ∧ (rd_T99 O r).f1 = (rd_T62 cr r).f1) := ⟨fun r hr => by
    have hr1 := rightN_in hrr1 r hr
    have h9 := hn.cr' r hr1.1 hr1.2.1
    have e99 : rd_T99 O r = to99 (rd_T62 cr r) := by
      have hlt : r.toNat < cr.length := by have := hin r hr; omega
      rw [hO]
      unfold rd_T99 rd_T62
      rw [List.getD_eq_getElem?_getD, List.getD_eq_getElem?_getD, List.getElem?_map, List.getElem?_eq_getElem hlt]; rfl
    rw [hCW, e99] at h9
    rw [e99]
    exact ⟨h9.2.2.2.1, h9.2.2.2.2, rfl⟩⟩
  have HCZ := Aside0.mk hz2
  have hz1' : ∀ X : World, (Instr.makeSlice 22 (.int .i64 (T.length : Int)) (.int .i64 (T.length : Int))).run Try.prog X = .ok (.slice (some ⟨X.heap.size, 0, none⟩) T.length T.length) (X.alloc (.cells cz 41)) := hz1
  have HIN := Aside0.mk hin
  have HLT := Aside0.mk hlT
  have HO := Aside0.mk hO
  have HTW := Aside0.mk hTW
  clear h1 h2 h3 hr hP hO he hn hre e1 hws hch hW hrr1 hrr2 hrr hT hTW hCW hrise li1 li2 e3 hin hz1 hz2 hlT
  go_enter Try.func7, Try.ntmps7
  go_wp2_with (first | (go_at_call 16; refine (H16.out _ HF.out.b).mono ?_; rintro e w1 ⟨rfl, hb⟩; have HF1 := Aside0.mk (HF.out.below hb); clear hb))
  clear u0 u1 u2 u3 u4 u5 u6
  obtain ⟨u0, u1, u2, u3, u4, u5, u6⟩ := HF1.out.cells
  have HF2 := Aside0.mk HF1.out.drew
  go_region_held3 (fun Y : World => Y.cell? ⟨w.heap.size, 0, none⟩ = some (.int .i64 L) ∧ Y.cell? ⟨w.heap.size, 1, none⟩ = some (.slice A l.length c) ∧ Y.cell? ⟨w.heap.size, 2, none⟩ = some (.int .i64 lo) ∧ Y.cell? ⟨w.heap.size, 3, none⟩ = some (.int .i64 sh) ∧ Y.cell? ⟨w.heap.size + 1, 0, none⟩ = some (.slice B cr.length d) ∧ Y.cell? ⟨w.heap.size + 1, 1, none⟩ = some (.int .i64 due) ∧ Y.cell? ⟨w.heap.size + 1, 2, none⟩ = some (.int .i64 dl)) (first | exact HF5.out.cells | exact HF4.out.cells | exact HF3.out.cells | exact HF2.out.cells | go_keep) (first
    | (go_at_call 13; refine (H13.out _ HF2.out.b).mono ?_; rintro e x1 ⟨A1, k1, rfl, HA1, HK1, hb⟩; have HF3 := Aside0.mk (HF2.out.below hb); clear hb)
    | (go_at_call 18; refine (H18.out _ HF3.out.b).mono ?_; rintro e x2 ⟨A2, k2, rfl, HA2, HK2, hb⟩; have HF4 := Aside0.mk (HF3.out.below hb); have HB1 := Aside0.mk (Kd.C_below HA1.out hb); clear hb)
    | (go_at_call 17; refine (H17.out _ _ _ _ _ HB1.out HK1.out HA2.out HK2.out).mono ?_; rintro e x3 ⟨A3, k3, rfl, HA3, HK3, hb⟩; have HF5 := Aside0.mk ((HF4.out.below hb).add (fun X => Kd.C (Kd.int .i64) X A3 rr.length rr) HA3.out); clear hb))
  clear HA1 HK1 HB1 HA2 HK2 HA3 HF HF1 HF2 HF3 HF4
  clear u0 u1 u2 u3 u4 u5 u6
  obtain ⟨u0, u1, u2, u3, u4, u5, u6⟩ := HF5.out.cells
  go_wp2_with (first | (go_at_call 13; refine (H13.out _ HF5.out.b).mono ?_; rintro e x7 ⟨A7, k7, rfl, HA7, HK7, hb⟩; have HF10 := Aside0.mk (HF5.out.below hb); clear hb) | (go_at_call 12; refine (H12.out _ _ _ HA7.out HK7.out).mono ?_; rintro e x8 ⟨A8, k8, rfl, HA8, HK8, hb⟩; have HF11 := Aside0.mk ((HF10.out.below hb).add (fun X => Kd.C (Kd.int .i64) X A3 rr.length rr ∧ Kd.C k35 X A8 T.length T) ⟨(HF10.out.below hb).k, HA8.out⟩); clear hb))
  clear HA7 HK7 HA8 HF5 HF10
  clear u0 u1 u2 u3 u4 u5 u6
  obtain ⟨u0, u1, u2, u3, u4, u5, u6⟩ := HF11.out.cells
  have HF13 := Aside0.mk ((HF11.out.alloc (.cells cz 41)).drew)
  have HF12 := Aside0.mk HF11.out.drew
  go_region_held3 (fun Y : World => Y.cell? ⟨w.heap.size, 0, none⟩ = some (.int .i64 L) ∧ Y.cell? ⟨w.heap.size, 1, none⟩ = some (.slice A l.length c) ∧ Y.cell? ⟨w.heap.size, 2, none⟩ = some (.int .i64 lo) ∧ Y.cell? ⟨w.heap.size, 3, none⟩ = some (.int .i64 sh) ∧ Y.cell? ⟨w.heap.size + 1, 0, none⟩ = some (.slice B cr.length d) ∧ Y.cell? ⟨w.heap.size + 1, 1, none⟩ = some (.int .i64 due) ∧ Y.cell? ⟨w.heap.size + 1, 2, none⟩ = some (.int .i64 dl)) (first | (with_reducible exact HF12.out.cells) | (with_reducible exact HF13.out.cells) | (with_reducible exact HF14.out.cells)) (first
    | (go_at_call 24; (with_reducible refine (H24.out _ _ _ _ _ HF13.out.b (Kd.C_drew (HCZ.out x8)) (Nat.le_refl _) HF13.out.k.1 HK3.out).mono ?_); rintro e x9 ⟨rfl, hb⟩; have HF14 := Aside0.mk (HF13.out.below hb); clear hb))
  clear HF11 HF12 HF13 HCZ hz1' H24
  clear u0 u1 u2 u3 u4 u5 u6
  obtain ⟨u0, u1, u2, u3, u4, u5, u6⟩ := HF14.out.cells
  go_wp2_with fail
  have hR0 : Aside0 (Kd.R k71 71 x9 x9.heap.size (fun _ => True) (.slice none 0 0) []) := ⟨Kd.R_nil _ _ _ _ _⟩
  go_loopg [11, 12] rr.length (fun gk v11 v12 wr => ∃ (k : Nat) (xs : List S71), k + gk = rr.length ∧ v12 = .int .i64 k ∧ xs.length = k ∧ Aside0 (∀ (j : Nat) (h1 : j < rr.length) (h2 : j < xs.length), realOk W rr[j] xs[j]) ∧ Aside0 (Kd.R k71 71 wr x9.heap.size (fun _ => True) v11 xs) ∧ Aside0 (Below x9.heap.size x9 wr))
  case atStart => exact ⟨0, [], by omega, rfl, rfl, ⟨fun j h1 h2 => absurd h2 (by simp)⟩, hR0, ⟨Below.refl _ _⟩⟩
  case round =>
    clear hR0 u0 u1 u2 u3 u4 u5 u6
    obtain ⟨k, xs, hk, rfl, hxk, HG, HR, HB⟩ := hrel
    have hr40 : rr.length ≤ 40 := by have := HLT.out; omega
    have HK0 := Aside0.mk hk
    have HXK := Aside0.mk hxk
    by_cases hlt : k < rr.length
    · obtain ⟨r, hr⟩ : ∃ r, r = rr[k] := ⟨_, rfl⟩
      have hmem : r ∈ rr := by rw [hr]; exact List.getElem_mem _
      have hri := HIN.out r hmem
      obtain ⟨v1, v2, hok, p1, p2⟩ := H25.out r k hmem (by omega)
      obtain ⟨ra, eA, c0⟩ := at3 HF14.out.k.1 k hlt
      obtain ⟨ba, eB, q0, q1, q2⟩ := at_T62 (Kd.C_below HR2.out HF14.out.b) r hri.1 hri.2
      subst eA eB
      rw [← hr] at c0
      obtain ⟨u0, u1, u2, u3, u4, u5, u6⟩ := HF14.out.cells
      have HS0 := Aside0.mk (show x9.cell? ⟨w.heap.size + 1, 0, none⟩ = some (.slice (some ba) cr.length d) ∧ x9.cell? ⟨w.heap.size + 1, 2, none⟩ = some (.int .i64 dl) ∧ x9.cell? (ra.add k) = some (.int .i64 r) ∧ x9.cell? (ba.add (r.toNat * 3)) = some (.int .i64 (rd_T62 cr r).f0.f0) ∧ x9.cell? ⟨(ba.add (r.toNat * 3)).block, (ba.add (r.toNat * 3)).off + 1, none⟩ = some (.int .i64 (rd_T62 cr r).f0.f1) ∧ x9.cell? ⟨(ba.add (r.toNat * 3)).block, (ba.add (r.toNat * 3)).off + 2, none⟩ = some (.int .i64 (rd_T62 cr r).f1) from ⟨u4, u6, c0, q0, q1, q2⟩)
      have HS := Aside0.mk (S6 HB.out HS0.out)
      have P1 := Aside0.mk p1
      have P2 := Aside0.mk p2
      have HGN : Aside0 (∀ (j : Nat) (h1 : j < rr.length) (h2 : j < (xs ++ [(⟨v1, v2⟩ : S71)]).length), realOk W rr[j] ((xs ++ [(⟨v1, v2⟩ : S71)])[j]'h2)) := ⟨fun j h1 h2 => by
        by_cases hj : j < xs.length
        · rw [List.getElem_append_left hj]; exact HG.out j h1 hj
        · have hj2 : j = k := by simp at h2; omega
          subst hj2
          rw [List.getElem_append_right (by omega)]
          simp only [← hr]
          simpa [hxk] using hok⟩
      have hx40 : xs.length ≤ 40 := by omega
      have hx16 : (xs.length + 1) * 16 ≤ 140737488355328 := by omega
      have hgk : Aside0 (gk - 1 < gk ∧ k + 1 + (gk - 1) = rr.length) := ⟨by omega, by omega⟩
      have HRD := Aside0.mk hr
      have HBW := Aside0.mk (HF14.out.b.trans (HB.out.mono HF14.out.b.size))
      clear u0 u1 u2 u3 u4 u5 u6 c0 q0 q1 q2 p1 p2 hok hr hmem hk hxk
      obtain ⟨u4, u6, c0, q0, q1, q2⟩ := HS.out
      obtain ⟨clo, hclo⟩ : ∃ v, v = (rd_T62 cr r).f0.f0 := ⟨_, rfl⟩
      obtain ⟨chi, hchi⟩ : ∃ v, v = (rd_T62 cr r).f0.f1 := ⟨_, rfl⟩
      obtain ⟨crest, hcrest⟩ : ∃ v, v = (rd_T62 cr r).f1 := ⟨_, rfl⟩
      rw [← hclo] at q0 P1 HS0 HS; rw [← hchi] at q1 P1 HS0 HS; rw [← hcrest] at q2 HS0 HS
      obtain ⟨hr0, hr1⟩ := hri
      clear hclo hchi hcrest
      go_wp2_with fail
      go_region_held3 (fun Y : World => Y.cell? ⟨w.heap.size + 1, 0, none⟩ = some (.slice (some ba) cr.length d) ∧ Y.cell? ⟨w.heap.size + 1, 2, none⟩ = some (.int .i64 dl) ∧ Y.cell? (ra.add k) = some (.int .i64 r) ∧ Y.cell? (ba.add (r.toNat * 3)) = some (.int .i64 clo) ∧ Y.cell? ⟨(ba.add (r.toNat * 3)).block, (ba.add (r.toNat * 3)).off + 1, none⟩ = some (.int .i64 chi) ∧ Y.cell? ⟨(ba.add (r.toNat * 3)).block, (ba.add (r.toNat * 3)).off + 2, none⟩ = some (.int .i64 crest)) (first | (with_reducible exact S6 (by (repeat (first | apply below_drew | apply below_alloc)); exact Below.refl _ _) HS.out)) (first | fail)
      have HY1 : Aside0 (Below wr.heap.size wr ((wr.alloc (.cells #[.int .i64 clo, .int .i64 chi, .int .i64 crest] 62)).drew) ∧ ((wr.alloc (.cells #[.int .i64 clo, .int .i64 chi, .int .i64 crest] 62)).drew).heap[wr.heap.size]? = some (.cells #[.int .i64 clo, .int .i64 chi, .int .i64 crest] 62 (0, 0))) := ⟨below_drew (below_alloc (Below.refl _ _) _), blk_drew (blk_new wr _)⟩
      go_wp2_with fail
      obtain ⟨cb, hcb⟩ : ∃ b, b = wr.heap.size := ⟨_, rfl⟩
      have HBL : Aside0 (Below wr.heap.size wr ((wr.alloc (.cells #[.int .i64 clo, .int .i64 chi, .int .i64 crest] 62)).drew)) := ⟨HY1.out.1⟩
      generalize hy : (wr.alloc (.cells #[.int .i64 clo, .int .i64 chi, .int .i64 crest] 62)).drew = y1 at HY1 HBL ⊢
      rw [← hcb] at HY1 ⊢
      have HBY := Aside0.mk (HB.out.trans (HBL.out.mono HB.out.size))
      have HRY := Aside0.mk (Kd.R_below HR.out HBL.out)
      have HBWY := Aside0.mk (HF14.out.b.trans (HBY.out.mono HF14.out.b.size))
      have HCB := Aside0.mk HY1.out.2
      have HS1 := Aside0.mk (S6 HBY.out HS0.out)
      clear hy hcb u4 u6 c0 q0 q1 q2
      obtain ⟨u4, u6, c0, q0, q1, q2⟩ := HS1.out
      have b0 : y1.cell? ⟨cb, 0, none⟩ = some (.int .i64 clo) := (blk_cell HCB.out 0).trans rfl
      have b1 : y1.cell? ⟨cb, 1, none⟩ = some (.int .i64 chi) := (blk_cell HCB.out 1).trans rfl
      have hw2 : IntKind.i64.wrap (2 * (k : Int)) = 2 * (k : Int) := by rw [i64_w, win _ (by omega)]
      have hw3 : IntKind.i64.wrap (2 * (k : Int) + 1) = 2 * (k : Int) + 1 := by rw [i64_w, win _ (by omega)]
      have HK : Aside0 (∀ X, Below y1.heap.size y1 X → X.cell? ⟨cb, 0, none⟩ = some (.int .i64 clo) ∧ X.cell? ⟨cb, 1, none⟩ = some (.int .i64 chi) ∧ X.cell? ⟨w.heap.size + 1, 2, none⟩ = some (.int .i64 dl)) := ⟨fun X hX => X3S (blk_below HCB.out hX) (pw_cell_below hX HS1.out.2.1)⟩
      have HB0 := Aside0.mk (below_drew (Below.refl y1.heap.size y1))
      have HB0W := Aside0.mk (below_drew HBWY.out)
      have HBnW := Aside0.mk (fun n => pw_below_drewN HBWY.out n)
      have HBn := Aside0.mk (fun n => pw_below_drewN (Below.refl y1.heap.size y1) n)
      have HBa := Aside0.mk (fun n o => below_alloc (pw_below_drewN (Below.refl y1.heap.size y1) n) o)
      go_region_held3 (fun Y : World => Y.cell? ⟨cb, 0, none⟩ = some (.int .i64 clo) ∧ Y.cell? ⟨cb, 1, none⟩ = some (.int .i64 chi) ∧ Y.cell? ⟨w.heap.size + 1, 2, none⟩ = some (.int .i64 dl)) (first | (with_reducible exact HK.out _ HB0.out) | (with_reducible exact HK.out _ (HBn.out _)) | (with_reducible exact HK.out _ (HBa.out _ _)) | (with_reducible exact X3S HCW.out (pw_cell_below HBw1.out HS0.out.2.1))) (first
        | (go_at_call 25; (with_reducible refine (P1.out _ HB0W.out).mono ?_); rintro e z1 ⟨rfl, ⟨nd1, rfl⟩⟩)
        | (go_at_call 25; (with_reducible refine (P2.out _ (HBnW.out _)).mono ?_); rintro e z2 ⟨rfl, ⟨nd2, rfl⟩⟩)
        | (refine Kd.R_append_step k71 (w0 := x9) x9.heap.size (by rfl) (.tmp 69) (.tmp 88) 68 71 (.agg #[(.int .i64 0), (.int .i64 0)]) 16 rfl Try.underlying68 info71 rfl (by decide) (by decide) u11 xs (⟨v1, v2⟩ : S71) [.int .i64 v1, .int .i64 v2] (fun _ => True) (fun _ => False) rfl rfl (k71_mkM _ _ _ ⟨v1, v2⟩) (fun _ hk => hk.elim) (fun _ _ => trivial) (Kd.R_drewN HRY.out _) (pw_below_drewN HBY.out _) (pw_below_drewN HBY.out _).size hx16 ?_; intro v11' w1 hR1 hBw1 hgr _; have HRv := Aside0.mk hR1; have HBw1 := Aside0.mk hBw1; have HCW := Aside0.mk (blk_grown (blk_drewN HCB.out _) hgr (Kd.R_ne HRY.out HCB.out (by decide))); clear hR1 hBw1 hgr))
      go_wp2_with fail
      go_roundg (gk - 1)
      case measure => exact hgk.out.1
      case rel => exact ⟨k + 1, _, hgk.out.2, by go_num, by simp [HXK.out], HGN, HRv, HBw1⟩
    · have hxl : Aside0 (xs.length = rr.length) := ⟨by omega⟩
      obtain ⟨Ax, kx, eX⟩ := Kd.R_slice HR.out
      subst eX
      obtain ⟨_, hkx, hCx⟩ := Kd.R_reads' HR.out
      have HF20 := Aside0.mk (HF14.out.below HB.out)
      have HK20 := Aside0.mk hkx
      have HX20 := Aside0.mk hCx
      have hnlt : ¬ ((k : Int) < (rr.length : Int)) := by omega
      have HD26 := Aside0.mk (H26.out xs hxl.out HG.out)
      have HGX := Aside0.mk HG.out
      have hgk0 : Aside0 (k = rr.length) := ⟨by omega⟩
      clear HR HB HG hkx hCx hk hxk hlt H25 H26 HK0 HXK
      obtain ⟨u0, u1, u2, u3, u4, u5, u6⟩ := HF20.out.cells
      go_wp2_with fail
      have HF21 := Aside0.mk HF20.out.drew

      have HX21 := Aside0.mk (Kd.C_drew HX20.out)
      go_region_held3 (fun Y : World => Y.cell? ⟨w.heap.size, 0, none⟩ = some (.int .i64 L) ∧ Y.cell? ⟨w.heap.size, 1, none⟩ = some (.slice A l.length c) ∧ Y.cell? ⟨w.heap.size, 2, none⟩ = some (.int .i64 lo) ∧ Y.cell? ⟨w.heap.size, 3, none⟩ = some (.int .i64 sh) ∧ Y.cell? ⟨w.heap.size + 1, 0, none⟩ = some (.slice B cr.length d) ∧ Y.cell? ⟨w.heap.size + 1, 1, none⟩ = some (.int .i64 due) ∧ Y.cell? ⟨w.heap.size + 1, 2, none⟩ = some (.int .i64 dl)) (first | (with_reducible exact HF21.out.cells) | (with_reducible exact HF22.out.cells) | (with_reducible exact HF23.out.cells) | (with_reducible exact HF24.out.cells) | (with_reducible exact HF25.out.cells)) (first
        | (go_at_call 13; refine (H13.out _ HF21.out.b).mono ?_; rintro e x22 ⟨A22, k22, rfl, HA22, HK22, hb⟩; have HF22 := Aside0.mk (HF21.out.below hb); have HX22 := Aside0.mk (Kd.C_below HX21.out hb); clear hb)
        | (go_at_call 18; refine (H18.out _ HF22.out.b).mono ?_; rintro e x23 ⟨A23, k23, rfl, HA23, HK23, hb⟩; have HF23 := Aside0.mk (HF22.out.below hb); have HX23 := Aside0.mk (Kd.C_below HX22.out hb); have HB22 := Aside0.mk (Kd.C_below HA22.out hb); clear hb)
        | (go_at_call 21; refine (H21.out _ _ _ HF23.out.k.1 HK3.out).mono ?_; rintro e x24 ⟨A24, k24, rfl, HA24, HK24, hb⟩; have HF24 := Aside0.mk (HF23.out.below hb); have HX24 := Aside0.mk (Kd.C_below HX23.out hb); have HC22 := Aside0.mk (Kd.C_below HB22.out hb); have HC23 := Aside0.mk (Kd.C_below HA23.out hb); clear hb)
        | (go_at_call 26; refine (HD26.out _ _ _ _ _ _ _ _ _ HC22.out HK22.out HC23.out HK23.out HA24.out HK24.out HX24.out HK20.out).mono ?_; rintro e x25 ⟨Ad, kd, rfl, HAd, hb⟩; have HF25 := Aside0.mk ((HF24.out.below hb).add (fun X => (Kd.C (Kd.int .i64) X A3 rr.length rr ∧ Kd.C k35 X A8 T.length T) ∧ Kd.C (Kd.int .i64) X Ad rr.length (doneFrom W 0 xs)) ⟨(HF24.out.below hb).k, HAd.out⟩); clear hb))
      clear HX21 HX22 HX23 HX24 HF20 HF21 HF22 HF23 HF24 HA22 HK22 HB22 HC22 HA23 HK23 HC23 HA24 HK24 HAd HK20 HX20 HD26 u0 u1 u2 u3 u4 u5 u6
      have hne : ((rr.length : Int) != (rr.length : Int)) = false := by simp
      go_wp2_with fail
      go_loopg [16] rr.length (fun gk v16 wr => ∃ i : Nat, i + gk = rr.length ∧ v16 = .int .i64 i ∧ Aside0 (Fa w #[.int .i64 L, .slice A l.length c, .int .i64 lo, .int .i64 sh] #[.slice B cr.length d, .int .i64 due, .int .i64 dl] (fun X => (Kd.C (Kd.int .i64) X A3 rr.length rr ∧ Kd.C k35 X A8 T.length T) ∧ Kd.C (Kd.int .i64) X Ad rr.length (doneFrom W 0 xs)) wr))
      case atStart => exact ⟨0, by omega, rfl, HF25⟩
      case round =>
        clear HF25
        obtain ⟨i, hi, rfl, HG1⟩ := hrel
        have HI0 := Aside0.mk hi
        by_cases hlt : i < rr.length
        · have hr40 : rr.length ≤ 40 := by have := HLT.out; omega
          have hiT : (i : Int) < (T.length : Int) := by have := HLT.out; omega
          have hxi : i < xs.length := by have := hxl.out; omega
          obtain ⟨a1, a2, a3, a4⟩ := HANY.out i hlt xs[i] (HGX.out i hlt hxi)
          obtain ⟨da, eA, d0⟩ := at3 HG1.out.k.2 i (by rw [doneFrom_length]; exact hxi)
          obtain ⟨ta, eT, m0, m1⟩ := at_T35 HG1.out.k.1.2 (i : Int) (by omega) hiT
          have hdv : (doneFrom W 0 xs)[i]'(by rw [doneFrom_length]; exact hxi) = doneP (rd_T35 T i) xs[i].f0 xs[i].f1 := by
            rw [doneFrom_get W xs 0 i hxi, HTW.out, show (0 : Int) + (i : Int) = i by omega]
          rw [hdv] at d0
          have ht := HTB.out (i : Int) (by omega) hiT
          have hdue := HDU.out
          obtain ⟨dv, hdv2⟩ : ∃ v, v = doneP (rd_T35 T i) xs[i].f0 xs[i].f1 := ⟨_, rfl⟩
          obtain ⟨t1, ht1⟩ : ∃ v, v = (rd_T35 T i).f1 := ⟨_, rfl⟩
          rw [← hdv2] at d0 a1 a2 a3 a4
          have HDV : Aside0 ((doneFrom W 0 xs)[i]'(by rw [doneFrom_length]; exact hxi) = dv) := ⟨by rw [hdv, hdv2]⟩
          rw [← ht1] at m1 a1 a2 ht
          rw [Int.toNat_natCast] at m1
          have HA4 := Aside0.mk a4
          have hgk : Aside0 (gk - 1 < gk ∧ i + 1 + (gk - 1) = rr.length) := ⟨by omega, by omega⟩
          subst eA eT
          obtain ⟨u0, u1, u2, u3, u4, u5, u6⟩ := HG1.out.cells
          have HS := Aside0.mk (show wr.cell? (da.add i) = some (.int .i64 dv) ∧ wr.cell? ⟨(ta.add (i * 2)).block, (ta.add (i * 2)).off + 1, none⟩ = some (.int .i64 t1) ∧ wr.cell? ⟨w.heap.size + 1, 1, none⟩ = some (.int .i64 due) from ⟨d0, m1, u5⟩)
          have b1 : decide (dv < t1) = false := decide_eq_false (by omega)
          have b2 : decide (t1 + due < dv) = false := decide_eq_false (by omega)
          have hdv0 : 0 ≤ dv := by omega
          have hw1 := i64_win (t1 + due) (by omega)
          clear hi hdv hdv2 ht1 a1 a2 a4 ht m0 u0 u1 u2 u3 u4 u6 hdue
          go_wp2_with fail
          go_region_held3 (fun Y : World => Y.cell? (da.add i) = some (.int .i64 dv) ∧ Y.cell? ⟨(ta.add (i * 2)).block, (ta.add (i * 2)).off + 1, none⟩ = some (.int .i64 t1) ∧ Y.cell? ⟨w.heap.size + 1, 1, none⟩ = some (.int .i64 due)) (first | (with_reducible exact S3 (below_drew (Below.refl _ _)) HS.out)) (first | fail)
          clear hw1 b1 b2 HS d0 m1 u5
          have HG2 := Aside0.mk HG1.out.drew
          clear HG1
          go_wp2_with fail
          obtain ⟨g1, rfl⟩ : ∃ g, g = gk := ⟨_, rfl⟩
          obtain ⟨wo, hwo⟩ : ∃ wo : World, wo = wr.drew := ⟨_, rfl⟩
          rw [← hwo] at HG2 ⊢
          clear hwo
          go_loopg [17] (rr.length - (i + 1)) (fun gk2 v17 wr => ∃ k : Nat, k + gk2 = rr.length ∧ i < k ∧ v17 = .int .i64 k ∧ Aside0 (Fa w #[.int .i64 L, .slice A l.length c, .int .i64 lo, .int .i64 sh] #[.slice B cr.length d, .int .i64 due, .int .i64 dl] (fun X => (Kd.C (Kd.int .i64) X A3 rr.length rr ∧ Kd.C k35 X (some ta) T.length T) ∧ Kd.C (Kd.int .i64) X (some da) rr.length (doneFrom W 0 xs)) wr))
          case atStart => exact ⟨i + 1, by omega, by omega, by go_num, HG2⟩
          case round =>
            clear HG2
            obtain ⟨k, hk, hik, rfl, HG1⟩ := hrel
            by_cases hlk : k < rr.length
            · have hkT : (k : Int) < (T.length : Int) := by have := HLT.out; omega
              obtain ⟨ra, eR, c0⟩ := at3 HG1.out.k.1.1 i hlt
              obtain ⟨ra', eR', c1⟩ := at3 HG1.out.k.1.1 k hlk
              obtain rfl : ra = ra' := Option.some.inj (eR.symm.trans eR')
              have hri := HIN.out rr[i] (List.getElem_mem _)
              obtain ⟨ba, eB, q0, q1, q2⟩ := at_T62 (Kd.C_below HR2.out HG1.out.b) rr[i] hri.1 hri.2
              obtain ⟨ta', eT', m0, m1⟩ := at_T35 HG1.out.k.1.2 (k : Int) (by omega) hkT
              obtain rfl : ta = ta' := Option.some.inj eT'
              obtain ⟨da', eD', d0⟩ := at3 HG1.out.k.2 i (by rw [doneFrom_length, hxl.out]; exact hlt)
              obtain rfl : da = da' := Option.some.inj eD'
              have hdv : (doneFrom W 0 xs)[i]'(by rw [doneFrom_length, hxl.out]; exact hlt) = dv := HDV.out
              rw [hdv] at d0
              have hrest : 0 ≤ (rd_T62 cr rr[i]).f1 ∧ (rd_T62 cr rr[i]).f1 ≤ 36000 ∧ (rd_T99 O rr[i]).f1 = (rd_T62 cr rr[i]).f1 := HCR.out rr[i] (List.getElem_mem _)
              have hcl := HA4.out k hlk hik
              rw [hrest.2.2] at hcl
              have hgk2 : Aside0 (gk - 1 < gk ∧ k + 1 + (gk - 1) = rr.length) := ⟨by omega, by omega⟩
              obtain ⟨ri, hri2⟩ : ∃ v, v = rr[i] := ⟨_, rfl⟩
              obtain ⟨rk, hrk2⟩ : ∃ v, v = rr[k] := ⟨_, rfl⟩
              rw [← hri2] at c0 hri q2 hrest hcl
              rw [← hrk2] at c1 hcl
              obtain ⟨rest, hre2⟩ : ∃ v, v = (rd_T62 cr ri).f1 := ⟨_, rfl⟩
              obtain ⟨t0, ht02⟩ : ∃ v, v = (rd_T35 T k).f0 := ⟨_, rfl⟩
              rw [← hre2] at q2 hrest hcl
              rw [← ht02] at m0 hcl
              rw [Int.toNat_natCast] at m0
              obtain ⟨u0, u1, u2, u3, u4, u5, u6⟩ := HG1.out.cells
              obtain ⟨hr1, hr2⟩ := hrest
              have hr3 := hr2.1
              have HS := Aside0.mk (show wr.cell? (ra.add i) = some (.int .i64 ri) ∧ wr.cell? (ra.add k) = some (.int .i64 rk) ∧ wr.cell? (da.add i) = some (.int .i64 dv) ∧ wr.cell? ⟨w.heap.size + 1, 0, none⟩ = some (.slice B cr.length d) ∧ wr.cell? ⟨(ba.add (ri.toNat * 3)).block, (ba.add (ri.toNat * 3)).off + 2, none⟩ = some (.int .i64 rest) ∧ wr.cell? (ta.add (k * 2)) = some (.int .i64 t0) from ⟨c0, c1, d0, u4, q2, m0⟩)
              have HCL := Aside0.mk hcl
              have hw1 := i64_win (dv + rest) (by omega)
              obtain ⟨hri0, hri1⟩ := hri
              clear hk hri2 hrk2 hre2 ht02 q0 q1 m1 u0 u1 u2 u3 u5 u6 hdv eR' eT' eD' hcl hr2
              subst eR eB
              by_cases heq : rk = ri
              · have b1 : decide (t0 < dv + rest) = false := decide_eq_false (by have := HCL.out heq; omega)
                subst heq
                go_wp2_with fail
                go_region_held3 (fun Y : World => Y.cell? (ra.add i) = some (.int .i64 rk) ∧ Y.cell? (ra.add k) = some (.int .i64 rk) ∧ Y.cell? (da.add i) = some (.int .i64 dv) ∧ Y.cell? ⟨w.heap.size + 1, 0, none⟩ = some (.slice (some ba) cr.length d) ∧ Y.cell? ⟨(ba.add (rk.toNat * 3)).block, (ba.add (rk.toNat * 3)).off + 2, none⟩ = some (.int .i64 rest) ∧ Y.cell? (ta.add (k * 2)) = some (.int .i64 t0)) (first | (with_reducible exact S6 (below_drew (Below.refl _ _)) HS.out)) (first | fail)
                clear hw1 b1 HS c0 c1 d0 u4 q2 m0
                have HG2 := Aside0.mk HG1.out.drew
                go_wp2_with fail
                go_roundg (gk - 1)
                case measure => exact hgk2.out.1
                case rel => exact ⟨k + 1, hgk2.out.2, by omega, by go_num, HG2⟩
              · have b1 : (rk == ri) = false := by simpa using heq
                have HNE := Aside0.mk heq
                clear heq
                go_wp2_with fail
                have HG2 := Aside0.mk (fun n => HG1.out.below (pw_below_drewN (Below.refl wr.heap.size wr) n))
                go_quiet (fail)
                clear hw1 b1 HS c0 c1 d0 u4 q2 m0
                go_wp2_with fail
                go_roundg (gk - 1)
                case measure => exact hgk2.out.1
                case rel => exact ⟨k + 1, hgk2.out.2, by omega, by go_num, ⟨HG2.out _⟩⟩
            · clear hk
              go_wp2_with fail
              go_roundg (g1 - 1)
              case measure => exact hgk.out.1
              case rel => exact ⟨i + 1, hgk.out.2, by go_num, HG1⟩
        · clear hi
          obtain ⟨u0, u1, u2, u3, u4, u5, u6⟩ := HG1.out.cells
          have HF30 := Aside0.mk HG1.out.drew
          go_wp2_with fail

          go_region_held3 (fun Y : World => Y.cell? ⟨w.heap.size, 0, none⟩ = some (.int .i64 L) ∧ Y.cell? ⟨w.heap.size, 1, none⟩ = some (.slice A l.length c) ∧ Y.cell? ⟨w.heap.size, 2, none⟩ = some (.int .i64 lo) ∧ Y.cell? ⟨w.heap.size, 3, none⟩ = some (.int .i64 sh) ∧ Y.cell? ⟨w.heap.size + 1, 0, none⟩ = some (.slice B cr.length d) ∧ Y.cell? ⟨w.heap.size + 1, 1, none⟩ = some (.int .i64 due) ∧ Y.cell? ⟨w.heap.size + 1, 2, none⟩ = some (.int .i64 dl)) (first | (with_reducible exact HF30.out.cells) | (with_reducible exact HF32.out.cells) | (with_reducible exact HF33.out.cells) | (with_reducible exact HF34.out.cells) | (with_reducible exact HF35.out.cells) | (with_reducible exact HF36.out.cells)) (first
            | (go_at_call 13; refine (H13.out _ HF30.out.b).mono ?_; rintro e x32 ⟨A32, k32, rfl, HA32, HK32, hb⟩; have HF32 := Aside0.mk (HF30.out.below hb); clear hb)
            | (go_at_call 18; refine (H18.out _ HF32.out.b).mono ?_; rintro e x33 ⟨A33, k33, rfl, HA33, HK33, hb⟩; have HF33 := Aside0.mk (HF32.out.below hb); have HB32 := Aside0.mk (Kd.C_below HA32.out hb); clear hb)
            | (go_at_call 21; refine (H21.out _ _ _ HF33.out.k.1.1 HK3.out).mono ?_; rintro e x34 ⟨A34, k34, rfl, HA34, HK34, hb⟩; have HF34 := Aside0.mk (HF33.out.below hb); have HC32 := Aside0.mk (Kd.C_below HB32.out hb); have HC33 := Aside0.mk (Kd.C_below HA33.out hb); clear hb)
            | (go_at_call 20; refine (H20.out _ _ _ _ _ HC32.out HK32.out HC33.out HK33.out _ _ HA34.out HK34.out).mono ?_; rintro e x35 ⟨rfl, hb⟩; have HF35 := Aside0.mk (HF34.out.below hb); clear hb)
            | (go_at_call 11; refine (c11 _).mono ?_; rintro e x36 ⟨rfl, hb⟩; have HF36 := Aside0.mk (HF35.out.below hb); clear hb))
          go_wp2_with fail
          go_ret
          exact ⟨rfl, HF36.out.b⟩
theorem any_true (w : World) (L lo sh due dl : Int) (A B D : Option Addr) (c d m : Nat) (l : List S41) (cr : List S62) (ws : List Int) (h1 : Kd.C k41 w A l.length l) (h1c : l.length ≤ c) (h2 : Kd.C k62 w B cr.length cr) (h2c : cr.length ≤ d) (h3 : Kd.C (Kd.int .u16) w D ws.length ws) (h3c : ws.length ≤ m) (hws : ∀ x ∈ ws, 0 ≤ x ∧ x ≤ 65535) :
    Calls Try.prog 7 #[.agg #[.int .i64 L, .slice A l.length c, .int .i64 lo, .int .i64 sh], .agg #[.slice B cr.length d, .int .i64 due, .int .i64 dl], .slice D ws.length m] w fun e w' => e = .returned (.bool true) ∧ Below w.heap.size w w' := by
  cases hr : readyP L l lo sh cr due dl with
  | false => exact any_idle w L lo sh due dl A B D c d m l cr ws h1 h1c h2 h2c h3 h3c hws hr
  | true =>
    by_cases hre : reachP (wkOf L (l.map to35) lo sh (cr.map to99) due dl) (-1) [] < (wkOf L (l.map to35) lo sh (cr.map to99) due dl).T.length
    · exact any_none w L lo sh due dl A B D c d m l cr ws h1 h1c h2 h2c h3 h3c hws hr hre
    · exact any_rota w L lo sh due dl A B D c d m l cr ws h1 h1c h2 h2c h3 h3c hws hr hre
end Go.Proofs.Ytillieimgjdpbaa.Pr
