/- TakeRelieved, walked: whatever comes in, it returns true. -/
import Derived.Test.YtillieimgjdpbaaRIo
import Derived.RegionTactic
import Derived.Outline
namespace Go.Proofs.Ytillieimgjdpbaa.Pr
open Go.RowKit Go.Proofs.YtillieimgjdpbaaW.PrintWords Go.Proofs.YtillieimgjdpbaaW.PrintLast Go.Proofs.YtillieimgjdpbaaW.PrintMore
set_option linter.unusedVariables false
set_option linter.unusedSimpArgs false
/-- An office that is no harder. -/
structure Easier (W V : Wk) : Prop where
  t : V.T = W.T
  due : W.due ≤ V.due
  dl : V.dl ≤ W.dl
  c : W.C.length ≤ V.C.length
  r : ∀ r : Int, 0 ≤ r → r < W.C.length → (rd_T99 V.C r).f0.f1 ≤ (rd_T99 W.C r).f0.f1 ∧ (rd_T99 V.C r).f1 ≤ (rd_T99 W.C r).f1
theorem Easier.worst {W V : Wk} (h : Easier W V) (hn : W.Ok) {k r : Int} (k0 : 0 ≤ k) (k1 : k < W.T.length) (r0 : 0 ≤ r) (r1 : r < W.C.length) : worstP V k r ≤ worstP W k r := by
  have ht := hn.tk' k k0 k1
  have hr := (h.r r r0 r1).1
  have hd := h.dl
  unfold worstP doneP
  rw [h.t]
  have : ((rd_T35 W.T k).f1 - (rd_T35 W.T k).f0) * (rd_T99 V.C r).f0.f1 ≤ ((rd_T35 W.T k).f1 - (rd_T35 W.T k).f0) * (rd_T99 W.C r).f0.f1 := Int.mul_le_mul_of_nonneg_left hr (by omega)
  omega
theorem Easier.may {W V : Wk} (h : Easier W V) (hn : W.Ok) {s : Sx} {r : Int} (k0 : 0 ≤ s.k) (k1 : s.k < W.T.length) (r0 : 0 ≤ r) (r1 : r < W.C.length) (g0 : -1 ≤ s.get r) (g1 : s.get r < s.k) (hm : mayP W s r = true) : mayP V s r = true := by
  simp only [mayP, Bool.and_eq_true, Bool.or_eq_true, Bool.not_eq_true', decide_eq_true_eq, decide_eq_false_iff_not] at hm ⊢
  have hw := h.worst hn k0 k1 r0 r1
  have hd := h.due
  have hr := (h.r r r0 r1).2
  rw [h.t]
  refine ⟨by omega, ?_⟩
  by_cases hl : s.get r = -1
  · exact .inl hl
  · have hw2 := h.worst hn (by omega : 0 ≤ s.get r) (by omega) r0 r1
    rcases hm.2 with h3 | h3
    · exact .inl h3
    · exact .inr (by omega)
theorem Easier.right {W V : Wk} (h : Easier W V) (hn : W.Ok) (nt : Int) : ∀ (c : List Int) (s : Sx), s.Fine → s.k + c.length ≤ W.T.length → rightN W nt s c → rightN V nt s c
  | [], _, _, _, _ => trivial
  | r :: t, s, hf, hk, ⟨h0, h1, h2, h3, h4⟩ => by
    rw [List.length_cons] at hk
    have hc1 := hn.c1
    have hg := hf.h r h0 (by omega)
    have hcc := h.c
    exact ⟨h0, by omega, h2, h.may hn hf.k0 (by omega) h0 h1 hg.1 hg.2 h3, h.right hn nt t _ (hf.given r h0 (by omega)) (by rw [givenP_k]; omega) h4⟩
theorem rd99_62 (l : List S62) (r : Nat) (h : r < l.length) : rd_T99 (l.map to99) (r : Int) = to99 (rd_T62 l r) := by
  unfold rd_T99 rd_T62
  rw [Int.toNat_natCast, List.getD_eq_getElem?_getD, List.getD_eq_getElem?_getD, List.getElem?_map, List.getElem?_eq_getElem h]; rfl
end Go.Proofs.Ytillieimgjdpbaa.Pr
namespace Go.Proofs.Ytillieimgjdpbaa.Pr
open Go.RowKit Go.Proofs.YtillieimgjdpbaaW.PrintWords Go.Proofs.YtillieimgjdpbaaW.PrintLast Go.Proofs.YtillieimgjdpbaaW.PrintMore
set_option linter.unusedVariables false
set_option linter.unusedSimpArgs false
set_option maxRecDepth 100000 in
set_option maxHeartbeats 4000000 in
theorem rel_idle (w : World) (L lo sh due dl : Int) (A B : Option Addr) (c d : Nat) (l : List S41) (cr : List S62) (who word : Int) (h1 : Kd.C k41 w A l.length l) (h1c : l.length ≤ c) (h2 : Kd.C k62 w B cr.length cr) (h2c : cr.length ≤ d) (hwho : 0 ≤ who ∧ who ≤ 255) (hword : 0 ≤ word ∧ word ≤ 65535) (hr : readyP L l lo sh cr due dl = false) :
    Calls Try.prog 8 #[.agg #[.int .i64 L, .slice A l.length c, .int .i64 lo, .int .i64 sh], .agg #[.slice B cr.length d, .int .i64 due, .int .i64 dl], .int .u8 who, .int .u16 word] w fun e w' => e = .returned (.bool true) ∧ Below w.heap.size w w' := by
  have HR1 := Aside0.mk h1
  have HR2 := Aside0.mk h2
  have H16 : Aside0 (∀ X, Below w.heap.size w X → Calls Try.prog 16 #[.agg #[.int .i64 L, .slice A l.length c, .int .i64 lo, .int .i64 sh], .agg #[.slice B cr.length d, .int .i64 due, .int .i64 dl]] X fun e w' => e = .returned (.bool false) ∧ Below X.heap.size X w') := ⟨fun X hX => by have := c16 (Kd.C_below HR1.out hX) h1c (Kd.C_below HR2.out hX) h2c L lo sh due dl; rwa [hr] at this⟩
  have HF := Aside0.mk (Fa.start w #[.int .i64 L, .slice A l.length c, .int .i64 lo, .int .i64 sh] #[.slice B cr.length d, .int .i64 due, .int .i64 dl])
  obtain ⟨u0, u1, u2, u3, u4, u5, u6⟩ := HF.out.cells
  clear h1 h2 hr
  go_enter Try.func8, Try.ntmps8
  go_wp2_with (first | (go_at_call 16; refine (H16.out _ HF.out.b).mono ?_; rintro e w1 ⟨rfl, hb⟩; have HF1 := Aside0.mk (HF.out.below hb); clear hb) | (go_at_call 11; refine (c11 _).mono ?_; rintro e w2 ⟨rfl, hb⟩))
  go_ret
  exact ⟨rfl, (HF1.out.below hb).b⟩
set_option maxRecDepth 100000 in
set_option maxHeartbeats 4000000 in
theorem rel_none (w : World) (L lo sh due dl : Int) (A B : Option Addr) (c d : Nat) (l : List S41) (cr : List S62) (who word : Int) (h1 : Kd.C k41 w A l.length l) (h1c : l.length ≤ c) (h2 : Kd.C k62 w B cr.length cr) (h2c : cr.length ≤ d) (hwho : 0 ≤ who ∧ who ≤ 255) (hword : 0 ≤ word ∧ word ≤ 65535) (hr : readyP L l lo sh cr due dl = true) (hre : reachP (wkOf L (l.map to35) lo sh (cr.map to99) due dl) (-1) [] < (wkOf L (l.map to35) lo sh (cr.map to99) due dl).T.length) :
    Calls Try.prog 8 #[.agg #[.int .i64 L, .slice A l.length c, .int .i64 lo, .int .i64 sh], .agg #[.slice B cr.length d, .int .i64 due, .int .i64 dl], .int .u8 who, .int .u16 word] w fun e w' => e = .returned (.bool true) ∧ Below w.heap.size w w' := by
  obtain ⟨hl60, hc8, he⟩ := ready_parts hr
  have HR1 := Aside0.mk h1
  have HR2 := Aside0.mk h2
  have H16 : Aside0 (∀ X, Below w.heap.size w X → Calls Try.prog 16 #[.agg #[.int .i64 L, .slice A l.length c, .int .i64 lo, .int .i64 sh], .agg #[.slice B cr.length d, .int .i64 due, .int .i64 dl]] X fun e w' => e = .returned (.bool true) ∧ Below X.heap.size X w') := ⟨fun X hX => by have := c16 (Kd.C_below HR1.out hX) h1c (Kd.C_below HR2.out hX) h2c L lo sh due dl; rwa [hr] at this⟩
  have HF := Aside0.mk (Fa.start w #[.int .i64 L, .slice A l.length c, .int .i64 lo, .int .i64 sh] #[.slice B cr.length d, .int .i64 due, .int .i64 dl])
  obtain ⟨u0, u1, u2, u3, u4, u5, u6⟩ := HF.out.cells
  obtain ⟨P, hP⟩ : ∃ P, P = l.map to35 := ⟨_, rfl⟩
  obtain ⟨O, hO⟩ : ∃ O, O = cr.map to99 := ⟨_, rfl⟩
  rw [← hP, ← hO] at he hre
  have hn := wk_ok he
  have H13 : Aside0 (∀ X, Below w.heap.size w X → Calls Try.prog 13 #[.agg #[.int .i64 L, .slice A l.length c, .int .i64 lo, .int .i64 sh]] X fun e w' => ∃ A1 c1, e = .returned (.agg #[.int .i64 L, .slice A1 P.length c1, .int .i64 lo, .int .i64 sh]) ∧ Aside0 (Kd.C k35 w' A1 P.length P) ∧ Aside0 (P.length ≤ c1) ∧ Below X.heap.size X w') := ⟨fun X hX => c13 (Kd.C_below HR1.out hX) h1c (by omega) L lo sh hP⟩
  have H18 : Aside0 (∀ X, Below w.heap.size w X → Calls Try.prog 18 #[.agg #[.slice B cr.length d, .int .i64 due, .int .i64 dl]] X fun e w' => ∃ A1 c1, e = .returned (.agg #[.slice A1 O.length c1, .int .i64 due, .int .i64 dl]) ∧ Aside0 (Kd.C k99 w' A1 O.length O) ∧ Aside0 (O.length ≤ c1) ∧ Below X.heap.size X w') := ⟨fun X hX => c18 (Kd.C_below HR2.out hX) h2c (by omega) due dl hO⟩
  have e1 : rotaR (wkOf L P lo sh O due dl) (workE L P lo sh O due dl) = ([], 9) := by rw [rotaR, if_neg (by simp [he]), if_pos hre]
  have H17 := Aside0.mk (fun (X : World) (A1 : Option Addr) (k1 : Nat) (B1 : Option Addr) (k2 : Nat) (g1 : Kd.C k35 X A1 P.length P) (g2 : P.length ≤ k1) (g3 : Kd.C k99 X B1 O.length O) (g4 : O.length ≤ k2) => c17 g1 g2 g3 g4 L lo sh due dl e1)
  clear h1 h2 hr hP hO he hn hre e1
  go_enter Try.func8, Try.ntmps8
  go_wp2_with (first | (go_at_call 16; refine (H16.out _ HF.out.b).mono ?_; rintro e w1 ⟨rfl, hb⟩; have HF1 := Aside0.mk (HF.out.below hb); clear hb))
  clear u0 u1 u2 u3 u4 u5 u6
  obtain ⟨u0, u1, u2, u3, u4, u5, u6⟩ := HF1.out.cells
  have HF2 := Aside0.mk HF1.out.drew
  go_region_held3 (fun Y : World => Y.cell? ⟨w.heap.size, 0, none⟩ = some (.int .i64 L) ∧ Y.cell? ⟨w.heap.size, 1, none⟩ = some (.slice A l.length c) ∧ Y.cell? ⟨w.heap.size, 2, none⟩ = some (.int .i64 lo) ∧ Y.cell? ⟨w.heap.size, 3, none⟩ = some (.int .i64 sh) ∧ Y.cell? ⟨w.heap.size + 1, 0, none⟩ = some (.slice B cr.length d) ∧ Y.cell? ⟨w.heap.size + 1, 1, none⟩ = some (.int .i64 due) ∧ Y.cell? ⟨w.heap.size + 1, 2, none⟩ = some (.int .i64 dl)) (first | exact HF5.out.cells | exact HF4.out.cells | exact HF3.out.cells | exact HF2.out.cells | go_keep) (first
    | (go_at_call 13; refine (H13.out _ HF2.out.b).mono ?_; rintro e x1 ⟨A1, k1, rfl, HA1, HK1, hb⟩; have HF3 := Aside0.mk (HF2.out.below hb); clear hb)
    | (go_at_call 18; refine (H18.out _ HF3.out.b).mono ?_; rintro e x2 ⟨A2, k2, rfl, HA2, HK2, hb⟩; have HF4 := Aside0.mk (HF3.out.below hb); have HB1 := Aside0.mk (Kd.C_below HA1.out hb); clear hb)
    | (go_at_call 17; refine (H17.out _ _ _ _ _ HB1.out HK1.out HA2.out HK2.out).mono ?_; rintro e x3 ⟨A3, k3, rfl, HA3, HK3, hb⟩; have HF5 := Aside0.mk (HF4.out.below hb); clear hb))
  go_wp2_with (first | (go_at_call 11; refine (c11 _).mono ?_; rintro e w2 ⟨rfl, hb⟩))
  go_ret
  exact ⟨rfl, (HF5.out.below hb).b⟩
set_option maxRecDepth 100000 in
set_option maxHeartbeats 4000000 in
theorem rel_seven (w : World) (L lo sh due dl : Int) (A B : Option Addr) (c d : Nat) (l : List S41) (cr : List S62) (who word : Int) (h1 : Kd.C k41 w A l.length l) (h1c : l.length ≤ c) (h2 : Kd.C k62 w B cr.length cr) (h2c : cr.length ≤ d) (hwho : 0 ≤ who ∧ who ≤ 255) (hword : 0 ≤ word ∧ word ≤ 65535) (hr : readyP L l lo sh cr due dl = true) (hre : ¬ reachP (wkOf L (l.map to35) lo sh (cr.map to99) due dl) (-1) [] < (wkOf L (l.map to35) lo sh (cr.map to99) due dl).T.length) (hxx : (rotaP (wkOf L (l.map to35) lo sh (cr.map to99) due dl) (who % (cr.length : Int)) ((rotaP (wkOf L (l.map to35) lo sh (cr.map to99) due dl) (-1) []).take (frontP (word % (L + 1)) (wkOf L (l.map to35) lo sh (cr.map to99) due dl).T))).length < (wkOf L (l.map to35) lo sh (cr.map to99) due dl).T.length) :
    Calls Try.prog 8 #[.agg #[.int .i64 L, .slice A l.length c, .int .i64 lo, .int .i64 sh], .agg #[.slice B cr.length d, .int .i64 due, .int .i64 dl], .int .u8 who, .int .u16 word] w fun e w' => e = .returned (.bool true) ∧ Below w.heap.size w w' := by
  obtain ⟨hl60, hc8, he⟩ := ready_parts hr
  have HR1 := Aside0.mk h1
  have HR2 := Aside0.mk h2
  have H16 : Aside0 (∀ X, Below w.heap.size w X → Calls Try.prog 16 #[.agg #[.int .i64 L, .slice A l.length c, .int .i64 lo, .int .i64 sh], .agg #[.slice B cr.length d, .int .i64 due, .int .i64 dl]] X fun e w' => e = .returned (.bool true) ∧ Below X.heap.size X w') := ⟨fun X hX => by have := c16 (Kd.C_below HR1.out hX) h1c (Kd.C_below HR2.out hX) h2c L lo sh due dl; rwa [hr] at this⟩
  have HF := Aside0.mk (Fa.start w #[.int .i64 L, .slice A l.length c, .int .i64 lo, .int .i64 sh] #[.slice B cr.length d, .int .i64 due, .int .i64 dl])
  obtain ⟨u0, u1, u2, u3, u4, u5, u6⟩ := HF.out.cells
  obtain ⟨P, hP⟩ : ∃ P, P = l.map to35 := ⟨_, rfl⟩
  obtain ⟨O, hO⟩ : ∃ O, O = cr.map to99 := ⟨_, rfl⟩
  rw [← hP, ← hO] at he hre
  have hn := wk_ok he
  have H13 : Aside0 (∀ X, Below w.heap.size w X → Calls Try.prog 13 #[.agg #[.int .i64 L, .slice A l.length c, .int .i64 lo, .int .i64 sh]] X fun e w' => ∃ A1 c1, e = .returned (.agg #[.int .i64 L, .slice A1 P.length c1, .int .i64 lo, .int .i64 sh]) ∧ Aside0 (Kd.C k35 w' A1 P.length P) ∧ Aside0 (P.length ≤ c1) ∧ Below X.heap.size X w') := ⟨fun X hX => c13 (Kd.C_below HR1.out hX) h1c (by omega) L lo sh hP⟩
  have H18 : Aside0 (∀ X, Below w.heap.size w X → Calls Try.prog 18 #[.agg #[.slice B cr.length d, .int .i64 due, .int .i64 dl]] X fun e w' => ∃ A1 c1, e = .returned (.agg #[.slice A1 O.length c1, .int .i64 due, .int .i64 dl]) ∧ Aside0 (Kd.C k99 w' A1 O.length O) ∧ Aside0 (O.length ≤ c1) ∧ Below X.heap.size X w') := ⟨fun X hX => c18 (Kd.C_below HR2.out hX) h2c (by omega) due dl hO⟩
  have hch := check_of_work he
  obtain ⟨W, hW⟩ : ∃ W, W = wkOf L P lo sh O due dl := ⟨_, rfl⟩
  rw [← hW] at hre hn
  have e1 : rotaR (wkOf L P lo sh O due dl) (workE L P lo sh O due dl) = (rotaP W (-1) [], 0) := by rw [rotaR, if_neg (by simp [he]), ← hW, if_neg hre]
  obtain ⟨hrr1, hrr2⟩ := rota_right hre
  obtain ⟨rr, hrr⟩ : ∃ x, x = rotaP W (-1) [] := ⟨_, rfl⟩
  obtain ⟨T, hT⟩ : ∃ T, T = takesP L P lo sh := ⟨_, rfl⟩
  have hTW : W.T = T := by rw [hW, hT]; rfl
  rw [← hrr] at e1 hrr1 hrr2
  rw [← hT] at hch
  have hCW : W.C = O := by rw [hW]; rfl
  have hLW : W.L = L := by rw [hW]; rfl
  have hrise : Rise W.L 0 W.T := by
    have := (takes_once (check_is (by rw [hch])).1).2.2
    rw [hW]; exact this
  obtain ⟨li1, li2⟩ := rota_listed hrr1 hrr2
  have hcn : 1 ≤ cr.length := by have := hn.c0; rw [hCW, hO, List.length_map] at this; exact this
  have hL0 := hn.l0
  have hL1 := hn.l1
  rw [hLW] at hL0 hL1
  have hpos : (0 : Int) < (cr.length : Int) := by omega
  obtain ⟨k, hk⟩ : ∃ k, k = who % (cr.length : Int) := ⟨_, rfl⟩
  obtain ⟨sec, hsec⟩ : ∃ k, k = word % (L + 1) := ⟨_, rfl⟩
  have hk0 : 0 ≤ k := by rw [hk]; exact Int.emod_nonneg _ (by omega)
  have hk1 : k < (cr.length : Int) := by rw [hk]; exact Int.emod_lt_of_pos _ hpos
  have hs0 : 0 ≤ sec := by rw [hsec]; exact Int.emod_nonneg _ (by omega)
  have hs1 : sec < L + 1 := by rw [hsec]; exact Int.emod_lt_of_pos _ (by omega)
  have htk : Int.tmod who (cr.length : Int) = k := by rw [Int.tmod_eq_emod_of_nonneg hwho.1, hk]
  have hts : Int.tmod word (L + 1) = sec := by rw [Int.tmod_eq_emod_of_nonneg hword.1, hsec]
  obtain ⟨n, hn2⟩ : ∃ n, n = frontP sec W.T := ⟨_, rfl⟩
  obtain ⟨x, hx⟩ : ∃ x, x = rotaP W k (rr.take n) := ⟨_, rfl⟩
  have hnT : n ≤ W.T.length := hn2 ▸ front_le sec W.T
  have hlT : rr.length = T.length := by rw [hrr2, hTW]
  have hT40 : T.length ≤ 40 := hTW ▸ hn.t
  have h27 := fun (X : World) (A1 : Option Addr) (k1 : Nat) (B1 : Option Addr) (k2 : Nat) (D1 : Option Addr) (k3 : Nat) (g1 : Kd.C k35 X A1 P.length P) (g2 : P.length ≤ k1) (g3 : Kd.C k99 X B1 O.length O) (g4 : O.length ≤ k2) (g5 : Kd.C (Kd.int .i64) X D1 rr.length rr) (g6 : rr.length ≤ k3) => relieve27 L A1 k1 P lo sh B1 k2 O due dl D1 k3 rr k sec X g1 g2 g3 g4 g5 g6 W hW he li1 li2 ⟨hk0, by rw [hCW, hO, List.length_map]; exact hk1⟩ ⟨hs0, by rw [hLW]; omega⟩ n hn2 x hx
  have H17 := Aside0.mk (fun (X : World) (A1 : Option Addr) (k1 : Nat) (B1 : Option Addr) (k2 : Nat) (g1 : Kd.C k35 X A1 P.length P) (g2 : P.length ≤ k1) (g3 : Kd.C k99 X B1 O.length O) (g4 : O.length ≤ k2) => c17 g1 g2 g3 g4 L lo sh due dl e1)
  have H21 := Aside0.mk (fun (X : World) (A1 : Option Addr) (k1 : Nat) (g1 : Kd.C (Kd.int .i64) X A1 rr.length rr) (g2 : rr.length ≤ k1) => c21 g1 g2 (by omega))
  rw [← hO, ← hP, ← hW, ← hk, ← hsec, ← hrr, ← hn2, ← hx] at hxx
  have H27 : Aside0 (∀ (X : World) (A1 : Option Addr) (k1 : Nat) (B1 : Option Addr) (k2 : Nat) (D1 : Option Addr) (k3 : Nat) (g1 : Kd.C k35 X A1 P.length P) (g2 : P.length ≤ k1) (g3 : Kd.C k99 X B1 O.length O) (g4 : O.length ≤ k2) (g5 : Kd.C (Kd.int .i64) X D1 rr.length rr) (g6 : rr.length ≤ k3), Calls Try.prog 27 #[.agg #[.int .i64 L, .slice A1 P.length k1, .int .i64 lo, .int .i64 sh], .agg #[.slice B1 O.length k2, .int .i64 due, .int .i64 dl], .slice D1 rr.length k3, .int .i64 k, .int .i64 sec] X fun e w' => e = .returned (.tuple #[.slice none 0 0, .slice none 0 0, .int .i64 7]) ∧ Below X.heap.size X w') := ⟨fun X A1 k1 B1 k2 D1 k3 g1 g2 g3 g4 g5 g6 => (h27 X A1 k1 B1 k2 D1 k3 g1 g2 g3 g4 g5 g6).mono (fun e w' h => by
    obtain ⟨hb, ⟨_, rfl⟩ | ⟨h2, _⟩⟩ := h
    · exact ⟨rfl, hb⟩
    · exact absurd hxx h2)⟩
  obtain ⟨hwho0, hwho1⟩ := hwho
  obtain ⟨hword0, hword1⟩ := hword
  clear h1 h2 hr hP hO he hn hre e1 h27 hch hW hrr1 hrr2 hrr hT hTW hCW hLW hrise li1 li2 hk hsec hn2 hx hnT hlT hxx
  go_enter Try.func8, Try.ntmps8
  go_wp2_with (first | (go_at_call 16; refine (H16.out _ HF.out.b).mono ?_; rintro e w1 ⟨rfl, hb⟩; have HF1 := Aside0.mk (HF.out.below hb); clear hb))
  clear u0 u1 u2 u3 u4 u5 u6
  obtain ⟨u0, u1, u2, u3, u4, u5, u6⟩ := HF1.out.cells
  have HF2 := Aside0.mk HF1.out.drew
  go_region_held3 (fun Y : World => Y.cell? ⟨w.heap.size, 0, none⟩ = some (.int .i64 L) ∧ Y.cell? ⟨w.heap.size, 1, none⟩ = some (.slice A l.length c) ∧ Y.cell? ⟨w.heap.size, 2, none⟩ = some (.int .i64 lo) ∧ Y.cell? ⟨w.heap.size, 3, none⟩ = some (.int .i64 sh) ∧ Y.cell? ⟨w.heap.size + 1, 0, none⟩ = some (.slice B cr.length d) ∧ Y.cell? ⟨w.heap.size + 1, 1, none⟩ = some (.int .i64 due) ∧ Y.cell? ⟨w.heap.size + 1, 2, none⟩ = some (.int .i64 dl)) (first | exact HF5.out.cells | exact HF4.out.cells | exact HF3.out.cells | exact HF2.out.cells | go_keep) (first
    | (go_at_call 13; refine (H13.out _ HF2.out.b).mono ?_; rintro e x1 ⟨A1, k1, rfl, HA1, HK1, hb⟩; have HF3 := Aside0.mk (HF2.out.below hb); clear hb)
    | (go_at_call 18; refine (H18.out _ HF3.out.b).mono ?_; rintro e x2 ⟨A2, k2, rfl, HA2, HK2, hb⟩; have HF4 := Aside0.mk (HF3.out.below hb); have HB1 := Aside0.mk (Kd.C_below HA1.out hb); clear hb)
    | (go_at_call 17; refine (H17.out _ _ _ _ _ HB1.out HK1.out HA2.out HK2.out).mono ?_; rintro e x3 ⟨A3, k3, rfl, HA3, HK3, hb⟩; have HF5 := Aside0.mk (HF4.out.below hb); clear hb))
  go_upto_region 6 with fail
  have HA3d := Aside0.mk (Kd.C_drew HA3.out)
  have HF6 := Aside0.mk HF5.out.drew
  clear HA1 HK1 HB1 HA2 HK2 HF HF1 HF2 HF3 HF4 H16
  clear u0 u1 u2 u3 u4 u5 u6
  obtain ⟨u0, u1, u2, u3, u4, u5, u6⟩ := HF5.out.cells
  have hne0 : ((cr.length : Int) == 0) = false := by simp; intro h; rw [h] at hcn; simp at hcn
  have hnil : ¬ cr = [] := fun h => by rw [h] at hcn; simp at hcn
  have hnz : ¬ cr.length = 0 := by omega
  have hne1 : ((L + 1 : Int) == 0) = false := by simp; omega

  go_region
  clear htk hts hne0 hnil hnz hne1 hpos
  go_upto_region 7 with fail
  have HF7 := Aside0.mk HF6.out.drew
  have HA3' := Aside0.mk (Kd.C_drew HA3d.out)
  clear u0 u1 u2 u3 u4 u5 u6
  obtain ⟨u0, u1, u2, u3, u4, u5, u6⟩ := HF6.out.cells
  go_region_held3 (fun Y : World => Y.cell? ⟨w.heap.size, 0, none⟩ = some (.int .i64 L) ∧ Y.cell? ⟨w.heap.size, 1, none⟩ = some (.slice A l.length c) ∧ Y.cell? ⟨w.heap.size, 2, none⟩ = some (.int .i64 lo) ∧ Y.cell? ⟨w.heap.size, 3, none⟩ = some (.int .i64 sh) ∧ Y.cell? ⟨w.heap.size + 1, 0, none⟩ = some (.slice B cr.length d) ∧ Y.cell? ⟨w.heap.size + 1, 1, none⟩ = some (.int .i64 due) ∧ Y.cell? ⟨w.heap.size + 1, 2, none⟩ = some (.int .i64 dl)) (first | exact HF16.out.cells | exact HF15.out.cells | exact HF14.out.cells | exact HF13.out.cells | exact HF7.out.cells | go_keep) (first
    | (go_at_call 13; refine (H13.out _ HF7.out.b).mono ?_; rintro e x10 ⟨A10, k10, rfl, HA10, HK10, hb⟩; have HF13 := Aside0.mk (HF7.out.below hb); have HB10B := Aside0.mk hb; clear hb)
    | (go_at_call 18; refine (H18.out _ HF13.out.b).mono ?_; rintro e x11 ⟨A11, k11, rfl, HA11, HK11, hb⟩; have HF14 := Aside0.mk (HF13.out.below hb); have HB10 := Aside0.mk (Kd.C_below HA10.out hb); have HB11B := Aside0.mk hb; clear hb)
    | (go_at_call 21; (with_reducible refine (H21.out _ _ _ (Kd.C_below (Kd.C_below HA3'.out HB10B.out) HB11B.out) HK3.out).mono ?_); rintro e x12 ⟨A12, k12, rfl, HA12, HK12, hb⟩; have HF15 := Aside0.mk (HF14.out.below hb); have HC10 := Aside0.mk (Kd.C_below HB10.out hb); have HC11 := Aside0.mk (Kd.C_below HA11.out hb); clear hb)
    | (go_at_call 27; (with_reducible refine (H27.out _ _ _ _ _ _ _ HC10.out HK10.out HC11.out HK11.out HA12.out HK12.out).mono ?_); rintro e x13 ⟨rfl, hb⟩; have HF16 := Aside0.mk (HF15.out.below hb); clear hb))
  go_wp2_with (first | (go_at_call 11; refine (c11 _).mono ?_; rintro e w2 ⟨rfl, hb⟩))
  go_ret
  exact ⟨rfl, (HF16.out.below hb).b⟩
end Go.Proofs.Ytillieimgjdpbaa.Pr
