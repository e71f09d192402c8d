/- What comes in, opened: slices of whatever is read; an office of the reference; numbers. -/
import Derived.Test.YtillieimgjdpbaaRIp
import Derived.RegionTactic
import Derived.Outline
import Derived.Test.YtillieimgjdpbaaRPr0
import Derived.Deep.SlicePairs
import Derived.WalkKit
import Derived.ProofKit
import Derived.OpenShut
import Derived.SizedLaws
namespace Go.Proofs.Ytillieimgjdpbaa.Pr
open Go.RowKit Go.Proofs.YtillieimgjdpbaaW.PrintWords Go.Proofs.YtillieimgjdpbaaW.PrintLast Go.Proofs.YtillieimgjdpbaaW.PrintMore
set_option linter.unusedVariables false
set_option linter.unusedSimpArgs false
theorem open_end {W : Wk} {rr left op : List Int} {k sec : Int} {n i : Nat} (h : op = openP W rr k sec (i + 1) ++ left) (ho : op = openP W rr k sec n) (hin : i < n) (hn : n ≤ i + 1) : left = [] := by
  have e : i + 1 = n := by omega
  rw [e, ← ho] at h
  exact List.self_eq_append_right.1 h
set_option maxRecDepth 100000 in
set_option maxHeartbeats 4000000 in
theorem rel_main (w : World) (L lo sh due dl : Int) (A B : Option Addr) (c d : Nat) (l : List S41) (cr : List S62) (who word : Int) (h1 : Kd.C k41 w A l.length l) (h1c : l.length ≤ c) (h2 : Kd.C k62 w B cr.length cr) (h2c : cr.length ≤ d) (hwho : 0 ≤ who ∧ who ≤ 255) (hword : 0 ≤ word ∧ word ≤ 65535) (hr : readyP L l lo sh cr due dl = true) (hre : ¬ reachP (wkOf L (l.map to35) lo sh (cr.map to99) due dl) (-1) [] < (wkOf L (l.map to35) lo sh (cr.map to99) due dl).T.length) (hxx : ¬ (rotaP (wkOf L (l.map to35) lo sh (cr.map to99) due dl) (who % (cr.length : Int)) ((rotaP (wkOf L (l.map to35) lo sh (cr.map to99) due dl) (-1) []).take (frontP (word % (L + 1)) (wkOf L (l.map to35) lo sh (cr.map to99) due dl).T))).length < (wkOf L (l.map to35) lo sh (cr.map to99) due dl).T.length) :
    Calls Try.prog 8 #[.agg #[.int .i64 L, .slice A l.length c, .int .i64 lo, .int .i64 sh], .agg #[.slice B cr.length d, .int .i64 due, .int .i64 dl], .int .u8 who, .int .u16 word] w fun e w' => e = .returned (.bool true) ∧ Below w.heap.size w w' := by
  obtain ⟨hl60, hc8, he⟩ := ready_parts hr
  have HR1 := Aside0.mk h1
  have HR2 := Aside0.mk h2
  have H16 : Aside0 (∀ X, Below w.heap.size w X → Calls Try.prog 16 #[.agg #[.int .i64 L, .slice A l.length c, .int .i64 lo, .int .i64 sh], .agg #[.slice B cr.length d, .int .i64 due, .int .i64 dl]] X fun e w' => e = .returned (.bool true) ∧ Below X.heap.size X w') := ⟨fun X hX => by have := c16 (Kd.C_below HR1.out hX) h1c (Kd.C_below HR2.out hX) h2c L lo sh due dl; rwa [hr] at this⟩
  have HF := Aside0.mk (Fa.start w #[.int .i64 L, .slice A l.length c, .int .i64 lo, .int .i64 sh] #[.slice B cr.length d, .int .i64 due, .int .i64 dl])
  obtain ⟨u0, u1, u2, u3, u4, u5, u6⟩ := HF.out.cells
  obtain ⟨P, hP⟩ : ∃ P, P = l.map to35 := ⟨_, rfl⟩
  obtain ⟨O, hO⟩ : ∃ O, O = cr.map to99 := ⟨_, rfl⟩
  rw [← hP, ← hO] at he hre
  have hn := wk_ok he
  have H13 : Aside0 (∀ X, Below w.heap.size w X → Calls Try.prog 13 #[.agg #[.int .i64 L, .slice A l.length c, .int .i64 lo, .int .i64 sh]] X fun e w' => ∃ A1 c1, e = .returned (.agg #[.int .i64 L, .slice A1 P.length c1, .int .i64 lo, .int .i64 sh]) ∧ Aside0 (Kd.C k35 w' A1 P.length P) ∧ Aside0 (P.length ≤ c1) ∧ Below X.heap.size X w') := ⟨fun X hX => c13 (Kd.C_below HR1.out hX) h1c (by omega) L lo sh hP⟩
  have H18 : Aside0 (∀ X, Below w.heap.size w X → Calls Try.prog 18 #[.agg #[.slice B cr.length d, .int .i64 due, .int .i64 dl]] X fun e w' => ∃ A1 c1, e = .returned (.agg #[.slice A1 O.length c1, .int .i64 due, .int .i64 dl]) ∧ Aside0 (Kd.C k99 w' A1 O.length O) ∧ Aside0 (O.length ≤ c1) ∧ Below X.heap.size X w') := ⟨fun X hX => c18 (Kd.C_below HR2.out hX) h2c (by omega) due dl hO⟩
  have hch := check_of_work he
  obtain ⟨W, hW⟩ : ∃ W, W = wkOf L P lo sh O due dl := ⟨_, rfl⟩
  rw [← hW] at hre hn
  have e1 : rotaR (wkOf L P lo sh O due dl) (workE L P lo sh O due dl) = (rotaP W (-1) [], 0) := by rw [rotaR, if_neg (by simp [he]), ← hW, if_neg hre]
  obtain ⟨hrr1, hrr2⟩ := rota_right hre
  obtain ⟨rr, hrr⟩ : ∃ x, x = rotaP W (-1) [] := ⟨_, rfl⟩
  obtain ⟨T, hT⟩ : ∃ T, T = takesP L P lo sh := ⟨_, rfl⟩
  have hTW : W.T = T := by rw [hW, hT]; rfl
  rw [← hrr] at e1 hrr1 hrr2
  rw [← hT] at hch
  have hCW : W.C = O := by rw [hW]; rfl
  have hLW : W.L = L := by rw [hW]; rfl
  have hrise : Rise W.L 0 W.T := by
    have := (takes_once (check_is (by rw [hch])).1).2.2
    rw [hW]; exact this
  obtain ⟨li1, li2⟩ := rota_listed hrr1 hrr2
  have hcn : 1 ≤ cr.length := by have := hn.c0; rw [hCW, hO, List.length_map] at this; exact this
  have hL0 := hn.l0
  have hL1 := hn.l1
  rw [hLW] at hL0 hL1
  have hpos : (0 : Int) < (cr.length : Int) := by omega
  obtain ⟨k, hk⟩ : ∃ k, k = who % (cr.length : Int) := ⟨_, rfl⟩
  obtain ⟨sec, hsec⟩ : ∃ k, k = word % (L + 1) := ⟨_, rfl⟩
  have hk0 : 0 ≤ k := by rw [hk]; exact Int.emod_nonneg _ (by omega)
  have hk1 : k < (cr.length : Int) := by rw [hk]; exact Int.emod_lt_of_pos _ hpos
  have hs0 : 0 ≤ sec := by rw [hsec]; exact Int.emod_nonneg _ (by omega)
  have hs1 : sec < L + 1 := by rw [hsec]; exact Int.emod_lt_of_pos _ (by omega)
  have htk : Int.tmod who (cr.length : Int) = k := by rw [Int.tmod_eq_emod_of_nonneg hwho.1, hk]
  have hts : Int.tmod word (L + 1) = sec := by rw [Int.tmod_eq_emod_of_nonneg hword.1, hsec]
  obtain ⟨n, hn2⟩ : ∃ n, n = frontP sec W.T := ⟨_, rfl⟩
  obtain ⟨x, hx⟩ : ∃ x, x = rotaP W k (rr.take n) := ⟨_, rfl⟩
  have hnT : n ≤ W.T.length := hn2 ▸ front_le sec W.T
  have hlT : rr.length = T.length := by rw [hrr2, hTW]
  have hT40 : T.length ≤ 40 := hTW ▸ hn.t
  have h27 := fun (X : World) (A1 : Option Addr) (k1 : Nat) (B1 : Option Addr) (k2 : Nat) (D1 : Option Addr) (k3 : Nat) (g1 : Kd.C k35 X A1 P.length P) (g2 : P.length ≤ k1) (g3 : Kd.C k99 X B1 O.length O) (g4 : O.length ≤ k2) (g5 : Kd.C (Kd.int .i64) X D1 rr.length rr) (g6 : rr.length ≤ k3) => relieve27 L A1 k1 P lo sh B1 k2 O due dl D1 k3 rr k sec X g1 g2 g3 g4 g5 g6 W hW he li1 li2 ⟨hk0, by rw [hCW, hO, List.length_map]; exact hk1⟩ ⟨hs0, by rw [hLW]; omega⟩ n hn2 x hx
  have H17 := Aside0.mk (fun (X : World) (A1 : Option Addr) (k1 : Nat) (B1 : Option Addr) (k2 : Nat) (g1 : Kd.C k35 X A1 P.length P) (g2 : P.length ≤ k1) (g3 : Kd.C k99 X B1 O.length O) (g4 : O.length ≤ k2) => c17 g1 g2 g3 g4 L lo sh due dl e1)
  have H21 := Aside0.mk (fun (X : World) (A1 : Option Addr) (k1 : Nat) (g1 : Kd.C (Kd.int .i64) X A1 rr.length rr) (g2 : rr.length ≤ k1) => c21 g1 g2 (by omega))
  rw [← hO, ← hP, ← hW, ← hk, ← hsec, ← hrr, ← hn2, ← hx] at hxx
  obtain ⟨hx1, hxT, hxf, hxk⟩ := (relieved_law hrr1 hrr2 hnT (k := k)).resolve_left (by rw [← hx]; exact hxx)
  rw [← hx] at hx1 hxT hxf hxk
  rw [hTW] at hxT
  obtain ⟨xi1, xi2⟩ := rota_listed hx1 (by rw [hxT, hTW])
  have e3 : proveR (wkOf L P lo sh O due dl) (workE L P lo sh O due dl) x = true := by rw [he, ← hW, proveR, decide_eq_true rfl, xi1, xi2]; rfl
  obtain ⟨op, hop⟩ : ∃ v, v = openP W rr k sec n := ⟨_, rfl⟩
  have hol : op.length ≤ n := by rw [hop]; exact open_length W rr k sec n
  have H27 : Aside0 (∀ (X : World) (A1 : Option Addr) (k1 : Nat) (B1 : Option Addr) (k2 : Nat) (D1 : Option Addr) (k3 : Nat) (g1 : Kd.C k35 X A1 P.length P) (g2 : P.length ≤ k1) (g3 : Kd.C k99 X B1 O.length O) (g4 : O.length ≤ k2) (g5 : Kd.C (Kd.int .i64) X D1 rr.length rr) (g6 : rr.length ≤ k3), Calls Try.prog 27 #[.agg #[.int .i64 L, .slice A1 P.length k1, .int .i64 lo, .int .i64 sh], .agg #[.slice B1 O.length k2, .int .i64 due, .int .i64 dl], .slice D1 rr.length k3, .int .i64 k, .int .i64 sec] X fun e w' => ∃ (Ad : Option Addr) (kd : Nat) (Bd : Option Addr) (ke : Nat), e = .returned (.tuple #[.slice Ad x.length kd, .slice Bd op.length ke, .int .i64 0]) ∧ Aside0 (Kd.C (Kd.int .i64) w' Ad x.length x) ∧ Aside0 (x.length ≤ kd) ∧ Aside0 (Kd.C (Kd.int .i64) w' Bd op.length op) ∧ Aside0 (op.length ≤ ke) ∧ Below X.heap.size X w') := ⟨fun X A1 k1 B1 k2 D1 k3 g1 g2 g3 g4 g5 g6 => (h27 X A1 k1 B1 k2 D1 k3 g1 g2 g3 g4 g5 g6).mono (fun e w' h => by
    rw [← hop] at h
    obtain ⟨hb, ⟨h2, _⟩ | ⟨_, Ad, kd, Bd, ke, h3, h4, h5, h6, h7⟩⟩ := h
    · exact absurd h2 hxx
    · exact ⟨Ad, kd, Bd, ke, h3, h4, h5, h6, h7, hb⟩)⟩
  have H12 := Aside0.mk (fun (X : World) (A1 : Option Addr) (k1 : Nat) (g1 : Kd.C k35 X A1 P.length P) (g2 : P.length ≤ k1) => c12 g1 g2 L lo sh hch)
  have H20 := Aside0.mk (fun (X : World) (A1 : Option Addr) (k1 : Nat) (B1 : Option Addr) (k2 : Nat) (g1 : Kd.C k35 X A1 P.length P) (g2 : P.length ≤ k1) (g3 : Kd.C k99 X B1 O.length O) (g4 : O.length ≤ k2) (D1 : Option Addr) (k3 : Nat) (g5 : Kd.C (Kd.int .i64) X D1 x.length x) (g6 : x.length ≤ k3) => c20 g1 g2 g3 g4 g5 g6 L lo sh due dl e3)
  have H21x := Aside0.mk (fun (X : World) (A1 : Option Addr) (k1 : Nat) (g1 : Kd.C (Kd.int .i64) X A1 x.length x) (g2 : x.length ≤ k1) => c21 g1 g2 (by omega))
  have H21o := Aside0.mk (fun (X : World) (A1 : Option Addr) (k1 : Nat) (g1 : Kd.C (Kd.int .i64) X A1 op.length op) (g2 : op.length ≤ k1) => c21 g1 g2 (by omega))
  rw [hlT] at H17 H21 H27
  rw [hxT] at H27 H20 H21x
  have HKS := Aside0.mk (show (k = who % (cr.length : Int) ∧ sec = word % (L + 1)) ∧ rr.length = T.length ∧ x.length = T.length from ⟨⟨hk, hsec⟩, hlT, hxT⟩)
  have HX := Aside0.mk (show (∀ i, i < n → x.getD i (-1) = rr.getD i (-1)) ∧ ∀ i, n ≤ i → i < T.length → x.getD i (-1) ≠ k from ⟨hxf, hTW ▸ hxk⟩)
  have HLATE : Aside0 (∀ i, lateP W rr k sec i ↔ rr.getD i (-1) = k ∧ sec < (rd_T35 T i).f1 + ((rd_T35 T i).f1 - (rd_T35 T i).f0) * (rd_T62 cr k).f0.f1 + dl) := ⟨fun i => by
    have hkn : k = ((k.toNat : Nat) : Int) := by omega
    have hd : W.dl = dl := by rw [hW]; rfl
    unfold lateP worstP doneP
    rw [hTW, hCW, hd, hO, hkn, rd99_62 cr k.toNat (by omega)]
    rfl⟩
  have HFR : Aside0 (∀ i, i < T.length → ((rd_T35 T i).f0 < sec ↔ i < n)) := ⟨fun i hi => by
    have := front_iff (sec := sec) hrise (i := i) (by rw [hTW]; exact hi)
    rwa [← hn2, hTW] at this⟩
  have HOP := Aside0.mk hop
  have hnT2 : n ≤ T.length := hTW ▸ hnT
  have HRNG : Aside0 (∀ i : Nat, i < T.length → (0 ≤ (rd_T35 T i).f0 ∧ (rd_T35 T i).f0 < (rd_T35 T i).f1 ∧ (rd_T35 T i).f1 ≤ 36000) ∧ (0 ≤ (rd_T62 cr k).f0.f1 ∧ (rd_T62 cr k).f0.f1 ≤ 20) ∧ 0 ≤ dl ∧ dl ≤ 36000 ∧ 0 ≤ ((rd_T35 T i).f1 - (rd_T35 T i).f0) * (rd_T62 cr k).f0.f1 ∧ ((rd_T35 T i).f1 - (rd_T35 T i).f0) * (rd_T62 cr k).f0.f1 ≤ 720000) := ⟨fun i hi => by
    have a1 := hn.tk' i (by omega) (by rw [hTW]; omega)
    have a2 := hn.cr' k hk0 (by rw [hCW, hO, List.length_map]; exact hk1)
    have a3 := hn.e0
    have a4 := hn.e1
    have hd : W.dl = dl := by rw [hW]; rfl
    have hkn : k = ((k.toNat : Nat) : Int) := by omega
    have e9 : rd_T99 W.C k = to99 (rd_T62 cr k) := by rw [hCW, hO, hkn]; exact rd99_62 cr k.toNat (by omega)
    rw [hTW] at a1
    rw [e9] at a2
    rw [hd] at a3 a4
    have b1 : 0 ≤ (rd_T62 cr k).f0.f1 ∧ (rd_T62 cr k).f0.f1 ≤ 20 := ⟨Int.le_trans a2.1 a2.2.1, a2.2.2.1⟩
    refine ⟨a1, b1, a3, a4, Int.mul_nonneg (by omega) b1.1, ?_⟩
    have := Int.mul_le_mul (show (rd_T35 T i).f1 - (rd_T35 T i).f0 ≤ 36000 by omega) b1.2 b1.1 (by omega)
    omega⟩
  obtain ⟨hwho0, hwho1⟩ := hwho
  obtain ⟨hword0, hword1⟩ := hword
  clear h1 h2 hr hP hO he hn hre e1 e3 h27 hch hrr1 hrr2 hrr hT hCW hLW hrise li1 li2 xi1 xi2 hk hsec hn2 hx hnT hlT hxT hx1 hxf hxk hxx hop
  go_enter Try.func8, Try.ntmps8
  go_wp2_with (first | (go_at_call 16; refine (H16.out _ HF.out.b).mono ?_; rintro e w1 ⟨rfl, hb⟩; have HF1 := Aside0.mk (HF.out.below hb); clear hb))
  clear u0 u1 u2 u3 u4 u5 u6
  obtain ⟨u0, u1, u2, u3, u4, u5, u6⟩ := HF1.out.cells
  have HF2 := Aside0.mk HF1.out.drew
  go_region_held3 (fun Y : World => Y.cell? ⟨w.heap.size, 0, none⟩ = some (.int .i64 L) ∧ Y.cell? ⟨w.heap.size, 1, none⟩ = some (.slice A l.length c) ∧ Y.cell? ⟨w.heap.size, 2, none⟩ = some (.int .i64 lo) ∧ Y.cell? ⟨w.heap.size, 3, none⟩ = some (.int .i64 sh) ∧ Y.cell? ⟨w.heap.size + 1, 0, none⟩ = some (.slice B cr.length d) ∧ Y.cell? ⟨w.heap.size + 1, 1, none⟩ = some (.int .i64 due) ∧ Y.cell? ⟨w.heap.size + 1, 2, none⟩ = some (.int .i64 dl)) (first | exact HF5.out.cells | exact HF4.out.cells | exact HF3.out.cells | exact HF2.out.cells | go_keep) (first
    | (go_at_call 13; refine (H13.out _ HF2.out.b).mono ?_; rintro e x1 ⟨A1, k1, rfl, HA1, HK1, hb⟩; have HF3 := Aside0.mk (HF2.out.below hb); clear hb)
    | (go_at_call 18; refine (H18.out _ HF3.out.b).mono ?_; rintro e x2 ⟨A2, k2, rfl, HA2, HK2, hb⟩; have HF4 := Aside0.mk (HF3.out.below hb); have HB1 := Aside0.mk (Kd.C_below HA1.out hb); clear hb)
    | (go_at_call 17; (with_reducible refine (H17.out _ _ _ _ _ HB1.out HK1.out HA2.out HK2.out).mono ?_); rintro e x3 ⟨A3, k3, rfl, HA3, HK3, hb⟩; have HF5 := Aside0.mk ((HF4.out.below hb).add (fun X => Kd.C (Kd.int .i64) X A3 T.length rr) HA3.out); clear hb))
  go_upto_region 6 with fail
  have HF6 := Aside0.mk HF5.out.drew
  clear HA1 HK1 HB1 HA2 HK2 HF HF1 HF2 HF3 HF4 H16
  clear u0 u1 u2 u3 u4 u5 u6
  obtain ⟨u0, u1, u2, u3, u4, u5, u6⟩ := HF5.out.cells
  have hne0 : ((cr.length : Int) == 0) = false := by simp; intro h; rw [h] at hcn; simp at hcn
  have hnil : ¬ cr = [] := fun h => by rw [h] at hcn; simp at hcn
  have hnz : ¬ cr.length = 0 := by omega
  have hne1 : ((L + 1 : Int) == 0) = false := by simp; omega

  go_region
  clear htk hts hne0 hnil hnz hne1
  go_upto_region 7 with fail
  have HF7 := Aside0.mk HF6.out.drew
  clear u0 u1 u2 u3 u4 u5 u6
  obtain ⟨u0, u1, u2, u3, u4, u5, u6⟩ := HF6.out.cells
  go_region_held3 (fun Y : World => Y.cell? ⟨w.heap.size, 0, none⟩ = some (.int .i64 L) ∧ Y.cell? ⟨w.heap.size, 1, none⟩ = some (.slice A l.length c) ∧ Y.cell? ⟨w.heap.size, 2, none⟩ = some (.int .i64 lo) ∧ Y.cell? ⟨w.heap.size, 3, none⟩ = some (.int .i64 sh) ∧ Y.cell? ⟨w.heap.size + 1, 0, none⟩ = some (.slice B cr.length d) ∧ Y.cell? ⟨w.heap.size + 1, 1, none⟩ = some (.int .i64 due) ∧ Y.cell? ⟨w.heap.size + 1, 2, none⟩ = some (.int .i64 dl)) (first | exact HF16.out.cells | exact HF15.out.cells | exact HF14.out.cells | exact HF13.out.cells | exact HF7.out.cells | go_keep) (first
    | (go_at_call 13; refine (H13.out _ HF7.out.b).mono ?_; rintro e x10 ⟨A10, k10, rfl, HA10, HK10, hb⟩; have HF13 := Aside0.mk (HF7.out.below hb); clear hb)
    | (go_at_call 18; refine (H18.out _ HF13.out.b).mono ?_; rintro e x11 ⟨A11, k11, rfl, HA11, HK11, hb⟩; have HF14 := Aside0.mk (HF13.out.below hb); have HB10 := Aside0.mk (Kd.C_below HA10.out hb); clear hb)
    | (go_at_call 21; (with_reducible refine (H21.out _ _ _ HF14.out.k HK3.out).mono ?_); rintro e x12 ⟨A12, k12, rfl, HA12, HK12, hb⟩; have HF15 := Aside0.mk (HF14.out.below hb); have HC10 := Aside0.mk (Kd.C_below HB10.out hb); have HC11 := Aside0.mk (Kd.C_below HA11.out hb); clear hb)
    | (go_at_call 27; (with_reducible refine (H27.out _ _ _ _ _ _ _ HC10.out HK10.out HC11.out HK11.out HA12.out HK12.out).mono ?_); rintro e x13 ⟨A13, k13, B13, q13, rfl, HA13, HK13, HO13, HQ13, hb⟩; have HF16 := Aside0.mk ((HF15.out.below hb).add (fun X => (Kd.C (Kd.int .i64) X A3 T.length rr ∧ Kd.C (Kd.int .i64) X A13 T.length x) ∧ Kd.C (Kd.int .i64) X B13 op.length op) ⟨⟨(HF15.out.below hb).k, HA13.out⟩, HO13.out⟩); clear hb))
  clear u0 u1 u2 u3 u4 u5 u6
  obtain ⟨u0, u1, u2, u3, u4, u5, u6⟩ := HF16.out.cells
  go_upto_region 11 with (first | (go_at_call 13; refine (H13.out _ HF16.out.b).mono ?_; rintro e x16 ⟨A16, k16, rfl, HA16, HK16, hb⟩; have HF17 := Aside0.mk (HF16.out.below hb); clear hb) | (go_at_call 12; (with_reducible refine (H12.out _ _ _ HA16.out HK16.out).mono ?_); rintro e x17 ⟨A17, k17, rfl, HA17, HK17, hb⟩; have HF18 := Aside0.mk ((HF17.out.below hb).add (fun X => ((Kd.C (Kd.int .i64) X A3 T.length rr ∧ Kd.C (Kd.int .i64) X A13 T.length x) ∧ Kd.C (Kd.int .i64) X B13 op.length op) ∧ Kd.C k35 X A17 T.length T) ⟨(HF17.out.below hb).k, HA17.out⟩); clear hb))
  have HF19 := Aside0.mk HF18.out.drew
  clear u0 u1 u2 u3 u4 u5 u6
  obtain ⟨u0, u1, u2, u3, u4, u5, u6⟩ := HF18.out.cells

  go_region_held3 (fun Y : World => Y.cell? ⟨w.heap.size, 0, none⟩ = some (.int .i64 L) ∧ Y.cell? ⟨w.heap.size, 1, none⟩ = some (.slice A l.length c) ∧ Y.cell? ⟨w.heap.size, 2, none⟩ = some (.int .i64 lo) ∧ Y.cell? ⟨w.heap.size, 3, none⟩ = some (.int .i64 sh) ∧ Y.cell? ⟨w.heap.size + 1, 0, none⟩ = some (.slice B cr.length d) ∧ Y.cell? ⟨w.heap.size + 1, 1, none⟩ = some (.int .i64 due) ∧ Y.cell? ⟨w.heap.size + 1, 2, none⟩ = some (.int .i64 dl)) (first | exact HF23.out.cells | exact HF22.out.cells | exact HF21.out.cells | exact HF20.out.cells | exact HF19.out.cells | go_keep) (first
    | (go_at_call 13; refine (H13.out _ HF19.out.b).mono ?_; rintro e x20 ⟨A20, k20, rfl, HA20, HK20, hb⟩; have HF20 := Aside0.mk (HF19.out.below hb); clear hb)
    | (go_at_call 18; refine (H18.out _ HF20.out.b).mono ?_; rintro e x21 ⟨A21, k21, rfl, HA21, HK21, hb⟩; have HF21 := Aside0.mk (HF20.out.below hb); have HB20 := Aside0.mk (Kd.C_below HA20.out hb); clear hb)
    | (go_at_call 21; (with_reducible refine (H21x.out _ _ _ HF21.out.k.1.1.2 HK13.out).mono ?_); rintro e x22 ⟨A22, k22, rfl, HA22, HK22, hb⟩; have HF22 := Aside0.mk (HF21.out.below hb); have HC20 := Aside0.mk (Kd.C_below HB20.out hb); have HC21 := Aside0.mk (Kd.C_below HA21.out hb); clear hb)
    | (go_at_call 20; (with_reducible refine (H20.out _ _ _ _ _ HC20.out HK20.out HC21.out HK21.out _ _ HA22.out HK22.out).mono ?_); rintro e x23 ⟨rfl, hb⟩; have HF23 := Aside0.mk (HF22.out.below hb); clear hb))
  clear HA10 HK10 HB10 HA11 HK11 HA12 HK12 HC10 HC11 HA16 HK16 HA20 HK20 HB20 HA21 HK21 HA22 HK22 HC20 HC21 HF5 HF6 HF7 HF13 HF14 HF15 HF16 HF17 HF18 HF19 HF20 HF21 HF22 H12 H13 H18 H17 H20 H21 H21x H27
  clear u0 u1 u2 u3 u4 u5 u6
  obtain ⟨u0, u1, u2, u3, u4, u5, u6⟩ := HF23.out.cells
  go_upto_region 14 with (first | (go_at_call 21; (with_reducible refine (H21o.out _ _ _ HF23.out.k.1.2 HQ13.out).mono ?_); rintro e x24 ⟨A24, k24, rfl, HA24, HK24, hb⟩; have HF24 := Aside0.mk (HF23.out.below hb); clear hb))
  have HF25 := Aside0.mk HF24.out.drew
  have HL0 : Aside0 ((0 ≤ n → op = openP W rr k sec 0 ++ op) ∧ (n ≤ 0 → op = [])) := ⟨fun _ => rfl, fun h => by
    have h0 : n = 0 := by omega
    rw [HOP.out, h0]; rfl⟩
  clear u0 u1 u2 u3 u4 u5 u6
  go_wp2_with fail
  go_loopw [18, 19] (fun v18 v19 wr => ∃ (i : Nat) (Al : Option Addr) (kl : Nat) (left : List Int), i ≤ T.length ∧ v19 = .int .i64 i ∧ v18 = .slice Al left.length kl ∧ Aside0 (Kd.C (Kd.int .i64) wr Al left.length left ∧ left.length ≤ kl) ∧ Aside0 ((i ≤ n → op = openP W rr k sec i ++ left) ∧ (n ≤ i → left = [])) ∧ Aside0 (Fa w #[.int .i64 L, .slice A l.length c, .int .i64 lo, .int .i64 sh] #[.slice B cr.length d, .int .i64 due, .int .i64 dl] (fun X => ((Kd.C (Kd.int .i64) X A3 T.length rr ∧ Kd.C (Kd.int .i64) X A13 T.length x) ∧ Kd.C (Kd.int .i64) X B13 op.length op) ∧ Kd.C k35 X A17 T.length T) wr)) (fun _ v19 _ => T.length - (intOf v19).toNat)
  case atStart => exact ⟨0, A24, k24, op, Nat.zero_le _, rfl, rfl, ⟨HA24.out, HK24.out⟩, HL0, HF24⟩
  case round =>
    obtain ⟨i, Al, kl, left, hi, rfl, rfl, HC, HI, HFr⟩ := hrel
    obtain ⟨u0, u1, u2, u3, u4, u5, u6⟩ := HFr.out.cells
    by_cases hlt : i < T.length
    · have hir : i < rr.length := by have := HKS.out.2.1; omega
      have hix : i < x.length := by have := HKS.out.2.2; omega
      have hrng := HRNG.out i hlt
      have HFD : Aside0 (∀ m, Fa w #[.int .i64 L, .slice A l.length c, .int .i64 lo, .int .i64 sh] #[.slice B cr.length d, .int .i64 due, .int .i64 dl] (fun X => ((Kd.C (Kd.int .i64) X A3 T.length rr ∧ Kd.C (Kd.int .i64) X A13 T.length x) ∧ Kd.C (Kd.int .i64) X B13 op.length op) ∧ Kd.C k35 X A17 T.length T) (wr.drewN m)) := ⟨fun m => HFr.out.below (pw_below_drewN (Below.refl _ _) m)⟩
      have HCD : Aside0 (∀ m, Kd.C (Kd.int .i64) (wr.drewN m) Al left.length left) := ⟨fun m => Kd.C_below HC.out.1 (pw_below_drewN (Below.refl _ _) m)⟩
      have hfr := HFR.out i hlt
      have hlate := HLATE.out i
      have hx1 := HX.out.1 i
      have hx2 := fun h => HX.out.2 i h hlt
      obtain ⟨ad, eAT, m0, m1⟩ := at_T35 HFr.out.k.2 (i : Int) (by omega) (by omega)
      obtain ⟨ra, eR, c0⟩ := at3 HFr.out.k.1.1.1 i hir
      obtain ⟨xa, eX, d0⟩ := at3 HFr.out.k.1.1.2 i hix
      obtain ⟨ba, eB, b0, b1, b2⟩ := at_T62 (Kd.C_below HR2.out HFr.out.b) k hk0 hk1
      subst eAT eR eX eB
      rw [Int.toNat_natCast] at m0 m1
      rw [List.getD_eq_getElem?_getD, List.getElem?_eq_getElem hir, Option.getD_some] at hlate
      rw [List.getD_eq_getElem?_getD, List.getD_eq_getElem?_getD, List.getElem?_eq_getElem hix, List.getElem?_eq_getElem hir, Option.getD_some, Option.getD_some] at hx1
      simp only [List.getD_eq_getElem?_getD, List.getElem?_eq_getElem hix, Option.getD_some] at hx2
      obtain ⟨rv, hrv⟩ : ∃ v, v = rr[i] := ⟨_, rfl⟩
      obtain ⟨xv, hxv⟩ : ∃ v, v = x[i] := ⟨_, rfl⟩
      obtain ⟨t0, ht0⟩ : ∃ v, v = (rd_T35 T i).f0 := ⟨_, rfl⟩
      obtain ⟨t1, ht1⟩ : ∃ v, v = (rd_T35 T i).f1 := ⟨_, rfl⟩
      obtain ⟨hh, hhh⟩ : ∃ v, v = (rd_T62 cr k).f0.f1 := ⟨_, rfl⟩
      rw [← hrv] at c0 hlate hx1
      rw [← hxv] at d0 hx1 hx2
      rw [← ht0] at m0 hrng hfr hlate
      rw [← ht1] at m1 hrng hlate
      rw [← hhh] at b1 hrng hlate
      clear hrv hxv ht0 ht1 hhh
      obtain ⟨⟨r1, r2, r3⟩, ⟨r4, r5⟩, r6, r7, r8, r9⟩ := hrng
      by_cases hs : t0 < sec
      · have hin := hfr.1 hs
        have hxe := hx1 hin
        subst hxe
        obtain ⟨st1, st2⟩ := open_step (W := W) (rota := rr) (k := k) (sec := sec) (n := n) (i := i) (left := left) hin (HOP.out ▸ HI.out.1 (by omega))
        rw [← HOP.out] at st1 st2
        have hll : left.length ≤ 40 := by
          have h1 := congrArg List.length (HI.out.1 (by omega))
          rw [List.length_append] at h1
          omega
        by_cases hrk : xv = k
        · by_cases hl : sec < t1 + (t1 - t0) * hh + dl
          · obtain ⟨r, hleft, st⟩ := st1 (hlate.2 ⟨hrk, hl⟩)
            subst hleft
            have HST := Aside0.mk st
            obtain ⟨la, eL, l0⟩ := at3 HC.out.1 0 (by simp)
            subst eL
            have l1 : wr.cell? la = some (.int .i64 (i : Int)) := l0
            have HN1 : Aside0 (kl = 1 → ∀ m, Kd.C (Kd.int .i64) (wr.drewN m) (some la) r.length r) := ⟨fun hk1 m => by
              have h9 := Kd.C_drop (m := 1) (HCD.out m) (by simp) HC.out.2
              rw [if_pos hk1] at h9
              exact h9⟩
            have HN2 : Aside0 (¬ kl = 1 → ∀ m, Kd.C (Kd.int .i64) (wr.drewN m) (some ⟨la.block, la.off + 1, none⟩) r.length r) := ⟨fun hk1 m => by
              have h9 := Kd.C_drop (m := 1) (HCD.out m) (by simp) HC.out.2
              rw [if_neg hk1] at h9
              exact h9⟩
            have hkl : r.length + 1 ≤ kl := by have := HC.out.2; simpa using this
            rw [hrk] at c0 d0
            clear st st1 st2 hlate hx2 hfr hx1 hrk
            simp only [List.getElem_cons_zero, List.length_cons, Nat.add_zero, Nat.zero_add] at l0 ⊢
            have hl1 : r.length + 1 ≤ 40 := by simpa using hll
            go_wp2_with fail
            go_quiet (fail)
            go_wp2_with fail
            go_quiet (fail)
            by_cases hkc : kl = 1
            · go_wp2_with fail
              go_roundw
              case rel => exact ⟨i + 1, some la, 0, r, by omega, by go_num, rfl, ⟨HN1.out hkc _, by omega⟩, ⟨fun _ => HST.out, open_end HST.out HOP.out hin⟩, ⟨HFD.out _⟩⟩
              case measure => simp [intOf]; omega
            · go_wp2_with fail
              go_roundw
              case rel => exact ⟨i + 1, some ⟨la.block, la.off + 1, none⟩, (kl - 1), r, by omega, by go_num, rfl, ⟨HN2.out hkc _, by omega⟩, ⟨fun _ => HST.out, open_end HST.out HOP.out hin⟩, ⟨HFD.out _⟩⟩
              case measure => simp [intOf]; omega
          · have st := st2 (fun h => hl (hlate.1 h).2)
            have HST := Aside0.mk st
            rw [hrk] at c0 d0
            have hld : decide (sec < t1 + (t1 - t0) * hh + dl) = false := by simpa using hl
            clear st st1 st2 hlate hx2 hfr hx1 hrk hl
            go_wp2_with fail
            go_quiet (fail)
            go_wp2_with fail
            go_quiet (fail)
            go_wp2_with fail
            go_roundw
            case rel => exact ⟨i + 1, Al, kl, left, by omega, by go_num, rfl, ⟨HCD.out _, HC.out.2⟩, ⟨fun _ => HST.out, open_end HST.out HOP.out hin⟩, ⟨HFD.out _⟩⟩
            case measure => simp [intOf]; omega
        · have st := st2 (fun h => hrk (hlate.1 h).1)
          have HST := Aside0.mk st
          have hrb : (xv == k) = false := by simpa using hrk
          clear st st1 st2 hlate hx2 hfr hx1 hrk
          go_wp2_with fail
          go_quiet (fail)
          go_wp2_with fail
          go_quiet (fail)
          go_wp2_with fail
          go_roundw
          case rel => exact ⟨i + 1, Al, kl, left, by omega, by go_num, rfl, ⟨HCD.out _, HC.out.2⟩, ⟨fun _ => HST.out, open_end HST.out HOP.out hin⟩, ⟨HFD.out _⟩⟩
          case measure => simp [intOf]; omega
      · have hxk : ¬ xv = k := hx2 (by have := fun h => hs (hfr.2 h); omega)
        have hni : n ≤ i := by have := fun h => hs (hfr.2 h); omega
        clear hlate hx1 hx2 hfr
        go_wp2
        go_roundw
        case rel => exact ⟨i + 1, Al, kl, left, by omega, by go_num, rfl, HC, ⟨fun h => by omega, fun _ => HI.out.2 hni⟩, HFr⟩
        case measure => simp [intOf]; omega
    · have hil : left = [] := HI.out.2 (by omega)
      subst hil
      go_wp2_with (first | (go_at_call 11; refine (c11 _).mono ?_; rintro e w2 ⟨rfl, hb⟩))
      go_ret
      exact ⟨rfl, (HFr.out.below hb).b⟩
end Go.Proofs.Ytillieimgjdpbaa.Pr
namespace Go.Proofs.Ytillieimgjdpbaa.Pr
open Go.RowKit Go.Proofs.YtillieimgjdpbaaW.PrintWords Go.Proofs.YtillieimgjdpbaaW.PrintLast Go.Proofs.YtillieimgjdpbaaW.PrintMore
theorem rel_true (w : World) (L lo sh due dl : Int) (A B : Option Addr) (c d : Nat) (l : List S41) (cr : List S62) (who word : Int) (h1 : Kd.C k41 w A l.length l) (h1c : l.length ≤ c) (h2 : Kd.C k62 w B cr.length cr) (h2c : cr.length ≤ d) (hwho : 0 ≤ who ∧ who ≤ 255) (hword : 0 ≤ word ∧ word ≤ 65535) :
    Calls Try.prog 8 #[.agg #[.int .i64 L, .slice A l.length c, .int .i64 lo, .int .i64 sh], .agg #[.slice B cr.length d, .int .i64 due, .int .i64 dl], .int .u8 who, .int .u16 word] w fun e w' => e = .returned (.bool true) ∧ Below w.heap.size w w' := by
  cases hr : readyP L l lo sh cr due dl with
  | false => exact rel_idle w L lo sh due dl A B c d l cr who word h1 h1c h2 h2c hwho hword hr
  | true =>
    by_cases hre : reachP (wkOf L (l.map to35) lo sh (cr.map to99) due dl) (-1) [] < (wkOf L (l.map to35) lo sh (cr.map to99) due dl).T.length
    · exact rel_none w L lo sh due dl A B c d l cr who word h1 h1c h2 h2c hwho hword hr hre
    · by_cases hxx : (rotaP (wkOf L (l.map to35) lo sh (cr.map to99) due dl) (who % (cr.length : Int)) ((rotaP (wkOf L (l.map to35) lo sh (cr.map to99) due dl) (-1) []).take (frontP (word % (L + 1)) (wkOf L (l.map to35) lo sh (cr.map to99) due dl).T))).length < (wkOf L (l.map to35) lo sh (cr.map to99) due dl).T.length
      · exact rel_seven w L lo sh due dl A B c d l cr who word h1 h1c h2 h2c hwho hword hr hre hxx
      · exact rel_main w L lo sh due dl A B c d l cr who word h1 h1c h2 h2c hwho hword hr hre hxx
end Go.Proofs.Ytillieimgjdpbaa.Pr
namespace Go.Proofs.Ytillieimgjdpbaa.Pr
open Go.RowKit Go.Proofs.YtillieimgjdpbaaW.PrintWords
set_option linter.unusedVariables false
set_option linter.unusedSimpArgs false
theorem spans41 {H : Type} {enc : TypeId × Value → H} {W : World} {sp : Nat → Bool} {held : Bool} {fuel : Nat} {cs : List Value} {x : DataW H × List MemPlace} (h : DataW.trod enc Try.prog W 0 sp held fuel 22 cs = some x) :
    ∃ (A : Option Addr) (c : Nat) (l : List S41), cs = [.slice A l.length c] ∧ l.length ≤ c ∧ Kd.C k41 W A l.length l ∧ ∀ p ∈ l, (Lit.int .i64 p.f0).wf = true ∧ (Lit.int .i64 p.f1).wf = true := by
  rcases Go.Deep.open_slice_pairs Try.underlying22 Try.underlying41 (by kernel_rfl) rfl rfl (by kernel_rfl) (by kernel_rfl) h with ⟨rfl, _⟩ | ⟨a, len, cap, m, n, V0, V1, D0, D1, P0, P1, rfl, _, hlc, hcm, hm, _, hx⟩
  · exact ⟨none, 0, [], rfl, Nat.le_refl _, ⟨rfl, by decide, fun h => absurd h (by decide)⟩, by simp⟩
  · have hlm : len ≤ m := by rw [hm]; split <;> omega
    have hex : ∀ i, i < m → ∃ q : Int × Int, V0 i = .int .i64 q.1 ∧ V1 i = .int .i64 q.2 ∧ (Lit.int .i64 q.1).wf = true ∧ (Lit.int .i64 q.2).wf = true := fun i hi => by
      obtain ⟨_, _, h0, h1⟩ := hx i hi
      obtain ⟨p0, e0, _, w0⟩ := DataW.trod_int Try.underlying3 h0
      obtain ⟨p1, e1, _, w1⟩ := DataW.trod_int Try.underlying3 h1
      exact ⟨(p0, p1), by simpa using e0, by simpa using e1, w0, w1⟩
    have hq : ∃ q : Nat → Int × Int, ∀ i, i < m → V0 i = .int .i64 (q i).1 ∧ V1 i = .int .i64 (q i).2 ∧ (Lit.int .i64 (q i).1).wf = true ∧ (Lit.int .i64 (q i).2).wf = true := by
      classical
      exact ⟨fun i => if hi : i < m then Classical.choose (hex i hi) else (0, 0), fun i hi => by simp only [dif_pos hi]; exact Classical.choose_spec (hex i hi)⟩
    obtain ⟨q, hq⟩ := hq
    have hl : ((List.range len).map fun i => (⟨(q i).1, (q i).2⟩ : S41)).length = len := by simp
    refine ⟨some a, cap, (List.range len).map fun i => ⟨(q i).1, (q i).2⟩, by rw [hl], by rw [hl]; exact hlc, ⟨rfl, by rw [hl]; unfold maxLen at hcm; omega, fun _ => ⟨a, rfl, fun j p hj => ?_⟩⟩, fun p hp => ?_⟩
    · obtain ⟨hj1, hj2⟩ := List.getElem?_eq_some_iff.1 hj
      rw [hl] at hj1
      obtain ⟨c0, c1, _, _⟩ := hx j (by omega)
      obtain ⟨e0, e1, _, _⟩ := hq j (by omega)
      have hp : p = ⟨(q j).1, (q j).2⟩ := by rw [← hj2]; simp
      subst hp
      refine ⟨[.int .i64 (q j).1, .int .i64 (q j).2], rfl, k41_mk _ _, fun i u hi => ?_⟩
      match i, hi with
      | 0, hi =>
        obtain rfl : Value.int .i64 (q j).1 = u := by simpa using hi
        rw [← e0]; exact c0
      | 1, hi =>
        obtain rfl : Value.int .i64 (q j).2 = u := by simpa using hi
        rw [← e1]; exact c1
    · obtain ⟨i, hi, rfl⟩ := List.mem_map.1 hp
      obtain ⟨_, _, w0, w1⟩ := hq i (by have := List.mem_range.1 hi; omega)
      exact ⟨w0, w1⟩
set_option maxRecDepth 100000 in
theorem open24 {H : Type} {enc : TypeId × Value → H} {W : World} {sp : Nat → Bool} {held : Bool} {fuel : Nat} {cs : List Value} {x : DataW H × List MemPlace} (h : DataW.trod enc Try.prog W 0 sp held fuel 24 cs = some x) :
    ∃ (L : Int) (A : Option Addr) (c : Nat) (l : List S41) (lo sh : Int), cs = [.int .i64 L, .slice A l.length c, .int .i64 lo, .int .i64 sh] ∧ l.length ≤ c ∧ Kd.C k41 W A l.length l ∧ (∀ p ∈ l, (Lit.int .i64 p.f0).wf = true ∧ (Lit.int .i64 p.f1).wf = true) ∧ (Lit.int .i64 L).wf = true ∧ (Lit.int .i64 lo).wf = true ∧ (Lit.int .i64 sh).wf = true := by
  obtain ⟨xs, n, _, _, hlen, hxl, hf⟩ := DataW.trod_struct Try.underlying24 h
  have c24 : Try.prog.cellsOf 24 = 4 := by kernel_rfl
  have c3 : Try.prog.cellsOf 3 = 1 := by kernel_rfl
  have c22 : Try.prog.cellsOf 22 = 1 := by kernel_rfl
  rw [c24] at hlen
  match cs, hlen, xs, hxl with
  | [v0, v1, v2, v3], _, [y0, y1, y2, y3], _ =>
    have g0 := hf 0 _ rfl
    have g1 := hf 1 _ rfl
    have g2 := hf 2 _ rfl
    have g3 := hf 3 _ rfl
    simp [c3, c22] at g0 g1 g2 g3
    obtain ⟨L, e0, _, w0⟩ := DataW.trod_int Try.underlying3 g0
    obtain ⟨A, c, l, e1, hc, hC, hw⟩ := spans41 g1
    obtain ⟨lo, e2, _, w2⟩ := DataW.trod_int Try.underlying3 g2
    obtain ⟨sh, e3, _, w3⟩ := DataW.trod_int Try.underlying3 g3
    exact ⟨L, A, c, l, lo, sh, by simp at e0 e1 e2 e3; simp [e0, e1, e2, e3], hc, hC, hw, w0, w2, w3⟩
end Go.Proofs.Ytillieimgjdpbaa.Pr
namespace Go.Proofs.Ytillieimgjdpbaa.Pr
open Go.RowKit Go.Proofs.YtillieimgjdpbaaW.PrintWords
set_option linter.unusedVariables false
set_option linter.unusedSimpArgs false
theorem open_kd {α H : Type} {enc : TypeId × Value → H} {W : World} {sp : Nat → Bool} {held : Bool} (k : Kd α) (Q : α → Prop) {t e : TypeId} (ht : Try.prog.underlying t = some (.slice e)) (hsz : Try.prog.cellsOf e = k.sz)
    (hdec : ∀ (fuel : Nat) (cs : List Value) (x : DataW H × List MemPlace), DataW.trod enc Try.prog W 0 sp held fuel e cs = some x → ∃ v : α, k.K W v cs ∧ Q v)
    {fuel : Nat} {cs : List Value} {x : DataW H × List MemPlace} (h : DataW.trod enc Try.prog W 0 sp held fuel t cs = some x) :
    ∃ (A : Option Addr) (c : Nat) (l : List α), cs = [.slice A l.length c] ∧ l.length ≤ c ∧ Kd.C k W A l.length l ∧ ∀ p ∈ l, Q p := by
  rcases Go.Deep.open_slice ht h with ⟨rfl, _⟩ | ⟨a, len, cap, m, n, D, Pl, rfl, _, hlc, hcm, hm, _, hx⟩
  · exact ⟨none, 0, [], rfl, Nat.le_refl _, Kd.C_nil k W, by simp⟩
  · have hlm : len ≤ m := by rw [hm]; split <;> omega
    have hex : ∀ i, i < m → ∃ v : α, ∃ cs', cs'.length = k.sz ∧ k.K W v cs' ∧ Q v ∧ ∀ j u, cs'[j]? = some u → W.cell? (a.add (i * k.sz + j)) = some u := fun i hi => by
      obtain ⟨cs', h1, h2⟩ := hx i hi
      obtain ⟨_, hlen, hcell⟩ := World.cells?_some h1
      obtain ⟨v, hv, hQ⟩ := hdec _ _ _ h2
      refine ⟨v, cs', by rw [hlen, hsz], hv, hQ, fun j u hj => ?_⟩
      have hjl := (List.getElem?_eq_some_iff.1 hj).1
      have := hcell j (by omega)
      rw [Go.Deep.add_add, hsz] at this
      rw [this, hj]
    classical
    by_cases hm0 : m = 0
    · obtain rfl : len = 0 := by omega
      exact ⟨some a, cap, [], rfl, Nat.zero_le _, ⟨rfl, by simp, fun h => absurd h (by simp)⟩, by simp⟩
    obtain ⟨v0, _⟩ := hex 0 (by omega)
    have hq : ∃ q : Nat → α, ∀ i, i < m → ∃ cs', cs'.length = k.sz ∧ k.K W (q i) cs' ∧ Q (q i) ∧ ∀ j u, cs'[j]? = some u → W.cell? (a.add (i * k.sz + j)) = some u :=
      ⟨fun i => if hi : i < m then Classical.choose (hex i hi) else v0, fun i hi => by simp only [dif_pos hi]; exact Classical.choose_spec (hex i hi)⟩
    obtain ⟨q, hq⟩ := hq
    have hl : ((List.range len).map q).length = len := by simp
    refine ⟨some a, cap, (List.range len).map q, by rw [hl], by rw [hl]; exact hlc, ⟨rfl, by rw [hl]; unfold maxLen at hcm; omega, fun _ => ⟨a, rfl, fun j p hj => ?_⟩⟩, fun p hp => ?_⟩
    · obtain ⟨hj1, hj2⟩ := List.getElem?_eq_some_iff.1 hj
      rw [hl] at hj1
      obtain ⟨cs', g1, g2, _, g4⟩ := hq j (by omega)
      have hp : p = q j := by rw [← hj2]; simp
      subst hp
      exact ⟨cs', g1, g2, g4⟩
    · obtain ⟨i, hi, rfl⟩ := List.mem_map.1 hp
      obtain ⟨_, _, _, g3, _⟩ := hq i (by have := List.mem_range.1 hi; omega)
      exact g3
set_option maxRecDepth 100000 in
theorem dec62 {H : Type} {enc : TypeId × Value → H} {W : World} {sp : Nat → Bool} {held : Bool} (fuel : Nat) (cs : List Value) (x : DataW H × List MemPlace) (h : DataW.trod enc Try.prog W 0 sp held fuel 62 cs = some x) :
    ∃ v : S62, k62.K W v cs ∧ ((Lit.int .i64 v.f0.f0).wf = true ∧ (Lit.int .i64 v.f0.f1).wf = true ∧ (Lit.int .i64 v.f1).wf = true) := by
  have c62 : Try.prog.cellsOf 62 = 3 := by kernel_rfl
  have c60 : Try.prog.cellsOf 60 = 2 := by kernel_rfl
  have c3 : Try.prog.cellsOf 3 = 1 := by kernel_rfl
  obtain ⟨y0, y1, n, _, hlen, g0, g1⟩ := Go.ChangeShapes.trod_struct2 Try.underlying62 h
  rw [c62] at hlen
  match cs, hlen with
  | [v0, v1, v2], _ =>
    simp [c60, c3] at g0 g1
    obtain ⟨z0, z1, m, _, _, h0, h1⟩ := Go.ChangeShapes.trod_struct2 Try.underlying60 g0
    simp [c3] at h0 h1
    obtain ⟨a, e0, _, w0⟩ := DataW.trod_int Try.underlying3 h0
    obtain ⟨b, e1, _, w1⟩ := DataW.trod_int Try.underlying3 h1
    obtain ⟨c, e2, _, w2⟩ := DataW.trod_int Try.underlying3 g1
    simp at e0 e1 e2
    subst e0 e1 e2
    exact ⟨⟨⟨a, b⟩, c⟩, k62_mk W ⟨⟨a, b⟩, c⟩, w0, w1, w2⟩
set_option maxRecDepth 100000 in
theorem open45 {H : Type} {enc : TypeId × Value → H} {W : World} {sp : Nat → Bool} {held : Bool} {fuel : Nat} {cs : List Value} {x : DataW H × List MemPlace} (h : DataW.trod enc Try.prog W 0 sp held fuel 45 cs = some x) :
    ∃ (A : Option Addr) (c : Nat) (l : List S62) (due dl : Int), cs = [.slice A l.length c, .int .i64 due, .int .i64 dl] ∧ l.length ≤ c ∧ Kd.C k62 W A l.length l ∧ (∀ v ∈ l, (Lit.int .i64 v.f0.f0).wf = true ∧ (Lit.int .i64 v.f0.f1).wf = true ∧ (Lit.int .i64 v.f1).wf = true) ∧ (Lit.int .i64 due).wf = true ∧ (Lit.int .i64 dl).wf = true := by
  obtain ⟨xs, n, _, _, hlen, hxl, hf⟩ := DataW.trod_struct Try.underlying45 h
  have c45 : Try.prog.cellsOf 45 = 3 := by kernel_rfl
  have c3 : Try.prog.cellsOf 3 = 1 := by kernel_rfl
  have c43 : Try.prog.cellsOf 43 = 1 := by kernel_rfl
  rw [c45] at hlen
  match cs, hlen, xs, hxl with
  | [v0, v1, v2], _, [y0, y1, y2], _ =>
    have g0 := hf 0 _ rfl
    have g1 := hf 1 _ rfl
    have g2 := hf 2 _ rfl
    simp [c3, c43] at g0 g1 g2
    obtain ⟨A, c, l, e0, hc, hC, hw⟩ := open_kd k62 _ Try.underlying43 (by kernel_rfl) dec62 g0
    obtain ⟨a, e1, _, w1⟩ := DataW.trod_int Try.underlying3 g1
    obtain ⟨b, e2, _, w2⟩ := DataW.trod_int Try.underlying3 g2
    exact ⟨A, c, l, a, b, by simp at e0 e1 e2; simp [e0, e1, e2], hc, hC, hw, w1, w2⟩
theorem agg_of {v : Value} {a b : Value} {t : List Value} (h : v.cells.toList = a :: b :: t) : v = .agg (a :: b :: t).toArray := by
  cases v with
  | agg cells => exact congrArg Value.agg (Array.ext' (by simpa [Value.cells] using h))
  | _ => simp [Value.cells] at h
end Go.Proofs.Ytillieimgjdpbaa.Pr
