/- Contracts of functions of the program, and laws on what they answer: printed by a program of this session. -/
import Derived.Test.YtillieimgjdpbaaMIn
import Derived.Outline
import Derived.Test.YtillieimgjdpbaaMHb
import Derived.Test.YtillieimgjdpbaaMHu
namespace Go.Proofs.Ytillieimgjdpbaa.Pr
open Go.RowKit Go.Proofs.YtillieimgjdpbaaW.PrintWords Go.Proofs.YtillieimgjdpbaaW.PrintLast Go.Proofs.YtillieimgjdpbaaW.PrintMore
set_option linter.unusedVariables false
set_option linter.unusedSimpArgs false
theorem C_none {w : World} {n : Nat} {l : List Int} (h : Kd.C (Kd.int .i64) w none n l) : l = [] := by
  cases l with
  | nil => rfl
  | cons x t =>
    obtain ⟨ad, h1, _⟩ := at3 h 0 (by simp)
    cases h1
set_option maxRecDepth 100000 in
set_option maxHeartbeats 4000000 in
theorem relieve27 (a0_0 : Int) (A0_1 : Option Addr) (c0_1 : Nat) (l0_1 : List (S35)) (a0_2 : Int) (a0_3 : Int) (A1_0 : Option Addr) (c1_0 : Nat) (l1_0 : List (S99)) (a1_1 : Int) (a1_2 : Int) (A2 : Option Addr) (c2 : Nat) (rota : List Int) (k sec : Int) (w : World) (hr0_1 : Kd.C k35 w A0_1 l0_1.length l0_1) (hc0_1 : l0_1.length ≤ c0_1) (hr1_0 : Kd.C k99 w A1_0 l1_0.length l1_0) (hc1_0 : l1_0.length ≤ c1_0) (hr2 : Kd.C (Kd.int .i64) w A2 rota.length rota) (hc2 : rota.length ≤ c2)
    (W : Wk) (hW : W = wkOf a0_0 l0_1 a0_2 a0_3 l1_0 a1_1 a1_2) (he : workE a0_0 l0_1 a0_2 a0_3 l1_0 a1_1 a1_2 = 0) (hli : listedP W rota = true) (hri : rightP W rota = true) (hk : 0 ≤ k ∧ k < W.C.length) (hs : 0 ≤ sec ∧ sec ≤ W.L)
    (n : Nat) (hnf : n = frontP sec W.T) (x : List Int) (hx : x = rotaP W k (rota.take n)) :
    Calls Try.prog 27 #[.agg #[.int .i64 a0_0, .slice A0_1 l0_1.length c0_1, .int .i64 a0_2, .int .i64 a0_3], .agg #[.slice A1_0 l1_0.length c1_0, .int .i64 a1_1, .int .i64 a1_2], .slice A2 rota.length c2, .int .i64 k, .int .i64 sec] w fun e w' => Below w.heap.size w w' ∧
      ((x.length < W.T.length ∧ e = .returned (.tuple #[.slice none 0 0, .slice none 0 0, .int .i64 7])) ∨
       (¬ x.length < W.T.length ∧ ∃ (Ad : Option Addr) (kd : Nat) (Bd : Option Addr) (ke : Nat), e = .returned (.tuple #[.slice Ad x.length kd, .slice Bd (openP W rota k sec n).length ke, .int .i64 0]) ∧ Aside0 (Kd.C (Kd.int .i64) w' Ad x.length x) ∧ Aside0 (x.length ≤ kd) ∧ Aside0 (Kd.C (Kd.int .i64) w' Bd (openP W rota k sec n).length (openP W rota k sec n)) ∧ Aside0 ((openP W rota k sec n).length ≤ ke))) := by
  obtain ⟨W1, hW1⟩ : ∃ X, X = (w.alloc (.cells #[.int .i64 a0_0, .slice A0_1 l0_1.length c0_1, .int .i64 a0_2, .int .i64 a0_3] 32)).alloc (.cells #[.slice A1_0 l1_0.length c1_0, .int .i64 a1_1, .int .i64 a1_2] 52) := ⟨_, rfl⟩
  have hB1 : Below w.heap.size w W1 := hW1 ▸ below_alloc (below_alloc (Below.refl _ _) _) _
  have hwk := work43 a0_0 A0_1 c0_1 l0_1 a0_2 a0_3 A1_0 c1_0 l1_0 a1_1 a1_2 W1 (Kd.C_below hr0_1 hB1) hc0_1 (Kd.C_below hr1_0 hB1) hc1_0
  have hn : W.Ok := hW ▸ wk_ok he
  rw [← hW] at hwk
  have HB1 := Aside0.mk hB1
  have HR2 := Aside0.mk hr2
  have HWK : Aside0 (Calls Try.prog 43 #[.agg #[.int .i64 a0_0, .slice A0_1 l0_1.length c0_1, .int .i64 a0_2, .int .i64 a0_3], .agg #[.slice A1_0 l1_0.length c1_0, .int .i64 a1_1, .int .i64 a1_2]] W1 fun e w' => ∃ p, e = .returned (.tuple #[.pointer (some ⟨p, 0, none⟩), .int .i64 0]) ∧ Aside0 (W.Here w' p ∧ Below w.heap.size w w')) := ⟨hwk.mono (fun e w' h => by
    obtain ⟨h1, ⟨h2, _⟩ | ⟨_, p, h3, h4⟩⟩ := h
    · exact absurd he h2
    · exact ⟨p, h3, ⟨h4, below_then HB1.out HB1.out.size h1⟩⟩)⟩
  have HLI : Aside0 (∀ (X : World) (p : Nat), W.Here X p → Below w.heap.size w X → Calls Try.prog 45 #[.pointer (some ⟨p, 0, none⟩), .slice A2 rota.length c2] X fun e w' => e = .returned (.bool true) ∧ Below X.heap.size X w') := ⟨fun X p hX hb => hli ▸ listed45 W hn X p hX A2 c2 rota (Kd.C_below HR2.out hb)⟩
  obtain ⟨hlT, hin⟩ := listed_parts hli
  have HRI : Aside0 (∀ (X : World) (p : Nat), W.Here X p → Below w.heap.size w X → Calls Try.prog 46 #[.pointer (some ⟨p, 0, none⟩), .slice A2 rota.length c2] X fun e w' => e = .returned (.bool true) ∧ Below X.heap.size X w') := ⟨fun X p hX hb => hri ▸ right46 W hn X p hX A2 c2 rota (Kd.C_below HR2.out hb) (by omega) hin⟩
  have hnT : n ≤ W.T.length := hnf ▸ front_le sec W.T
  have hT40 := hn.t
  have hc5 := hn.c1
  have H44 : Aside0 (∀ (X : World) (p : Nat), W.Here X p → Below w.heap.size w X → Calls Try.prog 44 #[.pointer (some ⟨p, 0, none⟩), .slice A2 n c2, .int .i64 k] X fun e w' => ∃ Ad kd, e = .returned (.tuple #[.slice Ad x.length kd, .int .i64 (reachP W k (rota.take n))]) ∧ Aside0 (Kd.C (Kd.int .i64) w' Ad x.length x) ∧ Aside0 (x.length ≤ kd) ∧ Below X.heap.size X w') := ⟨fun X p hX hb => by
    have hln : (rota.take n).length = n := by rw [List.length_take]; omega
    have hct := Kd.C_take (Kd.C_below HR2.out hb) (show n ≤ rota.length by omega)
    have h44 := least44 W hn X p hX k A2 c2 (rota.take n) (by omega) (fun r hr => by have := hin r (List.mem_of_mem_take hr); omega) hct (by omega)
    rw [hln] at h44
    refine h44.mono (fun e w' h => ?_)
    obtain ⟨v, rfl, hR, hb⟩ := h
    rw [← hx] at hR
    obtain ⟨Ad, kd, rfl⟩ := Kd.V_slice hR
    obtain ⟨_, g2, g3⟩ := Kd.V_reads' hR
    exact ⟨Ad, kd, rfl, ⟨g3⟩, ⟨g2⟩, hb⟩⟩
  have H48 : Aside0 (∀ (X : World) (p i : Nat), W.Here X p → i < W.T.length → Calls Try.prog 48 #[.pointer (some ⟨p, 0, none⟩), .int .i64 i, .int .i64 k] X fun e w' => e = .returned (.int .i64 (worstP W i k)) ∧ Below X.heap.size X w') := ⟨fun X p i hX hi => by
    obtain ⟨A1, n1, cc1, lo_, sh_, AC, cC, AT, cT, hA⟩ := hX
    exact worst48 W hn X p hA i k (by omega) (by omega) hk.1 hk.2⟩
  have H37a : Aside0 (∀ X : World, Calls Try.prog 37 #[.int .i64 k, .int .i64 0, .int .i64 ((W.C.length : Int) - 1)] X fun e w' => e = .returned (.bool true) ∧ Drawn0 X w') := ⟨fun X => by have := take_within.calls k 0 ((W.C.length : Int) - 1) _ X (within_some _ _ _); rwa [decide_eq_true (p := 0 ≤ k ∧ k ≤ (W.C.length : Int) - 1) (by omega)] at this⟩
  have H37b : Aside0 (∀ X : World, Calls Try.prog 37 #[.int .i64 sec, .int .i64 0, .int .i64 W.L] X fun e w' => e = .returned (.bool true) ∧ Drawn0 X w') := ⟨fun X => by have := take_within.calls sec 0 W.L _ X (within_some _ _ _); rwa [decide_eq_true (p := 0 ≤ sec ∧ sec ≤ W.L) hs] at this⟩
  have hR40 : rota.length ≤ 40 := by omega
  have hxl : x.length ≤ 1000000 ∨ True := .inr trivial
  obtain ⟨nr, hnr⟩ : ∃ n, n = rota.length := ⟨_, rfl⟩
  have hnc : 1 ≤ W.C.length := by omega
  obtain ⟨nC, hnC⟩ : ∃ v, v = W.C.length := ⟨_, rfl⟩
  obtain ⟨nT, hnT'⟩ : ∃ v, v = W.T.length := ⟨_, rfl⟩
  obtain ⟨LL, hLL⟩ : ∃ v, v = W.L := ⟨_, rfl⟩
  obtain ⟨op, hop⟩ : ∃ v, v = openP W rota k sec n := ⟨_, rfl⟩
  rw [← hnC] at H37a hk hc5 hnc
  rw [← hLL] at H37b hs
  rw [← hnT'] at hnT hT40 hlT
  rw [← hnT', ← hop]
  have HNC := Aside0.mk hnC
  have HNT := Aside0.mk hnT'
  have HLL := Aside0.mk hLL
  have HOP := Aside0.mk hop
  have HN := Aside0.mk hn
  have HLT := Aside0.mk hlT
  have HNR := Aside0.mk hnr
  have HNF := Aside0.mk hnf
  have HX0 := Aside0.mk hx
  subst hW1
  rw [← hnr]
  rw [← hnr] at HLI HRI hR40
  obtain ⟨k0, k1⟩ := hk
  obtain ⟨s0, s1⟩ := hs
  clear hwk hW hr0_1 hr1_0 hB1 hr2 he hli hri hn hin hlT hnr hc0_1 hc1_0 hnf hx hxl hnC hnT' hLL hop
  go_enter Try.func27, Try.ntmps27
  go_upto_region 8 with (first | (go_at_call 43; refine (HWK.out).mono ?_; rintro e w' ⟨p, rfl, hX⟩) | (go_at_call 45; refine (HLI.out _ p hX.out.1 hX.out.2).mono ?_; rintro e w2 ⟨rfl, hb⟩; have HX2 : Aside0 (W.Here w2 p ∧ Below w.heap.size w w2) := ⟨hX.out.1.below hb, hX.out.2.trans (hb.mono hX.out.2.size)⟩; clear hb) | (go_at_call 46; refine (HRI.out _ p HX2.out.1 HX2.out.2).mono ?_; rintro e w3 ⟨rfl, hb⟩; have HX3 : Aside0 (W.Here w3 p ∧ Below w.heap.size w w3) := ⟨HX2.out.1.below hb, HX2.out.2.trans (hb.mono HX2.out.2.size)⟩; clear hb))
  obtain ⟨A1, n1, cc1, lo_, sh_, AC, cC, AT, cT, hA⟩ := HX3.out.1
  have HA := Aside0.mk hA
  have HB2 := Aside0.mk HX3.out.2
  clear hA HLI HRI HWK hX HX2
  have hA' := HA.out
  have u0 : w3.cell? ⟨p, 0, none⟩ = some (.int .i64 LL) := by rw [HLL.out]; exact (blk_cell hA'.blk 0).trans rfl
  have u4 : w3.cell? ⟨p, 4, none⟩ = some (.slice AC nC cC) := by rw [HNC.out]; exact (blk_cell hA'.blk 4).trans rfl
  have u7 : w3.cell? ⟨p, 7, none⟩ = some (.slice AT nT cT) := by rw [HNT.out]; exact (blk_cell hA'.blk 7).trans rfl
  clear hA'
  go_upto_region 10 with (first | (go_at_call 37; (with_reducible refine (H37a.out _).mono ?_); rintro e w4 ⟨rfl, ⟨nd, rfl⟩⟩) | (go_at_call 37; (with_reducible refine (H37b.out _).mono ?_); rintro e w4 ⟨rfl, ⟨nd2, rfl⟩⟩))
  have HBy := Aside0.mk (pw_below_drewN (Below.refl w3.heap.size w3) (nd + nd2))
  have HAy := Aside0.mk (HA.out.below HBy.out)
  have HB3 : Aside0 (Below w.heap.size w (w3.drewN (nd + nd2))) := ⟨HB2.out.trans (HBy.out.mono HB2.out.size)⟩
  go_wp2_with fail
  generalize w3.drewN (nd + nd2) = y at HAy HB3 ⊢
  clear HA HB2 HBy HX3 u0 u4 u7 H37a H37b
  have hR0 : Aside0 (Kd.R (Kd.int .i64) 3 y y.heap.size (fun _ => True) (.slice none 0 0) (openP W rota k sec 0)) := ⟨Kd.R_nil _ _ _ _ _⟩
  go_loopw [11, 14] (fun v11 v14 wr => ∃ i : Nat, i ≤ n ∧ v14 = .int .i64 i ∧ Aside0 (Kd.R (Kd.int .i64) 3 wr y.heap.size (fun _ => True) v11 (openP W rota k sec i)) ∧ Aside0 (Below y.heap.size y wr)) (fun _ v14 _ => n - (intOf v14).toNat)
  case atStart => exact ⟨0, Nat.zero_le _, rfl, hR0, ⟨Below.refl _ _⟩⟩
  case round =>
    obtain ⟨i, hi, rfl, HR, HB⟩ := hrel
    have HAw := Aside0.mk (HAy.out.below HB.out)
    have HBw : Aside0 (Below w.heap.size w wr) := ⟨HB3.out.trans (HB.out.mono HB3.out.size)⟩
    have u7 : wr.cell? ⟨p, 7, none⟩ = some (.slice AT nT cT) := by rw [HNT.out]; exact (blk_cell HAw.out.blk 7).trans rfl
    by_cases hlt : i < n
    · have hiT : i < nT := by omega
      obtain ⟨t0, ht0⟩ : ∃ v, v = (rd_T35 W.T i).f0 := ⟨_, rfl⟩
      obtain ⟨ad, eAT, m0, _⟩ := at_T35 HAw.out.tk (i : Int) (by omega) (by rw [← HNT.out]; omega)
      subst eAT
      rw [Int.toNat_natCast, ← ht0] at m0
      have hts : t0 < sec := by rw [ht0]; exact front_lt' (by rw [← HNF.out]; exact hlt)
      have hir : i < rota.length := by have := HLT.out; omega
      obtain ⟨rdd, eA2, c0⟩ := at3 (Kd.C_below HR2.out HBw.out) i hir
      subst eA2
      obtain ⟨rv, hrv⟩ : ∃ v, v = rota[i] := ⟨_, rfl⟩
      rw [← hrv] at c0
      obtain ⟨wv, hwv⟩ : ∃ v, v = worstP W i k := ⟨_, rfl⟩
      have H48' : Aside0 (∀ X, Below wr.heap.size wr X → Calls Try.prog 48 #[.pointer (some ⟨p, 0, none⟩), .int .i64 i, .int .i64 k] X fun e w' => e = .returned (.int .i64 wv) ∧ Below X.heap.size X w') := ⟨fun X hX => by rw [hwv]; exact H48.out _ p i ⟨_, _, _, _, _, _, _, _, _, HAw.out.below hX⟩ (by rw [← HNT.out]; exact hiT)⟩
      have HLATE : Aside0 (lateP W rota k sec i ↔ rv = k ∧ sec < wv) := ⟨by rw [lateP, List.getD_eq_getElem?_getD, List.getElem?_eq_getElem hir, hwv, hrv]; rfl⟩
      have hir2 : i < nr := by rw [HNR.out]; exact hir
      clear ht0 hrv hwv hir hi
      by_cases hrk : rv = k
      · subst hrk
        by_cases hw : sec < wv
        · have HST : Aside0 (openP W rota rv sec (i + 1) = openP W rota rv sec i ++ [(i : Int)]) := ⟨by rw [openP, if_pos (HLATE.out.2 ⟨rfl, hw⟩)]⟩
          have hol := open_length W rota rv sec i
          go_wp2_with (first | (go_at_call 48; (with_reducible refine (H48'.out _ (by repeat (first | exact Below.refl _ _ | apply below_drew | apply pw_below_drewN))).mono ?_); rintro e x1 ⟨rfl, hb⟩; have HBx := Aside0.mk hb; clear hb) | (at_builtin; refine Kd.R_append (Kd.int .i64) (w0 := y) y.heap.size rfl (.tmp 91) (.tmp 93) 46 3 (.int .i64 0) 8 rfl Try.underlying46 info3 rfl (by decide) (by decide) u11 (openP W rota rv sec i) (i : Int) [.int .i64 i] (fun _ => True) (fun _ => False) rfl rfl rfl (fun _ hk => hk.elim) (fun _ _ => trivial) (Kd.R_below HR.out HBx.out) (HB.out.trans (HBx.out.mono HB.out.size)) (Nat.le_trans HB.out.size HBx.out.size) (by omega) ?_; intro v1 x2 hR1 hB1 _ _; have HRv := Aside0.mk hR1; have HBv := Aside0.mk hB1; clear hR1 hB1))
          go_roundw
          case rel => exact ⟨i + 1, by omega, by go_num, ⟨by rw [HST.out]; exact HRv.out⟩, HBv⟩
          case measure => simp [intOf]; omega
        · have HST : Aside0 (openP W rota rv sec (i + 1) = openP W rota rv sec i) := ⟨by rw [openP, if_neg (fun h => hw (HLATE.out.1 h).2)]; simp⟩
          go_wp2_with (first | (go_at_call 48; (with_reducible refine (H48'.out _ (by repeat (first | exact Below.refl _ _ | apply below_drew | apply pw_below_drewN))).mono ?_); rintro e x1 ⟨rfl, hb⟩; have HBx := Aside0.mk hb; clear hb))
          go_roundw
          case rel => exact ⟨i + 1, by omega, by go_num, ⟨by rw [HST.out]; exact Kd.R_below HR.out HBx.out⟩, ⟨HB.out.trans (HBx.out.mono HB.out.size)⟩⟩
          case measure => simp [intOf]; omega
      · have HST : Aside0 (openP W rota k sec (i + 1) = openP W rota k sec i) := ⟨by rw [openP, if_neg (fun h => hrk (HLATE.out.1 h).1)]; simp⟩
        go_wp2
        go_roundw
        case rel => exact ⟨i + 1, by omega, by go_num, ⟨by rw [HST.out]; exact HR.out⟩, HB⟩
        case measure => simp [intOf]; omega
    · have hin : i = n := by omega
      subst hin
      clear hlt hi
      have HT0 : Aside0 (∀ hi : i < nT, sec ≤ (rd_T35 W.T i).f0) := ⟨fun hi => by have := front_end' (sec := sec) (T := W.T) (by rw [← HNF.out, ← HNT.out]; exact hi); rwa [← HNF.out] at this⟩
      have H44' : Aside0 (∀ X, Below wr.heap.size wr X → Calls Try.prog 44 #[.pointer (some ⟨p, 0, none⟩), .slice A2 i c2, .int .i64 k] X fun e w' => ∃ Ad kd, e = .returned (.tuple #[.slice Ad x.length kd, .int .i64 (reachP W k (rota.take i))]) ∧ Aside0 (Kd.C (Kd.int .i64) w' Ad x.length x) ∧ Aside0 (x.length ≤ kd) ∧ Below X.heap.size X w') := ⟨fun X hX => H44.out X p ⟨_, _, _, _, _, _, _, _, _, HAw.out.below hX⟩ (HBw.out.trans (hX.mono HBw.out.size))⟩
      obtain ⟨rch, hrch⟩ : ∃ v, v = reachP W k (rota.take i) := ⟨_, rfl⟩
      rw [← hrch] at H44'
      clear hrch H44
      have hHR := HR.out
      rw [← HOP.out] at hHR
      obtain ⟨Bd, ke, eB⟩ := Kd.R_slice hHR
      subst eB
      have HRO := Aside0.mk hHR
      clear hHR HR
      have hcn : A2 = none → nr = 0 := fun h => by
        have := HR2.out
        rw [h] at this
        have h3 := C_none this
        rw [HNR.out, h3]; rfl
      have hinr : i ≤ nr := by have := HLT.out; have := HNR.out; omega
      have hnr2 : nr ≤ c2 := by rw [HNR.out]; exact hc2
      have X44 := 0
      by_cases hxx : x.length < nT
      · by_cases hnn : i < nT
        · obtain ⟨t0, ht0⟩ : ∃ v, v = (rd_T35 W.T i).f0 := ⟨_, rfl⟩
          obtain ⟨ad, eAT, m0, _⟩ := at_T35 HAw.out.tk (i : Int) (by omega) (by rw [← HNT.out]; omega)
          subst eAT
          rw [Int.toNat_natCast, ← ht0] at m0
          have hts : ¬ t0 < sec := by rw [ht0]; have := HT0.out hnn; omega
          clear ht0
          go_wp2_with (first | (go_at_call 44; (with_reducible refine (H44'.out _ (Below.refl _ _)).mono ?_); rintro e x4 ⟨Ad, kd, rfl, HC4, HK4, hb⟩; have HB4 := Aside0.mk hb; have u8 := pw_cell_below hb u7; clear hb))
          go_ret3
          exact ⟨HBw.out.trans (HB4.out.mono HBw.out.size), .inl ⟨hxx, rfl⟩⟩
        · go_wp2_with (first | (go_at_call 44; (with_reducible refine (H44'.out _ (Below.refl _ _)).mono ?_); rintro e x4 ⟨Ad, kd, rfl, HC4, HK4, hb⟩; have HB4 := Aside0.mk hb; have u8 := pw_cell_below hb u7; clear hb))
          go_ret3
          exact ⟨HBw.out.trans (HB4.out.mono HBw.out.size), .inl ⟨hxx, rfl⟩⟩
      · by_cases hnn : i < nT
        · obtain ⟨t0, ht0⟩ : ∃ v, v = (rd_T35 W.T i).f0 := ⟨_, rfl⟩
          obtain ⟨ad, eAT, m0, _⟩ := at_T35 HAw.out.tk (i : Int) (by omega) (by rw [← HNT.out]; omega)
          subst eAT
          rw [Int.toNat_natCast, ← ht0] at m0
          have hts : ¬ t0 < sec := by rw [ht0]; have := HT0.out hnn; omega
          clear ht0
          go_wp2_with (first | (go_at_call 44; (with_reducible refine (H44'.out _ (Below.refl _ _)).mono ?_); rintro e x4 ⟨Ad, kd, rfl, HC4, HK4, hb⟩; have HB4 := Aside0.mk hb; have u8 := pw_cell_below hb u7; clear hb))
          go_ret3
          exact ⟨HBw.out.trans (HB4.out.mono HBw.out.size), .inr ⟨hxx, Ad, kd, Bd, ke, rfl, HC4, HK4, ⟨Kd.C_below (Kd.R_reads' HRO.out).2.2 HB4.out⟩, ⟨(Kd.R_reads' HRO.out).2.1⟩⟩⟩
        · go_wp2_with (first | (go_at_call 44; (with_reducible refine (H44'.out _ (Below.refl _ _)).mono ?_); rintro e x4 ⟨Ad, kd, rfl, HC4, HK4, hb⟩; have HB4 := Aside0.mk hb; have u8 := pw_cell_below hb u7; clear hb))
          go_ret3
          exact ⟨HBw.out.trans (HB4.out.mono HBw.out.size), .inr ⟨hxx, Ad, kd, Bd, ke, rfl, HC4, HK4, ⟨Kd.C_below (Kd.R_reads' HRO.out).2.2 HB4.out⟩, ⟨(Kd.R_reads' HRO.out).2.1⟩⟩⟩
end Go.Proofs.Ytillieimgjdpbaa.Pr
namespace Go.Proofs.Ytillieimgjdpbaa.Pr
open Go.RowKit Go.Proofs.YtillieimgjdpbaaW.PrintWords Go.Proofs.YtillieimgjdpbaaW.PrintLast Go.Proofs.YtillieimgjdpbaaW.PrintMore
set_option linter.unusedVariables false
set_option linter.unusedSimpArgs false
set_option maxRecDepth 100000 in
set_option maxHeartbeats 4000000 in
theorem done26_range (a0_0 : Int) (A0_1 : Option Addr) (c0_1 : Nat) (l0_1 : List (S35)) (a0_2 : Int) (a0_3 : Int) (A1_0 : Option Addr) (c1_0 : Nat) (l1_0 : List (S99)) (a1_1 : Int) (a1_2 : Int) (A2 : Option Addr) (c2 : Nat) (rota : List Int) (V3 : Option Addr) (n3 c3 : Nat) (w : World) (hr0_1 : Kd.C k35 w A0_1 l0_1.length l0_1) (hc0_1 : l0_1.length ≤ c0_1) (hr1_0 : Kd.C k99 w A1_0 l1_0.length l1_0) (hc1_0 : l1_0.length ≤ c1_0) (hr2 : Kd.C (Kd.int .i64) w A2 rota.length rota) (hc2 : rota.length ≤ c2)
    (W : Wk) (hW : W = wkOf a0_0 l0_1 a0_2 a0_3 l1_0 a1_1 a1_2) (he : workE a0_0 l0_1 a0_2 a0_3 l1_0 a1_1 a1_2 = 0) (hli : listedP W rota = false) :
    Calls Try.prog 26 #[.agg #[.int .i64 a0_0, .slice A0_1 l0_1.length c0_1, .int .i64 a0_2, .int .i64 a0_3], .agg #[.slice A1_0 l1_0.length c1_0, .int .i64 a1_1, .int .i64 a1_2], .slice A2 rota.length c2, .slice V3 n3 c3] w fun e w' => e = .returned (.tuple #[.slice none 0 0, .int .i64 2]) ∧ Below w.heap.size w w' := by
  obtain ⟨W1, hW1⟩ : ∃ X, X = (w.alloc (.cells #[.int .i64 a0_0, .slice A0_1 l0_1.length c0_1, .int .i64 a0_2, .int .i64 a0_3] 32)).alloc (.cells #[.slice A1_0 l1_0.length c1_0, .int .i64 a1_1, .int .i64 a1_2] 52) := ⟨_, rfl⟩
  have hB1 : Below w.heap.size w W1 := hW1 ▸ below_alloc (below_alloc (Below.refl _ _) _) _
  have hwk := work43 a0_0 A0_1 c0_1 l0_1 a0_2 a0_3 A1_0 c1_0 l1_0 a1_1 a1_2 W1 (Kd.C_below hr0_1 hB1) hc0_1 (Kd.C_below hr1_0 hB1) hc1_0
  have hn : W.Ok := hW ▸ wk_ok he
  rw [← hW] at hwk
  have HB1 := Aside0.mk hB1
  have HR2 := Aside0.mk hr2
  have HWK : Aside0 (Calls Try.prog 43 #[.agg #[.int .i64 a0_0, .slice A0_1 l0_1.length c0_1, .int .i64 a0_2, .int .i64 a0_3], .agg #[.slice A1_0 l1_0.length c1_0, .int .i64 a1_1, .int .i64 a1_2]] W1 fun e w' => ∃ p, e = .returned (.tuple #[.pointer (some ⟨p, 0, none⟩), .int .i64 0]) ∧ Aside0 (W.Here w' p ∧ Below w.heap.size w w')) := ⟨hwk.mono (fun e w' h => by
    obtain ⟨h1, ⟨h2, _⟩ | ⟨_, p, h3, h4⟩⟩ := h
    · exact absurd he h2
    · exact ⟨p, h3, ⟨h4, below_then HB1.out HB1.out.size h1⟩⟩)⟩
  have HLI : Aside0 (∀ (X : World) (p : Nat), W.Here X p → Below w.heap.size w X → Calls Try.prog 45 #[.pointer (some ⟨p, 0, none⟩), .slice A2 rota.length c2] X fun e w' => e = .returned (.bool false) ∧ Below X.heap.size X w') := ⟨fun X p hX hb => hli ▸ listed45 W hn X p hX A2 c2 rota (Kd.C_below HR2.out hb)⟩
  subst hW1
  clear hwk hW hr0_1 hr1_0 hB1 hr2 he hli hn hc0_1 hc1_0
  go_enter Try.func26, Try.ntmps26
  go_wp2_with (first | (go_at_call 43; refine (HWK.out).mono ?_; rintro e w' ⟨p, rfl, hX⟩) | (go_at_call 45; refine (HLI.out _ p hX.out.1 hX.out.2).mono ?_; rintro e w2 ⟨rfl, hb⟩; have HX2 : Aside0 (W.Here w2 p ∧ Below w.heap.size w w2) := ⟨hX.out.1.below hb, hX.out.2.trans (hb.mono hX.out.2.size)⟩; clear hb))
  go_ret2
  exact ⟨rfl, HX2.out.2⟩
set_option maxRecDepth 100000 in
set_option maxHeartbeats 4000000 in
theorem done26_arg (a0_0 : Int) (A0_1 : Option Addr) (c0_1 : Nat) (l0_1 : List (S35)) (a0_2 : Int) (a0_3 : Int) (A1_0 : Option Addr) (c1_0 : Nat) (l1_0 : List (S99)) (a1_1 : Int) (a1_2 : Int) (A2 : Option Addr) (c2 : Nat) (rota : List Int) (V3 : Option Addr) (n3 c3 : Nat) (w : World) (hr0_1 : Kd.C k35 w A0_1 l0_1.length l0_1) (hc0_1 : l0_1.length ≤ c0_1) (hr1_0 : Kd.C k99 w A1_0 l1_0.length l1_0) (hc1_0 : l1_0.length ≤ c1_0) (hr2 : Kd.C (Kd.int .i64) w A2 rota.length rota) (hc2 : rota.length ≤ c2)
    (W : Wk) (hW : W = wkOf a0_0 l0_1 a0_2 a0_3 l1_0 a1_1 a1_2) (he : workE a0_0 l0_1 a0_2 a0_3 l1_0 a1_1 a1_2 = 0) (hli : listedP W rota = true) (hnn : n3 ≠ rota.length) :
    Calls Try.prog 26 #[.agg #[.int .i64 a0_0, .slice A0_1 l0_1.length c0_1, .int .i64 a0_2, .int .i64 a0_3], .agg #[.slice A1_0 l1_0.length c1_0, .int .i64 a1_1, .int .i64 a1_2], .slice A2 rota.length c2, .slice V3 n3 c3] w fun e w' => e = .returned (.tuple #[.slice none 0 0, .int .i64 1]) ∧ Below w.heap.size w w' := by
  obtain ⟨W1, hW1⟩ : ∃ X, X = (w.alloc (.cells #[.int .i64 a0_0, .slice A0_1 l0_1.length c0_1, .int .i64 a0_2, .int .i64 a0_3] 32)).alloc (.cells #[.slice A1_0 l1_0.length c1_0, .int .i64 a1_1, .int .i64 a1_2] 52) := ⟨_, rfl⟩
  have hB1 : Below w.heap.size w W1 := hW1 ▸ below_alloc (below_alloc (Below.refl _ _) _) _
  have hwk := work43 a0_0 A0_1 c0_1 l0_1 a0_2 a0_3 A1_0 c1_0 l1_0 a1_1 a1_2 W1 (Kd.C_below hr0_1 hB1) hc0_1 (Kd.C_below hr1_0 hB1) hc1_0
  have hn : W.Ok := hW ▸ wk_ok he
  rw [← hW] at hwk
  have HB1 := Aside0.mk hB1
  have HR2 := Aside0.mk hr2
  have HWK : Aside0 (Calls Try.prog 43 #[.agg #[.int .i64 a0_0, .slice A0_1 l0_1.length c0_1, .int .i64 a0_2, .int .i64 a0_3], .agg #[.slice A1_0 l1_0.length c1_0, .int .i64 a1_1, .int .i64 a1_2]] W1 fun e w' => ∃ p, e = .returned (.tuple #[.pointer (some ⟨p, 0, none⟩), .int .i64 0]) ∧ Aside0 (W.Here w' p ∧ Below w.heap.size w w')) := ⟨hwk.mono (fun e w' h => by
    obtain ⟨h1, ⟨h2, _⟩ | ⟨_, p, h3, h4⟩⟩ := h
    · exact absurd he h2
    · exact ⟨p, h3, ⟨h4, below_then HB1.out HB1.out.size h1⟩⟩)⟩
  have HLI : Aside0 (∀ (X : World) (p : Nat), W.Here X p → Below w.heap.size w X → Calls Try.prog 45 #[.pointer (some ⟨p, 0, none⟩), .slice A2 rota.length c2] X fun e w' => e = .returned (.bool true) ∧ Below X.heap.size X w') := ⟨fun X p hX hb => hli ▸ listed45 W hn X p hX A2 c2 rota (Kd.C_below HR2.out hb)⟩
  have hnb : ((n3 : Int) == (rota.length : Int)) = false := by simp; omega
  subst hW1
  clear hwk hW hr0_1 hr1_0 hB1 hr2 he hli hn hc0_1 hc1_0
  go_enter Try.func26, Try.ntmps26
  go_wp2_with (first | (go_at_call 43; refine (HWK.out).mono ?_; rintro e w' ⟨p, rfl, hX⟩) | (go_at_call 45; refine (HLI.out _ p hX.out.1 hX.out.2).mono ?_; rintro e w2 ⟨rfl, hb⟩; have HX2 : Aside0 (W.Here w2 p ∧ Below w.heap.size w w2) := ⟨hX.out.1.below hb, hX.out.2.trans (hb.mono hX.out.2.size)⟩; clear hb))
  go_ret2
  exact ⟨rfl, HX2.out.2⟩
set_option maxRecDepth 100000 in
set_option maxHeartbeats 4000000 in
theorem relieve27_fail (a0_0 : Int) (A0_1 : Option Addr) (c0_1 : Nat) (l0_1 : List (S35)) (a0_2 : Int) (a0_3 : Int) (A1_0 : Option Addr) (c1_0 : Nat) (l1_0 : List (S99)) (a1_1 : Int) (a1_2 : Int) (A2 : Option Addr) (c2 : Nat) (rota : List Int) (k sec : Int) (w : World) (hr0_1 : Kd.C k35 w A0_1 l0_1.length l0_1) (hc0_1 : l0_1.length ≤ c0_1) (hr1_0 : Kd.C k99 w A1_0 l1_0.length l1_0) (hc1_0 : l1_0.length ≤ c1_0) (hr2 : Kd.C (Kd.int .i64) w A2 rota.length rota) (hc2 : rota.length ≤ c2)
    (W : Wk) (hW : W = wkOf a0_0 l0_1 a0_2 a0_3 l1_0 a1_1 a1_2) (he : workE a0_0 l0_1 a0_2 a0_3 l1_0 a1_1 a1_2 = 0) (hli : listedP W rota = true) (hri : rightP W rota = false) :
    Calls Try.prog 27 #[.agg #[.int .i64 a0_0, .slice A0_1 l0_1.length c0_1, .int .i64 a0_2, .int .i64 a0_3], .agg #[.slice A1_0 l1_0.length c1_0, .int .i64 a1_1, .int .i64 a1_2], .slice A2 rota.length c2, .int .i64 k, .int .i64 sec] w fun e w' => e = .returned (.tuple #[.slice none 0 0, .slice none 0 0, .int .i64 9]) ∧ Below w.heap.size w w' := by
  obtain ⟨W1, hW1⟩ : ∃ X, X = (w.alloc (.cells #[.int .i64 a0_0, .slice A0_1 l0_1.length c0_1, .int .i64 a0_2, .int .i64 a0_3] 32)).alloc (.cells #[.slice A1_0 l1_0.length c1_0, .int .i64 a1_1, .int .i64 a1_2] 52) := ⟨_, rfl⟩
  have hB1 : Below w.heap.size w W1 := hW1 ▸ below_alloc (below_alloc (Below.refl _ _) _) _
  have hwk := work43 a0_0 A0_1 c0_1 l0_1 a0_2 a0_3 A1_0 c1_0 l1_0 a1_1 a1_2 W1 (Kd.C_below hr0_1 hB1) hc0_1 (Kd.C_below hr1_0 hB1) hc1_0
  have hn : W.Ok := hW ▸ wk_ok he
  rw [← hW] at hwk
  have HB1 := Aside0.mk hB1
  have HR2 := Aside0.mk hr2
  have HWK : Aside0 (Calls Try.prog 43 #[.agg #[.int .i64 a0_0, .slice A0_1 l0_1.length c0_1, .int .i64 a0_2, .int .i64 a0_3], .agg #[.slice A1_0 l1_0.length c1_0, .int .i64 a1_1, .int .i64 a1_2]] W1 fun e w' => ∃ p, e = .returned (.tuple #[.pointer (some ⟨p, 0, none⟩), .int .i64 0]) ∧ Aside0 (W.Here w' p ∧ Below w.heap.size w w')) := ⟨hwk.mono (fun e w' h => by
    obtain ⟨h1, ⟨h2, _⟩ | ⟨_, p, h3, h4⟩⟩ := h
    · exact absurd he h2
    · exact ⟨p, h3, ⟨h4, below_then HB1.out HB1.out.size h1⟩⟩)⟩
  have HLI : Aside0 (∀ (X : World) (p : Nat), W.Here X p → Below w.heap.size w X → Calls Try.prog 45 #[.pointer (some ⟨p, 0, none⟩), .slice A2 rota.length c2] X fun e w' => e = .returned (.bool true) ∧ Below X.heap.size X w') := ⟨fun X p hX hb => hli ▸ listed45 W hn X p hX A2 c2 rota (Kd.C_below HR2.out hb)⟩
  obtain ⟨hlT, hin⟩ := listed_parts hli
  have hT40 := hn.t
  have HRI : Aside0 (∀ (X : World) (p : Nat), W.Here X p → Below w.heap.size w X → Calls Try.prog 46 #[.pointer (some ⟨p, 0, none⟩), .slice A2 rota.length c2] X fun e w' => e = .returned (.bool false) ∧ Below X.heap.size X w') := ⟨fun X p hX hb => hri ▸ right46 W hn X p hX A2 c2 rota (Kd.C_below HR2.out hb) (by omega) hin⟩
  subst hW1
  clear hwk hW hr0_1 hr1_0 hB1 hr2 he hli hn hc0_1 hc1_0 hri hin hlT
  go_enter Try.func27, Try.ntmps27
  go_wp2_with (first | (go_at_call 43; refine (HWK.out).mono ?_; rintro e w' ⟨p, rfl, hX⟩) | (go_at_call 45; refine (HLI.out _ p hX.out.1 hX.out.2).mono ?_; rintro e w2 ⟨rfl, hb⟩; have HX2 : Aside0 (W.Here w2 p ∧ Below w.heap.size w w2) := ⟨hX.out.1.below hb, hX.out.2.trans (hb.mono hX.out.2.size)⟩; clear hb) | (go_at_call 46; refine (HRI.out _ p HX2.out.1 HX2.out.2).mono ?_; rintro e w3 ⟨rfl, hb⟩; have HX3 : Aside0 (W.Here w3 p ∧ Below w.heap.size w w3) := ⟨HX2.out.1.below hb, HX2.out.2.trans (hb.mono HX2.out.2.size)⟩; clear hb))
  go_ret3
  exact ⟨rfl, HX3.out.2⟩
set_option maxRecDepth 100000 in
set_option maxHeartbeats 4000000 in
theorem relieve27_range (a0_0 : Int) (A0_1 : Option Addr) (c0_1 : Nat) (l0_1 : List (S35)) (a0_2 : Int) (a0_3 : Int) (A1_0 : Option Addr) (c1_0 : Nat) (l1_0 : List (S99)) (a1_1 : Int) (a1_2 : Int) (A2 : Option Addr) (c2 : Nat) (rota : List Int) (k sec : Int) (w : World) (hr0_1 : Kd.C k35 w A0_1 l0_1.length l0_1) (hc0_1 : l0_1.length ≤ c0_1) (hr1_0 : Kd.C k99 w A1_0 l1_0.length l1_0) (hc1_0 : l1_0.length ≤ c1_0) (hr2 : Kd.C (Kd.int .i64) w A2 rota.length rota) (hc2 : rota.length ≤ c2)
    (W : Wk) (hW : W = wkOf a0_0 l0_1 a0_2 a0_3 l1_0 a1_1 a1_2) (he : workE a0_0 l0_1 a0_2 a0_3 l1_0 a1_1 a1_2 = 0) (hli : listedP W rota = true) (hri : rightP W rota = true) (hk : (W.C.length : Int) - 1 < k) :
    Calls Try.prog 27 #[.agg #[.int .i64 a0_0, .slice A0_1 l0_1.length c0_1, .int .i64 a0_2, .int .i64 a0_3], .agg #[.slice A1_0 l1_0.length c1_0, .int .i64 a1_1, .int .i64 a1_2], .slice A2 rota.length c2, .int .i64 k, .int .i64 sec] w fun e w' => e = .returned (.tuple #[.slice none 0 0, .slice none 0 0, .int .i64 2]) ∧ Below w.heap.size w w' := by
  obtain ⟨W1, hW1⟩ : ∃ X, X = (w.alloc (.cells #[.int .i64 a0_0, .slice A0_1 l0_1.length c0_1, .int .i64 a0_2, .int .i64 a0_3] 32)).alloc (.cells #[.slice A1_0 l1_0.length c1_0, .int .i64 a1_1, .int .i64 a1_2] 52) := ⟨_, rfl⟩
  have hB1 : Below w.heap.size w W1 := hW1 ▸ below_alloc (below_alloc (Below.refl _ _) _) _
  have hwk := work43 a0_0 A0_1 c0_1 l0_1 a0_2 a0_3 A1_0 c1_0 l1_0 a1_1 a1_2 W1 (Kd.C_below hr0_1 hB1) hc0_1 (Kd.C_below hr1_0 hB1) hc1_0
  have hn : W.Ok := hW ▸ wk_ok he
  rw [← hW] at hwk
  have HB1 := Aside0.mk hB1
  have HR2 := Aside0.mk hr2
  have HWK : Aside0 (Calls Try.prog 43 #[.agg #[.int .i64 a0_0, .slice A0_1 l0_1.length c0_1, .int .i64 a0_2, .int .i64 a0_3], .agg #[.slice A1_0 l1_0.length c1_0, .int .i64 a1_1, .int .i64 a1_2]] W1 fun e w' => ∃ p, e = .returned (.tuple #[.pointer (some ⟨p, 0, none⟩), .int .i64 0]) ∧ Aside0 (W.Here w' p ∧ Below w.heap.size w w')) := ⟨hwk.mono (fun e w' h => by
    obtain ⟨h1, ⟨h2, _⟩ | ⟨_, p, h3, h4⟩⟩ := h
    · exact absurd he h2
    · exact ⟨p, h3, ⟨h4, below_then HB1.out HB1.out.size h1⟩⟩)⟩
  have HLI : Aside0 (∀ (X : World) (p : Nat), W.Here X p → Below w.heap.size w X → Calls Try.prog 45 #[.pointer (some ⟨p, 0, none⟩), .slice A2 rota.length c2] X fun e w' => e = .returned (.bool true) ∧ Below X.heap.size X w') := ⟨fun X p hX hb => hli ▸ listed45 W hn X p hX A2 c2 rota (Kd.C_below HR2.out hb)⟩
  obtain ⟨hlT, hin⟩ := listed_parts hli
  have hT40 := hn.t
  have HRI : Aside0 (∀ (X : World) (p : Nat), W.Here X p → Below w.heap.size w X → Calls Try.prog 46 #[.pointer (some ⟨p, 0, none⟩), .slice A2 rota.length c2] X fun e w' => e = .returned (.bool true) ∧ Below X.heap.size X w') := ⟨fun X p hX hb => hri ▸ right46 W hn X p hX A2 c2 rota (Kd.C_below HR2.out hb) (by omega) hin⟩
  have hc5 := hn.c1
  have hc0 := hn.c0
  have H37a : Aside0 (∀ X : World, Calls Try.prog 37 #[.int .i64 k, .int .i64 0, .int .i64 ((W.C.length : Int) - 1)] X fun e w' => e = .returned (.bool false) ∧ Drawn0 X w') := ⟨fun X => by have := take_within.calls k 0 ((W.C.length : Int) - 1) _ X (within_some _ _ _); rwa [decide_eq_false (p := 0 ≤ k ∧ k ≤ (W.C.length : Int) - 1) (by omega)] at this⟩
  obtain ⟨nC, hnC⟩ : ∃ v, v = W.C.length := ⟨_, rfl⟩
  rw [← hnC] at H37a hc5 hc0
  have HNC := Aside0.mk hnC
  subst hW1
  clear hwk hW hr0_1 hr1_0 hB1 hr2 he hli hn hc0_1 hc1_0 hri hin hlT hnC
  go_enter Try.func27, Try.ntmps27
  go_upto_region 8 with (first | (go_at_call 43; refine (HWK.out).mono ?_; rintro e w' ⟨p, rfl, hX⟩) | (go_at_call 45; refine (HLI.out _ p hX.out.1 hX.out.2).mono ?_; rintro e w2 ⟨rfl, hb⟩; have HX2 : Aside0 (W.Here w2 p ∧ Below w.heap.size w w2) := ⟨hX.out.1.below hb, hX.out.2.trans (hb.mono hX.out.2.size)⟩; clear hb) | (go_at_call 46; refine (HRI.out _ p HX2.out.1 HX2.out.2).mono ?_; rintro e w3 ⟨rfl, hb⟩; have HX3 : Aside0 (W.Here w3 p ∧ Below w.heap.size w w3) := ⟨HX2.out.1.below hb, HX2.out.2.trans (hb.mono HX2.out.2.size)⟩; clear hb))
  obtain ⟨A1, n1, cc1, lo_, sh_, AC, cC, AT, cT, hA⟩ := HX3.out.1
  have HB2 := Aside0.mk HX3.out.2
  have u4 : w3.cell? ⟨p, 4, none⟩ = some (.slice AC nC cC) := by rw [HNC.out]; exact (blk_cell hA.blk 4).trans rfl
  clear hA
  go_wp2_with (first | (go_at_call 37; (with_reducible refine (H37a.out _).mono ?_); rintro e w4 ⟨rfl, ⟨nd, rfl⟩⟩))
  go_ret3
  exact ⟨rfl, pw_below_drewN HB2.out _⟩
end Go.Proofs.Ytillieimgjdpbaa.Pr
namespace Go.Proofs.Ytillieimgjdpbaa.Pr
open Go.RowKit Go.Proofs.YtillieimgjdpbaaW.PrintWords Go.Proofs.YtillieimgjdpbaaW.PrintLast Go.Proofs.YtillieimgjdpbaaW.PrintMore
attribute [local go_sem] max2_int min2_int max_two min_two max_three min_three max_four min_four   -- for this text's walks alone
set_option linter.unusedVariables false
set_option linter.unusedSimpArgs false
def take_CheckSitting.f (a0_0 : Int) (l0_1 : List (S35)) (a0_2 : Int) (a0_3 : Int) : Option (Int) := (take_Sitting_check.f a0_0 l0_1 a0_2 a0_3).bind fun bt615 => (some bt615.2)
set_option maxHeartbeats 8000000 in
set_option maxRecDepth 100000 in
theorem take_CheckSitting.calls (a0_0 : Int) (A0_1 : Option Addr) (c0_1 : Nat) (l0_1 : List (S35)) (a0_2 : Int) (a0_3 : Int) (r : Int) (w : World) (hr0_1 : Kd.C k35 w A0_1 l0_1.length l0_1) (hc0_1 : l0_1.length ≤ c0_1) (h : take_CheckSitting.f a0_0 l0_1 a0_2 a0_3 = some r) :
    Calls Try.prog 30 #[.agg #[.int .i64 a0_0, .slice A0_1 l0_1.length c0_1, .int .i64 a0_2, .int .i64 a0_3]] w fun e w' => e = .returned (.int .i64 r) ∧ Below w.heap.size w w' := by
  have hu32 := Try.underlying32
  have HR0_1 := Aside0.mk hr0_1
  have HC0_1 := Aside0.mk hc0_1
  clear hr0_1 hc0_1
  have HB := Aside0.mk (Below.refl w.heap.size w)
  have H : ((take_Sitting_check.f a0_0 l0_1 a0_2 a0_3).bind fun bt615 => (some bt615.2)) = some r := h
  clear h
  replace H := Option.bind_eq_some_iff.mp H
  obtain ⟨⟨t615, t618⟩, A20, H⟩ := H
  replace H : (some t618) = some r := H
  have A2 := Aside0.mk A20
  clear A20
  obtain rfl := Option.some.inj H
  go_enter Try.func30, Try.ntmps30
  go_wp2_with (first | ((with_reducible refine gate_dst (N := 1) rfl ?_); refine box_event ?hg (N := 1) ?hd (cs := #[.int .i64 a0_0, .slice A0_1 l0_1.length c0_1, .int .i64 a0_2, .int .i64 a0_3]) (t := 32) ?hr ?_; (case hd => rfl); (case hg => rfl); (case hr => first | (go_simp; done) | (go_simp; rfl)); intro gb614 hg w3 hbox hb; have n0_ := Aside0.mk (below_step (by repeat (first | (with_reducible first | exact HB.out | apply below_alloc | apply pw_below_drewN | apply below_drew1) | exact HB.out)) hb); have n1_ := Aside0.mk (hbox); have n2_ := Aside0.mk ((by rw [hg]; exact (below_size (by repeat (first | (with_reducible first | exact HB.out | apply below_alloc | apply pw_below_drewN | apply below_drew1) | exact HB.out))) : w.heap.size ≤ gb614)); have n3_ := Aside0.mk ((by rw [hg]; exact (below_size (by repeat (first | (with_reducible first | exact HB.out | apply below_alloc | apply pw_below_drewN | apply below_drew1) | exact HB.out))) : w.heap.size ≤ gb614)); clear HB; have HB := n0_; have BK614 := n1_; have GW614 := n2_; have GE614 := n3_; clear n0_ n1_ n2_ n3_; clear hb hbox hg; have hcz4_0 : w3.cell? ⟨gb614, 0, none⟩ = some (.int .i64 a0_0) := (blk_cell BK614.out 0).trans rfl; have hcz4_1 : w3.cell? ⟨gb614, 1, none⟩ = some (.slice A0_1 l0_1.length c0_1) := (blk_cell BK614.out 1).trans rfl; have hcz4_2 : w3.cell? ⟨gb614, 2, none⟩ = some (.int .i64 a0_2) := (blk_cell BK614.out 2).trans rfl; have hcz4_3 : w3.cell? ⟨gb614, 3, none⟩ = some (.int .i64 a0_3) := (blk_cell BK614.out 3).trans rfl; have hfz4_0 := blk_frozen BK614.out 0; have hfz4_1 := blk_frozen BK614.out 1; have hfz4_2 := blk_frozen BK614.out 2; have hfz4_3 := blk_frozen BK614.out 3) | ((with_reducible refine gate_callee (f := 35) rfl ?_); refine goesL_ (some 7) rfl rfl Try.func35 (by kernel_rfl) rfl #[.agg #[.int .i64 a0_0, .slice A0_1 l0_1.length c0_1, .int .i64 a0_2, .int .i64 a0_3]] rfl (by (try simp only [List.map_toArray, List.map_cons, List.map_nil]); first | done | rfl | (simp only [List.length_drop, List.length_take]; rfl)) ?_; (with_reducible refine (take_Sitting_check.calls a0_0 _ _ l0_1 a0_2 a0_3 t615 t618 _ ?side1 ?side2 A2.out).mono ?_); (case side1 => repeat (first | exact (Kd.C_below HR0_1.out HB.out) | (with_reducible refine Kd.C_alloc ?_ _) | (with_reducible refine Kd.C_drewN ?_ _) | (with_reducible refine Kd.C_drew ?_))); (case side2 => exact HC0_1.out); rintro e w5 ⟨v616, rfl, ho0, hb⟩; refine ⟨_, rfl, ?_⟩; have n0_ := Aside0.mk (Kd.R_lower ho0 (below_size (by repeat (first | (with_reducible first | exact HB.out | apply below_alloc | apply pw_below_drewN | apply below_drew1 | refine below_set ?_ GE614.out) | exact HB.out)))); have n1_ := Aside0.mk (blk_below (g := gb614) (o := .cells #[.int .i64 a0_0, .slice A0_1 l0_1.length c0_1, .int .i64 a0_2, .int .i64 a0_3] 32 (0, 0)) (by (with_reducible repeat (first | refine blk_drewN ?_ _ | refine blk_drew ?_ | refine blk_alloc ?_ _)); exact BK614.out) hb); have n2_ := Aside0.mk (below_step (by repeat (first | (with_reducible first | exact HB.out | apply below_alloc | apply pw_below_drewN | apply below_drew1 | refine below_set ?_ GE614.out) | exact HB.out)) hb); clear BK614; clear HB; have HO617 := n0_; have BK614 := n1_; have HB := n2_; clear n0_ n1_ n2_; (try clear hb); (try clear hb2); (try clear hk); (try clear hi); (try clear ho0)))
  go_ret
  exact ⟨by first | rfl | (simp [errW_none, errW_some] <;> rfl) | (simp [*, errW_none, errW_some] <;> rfl), by repeat (first | (with_reducible first | exact HB.out | apply below_alloc | apply pw_below_drewN | apply below_drew1 | refine below_set ?_ GE614.out) | exact HB.out)⟩
def take_CheckOffice.f (l0_0 : List (S99)) (a0_1 : Int) (a0_2 : Int) : Option (Int) := (take_Office_valid.f l0_0 a0_1 a0_2).bind fun t620 => (if t620 = true then (some 0) else (some 1))
set_option maxHeartbeats 8000000 in
set_option maxRecDepth 100000 in
theorem take_CheckOffice.calls (A0_0 : Option Addr) (c0_0 : Nat) (l0_0 : List (S99)) (a0_1 : Int) (a0_2 : Int) (r : Int) (w : World) (hr0_0 : Kd.C k99 w A0_0 l0_0.length l0_0) (hc0_0 : l0_0.length ≤ c0_0) (h : take_CheckOffice.f l0_0 a0_1 a0_2 = some r) :
    Calls Try.prog 31 #[.agg #[.slice A0_0 l0_0.length c0_0, .int .i64 a0_1, .int .i64 a0_2]] w fun e w' => e = .returned (.int .i64 r) ∧ Below w.heap.size w w' := by
  have hu52 := Try.underlying52
  have HR0_0 := Aside0.mk hr0_0
  have HC0_0 := Aside0.mk hc0_0
  clear hr0_0 hc0_0
  have HB := Aside0.mk (Below.refl w.heap.size w)
  have H : ((take_Office_valid.f l0_0 a0_1 a0_2).bind fun t620 => (if t620 = true then (some 0) else (some 1))) = some r := h
  clear h
  replace H := Option.bind_eq_some_iff.mp H
  obtain ⟨t620, A20, H⟩ := H
  replace H : (if t620 = true then (some 0) else (some 1)) = some r := H
  have A2 := Aside0.mk A20
  clear A20
  by_cases c3 : t620 = true
  · subst c3
    have H1 : (some 0) = some r := by rw [if_pos rfl] at H; exact H
    clear H
    have H := H1
    clear H1
    obtain rfl := Option.some.inj H
    go_enter Try.func31, Try.ntmps31
    go_wp2_with (first | ((with_reducible refine gate_dst (N := 1) rfl ?_); refine box_event ?hg (N := 1) ?hd (cs := #[.slice A0_0 l0_0.length c0_0, .int .i64 a0_1, .int .i64 a0_2]) (t := 52) ?hr ?_; (case hd => rfl); (case hg => rfl); (case hr => first | (go_simp; done) | (go_simp; rfl)); intro gb619 hg w4 hbox hb; have n0_ := Aside0.mk (below_step (by repeat (first | (with_reducible first | exact HB.out | apply below_alloc | apply pw_below_drewN | apply below_drew1) | exact HB.out)) hb); have n1_ := Aside0.mk (hbox); have n2_ := Aside0.mk ((by rw [hg]; exact (below_size (by repeat (first | (with_reducible first | exact HB.out | apply below_alloc | apply pw_below_drewN | apply below_drew1) | exact HB.out))) : w.heap.size ≤ gb619)); have n3_ := Aside0.mk ((by rw [hg]; exact (below_size (by repeat (first | (with_reducible first | exact HB.out | apply below_alloc | apply pw_below_drewN | apply below_drew1) | exact HB.out))) : w.heap.size ≤ gb619)); clear HB; have HB := n0_; have BK619 := n1_; have GW619 := n2_; have GE619 := n3_; clear n0_ n1_ n2_ n3_; clear hb hbox hg; have hcz5_0 : w4.cell? ⟨gb619, 0, none⟩ = some (.slice A0_0 l0_0.length c0_0) := (blk_cell BK619.out 0).trans rfl; have hcz5_1 : w4.cell? ⟨gb619, 1, none⟩ = some (.int .i64 a0_1) := (blk_cell BK619.out 1).trans rfl; have hcz5_2 : w4.cell? ⟨gb619, 2, none⟩ = some (.int .i64 a0_2) := (blk_cell BK619.out 2).trans rfl; have hfz5_0 := blk_frozen BK619.out 0; have hfz5_1 := blk_frozen BK619.out 1; have hfz5_2 := blk_frozen BK619.out 2) | ((with_reducible refine gate_callee (f := 49) rfl ?_); refine goesL_ (some 4) rfl rfl Try.func49 (by kernel_rfl) rfl #[.agg #[.slice A0_0 l0_0.length c0_0, .int .i64 a0_1, .int .i64 a0_2]] rfl (by (try simp only [List.map_toArray, List.map_cons, List.map_nil]); first | done | rfl | (simp only [List.length_drop, List.length_take]; rfl)) ?_; (with_reducible refine (take_Office_valid.calls _ _ l0_0 a0_1 a0_2 true _ ?side1 ?side2 A2.out).mono ?_); (case side1 => repeat (first | exact (Kd.C_below HR0_0.out HB.out) | (with_reducible refine Kd.C_alloc ?_ _) | (with_reducible refine Kd.C_drewN ?_ _) | (with_reducible refine Kd.C_drew ?_))); (case side2 => exact HC0_0.out); rintro e w6 ⟨rfl, hb⟩; refine ⟨_, rfl, ?_⟩; have n0_ := Aside0.mk (blk_below (g := gb619) (o := .cells #[.slice A0_0 l0_0.length c0_0, .int .i64 a0_1, .int .i64 a0_2] 52 (0, 0)) (by (with_reducible repeat (first | refine blk_drewN ?_ _ | refine blk_drew ?_ | refine blk_alloc ?_ _)); exact BK619.out) hb); have n1_ := Aside0.mk (below_step (by repeat (first | (with_reducible first | exact HB.out | apply below_alloc | apply pw_below_drewN | apply below_drew1 | refine below_set ?_ GE619.out) | exact HB.out)) hb); clear BK619; clear HB; have BK619 := n0_; have HB := n1_; clear n0_ n1_; (try clear hb); (try clear hb2); (try clear hk); (try clear hi)))
    go_ret
    exact ⟨by first | rfl | (simp [errW_none, errW_some] <;> rfl) | (simp [*, errW_none, errW_some] <;> rfl), by repeat (first | (with_reducible first | exact HB.out | apply below_alloc | apply pw_below_drewN | apply below_drew1 | refine below_set ?_ GE619.out) | exact HB.out)⟩
  · replace c3 := Bool.eq_false_iff.mpr c3
    subst c3
    have H1 : (some 1) = some r := by rw [if_neg (show ¬ (false = true) by decide)] at H; exact H
    clear H
    have H := H1
    clear H1
    obtain rfl := Option.some.inj H
    go_enter Try.func31, Try.ntmps31
    go_wp2_with (first | ((with_reducible refine gate_dst (N := 1) rfl ?_); refine box_event ?hg (N := 1) ?hd (cs := #[.slice A0_0 l0_0.length c0_0, .int .i64 a0_1, .int .i64 a0_2]) (t := 52) ?hr ?_; (case hd => rfl); (case hg => rfl); (case hr => first | (go_simp; done) | (go_simp; rfl)); intro gb619 hg w7 hbox hb; have n0_ := Aside0.mk (below_step (by repeat (first | (with_reducible first | exact HB.out | apply below_alloc | apply pw_below_drewN | apply below_drew1) | exact HB.out)) hb); have n1_ := Aside0.mk (hbox); have n2_ := Aside0.mk ((by rw [hg]; exact (below_size (by repeat (first | (with_reducible first | exact HB.out | apply below_alloc | apply pw_below_drewN | apply below_drew1) | exact HB.out))) : w.heap.size ≤ gb619)); have n3_ := Aside0.mk ((by rw [hg]; exact (below_size (by repeat (first | (with_reducible first | exact HB.out | apply below_alloc | apply pw_below_drewN | apply below_drew1) | exact HB.out))) : w.heap.size ≤ gb619)); clear HB; have HB := n0_; have BK619 := n1_; have GW619 := n2_; have GE619 := n3_; clear n0_ n1_ n2_ n3_; clear hb hbox hg; have hcz8_0 : w7.cell? ⟨gb619, 0, none⟩ = some (.slice A0_0 l0_0.length c0_0) := (blk_cell BK619.out 0).trans rfl; have hcz8_1 : w7.cell? ⟨gb619, 1, none⟩ = some (.int .i64 a0_1) := (blk_cell BK619.out 1).trans rfl; have hcz8_2 : w7.cell? ⟨gb619, 2, none⟩ = some (.int .i64 a0_2) := (blk_cell BK619.out 2).trans rfl; have hfz8_0 := blk_frozen BK619.out 0; have hfz8_1 := blk_frozen BK619.out 1; have hfz8_2 := blk_frozen BK619.out 2) | ((with_reducible refine gate_callee (f := 49) rfl ?_); refine goesL_ (some 4) rfl rfl Try.func49 (by kernel_rfl) rfl #[.agg #[.slice A0_0 l0_0.length c0_0, .int .i64 a0_1, .int .i64 a0_2]] rfl (by (try simp only [List.map_toArray, List.map_cons, List.map_nil]); first | done | rfl | (simp only [List.length_drop, List.length_take]; rfl)) ?_; (with_reducible refine (take_Office_valid.calls _ _ l0_0 a0_1 a0_2 false _ ?side1 ?side2 A2.out).mono ?_); (case side1 => repeat (first | exact (Kd.C_below HR0_0.out HB.out) | (with_reducible refine Kd.C_alloc ?_ _) | (with_reducible refine Kd.C_drewN ?_ _) | (with_reducible refine Kd.C_drew ?_))); (case side2 => exact HC0_0.out); rintro e w9 ⟨rfl, hb⟩; refine ⟨_, rfl, ?_⟩; have n0_ := Aside0.mk (blk_below (g := gb619) (o := .cells #[.slice A0_0 l0_0.length c0_0, .int .i64 a0_1, .int .i64 a0_2] 52 (0, 0)) (by (with_reducible repeat (first | refine blk_drewN ?_ _ | refine blk_drew ?_ | refine blk_alloc ?_ _)); exact BK619.out) hb); have n1_ := Aside0.mk (below_step (by repeat (first | (with_reducible first | exact HB.out | apply below_alloc | apply pw_below_drewN | apply below_drew1 | refine below_set ?_ GE619.out) | exact HB.out)) hb); clear BK619; clear HB; have BK619 := n0_; have HB := n1_; clear n0_ n1_; (try clear hb); (try clear hb2); (try clear hk); (try clear hi)))
    go_ret
    exact ⟨by first | rfl | (simp [errW_none, errW_some] <;> rfl) | (simp [*, errW_none, errW_some] <;> rfl), by repeat (first | (with_reducible first | exact HB.out | apply below_alloc | apply pw_below_drewN | apply below_drew1 | refine below_set ?_ GE619.out) | exact HB.out)⟩
end Go.Proofs.Ytillieimgjdpbaa.Pr
