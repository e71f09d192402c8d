/- Plain laws for TakeRelieved: the takes that began, what stays open, the rota after. -/
import Derived.Test.YtillieimgjdpbaaMPr6
import Derived.KernelRfl
import Derived.Test.YtillieimgjdpbaaMHu
import Derived.Test.YtillieimgjdpbaaMIb
import Derived.Deep.RegionHeld3
import Derived.Outline
namespace Go.Proofs.Ytillieimgjdpbaa.Pr
theorem awake_true : palantypelaw01_awake.f 30 = some true := by kernel_rfl
end Go.Proofs.Ytillieimgjdpbaa.Pr
namespace Go.Proofs.Ytillieimgjdpbaa.Pr
open Go.RowKit Go.Proofs.YtillieimgjdpbaaW.PrintWords Go.Proofs.YtillieimgjdpbaaW.PrintLast Go.Proofs.YtillieimgjdpbaaW.PrintMore
set_option linter.unusedVariables false
set_option linter.unusedSimpArgs false
theorem c11 (X : World) : Calls Try.prog 11 #[] X fun e w' => e = .returned (.bool true) ∧ Below X.heap.size X w' := palantypelaw01_awake.calls _ true X awake_true
theorem c12 {X : World} {A : Option Addr} {c : Nat} {P : List S35} (h1 : Kd.C k35 X A P.length P) (h1c : P.length ≤ c) (L lo sh : Int) {T : List S35} {e0 : Int} (hT : checkP L P lo sh = (T, e0)) :
    Calls Try.prog 12 #[.agg #[.int .i64 L, .slice A P.length c, .int .i64 lo, .int .i64 sh]] X fun e w' => ∃ A1 c1, e = .returned (.tuple #[.slice A1 T.length c1, .int .i64 e0]) ∧ Aside0 (Kd.C k35 w' A1 T.length T) ∧ Aside0 (T.length ≤ c1) ∧ Below X.heap.size X w' :=
  (take_Takes.calls L A c P lo sh T e0 X h1 h1c (by simp only [take_Takes.f, take_Sitting_check.f, hT, Option.bind_some])).mono (fun e w' h => by
    obtain ⟨v, rfl, hR, hb⟩ := h
    obtain ⟨A1, c1, rfl⟩ := Kd.R_slice hR
    obtain ⟨_, g2, g3⟩ := Kd.R_reads' hR
    exact ⟨A1, c1, rfl, ⟨g3⟩, ⟨g2⟩, hb⟩)
theorem c17 {X : World} {A : Option Addr} {c : Nat} {P : List S35} (h1 : Kd.C k35 X A P.length P) (h1c : P.length ≤ c) {B : Option Addr} {d : Nat} {O : List S99} (h2 : Kd.C k99 X B O.length O) (h2c : O.length ≤ d) (L lo sh due dl : Int) {r : List Int} {e0 : Int} (hr : rotaR (wkOf L P lo sh O due dl) (workE L P lo sh O due dl) = (r, e0)) :
    Calls Try.prog 17 #[.agg #[.int .i64 L, .slice A P.length c, .int .i64 lo, .int .i64 sh], .agg #[.slice B O.length d, .int .i64 due, .int .i64 dl]] X fun e w' => ∃ A1 c1, e = .returned (.tuple #[.slice A1 r.length c1, .int .i64 e0]) ∧ Aside0 (Kd.C (Kd.int .i64) w' A1 r.length r) ∧ Aside0 (r.length ≤ c1) ∧ Below X.heap.size X w' :=
  (take_Rota.calls L A c P lo sh B d O due dl r e0 X h1 h1c h2 h2c (by rw [take_Rota.f, hr])).mono (fun e w' h => by
    obtain ⟨v, rfl, hR, hb⟩ := h
    obtain ⟨A1, c1, rfl⟩ := Kd.V_slice hR
    obtain ⟨_, g2, g3⟩ := Kd.V_reads' hR
    exact ⟨A1, c1, rfl, ⟨g3⟩, ⟨g2⟩, hb⟩)
theorem c19 {X : World} {A : Option Addr} {c : Nat} {P : List S35} (h1 : Kd.C k35 X A P.length P) (h1c : P.length ≤ c) {B : Option Addr} {d : Nat} {O : List S99} (h2 : Kd.C k99 X B O.length O) (h2c : O.length ≤ d) (L lo sh due dl : Int) {n : Int} {e0 : Int} (hr : failsR (wkOf L P lo sh O due dl) (workE L P lo sh O due dl) = (n, e0)) :
    Calls Try.prog 19 #[.agg #[.int .i64 L, .slice A P.length c, .int .i64 lo, .int .i64 sh], .agg #[.slice B O.length d, .int .i64 due, .int .i64 dl]] X fun e w' => e = .returned (.tuple #[.int .i64 n, .int .i64 e0]) ∧ Below X.heap.size X w' :=
  take_Fails.calls L A c P lo sh B d O due dl n e0 X h1 h1c h2 h2c (by rw [take_Fails.f, hr])
end Go.Proofs.Ytillieimgjdpbaa.Pr
namespace Go.Proofs.Ytillieimgjdpbaa.Pr
open Go.RowKit Go.Proofs.YtillieimgjdpbaaW.PrintWords Go.Proofs.YtillieimgjdpbaaW.PrintLast Go.Proofs.YtillieimgjdpbaaW.PrintMore
set_option linter.unusedVariables false
set_option linter.unusedSimpArgs false
/-- What is not lost where old blocks stay as they are. -/
class Keeps (K : World → Prop) : Prop where
  keep : ∀ {X X' : World}, K X → Below X.heap.size X X' → K X'
instance keeps_true : Keeps (fun _ => True) := ⟨fun _ _ => trivial⟩
instance keeps_C {α : Type} (k : Kd α) (A : Option Addr) (n : Nat) (l : List α) : Keeps (fun X => Kd.C k X A n l) := ⟨fun h hb => Kd.C_below h hb⟩
instance keeps_blk (g : Nat) (o : Array Value) (t : TypeId) : Keeps (fun X => X.heap[g]? = some (.cells o t (0, 0))) := ⟨fun h hb => blk_below h hb⟩
instance keeps_and (K K' : World → Prop) [h : Keeps K] [h' : Keeps K'] : Keeps (fun X => K X ∧ K' X) := ⟨fun k hb => ⟨h.keep k.1 hb, h'.keep k.2 hb⟩⟩
/-- The arguments' boxes stand as they were laid; K holds. -/
structure Fa (w : World) (sc oc : Array Value) (K : World → Prop) (X : World) : Prop where
  b : Below w.heap.size w X
  s : X.heap[w.heap.size]? = some (.cells sc 24 (0, 0))
  o : X.heap[w.heap.size + 1]? = some (.cells oc 45 (0, 0))
  k : K X
theorem Fa.below {w X X' : World} {sc oc : Array Value} {K : World → Prop} [hK : Keeps K] (h : Fa w sc oc K X) (hb : Below X.heap.size X X') : Fa w sc oc K X' := ⟨h.b.trans (hb.mono h.b.size), blk_below h.s hb, blk_below h.o hb, hK.keep h.k hb⟩
theorem Fa.start (w : World) (sc oc : Array Value) : Fa w sc oc (fun _ => True) ((w.alloc (.cells sc 24)).alloc (.cells oc 45)) := ⟨below_alloc (below_alloc (Below.refl _ _) _) _, heap_alloc2_old _ _ _, heap_alloc2_new _ _ _, trivial⟩
theorem Fa.add {w X : World} {sc oc : Array Value} {K : World → Prop} (K' : World → Prop) (h : Fa w sc oc K X) (hk : K' X) : Fa w sc oc K' X := ⟨h.b, h.s, h.o, hk⟩
theorem Fa.drew {w X : World} {sc oc : Array Value} {K : World → Prop} [Keeps K] (h : Fa w sc oc K X) : Fa w sc oc K X.drew := h.below (below_drew (Below.refl _ _))
theorem Fa.alloc {w X : World} {sc oc : Array Value} {K : World → Prop} [Keeps K] (h : Fa w sc oc K X) (o : Obj) : Fa w sc oc K (X.alloc o) := h.below (below_alloc (Below.refl _ _) o)
theorem Fa.cells {w : World} {L lo sh due dl : Int} {A B : Option Addr} {n c k d : Nat} {K : World → Prop} {Y : World} (h : Fa w #[.int .i64 L, .slice A n c, .int .i64 lo, .int .i64 sh] #[.slice B k d, .int .i64 due, .int .i64 dl] K Y) :
    Y.cell? ⟨w.heap.size, 0, none⟩ = some (.int .i64 L) ∧ Y.cell? ⟨w.heap.size, 1, none⟩ = some (.slice A n c) ∧ Y.cell? ⟨w.heap.size, 2, none⟩ = some (.int .i64 lo) ∧ Y.cell? ⟨w.heap.size, 3, none⟩ = some (.int .i64 sh) ∧
    Y.cell? ⟨w.heap.size + 1, 0, none⟩ = some (.slice B k d) ∧ Y.cell? ⟨w.heap.size + 1, 1, none⟩ = some (.int .i64 due) ∧ Y.cell? ⟨w.heap.size + 1, 2, none⟩ = some (.int .i64 dl) :=
  ⟨(blk_cell h.s 0).trans rfl, (blk_cell h.s 1).trans rfl, (blk_cell h.s 2).trans rfl, (blk_cell h.s 3).trans rfl, (blk_cell h.o 0).trans rfl, (blk_cell h.o 1).trans rfl, (blk_cell h.o 2).trans rfl⟩
theorem and4 {a b c d e : Prop} (h : a ∧ b ∧ c ∧ d) (k : e) : a ∧ b ∧ c ∧ d ∧ e := ⟨h.1, h.2.1, h.2.2.1, h.2.2.2, k⟩
theorem setCell_cells {X : World} {g t i : Nat} {cs : Array Value} (h : X.heap[g]? = some (.cells cs t (0, 0))) (v : Value) : (X.setCell ⟨g, i, none⟩ v).heap[g]? = some (.cells (cs.setIfInBounds i v) t (0, 0)) := by
  simp [World.setCell, Array.getElem?_modify, h]
theorem rd35' (l : List S35) (i : Nat) (h : i < l.length) : rd_T35 l (i : Int) = l[i] := by
  unfold rd_T35
  rw [Int.toNat_natCast, List.getD_eq_getElem?_getD, List.getElem?_eq_getElem h]; rfl
end Go.Proofs.Ytillieimgjdpbaa.Pr
namespace Go.Proofs.Ytillieimgjdpbaa.Pr
open Go.RowKit Go.Proofs.YtillieimgjdpbaaW.PrintWords Go.Proofs.YtillieimgjdpbaaW.PrintLast Go.Proofs.YtillieimgjdpbaaW.PrintMore
set_option linter.unusedVariables false
set_option linter.unusedSimpArgs false
theorem S4 {w X : World} {a1 a2 a3 a4 : Addr} {v1 v2 v3 v4 : Value} (hb : Below w.heap.size w X) (h : w.cell? a1 = some v1 ∧ w.cell? a2 = some v2 ∧ w.cell? a3 = some v3 ∧ w.cell? a4 = some v4) : X.cell? a1 = some v1 ∧ X.cell? a2 = some v2 ∧ X.cell? a3 = some v3 ∧ X.cell? a4 = some v4 :=
  ⟨pw_cell_below hb h.1, pw_cell_below hb h.2.1, pw_cell_below hb h.2.2.1, pw_cell_below hb h.2.2.2⟩
theorem S10 {w X : World} {a1 a2 a3 a4 a5 a6 a7 a8 a9 a0 : Addr} {v1 v2 v3 v4 v5 v6 v7 v8 v9 v0 : Value} (hb : Below w.heap.size w X) (h : w.cell? a1 = some v1 ∧ w.cell? a2 = some v2 ∧ w.cell? a3 = some v3 ∧ w.cell? a4 = some v4 ∧ w.cell? a5 = some v5 ∧ w.cell? a6 = some v6 ∧ w.cell? a7 = some v7 ∧ w.cell? a8 = some v8 ∧ w.cell? a9 = some v9 ∧ w.cell? a0 = some v0) :
    X.cell? a1 = some v1 ∧ X.cell? a2 = some v2 ∧ X.cell? a3 = some v3 ∧ X.cell? a4 = some v4 ∧ X.cell? a5 = some v5 ∧ X.cell? a6 = some v6 ∧ X.cell? a7 = some v7 ∧ X.cell? a8 = some v8 ∧ X.cell? a9 = some v9 ∧ X.cell? a0 = some v0 := by
  obtain ⟨h1, h2, h3, h4, h5, h6, h7, h8, h9, h0⟩ := h
  exact ⟨pw_cell_below hb h1, pw_cell_below hb h2, pw_cell_below hb h3, pw_cell_below hb h4, pw_cell_below hb h5, pw_cell_below hb h6, pw_cell_below hb h7, pw_cell_below hb h8, pw_cell_below hb h9, pw_cell_below hb h0⟩
theorem X2S {X : World} {g : Nat} {x0 x1 : Value} {t : TypeId} {P : Prop} (h : X.heap[g]? = some (.cells #[x0, x1] t (0, 0))) (hP : P) : X.cell? ⟨g, 0, none⟩ = some x0 ∧ X.cell? ⟨g, 1, none⟩ = some x1 ∧ P := ⟨(blk_cell h 0).trans rfl, (blk_cell h 1).trans rfl, hP⟩
theorem at71 {w : World} {A : Option Addr} {n : Nat} {xs : List S71} (h : Kd.C k71 w A n xs) (k : Nat) (hk : k < xs.length) : ∃ ad, A = some ad ∧ w.cell? (ad.add (k * 2)) = some (.int .i64 xs[k].f0) ∧ w.cell? ⟨(ad.add (k * 2)).block, (ad.add (k * 2)).off + 1, none⟩ = some (.int .i64 xs[k].f1) := by
  have hn := h.1
  have := at_T71 h (k : Int) (by omega) (by omega)
  simpa [rd_T71, List.getD_eq_getElem?_getD, hk] using this
/-- The numbers of a take that its reporter may bring about. -/
def realOk (W : Wk) (r : Int) (x : S71) : Prop := (rd_T99 W.C r).f0.f0 ≤ x.f0 ∧ x.f0 ≤ (rd_T99 W.C r).f0.f1 ∧ 0 ≤ x.f1 ∧ x.f1 ≤ W.dl
def doneFrom (W : Wk) : Int → List S71 → List Int
  | _, [] => []
  | i, x :: t => doneP (rd_T35 W.T i) x.f0 x.f1 :: doneFrom W (i + 1) t
theorem doneFrom_length (W : Wk) : ∀ (l : List S71) (i : Int), (doneFrom W i l).length = l.length
  | [], _ => rfl
  | x :: t, i => by simp [doneFrom, doneFrom_length W t]
theorem doneFrom_get (W : Wk) : ∀ (l : List S71) (i : Int) (j : Nat) (h : j < l.length), (doneFrom W i l)[j]'(by rw [doneFrom_length]; exact h) = doneP (rd_T35 W.T (i + j)) l[j].f0 l[j].f1
  | x :: t, i, 0, h => by simp [doneFrom]
  | x :: t, i, j + 1, h => by
    have := doneFrom_get W t (i + 1) j (by simpa using h)
    simp only [doneFrom, List.getElem_cons_succ]
    rw [this]
    rw [show i + 1 + (j : Int) = i + ((j + 1 : Nat) : Int) by omega]
theorem doneFrom_take (W : Wk) (l : List S71) (k : Nat) (h : k < l.length) : (doneFrom W 0 l).take (k + 1) = (doneFrom W 0 l).take k ++ [doneP (rd_T35 W.T k) l[k].f0 l[k].f1] := by
  have hk : k < (doneFrom W 0 l).length := by rw [doneFrom_length]; exact h
  rw [List.take_succ_eq_append_getElem hk, doneFrom_get W l 0 k h]
  rw [show (0 : Int) + (k : Int) = k by omega]
set_option maxRecDepth 100000 in
set_option maxHeartbeats 4000000 in
theorem done26 (a0_0 : Int) (A0_1 : Option Addr) (c0_1 : Nat) (l0_1 : List (S35)) (a0_2 : Int) (a0_3 : Int) (A1_0 : Option Addr) (c1_0 : Nat) (l1_0 : List (S99)) (a1_1 : Int) (a1_2 : Int) (A2 : Option Addr) (c2 : Nat) (rota : List Int) (A3 : Option Addr) (c3 : Nat) (real : List S71) (w : World) (hr0_1 : Kd.C k35 w A0_1 l0_1.length l0_1) (hc0_1 : l0_1.length ≤ c0_1) (hr1_0 : Kd.C k99 w A1_0 l1_0.length l1_0) (hc1_0 : l1_0.length ≤ c1_0) (hr2 : Kd.C (Kd.int .i64) w A2 rota.length rota) (hc2 : rota.length ≤ c2) (hr3 : Kd.C k71 w A3 real.length real) (hc3 : real.length ≤ c3)
    (W : Wk) (hW : W = wkOf a0_0 l0_1 a0_2 a0_3 l1_0 a1_1 a1_2) (he : workE a0_0 l0_1 a0_2 a0_3 l1_0 a1_1 a1_2 = 0) (hli : listedP W rota = true) (hlen : real.length = rota.length) (hgood : ∀ (k : Nat) (h1 : k < rota.length) (h2 : k < real.length), realOk W rota[k] real[k]) :
    Calls Try.prog 26 #[.agg #[.int .i64 a0_0, .slice A0_1 l0_1.length c0_1, .int .i64 a0_2, .int .i64 a0_3], .agg #[.slice A1_0 l1_0.length c1_0, .int .i64 a1_1, .int .i64 a1_2], .slice A2 rota.length c2, .slice A3 real.length c3] w fun e w' => ∃ v0_ : Value, e = .returned (.tuple #[v0_, .int .i64 0]) ∧ Kd.R (Kd.int .i64) 3 w' w.heap.size (fun _ => True) v0_ (doneFrom W 0 real) ∧ Below w.heap.size w w' := by
  obtain ⟨W1, hW1⟩ : ∃ X, X = (w.alloc (.cells #[.int .i64 a0_0, .slice A0_1 l0_1.length c0_1, .int .i64 a0_2, .int .i64 a0_3] 32)).alloc (.cells #[.slice A1_0 l1_0.length c1_0, .int .i64 a1_1, .int .i64 a1_2] 52) := ⟨_, rfl⟩
  have hB1 : Below w.heap.size w W1 := hW1 ▸ below_alloc (below_alloc (Below.refl _ _) _) _
  have hwk := work43 a0_0 A0_1 c0_1 l0_1 a0_2 a0_3 A1_0 c1_0 l1_0 a1_1 a1_2 W1 (Kd.C_below hr0_1 hB1) hc0_1 (Kd.C_below hr1_0 hB1) hc1_0
  have hn : W.Ok := hW ▸ wk_ok he
  rw [← hW] at hwk
  have HB1 := Aside0.mk hB1
  have HR2 := Aside0.mk hr2
  have HR3 := Aside0.mk hr3
  have HWK : Aside0 (Calls Try.prog 43 #[.agg #[.int .i64 a0_0, .slice A0_1 l0_1.length c0_1, .int .i64 a0_2, .int .i64 a0_3], .agg #[.slice A1_0 l1_0.length c1_0, .int .i64 a1_1, .int .i64 a1_2]] W1 fun e w' => ∃ p, e = .returned (.tuple #[.pointer (some ⟨p, 0, none⟩), .int .i64 0]) ∧ Aside0 (W.Here w' p ∧ Below w.heap.size w w')) := ⟨hwk.mono (fun e w' h => by
    obtain ⟨h1, ⟨h2, _⟩ | ⟨_, p, h3, h4⟩⟩ := h
    · exact absurd he h2
    · exact ⟨p, h3, ⟨h4, below_then HB1.out HB1.out.size h1⟩⟩)⟩
  have HLI : Aside0 (∀ (X : World) (p : Nat), W.Here X p → Below w.heap.size w X → Calls Try.prog 45 #[.pointer (some ⟨p, 0, none⟩), .slice A2 rota.length c2] X fun e w' => e = .returned (.bool true) ∧ Below X.heap.size X w') := ⟨fun X p hX hb => hli ▸ listed45 W hn X p hX A2 c2 rota (Kd.C_below HR2.out hb)⟩
  obtain ⟨hlT, hin⟩ := listed_parts hli
  have hT40 := hn.t
  have hR40 : rota.length ≤ 40 := by omega
  have hD := doneFrom_length W real 0
  obtain ⟨nr, hnr⟩ : ∃ n, n = rota.length := ⟨_, rfl⟩
  have HGOOD := Aside0.mk hgood
  have HIN := Aside0.mk hin
  have HN := Aside0.mk hn
  have HLT := Aside0.mk hlT
  have HLEN := Aside0.mk hlen
  have HNR := Aside0.mk hnr
  subst hW1
  rw [hlen, ← hnr]
  rw [← hnr] at HLI hR40
  clear hwk hW hr0_1 hr1_0 hB1 hr2 hr3 he hli hgood hn hin hlT hlen hnr hD hc0_1 hc1_0 hc2 hc3
  go_enter Try.func26, Try.ntmps26
  go_wp2_with (first | (go_at_call 43; refine (HWK.out).mono ?_; rintro e w' ⟨p, rfl, hX⟩) | (go_at_call 45; refine (HLI.out _ p hX.out.1 hX.out.2).mono ?_; rintro e w2 ⟨rfl, hb⟩; have HX2 : Aside0 (W.Here w2 p ∧ Below w.heap.size w w2) := ⟨hX.out.1.below hb, hX.out.2.trans (hb.mono hX.out.2.size)⟩; clear hb))
  obtain ⟨A1, n1, cc1, lo_, sh_, AC, cC, AT, cT, hA⟩ := HX2.out.1
  have HA := Aside0.mk hA
  have HB2 := Aside0.mk HX2.out.2
  clear hA HLI HWK hX
  have hR0 : Aside0 (Kd.R (Kd.int .i64) 3 w2 w2.heap.size (fun _ => True) (.slice none 0 0) ((doneFrom W 0 real).take 0)) := ⟨Kd.R_nil _ _ _ _ _⟩
  go_loopw [12, 39] (fun v12 v39 wr => ∃ k : Nat, k ≤ nr ∧ v39 = .int .i64 k ∧ Aside0 (Kd.R (Kd.int .i64) 3 wr w2.heap.size (fun _ => True) v12 ((doneFrom W 0 real).take k)) ∧ Aside0 (Below w2.heap.size w2 wr)) (fun _ v39 _ => nr - (intOf v39).toNat)
  case atStart => exact ⟨0, Nat.zero_le _, rfl, hR0, ⟨Below.refl _ _⟩⟩
  case round =>
    obtain ⟨k, hk, rfl, HR, HB⟩ := hrel
    by_cases hlt : k < nr
    · obtain ⟨r, hr⟩ : ∃ r, r = rota[k]'(HNR.out ▸ hlt) := ⟨_, rfl⟩
      obtain ⟨x, hx⟩ : ∃ x, x = real[k]'(by rw [HLEN.out, ← HNR.out]; exact hlt) := ⟨_, rfl⟩
      have hxr := HIN.out r (by rw [hr]; exact List.getElem_mem _)
      have hgd := HGOOD.out k (HNR.out ▸ hlt) (by rw [HLEN.out, ← HNR.out]; exact hlt)
      rw [← hr, ← hx] at hgd
      have HW0 := Aside0.mk (HB2.out.trans (HB.out.mono HB2.out.size))
      have hCT := HA.out.tk
      have hCC := HA.out.cr
      obtain ⟨rdd, eA2, c0⟩ := at3 (Kd.C_below HR2.out HB2.out) k (HNR.out ▸ hlt)
      obtain ⟨edd, eA3, e0, e1⟩ := at71 (Kd.C_below HR3.out HB2.out) k (by rw [HLEN.out, ← HNR.out]; exact hlt)
      obtain ⟨ad, eAT, m0, m1⟩ := at_T35 hCT (k : Int) (by omega) (by have := HLT.out; have := HNR.out; omega)
      obtain ⟨bd, eAC, q0, q1, _⟩ := at_T99 hCC r hxr.1 (by omega)
      subst eA2 eA3 eAT eAC
      rw [← hr] at c0
      rw [← hx] at e0 e1
      have hA' := HA.out
      have u4 : w2.cell? ⟨p, 4, none⟩ = some (.slice (some bd) W.C.length cC) := (blk_cell hA'.blk 4).trans rfl
      have u6 : w2.cell? ⟨p, 6, none⟩ = some (.int .i64 W.dl) := (blk_cell hA'.blk 6).trans rfl
      have u7 : w2.cell? ⟨p, 7, none⟩ = some (.slice (some ad) W.T.length cT) := (blk_cell hA'.blk 7).trans rfl
      have hw1 : ∀ X : World, Calls Try.prog 37 #[.int .i64 x.f0, .int .i64 (rd_T99 W.C r).f0.f0, .int .i64 (rd_T99 W.C r).f0.f1] X fun e w' => e = .returned (.bool true) ∧ Drawn0 X w' := fun X => by have := take_within.calls x.f0 (rd_T99 W.C r).f0.f0 (rd_T99 W.C r).f0.f1 _ X (within_some _ _ _); rwa [decide_eq_true (p := (rd_T99 W.C r).f0.f0 ≤ x.f0 ∧ x.f0 ≤ (rd_T99 W.C r).f0.f1) ⟨hgd.1, hgd.2.1⟩] at this
      have hw2 : ∀ X : World, Calls Try.prog 37 #[.int .i64 x.f1, .int .i64 0, .int .i64 W.dl] X fun e w' => e = .returned (.bool true) ∧ Drawn0 X w' := fun X => by have := take_within.calls x.f1 0 W.dl _ X (within_some _ _ _); rwa [decide_eq_true (p := 0 ≤ x.f1 ∧ x.f1 ≤ W.dl) ⟨hgd.2.2.1, hgd.2.2.2⟩] at this
      have hdn : ∀ X : World, Calls Try.prog 47 #[.agg #[.int .i64 (rd_T35 W.T k).f0, .int .i64 (rd_T35 W.T k).f1], .agg #[.int .i64 x.f0, .int .i64 x.f1]] X fun e w' => e = .returned (.int .i64 (doneP (rd_T35 W.T k) x.f0 x.f1)) ∧ Below X.heap.size X w' := fun X => by
        have ht := HN.out.tk' (k : Int) (by omega) (by have := HLT.out; have := HNR.out; omega)
        have hr := HN.out.cr' r hxr.1 (by omega)
        have e0 := HN.out.e0
        have e1 := HN.out.e1
        obtain ⟨g1, g2, g3, g4⟩ := hgd
        exact take_Span_done.calls 5 _ _ _ _ _ X (done_some _ _ _ ht.1 ht.2.1 ht.2.2 (by omega) (by omega) g3 (by omega))
      have HTK := Aside0.mk (doneFrom_take W real k (by rw [HLEN.out, ← HNR.out]; exact hlt))
      rw [← hx] at HTK
      have hkT : (k : Int) < (W.T.length : Int) := by have := HLT.out; have := HNR.out; omega
      have hrC : r < (W.C.length : Int) := by omega
      have hr0 : 0 ≤ r := hxr.1
      rw [Int.toNat_natCast] at m0 m1
      obtain ⟨dv, hdv⟩ : ∃ v, v = doneP (rd_T35 W.T k) x.f0 x.f1 := ⟨_, rfl⟩
      rw [← hdv] at hdn HTK
      have HDN := Aside0.mk hdn
      have HW1 := Aside0.mk hw1
      have HW2 := Aside0.mk hw2
      clear hw1 hw2 hdn hdv hgd hxr hr hCT hCC hA'
      obtain ⟨lo, hlo⟩ : ∃ v, v = (rd_T99 W.C r).f0.f0 := ⟨_, rfl⟩
      obtain ⟨hi, hhi⟩ : ∃ v, v = (rd_T99 W.C r).f0.f1 := ⟨_, rfl⟩
      obtain ⟨t0, ht0⟩ : ∃ v, v = (rd_T35 W.T k).f0 := ⟨_, rfl⟩
      obtain ⟨t1, ht1⟩ : ∃ v, v = (rd_T35 W.T k).f1 := ⟨_, rfl⟩
      obtain ⟨x0, hx0⟩ : ∃ v, v = x.f0 := ⟨_, rfl⟩
      obtain ⟨x1, hx1⟩ : ∃ v, v = x.f1 := ⟨_, rfl⟩
      obtain ⟨dl, hdl⟩ : ∃ v, v = W.dl := ⟨_, rfl⟩
      obtain ⟨nC, hnC⟩ : ∃ v, v = W.C.length := ⟨_, rfl⟩
      obtain ⟨nT, hnT⟩ : ∃ v, v = W.T.length := ⟨_, rfl⟩
      rw [← hlo] at q0 HW1; rw [← hhi] at q1 HW1; rw [← ht0] at m0 HDN; rw [← ht1] at m1 HDN; rw [← hx0] at e0 HW1 HDN; rw [← hx1] at e1 HW2 HDN; rw [← hdl] at u6 HW2; rw [← hnC] at u4 hrC; rw [← hnT] at u7 hkT hT40
      have hnC5 : nC ≤ 5 := hnC ▸ HN.out.c1
      clear hlo hhi ht0 ht1 hx0 hx1 hdl hnC hnT hx x
      have HS0 := Aside0.mk (show w2.cell? ⟨p, 4, none⟩ = some (.slice (some bd) nC cC) ∧ w2.cell? ⟨p, 6, none⟩ = some (.int .i64 dl) ∧ w2.cell? ⟨p, 7, none⟩ = some (.slice (some ad) nT cT) ∧ w2.cell? (rdd.add k) = some (.int .i64 r) ∧ w2.cell? (bd.add (r.toNat * 3)) = some (.int .i64 lo) ∧ w2.cell? ⟨(bd.add (r.toNat * 3)).block, (bd.add (r.toNat * 3)).off + 1, none⟩ = some (.int .i64 hi) ∧ w2.cell? (ad.add (k * 2)) = some (.int .i64 t0) ∧ w2.cell? ⟨(ad.add (k * 2)).block, (ad.add (k * 2)).off + 1, none⟩ = some (.int .i64 t1) ∧ w2.cell? (edd.add (k * 2)) = some (.int .i64 x0) ∧ w2.cell? ⟨(edd.add (k * 2)).block, (edd.add (k * 2)).off + 1, none⟩ = some (.int .i64 x1) from ⟨u4, u6, u7, c0, q0, q1, m0, m1, e0, e1⟩)
      have HS := Aside0.mk (S10 HB.out HS0.out)
      clear u4 u6 u7 c0 q0 q1 m0 m1 e0 e1
      obtain ⟨u4, u6, u7, c0, q0, q1, m0, m1, e0, e1⟩ := HS.out
      have HY1 : Aside0 (Below wr.heap.size wr (wr.alloc (.cells #[.int .i64 x0, .int .i64 x1] 71)) ∧ (wr.alloc (.cells #[.int .i64 x0, .int .i64 x1] 71)).heap[wr.heap.size]? = some (.cells #[.int .i64 x0, .int .i64 x1] 71 (0, 0))) := ⟨below_alloc (Below.refl _ _) _, blk_new wr _⟩
      go_wp2_with fail
      obtain ⟨xb, hxb⟩ : ∃ b, b = wr.heap.size := ⟨_, rfl⟩
      generalize hy : wr.alloc (.cells #[.int .i64 x0, .int .i64 x1] 71) = y1 at HY1 ⊢
      rw [← hxb] at HY1 ⊢
      have HXB := Aside0.mk hxb
      have HS1 := Aside0.mk (S10 (HXB.out ▸ HY1.out.1) HS.out)
      clear hy hxb u4 u6 u7 c0 q0 q1 m0 m1 e0 e1
      obtain ⟨u4, u6, u7, c0, q0, q1, m0, m1, e0, e1⟩ := HS1.out
      go_region_held3 (fun Y : World => Y.cell? ⟨p, 4, none⟩ = some (.slice (some bd) nC cC) ∧ Y.cell? ⟨p, 6, none⟩ = some (.int .i64 dl) ∧ Y.cell? ⟨p, 7, none⟩ = some (.slice (some ad) nT cT) ∧ Y.cell? (rdd.add k) = some (.int .i64 r) ∧ Y.cell? (bd.add (r.toNat * 3)) = some (.int .i64 lo) ∧ Y.cell? ⟨(bd.add (r.toNat * 3)).block, (bd.add (r.toNat * 3)).off + 1, none⟩ = some (.int .i64 hi) ∧ Y.cell? (ad.add (k * 2)) = some (.int .i64 t0) ∧ Y.cell? ⟨(ad.add (k * 2)).block, (ad.add (k * 2)).off + 1, none⟩ = some (.int .i64 t1) ∧ Y.cell? (edd.add (k * 2)) = some (.int .i64 x0) ∧ Y.cell? ⟨(edd.add (k * 2)).block, (edd.add (k * 2)).off + 1, none⟩ = some (.int .i64 x1)) (first | (with_reducible exact S10 (by (repeat (first | apply below_drew | apply below_alloc)); exact Below.refl _ _) HS1.out)) (first | fail)
      have HY2 : Aside0 (Below y1.heap.size y1 ((y1.alloc (.cells #[.int .i64 lo, .int .i64 hi] 97)).drew) ∧ ((y1.alloc (.cells #[.int .i64 lo, .int .i64 hi] 97)).drew).heap[y1.heap.size]? = some (.cells #[.int .i64 lo, .int .i64 hi] 97 (0, 0))) := ⟨below_drew (below_alloc (Below.refl _ _) _), blk_drew (blk_new y1 _)⟩
      go_wp2_with fail
      obtain ⟨sb, hsb⟩ : ∃ b, b = y1.heap.size := ⟨_, rfl⟩
      generalize hy : (y1.alloc (.cells #[.int .i64 lo, .int .i64 hi] 97)).drew = y2 at HY2 ⊢
      rw [← hsb] at HY2 ⊢
      have HB12 : Aside0 (Below y1.heap.size y1 y2) := ⟨hsb ▸ HY2.out.1⟩
      have HS2 := Aside0.mk (S10 HB12.out HS1.out)
      have hbx := blk_below HY1.out.2 HB12.out
      have hbs := HY2.out.2
      have HXBk := Aside0.mk hbx
      have HXS : Aside0 (y2.cell? ⟨xb, 0, none⟩ = some (.int .i64 x0) ∧ y2.cell? ⟨xb, 1, none⟩ = some (.int .i64 x1) ∧ y2.cell? ⟨sb, 0, none⟩ = some (.int .i64 lo) ∧ y2.cell? ⟨sb, 1, none⟩ = some (.int .i64 hi)) := ⟨(blk_cell hbx 0).trans rfl, (blk_cell hbx 1).trans rfl, (blk_cell hbs 0).trans rfl, (blk_cell hbs 1).trans rfl⟩
      have HBY : Aside0 (Below wr.heap.size wr y2) := ⟨by
        have h1 := HY1.out.1
        rw [HXB.out] at h1
        exact h1.trans (HB12.out.mono h1.size)⟩
      clear hy hsb hbx hbs u4 u6 u7 c0 q0 q1 m0 m1 e0 e1
      obtain ⟨u4, u6, u7, c0, q0, q1, m0, m1, e0, e1⟩ := HS2.out
      obtain ⟨xb0, xb1, sb0, sb1⟩ := HXS.out
      go_region_held3 (fun Y : World => Y.cell? ⟨xb, 0, none⟩ = some (.int .i64 x0) ∧ Y.cell? ⟨xb, 1, none⟩ = some (.int .i64 x1) ∧ Y.cell? ⟨sb, 0, none⟩ = some (.int .i64 lo) ∧ Y.cell? ⟨sb, 1, none⟩ = some (.int .i64 hi) ∧ Y.cell? ⟨p, 4, none⟩ = some (.slice (some bd) nC cC) ∧ Y.cell? ⟨p, 6, none⟩ = some (.int .i64 dl) ∧ Y.cell? ⟨p, 7, none⟩ = some (.slice (some ad) nT cT) ∧ Y.cell? (rdd.add k) = some (.int .i64 r) ∧ Y.cell? (bd.add (r.toNat * 3)) = some (.int .i64 lo) ∧ Y.cell? ⟨(bd.add (r.toNat * 3)).block, (bd.add (r.toNat * 3)).off + 1, none⟩ = some (.int .i64 hi) ∧ Y.cell? (ad.add (k * 2)) = some (.int .i64 t0) ∧ Y.cell? ⟨(ad.add (k * 2)).block, (ad.add (k * 2)).off + 1, none⟩ = some (.int .i64 t1) ∧ Y.cell? (edd.add (k * 2)) = some (.int .i64 x0) ∧ Y.cell? ⟨(edd.add (k * 2)).block, (edd.add (k * 2)).off + 1, none⟩ = some (.int .i64 x1)) (first | (with_reducible exact and4 (S4 (by (repeat (first | apply below_drew | apply pw_below_drewN)); exact Below.refl _ _) HXS.out) (S10 (by (repeat (first | apply below_drew | apply pw_below_drewN)); exact Below.refl _ _) HS2.out))) (first
        | (go_at_call 37; (with_reducible refine (HW1.out _).mono ?_); rintro e w' ⟨rfl, ⟨nd, rfl⟩⟩)
        | (go_at_call 37; (with_reducible refine (HW2.out _).mono ?_); rintro e w' ⟨rfl, ⟨nd2, rfl⟩⟩))
      have HB23 : Aside0 (Below y2.heap.size y2 (y2.drewN (1 + nd + nd2))) := ⟨pw_below_drewN (Below.refl _ _) _⟩
      go_wp2_with fail
      generalize y2.drewN (1 + nd + nd2) = y3 at HB23 ⊢
      have HS3 := Aside0.mk (S10 HB23.out HS2.out)
      have HX3 := Aside0.mk (blk_below HXBk.out HB23.out)
      have HB3 : Aside0 (Below w2.heap.size w2 y3) := ⟨HB.out.trans ((HBY.out.trans (HB23.out.mono HBY.out.size)).mono HB.out.size)⟩
      have HR3 := Aside0.mk (Kd.R_below HR.out (HBY.out.trans (HB23.out.mono HBY.out.size)))
      have htl : ((doneFrom W 0 real).take k).length ≤ 40 := by rw [List.length_take]; omega
      clear u4 u6 u7 c0 q0 q1 m0 m1 e0 e1 xb0 xb1 sb0 sb1
      obtain ⟨u4, u6, u7, c0, q0, q1, m0, m1, e0, e1⟩ := HS3.out
      have xb0 : y3.cell? ⟨xb, 0, none⟩ = some (.int .i64 x0) := (blk_cell HX3.out 0).trans rfl
      have xb1 : y3.cell? ⟨xb, 1, none⟩ = some (.int .i64 x1) := (blk_cell HX3.out 1).trans rfl
      go_region_held3 (fun Y : World => Y.cell? ⟨xb, 0, none⟩ = some (.int .i64 x0) ∧ Y.cell? ⟨xb, 1, none⟩ = some (.int .i64 x1) ∧ Y.cell? ⟨p, 4, none⟩ = some (.slice (some bd) nC cC) ∧ Y.cell? ⟨p, 6, none⟩ = some (.int .i64 dl) ∧ Y.cell? ⟨p, 7, none⟩ = some (.slice (some ad) nT cT) ∧ Y.cell? (rdd.add k) = some (.int .i64 r) ∧ Y.cell? (bd.add (r.toNat * 3)) = some (.int .i64 lo) ∧ Y.cell? ⟨(bd.add (r.toNat * 3)).block, (bd.add (r.toNat * 3)).off + 1, none⟩ = some (.int .i64 hi) ∧ Y.cell? (ad.add (k * 2)) = some (.int .i64 t0) ∧ Y.cell? ⟨(ad.add (k * 2)).block, (ad.add (k * 2)).off + 1, none⟩ = some (.int .i64 t1) ∧ Y.cell? (edd.add (k * 2)) = some (.int .i64 x0) ∧ Y.cell? ⟨(edd.add (k * 2)).block, (edd.add (k * 2)).off + 1, none⟩ = some (.int .i64 x1)) (first | (with_reducible exact X2S (blk_drew HX3.out) (S10 (below_drew (Below.refl _ _)) HS3.out)) | (with_reducible exact X2S HXz.out (S10 HBz.out HS3.out)) | (with_reducible exact X2S (blk_alloc HXz.out _) (S10 (below_alloc HBz.out _) HS3.out)) | (with_reducible exact X2S HXw.out (S10 HBw1.out HS0.out))) (first
        | (go_at_call 47; (with_reducible refine (HDN.out _).mono ?_); rintro e z ⟨rfl, hb⟩; have HBz : Aside0 (Below y3.heap.size y3 z) := ⟨(below_drew (Below.refl _ _)).trans hb⟩; have HXz := Aside0.mk (blk_below HX3.out HBz.out); clear hb)
        | (refine Kd.R_append_step (Kd.int .i64) (w0 := w2) w2.heap.size (by rfl) (.tmp 75) (.tmp 85) 46 3 (.int .i64 0) 8 rfl Try.underlying46 info3 rfl (by decide) (by decide) u12 ((doneFrom W 0 real).take k) dv [.int .i64 dv] (fun _ => True) (fun _ => False) rfl rfl rfl (fun _ hk => hk.elim) (fun _ _ => trivial) (Kd.R_below HR3.out HBz.out) (HB3.out.trans (HBz.out.mono HB3.out.size)) (Nat.le_trans HB3.out.size HBz.out.size) (by omega) ?_; intro v1 w1 hR1 hBw1 hgr _; have HRv := Aside0.mk hR1; have HBw1 := Aside0.mk hBw1; have HXw := Aside0.mk (blk_grown HXz.out hgr (Kd.R_ne (Kd.R_below HR3.out HBz.out) HXz.out (by decide))); clear hR1 hBw1 hgr))
      go_wp2_with fail
      go_roundw
      case rel => exact ⟨k + 1, by omega, by go_num, ⟨by rw [HTK.out]; exact HRv.out⟩, HBw1⟩
      case measure => simp [intOf]; omega
    · have hkn : k = nr := by omega
      have HE : Aside0 (((doneFrom W 0 real).take k) = doneFrom W 0 real) := ⟨List.take_of_length_le (by rw [doneFrom_length, HLEN.out, ← HNR.out]; omega)⟩
      go_wp2
      go_ret2
      exact ⟨_, rfl, by rw [← HE.out]; exact Kd.R_lower HR.out HB2.out.size, HB2.out.trans (HB.out.mono HB2.out.size)⟩
end Go.Proofs.Ytillieimgjdpbaa.Pr
namespace Go.Proofs.Ytillieimgjdpbaa.Pr
open Go.RowKit Go.Proofs.YtillieimgjdpbaaW.PrintWords Go.Proofs.YtillieimgjdpbaaW.PrintLast Go.Proofs.YtillieimgjdpbaaW.PrintMore
set_option linter.unusedVariables false
set_option linter.unusedSimpArgs false
end Go.Proofs.Ytillieimgjdpbaa.Pr
namespace Go.Proofs.Ytillieimgjdpbaa.Pr
open Go.RowKit Go.Proofs.YtillieimgjdpbaaW.PrintWords Go.Proofs.YtillieimgjdpbaaW.PrintLast Go.Proofs.YtillieimgjdpbaaW.PrintMore
set_option linter.unusedVariables false
set_option linter.unusedSimpArgs false
/-- How many takes began before a second. -/
def frontP (sec : Int) : List S35 → Nat
  | [] => 0
  | t :: r => if t.f0 < sec then frontP sec r + 1 else 0
theorem front_le (sec : Int) : ∀ T : List S35, frontP sec T ≤ T.length
  | [] => Nat.le_refl _
  | t :: r => by
    have := front_le sec r
    rw [frontP]; split <;> simp <;> omega
theorem front_lt (sec : Int) : ∀ (T : List S35) (i : Nat) (h : i < frontP sec T) (h2 : i < T.length), T[i].f0 < sec
  | t :: r, i, h, h2 => by
    rw [frontP] at h
    split at h
    · next hs =>
      cases i with
      | zero => exact hs
      | succ i => exact front_lt sec r i (by omega) (by simpa using h2)
    · omega
theorem front_end (sec : Int) : ∀ (T : List S35) (h2 : frontP sec T < T.length), sec ≤ (T[frontP sec T]'h2).f0
  | t :: r, h2 => by
    by_cases hs : t.f0 < sec
    · have e : frontP sec (t :: r) = frontP sec r + 1 := by rw [frontP, if_pos hs]
      have h3 : frontP sec r < r.length := by rw [e] at h2; simpa using h2
      have := front_end sec r h3
      simpa [e] using this
    · have e : frontP sec (t :: r) = 0 := by rw [frontP, if_neg hs]
      simp [e]; omega
theorem front_lt' {sec : Int} {T : List S35} {i : Nat} (h : i < frontP sec T) : (rd_T35 T i).f0 < sec := by
  have h2 : i < T.length := Nat.lt_of_lt_of_le h (front_le sec T)
  rw [rd35' T i h2]; exact front_lt sec T i h h2
theorem front_end' {sec : Int} {T : List S35} (h : frontP sec T < T.length) : sec ≤ (rd_T35 T (frontP sec T : Nat)).f0 := by
  rw [rd35' T _ h]; exact front_end sec T h
/-- Whether a take is its reporter's and not done. -/
def lateP (W : Wk) (rota : List Int) (k sec : Int) (i : Nat) : Prop := rota.getD i (-1) = k ∧ sec < worstP W i k
instance (W : Wk) (rota : List Int) (k sec : Int) (i : Nat) : Decidable (lateP W rota k sec i) := by unfold lateP; infer_instance
/-- What stays open. -/
def openP (W : Wk) (rota : List Int) (k sec : Int) : Nat → List Int
  | 0 => []
  | n + 1 => openP W rota k sec n ++ if lateP W rota k sec n then [(n : Int)] else []
theorem open_length (W : Wk) (rota : List Int) (k sec : Int) : ∀ n, (openP W rota k sec n).length ≤ n
  | 0 => Nat.le_refl _
  | n + 1 => by
    have := open_length W rota k sec n
    rw [openP, List.length_append]; split <;> simp <;> omega
end Go.Proofs.Ytillieimgjdpbaa.Pr
