/- Contracts by hand: the rota after a reporter is relieved. -/
import Derived.Test.YtillieimgjdpbaaRPr6
import Derived.KernelRfl
import Derived.Test.YtillieimgjdpbaaRHs
import Derived.Test.YtillieimgjdpbaaRIb
import Derived.Deep.RegionHeld3
import Derived.Outline
namespace Go.Proofs.Ytillieimgjdpbaa.Pr
theorem awake_true : palantypelaw01_awake.f 30 = some true := by kernel_rfl
end Go.Proofs.Ytillieimgjdpbaa.Pr
namespace Go.Proofs.Ytillieimgjdpbaa.Pr
open Go.RowKit Go.Proofs.YtillieimgjdpbaaW.PrintWords Go.Proofs.YtillieimgjdpbaaW.PrintLast Go.Proofs.YtillieimgjdpbaaW.PrintMore
set_option linter.unusedVariables false
set_option linter.unusedSimpArgs false
def to99 (r : S62) : S99 := ⟨⟨r.f0.f0, r.f0.f1⟩, r.f1⟩
theorem rd62 (l : List S62) (i : Nat) (h : i < l.length) : rd_T62 l (i : Int) = l[i] := by
  unfold rd_T62
  rw [Int.toNat_natCast, List.getD_eq_getElem?_getD, List.getElem?_eq_getElem h]; rfl
def offTail (n : Nat) (due dl : Int) : Bool := decide (1 ≤ (n : Int) ∧ (n : Int) ≤ 5) && decide (0 ≤ due ∧ due ≤ 36000) && decide (0 ≤ dl ∧ dl ≤ 36000)
theorem right_l0 (cr : List S62) (due dl : Int) (hlen : cr.length ≤ 1000000) (n : Nat) : ∀ (i k : Nat), i + n = cr.length →
    palantyperef01_RightOffice.l0 (2 * n + 1 + k) (i : Int) cr due dl = some (((cr.drop i).map to99).all repOk && offTail cr.length due dl) := by
  induction n with
  | zero =>
    intro i k hi
    obtain rfl : i = cr.length := by omega
    rw [show 2 * 0 + 1 + k = k + 1 from by omega, palantyperef01_RightOffice.l0, if_neg (by omega), List.drop_length, in_some, in_some, in_some, Option.bind_some, Option.bind_some, Option.bind_some]
    unfold offTail
    cases decide (1 ≤ (cr.length : Int) ∧ (cr.length : Int) ≤ 5) <;> cases decide (0 ≤ due ∧ due ≤ 36000) <;> rfl
  | succ n ih =>
    intro i k hi
    have hlt : i < cr.length := by omega
    have hrec := ih (i + 1) k (by omega)
    have hw : wrap64 ((i : Int) + 1) = ((i + 1 : Nat) : Int) := by rw [winS _ (by omega)]; omega
    have hj : ∀ b, palantyperef01_RightOffice.j1 (2 * n + 1 + k + 1) (i : Int) b cr due dl = some (!b && (((cr.drop (i + 1)).map to99).all repOk && offTail cr.length due dl)) := fun b => by
      rw [palantyperef01_RightOffice.j1]
      cases b with
      | true => rfl
      | false => rw [if_neg (by decide), hw, hrec]; rfl
    have hd : ((cr.drop i).map to99).all repOk = (repOk (to99 cr[i]) && ((cr.drop (i + 1)).map to99).all repOk) := by rw [drop_cons' cr i hlt]; rfl
    rw [show 2 * (n + 1) + 1 + k = (2 * n + 1 + k + 1) + 1 from by omega, palantyperef01_RightOffice.l0, if_pos (by omega), if_pos (by omega), rd62 cr i hlt, hd]
    generalize cr[i] = r
    have er : repOk (to99 r) = (decide (0 ≤ r.f0.f0) && decide (r.f0.f0 ≤ r.f0.f1) && decide (r.f0.f1 ≤ 20) && decide (0 ≤ r.f1 ∧ r.f1 ≤ 36000)) := rfl
    rw [er, in_some, Option.bind_some, hj, hj]
    by_cases c1 : r.f0.f0 < 0
    · rw [if_pos c1, decide_eq_false (by omega)]; rfl
    · rw [if_neg c1, decide_eq_true (p := 0 ≤ r.f0.f0) (by omega)]
      by_cases c2 : r.f0.f0 > r.f0.f1
      · rw [if_pos c2, decide_eq_false (p := r.f0.f0 ≤ r.f0.f1) (by omega)]; rfl
      · rw [if_neg c2, decide_eq_true (p := r.f0.f0 ≤ r.f0.f1) (by omega)]
        by_cases c3 : r.f0.f1 > 20
        · rw [if_pos c3, decide_eq_false (p := r.f0.f1 ≤ 20) (by omega)]; rfl
        · rw [if_neg c3, decide_eq_true (p := r.f0.f1 ≤ 20) (by omega)]
          cases decide (0 ≤ r.f1 ∧ r.f1 ≤ 36000) <;> simp
theorem right_some (cr : List S62) (due dl : Int) (hlen : cr.length ≤ 1000000) (k : Nat) (hk : 2 * cr.length + 1 ≤ k) : palantyperef01_RightOffice.f k cr due dl = some (officeOk (cr.map to99) due dl) := by
  obtain ⟨j, rfl⟩ : ∃ j, k = 2 * cr.length + 1 + j := ⟨k - (2 * cr.length + 1), by omega⟩
  have := right_l0 cr due dl hlen cr.length 0 j (by omega)
  rw [palantyperef01_RightOffice.f]
  refine this.trans ?_
  rw [List.drop_zero, officeOk, offTail, List.length_map]
  cases (cr.map to99).all repOk <;> cases decide (1 ≤ (cr.length : Int) ∧ (cr.length : Int) ≤ 5) <;> rfl
def readyP (L : Int) (l : List S41) (lo sh : Int) (cr : List S62) (due dl : Int) : Bool :=
  decide ((l.length : Int) ≤ 60) && decide ((cr.length : Int) ≤ 8) && (workE L (l.map to35) lo sh (cr.map to99) due dl == 0)
theorem thin_some (L : Int) (l : List S41) (lo sh : Int) (cr : List S62) (due dl : Int) : palantypelaw01_Thin.f L l lo sh cr due dl = some (decide ((l.length : Int) ≤ 60) && decide ((cr.length : Int) ≤ 8)) := by
  unfold palantypelaw01_Thin.f
  by_cases h : (l.length : Int) ≤ 60
  · rw [if_pos h, decide_eq_true h]; rfl
  · rw [if_neg h, decide_eq_false h]; rfl
theorem ready_some (L : Int) (l : List S41) (lo sh : Int) (cr : List S62) (due dl : Int) : ∃ k, palantypelaw01_ready.f k L l lo sh cr due dl = some (readyP L l lo sh cr due dl) := by
  cases ht : (decide ((l.length : Int) ≤ 60) && decide ((cr.length : Int) ≤ 8)) with
  | false =>
    refine ⟨0, ?_⟩
    rw [palantypelaw01_ready.f, thin_some, ht, Option.bind_some, if_neg (by decide), readyP, ht]; rfl
  | true =>
    have hl : l.length ≤ 60 ∧ cr.length ≤ 8 := by simp only [Bool.and_eq_true, decide_eq_true_eq] at ht; omega
    obtain ⟨k0, hk⟩ := fault_some L l lo sh (by omega)
    have hf : palantyperef01_SittingFault.f (k0 + 17) L l lo sh = _ := hk (k0 + 17) (by omega)
    refine ⟨k0 + 17, ?_⟩
    rw [palantypelaw01_ready.f, thin_some, ht, Option.bind_some, if_pos rfl, palantypelaw01_fault.f, hf, Option.bind_some, right_some cr due dl (by omega) _ (by omega), Option.bind_some, readyP, ht, workE]
    by_cases hc : (checkP L (l.map to35) lo sh).2 = 0
    · rw [if_pos hc]
      simp only [hc, ne_eq, not_true_eq_false, if_false]
      cases officeOk (cr.map to99) due dl <;> rfl
    · rw [if_neg hc, if_pos hc]; rfl
theorem office_l0 (cr : List S62) (due dl : Int) (hlen : cr.length ≤ 1000000) (n : Nat) : ∀ (i : Nat) (acc : List S99) (k : Nat), i + n = cr.length → acc.length ≤ i →
    palantypelaw01_Office.l0 (n + 1 + k) (i : Int) cr due dl acc due dl = some (acc ++ (cr.drop i).map to99, due, dl) := by
  induction n with
  | zero =>
    intro i acc k hi ha
    obtain rfl : i = cr.length := by omega
    rw [show 0 + 1 + k = k + 1 from by omega, palantypelaw01_Office.l0, if_neg (by omega), List.drop_length]; simp
  | succ n ih =>
    intro i acc k hi ha
    have hlt : i < cr.length := by omega
    have hw : wrap64 ((i : Int) + 1) = ((i + 1 : Nat) : Int) := by rw [winS _ (by omega)]; omega
    rw [show n + 1 + 1 + k = (n + 1 + k) + 1 from by omega, palantypelaw01_Office.l0, if_pos (by omega), if_pos (by omega), if_pos (by omega), rd62 cr i hlt, hw, ih (i + 1) _ k (by omega) (by simp; omega), drop_cons' cr i hlt, List.append_assoc]
    rfl
theorem office_some (cr : List S62) (due dl : Int) (hlen : cr.length ≤ 1000000) (k : Nat) (hk : cr.length + 1 ≤ k) : palantypelaw01_Office.f k cr due dl = some (cr.map to99, due, dl) := by
  obtain ⟨j, rfl⟩ : ∃ j, k = cr.length + 1 + j := ⟨k - (cr.length + 1), by omega⟩
  have := office_l0 cr due dl hlen cr.length 0 [] j (by omega) (by simp)
  rw [palantypelaw01_Office.f]
  exact this.trans (by simp)
theorem c11 (X : World) : Calls Try.prog 11 #[] X fun e w' => e = .returned (.bool true) ∧ Below X.heap.size X w' := palantypelaw01_awake.calls _ true X awake_true
theorem c16 {X : World} {A : Option Addr} {c : Nat} {l : List S41} (h1 : Kd.C k41 X A l.length l) (h1c : l.length ≤ c) {B : Option Addr} {d : Nat} {cr : List S62} (h2 : Kd.C k62 X B cr.length cr) (h2c : cr.length ≤ d) (L lo sh due dl : Int) :
    Calls Try.prog 16 #[.agg #[.int .i64 L, .slice A l.length c, .int .i64 lo, .int .i64 sh], .agg #[.slice B cr.length d, .int .i64 due, .int .i64 dl]] X fun e w' => e = .returned (.bool (readyP L l lo sh cr due dl)) ∧ Below X.heap.size X w' := by
  obtain ⟨k, hk⟩ := ready_some L l lo sh cr due dl
  exact palantypelaw01_ready.calls k L A c l lo sh B d cr due dl _ X h1 h1c h2 h2c hk
theorem c13 {X : World} {A : Option Addr} {c : Nat} {l : List S41} (h1 : Kd.C k41 X A l.length l) (h1c : l.length ≤ c) (hl : l.length ≤ 1000000) (L lo sh : Int) {P : List S35} (hP : P = l.map to35) :
    Calls Try.prog 13 #[.agg #[.int .i64 L, .slice A l.length c, .int .i64 lo, .int .i64 sh]] X fun e w' => ∃ A1 c1, e = .returned (.agg #[.int .i64 L, .slice A1 P.length c1, .int .i64 lo, .int .i64 sh]) ∧ Aside0 (Kd.C k35 w' A1 P.length P) ∧ Aside0 (P.length ≤ c1) ∧ Below X.heap.size X w' :=
  (palantypelaw01_Sitting.calls (l.length + 1) L A c l lo sh L P lo sh X h1 h1c (by rw [hP]; exact sit_some L l lo sh hl _ (Nat.le_refl _))).mono (fun e w' h => by
    obtain ⟨v, rfl, hR, hb⟩ := h
    obtain ⟨A1, c1, rfl⟩ := Kd.R_slice hR
    obtain ⟨_, g2, g3⟩ := Kd.R_reads' hR
    exact ⟨A1, c1, rfl, ⟨g3⟩, ⟨g2⟩, hb⟩)
theorem c18 {X : World} {B : Option Addr} {d : Nat} {cr : List S62} (h1 : Kd.C k62 X B cr.length cr) (h1c : cr.length ≤ d) (hl : cr.length ≤ 1000000) (due dl : Int) {O : List S99} (hO : O = cr.map to99) :
    Calls Try.prog 18 #[.agg #[.slice B cr.length d, .int .i64 due, .int .i64 dl]] X fun e w' => ∃ A1 c1, e = .returned (.agg #[.slice A1 O.length c1, .int .i64 due, .int .i64 dl]) ∧ Aside0 (Kd.C k99 w' A1 O.length O) ∧ Aside0 (O.length ≤ c1) ∧ Below X.heap.size X w' :=
  (palantypelaw01_Office.calls (cr.length + 1) B d cr due dl O due dl X h1 h1c (by rw [hO]; exact office_some cr due dl hl _ (Nat.le_refl _))).mono (fun e w' h => by
    obtain ⟨v, rfl, hR, hb⟩ := h
    obtain ⟨A1, c1, rfl⟩ := Kd.R_slice hR
    obtain ⟨_, g2, g3⟩ := Kd.R_reads' hR
    exact ⟨A1, c1, rfl, ⟨g3⟩, ⟨g2⟩, hb⟩)
theorem c22 {X : World} {A : Option Addr} {c : Nat} {l : List S41} (h1 : Kd.C k41 X A l.length l) (h1c : l.length ≤ c) (hl : l.length ≤ 1000000) (L lo sh b : Int) {l' : List S41} (hP : l' = cut41 b l) :
    Calls Try.prog 22 #[.agg #[.int .i64 L, .slice A l.length c, .int .i64 lo, .int .i64 sh], .int .i64 b] X fun e w' => ∃ A1 c1, e = .returned (.agg #[.int .i64 b, .slice A1 l'.length c1, .int .i64 lo, .int .i64 sh]) ∧ Aside0 (∀ W', (∀ i, X.heap.size ≤ i → W'.heap[i]? = w'.heap[i]?) → Kd.C k41 W' A1 l'.length l') ∧ Aside0 (l'.length ≤ c1) ∧ Below X.heap.size X w' :=
  (palantypelaw01_cut.calls (l.length + 1) L A c l lo sh b b l' lo sh X h1 h1c (by rw [hP]; exact cut_some b L l lo sh hl _ (Nat.le_refl _))).mono (fun e w' h => by
    obtain ⟨v, rfl, hR, hb⟩ := h
    obtain ⟨A1, c1, rfl⟩ := Kd.R_slice hR
    obtain ⟨_, g2, _⟩ := Kd.R_reads' hR
    exact ⟨A1, c1, rfl, ⟨fun W' hW => (Kd.R_reads' (Kd.R_move (Kd.R_bound hR) (fun k hk => hW k hk.2.1))).2.2⟩, ⟨g2⟩, hb⟩)
theorem c21 {X : World} {A : Option Addr} {c : Nat} {l : List Int} (h1 : Kd.C (Kd.int .i64) X A l.length l) (h1c : l.length ≤ c) (hl : l.length ≤ 1000000) :
    Calls Try.prog 21 #[.slice A l.length c] X fun e w' => ∃ A1 c1, e = .returned (.slice A1 l.length c1) ∧ Aside0 (Kd.C (Kd.int .i64) w' A1 l.length l) ∧ Aside0 (l.length ≤ c1) ∧ Below X.heap.size X w' :=
  (palantypelaw01_list.calls A c l l X h1 h1c (by rw [palantypelaw01_list.f, if_pos (by omega)])).mono (fun e w' h => by
    obtain ⟨v, rfl, hR, hb⟩ := h
    obtain ⟨A1, c1, rfl⟩ := Kd.R_slice hR
    obtain ⟨_, g2, g3⟩ := Kd.R_reads' hR
    exact ⟨A1, c1, rfl, ⟨g3⟩, ⟨g2⟩, hb⟩)
theorem c12 {X : World} {A : Option Addr} {c : Nat} {P : List S35} (h1 : Kd.C k35 X A P.length P) (h1c : P.length ≤ c) (L lo sh : Int) {T : List S35} {e0 : Int} (hT : checkP L P lo sh = (T, e0)) :
    Calls Try.prog 12 #[.agg #[.int .i64 L, .slice A P.length c, .int .i64 lo, .int .i64 sh]] X fun e w' => ∃ A1 c1, e = .returned (.tuple #[.slice A1 T.length c1, .int .i64 e0]) ∧ Aside0 (Kd.C k35 w' A1 T.length T) ∧ Aside0 (T.length ≤ c1) ∧ Below X.heap.size X w' :=
  (take_Takes.calls L A c P lo sh T e0 X h1 h1c (by simp only [take_Takes.f, take_Sitting_check.f, hT, Option.bind_some])).mono (fun e w' h => by
    obtain ⟨v, rfl, hR, hb⟩ := h
    obtain ⟨A1, c1, rfl⟩ := Kd.R_slice hR
    obtain ⟨_, g2, g3⟩ := Kd.R_reads' hR
    exact ⟨A1, c1, rfl, ⟨g3⟩, ⟨g2⟩, hb⟩)
theorem c17 {X : World} {A : Option Addr} {c : Nat} {P : List S35} (h1 : Kd.C k35 X A P.length P) (h1c : P.length ≤ c) {B : Option Addr} {d : Nat} {O : List S99} (h2 : Kd.C k99 X B O.length O) (h2c : O.length ≤ d) (L lo sh due dl : Int) {r : List Int} {e0 : Int} (hr : rotaR (wkOf L P lo sh O due dl) (workE L P lo sh O due dl) = (r, e0)) :
    Calls Try.prog 17 #[.agg #[.int .i64 L, .slice A P.length c, .int .i64 lo, .int .i64 sh], .agg #[.slice B O.length d, .int .i64 due, .int .i64 dl]] X fun e w' => ∃ A1 c1, e = .returned (.tuple #[.slice A1 r.length c1, .int .i64 e0]) ∧ Aside0 (Kd.C (Kd.int .i64) w' A1 r.length r) ∧ Aside0 (r.length ≤ c1) ∧ Below X.heap.size X w' :=
  (take_Rota.calls L A c P lo sh B d O due dl r e0 X h1 h1c h2 h2c (by rw [take_Rota.f, hr])).mono (fun e w' h => by
    obtain ⟨v, rfl, hR, hb⟩ := h
    obtain ⟨A1, c1, rfl⟩ := Kd.V_slice hR
    obtain ⟨_, g2, g3⟩ := Kd.V_reads' hR
    exact ⟨A1, c1, rfl, ⟨g3⟩, ⟨g2⟩, hb⟩)
theorem c19 {X : World} {A : Option Addr} {c : Nat} {P : List S35} (h1 : Kd.C k35 X A P.length P) (h1c : P.length ≤ c) {B : Option Addr} {d : Nat} {O : List S99} (h2 : Kd.C k99 X B O.length O) (h2c : O.length ≤ d) (L lo sh due dl : Int) {n : Int} {e0 : Int} (hr : failsR (wkOf L P lo sh O due dl) (workE L P lo sh O due dl) = (n, e0)) :
    Calls Try.prog 19 #[.agg #[.int .i64 L, .slice A P.length c, .int .i64 lo, .int .i64 sh], .agg #[.slice B O.length d, .int .i64 due, .int .i64 dl]] X fun e w' => e = .returned (.tuple #[.int .i64 n, .int .i64 e0]) ∧ Below X.heap.size X w' :=
  take_Fails.calls L A c P lo sh B d O due dl n e0 X h1 h1c h2 h2c (by rw [take_Fails.f, hr])
theorem c20 {X : World} {A : Option Addr} {c : Nat} {P : List S35} (h1 : Kd.C k35 X A P.length P) (h1c : P.length ≤ c) {B : Option Addr} {d : Nat} {O : List S99} (h2 : Kd.C k99 X B O.length O) (h2c : O.length ≤ d) {D : Option Addr} {m : Nat} {l : List Int} (h3 : Kd.C (Kd.int .i64) X D l.length l) (h3c : l.length ≤ m) (L lo sh due dl : Int) {b : Bool} (hr : proveR (wkOf L P lo sh O due dl) (workE L P lo sh O due dl) l = b) :
    Calls Try.prog 20 #[.agg #[.int .i64 L, .slice A P.length c, .int .i64 lo, .int .i64 sh], .agg #[.slice B O.length d, .int .i64 due, .int .i64 dl], .slice D l.length m] X fun e w' => e = .returned (.bool b) ∧ Below X.heap.size X w' :=
  take_ProveRota.calls L A c P lo sh B d O due dl D m l b X h1 h1c h2 h2c h3 h3c (by rw [take_ProveRota.f, hr])
end Go.Proofs.Ytillieimgjdpbaa.Pr
namespace Go.Proofs.Ytillieimgjdpbaa.Pr
open Go.RowKit Go.Proofs.YtillieimgjdpbaaW.PrintWords Go.Proofs.YtillieimgjdpbaaW.PrintLast Go.Proofs.YtillieimgjdpbaaW.PrintMore
set_option linter.unusedVariables false
set_option linter.unusedSimpArgs false
/-- What is not lost where old blocks stay as they are. -/
class Keeps (K : World → Prop) : Prop where
  keep : ∀ {X X' : World}, K X → Below X.heap.size X X' → K X'
instance keeps_true : Keeps (fun _ => True) := ⟨fun _ _ => trivial⟩
instance keeps_C {α : Type} (k : Kd α) (A : Option Addr) (n : Nat) (l : List α) : Keeps (fun X => Kd.C k X A n l) := ⟨fun h hb => Kd.C_below h hb⟩
instance keeps_blk (g : Nat) (o : Array Value) (t : TypeId) : Keeps (fun X => X.heap[g]? = some (.cells o t (0, 0))) := ⟨fun h hb => blk_below h hb⟩
instance keeps_and (K K' : World → Prop) [h : Keeps K] [h' : Keeps K'] : Keeps (fun X => K X ∧ K' X) := ⟨fun k hb => ⟨h.keep k.1 hb, h'.keep k.2 hb⟩⟩
/-- The arguments' boxes stand as they were laid; K holds. -/
structure Fa (w : World) (sc oc : Array Value) (K : World → Prop) (X : World) : Prop where
  b : Below w.heap.size w X
  s : X.heap[w.heap.size]? = some (.cells sc 24 (0, 0))
  o : X.heap[w.heap.size + 1]? = some (.cells oc 45 (0, 0))
  k : K X
theorem Fa.below {w X X' : World} {sc oc : Array Value} {K : World → Prop} [hK : Keeps K] (h : Fa w sc oc K X) (hb : Below X.heap.size X X') : Fa w sc oc K X' := ⟨h.b.trans (hb.mono h.b.size), blk_below h.s hb, blk_below h.o hb, hK.keep h.k hb⟩
theorem Fa.start (w : World) (sc oc : Array Value) : Fa w sc oc (fun _ => True) ((w.alloc (.cells sc 24)).alloc (.cells oc 45)) := ⟨below_alloc (below_alloc (Below.refl _ _) _) _, heap_alloc2_old _ _ _, heap_alloc2_new _ _ _, trivial⟩
theorem Fa.add {w X : World} {sc oc : Array Value} {K : World → Prop} (K' : World → Prop) (h : Fa w sc oc K X) (hk : K' X) : Fa w sc oc K' X := ⟨h.b, h.s, h.o, hk⟩
theorem Fa.drew {w X : World} {sc oc : Array Value} {K : World → Prop} [Keeps K] (h : Fa w sc oc K X) : Fa w sc oc K X.drew := h.below (below_drew (Below.refl _ _))
theorem Fa.alloc {w X : World} {sc oc : Array Value} {K : World → Prop} [Keeps K] (h : Fa w sc oc K X) (o : Obj) : Fa w sc oc K (X.alloc o) := h.below (below_alloc (Below.refl _ _) o)
theorem Fa.cells {w : World} {L lo sh due dl : Int} {A B : Option Addr} {n c k d : Nat} {K : World → Prop} {Y : World} (h : Fa w #[.int .i64 L, .slice A n c, .int .i64 lo, .int .i64 sh] #[.slice B k d, .int .i64 due, .int .i64 dl] K Y) :
    Y.cell? ⟨w.heap.size, 0, none⟩ = some (.int .i64 L) ∧ Y.cell? ⟨w.heap.size, 1, none⟩ = some (.slice A n c) ∧ Y.cell? ⟨w.heap.size, 2, none⟩ = some (.int .i64 lo) ∧ Y.cell? ⟨w.heap.size, 3, none⟩ = some (.int .i64 sh) ∧
    Y.cell? ⟨w.heap.size + 1, 0, none⟩ = some (.slice B k d) ∧ Y.cell? ⟨w.heap.size + 1, 1, none⟩ = some (.int .i64 due) ∧ Y.cell? ⟨w.heap.size + 1, 2, none⟩ = some (.int .i64 dl) :=
  ⟨(blk_cell h.s 0).trans rfl, (blk_cell h.s 1).trans rfl, (blk_cell h.s 2).trans rfl, (blk_cell h.s 3).trans rfl, (blk_cell h.o 0).trans rfl, (blk_cell h.o 1).trans rfl, (blk_cell h.o 2).trans rfl⟩
theorem ready_parts {L lo sh due dl : Int} {l : List S41} {cr : List S62} (h : readyP L l lo sh cr due dl = true) : l.length ≤ 60 ∧ cr.length ≤ 8 ∧ workE L (l.map to35) lo sh (cr.map to99) due dl = 0 := by
  simp only [readyP, Bool.and_eq_true, decide_eq_true_eq, beq_iff_eq] at h
  omega
theorem rd35' (l : List S35) (i : Nat) (h : i < l.length) : rd_T35 l (i : Int) = l[i] := by
  unfold rd_T35
  rw [Int.toNat_natCast, List.getD_eq_getElem?_getD, List.getElem?_eq_getElem h]; rfl
theorem check_of_work {L : Int} {P : List S35} {lo sh : Int} {O : List S99} {due dl : Int} (he : workE L P lo sh O due dl = 0) : checkP L P lo sh = (takesP L P lo sh, 0) := by
  have h2 : (checkP L P lo sh).2 = 0 := by
    unfold workE at he
    by_cases h : (checkP L P lo sh).2 = 0
    · exact h
    · rw [if_pos h] at he; exact absurd he h
  obtain ⟨hs, e1, e2⟩ := check_is h2
  rw [← e1, ← h2]
end Go.Proofs.Ytillieimgjdpbaa.Pr
namespace Go.Proofs.Ytillieimgjdpbaa.Pr
open Go.RowKit Go.Proofs.YtillieimgjdpbaaW.PrintWords Go.Proofs.YtillieimgjdpbaaW.PrintLast Go.Proofs.YtillieimgjdpbaaW.PrintMore
set_option linter.unusedVariables false
set_option linter.unusedSimpArgs false
end Go.Proofs.Ytillieimgjdpbaa.Pr
namespace Go.Proofs.Ytillieimgjdpbaa.Pr
open Go.RowKit Go.Proofs.YtillieimgjdpbaaW.PrintWords Go.Proofs.YtillieimgjdpbaaW.PrintLast Go.Proofs.YtillieimgjdpbaaW.PrintMore
set_option linter.unusedVariables false
set_option linter.unusedSimpArgs false
theorem rise_le {L : Int} {T : List S35} (hr : Rise L 0 T) : ∀ (d i : Nat) (h : i + d < T.length), (rd_T35 T i).f0 ≤ (rd_T35 T ((i + d : Nat) : Int)).f0
  | 0, i, h => Int.le_refl _
  | d + 1, i, h => by
    have h1 := rise_le hr d i (by omega)
    have h2 := hr.get (i + d) (by omega)
    have h3 := h2.2.2.2 (by omega)
    rw [rd35' T (i + d) (by omega)] at h1
    rw [rd35' T (i + (d + 1)) (by omega)]
    have e : T[i + (d + 1)] = T[i + d + 1] := rfl
    rw [e]
    omega
end Go.Proofs.Ytillieimgjdpbaa.Pr
namespace Go.Proofs.Ytillieimgjdpbaa.Pr
open Go.RowKit Go.Proofs.YtillieimgjdpbaaW.PrintWords Go.Proofs.YtillieimgjdpbaaW.PrintLast Go.Proofs.YtillieimgjdpbaaW.PrintMore
set_option linter.unusedVariables false
set_option linter.unusedSimpArgs false
/-- How many takes began before a second. -/
def frontP (sec : Int) : List S35 → Nat
  | [] => 0
  | t :: r => if t.f0 < sec then frontP sec r + 1 else 0
theorem front_le (sec : Int) : ∀ T : List S35, frontP sec T ≤ T.length
  | [] => Nat.le_refl _
  | t :: r => by
    have := front_le sec r
    rw [frontP]; split <;> simp <;> omega
theorem front_lt (sec : Int) : ∀ (T : List S35) (i : Nat) (h : i < frontP sec T) (h2 : i < T.length), T[i].f0 < sec
  | t :: r, i, h, h2 => by
    rw [frontP] at h
    split at h
    · next hs =>
      cases i with
      | zero => exact hs
      | succ i => exact front_lt sec r i (by omega) (by simpa using h2)
    · omega
theorem front_end (sec : Int) : ∀ (T : List S35) (h2 : frontP sec T < T.length), sec ≤ (T[frontP sec T]'h2).f0
  | t :: r, h2 => by
    by_cases hs : t.f0 < sec
    · have e : frontP sec (t :: r) = frontP sec r + 1 := by rw [frontP, if_pos hs]
      have h3 : frontP sec r < r.length := by rw [e] at h2; simpa using h2
      have := front_end sec r h3
      simpa [e] using this
    · have e : frontP sec (t :: r) = 0 := by rw [frontP, if_neg hs]
      simp [e]; omega
theorem front_lt' {sec : Int} {T : List S35} {i : Nat} (h : i < frontP sec T) : (rd_T35 T i).f0 < sec := by
  have h2 : i < T.length := Nat.lt_of_lt_of_le h (front_le sec T)
  rw [rd35' T i h2]; exact front_lt sec T i h h2
theorem front_end' {sec : Int} {T : List S35} (h : frontP sec T < T.length) : sec ≤ (rd_T35 T (frontP sec T : Nat)).f0 := by
  rw [rd35' T _ h]; exact front_end sec T h
theorem front_iff {L sec : Int} {T : List S35} (hr : Rise L 0 T) {i : Nat} (hi : i < T.length) : (rd_T35 T i).f0 < sec ↔ i < frontP sec T := by
  constructor
  · intro h
    by_cases hc : i < frontP sec T
    · exact hc
    · have h1 := front_end' (sec := sec) (T := T) (by omega)
      have h2 := rise_le hr (i - frontP sec T) (frontP sec T) (by omega)
      rw [show frontP sec T + (i - frontP sec T) = i by omega] at h2
      omega
  · exact front_lt'
/-- Whether a take is its reporter's and not done. -/
def lateP (W : Wk) (rota : List Int) (k sec : Int) (i : Nat) : Prop := rota.getD i (-1) = k ∧ sec < worstP W i k
instance (W : Wk) (rota : List Int) (k sec : Int) (i : Nat) : Decidable (lateP W rota k sec i) := by unfold lateP; infer_instance
/-- What stays open. -/
def openP (W : Wk) (rota : List Int) (k sec : Int) : Nat → List Int
  | 0 => []
  | n + 1 => openP W rota k sec n ++ if lateP W rota k sec n then [(n : Int)] else []
theorem open_length (W : Wk) (rota : List Int) (k sec : Int) : ∀ n, (openP W rota k sec n).length ≤ n
  | 0 => Nat.le_refl _
  | n + 1 => by
    have := open_length W rota k sec n
    rw [openP, List.length_append]; split <;> simp <;> omega
theorem open_split (W : Wk) (rota : List Int) (k sec : Int) (m : Nat) : ∀ d, ∃ l, openP W rota k sec (m + d) = openP W rota k sec m ++ l
  | 0 => ⟨[], by simp⟩
  | d + 1 => by
    obtain ⟨l, hl⟩ := open_split W rota k sec m d
    exact ⟨l ++ if lateP W rota k sec (m + d) then [((m + d : Nat) : Int)] else [], by rw [← Nat.add_assoc, openP, hl, List.append_assoc]⟩
/-- One step of the reckoning of what is left. -/
theorem open_step {W : Wk} {rota : List Int} {k sec : Int} {n i : Nat} {left : List Int} (hi : i < n) (h : openP W rota k sec n = openP W rota k sec i ++ left) :
    (lateP W rota k sec i → ∃ r, left = (i : Int) :: r ∧ openP W rota k sec n = openP W rota k sec (i + 1) ++ r) ∧ (¬ lateP W rota k sec i → openP W rota k sec n = openP W rota k sec (i + 1) ++ left) := by
  obtain ⟨l, hl⟩ := open_split W rota k sec (i + 1) (n - (i + 1))
  rw [show i + 1 + (n - (i + 1)) = n by omega] at hl
  constructor
  · intro hlate
    have e : openP W rota k sec (i + 1) = openP W rota k sec i ++ [(i : Int)] := by rw [openP, if_pos hlate]
    refine ⟨l, ?_, hl⟩
    rw [h, e, List.append_assoc] at hl
    exact List.append_cancel_left hl
  · intro hlate
    have e : openP W rota k sec (i + 1) = openP W rota k sec i := by rw [openP, if_neg hlate]; simp
    rw [e]; exact h
/-- The rota after a reporter is relieved. -/
theorem relieved_law {W : Wk} {rota : List Int} {k : Int} {n : Nat} (hr : rightN W (-1) initP rota) (hl : rota.length = W.T.length) (hn : n ≤ W.T.length) :
    ((rotaP W k (rota.take n)).length < W.T.length) ∨
    (rightN W (-1) initP (rotaP W k (rota.take n)) ∧ (rotaP W k (rota.take n)).length = W.T.length ∧ (∀ i, i < n → (rotaP W k (rota.take n)).getD i (-1) = rota.getD i (-1)) ∧ ∀ i, n ≤ i → i < W.T.length → (rotaP W k (rota.take n)).getD i (-1) ≠ k) := by
  have hlen : (rota.take n).length = n := by rw [List.length_take]; omega
  rw [rotaP, hlen]
  cases hf : firstF W k (W.T.length - n) (beginP (rota.take n)) with
  | none =>
    by_cases hnn : n = W.T.length
    · subst hnn; rw [Nat.sub_self] at hf; cases hf
    · left; simp; omega
  | some c =>
    right
    have h1 := first_right W k _ _ c hf
    have h2 := (first_full W k _ _ c hf).2
    have h3 : rightN W (-1) initP (rota.take n) := ((rightN_append W (-1) (rota.take n) initP (rota.drop n)).1 (by rw [List.take_append_drop]; exact hr)).1
    refine ⟨(rightN_append W (-1) _ _ _).2 ⟨h3, rightN_nt h1⟩, by simp [h2]; omega, fun i hi => ?_, fun i h4 h5 => ?_⟩
    · rw [List.getD_eq_getElem?_getD, List.getD_eq_getElem?_getD, List.getElem?_append_left (by omega), List.getElem?_take, if_pos hi]
    · have hic : i - n < c.length := by omega
      rw [List.getD_eq_getElem?_getD, List.getElem?_append_right (by omega), hlen]
      show (((some c).getD [])[i - n]?).getD (-1) ≠ k
      rw [Option.getD_some, List.getElem?_eq_getElem hic]
      exact (rightN_in h1 _ (List.getElem_mem hic)).2.2
end Go.Proofs.Ytillieimgjdpbaa.Pr
namespace Go.Proofs.Ytillieimgjdpbaa.Pr
open Go.RowKit Go.Proofs.YtillieimgjdpbaaW.PrintWords Go.Proofs.YtillieimgjdpbaaW.PrintLast Go.Proofs.YtillieimgjdpbaaW.PrintMore
set_option linter.unusedVariables false
set_option linter.unusedSimpArgs false
theorem C_none {w : World} {n : Nat} {l : List Int} (h : Kd.C (Kd.int .i64) w none n l) : l = [] := by
  cases l with
  | nil => rfl
  | cons x t =>
    obtain ⟨ad, h1, _⟩ := at3 h 0 (by simp)
    cases h1
set_option maxRecDepth 100000 in
set_option maxHeartbeats 4000000 in
theorem relieve27 (a0_0 : Int) (A0_1 : Option Addr) (c0_1 : Nat) (l0_1 : List (S35)) (a0_2 : Int) (a0_3 : Int) (A1_0 : Option Addr) (c1_0 : Nat) (l1_0 : List (S99)) (a1_1 : Int) (a1_2 : Int) (A2 : Option Addr) (c2 : Nat) (rota : List Int) (k sec : Int) (w : World) (hr0_1 : Kd.C k35 w A0_1 l0_1.length l0_1) (hc0_1 : l0_1.length ≤ c0_1) (hr1_0 : Kd.C k99 w A1_0 l1_0.length l1_0) (hc1_0 : l1_0.length ≤ c1_0) (hr2 : Kd.C (Kd.int .i64) w A2 rota.length rota) (hc2 : rota.length ≤ c2)
    (W : Wk) (hW : W = wkOf a0_0 l0_1 a0_2 a0_3 l1_0 a1_1 a1_2) (he : workE a0_0 l0_1 a0_2 a0_3 l1_0 a1_1 a1_2 = 0) (hli : listedP W rota = true) (hri : rightP W rota = true) (hk : 0 ≤ k ∧ k < W.C.length) (hs : 0 ≤ sec ∧ sec ≤ W.L)
    (n : Nat) (hnf : n = frontP sec W.T) (x : List Int) (hx : x = rotaP W k (rota.take n)) :
    Calls Try.prog 27 #[.agg #[.int .i64 a0_0, .slice A0_1 l0_1.length c0_1, .int .i64 a0_2, .int .i64 a0_3], .agg #[.slice A1_0 l1_0.length c1_0, .int .i64 a1_1, .int .i64 a1_2], .slice A2 rota.length c2, .int .i64 k, .int .i64 sec] w fun e w' => Below w.heap.size w w' ∧
      ((x.length < W.T.length ∧ e = .returned (.tuple #[.slice none 0 0, .slice none 0 0, .int .i64 7])) ∨
       (¬ x.length < W.T.length ∧ ∃ (Ad : Option Addr) (kd : Nat) (Bd : Option Addr) (ke : Nat), e = .returned (.tuple #[.slice Ad x.length kd, .slice Bd (openP W rota k sec n).length ke, .int .i64 0]) ∧ Aside0 (Kd.C (Kd.int .i64) w' Ad x.length x) ∧ Aside0 (x.length ≤ kd) ∧ Aside0 (Kd.C (Kd.int .i64) w' Bd (openP W rota k sec n).length (openP W rota k sec n)) ∧ Aside0 ((openP W rota k sec n).length ≤ ke))) := by
  obtain ⟨W1, hW1⟩ : ∃ X, X = (w.alloc (.cells #[.int .i64 a0_0, .slice A0_1 l0_1.length c0_1, .int .i64 a0_2, .int .i64 a0_3] 32)).alloc (.cells #[.slice A1_0 l1_0.length c1_0, .int .i64 a1_1, .int .i64 a1_2] 52) := ⟨_, rfl⟩
  have hB1 : Below w.heap.size w W1 := hW1 ▸ below_alloc (below_alloc (Below.refl _ _) _) _
  have hwk := work43 a0_0 A0_1 c0_1 l0_1 a0_2 a0_3 A1_0 c1_0 l1_0 a1_1 a1_2 W1 (Kd.C_below hr0_1 hB1) hc0_1 (Kd.C_below hr1_0 hB1) hc1_0
  have hn : W.Ok := hW ▸ wk_ok he
  rw [← hW] at hwk
  have HB1 := Aside0.mk hB1
  have HR2 := Aside0.mk hr2
  have HWK : Aside0 (Calls Try.prog 43 #[.agg #[.int .i64 a0_0, .slice A0_1 l0_1.length c0_1, .int .i64 a0_2, .int .i64 a0_3], .agg #[.slice A1_0 l1_0.length c1_0, .int .i64 a1_1, .int .i64 a1_2]] W1 fun e w' => ∃ p, e = .returned (.tuple #[.pointer (some ⟨p, 0, none⟩), .int .i64 0]) ∧ Aside0 (W.Here w' p ∧ Below w.heap.size w w')) := ⟨hwk.mono (fun e w' h => by
    obtain ⟨h1, ⟨h2, _⟩ | ⟨_, p, h3, h4⟩⟩ := h
    · exact absurd he h2
    · exact ⟨p, h3, ⟨h4, below_then HB1.out HB1.out.size h1⟩⟩)⟩
  have HLI : Aside0 (∀ (X : World) (p : Nat), W.Here X p → Below w.heap.size w X → Calls Try.prog 45 #[.pointer (some ⟨p, 0, none⟩), .slice A2 rota.length c2] X fun e w' => e = .returned (.bool true) ∧ Below X.heap.size X w') := ⟨fun X p hX hb => hli ▸ listed45 W hn X p hX A2 c2 rota (Kd.C_below HR2.out hb)⟩
  obtain ⟨hlT, hin⟩ := listed_parts hli
  have HRI : Aside0 (∀ (X : World) (p : Nat), W.Here X p → Below w.heap.size w X → Calls Try.prog 46 #[.pointer (some ⟨p, 0, none⟩), .slice A2 rota.length c2] X fun e w' => e = .returned (.bool true) ∧ Below X.heap.size X w') := ⟨fun X p hX hb => hri ▸ right46 W hn X p hX A2 c2 rota (Kd.C_below HR2.out hb) (by omega) hin⟩
  have hnT : n ≤ W.T.length := hnf ▸ front_le sec W.T
  have hT40 := hn.t
  have hc5 := hn.c1
  have H44 : Aside0 (∀ (X : World) (p : Nat), W.Here X p → Below w.heap.size w X → Calls Try.prog 44 #[.pointer (some ⟨p, 0, none⟩), .slice A2 n c2, .int .i64 k] X fun e w' => ∃ Ad kd, e = .returned (.tuple #[.slice Ad x.length kd, .int .i64 (reachP W k (rota.take n))]) ∧ Aside0 (Kd.C (Kd.int .i64) w' Ad x.length x) ∧ Aside0 (x.length ≤ kd) ∧ Below X.heap.size X w') := ⟨fun X p hX hb => by
    have hln : (rota.take n).length = n := by rw [List.length_take]; omega
    have hct := Kd.C_take (Kd.C_below HR2.out hb) (show n ≤ rota.length by omega)
    have h44 := least44 W hn X p hX k A2 c2 (rota.take n) (by omega) (fun r hr => by have := hin r (List.mem_of_mem_take hr); omega) hct (by omega)
    rw [hln] at h44
    refine h44.mono (fun e w' h => ?_)
    obtain ⟨v, rfl, hR, hb⟩ := h
    rw [← hx] at hR
    obtain ⟨Ad, kd, rfl⟩ := Kd.V_slice hR
    obtain ⟨_, g2, g3⟩ := Kd.V_reads' hR
    exact ⟨Ad, kd, rfl, ⟨g3⟩, ⟨g2⟩, hb⟩⟩
  have H48 : Aside0 (∀ (X : World) (p i : Nat), W.Here X p → i < W.T.length → Calls Try.prog 48 #[.pointer (some ⟨p, 0, none⟩), .int .i64 i, .int .i64 k] X fun e w' => e = .returned (.int .i64 (worstP W i k)) ∧ Below X.heap.size X w') := ⟨fun X p i hX hi => by
    obtain ⟨A1, n1, cc1, lo_, sh_, AC, cC, AT, cT, hA⟩ := hX
    exact worst48 W hn X p hA i k (by omega) (by omega) hk.1 hk.2⟩
  have H37a : Aside0 (∀ X : World, Calls Try.prog 37 #[.int .i64 k, .int .i64 0, .int .i64 ((W.C.length : Int) - 1)] X fun e w' => e = .returned (.bool true) ∧ Drawn0 X w') := ⟨fun X => by have := take_within.calls k 0 ((W.C.length : Int) - 1) _ X (within_some _ _ _); rwa [decide_eq_true (p := 0 ≤ k ∧ k ≤ (W.C.length : Int) - 1) (by omega)] at this⟩
  have H37b : Aside0 (∀ X : World, Calls Try.prog 37 #[.int .i64 sec, .int .i64 0, .int .i64 W.L] X fun e w' => e = .returned (.bool true) ∧ Drawn0 X w') := ⟨fun X => by have := take_within.calls sec 0 W.L _ X (within_some _ _ _); rwa [decide_eq_true (p := 0 ≤ sec ∧ sec ≤ W.L) hs] at this⟩
  have hR40 : rota.length ≤ 40 := by omega
  have hxl : x.length ≤ 1000000 ∨ True := .inr trivial
  obtain ⟨nr, hnr⟩ : ∃ n, n = rota.length := ⟨_, rfl⟩
  have hnc : 1 ≤ W.C.length := by omega
  obtain ⟨nC, hnC⟩ : ∃ v, v = W.C.length := ⟨_, rfl⟩
  obtain ⟨nT, hnT'⟩ : ∃ v, v = W.T.length := ⟨_, rfl⟩
  obtain ⟨LL, hLL⟩ : ∃ v, v = W.L := ⟨_, rfl⟩
  obtain ⟨op, hop⟩ : ∃ v, v = openP W rota k sec n := ⟨_, rfl⟩
  rw [← hnC] at H37a hk hc5 hnc
  rw [← hLL] at H37b hs
  rw [← hnT'] at hnT hT40 hlT
  rw [← hnT', ← hop]
  have HNC := Aside0.mk hnC
  have HNT := Aside0.mk hnT'
  have HLL := Aside0.mk hLL
  have HOP := Aside0.mk hop
  have HN := Aside0.mk hn
  have HLT := Aside0.mk hlT
  have HNR := Aside0.mk hnr
  have HNF := Aside0.mk hnf
  have HX0 := Aside0.mk hx
  subst hW1
  rw [← hnr]
  rw [← hnr] at HLI HRI hR40
  obtain ⟨k0, k1⟩ := hk
  obtain ⟨s0, s1⟩ := hs
  clear hwk hW hr0_1 hr1_0 hB1 hr2 he hli hri hn hin hlT hnr hc0_1 hc1_0 hnf hx hxl hnC hnT' hLL hop
  go_enter Try.func27, Try.ntmps27
  go_upto_region 8 with (first | (go_at_call 43; refine (HWK.out).mono ?_; rintro e w' ⟨p, rfl, hX⟩) | (go_at_call 45; refine (HLI.out _ p hX.out.1 hX.out.2).mono ?_; rintro e w2 ⟨rfl, hb⟩; have HX2 : Aside0 (W.Here w2 p ∧ Below w.heap.size w w2) := ⟨hX.out.1.below hb, hX.out.2.trans (hb.mono hX.out.2.size)⟩; clear hb) | (go_at_call 46; refine (HRI.out _ p HX2.out.1 HX2.out.2).mono ?_; rintro e w3 ⟨rfl, hb⟩; have HX3 : Aside0 (W.Here w3 p ∧ Below w.heap.size w w3) := ⟨HX2.out.1.below hb, HX2.out.2.trans (hb.mono HX2.out.2.size)⟩; clear hb))
  obtain ⟨A1, n1, cc1, lo_, sh_, AC, cC, AT, cT, hA⟩ := HX3.out.1
  have HA := Aside0.mk hA
  have HB2 := Aside0.mk HX3.out.2
  clear hA HLI HRI HWK hX HX2
  have hA' := HA.out
  have u0 : w3.cell? ⟨p, 0, none⟩ = some (.int .i64 LL) := by rw [HLL.out]; exact (blk_cell hA'.blk 0).trans rfl
  have u4 : w3.cell? ⟨p, 4, none⟩ = some (.slice AC nC cC) := by rw [HNC.out]; exact (blk_cell hA'.blk 4).trans rfl
  have u7 : w3.cell? ⟨p, 7, none⟩ = some (.slice AT nT cT) := by rw [HNT.out]; exact (blk_cell hA'.blk 7).trans rfl
  clear hA'
  go_upto_region 10 with (first | (go_at_call 37; (with_reducible refine (H37a.out _).mono ?_); rintro e w4 ⟨rfl, ⟨nd, rfl⟩⟩) | (go_at_call 37; (with_reducible refine (H37b.out _).mono ?_); rintro e w4 ⟨rfl, ⟨nd2, rfl⟩⟩))
  have HBy := Aside0.mk (pw_below_drewN (Below.refl w3.heap.size w3) (nd + nd2))
  have HAy := Aside0.mk (HA.out.below HBy.out)
  have HB3 : Aside0 (Below w.heap.size w (w3.drewN (nd + nd2))) := ⟨HB2.out.trans (HBy.out.mono HB2.out.size)⟩
  go_wp2_with fail
  generalize w3.drewN (nd + nd2) = y at HAy HB3 ⊢
  clear HA HB2 HBy HX3 u0 u4 u7 H37a H37b
  have hR0 : Aside0 (Kd.R (Kd.int .i64) 3 y y.heap.size (fun _ => True) (.slice none 0 0) (openP W rota k sec 0)) := ⟨Kd.R_nil _ _ _ _ _⟩
  go_loopw [11, 14] (fun v11 v14 wr => ∃ i : Nat, i ≤ n ∧ v14 = .int .i64 i ∧ Aside0 (Kd.R (Kd.int .i64) 3 wr y.heap.size (fun _ => True) v11 (openP W rota k sec i)) ∧ Aside0 (Below y.heap.size y wr)) (fun _ v14 _ => n - (intOf v14).toNat)
  case atStart => exact ⟨0, Nat.zero_le _, rfl, hR0, ⟨Below.refl _ _⟩⟩
  case round =>
    obtain ⟨i, hi, rfl, HR, HB⟩ := hrel
    have HAw := Aside0.mk (HAy.out.below HB.out)
    have HBw : Aside0 (Below w.heap.size w wr) := ⟨HB3.out.trans (HB.out.mono HB3.out.size)⟩
    have u7 : wr.cell? ⟨p, 7, none⟩ = some (.slice AT nT cT) := by rw [HNT.out]; exact (blk_cell HAw.out.blk 7).trans rfl
    by_cases hlt : i < n
    · have hiT : i < nT := by omega
      obtain ⟨t0, ht0⟩ : ∃ v, v = (rd_T35 W.T i).f0 := ⟨_, rfl⟩
      obtain ⟨ad, eAT, m0, _⟩ := at_T35 HAw.out.tk (i : Int) (by omega) (by rw [← HNT.out]; omega)
      subst eAT
      rw [Int.toNat_natCast, ← ht0] at m0
      have hts : t0 < sec := by rw [ht0]; exact front_lt' (by rw [← HNF.out]; exact hlt)
      have hir : i < rota.length := by have := HLT.out; omega
      obtain ⟨rdd, eA2, c0⟩ := at3 (Kd.C_below HR2.out HBw.out) i hir
      subst eA2
      obtain ⟨rv, hrv⟩ : ∃ v, v = rota[i] := ⟨_, rfl⟩
      rw [← hrv] at c0
      obtain ⟨wv, hwv⟩ : ∃ v, v = worstP W i k := ⟨_, rfl⟩
      have H48' : Aside0 (∀ X, Below wr.heap.size wr X → Calls Try.prog 48 #[.pointer (some ⟨p, 0, none⟩), .int .i64 i, .int .i64 k] X fun e w' => e = .returned (.int .i64 wv) ∧ Below X.heap.size X w') := ⟨fun X hX => by rw [hwv]; exact H48.out _ p i ⟨_, _, _, _, _, _, _, _, _, HAw.out.below hX⟩ (by rw [← HNT.out]; exact hiT)⟩
      have HLATE : Aside0 (lateP W rota k sec i ↔ rv = k ∧ sec < wv) := ⟨by rw [lateP, List.getD_eq_getElem?_getD, List.getElem?_eq_getElem hir, hwv, hrv]; rfl⟩
      have hir2 : i < nr := by rw [HNR.out]; exact hir
      clear ht0 hrv hwv hir hi
      by_cases hrk : rv = k
      · subst hrk
        by_cases hw : sec < wv
        · have HST : Aside0 (openP W rota rv sec (i + 1) = openP W rota rv sec i ++ [(i : Int)]) := ⟨by rw [openP, if_pos (HLATE.out.2 ⟨rfl, hw⟩)]⟩
          have hol := open_length W rota rv sec i
          go_wp2_with (first | (go_at_call 48; (with_reducible refine (H48'.out _ (by repeat (first | exact Below.refl _ _ | apply below_drew | apply pw_below_drewN))).mono ?_); rintro e x1 ⟨rfl, hb⟩; have HBx := Aside0.mk hb; clear hb) | (at_builtin; refine Kd.R_append (Kd.int .i64) (w0 := y) y.heap.size rfl (.tmp 91) (.tmp 93) 46 3 (.int .i64 0) 8 rfl Try.underlying46 info3 rfl (by decide) (by decide) u11 (openP W rota rv sec i) (i : Int) [.int .i64 i] (fun _ => True) (fun _ => False) rfl rfl rfl (fun _ hk => hk.elim) (fun _ _ => trivial) (Kd.R_below HR.out HBx.out) (HB.out.trans (HBx.out.mono HB.out.size)) (Nat.le_trans HB.out.size HBx.out.size) (by omega) ?_; intro v1 x2 hR1 hB1 _ _; have HRv := Aside0.mk hR1; have HBv := Aside0.mk hB1; clear hR1 hB1))
          go_roundw
          case rel => exact ⟨i + 1, by omega, by go_num, ⟨by rw [HST.out]; exact HRv.out⟩, HBv⟩
          case measure => simp [intOf]; omega
        · have HST : Aside0 (openP W rota rv sec (i + 1) = openP W rota rv sec i) := ⟨by rw [openP, if_neg (fun h => hw (HLATE.out.1 h).2)]; simp⟩
          go_wp2_with (first | (go_at_call 48; (with_reducible refine (H48'.out _ (by repeat (first | exact Below.refl _ _ | apply below_drew | apply pw_below_drewN))).mono ?_); rintro e x1 ⟨rfl, hb⟩; have HBx := Aside0.mk hb; clear hb))
          go_roundw
          case rel => exact ⟨i + 1, by omega, by go_num, ⟨by rw [HST.out]; exact Kd.R_below HR.out HBx.out⟩, ⟨HB.out.trans (HBx.out.mono HB.out.size)⟩⟩
          case measure => simp [intOf]; omega
      · have HST : Aside0 (openP W rota k sec (i + 1) = openP W rota k sec i) := ⟨by rw [openP, if_neg (fun h => hrk (HLATE.out.1 h).1)]; simp⟩
        go_wp2
        go_roundw
        case rel => exact ⟨i + 1, by omega, by go_num, ⟨by rw [HST.out]; exact HR.out⟩, HB⟩
        case measure => simp [intOf]; omega
    · have hin : i = n := by omega
      subst hin
      clear hlt hi
      have HT0 : Aside0 (∀ hi : i < nT, sec ≤ (rd_T35 W.T i).f0) := ⟨fun hi => by have := front_end' (sec := sec) (T := W.T) (by rw [← HNF.out, ← HNT.out]; exact hi); rwa [← HNF.out] at this⟩
      have H44' : Aside0 (∀ X, Below wr.heap.size wr X → Calls Try.prog 44 #[.pointer (some ⟨p, 0, none⟩), .slice A2 i c2, .int .i64 k] X fun e w' => ∃ Ad kd, e = .returned (.tuple #[.slice Ad x.length kd, .int .i64 (reachP W k (rota.take i))]) ∧ Aside0 (Kd.C (Kd.int .i64) w' Ad x.length x) ∧ Aside0 (x.length ≤ kd) ∧ Below X.heap.size X w') := ⟨fun X hX => H44.out X p ⟨_, _, _, _, _, _, _, _, _, HAw.out.below hX⟩ (HBw.out.trans (hX.mono HBw.out.size))⟩
      obtain ⟨rch, hrch⟩ : ∃ v, v = reachP W k (rota.take i) := ⟨_, rfl⟩
      rw [← hrch] at H44'
      clear hrch H44
      have hHR := HR.out
      rw [← HOP.out] at hHR
      obtain ⟨Bd, ke, eB⟩ := Kd.R_slice hHR
      subst eB
      have HRO := Aside0.mk hHR
      clear hHR HR
      have hcn : A2 = none → nr = 0 := fun h => by
        have := HR2.out
        rw [h] at this
        have h3 := C_none this
        rw [HNR.out, h3]; rfl
      have hinr : i ≤ nr := by have := HLT.out; have := HNR.out; omega
      have hnr2 : nr ≤ c2 := by rw [HNR.out]; exact hc2
      have X44 := 0
      by_cases hxx : x.length < nT
      · by_cases hnn : i < nT
        · obtain ⟨t0, ht0⟩ : ∃ v, v = (rd_T35 W.T i).f0 := ⟨_, rfl⟩
          obtain ⟨ad, eAT, m0, _⟩ := at_T35 HAw.out.tk (i : Int) (by omega) (by rw [← HNT.out]; omega)
          subst eAT
          rw [Int.toNat_natCast, ← ht0] at m0
          have hts : ¬ t0 < sec := by rw [ht0]; have := HT0.out hnn; omega
          clear ht0
          go_wp2_with (first | (go_at_call 44; (with_reducible refine (H44'.out _ (Below.refl _ _)).mono ?_); rintro e x4 ⟨Ad, kd, rfl, HC4, HK4, hb⟩; have HB4 := Aside0.mk hb; have u8 := pw_cell_below hb u7; clear hb))
          go_ret3
          exact ⟨HBw.out.trans (HB4.out.mono HBw.out.size), .inl ⟨hxx, rfl⟩⟩
        · go_wp2_with (first | (go_at_call 44; (with_reducible refine (H44'.out _ (Below.refl _ _)).mono ?_); rintro e x4 ⟨Ad, kd, rfl, HC4, HK4, hb⟩; have HB4 := Aside0.mk hb; have u8 := pw_cell_below hb u7; clear hb))
          go_ret3
          exact ⟨HBw.out.trans (HB4.out.mono HBw.out.size), .inl ⟨hxx, rfl⟩⟩
      · by_cases hnn : i < nT
        · obtain ⟨t0, ht0⟩ : ∃ v, v = (rd_T35 W.T i).f0 := ⟨_, rfl⟩
          obtain ⟨ad, eAT, m0, _⟩ := at_T35 HAw.out.tk (i : Int) (by omega) (by rw [← HNT.out]; omega)
          subst eAT
          rw [Int.toNat_natCast, ← ht0] at m0
          have hts : ¬ t0 < sec := by rw [ht0]; have := HT0.out hnn; omega
          clear ht0
          go_wp2_with (first | (go_at_call 44; (with_reducible refine (H44'.out _ (Below.refl _ _)).mono ?_); rintro e x4 ⟨Ad, kd, rfl, HC4, HK4, hb⟩; have HB4 := Aside0.mk hb; have u8 := pw_cell_below hb u7; clear hb))
          go_ret3
          exact ⟨HBw.out.trans (HB4.out.mono HBw.out.size), .inr ⟨hxx, Ad, kd, Bd, ke, rfl, HC4, HK4, ⟨Kd.C_below (Kd.R_reads' HRO.out).2.2 HB4.out⟩, ⟨(Kd.R_reads' HRO.out).2.1⟩⟩⟩
        · go_wp2_with (first | (go_at_call 44; (with_reducible refine (H44'.out _ (Below.refl _ _)).mono ?_); rintro e x4 ⟨Ad, kd, rfl, HC4, HK4, hb⟩; have HB4 := Aside0.mk hb; have u8 := pw_cell_below hb u7; clear hb))
          go_ret3
          exact ⟨HBw.out.trans (HB4.out.mono HBw.out.size), .inr ⟨hxx, Ad, kd, Bd, ke, rfl, HC4, HK4, ⟨Kd.C_below (Kd.R_reads' HRO.out).2.2 HB4.out⟩, ⟨(Kd.R_reads' HRO.out).2.1⟩⟩⟩
end Go.Proofs.Ytillieimgjdpbaa.Pr
