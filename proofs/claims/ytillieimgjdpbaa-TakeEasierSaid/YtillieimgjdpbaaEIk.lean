/- Plain laws for TakeEasier: what makes it easier; rows of reporters as cells. -/
import Derived.Test.YtillieimgjdpbaaEPr6
import Derived.KernelRfl
import Derived.Test.YtillieimgjdpbaaEHs
import Derived.Test.YtillieimgjdpbaaEIb
import Derived.Deep.RegionHeld3
namespace Go.Proofs.Ytillieimgjdpbaa.Pr
theorem awake_true : palantypelaw01_awake.f 30 = some true := by kernel_rfl
end Go.Proofs.Ytillieimgjdpbaa.Pr
namespace Go.Proofs.Ytillieimgjdpbaa.Pr
open Go.RowKit Go.Proofs.YtillieimgjdpbaaW.PrintWords Go.Proofs.YtillieimgjdpbaaW.PrintLast Go.Proofs.YtillieimgjdpbaaW.PrintMore
set_option linter.unusedVariables false
set_option linter.unusedSimpArgs false
def to99 (r : S62) : S99 := ⟨⟨r.f0.f0, r.f0.f1⟩, r.f1⟩
theorem rd62 (l : List S62) (i : Nat) (h : i < l.length) : rd_T62 l (i : Int) = l[i] := by
  unfold rd_T62
  rw [Int.toNat_natCast, List.getD_eq_getElem?_getD, List.getElem?_eq_getElem h]; rfl
def offTail (n : Nat) (due dl : Int) : Bool := decide (1 ≤ (n : Int) ∧ (n : Int) ≤ 5) && decide (0 ≤ due ∧ due ≤ 36000) && decide (0 ≤ dl ∧ dl ≤ 36000)
theorem right_l0 (cr : List S62) (due dl : Int) (hlen : cr.length ≤ 1000000) (n : Nat) : ∀ (i k : Nat), i + n = cr.length →
    palantyperef01_RightOffice.l0 (2 * n + 1 + k) (i : Int) cr due dl = some (((cr.drop i).map to99).all repOk && offTail cr.length due dl) := by
  induction n with
  | zero =>
    intro i k hi
    obtain rfl : i = cr.length := by omega
    rw [show 2 * 0 + 1 + k = k + 1 from by omega, palantyperef01_RightOffice.l0, if_neg (by omega), List.drop_length, in_some, in_some, in_some, Option.bind_some, Option.bind_some, Option.bind_some]
    unfold offTail
    cases decide (1 ≤ (cr.length : Int) ∧ (cr.length : Int) ≤ 5) <;> cases decide (0 ≤ due ∧ due ≤ 36000) <;> rfl
  | succ n ih =>
    intro i k hi
    have hlt : i < cr.length := by omega
    have hrec := ih (i + 1) k (by omega)
    have hw : wrap64 ((i : Int) + 1) = ((i + 1 : Nat) : Int) := by rw [winS _ (by omega)]; omega
    have hj : ∀ b, palantyperef01_RightOffice.j1 (2 * n + 1 + k + 1) (i : Int) b cr due dl = some (!b && (((cr.drop (i + 1)).map to99).all repOk && offTail cr.length due dl)) := fun b => by
      rw [palantyperef01_RightOffice.j1]
      cases b with
      | true => rfl
      | false => rw [if_neg (by decide), hw, hrec]; rfl
    have hd : ((cr.drop i).map to99).all repOk = (repOk (to99 cr[i]) && ((cr.drop (i + 1)).map to99).all repOk) := by rw [drop_cons' cr i hlt]; rfl
    rw [show 2 * (n + 1) + 1 + k = (2 * n + 1 + k + 1) + 1 from by omega, palantyperef01_RightOffice.l0, if_pos (by omega), if_pos (by omega), rd62 cr i hlt, hd]
    generalize cr[i] = r
    have er : repOk (to99 r) = (decide (0 ≤ r.f0.f0) && decide (r.f0.f0 ≤ r.f0.f1) && decide (r.f0.f1 ≤ 20) && decide (0 ≤ r.f1 ∧ r.f1 ≤ 36000)) := rfl
    rw [er, in_some, Option.bind_some, hj, hj]
    by_cases c1 : r.f0.f0 < 0
    · rw [if_pos c1, decide_eq_false (by omega)]; rfl
    · rw [if_neg c1, decide_eq_true (p := 0 ≤ r.f0.f0) (by omega)]
      by_cases c2 : r.f0.f0 > r.f0.f1
      · rw [if_pos c2, decide_eq_false (p := r.f0.f0 ≤ r.f0.f1) (by omega)]; rfl
      · rw [if_neg c2, decide_eq_true (p := r.f0.f0 ≤ r.f0.f1) (by omega)]
        by_cases c3 : r.f0.f1 > 20
        · rw [if_pos c3, decide_eq_false (p := r.f0.f1 ≤ 20) (by omega)]; rfl
        · rw [if_neg c3, decide_eq_true (p := r.f0.f1 ≤ 20) (by omega)]
          cases decide (0 ≤ r.f1 ∧ r.f1 ≤ 36000) <;> simp
theorem right_some (cr : List S62) (due dl : Int) (hlen : cr.length ≤ 1000000) (k : Nat) (hk : 2 * cr.length + 1 ≤ k) : palantyperef01_RightOffice.f k cr due dl = some (officeOk (cr.map to99) due dl) := by
  obtain ⟨j, rfl⟩ : ∃ j, k = 2 * cr.length + 1 + j := ⟨k - (2 * cr.length + 1), by omega⟩
  have := right_l0 cr due dl hlen cr.length 0 j (by omega)
  rw [palantyperef01_RightOffice.f]
  refine this.trans ?_
  rw [List.drop_zero, officeOk, offTail, List.length_map]
  cases (cr.map to99).all repOk <;> cases decide (1 ≤ (cr.length : Int) ∧ (cr.length : Int) ≤ 5) <;> rfl
def readyP (L : Int) (l : List S41) (lo sh : Int) (cr : List S62) (due dl : Int) : Bool :=
  decide ((l.length : Int) ≤ 60) && decide ((cr.length : Int) ≤ 8) && (workE L (l.map to35) lo sh (cr.map to99) due dl == 0)
theorem thin_some (L : Int) (l : List S41) (lo sh : Int) (cr : List S62) (due dl : Int) : palantypelaw01_Thin.f L l lo sh cr due dl = some (decide ((l.length : Int) ≤ 60) && decide ((cr.length : Int) ≤ 8)) := by
  unfold palantypelaw01_Thin.f
  by_cases h : (l.length : Int) ≤ 60
  · rw [if_pos h, decide_eq_true h]; rfl
  · rw [if_neg h, decide_eq_false h]; rfl
theorem ready_some (L : Int) (l : List S41) (lo sh : Int) (cr : List S62) (due dl : Int) : ∃ k, palantypelaw01_ready.f k L l lo sh cr due dl = some (readyP L l lo sh cr due dl) := by
  cases ht : (decide ((l.length : Int) ≤ 60) && decide ((cr.length : Int) ≤ 8)) with
  | false =>
    refine ⟨0, ?_⟩
    rw [palantypelaw01_ready.f, thin_some, ht, Option.bind_some, if_neg (by decide), readyP, ht]; rfl
  | true =>
    have hl : l.length ≤ 60 ∧ cr.length ≤ 8 := by simp only [Bool.and_eq_true, decide_eq_true_eq] at ht; omega
    obtain ⟨k0, hk⟩ := fault_some L l lo sh (by omega)
    have hf : palantyperef01_SittingFault.f (k0 + 17) L l lo sh = _ := hk (k0 + 17) (by omega)
    refine ⟨k0 + 17, ?_⟩
    rw [palantypelaw01_ready.f, thin_some, ht, Option.bind_some, if_pos rfl, palantypelaw01_fault.f, hf, Option.bind_some, right_some cr due dl (by omega) _ (by omega), Option.bind_some, readyP, ht, workE]
    by_cases hc : (checkP L (l.map to35) lo sh).2 = 0
    · rw [if_pos hc]
      simp only [hc, ne_eq, not_true_eq_false, if_false]
      cases officeOk (cr.map to99) due dl <;> rfl
    · rw [if_neg hc, if_pos hc]; rfl
theorem office_l0 (cr : List S62) (due dl : Int) (hlen : cr.length ≤ 1000000) (n : Nat) : ∀ (i : Nat) (acc : List S99) (k : Nat), i + n = cr.length → acc.length ≤ i →
    palantypelaw01_Office.l0 (n + 1 + k) (i : Int) cr due dl acc due dl = some (acc ++ (cr.drop i).map to99, due, dl) := by
  induction n with
  | zero =>
    intro i acc k hi ha
    obtain rfl : i = cr.length := by omega
    rw [show 0 + 1 + k = k + 1 from by omega, palantypelaw01_Office.l0, if_neg (by omega), List.drop_length]; simp
  | succ n ih =>
    intro i acc k hi ha
    have hlt : i < cr.length := by omega
    have hw : wrap64 ((i : Int) + 1) = ((i + 1 : Nat) : Int) := by rw [winS _ (by omega)]; omega
    rw [show n + 1 + 1 + k = (n + 1 + k) + 1 from by omega, palantypelaw01_Office.l0, if_pos (by omega), if_pos (by omega), if_pos (by omega), rd62 cr i hlt, hw, ih (i + 1) _ k (by omega) (by simp; omega), drop_cons' cr i hlt, List.append_assoc]
    rfl
theorem office_some (cr : List S62) (due dl : Int) (hlen : cr.length ≤ 1000000) (k : Nat) (hk : cr.length + 1 ≤ k) : palantypelaw01_Office.f k cr due dl = some (cr.map to99, due, dl) := by
  obtain ⟨j, rfl⟩ : ∃ j, k = cr.length + 1 + j := ⟨k - (cr.length + 1), by omega⟩
  have := office_l0 cr due dl hlen cr.length 0 [] j (by omega) (by simp)
  rw [palantypelaw01_Office.f]
  exact this.trans (by simp)
theorem c11 (X : World) : Calls Try.prog 11 #[] X fun e w' => e = .returned (.bool true) ∧ Below X.heap.size X w' := palantypelaw01_awake.calls _ true X awake_true
theorem c16 {X : World} {A : Option Addr} {c : Nat} {l : List S41} (h1 : Kd.C k41 X A l.length l) (h1c : l.length ≤ c) {B : Option Addr} {d : Nat} {cr : List S62} (h2 : Kd.C k62 X B cr.length cr) (h2c : cr.length ≤ d) (L lo sh due dl : Int) :
    Calls Try.prog 16 #[.agg #[.int .i64 L, .slice A l.length c, .int .i64 lo, .int .i64 sh], .agg #[.slice B cr.length d, .int .i64 due, .int .i64 dl]] X fun e w' => e = .returned (.bool (readyP L l lo sh cr due dl)) ∧ Below X.heap.size X w' := by
  obtain ⟨k, hk⟩ := ready_some L l lo sh cr due dl
  exact palantypelaw01_ready.calls k L A c l lo sh B d cr due dl _ X h1 h1c h2 h2c hk
theorem c13 {X : World} {A : Option Addr} {c : Nat} {l : List S41} (h1 : Kd.C k41 X A l.length l) (h1c : l.length ≤ c) (hl : l.length ≤ 1000000) (L lo sh : Int) {P : List S35} (hP : P = l.map to35) :
    Calls Try.prog 13 #[.agg #[.int .i64 L, .slice A l.length c, .int .i64 lo, .int .i64 sh]] X fun e w' => ∃ A1 c1, e = .returned (.agg #[.int .i64 L, .slice A1 P.length c1, .int .i64 lo, .int .i64 sh]) ∧ Aside0 (Kd.C k35 w' A1 P.length P) ∧ Aside0 (P.length ≤ c1) ∧ Below X.heap.size X w' :=
  (palantypelaw01_Sitting.calls (l.length + 1) L A c l lo sh L P lo sh X h1 h1c (by rw [hP]; exact sit_some L l lo sh hl _ (Nat.le_refl _))).mono (fun e w' h => by
    obtain ⟨v, rfl, hR, hb⟩ := h
    obtain ⟨A1, c1, rfl⟩ := Kd.R_slice hR
    obtain ⟨_, g2, g3⟩ := Kd.R_reads' hR
    exact ⟨A1, c1, rfl, ⟨g3⟩, ⟨g2⟩, hb⟩)
theorem c18 {X : World} {B : Option Addr} {d : Nat} {cr : List S62} (h1 : Kd.C k62 X B cr.length cr) (h1c : cr.length ≤ d) (hl : cr.length ≤ 1000000) (due dl : Int) {O : List S99} (hO : O = cr.map to99) :
    Calls Try.prog 18 #[.agg #[.slice B cr.length d, .int .i64 due, .int .i64 dl]] X fun e w' => ∃ A1 c1, e = .returned (.agg #[.slice A1 O.length c1, .int .i64 due, .int .i64 dl]) ∧ Aside0 (Kd.C k99 w' A1 O.length O) ∧ Aside0 (O.length ≤ c1) ∧ Below X.heap.size X w' :=
  (palantypelaw01_Office.calls (cr.length + 1) B d cr due dl O due dl X h1 h1c (by rw [hO]; exact office_some cr due dl hl _ (Nat.le_refl _))).mono (fun e w' h => by
    obtain ⟨v, rfl, hR, hb⟩ := h
    obtain ⟨A1, c1, rfl⟩ := Kd.R_slice hR
    obtain ⟨_, g2, g3⟩ := Kd.R_reads' hR
    exact ⟨A1, c1, rfl, ⟨g3⟩, ⟨g2⟩, hb⟩)
theorem c22 {X : World} {A : Option Addr} {c : Nat} {l : List S41} (h1 : Kd.C k41 X A l.length l) (h1c : l.length ≤ c) (hl : l.length ≤ 1000000) (L lo sh b : Int) {l' : List S41} (hP : l' = cut41 b l) :
    Calls Try.prog 22 #[.agg #[.int .i64 L, .slice A l.length c, .int .i64 lo, .int .i64 sh], .int .i64 b] X fun e w' => ∃ A1 c1, e = .returned (.agg #[.int .i64 b, .slice A1 l'.length c1, .int .i64 lo, .int .i64 sh]) ∧ Aside0 (∀ W', (∀ i, X.heap.size ≤ i → W'.heap[i]? = w'.heap[i]?) → Kd.C k41 W' A1 l'.length l') ∧ Aside0 (l'.length ≤ c1) ∧ Below X.heap.size X w' :=
  (palantypelaw01_cut.calls (l.length + 1) L A c l lo sh b b l' lo sh X h1 h1c (by rw [hP]; exact cut_some b L l lo sh hl _ (Nat.le_refl _))).mono (fun e w' h => by
    obtain ⟨v, rfl, hR, hb⟩ := h
    obtain ⟨A1, c1, rfl⟩ := Kd.R_slice hR
    obtain ⟨_, g2, _⟩ := Kd.R_reads' hR
    exact ⟨A1, c1, rfl, ⟨fun W' hW => (Kd.R_reads' (Kd.R_move (Kd.R_bound hR) (fun k hk => hW k hk.2.1))).2.2⟩, ⟨g2⟩, hb⟩)
theorem c21 {X : World} {A : Option Addr} {c : Nat} {l : List Int} (h1 : Kd.C (Kd.int .i64) X A l.length l) (h1c : l.length ≤ c) (hl : l.length ≤ 1000000) :
    Calls Try.prog 21 #[.slice A l.length c] X fun e w' => ∃ A1 c1, e = .returned (.slice A1 l.length c1) ∧ Aside0 (Kd.C (Kd.int .i64) w' A1 l.length l) ∧ Aside0 (l.length ≤ c1) ∧ Below X.heap.size X w' :=
  (palantypelaw01_list.calls A c l l X h1 h1c (by rw [palantypelaw01_list.f, if_pos (by omega)])).mono (fun e w' h => by
    obtain ⟨v, rfl, hR, hb⟩ := h
    obtain ⟨A1, c1, rfl⟩ := Kd.R_slice hR
    obtain ⟨_, g2, g3⟩ := Kd.R_reads' hR
    exact ⟨A1, c1, rfl, ⟨g3⟩, ⟨g2⟩, hb⟩)
theorem c12 {X : World} {A : Option Addr} {c : Nat} {P : List S35} (h1 : Kd.C k35 X A P.length P) (h1c : P.length ≤ c) (L lo sh : Int) {T : List S35} {e0 : Int} (hT : checkP L P lo sh = (T, e0)) :
    Calls Try.prog 12 #[.agg #[.int .i64 L, .slice A P.length c, .int .i64 lo, .int .i64 sh]] X fun e w' => ∃ A1 c1, e = .returned (.tuple #[.slice A1 T.length c1, .int .i64 e0]) ∧ Aside0 (Kd.C k35 w' A1 T.length T) ∧ Aside0 (T.length ≤ c1) ∧ Below X.heap.size X w' :=
  (take_Takes.calls L A c P lo sh T e0 X h1 h1c (by simp only [take_Takes.f, take_Sitting_check.f, hT, Option.bind_some])).mono (fun e w' h => by
    obtain ⟨v, rfl, hR, hb⟩ := h
    obtain ⟨A1, c1, rfl⟩ := Kd.R_slice hR
    obtain ⟨_, g2, g3⟩ := Kd.R_reads' hR
    exact ⟨A1, c1, rfl, ⟨g3⟩, ⟨g2⟩, hb⟩)
theorem c17 {X : World} {A : Option Addr} {c : Nat} {P : List S35} (h1 : Kd.C k35 X A P.length P) (h1c : P.length ≤ c) {B : Option Addr} {d : Nat} {O : List S99} (h2 : Kd.C k99 X B O.length O) (h2c : O.length ≤ d) (L lo sh due dl : Int) {r : List Int} {e0 : Int} (hr : rotaR (wkOf L P lo sh O due dl) (workE L P lo sh O due dl) = (r, e0)) :
    Calls Try.prog 17 #[.agg #[.int .i64 L, .slice A P.length c, .int .i64 lo, .int .i64 sh], .agg #[.slice B O.length d, .int .i64 due, .int .i64 dl]] X fun e w' => ∃ A1 c1, e = .returned (.tuple #[.slice A1 r.length c1, .int .i64 e0]) ∧ Aside0 (Kd.C (Kd.int .i64) w' A1 r.length r) ∧ Aside0 (r.length ≤ c1) ∧ Below X.heap.size X w' :=
  (take_Rota.calls L A c P lo sh B d O due dl r e0 X h1 h1c h2 h2c (by rw [take_Rota.f, hr])).mono (fun e w' h => by
    obtain ⟨v, rfl, hR, hb⟩ := h
    obtain ⟨A1, c1, rfl⟩ := Kd.V_slice hR
    obtain ⟨_, g2, g3⟩ := Kd.V_reads' hR
    exact ⟨A1, c1, rfl, ⟨g3⟩, ⟨g2⟩, hb⟩)
theorem c19 {X : World} {A : Option Addr} {c : Nat} {P : List S35} (h1 : Kd.C k35 X A P.length P) (h1c : P.length ≤ c) {B : Option Addr} {d : Nat} {O : List S99} (h2 : Kd.C k99 X B O.length O) (h2c : O.length ≤ d) (L lo sh due dl : Int) {n : Int} {e0 : Int} (hr : failsR (wkOf L P lo sh O due dl) (workE L P lo sh O due dl) = (n, e0)) :
    Calls Try.prog 19 #[.agg #[.int .i64 L, .slice A P.length c, .int .i64 lo, .int .i64 sh], .agg #[.slice B O.length d, .int .i64 due, .int .i64 dl]] X fun e w' => e = .returned (.tuple #[.int .i64 n, .int .i64 e0]) ∧ Below X.heap.size X w' :=
  take_Fails.calls L A c P lo sh B d O due dl n e0 X h1 h1c h2 h2c (by rw [take_Fails.f, hr])
theorem c20 {X : World} {A : Option Addr} {c : Nat} {P : List S35} (h1 : Kd.C k35 X A P.length P) (h1c : P.length ≤ c) {B : Option Addr} {d : Nat} {O : List S99} (h2 : Kd.C k99 X B O.length O) (h2c : O.length ≤ d) {D : Option Addr} {m : Nat} {l : List Int} (h3 : Kd.C (Kd.int .i64) X D l.length l) (h3c : l.length ≤ m) (L lo sh due dl : Int) {b : Bool} (hr : proveR (wkOf L P lo sh O due dl) (workE L P lo sh O due dl) l = b) :
    Calls Try.prog 20 #[.agg #[.int .i64 L, .slice A P.length c, .int .i64 lo, .int .i64 sh], .agg #[.slice B O.length d, .int .i64 due, .int .i64 dl], .slice D l.length m] X fun e w' => e = .returned (.bool b) ∧ Below X.heap.size X w' :=
  take_ProveRota.calls L A c P lo sh B d O due dl D m l b X h1 h1c h2 h2c h3 h3c (by rw [take_ProveRota.f, hr])
end Go.Proofs.Ytillieimgjdpbaa.Pr
namespace Go.Proofs.Ytillieimgjdpbaa.Pr
open Go.RowKit Go.Proofs.YtillieimgjdpbaaW.PrintWords Go.Proofs.YtillieimgjdpbaaW.PrintLast Go.Proofs.YtillieimgjdpbaaW.PrintMore
set_option linter.unusedVariables false
set_option linter.unusedSimpArgs false
/-- What is not lost where old blocks stay as they are. -/
class Keeps (K : World → Prop) : Prop where
  keep : ∀ {X X' : World}, K X → Below X.heap.size X X' → K X'
instance keeps_true : Keeps (fun _ => True) := ⟨fun _ _ => trivial⟩
instance keeps_C {α : Type} (k : Kd α) (A : Option Addr) (n : Nat) (l : List α) : Keeps (fun X => Kd.C k X A n l) := ⟨fun h hb => Kd.C_below h hb⟩
instance keeps_blk (g : Nat) (o : Array Value) (t : TypeId) : Keeps (fun X => X.heap[g]? = some (.cells o t (0, 0))) := ⟨fun h hb => blk_below h hb⟩
instance keeps_and (K K' : World → Prop) [h : Keeps K] [h' : Keeps K'] : Keeps (fun X => K X ∧ K' X) := ⟨fun k hb => ⟨h.keep k.1 hb, h'.keep k.2 hb⟩⟩
/-- The arguments' boxes stand as they were laid; K holds. -/
structure Fa (w : World) (sc oc : Array Value) (K : World → Prop) (X : World) : Prop where
  b : Below w.heap.size w X
  s : X.heap[w.heap.size]? = some (.cells sc 24 (0, 0))
  o : X.heap[w.heap.size + 1]? = some (.cells oc 45 (0, 0))
  k : K X
theorem Fa.below {w X X' : World} {sc oc : Array Value} {K : World → Prop} [hK : Keeps K] (h : Fa w sc oc K X) (hb : Below X.heap.size X X') : Fa w sc oc K X' := ⟨h.b.trans (hb.mono h.b.size), blk_below h.s hb, blk_below h.o hb, hK.keep h.k hb⟩
theorem Fa.start (w : World) (sc oc : Array Value) : Fa w sc oc (fun _ => True) ((w.alloc (.cells sc 24)).alloc (.cells oc 45)) := ⟨below_alloc (below_alloc (Below.refl _ _) _) _, heap_alloc2_old _ _ _, heap_alloc2_new _ _ _, trivial⟩
theorem Fa.add {w X : World} {sc oc : Array Value} {K : World → Prop} (K' : World → Prop) (h : Fa w sc oc K X) (hk : K' X) : Fa w sc oc K' X := ⟨h.b, h.s, h.o, hk⟩
theorem Fa.drew {w X : World} {sc oc : Array Value} {K : World → Prop} [Keeps K] (h : Fa w sc oc K X) : Fa w sc oc K X.drew := h.below (below_drew (Below.refl _ _))
theorem Fa.alloc {w X : World} {sc oc : Array Value} {K : World → Prop} [Keeps K] (h : Fa w sc oc K X) (o : Obj) : Fa w sc oc K (X.alloc o) := h.below (below_alloc (Below.refl _ _) o)
theorem Fa.cells {w : World} {L lo sh due dl : Int} {A B : Option Addr} {n c k d : Nat} {K : World → Prop} {Y : World} (h : Fa w #[.int .i64 L, .slice A n c, .int .i64 lo, .int .i64 sh] #[.slice B k d, .int .i64 due, .int .i64 dl] K Y) :
    Y.cell? ⟨w.heap.size, 0, none⟩ = some (.int .i64 L) ∧ Y.cell? ⟨w.heap.size, 1, none⟩ = some (.slice A n c) ∧ Y.cell? ⟨w.heap.size, 2, none⟩ = some (.int .i64 lo) ∧ Y.cell? ⟨w.heap.size, 3, none⟩ = some (.int .i64 sh) ∧
    Y.cell? ⟨w.heap.size + 1, 0, none⟩ = some (.slice B k d) ∧ Y.cell? ⟨w.heap.size + 1, 1, none⟩ = some (.int .i64 due) ∧ Y.cell? ⟨w.heap.size + 1, 2, none⟩ = some (.int .i64 dl) :=
  ⟨(blk_cell h.s 0).trans rfl, (blk_cell h.s 1).trans rfl, (blk_cell h.s 2).trans rfl, (blk_cell h.s 3).trans rfl, (blk_cell h.o 0).trans rfl, (blk_cell h.o 1).trans rfl, (blk_cell h.o 2).trans rfl⟩
theorem setCell_cells {X : World} {g t i : Nat} {cs : Array Value} (h : X.heap[g]? = some (.cells cs t (0, 0))) (v : Value) : (X.setCell ⟨g, i, none⟩ v).heap[g]? = some (.cells (cs.setIfInBounds i v) t (0, 0)) := by
  simp [World.setCell, Array.getElem?_modify, h]
theorem ready_parts {L lo sh due dl : Int} {l : List S41} {cr : List S62} (h : readyP L l lo sh cr due dl = true) : l.length ≤ 60 ∧ cr.length ≤ 8 ∧ workE L (l.map to35) lo sh (cr.map to99) due dl = 0 := by
  simp only [readyP, Bool.and_eq_true, decide_eq_true_eq, beq_iff_eq] at h
  omega
theorem check_of_work {L : Int} {P : List S35} {lo sh : Int} {O : List S99} {due dl : Int} (he : workE L P lo sh O due dl = 0) : checkP L P lo sh = (takesP L P lo sh, 0) := by
  have h2 : (checkP L P lo sh).2 = 0 := by
    unfold workE at he
    by_cases h : (checkP L P lo sh).2 = 0
    · exact h
    · rw [if_pos h] at he; exact absurd he h
  obtain ⟨hs, e1, e2⟩ := check_is h2
  rw [← e1, ← h2]
end Go.Proofs.Ytillieimgjdpbaa.Pr
namespace Go.Proofs.Ytillieimgjdpbaa.Pr
open Go.RowKit Go.Proofs.YtillieimgjdpbaaW.PrintWords Go.Proofs.YtillieimgjdpbaaW.PrintLast Go.Proofs.YtillieimgjdpbaaW.PrintMore
set_option linter.unusedVariables false
set_option linter.unusedSimpArgs false
/-- An office that is no harder. -/
structure Easier (W V : Wk) : Prop where
  t : V.T = W.T
  due : W.due ≤ V.due
  dl : V.dl ≤ W.dl
  c : W.C.length ≤ V.C.length
  r : ∀ r : Int, 0 ≤ r → r < W.C.length → (rd_T99 V.C r).f0.f1 ≤ (rd_T99 W.C r).f0.f1 ∧ (rd_T99 V.C r).f1 ≤ (rd_T99 W.C r).f1
theorem Easier.worst {W V : Wk} (h : Easier W V) (hn : W.Ok) {k r : Int} (k0 : 0 ≤ k) (k1 : k < W.T.length) (r0 : 0 ≤ r) (r1 : r < W.C.length) : worstP V k r ≤ worstP W k r := by
  have ht := hn.tk' k k0 k1
  have hr := (h.r r r0 r1).1
  have hd := h.dl
  unfold worstP doneP
  rw [h.t]
  have : ((rd_T35 W.T k).f1 - (rd_T35 W.T k).f0) * (rd_T99 V.C r).f0.f1 ≤ ((rd_T35 W.T k).f1 - (rd_T35 W.T k).f0) * (rd_T99 W.C r).f0.f1 := Int.mul_le_mul_of_nonneg_left hr (by omega)
  omega
theorem Easier.may {W V : Wk} (h : Easier W V) (hn : W.Ok) {s : Sx} {r : Int} (k0 : 0 ≤ s.k) (k1 : s.k < W.T.length) (r0 : 0 ≤ r) (r1 : r < W.C.length) (g0 : -1 ≤ s.get r) (g1 : s.get r < s.k) (hm : mayP W s r = true) : mayP V s r = true := by
  simp only [mayP, Bool.and_eq_true, Bool.or_eq_true, Bool.not_eq_true', decide_eq_true_eq, decide_eq_false_iff_not] at hm ⊢
  have hw := h.worst hn k0 k1 r0 r1
  have hd := h.due
  have hr := (h.r r r0 r1).2
  rw [h.t]
  refine ⟨by omega, ?_⟩
  by_cases hl : s.get r = -1
  · exact .inl hl
  · have hw2 := h.worst hn (by omega : 0 ≤ s.get r) (by omega) r0 r1
    rcases hm.2 with h3 | h3
    · exact .inl h3
    · exact .inr (by omega)
theorem Easier.right {W V : Wk} (h : Easier W V) (hn : W.Ok) (nt : Int) : ∀ (c : List Int) (s : Sx), s.Fine → s.k + c.length ≤ W.T.length → rightN W nt s c → rightN V nt s c
  | [], _, _, _, _ => trivial
  | r :: t, s, hf, hk, ⟨h0, h1, h2, h3, h4⟩ => by
    rw [List.length_cons] at hk
    have hc1 := hn.c1
    have hg := hf.h r h0 (by omega)
    have hcc := h.c
    exact ⟨h0, by omega, h2, h.may hn hf.k0 (by omega) h0 h1 hg.1 hg.2 h3, h.right hn nt t _ (hf.given r h0 (by omega)) (by rw [givenP_k]; omega) h4⟩
/-- What was right stays right; one comes at least as far. -/
theorem easier_law {W V : Wk} (h : Easier W V) (hn : W.Ok) : (¬ reachP W (-1) [] < W.T.length → proveR V 0 (rotaP W (-1) []) = true) ∧ reachP W (-1) [] ≤ reachP V (-1) [] := by
  refine ⟨fun hr => ?_, ?_⟩
  · obtain ⟨h1, h2⟩ := rota_right hr
    have h3 := h.right hn (-1) _ initP init_fine (by show (0 : Int) + _ ≤ _; omega) h1
    obtain ⟨g1, g2⟩ := rota_listed h3 (by rw [h.t]; exact h2)
    rw [proveR, decide_eq_true rfl, g1, g2]; rfl
  · rw [reach_eq, reach_eq, h.t]
    obtain ⟨c, h1, h2⟩ := best_get W (-1) W.T.length initP
    have hl := best_le W (-1) W.T.length initP
    have h3 := h.right hn (-1) c initP init_fine (by show (0 : Int) + _ ≤ _; omega) h1
    have := best_ge V (-1) W.T.length initP c h3 (by omega)
    omega
/-- What TakeEasier makes of an office. -/
def EasyO (cr : List S62) (due dl : Int) (cr' : List S62) (due' dl' : Int) : Prop :=
  due ≤ due' ∧ dl' ≤ dl ∧ cr.length ≤ cr'.length ∧ cr'.length ≤ 9 ∧ ∀ r : Nat, r < cr.length → (rd_T62 cr' r).f0.f1 ≤ (rd_T62 cr r).f0.f1 ∧ (rd_T62 cr' r).f1 ≤ (rd_T62 cr r).f1
theorem rd99_62 (l : List S62) (r : Nat) (h : r < l.length) : rd_T99 (l.map to99) (r : Int) = to99 (rd_T62 l r) := by
  unfold rd_T99 rd_T62
  rw [Int.toNat_natCast, List.getD_eq_getElem?_getD, List.getD_eq_getElem?_getD, List.getElem?_map, List.getElem?_eq_getElem h]; rfl
theorem easyO_easier {L : Int} {P : List S35} {lo sh : Int} {cr cr' : List S62} {due dl due' dl' : Int} (h : EasyO cr due dl cr' due' dl') : Easier (wkOf L P lo sh (cr.map to99) due dl) (wkOf L P lo sh (cr'.map to99) due' dl') :=
  ⟨rfl, h.1, h.2.1, by show (cr.map to99).length ≤ (cr'.map to99).length; rw [List.length_map, List.length_map]; exact h.2.2.1, fun r r0 r1 => by
    have r1' : r < ((cr.map to99).length : Int) := r1
    rw [List.length_map] at r1'
    obtain ⟨m, rfl⟩ : ∃ m : Nat, r = m := ⟨r.toNat, by omega⟩
    have hm := h.2.2.2.2 m (by omega)
    show (rd_T99 (cr'.map to99) (m : Int)).f0.f1 ≤ (rd_T99 (cr.map to99) (m : Int)).f0.f1 ∧ (rd_T99 (cr'.map to99) (m : Int)).f1 ≤ (rd_T99 (cr.map to99) (m : Int)).f1
    have hcc := h.2.2.1
    rw [rd99_62 cr m (by omega), rd99_62 cr' m (by omega)]
    exact hm⟩
theorem rd62_split (a : List S62) (p q : S62) (b : List S62) (r : Nat) : rd_T62 (a ++ q :: b) (r : Int) = if r = a.length then q else rd_T62 (a ++ p :: b) (r : Int) := by
  unfold rd_T62
  rw [Int.toNat_natCast, List.getD_eq_getElem?_getD, List.getD_eq_getElem?_getD]
  by_cases h : r = a.length
  · rw [if_pos h, h, List.getElem?_append_right (Nat.le_refl _), Nat.sub_self]; rfl
  · rw [if_neg h]
    by_cases h2 : r < a.length
    · rw [List.getElem?_append_left h2, List.getElem?_append_left h2]
    · rw [List.getElem?_append_right (by omega), List.getElem?_append_right (by omega)]
      obtain ⟨m, hm⟩ : ∃ m, r - a.length = m + 1 := ⟨r - a.length - 1, by omega⟩
      rw [hm]; rfl
theorem rd62_snoc (l : List S62) (x : S62) (r : Nat) (h : r < l.length) : rd_T62 (l ++ [x]) (r : Int) = rd_T62 l (r : Int) := by
  unfold rd_T62
  rw [Int.toNat_natCast, List.getD_eq_getElem?_getD, List.getD_eq_getElem?_getD, List.getElem?_append_left h]
theorem easy_same {cr : List S62} {due dl due' dl' : Int} (hl : cr.length ≤ 8) (h1 : due ≤ due') (h2 : dl' ≤ dl) : EasyO cr due dl cr due' dl' := ⟨h1, h2, Nat.le_refl _, by omega, fun r hr => ⟨Int.le_refl _, Int.le_refl _⟩⟩
theorem easy_more {cr : List S62} {due dl : Int} (x : S62) (hl : cr.length ≤ 8) : EasyO cr due dl (cr ++ [x]) due dl := ⟨Int.le_refl _, Int.le_refl _, by simp, by simp; omega, fun r hr => by rw [rd62_snoc cr x r hr]; exact ⟨Int.le_refl _, Int.le_refl _⟩⟩
theorem easy_one {a b : List S62} {p q : S62} {due dl : Int} (hl : (a ++ p :: b).length ≤ 8) (h1 : q.f0.f1 ≤ p.f0.f1) (h2 : q.f1 ≤ p.f1) : EasyO (a ++ p :: b) due dl (a ++ q :: b) due dl :=
  ⟨Int.le_refl _, Int.le_refl _, by simp, by simp at hl ⊢; omega, fun r hr => by
    rw [rd62_split a p q b r]
    by_cases h : r = a.length
    · rw [if_pos h, rd62_split a p p b r, if_pos h]; exact ⟨h1, h2⟩
    · rw [if_neg h]; exact ⟨Int.le_refl _, Int.le_refl _⟩⟩
def cells62 (xs : List S62) : List Value := xs.flatMap fun x => [.int .i64 x.f0.f0, .int .i64 x.f0.f1, .int .i64 x.f1]
theorem cells62_length (xs : List S62) : (cells62 xs).length = xs.length * 3 := by
  induction xs with
  | nil => rfl
  | cons x xs ih => simp [cells62] at ih ⊢; omega
theorem reps62 (w : World) (base : Nat) (ok : Nat → Prop) : ∀ xs : List S62, Reps (k62.M w base ok) 3 xs (cells62 xs)
  | [] => Reps.none _ _
  | x :: xs => by
    have h1 : Reps (k62.M w base ok) 3 [x] (cells62 [x]) := by
      refine ⟨rfl, fun j p hj => ?_⟩
      cases j with
      | succ j => simp at hj
      | zero =>
        obtain rfl : x = p := by simpa using hj
        exact k62_mkM w base ok x
    have := Kd.reps_append h1 (reps62 w base ok xs)
    simpa [cells62] using this
theorem cells62_of {R : S62 → List Value → Prop} (hR : ∀ x cs, R x cs → cs = [.int .i64 x.f0.f0, .int .i64 x.f0.f1, .int .i64 x.f1]) : ∀ (xs : List S62) (cs : List Value), Reps R 3 xs cs → cs = cells62 xs
  | [], cs, h => List.eq_nil_of_length_eq_zero (by simpa using h.1)
  | x :: xs, cs, h => by
    have h0 := hR _ _ (h.2 0 x rfl)
    have hl := h.1
    simp at hl
    have hd : Reps R 3 xs (cs.drop 3) := by
      refine ⟨by simp; omega, fun j p hj => ?_⟩
      have := h.2 (j + 1) p (by simpa using hj)
      rw [List.drop_drop, show 3 + j * 3 = (j + 1) * 3 by omega]
      exact this
    have ih := cells62_of hR xs _ hd
    have : cs = cs.take 3 ++ cs.drop 3 := (List.take_append_drop 3 cs).symm
    rw [this, ih]
    simp only [Nat.zero_mul, List.drop_zero] at h0
    rw [h0]
    rfl
theorem R62_own {w : World} {base : Nat} {ok : Nat → Prop} {v : Value} {xs : List S62} (h : Kd.R k62 62 w base ok v xs) : w.ownsRow base 62 3 v xs.length (cells62 xs) := by
  obtain ⟨_, inner, hown, hr⟩ := h
  rw [← cells62_of (fun x cs hx => k62_openM hx) xs inner hr]
  exact hown
theorem R62_mk {w : World} {base : Nat} {v : Value} {xs : List S62} (h : w.ownsRow base 62 3 v xs.length (cells62 xs)) : Kd.R k62 62 w base (fun _ => True) v xs := ⟨fun _ _ => trivial, _, h, reps62 _ _ _ _⟩
theorem R62_set {w : World} {base g n cap : Nat} {a b : List S62} {p : S62} (q : S62) (i : Nat) (u : Value) (hn : n = (a ++ p :: b).length) (hi : i < 3) (hq : [Value.int .i64 q.f0.f0, .int .i64 q.f0.f1, .int .i64 q.f1] = [Value.int .i64 p.f0.f0, .int .i64 p.f0.f1, .int .i64 p.f1].set i u) (h : Kd.R k62 62 w base (fun _ => True) (.slice (some ⟨g, 0, none⟩) n cap) (a ++ p :: b)) :
    Kd.R k62 62 (w.setCell ⟨g, a.length * 3 + i, none⟩ u) base (fun _ => True) (.slice (some ⟨g, 0, none⟩) n cap) (a ++ q :: b) := by
  have h1 := R62_own h
  rw [← hn] at h1
  have h2 := (World.ownsRow.stored h1 (a.length * 3 + i) u).1
  have e : (cells62 (a ++ p :: b)).set (a.length * 3 + i) u = cells62 (a ++ q :: b) := by
    have e1 : cells62 (a ++ p :: b) = cells62 a ++ ([.int .i64 p.f0.f0, .int .i64 p.f0.f1, .int .i64 p.f1] ++ cells62 b) := by simp [cells62]
    have e2 : cells62 (a ++ q :: b) = cells62 a ++ ([.int .i64 q.f0.f0, .int .i64 q.f0.f1, .int .i64 q.f1] ++ cells62 b) := by simp [cells62]
    rw [e1, e2, List.set_append_right _ _ (by rw [cells62_length]; omega), cells62_length, show a.length * 3 + i - a.length * 3 = i by omega, List.set_append_left _ _ (by simpa using hi), hq]
  rw [e] at h2
  refine R62_mk ?_
  rw [show (a ++ q :: b).length = n by rw [hn]; simp]
  exact h2
theorem split_at' (l : List S62) (j : Nat) (h : j < l.length) : ∃ a p b, l = a ++ p :: b ∧ a.length = j :=
  ⟨l.take j, l[j], l.drop (j + 1), by rw [← List.drop_eq_getElem_cons h, List.take_append_drop], by rw [List.length_take]; omega⟩
end Go.Proofs.Ytillieimgjdpbaa.Pr
