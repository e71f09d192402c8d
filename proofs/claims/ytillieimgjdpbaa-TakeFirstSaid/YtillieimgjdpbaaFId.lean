/- What the walks of the statements keep: the arguments' boxes, and whatever is read. -/
import Derived.Test.YtillieimgjdpbaaFPr6
import Derived.KernelRfl
import Derived.Test.YtillieimgjdpbaaFHs
import Derived.Test.YtillieimgjdpbaaFIb
import Derived.Deep.RegionHeld3
namespace Go.Proofs.Ytillieimgjdpbaa.Pr
theorem awake_true : palantypelaw01_awake.f 30 = some true := by kernel_rfl
end Go.Proofs.Ytillieimgjdpbaa.Pr
namespace Go.Proofs.Ytillieimgjdpbaa.Pr
open Go.RowKit Go.Proofs.YtillieimgjdpbaaW.PrintWords Go.Proofs.YtillieimgjdpbaaW.PrintLast Go.Proofs.YtillieimgjdpbaaW.PrintMore
set_option linter.unusedVariables false
set_option linter.unusedSimpArgs false
def to99 (r : S62) : S99 := ⟨⟨r.f0.f0, r.f0.f1⟩, r.f1⟩
theorem rd62 (l : List S62) (i : Nat) (h : i < l.length) : rd_T62 l (i : Int) = l[i] := by
  unfold rd_T62
  rw [Int.toNat_natCast, List.getD_eq_getElem?_getD, List.getElem?_eq_getElem h]; rfl
def offTail (n : Nat) (due dl : Int) : Bool := decide (1 ≤ (n : Int) ∧ (n : Int) ≤ 5) && decide (0 ≤ due ∧ due ≤ 36000) && decide (0 ≤ dl ∧ dl ≤ 36000)
theorem right_l0 (cr : List S62) (due dl : Int) (hlen : cr.length ≤ 1000000) (n : Nat) : ∀ (i k : Nat), i + n = cr.length →
    palantyperef01_RightOffice.l0 (2 * n + 1 + k) (i : Int) cr due dl = some (((cr.drop i).map to99).all repOk && offTail cr.length due dl) := by
  induction n with
  | zero =>
    intro i k hi
    obtain rfl : i = cr.length := by omega
    rw [show 2 * 0 + 1 + k = k + 1 from by omega, palantyperef01_RightOffice.l0, if_neg (by omega), List.drop_length, in_some, in_some, in_some, Option.bind_some, Option.bind_some, Option.bind_some]
    unfold offTail
    cases decide (1 ≤ (cr.length : Int) ∧ (cr.length : Int) ≤ 5) <;> cases decide (0 ≤ due ∧ due ≤ 36000) <;> rfl
  | succ n ih =>
    intro i k hi
    have hlt : i < cr.length := by omega
    have hrec := ih (i + 1) k (by omega)
    have hw : wrap64 ((i : Int) + 1) = ((i + 1 : Nat) : Int) := by rw [winS _ (by omega)]; omega
    have hj : ∀ b, palantyperef01_RightOffice.j1 (2 * n + 1 + k + 1) (i : Int) b cr due dl = some (!b && (((cr.drop (i + 1)).map to99).all repOk && offTail cr.length due dl)) := fun b => by
      rw [palantyperef01_RightOffice.j1]
      cases b with
      | true => rfl
      | false => rw [if_neg (by decide), hw, hrec]; rfl
    have hd : ((cr.drop i).map to99).all repOk = (repOk (to99 cr[i]) && ((cr.drop (i + 1)).map to99).all repOk) := by rw [drop_cons' cr i hlt]; rfl
    rw [show 2 * (n + 1) + 1 + k = (2 * n + 1 + k + 1) + 1 from by omega, palantyperef01_RightOffice.l0, if_pos (by omega), if_pos (by omega), rd62 cr i hlt, hd]
    generalize cr[i] = r
    have er : repOk (to99 r) = (decide (0 ≤ r.f0.f0) && decide (r.f0.f0 ≤ r.f0.f1) && decide (r.f0.f1 ≤ 20) && decide (0 ≤ r.f1 ∧ r.f1 ≤ 36000)) := rfl
    rw [er, in_some, Option.bind_some, hj, hj]
    by_cases c1 : r.f0.f0 < 0
    · rw [if_pos c1, decide_eq_false (by omega)]; rfl
    · rw [if_neg c1, decide_eq_true (p := 0 ≤ r.f0.f0) (by omega)]
      by_cases c2 : r.f0.f0 > r.f0.f1
      · rw [if_pos c2, decide_eq_false (p := r.f0.f0 ≤ r.f0.f1) (by omega)]; rfl
      · rw [if_neg c2, decide_eq_true (p := r.f0.f0 ≤ r.f0.f1) (by omega)]
        by_cases c3 : r.f0.f1 > 20
        · rw [if_pos c3, decide_eq_false (p := r.f0.f1 ≤ 20) (by omega)]; rfl
        · rw [if_neg c3, decide_eq_true (p := r.f0.f1 ≤ 20) (by omega)]
          cases decide (0 ≤ r.f1 ∧ r.f1 ≤ 36000) <;> simp
theorem right_some (cr : List S62) (due dl : Int) (hlen : cr.length ≤ 1000000) (k : Nat) (hk : 2 * cr.length + 1 ≤ k) : palantyperef01_RightOffice.f k cr due dl = some (officeOk (cr.map to99) due dl) := by
  obtain ⟨j, rfl⟩ : ∃ j, k = 2 * cr.length + 1 + j := ⟨k - (2 * cr.length + 1), by omega⟩
  have := right_l0 cr due dl hlen cr.length 0 j (by omega)
  rw [palantyperef01_RightOffice.f]
  refine this.trans ?_
  rw [List.drop_zero, officeOk, offTail, List.length_map]
  cases (cr.map to99).all repOk <;> cases decide (1 ≤ (cr.length : Int) ∧ (cr.length : Int) ≤ 5) <;> rfl
def readyP (L : Int) (l : List S41) (lo sh : Int) (cr : List S62) (due dl : Int) : Bool :=
  decide ((l.length : Int) ≤ 60) && decide ((cr.length : Int) ≤ 8) && (workE L (l.map to35) lo sh (cr.map to99) due dl == 0)
theorem thin_some (L : Int) (l : List S41) (lo sh : Int) (cr : List S62) (due dl : Int) : palantypelaw01_Thin.f L l lo sh cr due dl = some (decide ((l.length : Int) ≤ 60) && decide ((cr.length : Int) ≤ 8)) := by
  unfold palantypelaw01_Thin.f
  by_cases h : (l.length : Int) ≤ 60
  · rw [if_pos h, decide_eq_true h]; rfl
  · rw [if_neg h, decide_eq_false h]; rfl
theorem ready_some (L : Int) (l : List S41) (lo sh : Int) (cr : List S62) (due dl : Int) : ∃ k, palantypelaw01_ready.f k L l lo sh cr due dl = some (readyP L l lo sh cr due dl) := by
  cases ht : (decide ((l.length : Int) ≤ 60) && decide ((cr.length : Int) ≤ 8)) with
  | false =>
    refine ⟨0, ?_⟩
    rw [palantypelaw01_ready.f, thin_some, ht, Option.bind_some, if_neg (by decide), readyP, ht]; rfl
  | true =>
    have hl : l.length ≤ 60 ∧ cr.length ≤ 8 := by simp only [Bool.and_eq_true, decide_eq_true_eq] at ht; omega
    obtain ⟨k0, hk⟩ := fault_some L l lo sh (by omega)
    have hf : palantyperef01_SittingFault.f (k0 + 17) L l lo sh = _ := hk (k0 + 17) (by omega)
    refine ⟨k0 + 17, ?_⟩
    rw [palantypelaw01_ready.f, thin_some, ht, Option.bind_some, if_pos rfl, palantypelaw01_fault.f, hf, Option.bind_some, right_some cr due dl (by omega) _ (by omega), Option.bind_some, readyP, ht, workE]
    by_cases hc : (checkP L (l.map to35) lo sh).2 = 0
    · rw [if_pos hc]
      simp only [hc, ne_eq, not_true_eq_false, if_false]
      cases officeOk (cr.map to99) due dl <;> rfl
    · rw [if_neg hc, if_pos hc]; rfl
theorem office_l0 (cr : List S62) (due dl : Int) (hlen : cr.length ≤ 1000000) (n : Nat) : ∀ (i : Nat) (acc : List S99) (k : Nat), i + n = cr.length → acc.length ≤ i →
    palantypelaw01_Office.l0 (n + 1 + k) (i : Int) cr due dl acc due dl = some (acc ++ (cr.drop i).map to99, due, dl) := by
  induction n with
  | zero =>
    intro i acc k hi ha
    obtain rfl : i = cr.length := by omega
    rw [show 0 + 1 + k = k + 1 from by omega, palantypelaw01_Office.l0, if_neg (by omega), List.drop_length]; simp
  | succ n ih =>
    intro i acc k hi ha
    have hlt : i < cr.length := by omega
    have hw : wrap64 ((i : Int) + 1) = ((i + 1 : Nat) : Int) := by rw [winS _ (by omega)]; omega
    rw [show n + 1 + 1 + k = (n + 1 + k) + 1 from by omega, palantypelaw01_Office.l0, if_pos (by omega), if_pos (by omega), if_pos (by omega), rd62 cr i hlt, hw, ih (i + 1) _ k (by omega) (by simp; omega), drop_cons' cr i hlt, List.append_assoc]
    rfl
theorem office_some (cr : List S62) (due dl : Int) (hlen : cr.length ≤ 1000000) (k : Nat) (hk : cr.length + 1 ≤ k) : palantypelaw01_Office.f k cr due dl = some (cr.map to99, due, dl) := by
  obtain ⟨j, rfl⟩ : ∃ j, k = cr.length + 1 + j := ⟨k - (cr.length + 1), by omega⟩
  have := office_l0 cr due dl hlen cr.length 0 [] j (by omega) (by simp)
  rw [palantypelaw01_Office.f]
  exact this.trans (by simp)
theorem c11 (X : World) : Calls Try.prog 11 #[] X fun e w' => e = .returned (.bool true) ∧ Below X.heap.size X w' := palantypelaw01_awake.calls _ true X awake_true
theorem c16 {X : World} {A : Option Addr} {c : Nat} {l : List S41} (h1 : Kd.C k41 X A l.length l) (h1c : l.length ≤ c) {B : Option Addr} {d : Nat} {cr : List S62} (h2 : Kd.C k62 X B cr.length cr) (h2c : cr.length ≤ d) (L lo sh due dl : Int) :
    Calls Try.prog 16 #[.agg #[.int .i64 L, .slice A l.length c, .int .i64 lo, .int .i64 sh], .agg #[.slice B cr.length d, .int .i64 due, .int .i64 dl]] X fun e w' => e = .returned (.bool (readyP L l lo sh cr due dl)) ∧ Below X.heap.size X w' := by
  obtain ⟨k, hk⟩ := ready_some L l lo sh cr due dl
  exact palantypelaw01_ready.calls k L A c l lo sh B d cr due dl _ X h1 h1c h2 h2c hk
theorem c13 {X : World} {A : Option Addr} {c : Nat} {l : List S41} (h1 : Kd.C k41 X A l.length l) (h1c : l.length ≤ c) (hl : l.length ≤ 1000000) (L lo sh : Int) {P : List S35} (hP : P = l.map to35) :
    Calls Try.prog 13 #[.agg #[.int .i64 L, .slice A l.length c, .int .i64 lo, .int .i64 sh]] X fun e w' => ∃ A1 c1, e = .returned (.agg #[.int .i64 L, .slice A1 P.length c1, .int .i64 lo, .int .i64 sh]) ∧ Aside0 (Kd.C k35 w' A1 P.length P) ∧ Aside0 (P.length ≤ c1) ∧ Below X.heap.size X w' :=
  (palantypelaw01_Sitting.calls (l.length + 1) L A c l lo sh L P lo sh X h1 h1c (by rw [hP]; exact sit_some L l lo sh hl _ (Nat.le_refl _))).mono (fun e w' h => by
    obtain ⟨v, rfl, hR, hb⟩ := h
    obtain ⟨A1, c1, rfl⟩ := Kd.R_slice hR
    obtain ⟨_, g2, g3⟩ := Kd.R_reads' hR
    exact ⟨A1, c1, rfl, ⟨g3⟩, ⟨g2⟩, hb⟩)
theorem c18 {X : World} {B : Option Addr} {d : Nat} {cr : List S62} (h1 : Kd.C k62 X B cr.length cr) (h1c : cr.length ≤ d) (hl : cr.length ≤ 1000000) (due dl : Int) {O : List S99} (hO : O = cr.map to99) :
    Calls Try.prog 18 #[.agg #[.slice B cr.length d, .int .i64 due, .int .i64 dl]] X fun e w' => ∃ A1 c1, e = .returned (.agg #[.slice A1 O.length c1, .int .i64 due, .int .i64 dl]) ∧ Aside0 (Kd.C k99 w' A1 O.length O) ∧ Aside0 (O.length ≤ c1) ∧ Below X.heap.size X w' :=
  (palantypelaw01_Office.calls (cr.length + 1) B d cr due dl O due dl X h1 h1c (by rw [hO]; exact office_some cr due dl hl _ (Nat.le_refl _))).mono (fun e w' h => by
    obtain ⟨v, rfl, hR, hb⟩ := h
    obtain ⟨A1, c1, rfl⟩ := Kd.R_slice hR
    obtain ⟨_, g2, g3⟩ := Kd.R_reads' hR
    exact ⟨A1, c1, rfl, ⟨g3⟩, ⟨g2⟩, hb⟩)
theorem c22 {X : World} {A : Option Addr} {c : Nat} {l : List S41} (h1 : Kd.C k41 X A l.length l) (h1c : l.length ≤ c) (hl : l.length ≤ 1000000) (L lo sh b : Int) {l' : List S41} (hP : l' = cut41 b l) :
    Calls Try.prog 22 #[.agg #[.int .i64 L, .slice A l.length c, .int .i64 lo, .int .i64 sh], .int .i64 b] X fun e w' => ∃ A1 c1, e = .returned (.agg #[.int .i64 b, .slice A1 l'.length c1, .int .i64 lo, .int .i64 sh]) ∧ Aside0 (∀ W', (∀ i, X.heap.size ≤ i → W'.heap[i]? = w'.heap[i]?) → Kd.C k41 W' A1 l'.length l') ∧ Aside0 (l'.length ≤ c1) ∧ Below X.heap.size X w' :=
  (palantypelaw01_cut.calls (l.length + 1) L A c l lo sh b b l' lo sh X h1 h1c (by rw [hP]; exact cut_some b L l lo sh hl _ (Nat.le_refl _))).mono (fun e w' h => by
    obtain ⟨v, rfl, hR, hb⟩ := h
    obtain ⟨A1, c1, rfl⟩ := Kd.R_slice hR
    obtain ⟨_, g2, _⟩ := Kd.R_reads' hR
    exact ⟨A1, c1, rfl, ⟨fun W' hW => (Kd.R_reads' (Kd.R_move (Kd.R_bound hR) (fun k hk => hW k hk.2.1))).2.2⟩, ⟨g2⟩, hb⟩)
theorem c21 {X : World} {A : Option Addr} {c : Nat} {l : List Int} (h1 : Kd.C (Kd.int .i64) X A l.length l) (h1c : l.length ≤ c) (hl : l.length ≤ 1000000) :
    Calls Try.prog 21 #[.slice A l.length c] X fun e w' => ∃ A1 c1, e = .returned (.slice A1 l.length c1) ∧ Aside0 (Kd.C (Kd.int .i64) w' A1 l.length l) ∧ Aside0 (l.length ≤ c1) ∧ Below X.heap.size X w' :=
  (palantypelaw01_list.calls A c l l X h1 h1c (by rw [palantypelaw01_list.f, if_pos (by omega)])).mono (fun e w' h => by
    obtain ⟨v, rfl, hR, hb⟩ := h
    obtain ⟨A1, c1, rfl⟩ := Kd.R_slice hR
    obtain ⟨_, g2, g3⟩ := Kd.R_reads' hR
    exact ⟨A1, c1, rfl, ⟨g3⟩, ⟨g2⟩, hb⟩)
theorem c12 {X : World} {A : Option Addr} {c : Nat} {P : List S35} (h1 : Kd.C k35 X A P.length P) (h1c : P.length ≤ c) (L lo sh : Int) {T : List S35} {e0 : Int} (hT : checkP L P lo sh = (T, e0)) :
    Calls Try.prog 12 #[.agg #[.int .i64 L, .slice A P.length c, .int .i64 lo, .int .i64 sh]] X fun e w' => ∃ A1 c1, e = .returned (.tuple #[.slice A1 T.length c1, .int .i64 e0]) ∧ Aside0 (Kd.C k35 w' A1 T.length T) ∧ Aside0 (T.length ≤ c1) ∧ Below X.heap.size X w' :=
  (take_Takes.calls L A c P lo sh T e0 X h1 h1c (by simp only [take_Takes.f, take_Sitting_check.f, hT, Option.bind_some])).mono (fun e w' h => by
    obtain ⟨v, rfl, hR, hb⟩ := h
    obtain ⟨A1, c1, rfl⟩ := Kd.R_slice hR
    obtain ⟨_, g2, g3⟩ := Kd.R_reads' hR
    exact ⟨A1, c1, rfl, ⟨g3⟩, ⟨g2⟩, hb⟩)
theorem c17 {X : World} {A : Option Addr} {c : Nat} {P : List S35} (h1 : Kd.C k35 X A P.length P) (h1c : P.length ≤ c) {B : Option Addr} {d : Nat} {O : List S99} (h2 : Kd.C k99 X B O.length O) (h2c : O.length ≤ d) (L lo sh due dl : Int) {r : List Int} {e0 : Int} (hr : rotaR (wkOf L P lo sh O due dl) (workE L P lo sh O due dl) = (r, e0)) :
    Calls Try.prog 17 #[.agg #[.int .i64 L, .slice A P.length c, .int .i64 lo, .int .i64 sh], .agg #[.slice B O.length d, .int .i64 due, .int .i64 dl]] X fun e w' => ∃ A1 c1, e = .returned (.tuple #[.slice A1 r.length c1, .int .i64 e0]) ∧ Aside0 (Kd.C (Kd.int .i64) w' A1 r.length r) ∧ Aside0 (r.length ≤ c1) ∧ Below X.heap.size X w' :=
  (take_Rota.calls L A c P lo sh B d O due dl r e0 X h1 h1c h2 h2c (by rw [take_Rota.f, hr])).mono (fun e w' h => by
    obtain ⟨v, rfl, hR, hb⟩ := h
    obtain ⟨A1, c1, rfl⟩ := Kd.V_slice hR
    obtain ⟨_, g2, g3⟩ := Kd.V_reads' hR
    exact ⟨A1, c1, rfl, ⟨g3⟩, ⟨g2⟩, hb⟩)
theorem c19 {X : World} {A : Option Addr} {c : Nat} {P : List S35} (h1 : Kd.C k35 X A P.length P) (h1c : P.length ≤ c) {B : Option Addr} {d : Nat} {O : List S99} (h2 : Kd.C k99 X B O.length O) (h2c : O.length ≤ d) (L lo sh due dl : Int) {n : Int} {e0 : Int} (hr : failsR (wkOf L P lo sh O due dl) (workE L P lo sh O due dl) = (n, e0)) :
    Calls Try.prog 19 #[.agg #[.int .i64 L, .slice A P.length c, .int .i64 lo, .int .i64 sh], .agg #[.slice B O.length d, .int .i64 due, .int .i64 dl]] X fun e w' => e = .returned (.tuple #[.int .i64 n, .int .i64 e0]) ∧ Below X.heap.size X w' :=
  take_Fails.calls L A c P lo sh B d O due dl n e0 X h1 h1c h2 h2c (by rw [take_Fails.f, hr])
theorem c20 {X : World} {A : Option Addr} {c : Nat} {P : List S35} (h1 : Kd.C k35 X A P.length P) (h1c : P.length ≤ c) {B : Option Addr} {d : Nat} {O : List S99} (h2 : Kd.C k99 X B O.length O) (h2c : O.length ≤ d) {D : Option Addr} {m : Nat} {l : List Int} (h3 : Kd.C (Kd.int .i64) X D l.length l) (h3c : l.length ≤ m) (L lo sh due dl : Int) {b : Bool} (hr : proveR (wkOf L P lo sh O due dl) (workE L P lo sh O due dl) l = b) :
    Calls Try.prog 20 #[.agg #[.int .i64 L, .slice A P.length c, .int .i64 lo, .int .i64 sh], .agg #[.slice B O.length d, .int .i64 due, .int .i64 dl], .slice D l.length m] X fun e w' => e = .returned (.bool b) ∧ Below X.heap.size X w' :=
  take_ProveRota.calls L A c P lo sh B d O due dl D m l b X h1 h1c h2 h2c h3 h3c (by rw [take_ProveRota.f, hr])
end Go.Proofs.Ytillieimgjdpbaa.Pr
namespace Go.Proofs.Ytillieimgjdpbaa.Pr
open Go.RowKit Go.Proofs.YtillieimgjdpbaaW.PrintWords Go.Proofs.YtillieimgjdpbaaW.PrintLast Go.Proofs.YtillieimgjdpbaaW.PrintMore
set_option linter.unusedVariables false
set_option linter.unusedSimpArgs false
/-- What is not lost where old blocks stay as they are. -/
class Keeps (K : World → Prop) : Prop where
  keep : ∀ {X X' : World}, K X → Below X.heap.size X X' → K X'
instance keeps_true : Keeps (fun _ => True) := ⟨fun _ _ => trivial⟩
instance keeps_C {α : Type} (k : Kd α) (A : Option Addr) (n : Nat) (l : List α) : Keeps (fun X => Kd.C k X A n l) := ⟨fun h hb => Kd.C_below h hb⟩
instance keeps_blk (g : Nat) (o : Array Value) (t : TypeId) : Keeps (fun X => X.heap[g]? = some (.cells o t (0, 0))) := ⟨fun h hb => blk_below h hb⟩
instance keeps_and (K K' : World → Prop) [h : Keeps K] [h' : Keeps K'] : Keeps (fun X => K X ∧ K' X) := ⟨fun k hb => ⟨h.keep k.1 hb, h'.keep k.2 hb⟩⟩
/-- The arguments' boxes stand as they were laid; K holds. -/
structure Fa (w : World) (sc oc : Array Value) (K : World → Prop) (X : World) : Prop where
  b : Below w.heap.size w X
  s : X.heap[w.heap.size]? = some (.cells sc 24 (0, 0))
  o : X.heap[w.heap.size + 1]? = some (.cells oc 45 (0, 0))
  k : K X
theorem Fa.below {w X X' : World} {sc oc : Array Value} {K : World → Prop} [hK : Keeps K] (h : Fa w sc oc K X) (hb : Below X.heap.size X X') : Fa w sc oc K X' := ⟨h.b.trans (hb.mono h.b.size), blk_below h.s hb, blk_below h.o hb, hK.keep h.k hb⟩
theorem Fa.start (w : World) (sc oc : Array Value) : Fa w sc oc (fun _ => True) ((w.alloc (.cells sc 24)).alloc (.cells oc 45)) := ⟨below_alloc (below_alloc (Below.refl _ _) _) _, heap_alloc2_old _ _ _, heap_alloc2_new _ _ _, trivial⟩
theorem Fa.add {w X : World} {sc oc : Array Value} {K : World → Prop} (K' : World → Prop) (h : Fa w sc oc K X) (hk : K' X) : Fa w sc oc K' X := ⟨h.b, h.s, h.o, hk⟩
theorem Fa.drew {w X : World} {sc oc : Array Value} {K : World → Prop} [Keeps K] (h : Fa w sc oc K X) : Fa w sc oc K X.drew := h.below (below_drew (Below.refl _ _))
theorem Fa.alloc {w X : World} {sc oc : Array Value} {K : World → Prop} [Keeps K] (h : Fa w sc oc K X) (o : Obj) : Fa w sc oc K (X.alloc o) := h.below (below_alloc (Below.refl _ _) o)
theorem Fa.cells {w : World} {L lo sh due dl : Int} {A B : Option Addr} {n c k d : Nat} {K : World → Prop} {Y : World} (h : Fa w #[.int .i64 L, .slice A n c, .int .i64 lo, .int .i64 sh] #[.slice B k d, .int .i64 due, .int .i64 dl] K Y) :
    Y.cell? ⟨w.heap.size, 0, none⟩ = some (.int .i64 L) ∧ Y.cell? ⟨w.heap.size, 1, none⟩ = some (.slice A n c) ∧ Y.cell? ⟨w.heap.size, 2, none⟩ = some (.int .i64 lo) ∧ Y.cell? ⟨w.heap.size, 3, none⟩ = some (.int .i64 sh) ∧
    Y.cell? ⟨w.heap.size + 1, 0, none⟩ = some (.slice B k d) ∧ Y.cell? ⟨w.heap.size + 1, 1, none⟩ = some (.int .i64 due) ∧ Y.cell? ⟨w.heap.size + 1, 2, none⟩ = some (.int .i64 dl) :=
  ⟨(blk_cell h.s 0).trans rfl, (blk_cell h.s 1).trans rfl, (blk_cell h.s 2).trans rfl, (blk_cell h.s 3).trans rfl, (blk_cell h.o 0).trans rfl, (blk_cell h.o 1).trans rfl, (blk_cell h.o 2).trans rfl⟩
theorem and4 {a b c d e : Prop} (h : a ∧ b ∧ c ∧ d) (k : e) : a ∧ b ∧ c ∧ d ∧ e := ⟨h.1, h.2.1, h.2.2.1, h.2.2.2, k⟩
theorem cells4 {g : Nat} {a b c d : Value} {t : TypeId} {Y : World} (h : Y.heap[g]? = some (.cells #[a, b, c, d] t (0, 0))) : Y.cell? ⟨g, 0, none⟩ = some a ∧ Y.cell? ⟨g, 1, none⟩ = some b ∧ Y.cell? ⟨g, 2, none⟩ = some c ∧ Y.cell? ⟨g, 3, none⟩ = some d :=
  ⟨(blk_cell h 0).trans rfl, (blk_cell h 1).trans rfl, (blk_cell h 2).trans rfl, (blk_cell h 3).trans rfl⟩
theorem setCell_cells {X : World} {g t i : Nat} {cs : Array Value} (h : X.heap[g]? = some (.cells cs t (0, 0))) (v : Value) : (X.setCell ⟨g, i, none⟩ v).heap[g]? = some (.cells (cs.setIfInBounds i v) t (0, 0)) := by
  simp [World.setCell, Array.getElem?_modify, h]
theorem set4 {X : World} {g t : Nat} {z0 z1 z2 z3 : Value} (h : X.heap[g]? = some (.cells #[z0, z1, z2, z3] t (0, 0))) (a b c d : Value) :
    ((((X.setCell ⟨g, 0, none⟩ a).setCell ⟨g, 1, none⟩ b).setCell ⟨g, 2, none⟩ c).setCell ⟨g, 3, none⟩ d).heap[g]? = some (.cells #[a, b, c, d] t (0, 0)) ∧ Below g X ((((X.setCell ⟨g, 0, none⟩ a).setCell ⟨g, 1, none⟩ b).setCell ⟨g, 2, none⟩ c).setCell ⟨g, 3, none⟩ d) ∧
    ∀ i, i ≠ g → ((((X.setCell ⟨g, 0, none⟩ a).setCell ⟨g, 1, none⟩ b).setCell ⟨g, 2, none⟩ c).setCell ⟨g, 3, none⟩ d).heap[i]? = X.heap[i]? :=
  ⟨setCell_cells (setCell_cells (setCell_cells (setCell_cells h a) b) c) d, ((((Below.refl g X).setCell (Nat.le_refl _) _).setCell (Nat.le_refl _) _).setCell (Nat.le_refl _) _).setCell (Nat.le_refl _) _,
   fun i hi => by rw [Below.heap_setCell _ _ _ _ hi, Below.heap_setCell _ _ _ _ hi, Below.heap_setCell _ _ _ _ hi, Below.heap_setCell _ _ _ _ hi]⟩
/-- A struct of four cells, made ahead of what is stored in it. -/
theorem late4 {w0 x y : World} {g t : Nat} {z0 z1 z2 z3 : Value} (hy : Below (x.alloc (.cells #[z0, z1, z2, z3] t)).drew.heap.size (x.alloc (.cells #[z0, z1, z2, z3] t)).drew y) (hg : g = x.heap.size) (a b c d : Value) :
    ((((y.setCell ⟨g, 0, none⟩ a).setCell ⟨g, 1, none⟩ b).setCell ⟨g, 2, none⟩ c).setCell ⟨g, 3, none⟩ d).heap[g]? = some (.cells #[a, b, c, d] t (0, 0)) ∧ Below x.heap.size x ((((y.setCell ⟨g, 0, none⟩ a).setCell ⟨g, 1, none⟩ b).setCell ⟨g, 2, none⟩ c).setCell ⟨g, 3, none⟩ d) ∧
    ∀ i, i ≠ g → ((((y.setCell ⟨g, 0, none⟩ a).setCell ⟨g, 1, none⟩ b).setCell ⟨g, 2, none⟩ c).setCell ⟨g, 3, none⟩ d).heap[i]? = y.heap[i]? := by
  subst hg
  have h1 := blk_below (blk_drew (blk_new x (.cells #[z0, z1, z2, z3] t))) hy
  have h2 : Below x.heap.size x y := below_then (below_drew (below_alloc (Below.refl _ _) _)) (by simp) hy
  obtain ⟨h3, h4, h5⟩ := set4 h1 a b c d
  exact ⟨h3, h2.trans h4, h5⟩
theorem ready_parts {L lo sh due dl : Int} {l : List S41} {cr : List S62} (h : readyP L l lo sh cr due dl = true) : l.length ≤ 60 ∧ cr.length ≤ 8 ∧ workE L (l.map to35) lo sh (cr.map to99) due dl = 0 := by
  simp only [readyP, Bool.and_eq_true, decide_eq_true_eq, beq_iff_eq] at h
  omega
theorem rd35' (l : List S35) (i : Nat) (h : i < l.length) : rd_T35 l (i : Int) = l[i] := by
  unfold rd_T35
  rw [Int.toNat_natCast, List.getD_eq_getElem?_getD, List.getElem?_eq_getElem h]; rfl
theorem check_of_work {L : Int} {P : List S35} {lo sh : Int} {O : List S99} {due dl : Int} (he : workE L P lo sh O due dl = 0) : checkP L P lo sh = (takesP L P lo sh, 0) := by
  have h2 : (checkP L P lo sh).2 = 0 := by
    unfold workE at he
    by_cases h : (checkP L P lo sh).2 = 0
    · exact h
    · rw [if_pos h] at he; exact absurd he h
  obtain ⟨hs, e1, e2⟩ := check_is h2
  rw [← e1, ← h2]
end Go.Proofs.Ytillieimgjdpbaa.Pr
