/- TakeNames, walked: it returns true. -/
import Derived.Test.YtillieimgjdpbaaMIt
import Derived.Test.YtillieimgjdpbaaMIn
import Derived.RegionTactic
import Derived.Outline
namespace Go.Proofs.Ytillieimgjdpbaa.Pr
open Go.RowKit Go.Proofs.YtillieimgjdpbaaW.PrintWords Go.Proofs.YtillieimgjdpbaaW.PrintLast Go.Proofs.YtillieimgjdpbaaW.PrintMore
set_option linter.unusedVariables false
set_option linter.unusedSimpArgs false
/-- The two variables of the chamber's examples stand as they were laid; K holds. -/
structure Cb (w : World) (g : Nat) (A B : Option Addr) (c d : Nat) (P : List S35) (O : List S99) (K : World → Prop) (X : World) : Prop where
  b : Below w.heap.size w X
  s : X.heap[g]? = some (.cells #[.int .i64 1000, .slice A P.length c, .int .i64 180, .int .i64 60] 32 (0, 0))
  o : X.heap[g + 1]? = some (.cells #[.slice B O.length d, .int .i64 400, .int .i64 30] 52 (0, 0))
  p : Kd.C k35 X A P.length P
  q : Kd.C k99 X B O.length O
  k : K X
theorem Cb.below {w X X' : World} {g : Nat} {A B : Option Addr} {c d : Nat} {P : List S35} {O : List S99} {K : World → Prop} [hK : Keeps K] (h : Cb w g A B c d P O K X) (hb : Below X.heap.size X X') : Cb w g A B c d P O K X' :=
  ⟨h.b.trans (hb.mono h.b.size), blk_below h.s hb, blk_below h.o hb, Kd.C_below h.p hb, Kd.C_below h.q hb, hK.keep h.k hb⟩
theorem Cb.add {w X : World} {g : Nat} {A B : Option Addr} {c d : Nat} {P : List S35} {O : List S99} {K : World → Prop} (K' : World → Prop) (h : Cb w g A B c d P O K X) (hk : K' X) : Cb w g A B c d P O K' X := ⟨h.b, h.s, h.o, h.p, h.q, hk⟩
theorem Cb.start {w x : World} {A B : Option Addr} {c d : Nat} {P : List S35} {O : List S99} (hb : Below w.heap.size w x) (hp : Kd.C k35 x A P.length P) (hq : Kd.C k99 x B O.length O) :
    Cb w x.heap.size A B c d P O (fun _ => True) ((x.alloc (.cells #[.int .i64 1000, .slice A P.length c, .int .i64 180, .int .i64 60] 32)).alloc (.cells #[.slice B O.length d, .int .i64 400, .int .i64 30] 52)) :=
  ⟨below_alloc (below_alloc hb _) _, heap_alloc2_old _ _ _, heap_alloc2_new _ _ _, Kd.C_alloc (Kd.C_alloc hp _) _, Kd.C_alloc (Kd.C_alloc hq _) _, trivial⟩
theorem Cb.cells {w X : World} {g : Nat} {A B : Option Addr} {c d : Nat} {P : List S35} {O : List S99} {K : World → Prop} (h : Cb w g A B c d P O K X) :
    X.cell? ⟨g, 0, none⟩ = some (.int .i64 1000) ∧ X.cell? ⟨g, 1, none⟩ = some (.slice A P.length c) ∧ X.cell? ⟨g, 2, none⟩ = some (.int .i64 180) ∧ X.cell? ⟨g, 3, none⟩ = some (.int .i64 60) ∧
    X.cell? ⟨g + 1, 0, none⟩ = some (.slice B O.length d) ∧ X.cell? ⟨g + 1, 1, none⟩ = some (.int .i64 400) ∧ X.cell? ⟨g + 1, 2, none⟩ = some (.int .i64 30) :=
  ⟨(blk_cell h.s 0).trans rfl, (blk_cell h.s 1).trans rfl, (blk_cell h.s 2).trans rfl, (blk_cell h.s 3).trans rfl, (blk_cell h.o 0).trans rfl, (blk_cell h.o 1).trans rfl, (blk_cell h.o 2).trans rfl⟩
theorem c28 {P : List S35} {O : List S99} (hP : P = nmP) (hO : O = nmO) (X : World) : Calls Try.prog 28 #[] X fun e w' => ∃ A c B d, e = .returned (.tuple #[.agg #[.int .i64 1000, .slice A P.length c, .int .i64 180, .int .i64 60], .agg #[.slice B O.length d, .int .i64 400, .int .i64 30]]) ∧
    Aside0 (Kd.C k35 w' A P.length P) ∧ Aside0 (P.length ≤ c) ∧ Aside0 (Kd.C k99 w' B O.length O) ∧ Aside0 (O.length ≤ d) ∧ Below X.heap.size X w' :=
  (palantypelaw01_chamber.calls 1000 P 180 60 O 400 30 X (by rw [hP, hO]; rfl)).mono (fun e w' h => by
    obtain ⟨v, v2, rfl, hR, hS, hb⟩ := h
    obtain ⟨A, c, rfl⟩ := Kd.R_slice hR
    obtain ⟨B, d, rfl⟩ := Kd.R_slice hS
    exact ⟨A, c, B, d, rfl, ⟨(Kd.R_reads' hR).2.2⟩, ⟨(Kd.R_reads' hR).2.1⟩, ⟨(Kd.R_reads' hS).2.2⟩, ⟨(Kd.R_reads' hS).2.1⟩, hb⟩)
theorem reps_ints (W : World) (b : Nat) (ok : Nat → Prop) : ∀ l : List Int, Reps (Kd.M (Kd.int .i64) W b ok) 1 l (l.map (Value.int .i64))
  | [] => Reps.none _ _
  | x :: t => Reps.one (show Kd.M (Kd.int .i64) W b ok x [.int .i64 x] from rfl) (reps_ints W b ok t)
theorem lit_C (l : List Int) (hl : l.length ≤ 1000) (W : World) (g : Nat) (hg : g = W.heap.size) : Kd.C (Kd.int .i64) (W.alloc (.cells (l.map (Value.int .i64)).toArray 3)) (some ⟨g, 0, none⟩) l.length l := by
  subst hg
  have h2 := World.ownsRow_lit (base := 0) (e := 3) (size := 1) W (l.map (Value.int .i64)).toArray l.length (Nat.zero_le _) (by simp [maxLen]; omega) (by simp)
  have hR : Kd.R (Kd.int .i64) 3 (W.alloc (.cells (l.map (Value.int .i64)).toArray 3)) 0 (fun _ => True) (.slice (some ⟨W.heap.size, 0, none⟩) l.length l.length) l :=
    ⟨fun _ _ => trivial, l.map (Value.int .i64), h2, reps_ints _ _ _ l⟩
  exact (Kd.R_reads' hR).2.2
set_option maxRecDepth 100000 in
set_option maxHeartbeats 8000000 in
theorem names_true (w : World) : Calls Try.prog 9 #[] w fun e w' => e = .returned (.bool true) ∧ Below w.heap.size w w' := by
  obtain ⟨P, hP⟩ : ∃ v, v = nmP := ⟨_, rfl⟩
  obtain ⟨O, hO⟩ : ∃ v, v = nmO := ⟨_, rfl⟩
  obtain ⟨tw, htw⟩ : ∃ v, v = nmT := ⟨_, rfl⟩
  obtain ⟨re, hre⟩ : ∃ v, v = nmR := ⟨_, rfl⟩
  obtain ⟨no, hno⟩ : ∃ v, v = nmN := ⟨_, rfl⟩
  obtain ⟨rt, hrt⟩ : ∃ v, v = ([1, 0, 2, 1, 0] : List Int) := ⟨_, rfl⟩
  obtain ⟨r4, hr4⟩ : ∃ v, v = ([1, 0, 2, 1] : List Int) := ⟨_, rfl⟩
  obtain ⟨r0, hr0⟩ : ∃ v, v = ([0, 0, 2, 1, 0] : List Int) := ⟨_, rfl⟩
  obtain ⟨dn, hdn⟩ : ∃ v, v = ([370, 630, 870, 1050, 1150] : List Int) := ⟨_, rfl⟩
  obtain ⟨op, hop⟩ : ∃ v, v = ([2] : List Int) := ⟨_, rfl⟩
  have H28 := Aside0.mk (c28 hP hO w)
  have HLIT : Aside0 (∀ (W : World), Kd.C (Kd.int .i64) (W.alloc (.cells #[.int .i64 1, .int .i64 0, .int .i64 2, .int .i64 1, .int .i64 0] 3)).drew (some ⟨W.heap.size, 0, none⟩) 5 rt) := ⟨fun W => by
    subst hrt
    exact Kd.C_drew (lit_C [1, 0, 2, 1, 0] (by decide) W _ rfl)⟩
  have H15_1 : Aside0 (∀ (X : World) (A1 : Option Addr) (k1 : Nat) (g1 : Kd.C k35 X A1 P.length P) (g2 : P.length ≤ k1), Calls Try.prog 15 #[.agg #[.int .i64 1000, .slice A1 P.length k1, .int .i64 180, .int .i64 60], .int .i64 399] X fun e w' => e = .returned (.tuple #[.int .i64 1, .int .i64 0]) ∧ Below X.heap.size X w') := ⟨fun X A1 k1 g1 g2 => take_At.calls 1000 A1 k1 P 180 60 399 1 0 X g1 g2 (by rw [hP]; exact nm_at1)⟩
  have H15_2 : Aside0 (∀ (X : World) (A1 : Option Addr) (k1 : Nat) (g1 : Kd.C k35 X A1 P.length P) (g2 : P.length ≤ k1), Calls Try.prog 15 #[.agg #[.int .i64 1000, .slice A1 P.length k1, .int .i64 180, .int .i64 60], .int .i64 400] X fun e w' => e = .returned (.tuple #[.int .i64 0, .int .i64 7]) ∧ Below X.heap.size X w') := ⟨fun X A1 k1 g1 g2 => take_At.calls 1000 A1 k1 P 180 60 400 0 7 X g1 g2 (by rw [hP]; exact nm_at2)⟩
  have H15_3 : Aside0 (∀ (X : World) (A1 : Option Addr) (k1 : Nat) (g1 : Kd.C k35 X A1 P.length P) (g2 : P.length ≤ k1), Calls Try.prog 15 #[.agg #[.int .i64 1000, .slice A1 P.length k1, .int .i64 180, .int .i64 60], .int .i64 500] X fun e w' => e = .returned (.tuple #[.int .i64 2, .int .i64 0]) ∧ Below X.heap.size X w') := ⟨fun X A1 k1 g1 g2 => take_At.calls 1000 A1 k1 P 180 60 500 2 0 X g1 g2 (by rw [hP]; exact nm_at3)⟩
  have H15_4 : Aside0 (∀ (X : World) (A1 : Option Addr) (k1 : Nat) (g1 : Kd.C k35 X A1 P.length P) (g2 : P.length ≤ k1), Calls Try.prog 15 #[.agg #[.int .i64 1000, .slice A1 P.length k1, .int .i64 180, .int .i64 60], .int .i64 1000] X fun e w' => e = .returned (.tuple #[.int .i64 0, .int .i64 2]) ∧ Below X.heap.size X w') := ⟨fun X A1 k1 g1 g2 => take_At.calls 1000 A1 k1 P 180 60 1000 0 2 X g1 g2 (by rw [hP]; exact nm_at4)⟩
  have H26 : Aside0 (∀ (X : World) (A1 : Option Addr) (k1 : Nat) (g1 : Kd.C k35 X A1 P.length P) (g2 : P.length ≤ k1) (B1 : Option Addr) (k2 : Nat) (g3 : Kd.C k99 X B1 O.length O) (g4 : O.length ≤ k2) (D1 : Option Addr) (k3 : Nat) (g5 : Kd.C (Kd.int .i64) X D1 rt.length rt) (g6 : rt.length ≤ k3) (E1 : Option Addr) (k4 : Nat) (g7 : Kd.C k71 X E1 re.length re) (g8 : re.length ≤ k4), Calls Try.prog 26 #[.agg #[.int .i64 1000, .slice A1 P.length k1, .int .i64 180, .int .i64 60], .agg #[.slice B1 O.length k2, .int .i64 400, .int .i64 30], .slice D1 rt.length k3, .slice E1 re.length k4] X fun e w' => ∃ Q q, e = .returned (.tuple #[.slice Q dn.length q, .int .i64 0]) ∧ Aside0 (Kd.C (Kd.int .i64) w' Q dn.length dn) ∧ Aside0 (dn.length ≤ q) ∧ Below X.heap.size X w') := ⟨fun X A1 k1 g1 g2 B1 k2 g3 g4 D1 k3 g5 g6 E1 k4 g7 g8 => (done26 1000 A1 k1 P 180 60 B1 k2 O 400 30 D1 k3 rt E1 k4 re X g1 g2 g3 g4 g5 g6 g7 g8 nmW (by rw [hP, hO]; exact nm_w) (by rw [hP, hO]; exact nm_e) (by rw [hrt]; exact nm_li) (by rw [hre, hrt]; rfl) (by subst hrt hre; exact nm_good)).mono (fun e w' h => by
    obtain ⟨v, rfl, hR, hb⟩ := h
    rw [show doneFrom nmW 0 re = dn by rw [hre, hdn]; exact nm_done] at hR
    obtain ⟨Q, q, rfl⟩ := Kd.R_slice hR
    exact ⟨Q, q, rfl, ⟨(Kd.R_reads' hR).2.2⟩, ⟨(Kd.R_reads' hR).2.1⟩, hb⟩)⟩
  have H26r : Aside0 (∀ (X : World) (A1 : Option Addr) (k1 : Nat) (g1 : Kd.C k35 X A1 P.length P) (g2 : P.length ≤ k1) (B1 : Option Addr) (k2 : Nat) (g3 : Kd.C k99 X B1 O.length O) (g4 : O.length ≤ k2) (D1 : Option Addr) (k3 : Nat) (g5 : Kd.C (Kd.int .i64) X D1 r4.length r4) (g6 : r4.length ≤ k3) (V3 : Option Addr) (n3 c3 : Nat), Calls Try.prog 26 #[.agg #[.int .i64 1000, .slice A1 P.length k1, .int .i64 180, .int .i64 60], .agg #[.slice B1 O.length k2, .int .i64 400, .int .i64 30], .slice D1 r4.length k3, .slice V3 n3 c3] X fun e w' => e = .returned (.tuple #[.slice none 0 0, .int .i64 2]) ∧ Below X.heap.size X w') := ⟨fun X A1 k1 g1 g2 B1 k2 g3 g4 D1 k3 g5 g6 V3 n3 c3 => done26_range 1000 A1 k1 P 180 60 B1 k2 O 400 30 D1 k3 r4 V3 n3 c3 X g1 g2 g3 g4 g5 g6 nmW (by rw [hP, hO]; exact nm_w) (by rw [hP, hO]; exact nm_e) (by rw [hr4]; exact nm_li4)⟩
  have H26a : Aside0 (∀ (X : World) (A1 : Option Addr) (k1 : Nat) (g1 : Kd.C k35 X A1 P.length P) (g2 : P.length ≤ k1) (B1 : Option Addr) (k2 : Nat) (g3 : Kd.C k99 X B1 O.length O) (g4 : O.length ≤ k2) (D1 : Option Addr) (k3 : Nat) (g5 : Kd.C (Kd.int .i64) X D1 5 rt) (g6 : 5 ≤ k3) (V3 : Option Addr) (c3 : Nat), Calls Try.prog 26 #[.agg #[.int .i64 1000, .slice A1 P.length k1, .int .i64 180, .int .i64 60], .agg #[.slice B1 O.length k2, .int .i64 400, .int .i64 30], .slice D1 5 k3, .slice V3 4 c3] X fun e w' => e = .returned (.tuple #[.slice none 0 0, .int .i64 1]) ∧ Below X.heap.size X w') := ⟨fun X A1 k1 g1 g2 B1 k2 g3 g4 D1 k3 g5 g6 V3 c3 => by
    subst hrt
    exact done26_arg 1000 A1 k1 P 180 60 B1 k2 O 400 30 D1 k3 [1, 0, 2, 1, 0] V3 4 c3 X g1 g2 g3 g4 g5 g6 nmW (by rw [hP, hO]; exact nm_w) (by rw [hP, hO]; exact nm_e) nm_li (by decide)⟩
  have H27 : Aside0 (∀ (X : World) (A1 : Option Addr) (k1 : Nat) (g1 : Kd.C k35 X A1 P.length P) (g2 : P.length ≤ k1) (B1 : Option Addr) (k2 : Nat) (g3 : Kd.C k99 X B1 O.length O) (g4 : O.length ≤ k2) (D1 : Option Addr) (k3 : Nat) (g5 : Kd.C (Kd.int .i64) X D1 rt.length rt) (g6 : rt.length ≤ k3), Calls Try.prog 27 #[.agg #[.int .i64 1000, .slice A1 P.length k1, .int .i64 180, .int .i64 60], .agg #[.slice B1 O.length k2, .int .i64 400, .int .i64 30], .slice D1 rt.length k3, .int .i64 2, .int .i64 600] X fun e w' => ∃ Q q V u, e = .returned (.tuple #[.slice Q rt.length q, .slice V op.length u, .int .i64 0]) ∧ Aside0 (Kd.C (Kd.int .i64) w' Q rt.length rt) ∧ Aside0 (rt.length ≤ q) ∧ Aside0 (Kd.C (Kd.int .i64) w' V op.length op) ∧ Aside0 (op.length ≤ u) ∧ Below X.heap.size X w') := ⟨fun X A1 k1 g1 g2 B1 k2 g3 g4 D1 k3 g5 g6 => (relieve27 1000 A1 k1 P 180 60 B1 k2 O 400 30 D1 k3 rt 2 600 X g1 g2 g3 g4 g5 g6 nmW (by rw [hP, hO]; exact nm_w) (by rw [hP, hO]; exact nm_e) (by rw [hrt]; exact nm_li) (by rw [hrt]; exact nm_ri) (by decide) (by decide) 3 nm_fr.symm rt (by rw [hrt]; exact nm_rel2.symm)).mono (fun e w' h => by
    rw [show openP nmW rt 2 600 3 = op by rw [hrt, hop]; exact nm_op2] at h
    obtain ⟨hb, ⟨h2, _⟩ | ⟨_, Q, q, V, u, h3, h4, h5, h6, h7⟩⟩ := h
    · rw [hrt] at h2; exact absurd h2 (by decide)
    · exact ⟨Q, q, V, u, h3, h4, h5, h6, h7, hb⟩)⟩
  have H27n : Aside0 (∀ (X : World) (A1 : Option Addr) (k1 : Nat) (g1 : Kd.C k35 X A1 P.length P) (g2 : P.length ≤ k1) (B1 : Option Addr) (k2 : Nat) (g3 : Kd.C k99 X B1 O.length O) (g4 : O.length ≤ k2) (D1 : Option Addr) (k3 : Nat) (g5 : Kd.C (Kd.int .i64) X D1 rt.length rt) (g6 : rt.length ≤ k3), Calls Try.prog 27 #[.agg #[.int .i64 1000, .slice A1 P.length k1, .int .i64 180, .int .i64 60], .agg #[.slice B1 O.length k2, .int .i64 400, .int .i64 30], .slice D1 rt.length k3, .int .i64 1, .int .i64 600] X fun e w' => e = .returned (.tuple #[.slice none 0 0, .slice none 0 0, .int .i64 7]) ∧ Below X.heap.size X w') := ⟨fun X A1 k1 g1 g2 B1 k2 g3 g4 D1 k3 g5 g6 => (relieve27 1000 A1 k1 P 180 60 B1 k2 O 400 30 D1 k3 rt 1 600 X g1 g2 g3 g4 g5 g6 nmW (by rw [hP, hO]; exact nm_w) (by rw [hP, hO]; exact nm_e) (by rw [hrt]; exact nm_li) (by rw [hrt]; exact nm_ri) (by decide) (by decide) 3 nm_fr.symm _ rfl).mono (fun e w' h => by
    obtain ⟨hb, ⟨h2, h3⟩ | ⟨h2, _⟩⟩ := h
    · exact ⟨h3, hb⟩
    · exact absurd (by rw [hrt]; exact nm_rel1) h2)⟩
  have H27f : Aside0 (∀ (X : World) (A1 : Option Addr) (k1 : Nat) (g1 : Kd.C k35 X A1 P.length P) (g2 : P.length ≤ k1) (B1 : Option Addr) (k2 : Nat) (g3 : Kd.C k99 X B1 O.length O) (g4 : O.length ≤ k2) (D1 : Option Addr) (k3 : Nat) (g5 : Kd.C (Kd.int .i64) X D1 r0.length r0) (g6 : r0.length ≤ k3), Calls Try.prog 27 #[.agg #[.int .i64 1000, .slice A1 P.length k1, .int .i64 180, .int .i64 60], .agg #[.slice B1 O.length k2, .int .i64 400, .int .i64 30], .slice D1 r0.length k3, .int .i64 1, .int .i64 600] X fun e w' => e = .returned (.tuple #[.slice none 0 0, .slice none 0 0, .int .i64 9]) ∧ Below X.heap.size X w') := ⟨fun X A1 k1 g1 g2 B1 k2 g3 g4 D1 k3 g5 g6 => relieve27_fail 1000 A1 k1 P 180 60 B1 k2 O 400 30 D1 k3 r0 1 600 X g1 g2 g3 g4 g5 g6 nmW (by rw [hP, hO]; exact nm_w) (by rw [hP, hO]; exact nm_e) (by rw [hr0]; exact nm_li0) (by rw [hr0]; exact nm_ri0)⟩
  have H27r : Aside0 (∀ (X : World) (A1 : Option Addr) (k1 : Nat) (g1 : Kd.C k35 X A1 P.length P) (g2 : P.length ≤ k1) (B1 : Option Addr) (k2 : Nat) (g3 : Kd.C k99 X B1 O.length O) (g4 : O.length ≤ k2) (D1 : Option Addr) (k3 : Nat) (g5 : Kd.C (Kd.int .i64) X D1 rt.length rt) (g6 : rt.length ≤ k3), Calls Try.prog 27 #[.agg #[.int .i64 1000, .slice A1 P.length k1, .int .i64 180, .int .i64 60], .agg #[.slice B1 O.length k2, .int .i64 400, .int .i64 30], .slice D1 rt.length k3, .int .i64 3, .int .i64 600] X fun e w' => e = .returned (.tuple #[.slice none 0 0, .slice none 0 0, .int .i64 2]) ∧ Below X.heap.size X w') := ⟨fun X A1 k1 g1 g2 B1 k2 g3 g4 D1 k3 g5 g6 => relieve27_range 1000 A1 k1 P 180 60 B1 k2 O 400 30 D1 k3 rt 3 600 X g1 g2 g3 g4 g5 g6 nmW (by rw [hP, hO]; exact nm_w) (by rw [hP, hO]; exact nm_e) (by rw [hrt]; exact nm_li) (by rw [hrt]; exact nm_ri) (by decide)⟩
  have H19 : Aside0 (∀ (X : World) (A1 : Option Addr) (k1 : Nat) (g1 : Kd.C k35 X A1 P.length P) (g2 : P.length ≤ k1) (B1 : Option Addr) (k2 : Nat) (g3 : Kd.C k99 X B1 O.length O) (g4 : O.length ≤ k2), Calls Try.prog 19 #[.agg #[.int .i64 1000, .slice A1 P.length k1, .int .i64 180, .int .i64 60], .agg #[.slice B1 O.length k2, .int .i64 400, .int .i64 30]] X fun e w' => e = .returned (.tuple #[.int .i64 0, .int .i64 7]) ∧ Below X.heap.size X w') := ⟨fun X A1 k1 g1 g2 B1 k2 g3 g4 => c19 g1 g2 g3 g4 1000 180 60 400 30 (by rw [hP, hO, ← nm_w, nm_e]; exact nm_f)⟩
  have H19t : Aside0 (∀ (X : World) (A1 : Option Addr) (k1 : Nat) (g1 : Kd.C k35 X A1 P.length P) (g2 : P.length ≤ k1) (B1 : Option Addr) (k2 : Nat) (g3 : Kd.C k99 X B1 2 tw) (g4 : 2 ≤ k2), Calls Try.prog 19 #[.agg #[.int .i64 1000, .slice A1 P.length k1, .int .i64 180, .int .i64 60], .agg #[.slice B1 2 k2, .int .i64 400, .int .i64 30]] X fun e w' => e = .returned (.tuple #[.int .i64 2, .int .i64 0]) ∧ Below X.heap.size X w') := ⟨fun X A1 k1 g1 g2 B1 k2 g3 g4 => by
    subst htw
    exact c19 (O := nmT) g1 g2 g3 g4 1000 180 60 400 30 (by rw [hP, ← nm_v, nm_e2]; exact nm_f2)⟩
  have H17t : Aside0 (∀ (X : World) (A1 : Option Addr) (k1 : Nat) (g1 : Kd.C k35 X A1 P.length P) (g2 : P.length ≤ k1) (B1 : Option Addr) (k2 : Nat) (g3 : Kd.C k99 X B1 2 tw) (g4 : 2 ≤ k2), Calls Try.prog 17 #[.agg #[.int .i64 1000, .slice A1 P.length k1, .int .i64 180, .int .i64 60], .agg #[.slice B1 2 k2, .int .i64 400, .int .i64 30]] X fun e w' => ∃ Q q, e = .returned (.tuple #[.slice Q 0 q, .int .i64 9]) ∧ Below X.heap.size X w') := ⟨fun X A1 k1 g1 g2 B1 k2 g3 g4 => by
    subst htw
    exact (c17 (O := nmT) g1 g2 g3 g4 1000 180 60 400 30 (r := []) (e0 := 9) (by rw [hP, ← nm_v, nm_e2]; exact nm_r2)).mono (fun e w' h => by
    obtain ⟨Q, q, rfl, _, _, hb⟩ := h
    exact ⟨Q, q, rfl, hb⟩)⟩
  have H12 : Aside0 (∀ (X : World) (A1 : Option Addr) (k1 : Nat) (g1 : Kd.C k35 X A1 no.length no) (g2 : no.length ≤ k1), Calls Try.prog 12 #[.agg #[.int .i64 1000, .slice A1 no.length k1, .int .i64 180, .int .i64 60]] X fun e w' => ∃ Q q, e = .returned (.tuple #[.slice Q 0 q, .int .i64 0]) ∧ Below X.heap.size X w') := ⟨fun X A1 k1 g1 g2 => (c12 g1 g2 1000 180 60 (T := []) (e0 := 0) (by rw [hno]; exact nm_none)).mono (fun e w' h => by
    obtain ⟨Q, q, rfl, _, _, hb⟩ := h
    exact ⟨Q, q, rfl, hb⟩)⟩
  have H17n : Aside0 (∀ (X : World) (A1 : Option Addr) (k1 : Nat) (g1 : Kd.C k35 X A1 no.length no) (g2 : no.length ≤ k1) (B1 : Option Addr) (k2 : Nat) (g3 : Kd.C k99 X B1 2 tw) (g4 : 2 ≤ k2), Calls Try.prog 17 #[.agg #[.int .i64 1000, .slice A1 no.length k1, .int .i64 180, .int .i64 60], .agg #[.slice B1 2 k2, .int .i64 400, .int .i64 30]] X fun e w' => ∃ Q q, e = .returned (.tuple #[.slice Q 0 q, .int .i64 0]) ∧ Below X.heap.size X w') := ⟨fun X A1 k1 g1 g2 B1 k2 g3 g4 => by
    subst htw
    exact (c17 (O := nmT) g1 g2 g3 g4 1000 180 60 400 30 (r := []) (e0 := 0) (by rw [hno]; exact nm_rn)).mono (fun e w' h => by
    obtain ⟨Q, q, rfl, _, _, hb⟩ := h
    exact ⟨Q, q, rfl, hb⟩)⟩
  have H30 : Aside0 (∀ (X : World) (A1 : Option Addr) (k1 : Nat) (g1 : Kd.C k35 X A1 P.length P) (g2 : P.length ≤ k1), Calls Try.prog 30 #[.agg #[.int .i64 1000, .slice A1 P.length k1, .int .i64 20, .int .i64 20]] X fun e w' => e = .returned (.int .i64 3) ∧ Below X.heap.size X w') := ⟨fun X A1 k1 g1 g2 => take_CheckSitting.calls 1000 A1 k1 P 20 20 3 X g1 g2 (by rw [hP]; exact nm_long)⟩
  have H30z : Aside0 (∀ (X : World), Calls Try.prog 30 #[.agg #[.int .i64 0, .slice none 0 0, .int .i64 0, .int .i64 0]] X fun e w' => e = .returned (.int .i64 1) ∧ Below X.heap.size X w') := ⟨fun X => take_CheckSitting.calls 0 none 0 [] 0 0 1 X (Kd.C_nil _ _) (Nat.le_refl _) nm_s0⟩
  have H31z : Aside0 (∀ (X : World), Calls Try.prog 31 #[.agg #[.slice none 0 0, .int .i64 0, .int .i64 0]] X fun e w' => e = .returned (.int .i64 1) ∧ Below X.heap.size X w') := ⟨fun X => take_CheckOffice.calls none 0 [] 0 0 1 X (Kd.C_nil _ _) (Nat.le_refl _) nm_o0⟩
  have H29d : Aside0 (∀ (X : World) (A1 : Option Addr) (k1 : Nat) (g1 : Kd.C (Kd.int .i64) X A1 dn.length dn) (g2 : dn.length ≤ k1) (B1 : Option Addr) (k2 : Nat) (g3 : Kd.C (Kd.int .i64) X B1 dn.length dn) (g4 : dn.length ≤ k2), Calls Try.prog 29 #[.slice A1 dn.length k1, .slice B1 dn.length k2] X fun e w' => e = .returned (.bool true) ∧ Drawn0 X w') := ⟨fun X A1 k1 g1 g2 B1 k2 g3 g4 => palantypelaw01_ints.calls 10 A1 k1 dn B1 k2 dn true X g1 g2 g3 g4 (by subst hdn; kernel_rfl)⟩
  have H29r : Aside0 (∀ (X : World) (A1 : Option Addr) (k1 : Nat) (g1 : Kd.C (Kd.int .i64) X A1 rt.length rt) (g2 : rt.length ≤ k1) (B1 : Option Addr) (k2 : Nat) (g3 : Kd.C (Kd.int .i64) X B1 rt.length rt) (g4 : rt.length ≤ k2), Calls Try.prog 29 #[.slice A1 rt.length k1, .slice B1 rt.length k2] X fun e w' => e = .returned (.bool true) ∧ Drawn0 X w') := ⟨fun X A1 k1 g1 g2 B1 k2 g3 g4 => palantypelaw01_ints.calls 10 A1 k1 rt B1 k2 rt true X g1 g2 g3 g4 (by subst hrt; kernel_rfl)⟩
  have H29o : Aside0 (∀ (X : World) (A1 : Option Addr) (k1 : Nat) (g1 : Kd.C (Kd.int .i64) X A1 op.length op) (g2 : op.length ≤ k1) (B1 : Option Addr) (k2 : Nat) (g3 : Kd.C (Kd.int .i64) X B1 op.length op) (g4 : op.length ≤ k2), Calls Try.prog 29 #[.slice A1 op.length k1, .slice B1 op.length k2] X fun e w' => e = .returned (.bool true) ∧ Drawn0 X w') := ⟨fun X A1 k1 g1 g2 B1 k2 g3 g4 => palantypelaw01_ints.calls 10 A1 k1 op B1 k2 op true X g1 g2 g3 g4 (by subst hop; kernel_rfl)⟩
  have HLEN := Aside0.mk (show rt.length = 5 ∧ re.length = 5 ∧ O.length = 3 ∧ tw = O.take 2 ∧ tw.length = 2 ∧ no.length = 1 ∧ dn.length = 5 ∧ op.length = 1 ∧ r4.length = 4 ∧ r0.length = 5 from by subst hrt hre hO htw hno hdn hop hr4 hr0; exact ⟨rfl, rfl, rfl, rfl, rfl, rfl, rfl, rfl, rfl, rfl⟩)
  have NP := Aside0.mk hP
  have NO := Aside0.mk hO
  have Ntw := Aside0.mk htw
  have Nre := Aside0.mk hre
  have Nno := Aside0.mk hno
  have Nrt := Aside0.mk hrt
  have Nr4 := Aside0.mk hr4
  have Nr0 := Aside0.mk hr0
  have Ndn := Aside0.mk hdn
  have Nop := Aside0.mk hop
  clear hP hO htw hre hno hrt hr4 hr0 hdn hop
  go_enter Try.func9, Try.ntmps9
  go_upto_region 2 with (go_at_call 28; (with_reducible refine H28.out.mono ?_); rintro e x0 ⟨A, c, B, d, rfl, HA, HKA, HB, HKB, hb⟩; have Hb := Aside0.mk hb; clear hb)
  have HF0 := Aside0.mk (Cb.start (c := c) (d := d) Hb.out HA.out HB.out)
  clear HA HB
  obtain ⟨u0, u1, u2, u3, u4, u5, u6⟩ := HF0.out.cells
  go_upto_region 3 with (go_at_call 15; (with_reducible refine (H15_1.out _ _ _ HF0.out.p HKA.out).mono ?_); rintro e x ⟨rfl, hb⟩; have HF1 := Aside0.mk (HF0.out.below hb); clear hb)
  clear u0 u1 u2 u3 u4 u5 u6
  obtain ⟨u0, u1, u2, u3, u4, u5, u6⟩ := HF1.out.cells
  go_upto_region 4 with (go_at_call 15; (with_reducible refine (H15_2.out _ _ _ HF1.out.p HKA.out).mono ?_); rintro e x ⟨rfl, hb⟩; have HF2 := Aside0.mk (HF1.out.below hb); clear hb)
  clear u0 u1 u2 u3 u4 u5 u6
  obtain ⟨u0, u1, u2, u3, u4, u5, u6⟩ := HF2.out.cells
  go_upto_region 5 with (go_at_call 15; (with_reducible refine (H15_3.out _ _ _ HF2.out.p HKA.out).mono ?_); rintro e x ⟨rfl, hb⟩; have HF3 := Aside0.mk (HF2.out.below hb); clear hb)
  clear u0 u1 u2 u3 u4 u5 u6
  obtain ⟨u0, u1, u2, u3, u4, u5, u6⟩ := HF3.out.cells
  go_upto_region 6 with (first | ((with_reducible refine gate_dst (N := 67) rfl ?_); (try (refine gate_guard (by rfl) ?_; dsimp only)); refine Kd.R_lit k71 _ 71 ?hg (N := 67) ?hd (xs := (nmR)) (inner := [.int .i64 1, .int .i64 10, .int .i64 1, .int .i64 10, .int .i64 1, .int .i64 10, .int .i64 1, .int .i64 10, .int .i64 1, .int .i64 10]) (ok := fun _ => True) (okp := fun _ => True) ?hr ?hp (fun _ hk => hk) trivial (Below.refl _ _) (Nat.le_refl _) (by decide) ?_; (case hd => rfl); (case hg => rfl); (case hr => first | (go_simp; done) | (go_simp; rfl)); (case hp => exact (Reps.c2 (show Kd.M k71 _ _ _ (⟨1, 10⟩ : S71) [.int .i64 1, .int .i64 10] from (k71_mkM _ _ _ (⟨1, 10⟩ : S71))) (Reps.c2 (show Kd.M k71 _ _ _ (⟨1, 10⟩ : S71) [.int .i64 1, .int .i64 10] from (k71_mkM _ _ _ (⟨1, 10⟩ : S71))) (Reps.c2 (show Kd.M k71 _ _ _ (⟨1, 10⟩ : S71) [.int .i64 1, .int .i64 10] from (k71_mkM _ _ _ (⟨1, 10⟩ : S71))) (Reps.c2 (show Kd.M k71 _ _ _ (⟨1, 10⟩ : S71) [.int .i64 1, .int .i64 10] from (k71_mkM _ _ _ (⟨1, 10⟩ : S71))) (Reps.c2 (show Kd.M k71 _ _ _ (⟨1, 10⟩ : S71) [.int .i64 1, .int .i64 10] from (k71_mkM _ _ _ (⟨1, 10⟩ : S71))) (Reps.none _ _))))))); intro v x ho hb hg_ hnew_; clear hg_ hnew_; rw [show (nmR) = re from Nre.out.symm] at ho; obtain ⟨LE, lE, rfl⟩ := Kd.R_slice ho; have HLE := Aside0.mk (Kd.R_reads' ho).2.2; have HME := Aside0.mk (Kd.R_reads' ho).2.1; have HRE := Aside0.mk ho; have HF4 := Aside0.mk (HF3.out.below hb); have HBL := Aside0.mk hb; clear ho hb))
  have HF4' := Aside0.mk (HF4.out.add (fun X => Kd.C k71 X LE re.length re) HLE.out)
  clear HF4; have HF4 := HF4'
  clear u0 u1 u2 u3 u4 u5 u6
  obtain ⟨u0, u1, u2, u3, u4, u5, u6⟩ := HF4.out.cells
  go_upto_region 7 with (first | ((with_reducible refine gate_dst (N := 71) rfl ?_); (try (refine gate_guard (by rfl) ?_; dsimp only)); refine Kd.R_lit (Kd.int .i64) _ 3 ?hg (N := 71) ?hd (xs := ([1, 0, 2, 1, 0] : List Int)) (inner := [.int .i64 1, .int .i64 0, .int .i64 2, .int .i64 1, .int .i64 0]) (ok := fun _ => True) (okp := fun _ => True) ?hr ?hp (fun _ hk => hk) trivial (Below.refl _ _) (Nat.le_refl _) (by decide) ?_; (case hd => rfl); (case hg => rfl); (case hr => first | (go_simp; done) | (go_simp; rfl)); (case hp => exact (Reps.one (show Kd.M (Kd.int .i64) _ _ _ 1 [.int .i64 1] from rfl) (Reps.one (show Kd.M (Kd.int .i64) _ _ _ 0 [.int .i64 0] from rfl) (Reps.one (show Kd.M (Kd.int .i64) _ _ _ 2 [.int .i64 2] from rfl) (Reps.one (show Kd.M (Kd.int .i64) _ _ _ 1 [.int .i64 1] from rfl) (Reps.one (show Kd.M (Kd.int .i64) _ _ _ 0 [.int .i64 0] from rfl) (Reps.none _ _))))))); intro v x ho hb hg_ hnew_; clear hg_ hnew_; rw [show ([1, 0, 2, 1, 0] : List Int) = rt from Nrt.out.symm] at ho; obtain ⟨La, la, rfl⟩ := Kd.R_slice ho; have HLa := Aside0.mk (Kd.R_reads' ho).2.2; have HMa := Aside0.mk (Kd.R_reads' ho).2.1; have HRa := Aside0.mk ho; have HF5 := Aside0.mk (HF4.out.below hb); have HBL := Aside0.mk hb; clear ho hb) | (go_at_call 26; (with_reducible refine (H26.out _ _ _ HF5.out.p HKA.out _ _ HF5.out.q HKB.out _ _ HLa.out HMa.out _ _ HF5.out.k HME.out).mono ?_); rintro e x ⟨Q, q, rfl, HQ, HKQ, hb⟩; have HF6 := Aside0.mk (HF5.out.below hb); clear hb))
  have HG := Aside0.mk (HF6.out.add (fun X => Kd.C k71 X LE re.length re ∧ Kd.C (Kd.int .i64) X Q dn.length dn) ⟨HF6.out.k, HQ.out⟩)
  clear HF6
  have HF6 := HG
  clear HG
  clear HLa HMa HQ
  clear u0 u1 u2 u3 u4 u5 u6
  obtain ⟨u0, u1, u2, u3, u4, u5, u6⟩ := HF6.out.cells
  go_upto_region 8 with (first | ((with_reducible refine gate_dst (N := 79) rfl ?_); (try (refine gate_guard (by rfl) ?_; dsimp only)); refine Kd.R_lit (Kd.int .i64) _ 3 ?hg (N := 79) ?hd (xs := ([1, 0, 2, 1, 0] : List Int)) (inner := [.int .i64 1, .int .i64 0, .int .i64 2, .int .i64 1, .int .i64 0]) (ok := fun _ => True) (okp := fun _ => True) ?hr ?hp (fun _ hk => hk) trivial (Below.refl _ _) (Nat.le_refl _) (by decide) ?_; (case hd => rfl); (case hg => rfl); (case hr => first | (go_simp; done) | (go_simp; rfl)); (case hp => exact (Reps.one (show Kd.M (Kd.int .i64) _ _ _ 1 [.int .i64 1] from rfl) (Reps.one (show Kd.M (Kd.int .i64) _ _ _ 0 [.int .i64 0] from rfl) (Reps.one (show Kd.M (Kd.int .i64) _ _ _ 2 [.int .i64 2] from rfl) (Reps.one (show Kd.M (Kd.int .i64) _ _ _ 1 [.int .i64 1] from rfl) (Reps.one (show Kd.M (Kd.int .i64) _ _ _ 0 [.int .i64 0] from rfl) (Reps.none _ _))))))); intro v x ho hb hg_ hnew_; clear hg_ hnew_; rw [show ([1, 0, 2, 1, 0] : List Int) = rt from Nrt.out.symm] at ho; obtain ⟨Lb, lb, rfl⟩ := Kd.R_slice ho; have HLb := Aside0.mk (Kd.R_reads' ho).2.2; have HMb := Aside0.mk (Kd.R_reads' ho).2.1; have HRb := Aside0.mk ho; have HF7 := Aside0.mk (HF6.out.below hb); have HBL := Aside0.mk hb; clear ho hb) | (go_at_call 27; (with_reducible refine (H27.out _ _ _ HF7.out.p HKA.out _ _ HF7.out.q HKB.out _ _ HLb.out HMb.out).mono ?_); rintro e x ⟨Q2, q2, V, u, rfl, HQ2, HKQ2, HV, HKV, hb⟩; have HF8 := Aside0.mk (HF7.out.below hb); clear hb))
  have HG := Aside0.mk (HF8.out.add (fun X => (Kd.C k71 X LE re.length re ∧ Kd.C (Kd.int .i64) X Q dn.length dn) ∧ Kd.C (Kd.int .i64) X Q2 rt.length rt ∧ Kd.C (Kd.int .i64) X V op.length op) ⟨HF8.out.k, HQ2.out, HV.out⟩)
  clear HF8
  have HF8 := HG
  clear HG
  clear HLb HMb HQ2 HV
  clear u0 u1 u2 u3 u4 u5 u6
  obtain ⟨u0, u1, u2, u3, u4, u5, u6⟩ := HF8.out.cells
  go_upto_region 9 with (first | ((with_reducible refine gate_dst (N := 87) rfl ?_); (try (refine gate_guard (by rfl) ?_; dsimp only)); refine Kd.R_lit (Kd.int .i64) _ 3 ?hg (N := 87) ?hd (xs := ([1, 0, 2, 1, 0] : List Int)) (inner := [.int .i64 1, .int .i64 0, .int .i64 2, .int .i64 1, .int .i64 0]) (ok := fun _ => True) (okp := fun _ => True) ?hr ?hp (fun _ hk => hk) trivial (Below.refl _ _) (Nat.le_refl _) (by decide) ?_; (case hd => rfl); (case hg => rfl); (case hr => first | (go_simp; done) | (go_simp; rfl)); (case hp => exact (Reps.one (show Kd.M (Kd.int .i64) _ _ _ 1 [.int .i64 1] from rfl) (Reps.one (show Kd.M (Kd.int .i64) _ _ _ 0 [.int .i64 0] from rfl) (Reps.one (show Kd.M (Kd.int .i64) _ _ _ 2 [.int .i64 2] from rfl) (Reps.one (show Kd.M (Kd.int .i64) _ _ _ 1 [.int .i64 1] from rfl) (Reps.one (show Kd.M (Kd.int .i64) _ _ _ 0 [.int .i64 0] from rfl) (Reps.none _ _))))))); intro v x ho hb hg_ hnew_; clear hg_ hnew_; rw [show ([1, 0, 2, 1, 0] : List Int) = rt from Nrt.out.symm] at ho; obtain ⟨Lc, lc, rfl⟩ := Kd.R_slice ho; have HLc := Aside0.mk (Kd.R_reads' ho).2.2; have HMc := Aside0.mk (Kd.R_reads' ho).2.1; have HRc := Aside0.mk ho; have HF9 := Aside0.mk (HF8.out.below hb); have HBL := Aside0.mk hb; clear ho hb) | (go_at_call 27; (with_reducible refine (H27n.out _ _ _ HF9.out.p HKA.out _ _ HF9.out.q HKB.out _ _ HLc.out HMc.out).mono ?_); rintro e x ⟨rfl, hb⟩; have HF10 := Aside0.mk (HF9.out.below hb); clear hb))
  clear HLc HMc
  clear u0 u1 u2 u3 u4 u5 u6
  obtain ⟨u0, u1, u2, u3, u4, u5, u6⟩ := HF10.out.cells
  go_upto_region 11 with (first
    | ((with_reducible refine gate_dst (N := 116) rfl ?_); (try (refine gate_guard (by rfl) ?_; dsimp only)); refine Kd.R_lit (Kd.int .i64) _ 3 ?hg (N := 116) ?hd (xs := ([370, 630, 870, 1050, 1150] : List Int)) (inner := [.int .i64 370, .int .i64 630, .int .i64 870, .int .i64 1050, .int .i64 1150]) (ok := fun _ => True) (okp := fun _ => True) ?hr ?hp (fun _ hk => hk) trivial (Below.refl _ _) (Nat.le_refl _) (by decide) ?_; (case hd => rfl); (case hg => rfl); (case hr => first | (go_simp; done) | (go_simp; rfl)); (case hp => exact (Reps.one (show Kd.M (Kd.int .i64) _ _ _ 370 [.int .i64 370] from rfl) (Reps.one (show Kd.M (Kd.int .i64) _ _ _ 630 [.int .i64 630] from rfl) (Reps.one (show Kd.M (Kd.int .i64) _ _ _ 870 [.int .i64 870] from rfl) (Reps.one (show Kd.M (Kd.int .i64) _ _ _ 1050 [.int .i64 1050] from rfl) (Reps.one (show Kd.M (Kd.int .i64) _ _ _ 1150 [.int .i64 1150] from rfl) (Reps.none _ _))))))); intro v x ho hb hg_ hnew_; clear hg_ hnew_; rw [show ([370, 630, 870, 1050, 1150] : List Int) = dn from Ndn.out.symm] at ho; obtain ⟨Ld, ld, rfl⟩ := Kd.R_slice ho; have HLd := Aside0.mk (Kd.R_reads' ho).2.2; have HMd := Aside0.mk (Kd.R_reads' ho).2.1; have HRd := Aside0.mk ho; have HF11 := Aside0.mk (HF10.out.below hb); have HBL := Aside0.mk hb; clear ho hb)
    | (go_at_call 29; (with_reducible refine (H29d.out _ _ _ HF11.out.k.1.2 HKQ.out _ _ HLd.out HMd.out).mono ?_); rintro e x ⟨rfl, ⟨nd, rfl⟩⟩; have HF12 := Aside0.mk (HF11.out.below (pw_below_drewN (Below.refl _ _) nd)))
    | ((with_reducible refine gate_dst (N := 126) rfl ?_); (try (refine gate_guard (by rfl) ?_; dsimp only)); refine Kd.R_lit (Kd.int .i64) _ 3 ?hg (N := 126) ?hd (xs := ([1, 0, 2, 1, 0] : List Int)) (inner := [.int .i64 1, .int .i64 0, .int .i64 2, .int .i64 1, .int .i64 0]) (ok := fun _ => True) (okp := fun _ => True) ?hr ?hp (fun _ hk => hk) trivial (Below.refl _ _) (Nat.le_refl _) (by decide) ?_; (case hd => rfl); (case hg => rfl); (case hr => first | (go_simp; done) | (go_simp; rfl)); (case hp => exact (Reps.one (show Kd.M (Kd.int .i64) _ _ _ 1 [.int .i64 1] from rfl) (Reps.one (show Kd.M (Kd.int .i64) _ _ _ 0 [.int .i64 0] from rfl) (Reps.one (show Kd.M (Kd.int .i64) _ _ _ 2 [.int .i64 2] from rfl) (Reps.one (show Kd.M (Kd.int .i64) _ _ _ 1 [.int .i64 1] from rfl) (Reps.one (show Kd.M (Kd.int .i64) _ _ _ 0 [.int .i64 0] from rfl) (Reps.none _ _))))))); intro v x ho hb hg_ hnew_; clear hg_ hnew_; rw [show ([1, 0, 2, 1, 0] : List Int) = rt from Nrt.out.symm] at ho; obtain ⟨Lf, lf, rfl⟩ := Kd.R_slice ho; have HLf := Aside0.mk (Kd.R_reads' ho).2.2; have HMf := Aside0.mk (Kd.R_reads' ho).2.1; have HRf := Aside0.mk ho; have HF13 := Aside0.mk (HF12.out.below hb); have HBL := Aside0.mk hb; clear ho hb)
    | (go_at_call 29; (with_reducible refine (H29r.out _ _ _ HF13.out.k.2.1 HKQ2.out _ _ HLf.out HMf.out).mono ?_); rintro e x ⟨rfl, ⟨nd, rfl⟩⟩; have HF14 := Aside0.mk (HF13.out.below (pw_below_drewN (Below.refl _ _) nd)))
    | ((with_reducible refine gate_dst (N := 132) rfl ?_); (try (refine gate_guard (by rfl) ?_; dsimp only)); refine Kd.R_lit (Kd.int .i64) _ 3 ?hg (N := 132) ?hd (xs := ([2] : List Int)) (inner := [.int .i64 2]) (ok := fun _ => True) (okp := fun _ => True) ?hr ?hp (fun _ hk => hk) trivial (Below.refl _ _) (Nat.le_refl _) (by decide) ?_; (case hd => rfl); (case hg => rfl); (case hr => first | (go_simp; done) | (go_simp; rfl)); (case hp => exact (Reps.one (show Kd.M (Kd.int .i64) _ _ _ 2 [.int .i64 2] from rfl) (Reps.none _ _))); intro v x ho hb hg_ hnew_; clear hg_ hnew_; rw [show ([2] : List Int) = op from Nop.out.symm] at ho; obtain ⟨Lg, lg, rfl⟩ := Kd.R_slice ho; have HLg := Aside0.mk (Kd.R_reads' ho).2.2; have HMg := Aside0.mk (Kd.R_reads' ho).2.1; have HRg := Aside0.mk ho; have HF15 := Aside0.mk (HF14.out.below hb); have HBL := Aside0.mk hb; clear ho hb)
    | (go_at_call 29; (with_reducible refine (H29o.out _ _ _ HF15.out.k.2.2 HKV.out _ _ HLg.out HMg.out).mono ?_); rintro e x ⟨rfl, ⟨nd, rfl⟩⟩; have HF16 := Aside0.mk (HF15.out.below (pw_below_drewN (Below.refl _ _) nd))))
  clear HLd HMd HLf HMf HLg HMg
  clear u0 u1 u2 u3 u4 u5 u6
  obtain ⟨u0, u1, u2, u3, u4, u5, u6⟩ := HF16.out.cells
  go_upto_region 12 with (first | (go_at_call 19; (with_reducible refine (H19.out _ _ _ HF16.out.p HKA.out _ _ HF16.out.q HKB.out).mono ?_); rintro e xt ⟨rfl, hb⟩; have HF17 := Aside0.mk (HF16.out.below hb); clear hb))
  clear u0 u1 u2 u3 u4 u5 u6
  obtain ⟨u0, u1, u2, u3, u4, u5, u6⟩ := HF17.out.cells
  have hd3 : O.length = 3 := HLEN.out.2.2.1
  have hd2 : 2 ≤ d := by have := HKB.out; omega
  have HD3 := Aside0.mk hd3
  clear hd3
  go_upto_region 14 with fail
  have HCT := Aside0.mk (show Kd.C k99 xt B 2 tw from by
    have h9 := Kd.C_take (m := 2) HF17.out.q (by have := HLEN.out.2.2.1; omega)
    rw [← HLEN.out.2.2.2.1, HLEN.out.2.2.2.2.1] at h9
    exact h9)
  have HF18 := Aside0.mk ((HF17.out.below (below_alloc (Below.refl _ _) _)).add (fun X => ((Kd.C k71 X LE re.length re ∧ Kd.C (Kd.int .i64) X Q dn.length dn) ∧ Kd.C (Kd.int .i64) X Q2 rt.length rt ∧ Kd.C (Kd.int .i64) X V op.length op) ∧ X.heap[xt.heap.size]? = some (.cells #[.slice B 2 d, .int .i64 400, .int .i64 30] 52 (0, 0)) ∧ Kd.C k99 X B 2 tw) ⟨(HF17.out.below (below_alloc (Below.refl _ _) _)).k, heap_alloc_new xt (.cells #[.slice B 2 d, .int .i64 400, .int .i64 30] 52), Kd.C_alloc HCT.out _⟩)
  clear HCT
  clear u0 u1 u2 u3 u4 u5 u6
  obtain ⟨u0, u1, u2, u3, u4, u5, u6⟩ := HF18.out.cells
  skip
  have v0 := (blk_cell HF18.out.k.2.1 0).trans rfl
  have v1 := (blk_cell HF18.out.k.2.1 1).trans rfl
  have v2 := (blk_cell HF18.out.k.2.1 2).trans rfl
  go_upto_region 15 with (first | (go_at_call 19; (with_reducible refine (H19t.out _ _ _ HF18.out.p HKA.out _ _ HF18.out.k.2.2 hd2).mono ?_); rintro e x ⟨rfl, hb⟩; have HF19 := Aside0.mk (HF18.out.below hb); clear hb))
  clear u0 u1 u2 u3 u4 u5 u6
  obtain ⟨u0, u1, u2, u3, u4, u5, u6⟩ := HF19.out.cells
  (try clear v0 v1 v2)
  have v0 := (blk_cell HF19.out.k.2.1 0).trans rfl
  have v1 := (blk_cell HF19.out.k.2.1 1).trans rfl
  have v2 := (blk_cell HF19.out.k.2.1 2).trans rfl
  go_upto_region 16 with (first | (go_at_call 17; (with_reducible refine (H17t.out _ _ _ HF19.out.p HKA.out _ _ HF19.out.k.2.2 hd2).mono ?_); rintro e x ⟨Q3, q3, rfl, hb⟩; have HF20 := Aside0.mk (HF19.out.below hb); clear hb))
  clear u0 u1 u2 u3 u4 u5 u6
  obtain ⟨u0, u1, u2, u3, u4, u5, u6⟩ := HF20.out.cells
  (try clear v0 v1 v2)
  have v0 := (blk_cell HF20.out.k.2.1 0).trans rfl
  have v1 := (blk_cell HF20.out.k.2.1 1).trans rfl
  have v2 := (blk_cell HF20.out.k.2.1 2).trans rfl
  go_upto_region 17 with (first | (go_at_call 15; (with_reducible refine (H15_4.out _ _ _ HF20.out.p HKA.out).mono ?_); rintro e x ⟨rfl, hb⟩; have HF21 := Aside0.mk (HF20.out.below hb); clear hb))
  clear u0 u1 u2 u3 u4 u5 u6
  obtain ⟨u0, u1, u2, u3, u4, u5, u6⟩ := HF21.out.cells
  (try clear v0 v1 v2)
  have v0 := (blk_cell HF21.out.k.2.1 0).trans rfl
  have v1 := (blk_cell HF21.out.k.2.1 1).trans rfl
  have v2 := (blk_cell HF21.out.k.2.1 2).trans rfl
  go_upto_region 18 with (first | ((with_reducible refine gate_dst (N := 171) rfl ?_); (try (refine gate_guard (by rfl) ?_; dsimp only)); refine Kd.R_lit (Kd.int .i64) _ 3 ?hg (N := 171) ?hd (xs := ([1, 0, 2, 1] : List Int)) (inner := [.int .i64 1, .int .i64 0, .int .i64 2, .int .i64 1]) (ok := fun _ => True) (okp := fun _ => True) ?hr ?hp (fun _ hk => hk) trivial (Below.refl _ _) (Nat.le_refl _) (by decide) ?_; (case hd => rfl); (case hg => rfl); (case hr => first | (go_simp; done) | (go_simp; rfl)); (case hp => exact (Reps.one (show Kd.M (Kd.int .i64) _ _ _ 1 [.int .i64 1] from rfl) (Reps.one (show Kd.M (Kd.int .i64) _ _ _ 0 [.int .i64 0] from rfl) (Reps.one (show Kd.M (Kd.int .i64) _ _ _ 2 [.int .i64 2] from rfl) (Reps.one (show Kd.M (Kd.int .i64) _ _ _ 1 [.int .i64 1] from rfl) (Reps.none _ _)))))); intro v x ho hb hg_ hnew_; clear hg_ hnew_; rw [show ([1, 0, 2, 1] : List Int) = r4 from Nr4.out.symm] at ho; obtain ⟨Lh, lh, rfl⟩ := Kd.R_slice ho; have HLh := Aside0.mk (Kd.R_reads' ho).2.2; have HMh := Aside0.mk (Kd.R_reads' ho).2.1; have HRh := Aside0.mk ho; have HF22 := Aside0.mk (HF21.out.below hb); have HBL := Aside0.mk hb; clear ho hb) | (go_at_call 26; (with_reducible refine (H26r.out _ _ _ HF22.out.p HKA.out _ _ HF22.out.q HKB.out _ _ HLh.out HMh.out _ _ _).mono ?_); rintro e x ⟨rfl, hb⟩; have HF23 := Aside0.mk (HF22.out.below hb); clear hb))
  clear HLh HMh
  clear u0 u1 u2 u3 u4 u5 u6
  obtain ⟨u0, u1, u2, u3, u4, u5, u6⟩ := HF23.out.cells
  (try clear v0 v1 v2)
  have v0 := (blk_cell HF23.out.k.2.1 0).trans rfl
  have v1 := (blk_cell HF23.out.k.2.1 1).trans rfl
  have v2 := (blk_cell HF23.out.k.2.1 2).trans rfl
  have hk4 : 4 ≤ lE := by have := HME.out; have := HLEN.out.2.1; omega
  have hk5 : (4 : Int) ≤ (lE : Int) := by omega
  have HF24 := Aside0.mk (fun o => HF23.out.below (below_drew (below_alloc (Below.refl _ _) o)))
  go_wp2_with fail
  go_region_held3 (fun Y : World => Y.cell? ⟨x0.heap.size, 0, none⟩ = some (.int .i64 1000) ∧ Y.cell? ⟨x0.heap.size, 1, none⟩ = some (.slice A P.length c) ∧ Y.cell? ⟨x0.heap.size, 2, none⟩ = some (.int .i64 180) ∧ Y.cell? ⟨x0.heap.size, 3, none⟩ = some (.int .i64 60) ∧ Y.cell? ⟨x0.heap.size + 1, 0, none⟩ = some (.slice B O.length d) ∧ Y.cell? ⟨x0.heap.size + 1, 1, none⟩ = some (.int .i64 400) ∧ Y.cell? ⟨x0.heap.size + 1, 2, none⟩ = some (.int .i64 30)) (first | exact HF25.out.cells | exact (HF24.out _).cells | go_keep) (first
    | (go_at_call 26; (with_reducible refine (H26a.out _ _ _ (HF24.out _).p HKA.out _ _ (HF24.out _).q HKB.out _ _ (HLIT.out _) (Nat.le_refl 5) _ _).mono ?_); rintro e x ⟨rfl, hb⟩; have HF25 := Aside0.mk ((HF24.out _).below hb); clear hb))
  clear u0 u1 u2 u3 u4 u5 u6
  obtain ⟨u0, u1, u2, u3, u4, u5, u6⟩ := HF25.out.cells
  (try clear v0 v1 v2)
  have v0 := (blk_cell HF25.out.k.2.1 0).trans rfl
  have v1 := (blk_cell HF25.out.k.2.1 1).trans rfl
  have v2 := (blk_cell HF25.out.k.2.1 2).trans rfl
  go_upto_region 20 with (first | ((with_reducible refine gate_dst (N := 188) rfl ?_); (try (refine gate_guard (by rfl) ?_; dsimp only)); refine Kd.R_lit (Kd.int .i64) _ 3 ?hg (N := 188) ?hd (xs := ([0, 0, 2, 1, 0] : List Int)) (inner := [.int .i64 0, .int .i64 0, .int .i64 2, .int .i64 1, .int .i64 0]) (ok := fun _ => True) (okp := fun _ => True) ?hr ?hp (fun _ hk => hk) trivial (Below.refl _ _) (Nat.le_refl _) (by decide) ?_; (case hd => rfl); (case hg => rfl); (case hr => first | (go_simp; done) | (go_simp; rfl)); (case hp => exact (Reps.one (show Kd.M (Kd.int .i64) _ _ _ 0 [.int .i64 0] from rfl) (Reps.one (show Kd.M (Kd.int .i64) _ _ _ 0 [.int .i64 0] from rfl) (Reps.one (show Kd.M (Kd.int .i64) _ _ _ 2 [.int .i64 2] from rfl) (Reps.one (show Kd.M (Kd.int .i64) _ _ _ 1 [.int .i64 1] from rfl) (Reps.one (show Kd.M (Kd.int .i64) _ _ _ 0 [.int .i64 0] from rfl) (Reps.none _ _))))))); intro v x ho hb hg_ hnew_; clear hg_ hnew_; rw [show ([0, 0, 2, 1, 0] : List Int) = r0 from Nr0.out.symm] at ho; obtain ⟨Li, li, rfl⟩ := Kd.R_slice ho; have HLi := Aside0.mk (Kd.R_reads' ho).2.2; have HMi := Aside0.mk (Kd.R_reads' ho).2.1; have HRi := Aside0.mk ho; have HF26 := Aside0.mk (HF25.out.below hb); have HBL := Aside0.mk hb; clear ho hb) | (go_at_call 27; (with_reducible refine (H27f.out _ _ _ HF26.out.p HKA.out _ _ HF26.out.q HKB.out _ _ HLi.out HMi.out).mono ?_); rintro e x ⟨rfl, hb⟩; have HF27 := Aside0.mk (HF26.out.below hb); clear hb))
  clear HLi HMi
  clear u0 u1 u2 u3 u4 u5 u6
  obtain ⟨u0, u1, u2, u3, u4, u5, u6⟩ := HF27.out.cells
  (try clear v0 v1 v2)
  have v0 := (blk_cell HF27.out.k.2.1 0).trans rfl
  have v1 := (blk_cell HF27.out.k.2.1 1).trans rfl
  have v2 := (blk_cell HF27.out.k.2.1 2).trans rfl
  go_upto_region 21 with (first | ((with_reducible refine gate_dst (N := 196) rfl ?_); (try (refine gate_guard (by rfl) ?_; dsimp only)); refine Kd.R_lit (Kd.int .i64) _ 3 ?hg (N := 196) ?hd (xs := ([1, 0, 2, 1, 0] : List Int)) (inner := [.int .i64 1, .int .i64 0, .int .i64 2, .int .i64 1, .int .i64 0]) (ok := fun _ => True) (okp := fun _ => True) ?hr ?hp (fun _ hk => hk) trivial (Below.refl _ _) (Nat.le_refl _) (by decide) ?_; (case hd => rfl); (case hg => rfl); (case hr => first | (go_simp; done) | (go_simp; rfl)); (case hp => exact (Reps.one (show Kd.M (Kd.int .i64) _ _ _ 1 [.int .i64 1] from rfl) (Reps.one (show Kd.M (Kd.int .i64) _ _ _ 0 [.int .i64 0] from rfl) (Reps.one (show Kd.M (Kd.int .i64) _ _ _ 2 [.int .i64 2] from rfl) (Reps.one (show Kd.M (Kd.int .i64) _ _ _ 1 [.int .i64 1] from rfl) (Reps.one (show Kd.M (Kd.int .i64) _ _ _ 0 [.int .i64 0] from rfl) (Reps.none _ _))))))); intro v x ho hb hg_ hnew_; clear hg_ hnew_; rw [show ([1, 0, 2, 1, 0] : List Int) = rt from Nrt.out.symm] at ho; obtain ⟨Lj, lj, rfl⟩ := Kd.R_slice ho; have HLj := Aside0.mk (Kd.R_reads' ho).2.2; have HMj := Aside0.mk (Kd.R_reads' ho).2.1; have HRj := Aside0.mk ho; have HF28 := Aside0.mk (HF27.out.below hb); have HBL := Aside0.mk hb; clear ho hb) | (go_at_call 27; (with_reducible refine (H27r.out _ _ _ HF28.out.p HKA.out _ _ HF28.out.q HKB.out _ _ HLj.out HMj.out).mono ?_); rintro e xl ⟨rfl, hb⟩; have HF29 := Aside0.mk (HF28.out.below hb); clear hb))
  clear HLj HMj
  clear u0 u1 u2 u3 u4 u5 u6
  obtain ⟨u0, u1, u2, u3, u4, u5, u6⟩ := HF29.out.cells
  (try clear v0 v1 v2)
  have v0 := (blk_cell HF29.out.k.2.1 0).trans rfl
  have v1 := (blk_cell HF29.out.k.2.1 1).trans rfl
  have v2 := (blk_cell HF29.out.k.2.1 2).trans rfl
  go_upto_region 23 with fail
  have HF30 := Aside0.mk ((HF29.out.below (below_alloc (Below.refl _ _) _)).add (fun X => (((Kd.C k71 X LE re.length re ∧ Kd.C (Kd.int .i64) X Q dn.length dn) ∧ Kd.C (Kd.int .i64) X Q2 rt.length rt ∧ Kd.C (Kd.int .i64) X V op.length op) ∧ X.heap[xt.heap.size]? = some (.cells #[.slice B 2 d, .int .i64 400, .int .i64 30] 52 (0, 0)) ∧ Kd.C k99 X B 2 tw) ∧ X.heap[xl.heap.size]? = some (.cells #[.int .i64 1000, .slice A P.length c, .int .i64 20, .int .i64 20] 32 (0, 0))) ⟨(HF29.out.below (below_alloc (Below.refl _ _) _)).k, heap_alloc_new xl (.cells #[.int .i64 1000, .slice A P.length c, .int .i64 20, .int .i64 20] 32)⟩)
  generalize hy : xl.alloc (.cells #[.int .i64 1000, .slice A P.length c, .int .i64 20, .int .i64 20] 32) = y at HF30 ⊢
  clear hy
  clear u0 u1 u2 u3 u4 u5 u6
  obtain ⟨u0, u1, u2, u3, u4, u5, u6⟩ := HF30.out.cells
  (try clear v0 v1 v2)
  have v0 := (blk_cell HF30.out.k.1.2.1 0).trans rfl
  have v1 := (blk_cell HF30.out.k.1.2.1 1).trans rfl
  have v2 := (blk_cell HF30.out.k.1.2.1 2).trans rfl
  go_upto_region 24 with fail
  have HF31 := Aside0.mk ((HF30.out.below (below_alloc (Below.refl _ _) _)).add (fun X => ((((Kd.C k71 X LE re.length re ∧ Kd.C (Kd.int .i64) X Q dn.length dn) ∧ Kd.C (Kd.int .i64) X Q2 rt.length rt ∧ Kd.C (Kd.int .i64) X V op.length op) ∧ X.heap[xt.heap.size]? = some (.cells #[.slice B 2 d, .int .i64 400, .int .i64 30] 52 (0, 0)) ∧ Kd.C k99 X B 2 tw) ∧ X.heap[xl.heap.size]? = some (.cells #[.int .i64 1000, .slice A P.length c, .int .i64 20, .int .i64 20] 32 (0, 0))) ∧ X.heap[y.heap.size]? = some (.cells #[.int .i64 1000, .slice A P.length c, .int .i64 180, .int .i64 60] 32 (0, 0))) ⟨(HF30.out.below (below_alloc (Below.refl _ _) _)).k, heap_alloc_new y (.cells #[.int .i64 1000, .slice A P.length c, .int .i64 180, .int .i64 60] 32)⟩)
  have HY2 : Aside0 (Below y.heap.size y (y.alloc (.cells #[.int .i64 1000, .slice A P.length c, .int .i64 180, .int .i64 60] 32))) := ⟨below_alloc (Below.refl _ _) _⟩
  generalize hy : y.alloc (.cells #[.int .i64 1000, .slice A P.length c, .int .i64 180, .int .i64 60] 32) = y2 at HF31 HY2 ⊢
  clear hy
  clear u0 u1 u2 u3 u4 u5 u6 v0 v1 v2
  go_upto_region 25 with (first | ((with_reducible refine gate_dst (N := 206) rfl ?_); (try (refine gate_guard (by rfl) ?_; dsimp only)); refine Kd.R_lit k35 _ 35 ?hg (N := 206) ?hd (xs := (nmN)) (inner := [.int .i64 0, .int .i64 1000]) (ok := fun _ => True) (okp := fun _ => True) ?hr ?hp (fun _ hk => hk) trivial (Below.refl _ _) (Nat.le_refl _) (by decide) ?_; (case hd => rfl); (case hg => rfl); (case hr => first | (go_simp; done) | (go_simp; rfl)); (case hp => exact (Reps.c2 (show Kd.M k35 _ _ _ (⟨0, 1000⟩ : S35) [.int .i64 0, .int .i64 1000] from (k35_mkM _ _ _ (⟨0, 1000⟩ : S35))) (Reps.none _ _))); intro v x ho hb hg_ hnew_; clear hg_ hnew_; rw [show (nmN) = no from Nno.out.symm] at ho; obtain ⟨LN, lN, rfl⟩ := Kd.R_slice ho; have HLN := Aside0.mk (Kd.R_reads' ho).2.2; have HMN := Aside0.mk (Kd.R_reads' ho).2.1; have HRN := Aside0.mk ho; have HF32 := Aside0.mk (HF31.out.below hb); have HBL := Aside0.mk hb; clear ho hb; have z1 := (blk_cell HF32.out.k.2 1).trans rfl; have z2 := blk_frozen HF32.out.k.2 1))
  have hbs : Below y.heap.size y (x.setCell ⟨y.heap.size, 1, none⟩ (.slice LN no.length lN)) := (HY2.out.trans (HBL.out.mono HY2.out.size)).setCell (p := ⟨y.heap.size, 1, none⟩) (Nat.le_refl _) _
  have HF33 := Aside0.mk ((HF30.out.below hbs).add (fun X => ((((Kd.C k71 X LE re.length re ∧ Kd.C (Kd.int .i64) X Q dn.length dn) ∧ Kd.C (Kd.int .i64) X Q2 rt.length rt ∧ Kd.C (Kd.int .i64) X V op.length op) ∧ X.heap[xt.heap.size]? = some (.cells #[.slice B 2 d, .int .i64 400, .int .i64 30] 52 (0, 0)) ∧ Kd.C k99 X B 2 tw) ∧ X.heap[xl.heap.size]? = some (.cells #[.int .i64 1000, .slice A P.length c, .int .i64 20, .int .i64 20] 32 (0, 0))) ∧ X.heap[y.heap.size]? = some (.cells #[.int .i64 1000, .slice LN no.length lN, .int .i64 180, .int .i64 60] 32 (0, 0)) ∧ Kd.C k35 X LN no.length no) ⟨(HF30.out.below hbs).k, setCell_cells HF32.out.k.2 _, (Kd.R_reads' (Kd.R_set HRN.out HF32.out.k.2 (by decide) 1 _)).2.2⟩)
  generalize hy : x.setCell ⟨y.heap.size, 1, none⟩ (.slice LN no.length lN) = y3 at HF33 ⊢
  clear hy hbs z1 z2 HRN HLN
  obtain ⟨u0, u1, u2, u3, u4, u5, u6⟩ := HF33.out.cells
  (try clear v0 v1 v2)
  have v0 := (blk_cell HF33.out.k.1.1.2.1 0).trans rfl
  have v1 := (blk_cell HF33.out.k.1.1.2.1 1).trans rfl
  have v2 := (blk_cell HF33.out.k.1.1.2.1 2).trans rfl
  (try clear n0 n1 n2 n3)
  have n0 := (blk_cell HF33.out.k.2.1 0).trans rfl
  have n1 := (blk_cell HF33.out.k.2.1 1).trans rfl
  have n2 := (blk_cell HF33.out.k.2.1 2).trans rfl
  have n3 := (blk_cell HF33.out.k.2.1 3).trans rfl
  go_upto_region 26 with (first | (go_at_call 12; (with_reducible refine (H12.out _ _ _ HF33.out.k.2.2 HMN.out).mono ?_); rintro e x ⟨Q5, q5, rfl, hb⟩; have HF34 := Aside0.mk (HF33.out.below hb); clear hb))
  clear u0 u1 u2 u3 u4 u5 u6
  obtain ⟨u0, u1, u2, u3, u4, u5, u6⟩ := HF34.out.cells
  (try clear v0 v1 v2)
  have v0 := (blk_cell HF34.out.k.1.1.2.1 0).trans rfl
  have v1 := (blk_cell HF34.out.k.1.1.2.1 1).trans rfl
  have v2 := (blk_cell HF34.out.k.1.1.2.1 2).trans rfl
  (try clear n0 n1 n2 n3)
  have n0 := (blk_cell HF34.out.k.2.1 0).trans rfl
  have n1 := (blk_cell HF34.out.k.2.1 1).trans rfl
  have n2 := (blk_cell HF34.out.k.2.1 2).trans rfl
  have n3 := (blk_cell HF34.out.k.2.1 3).trans rfl
  go_upto_region 27 with (first | (go_at_call 17; (with_reducible refine (H17n.out _ _ _ HF34.out.k.2.2 HMN.out _ _ HF34.out.k.1.1.2.2 hd2).mono ?_); rintro e x ⟨Q6, q6, rfl, hb⟩; have HF35 := Aside0.mk (HF34.out.below hb); clear hb))
  clear u0 u1 u2 u3 u4 u5 u6 v0 v1 v2 n0 n1 n2 n3
  have w0 := (blk_cell HF35.out.k.1.2 0).trans rfl
  have w1 := (blk_cell HF35.out.k.1.2 1).trans rfl
  have w2 := (blk_cell HF35.out.k.1.2 2).trans rfl
  have w3 := (blk_cell HF35.out.k.1.2 3).trans rfl
  go_wp2_with (first
    | (go_at_call 30; (with_reducible refine (H30.out _ _ _ HF35.out.p HKA.out).mono ?_); rintro e x ⟨rfl, hb⟩; have HF36 := Aside0.mk (HF35.out.below hb); clear hb)
    | (go_at_call 31; (with_reducible refine (H31z.out _).mono ?_); rintro e x ⟨rfl, hb⟩; have HF37 := Aside0.mk (HF36.out.below hb); clear hb)
    | (go_at_call 30; (with_reducible refine (H30z.out _).mono ?_); rintro e x ⟨rfl, hb⟩; have HF38 := Aside0.mk (HF37.out.below hb); clear hb)
    | (go_at_call 11; (with_reducible refine (c11 _).mono ?_); rintro e x ⟨rfl, hb⟩; have HF39 := Aside0.mk (HF38.out.below hb); clear hb))
  go_ret
  exact ⟨rfl, HF39.out.b⟩
end Go.Proofs.Ytillieimgjdpbaa.Pr
