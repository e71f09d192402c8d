/- Contracts of functions of the program, and laws on what they answer: printed by a program of this session. -/
import Derived.Test.YtillieimgjdpbaaMHd
import Derived.Test.YtillieimgjdpbaaMHb
namespace Go.Proofs.Ytillieimgjdpbaa.Pr
open Go.RowKit Go.Proofs.YtillieimgjdpbaaW.PrintWords Go.Proofs.YtillieimgjdpbaaW.PrintLast Go.Proofs.YtillieimgjdpbaaW.PrintMore
set_option linter.unusedVariables false
set_option linter.unusedSimpArgs false
/-- The index of the first element that is as asked, counted on from i; -1: none is. -/
def idxFrom {α : Type} (q : α → Bool) : List α → Nat → Int
  | [], _ => -1
  | x :: t, i => if q x = true then (i : Int) else idxFrom q t (i + 1)
theorem idxFrom_any {α : Type} (q : α → Bool) : ∀ (l : List α) (i : Nat), decide (0 ≤ idxFrom q l i) = l.any q
  | [], i => rfl
  | x :: t, i => by
    unfold idxFrom
    by_cases h : q x = true
    · simp [h]
    · rw [if_neg h, idxFrom_any q t (i + 1)]; simp [h]
theorem at99 {w : World} {A : Option Addr} {n : Nat} {xs : List S99} (h : Kd.C k99 w A n xs) (k : Nat) (hk : k < xs.length) : ∃ ad, A = some ad ∧ w.cell? (ad.add (k * 3)) = some (.int .i64 xs[k].f0.f0) ∧ w.cell? ⟨(ad.add (k * 3)).block, (ad.add (k * 3)).off + 1, none⟩ = some (.int .i64 xs[k].f0.f1) ∧ w.cell? ⟨(ad.add (k * 3)).block, (ad.add (k * 3)).off + 2, none⟩ = some (.int .i64 xs[k].f1) := by
  have hn := h.1
  have := at_T99 h (k : Int) (by omega) (by omega)
  simpa [rd_T99, List.getD_eq_getElem?_getD, hk] using this
theorem at3 {w : World} {A : Option Addr} {n : Nat} {xs : List Int} (h : Kd.C (Kd.int .i64) w A n xs) (k : Nat) (hk : k < xs.length) : ∃ ad, A = some ad ∧ w.cell? (ad.add k) = some (.int .i64 xs[k]) := by
  have hn := h.1
  obtain ⟨ad, e, h2⟩ := (Kd.reads_of_C (d := (0 : Int)) h).2.2 (by omega)
  refine ⟨ad, e, ?_⟩
  have := h2 k (by omega)
  simpa [List.getD_eq_getElem?_getD, hk] using this
set_option maxHeartbeats 2000000 in
set_option maxRecDepth 100000 in
theorem idx38 (A : Option Addr) (c : Nat) (l : List S35) (pv : Value) (q : S35 → Bool) (w : World) (hr : Kd.C k35 w A l.length l)
    (hq : ∀ (x : S35) (X : World), x ∈ l → Below w.heap.size w X → Calls Try.prog 39 #[.agg #[.int .i64 x.f0, .int .i64 x.f1], pv] X fun e w' => e = .returned (.bool (q x)) ∧ Below X.heap.size X w') :
    Calls Try.prog 38 #[.slice A l.length c, .func (.func 39) #[] #[pv]] w fun e w' => e = .returned (.int .i64 (idxFrom q l 0)) ∧ Below w.heap.size w w' := by
  have hlen : l.length ≤ 9223372036854775807 := hr.2.1
  have HR := Aside0.mk hr
  have HQ := Aside0.mk hq
  clear hr hq
  go_enter Try.func38, Try.ntmps38
  go_wp2
  go_loopw [8] (fun v8 wr => ∃ k : Nat, k ≤ l.length ∧ v8 = .int .i64 k ∧ Aside0 (idxFrom q l 0 = idxFrom q (l.drop k) k) ∧ Aside0 (Below w.heap.size w wr)) (fun v8 _ => l.length - (intOf v8).toNat)
  case atStart => exact ⟨0, Nat.zero_le _, rfl, ⟨rfl⟩, ⟨Below.refl _ _⟩⟩
  case round =>
    obtain ⟨k, hk, rfl, HP, HB⟩ := hrel
    by_cases hlt : k < l.length
    · obtain ⟨ad, e, hx0, hx1⟩ := at35 HR.out k hlt
      cases e
      replace hx0 := (HB.out.cell (World.block_lt_of_cell? w _ hx0)).trans hx0
      replace hx1 := (HB.out.cell (World.block_lt_of_cell? w _ hx1)).trans hx1
      obtain ⟨x, hx⟩ : ∃ x, x = l[k] := ⟨_, rfl⟩
      rw [← hx] at hx0 hx1
      have hm := Aside0.mk (show x ∈ l from by rw [hx]; exact List.getElem_mem _)
      have HD := Aside0.mk (drop_cons' l k hlt)
      rw [← hx] at HD
      clear hx
      cases hqx : q x with
      | true =>
        have HE : Aside0 (idxFrom q l 0 = (k : Int)) := ⟨by rw [HP.out, HD.out, idxFrom, if_pos hqx]⟩
        have HC : ∀ X : World, Below w.heap.size w X → Calls Try.prog 39 #[.agg #[.int .i64 x.f0, .int .i64 x.f1], pv] X fun e w' => e = .returned (.bool true) ∧ Below X.heap.size X w' := fun X hb => by have := HQ.out x X hm.out hb; rwa [hqx] at this
        have HC' := Aside0.mk HC
        clear hqx HC
        go_wp2_with (go_at_call 39; refine (HC'.out _ HB.out).mono ?_; rintro e w' ⟨rfl, hbb⟩)
        go_ret
        exact ⟨by rw [HE.out]; rfl, HB.out.trans (hbb.mono HB.out.size)⟩
      | false =>
        have HE : Aside0 (idxFrom q l 0 = idxFrom q (l.drop (k + 1)) (k + 1)) := ⟨by rw [HP.out, HD.out, idxFrom, if_neg (by rw [hqx]; decide)]⟩
        have HC : ∀ X : World, Below w.heap.size w X → Calls Try.prog 39 #[.agg #[.int .i64 x.f0, .int .i64 x.f1], pv] X fun e w' => e = .returned (.bool false) ∧ Below X.heap.size X w' := fun X hb => by have := HQ.out x X hm.out hb; rwa [hqx] at this
        have HC' := Aside0.mk HC
        clear hqx HC
        go_wp2_with (go_at_call 39; refine (HC'.out _ HB.out).mono ?_; rintro e w' ⟨rfl, hbb⟩)
        go_roundw
        case rel => exact ⟨k + 1, by omega, by go_num, HE, ⟨HB.out.trans (hbb.mono HB.out.size)⟩⟩
        case measure => simp [intOf]; omega
    · have HE : Aside0 (idxFrom q l 0 = -1) := ⟨by rw [HP.out, List.drop_eq_nil_of_le (by omega), idxFrom]⟩
      go_wp2
      go_ret
      exact ⟨by rw [HE.out]; rfl, HB.out⟩
set_option maxHeartbeats 2000000 in
set_option maxRecDepth 100000 in
theorem idx72 (A : Option Addr) (c : Nat) (l : List S99) (pv : Value) (q : S99 → Bool) (w : World) (hr : Kd.C k99 w A l.length l)
    (hq : ∀ (x : S99) (X : World), x ∈ l → Below w.heap.size w X → Calls Try.prog 68 #[.agg #[.int .i64 x.f0.f0, .int .i64 x.f0.f1, .int .i64 x.f1], pv] X fun e w' => e = .returned (.bool (q x)) ∧ Below X.heap.size X w') :
    Calls Try.prog 72 #[.slice A l.length c, .func (.func 68) #[] #[pv]] w fun e w' => e = .returned (.int .i64 (idxFrom q l 0)) ∧ Below w.heap.size w w' := by
  have hlen : l.length ≤ 9223372036854775807 := hr.2.1
  have HR := Aside0.mk hr
  have HQ := Aside0.mk hq
  clear hr hq
  go_enter Try.func72, Try.ntmps72
  go_wp2
  go_loopw [8] (fun v8 wr => ∃ k : Nat, k ≤ l.length ∧ v8 = .int .i64 k ∧ Aside0 (idxFrom q l 0 = idxFrom q (l.drop k) k) ∧ Aside0 (Below w.heap.size w wr)) (fun v8 _ => l.length - (intOf v8).toNat)
  case atStart => exact ⟨0, Nat.zero_le _, rfl, ⟨rfl⟩, ⟨Below.refl _ _⟩⟩
  case round =>
    obtain ⟨k, hk, rfl, HP, HB⟩ := hrel
    by_cases hlt : k < l.length
    · obtain ⟨ad, e, hx0, hx1, hx2⟩ := at99 HR.out k hlt
      cases e
      replace hx0 := (HB.out.cell (World.block_lt_of_cell? w _ hx0)).trans hx0
      replace hx1 := (HB.out.cell (World.block_lt_of_cell? w _ hx1)).trans hx1
      replace hx2 := (HB.out.cell (World.block_lt_of_cell? w _ hx2)).trans hx2
      obtain ⟨x, hx⟩ : ∃ x, x = l[k] := ⟨_, rfl⟩
      rw [← hx] at hx0 hx1 hx2
      have hm := Aside0.mk (show x ∈ l from by rw [hx]; exact List.getElem_mem _)
      have HD := Aside0.mk (drop_cons' l k hlt)
      rw [← hx] at HD
      clear hx
      cases hqx : q x with
      | true =>
        have HE : Aside0 (idxFrom q l 0 = (k : Int)) := ⟨by rw [HP.out, HD.out, idxFrom, if_pos hqx]⟩
        have HC : ∀ X : World, Below w.heap.size w X → Calls Try.prog 68 #[.agg #[.int .i64 x.f0.f0, .int .i64 x.f0.f1, .int .i64 x.f1], pv] X fun e w' => e = .returned (.bool true) ∧ Below X.heap.size X w' := fun X hb => by have := HQ.out x X hm.out hb; rwa [hqx] at this
        have HC' := Aside0.mk HC
        clear hqx HC
        go_wp2_with (go_at_call 68; refine (HC'.out _ HB.out).mono ?_; rintro e w' ⟨rfl, hbb⟩)
        go_ret
        exact ⟨by rw [HE.out]; rfl, HB.out.trans (hbb.mono HB.out.size)⟩
      | false =>
        have HE : Aside0 (idxFrom q l 0 = idxFrom q (l.drop (k + 1)) (k + 1)) := ⟨by rw [HP.out, HD.out, idxFrom, if_neg (by rw [hqx]; decide)]⟩
        have HC : ∀ X : World, Below w.heap.size w X → Calls Try.prog 68 #[.agg #[.int .i64 x.f0.f0, .int .i64 x.f0.f1, .int .i64 x.f1], pv] X fun e w' => e = .returned (.bool false) ∧ Below X.heap.size X w' := fun X hb => by have := HQ.out x X hm.out hb; rwa [hqx] at this
        have HC' := Aside0.mk HC
        clear hqx HC
        go_wp2_with (go_at_call 68; refine (HC'.out _ HB.out).mono ?_; rintro e w' ⟨rfl, hbb⟩)
        go_roundw
        case rel => exact ⟨k + 1, by omega, by go_num, HE, ⟨HB.out.trans (hbb.mono HB.out.size)⟩⟩
        case measure => simp [intOf]; omega
    · have HE : Aside0 (idxFrom q l 0 = -1) := ⟨by rw [HP.out, List.drop_eq_nil_of_le (by omega), idxFrom]⟩
      go_wp2
      go_ret
      exact ⟨by rw [HE.out]; rfl, HB.out⟩
set_option maxHeartbeats 2000000 in
set_option maxRecDepth 100000 in
theorem idx71 (A : Option Addr) (c : Nat) (l : List Int) (pv : Value) (q : Int → Bool) (w : World) (hr : Kd.C (Kd.int .i64) w A l.length l)
    (hq : ∀ (x : Int) (X : World), x ∈ l → Below w.heap.size w X → Calls Try.prog 66 #[.int .i64 x, pv] X fun e w' => e = .returned (.bool (q x)) ∧ Below X.heap.size X w') :
    Calls Try.prog 71 #[.slice A l.length c, .func (.func 66) #[] #[pv]] w fun e w' => e = .returned (.int .i64 (idxFrom q l 0)) ∧ Below w.heap.size w w' := by
  have hlen : l.length ≤ 9223372036854775807 := hr.2.1
  have HR := Aside0.mk hr
  have HQ := Aside0.mk hq
  clear hr hq
  go_enter Try.func71, Try.ntmps71
  go_wp2
  go_loopw [8] (fun v8 wr => ∃ k : Nat, k ≤ l.length ∧ v8 = .int .i64 k ∧ Aside0 (idxFrom q l 0 = idxFrom q (l.drop k) k) ∧ Aside0 (Below w.heap.size w wr)) (fun v8 _ => l.length - (intOf v8).toNat)
  case atStart => exact ⟨0, Nat.zero_le _, rfl, ⟨rfl⟩, ⟨Below.refl _ _⟩⟩
  case round =>
    obtain ⟨k, hk, rfl, HP, HB⟩ := hrel
    by_cases hlt : k < l.length
    · obtain ⟨ad, e, hx0⟩ := at3 HR.out k hlt
      cases e
      replace hx0 := (HB.out.cell (World.block_lt_of_cell? w _ hx0)).trans hx0
      obtain ⟨x, hx⟩ : ∃ x, x = l[k] := ⟨_, rfl⟩
      rw [← hx] at hx0
      have hm := Aside0.mk (show x ∈ l from by rw [hx]; exact List.getElem_mem _)
      have HD := Aside0.mk (drop_cons' l k hlt)
      rw [← hx] at HD
      clear hx
      cases hqx : q x with
      | true =>
        have HE : Aside0 (idxFrom q l 0 = (k : Int)) := ⟨by rw [HP.out, HD.out, idxFrom, if_pos hqx]⟩
        have HC : ∀ X : World, Below w.heap.size w X → Calls Try.prog 66 #[.int .i64 x, pv] X fun e w' => e = .returned (.bool true) ∧ Below X.heap.size X w' := fun X hb => by have := HQ.out x X hm.out hb; rwa [hqx] at this
        have HC' := Aside0.mk HC
        clear hqx HC
        go_wp2_with (go_at_call 66; refine (HC'.out _ HB.out).mono ?_; rintro e w' ⟨rfl, hbb⟩)
        go_ret
        exact ⟨by rw [HE.out]; rfl, HB.out.trans (hbb.mono HB.out.size)⟩
      | false =>
        have HE : Aside0 (idxFrom q l 0 = idxFrom q (l.drop (k + 1)) (k + 1)) := ⟨by rw [HP.out, HD.out, idxFrom, if_neg (by rw [hqx]; decide)]⟩
        have HC : ∀ X : World, Below w.heap.size w X → Calls Try.prog 66 #[.int .i64 x, pv] X fun e w' => e = .returned (.bool false) ∧ Below X.heap.size X w' := fun X hb => by have := HQ.out x X hm.out hb; rwa [hqx] at this
        have HC' := Aside0.mk HC
        clear hqx HC
        go_wp2_with (go_at_call 66; refine (HC'.out _ HB.out).mono ?_; rintro e w' ⟨rfl, hbb⟩)
        go_roundw
        case rel => exact ⟨k + 1, by omega, by go_num, HE, ⟨HB.out.trans (hbb.mono HB.out.size)⟩⟩
        case measure => simp [intOf]; omega
    · have HE : Aside0 (idxFrom q l 0 = -1) := ⟨by rw [HP.out, List.drop_eq_nil_of_le (by omega), idxFrom]⟩
      go_wp2
      go_ret
      exact ⟨by rw [HE.out]; rfl, HB.out⟩
set_option maxHeartbeats 2000000 in
theorem contains67 (A : Option Addr) (c : Nat) (l : List S99) (pv : Value) (q : S99 → Bool) (w : World) (hr : Kd.C k99 w A l.length l)
    (hq : ∀ (x : S99) (X : World), x ∈ l → Below w.heap.size w X → Calls Try.prog 68 #[.agg #[.int .i64 x.f0.f0, .int .i64 x.f0.f1, .int .i64 x.f1], pv] X fun e w' => e = .returned (.bool (q x)) ∧ Below X.heap.size X w') :
    Calls Try.prog 67 #[.slice A l.length c, .func (.func 68) #[] #[pv]] w fun e w' => e = .returned (.bool (l.any q)) ∧ Below w.heap.size w w' := by
  have HE := Aside0.mk (idxFrom_any q l 0)
  have HI := Aside0.mk (idx72 A c l pv q w hr hq)
  clear hr hq
  go_enter Try.func67, Try.ntmps67
  go_wp2_with (go_at_call 72; refine HI.out.mono ?_; rintro e w' ⟨rfl, hb⟩)
  go_ret
  exact ⟨by rw [← HE.out]; rfl, hb⟩
set_option maxHeartbeats 2000000 in
theorem contains65 (A : Option Addr) (c : Nat) (l : List Int) (pv : Value) (q : Int → Bool) (w : World) (hr : Kd.C (Kd.int .i64) w A l.length l)
    (hq : ∀ (x : Int) (X : World), x ∈ l → Below w.heap.size w X → Calls Try.prog 66 #[.int .i64 x, pv] X fun e w' => e = .returned (.bool (q x)) ∧ Below X.heap.size X w') :
    Calls Try.prog 65 #[.slice A l.length c, .func (.func 66) #[] #[pv]] w fun e w' => e = .returned (.bool (l.any q)) ∧ Below w.heap.size w w' := by
  have HE := Aside0.mk (idxFrom_any q l 0)
  have HI := Aside0.mk (idx71 A c l pv q w hr hq)
  clear hr hq
  go_enter Try.func65, Try.ntmps65
  go_wp2_with (go_at_call 71; refine HI.out.mono ?_; rintro e w' ⟨rfl, hb⟩)
  go_ret
  exact ⟨by rw [← HE.out]; rfl, hb⟩
theorem any_not {α : Type} (q : α → Bool) (l : List α) : (!(l.any fun x => !(q x))) = l.all q := by
  induction l with
  | nil => rfl
  | cons x t ih => simp only [List.any_cons, List.all_cons, ← ih]; cases q x <;> simp
set_option maxHeartbeats 2000000 in
/-- all(crew, right), right a plain function (Reporter.valid). -/
theorem all62 (A : Option Addr) (c : Nat) (l : List S99) (q : S99 → Bool) (w : World) (hr : Kd.C k99 w A l.length l)
    (hq : ∀ (x : S99) (X : World), x ∈ l → Below w.heap.size w X → Calls Try.prog 63 #[.agg #[.int .i64 x.f0.f0, .int .i64 x.f0.f1, .int .i64 x.f1]] X fun e w' => e = .returned (.bool (q x)) ∧ Below X.heap.size X w') :
    Calls Try.prog 62 #[.slice A l.length c, .func (.func 63) #[] #[]] w fun e w' => e = .returned (.bool (l.all q)) ∧ Below w.heap.size w w' := by
  have HB1 := (Below.refl w.heap.size w).alloc (Nat.le_refl _) (.cells #[.func (.func 63) #[] #[]] 117)
  have hcl : ∀ (x : S99) (X : World), x ∈ l → Below (w.alloc (.cells #[.func (.func 63) #[] #[]] 117)).heap.size (w.alloc (.cells #[.func (.func 63) #[] #[]] 117)) X → Calls Try.prog 68 #[.agg #[.int .i64 x.f0.f0, .int .i64 x.f0.f1, .int .i64 x.f1], .pointer (some ⟨w.heap.size, 0, none⟩)] X fun e w' => e = .returned (.bool (!(q x))) ∧ Below X.heap.size X w' := fun x X hx hb => by
    have hbx := blk_below (blk_new w (.cells #[.func (.func 63) #[] #[]] 117)) hb
    have hc0 : X.cell? ⟨w.heap.size, 0, none⟩ = some (.func (.func 63) #[] #[]) := (blk_cell hbx 0).trans rfl
    have hlt := blk_lt hbx
    have HQ := Aside0.mk (fun Y => hq x Y hx)
    have HBX := Aside0.mk (show Below w.heap.size w X from below_then HB1 HB1.size hb)
    clear hb hq hr HB1 hx
    go_enter Try.func68, Try.ntmps68
    go_wp2_with (go_at_call 63; refine (HQ.out _ (HBX.out.alloc HBX.out.size _)).mono ?_; rintro e w' ⟨rfl, hb2⟩)
    go_ret
    exact ⟨rfl, ((Below.refl _ _).alloc (Nat.le_refl _) _).trans (hb2.mono (by simp))⟩
  have HI := Aside0.mk (contains67 A c l (.pointer (some ⟨w.heap.size, 0, none⟩)) (fun x => !(q x)) (w.alloc (.cells #[.func (.func 63) #[] #[]] 117)) (Kd.C_below hr HB1) hcl)
  have HE := Aside0.mk (any_not q l)
  clear hcl hq hr
  go_enter Try.func62, Try.ntmps62
  go_wp2_with (go_at_call 67; refine HI.out.mono ?_; rintro e w' ⟨rfl, hb⟩)
  go_ret
  exact ⟨by rw [← HE.out]; rfl, HB1.trans (hb.mono (by simp))⟩
end Go.Proofs.Ytillieimgjdpbaa.Pr
namespace Go.Proofs.Ytillieimgjdpbaa.Pr
open Go.RowKit Go.Proofs.YtillieimgjdpbaaW.PrintWords Go.Proofs.YtillieimgjdpbaaW.PrintLast Go.Proofs.YtillieimgjdpbaaW.PrintMore
set_option linter.unusedVariables false
set_option linter.unusedSimpArgs false
def repOk (x : S99) : Bool := decide (0 ≤ x.f0.f0) && decide (x.f0.f0 ≤ x.f0.f1) && decide (x.f0.f1 ≤ 20) && decide (0 ≤ x.f1 ∧ x.f1 ≤ 36000)
set_option maxHeartbeats 2000000 in
theorem repValid (x : S99) (w : World) : Calls Try.prog 63 #[.agg #[.int .i64 x.f0.f0, .int .i64 x.f0.f1, .int .i64 x.f1]] w fun e w' => e = .returned (.bool (repOk x)) ∧ Below w.heap.size w w' := by
  have hw1 : ∀ W : World, Calls Try.prog 37 #[.int .i64 x.f1, .int .i64 0, .int .i64 36000] W fun e w' => e = .returned (.bool (decide (0 ≤ x.f1 ∧ x.f1 ≤ 36000))) ∧ Drawn0 W w' := fun W => take_within.calls _ _ _ _ W (within_some _ _ _)
  obtain ⟨b, hb⟩ : ∃ b, b = decide (0 ≤ x.f1 ∧ x.f1 ≤ 36000) := ⟨_, rfl⟩
  have HE : Aside0 (repOk x = (decide (0 ≤ x.f0.f0) && decide (x.f0.f0 ≤ x.f0.f1) && decide (x.f0.f1 ≤ 20) && b)) := ⟨by rw [repOk, hb]⟩
  rw [← hb] at hw1
  clear hb
  have HB := Aside0.mk ((Below.refl w.heap.size w).alloc (Nat.le_refl _) (.cells #[.int .i64 x.f0.f0, .int .i64 x.f0.f1, .int .i64 x.f1] 99))
  by_cases h1 : 0 ≤ x.f0.f0
  · by_cases h2 : x.f0.f0 ≤ x.f0.f1
    · by_cases h3 : x.f0.f1 ≤ 20
      · go_enter Try.func63, Try.ntmps63
        go_wp2_with (go_at_call 37; refine (hw1 _).mono ?_; rintro e w' ⟨rfl, ⟨nd, rfl⟩⟩)
        go_ret
        exact ⟨by rw [HE.out, decide_eq_true h1, decide_eq_true h2, decide_eq_true h3]; rfl, pw_below_drewN HB.out _⟩
      · go_enter Try.func63, Try.ntmps63
        go_wp2_with fail
        go_ret
        exact ⟨by rw [HE.out, decide_eq_false (p := x.f0.f1 ≤ 20) (by omega)]; simp, HB.out⟩
    · go_enter Try.func63, Try.ntmps63
      go_wp2_with fail
      go_ret
      exact ⟨by rw [HE.out, decide_eq_false (p := x.f0.f0 ≤ x.f0.f1) (by omega)]; simp, HB.out⟩
  · go_enter Try.func63, Try.ntmps63
    go_wp2_with fail
    go_ret
    exact ⟨by rw [HE.out, decide_eq_false (p := 0 ≤ x.f0.f0) (by omega)]; simp, HB.out⟩
def officeOk (l : List S99) (due delay : Int) : Bool := decide (1 ≤ (l.length : Int) ∧ (l.length : Int) ≤ 5) && l.all repOk && decide (0 ≤ due ∧ due ≤ 36000) && decide (0 ≤ delay ∧ delay ≤ 36000)
def take_Office_valid.f (l0_0 : List (S99)) (a0_1 : Int) (a0_2 : Int) : Option (Bool) := some (officeOk l0_0 a0_1 a0_2)
set_option maxHeartbeats 4000000 in
theorem take_Office_valid.calls (A0_0 : Option Addr) (c0_0 : Nat) (l0_0 : List (S99)) (a0_1 : Int) (a0_2 : Int) (r : Bool) (w : World) (hr0_0 : Kd.C k99 w A0_0 l0_0.length l0_0) (hc0_0 : l0_0.length ≤ c0_0) (h : take_Office_valid.f l0_0 a0_1 a0_2 = some r) :
    Calls Try.prog 49 #[.agg #[.slice A0_0 l0_0.length c0_0, .int .i64 a0_1, .int .i64 a0_2]] w fun e w' => e = .returned (.bool r) ∧ Below w.heap.size w w' := by
  obtain rfl := Option.some.inj h
  clear h
  obtain ⟨b1, hb1⟩ : ∃ b, b = decide (1 ≤ (l0_0.length : Int) ∧ (l0_0.length : Int) ≤ 5) := ⟨_, rfl⟩
  obtain ⟨b2, hb2⟩ : ∃ b, b = l0_0.all repOk := ⟨_, rfl⟩
  obtain ⟨b3, hb3⟩ : ∃ b, b = decide (0 ≤ a0_1 ∧ a0_1 ≤ 36000) := ⟨_, rfl⟩
  obtain ⟨b4, hb4⟩ : ∃ b, b = decide (0 ≤ a0_2 ∧ a0_2 ≤ 36000) := ⟨_, rfl⟩
  have hw1 : ∀ W : World, Calls Try.prog 37 #[.int .i64 l0_0.length, .int .i64 1, .int .i64 5] W fun e w' => e = .returned (.bool b1) ∧ Drawn0 W w' := fun W => hb1 ▸ take_within.calls _ _ _ _ W (within_some _ _ _)
  have hw3 : ∀ W : World, Calls Try.prog 37 #[.int .i64 a0_1, .int .i64 0, .int .i64 36000] W fun e w' => e = .returned (.bool b3) ∧ Drawn0 W w' := fun W => hb3 ▸ take_within.calls _ _ _ _ W (within_some _ _ _)
  have hw4 : ∀ W : World, Calls Try.prog 37 #[.int .i64 a0_2, .int .i64 0, .int .i64 36000] W fun e w' => e = .returned (.bool b4) ∧ Drawn0 W w' := fun W => hb4 ▸ take_within.calls _ _ _ _ W (within_some _ _ _)
  have hall : ∀ W : World, Below w.heap.size w W → Calls Try.prog 62 #[.slice A0_0 l0_0.length c0_0, .func (.func 63) #[] #[]] W fun e w' => e = .returned (.bool b2) ∧ Below W.heap.size W w' := fun W hb => hb2 ▸ all62 A0_0 c0_0 l0_0 repOk W (Kd.C_below hr0_0 hb) (fun x X _ _ => repValid x X)
  have HE : Aside0 (officeOk l0_0 a0_1 a0_2 = (b1 && b2 && b3 && b4)) := ⟨by rw [officeOk, hb1, hb2, hb3, hb4]⟩
  clear hb1 hb2 hb3 hb4 hr0_0
  have HALL := Aside0.mk hall
  clear hall
  have HB := Aside0.mk ((Below.refl w.heap.size w).alloc (Nat.le_refl _) (.cells #[.slice A0_0 l0_0.length c0_0, .int .i64 a0_1, .int .i64 a0_2] 52))
  have HBX : Aside0 (∀ (nd : Nat) (w' : World), Below ((w.alloc (.cells #[.slice A0_0 l0_0.length c0_0, .int .i64 a0_1, .int .i64 a0_2] 52)).drewN nd).heap.size ((w.alloc (.cells #[.slice A0_0 l0_0.length c0_0, .int .i64 a0_1, .int .i64 a0_2] 52)).drewN nd) w' → Below w.heap.size w w' ∧ w'.cell? ⟨w.heap.size, 1, none⟩ = some (.int .i64 a0_1) ∧ w'.cell? ⟨w.heap.size, 2, none⟩ = some (.int .i64 a0_2)) := ⟨fun nd w' hb => by
    have hx := blk_below (blk_drewN (blk_new w (.cells #[.slice A0_0 l0_0.length c0_0, .int .i64 a0_1, .int .i64 a0_2] 52)) nd) hb
    exact ⟨below_then (pw_below_drewN HB.out nd) HB.out.size hb, (blk_cell hx 1).trans rfl, (blk_cell hx 2).trans rfl⟩⟩
  cases b1 with
  | false =>
    go_enter Try.func49, Try.ntmps49
    go_wp2_with (go_at_call 37; refine (hw1 _).mono ?_; rintro e w' ⟨rfl, ⟨nd, rfl⟩⟩)
    go_ret
    exact ⟨by rw [HE.out]; rfl, pw_below_drewN HB.out _⟩
  | true =>
    cases b2 with
    | false =>
      go_enter Try.func49, Try.ntmps49
      go_wp2_with (first | (go_at_call 37; refine (hw1 _).mono ?_; rintro e w' ⟨rfl, ⟨nd, rfl⟩⟩) | (go_at_call 62; refine (HALL.out _ (pw_below_drewN HB.out _)).mono ?_; rintro e w' ⟨rfl, hbb⟩; obtain ⟨hbw, c1, c2⟩ := HBX.out _ _ hbb))
      go_ret
      exact ⟨by rw [HE.out]; rfl, hbw⟩
    | true =>
      cases b3 with
      | false =>
        go_enter Try.func49, Try.ntmps49
        go_wp2_with (first | (go_at_call 37; refine (hw1 _).mono ?_; rintro e w' ⟨rfl, ⟨nd, rfl⟩⟩; clear hw1) | (go_at_call 62; refine (HALL.out _ (pw_below_drewN HB.out _)).mono ?_; rintro e w' ⟨rfl, hbb⟩; obtain ⟨hbw, c1, c2⟩ := HBX.out _ _ hbb) | (go_at_call 37; refine (hw3 _).mono ?_; rintro e w' ⟨rfl, ⟨nd3, rfl⟩⟩))
        go_ret
        exact ⟨by rw [HE.out]; rfl, pw_below_drewN hbw _⟩
      | true =>
        go_enter Try.func49, Try.ntmps49
        go_wp2_with (first | (go_at_call 37; refine (hw1 _).mono ?_; rintro e w' ⟨rfl, ⟨nd, rfl⟩⟩; clear hw1) | (go_at_call 62; refine (HALL.out _ (pw_below_drewN HB.out _)).mono ?_; rintro e w' ⟨rfl, hbb⟩; obtain ⟨hbw, c1, c2⟩ := HBX.out _ _ hbb) | (go_at_call 37; refine (hw3 _).mono ?_; rintro e w' ⟨rfl, ⟨nd3, rfl⟩⟩; clear hw3) | (go_at_call 37; refine (hw4 _).mono ?_; rintro e w' ⟨rfl, ⟨nd4, rfl⟩⟩))
        go_ret
        exact ⟨by rw [HE.out]; cases b4 <;> rfl, pw_below_drewN hbw _⟩
/-- A sitting's check. -/
def checkP (L : Int) (ps : List S35) (long short : Int) : List S35 × Int :=
  if sittingOk L ps long short = true then (if (takesP L ps long short).length > 40 then ([], 3) else (takesP L ps long short, 0)) else ([], 1)
def take_Sitting_check.f (a0_0 : Int) (l0_1 : List (S35)) (a0_2 : Int) (a0_3 : Int) : Option ((List (S35)) × Int) := some (checkP a0_0 l0_1 a0_2 a0_3)
set_option maxHeartbeats 4000000 in
theorem take_Sitting_check.calls (a0_0 : Int) (A0_1 : Option Addr) (c0_1 : Nat) (l0_1 : List (S35)) (a0_2 : Int) (a0_3 : Int) (r1 : List (S35)) (r2 : Int) (w : World) (hr0_1 : Kd.C k35 w A0_1 l0_1.length l0_1) (hc0_1 : l0_1.length ≤ c0_1) (h : take_Sitting_check.f a0_0 l0_1 a0_2 a0_3 = some (r1, r2)) :
    Calls Try.prog 35 #[.agg #[.int .i64 a0_0, .slice A0_1 l0_1.length c0_1, .int .i64 a0_2, .int .i64 a0_3]] w fun e w' => ∃ v0_ : Value, e = .returned (.tuple #[v0_, .int .i64 r2]) ∧ Kd.R k35 35 w' w.heap.size (fun _ => True) v0_ r1 ∧ Below w.heap.size w w' := by
  have h2 := Option.some.inj h
  clear h
  have HV := fun W hb => take_Sitting_valid.calls a0_0 A0_1 c0_1 l0_1 a0_2 a0_3 _ W (Kd.C_below hr0_1 (w1 := W) hb) hc0_1 rfl
  have HT := fun W hb r hr => take_Sitting_takes.calls a0_0 A0_1 c0_1 l0_1 a0_2 a0_3 r W (Kd.C_below hr0_1 (w1 := W) hb) hc0_1 hr
  have HB := Aside0.mk ((Below.refl w.heap.size w).alloc (Nat.le_refl _) (.cells #[.int .i64 a0_0, .slice A0_1 l0_1.length c0_1, .int .i64 a0_2, .int .i64 a0_3] 32))
  have HBX : Aside0 (∀ w', Below (w.alloc (.cells #[.int .i64 a0_0, .slice A0_1 l0_1.length c0_1, .int .i64 a0_2, .int .i64 a0_3] 32)).heap.size (w.alloc (.cells #[.int .i64 a0_0, .slice A0_1 l0_1.length c0_1, .int .i64 a0_2, .int .i64 a0_3] 32)) w' → Below w.heap.size w w' ∧ w'.heap[w.heap.size]? = some (.cells #[.int .i64 a0_0, .slice A0_1 l0_1.length c0_1, .int .i64 a0_2, .int .i64 a0_3] 32 (0, 0))) := ⟨fun w' hb => ⟨below_then HB.out HB.out.size hb, blk_below (blk_new w _) hb⟩⟩
  have HV' := Aside0.mk HV
  have HT' := Aside0.mk HT
  clear HV HT hr0_1
  cases hok : sittingOk a0_0 l0_1 a0_2 a0_3 with
  | false =>
    rw [checkP, if_neg (by rw [hok]; decide)] at h2
    obtain ⟨rfl, rfl⟩ := Prod.mk.inj h2
    have HVV := Aside0.mk (hok ▸ HV'.out)
    clear hok h2
    go_enter Try.func35, Try.ntmps35
    go_wp2_with (go_at_call 51; refine (HVV.out _ HB.out).mono ?_; rintro e w' ⟨rfl, hbb⟩; obtain ⟨hbw, hbx⟩ := HBX.out _ hbb)
    go_ret2
    exact ⟨_, rfl, Kd.R_nil _ _ _ _ _, hbw⟩
  | true =>
    have hT : take_Sitting_takes.f a0_0 l0_1 a0_2 a0_3 = some (takesP a0_0 l0_1 a0_2 a0_3) := by rw [take_Sitting_takes.f, if_pos hok]
    rw [checkP, if_pos hok] at h2
    have HVV := Aside0.mk (hok ▸ HV'.out)
    have HTT := Aside0.mk (fun W hb => HT'.out W hb _ hT)
    clear hok hT
    obtain ⟨tk, htk⟩ : ∃ tk, tk = takesP a0_0 l0_1 a0_2 a0_3 := ⟨_, rfl⟩
    rw [← htk] at h2 HTT
    clear htk
    by_cases hl : tk.length > 40
    · rw [if_pos hl] at h2
      obtain ⟨rfl, rfl⟩ := Prod.mk.inj h2
      clear h2
      go_enter Try.func35, Try.ntmps35
      go_wp2_with (first | (go_at_call 51; refine (HVV.out _ HB.out).mono ?_; rintro e w' ⟨rfl, hbb⟩; obtain ⟨hbw, hbx⟩ := HBX.out _ hbb; have g0 := (blk_cell hbx 0).trans rfl; have g1 := (blk_cell hbx 1).trans rfl; have g2 := (blk_cell hbx 2).trans rfl; have g3 := (blk_cell hbx 3).trans rfl) | (go_at_call 52; refine (HTT.out _ hbw).mono ?_; rintro e w2 ⟨v, rfl, hR, hb2⟩; obtain ⟨A2, c2, rfl⟩ := Kd.R_slice hR))
      go_ret2
      exact ⟨_, rfl, Kd.R_nil _ _ _ _ _, hbw.trans (hb2.mono hbw.size)⟩
    · rw [if_neg hl] at h2
      obtain ⟨rfl, rfl⟩ := Prod.mk.inj h2
      clear h2
      go_enter Try.func35, Try.ntmps35
      go_wp2_with (first | (go_at_call 51; refine (HVV.out _ HB.out).mono ?_; rintro e w' ⟨rfl, hbb⟩; obtain ⟨hbw, hbx⟩ := HBX.out _ hbb; have g0 := (blk_cell hbx 0).trans rfl; have g1 := (blk_cell hbx 1).trans rfl; have g2 := (blk_cell hbx 2).trans rfl; have g3 := (blk_cell hbx 3).trans rfl) | (go_at_call 52; refine (HTT.out _ hbw).mono ?_; rintro e w2 ⟨v, rfl, hR, hb2⟩; obtain ⟨A2, c2, rfl⟩ := Kd.R_slice hR))
      go_ret2
      exact ⟨_, rfl, Kd.R_lower hR hbw.size, hbw.trans (hb2.mono hbw.size)⟩
end Go.Proofs.Ytillieimgjdpbaa.Pr
namespace Go.Proofs.Ytillieimgjdpbaa.Pr
open Go.RowKit Go.Proofs.YtillieimgjdpbaaW.PrintWords Go.Proofs.YtillieimgjdpbaaW.PrintLast Go.Proofs.YtillieimgjdpbaaW.PrintMore
attribute [local go_sem] max2_int min2_int max_two min_two max_three min_three max_four min_four   -- for this text's walks alone
set_option linter.unusedVariables false
set_option linter.unusedSimpArgs false
def palantypelaw01_spans.l0 : Nat → List (S35) → List (S41) → Int → Option (Bool)
  | 0, _, _, _ => none
  | k + 1, x0, x1, x5 => if x5 < (x0.length : Int) then (if 0 ≤ x5 then (if x5 < (x1.length : Int) then (if ((rd_T35 x0 x5).f0) = ((rd_T41 x1 x5).f0) then (if ((rd_T35 x0 x5).f1) = ((rd_T41 x1 x5).f1) then (palantypelaw01_spans.l0 k x0 x1 (wrap64 (x5 + 1))) else (some false)) else (some false)) else (none)) else (none)) else (some true)
def palantypelaw01_spans.f (k : Nat) (l0 : List (S35)) (l1 : List (S41)) : Option (Bool) := if (l0.length : Int) = (l1.length : Int) then (palantypelaw01_spans.l0 k l0 l1 0) else (some false)
set_option maxHeartbeats 8000000 in
set_option maxRecDepth 100000 in
theorem palantypelaw01_spans.calls (k : Nat) (A0 : Option Addr) (c0 : Nat) (l0 : List (S35)) (A1 : Option Addr) (c1 : Nat) (l1 : List (S41)) (r : Bool) (w : World) (hr0 : Kd.C k35 w A0 l0.length l0) (hc0 : l0.length ≤ c0) (hr1 : Kd.C k41 w A1 l1.length l1) (hc1 : l1.length ≤ c1) (h : palantypelaw01_spans.f k l0 l1 = some r) :
    Calls Try.prog 34 #[.slice A0 l0.length c0, .slice A1 l1.length c1] w fun e w' => e = .returned (.bool r) ∧ Drawn0 w w' := by
  have HR0 := Aside0.mk hr0
  have HC0 := Aside0.mk hc0
  clear hr0 hc0
  have HR1 := Aside0.mk hr1
  have HC1 := Aside0.mk hc1
  clear hr1 hc1
  have H : (if (l0.length : Int) = (l1.length : Int) then (palantypelaw01_spans.l0 k l0 l1 0) else (some false)) = some r := h
  clear h
  by_cases c3 : (l0.length : Int) = (l1.length : Int)
  · rw [if_pos c3] at H
    have c3b0 : ((l0.length : Int) == (l1.length : Int)) = true := beq_iff_eq.mpr c3
    have c3b1 : ((l0.length : Int) != (l1.length : Int)) = false := bne_eq_false_iff_eq.mpr c3
    have c3b2 : (l0.length == l1.length) = true := by first | simpa using c3 | (simp at c3 ⊢; omega)
    clear c3
    have H' := Aside0.mk H
    clear H
    go_enter Try.func34, Try.ntmps34
    go_wp2
    repeat (go_quiet (fail); try go_wp2)
    go_loopg [5] k (fun kq v5 w' => ∃ (x5_1 : Int), v5 = .int .i64 x5_1 ∧ Aside0 (palantypelaw01_spans.l0 kq l0 l1 x5_1 = some r) ∧ Aside0 (kq ≤ k) ∧ Drawn0 w w')
    case atStart => exact ⟨(0), (by first | rfl | (simp; done) | (simp [*]; done)), H', ⟨Nat.le_refl _⟩, by repeat (first | exact Drawn0.refl _ | apply Drawn0.step)⟩
    case round =>
      clear H'
      try clear c1
      try clear p2
      try clear c3
      try clear c3b0
      try clear c3b1
      try clear c3b2
      obtain ⟨x5_1, rfl, HA, HK1, ⟨m1, rfl⟩⟩ := hrel
      cases gk with
      | zero => exact absurd HA.out (by simp [palantypelaw01_spans.l0])
      | succ k1 =>
        have H := HA.out
        clear HA
        simp only [palantypelaw01_spans.l0] at H
        by_cases c4 : x5_1 < (l0.length : Int)
        · rw [if_pos c4] at H
          have c4b0 : decide (x5_1 < (l0.length : Int)) = true := decide_eq_true c4
          clear c4
          by_cases c5 : 0 ≤ x5_1
          · rw [if_pos c5] at H
            have c5b0 : decide (0 ≤ x5_1) = true := decide_eq_true c5
            clear c5
            by_cases c6 : x5_1 < (l1.length : Int)
            · rw [if_pos c6] at H
              have c6b0 : decide (x5_1 < (l1.length : Int)) = true := decide_eq_true c6
              clear c6
              by_cases c7 : ((rd_T35 l0 x5_1).f0) = ((rd_T41 l1 x5_1).f0)
              · rw [if_pos c7] at H
                have c7b0 : (((rd_T35 l0 x5_1).f0) == ((rd_T41 l1 x5_1).f0)) = true := beq_iff_eq.mpr c7
                have c7b1 : (((rd_T35 l0 x5_1).f0) != ((rd_T41 l1 x5_1).f0)) = false := bne_eq_false_iff_eq.mpr c7
                clear c7
                by_cases c8 : ((rd_T35 l0 x5_1).f1) = ((rd_T41 l1 x5_1).f1)
                · rw [if_pos c8] at H
                  have c8b0 : (((rd_T35 l0 x5_1).f1) == ((rd_T41 l1 x5_1).f1)) = true := beq_iff_eq.mpr c8
                  have c8b1 : (((rd_T35 l0 x5_1).f1) != ((rd_T41 l1 x5_1).f1)) = false := bne_eq_false_iff_eq.mpr c8
                  clear c8
                  have H' := Aside0.mk H
                  clear H
                  have p157 : 0 ≤ (x5_1 : Int) := of_decide_eq_true (by first | (with_reducible assumption) | assumption)
                  have q157 : x5_1 < (l0.length : Int) := of_decide_eq_true (by first | (with_reducible assumption) | assumption)
                  obtain ⟨ad157, e157, hx157_0, hx157_1⟩ := at_T35 HR0.out x5_1 p157 q157
                  cases e157
                  replace p157 := eq_true p157
                  replace q157 := eq_true q157
                  have p158 : 0 ≤ (x5_1 : Int) := of_decide_eq_true (by first | (with_reducible assumption) | assumption)
                  have q158 : x5_1 < (l1.length : Int) := of_decide_eq_true (by first | (with_reducible assumption) | assumption)
                  obtain ⟨ad158, e158, hx158_0, hx158_1⟩ := at_T41 HR1.out x5_1 p158 q158
                  cases e158
                  replace p158 := eq_true p158
                  replace q158 := eq_true q158
                  have p159 : 0 ≤ (x5_1 : Int) := of_decide_eq_true (by first | (with_reducible assumption) | assumption)
                  have q159 : x5_1 < (l0.length : Int) := of_decide_eq_true (by first | (with_reducible assumption) | assumption)
                  obtain ⟨ad159, e159, hx159_0, hx159_1⟩ := at_T35 HR0.out x5_1 p159 q159
                  obtain rfl : ad157 = ad159 := (by injection e159)
                  replace p159 := eq_true p159
                  replace q159 := eq_true q159
                  have p160 : 0 ≤ (x5_1 : Int) := of_decide_eq_true (by first | (with_reducible assumption) | assumption)
                  have q160 : x5_1 < (l1.length : Int) := of_decide_eq_true (by first | (with_reducible assumption) | assumption)
                  obtain ⟨ad160, e160, hx160_0, hx160_1⟩ := at_T41 HR1.out x5_1 p160 q160
                  obtain rfl : ad158 = ad160 := (by injection e160)
                  replace p160 := eq_true p160
                  replace q160 := eq_true q160
                  go_wp2
                  repeat (go_quiet (fail); try go_wp2)
                  go_roundg k1
                  case measure => have := HK1.out; omega
                  case rel => exact ⟨(wrap64 (x5_1 + 1)), (by first | rfl | (simp; done) | (simp [*]; done)), H', ⟨by have := HK1.out; omega⟩, by repeat (first | exact Drawn0.refl _ | apply Drawn0.step)⟩
                · rw [if_neg c8] at H
                  have c8b0 : (((rd_T35 l0 x5_1).f1) == ((rd_T41 l1 x5_1).f1)) = false := beq_eq_false_iff_ne.mpr c8
                  have c8b1 : (((rd_T35 l0 x5_1).f1) != ((rd_T41 l1 x5_1).f1)) = true := bne_iff_ne.mpr c8
                  obtain rfl := Option.some.inj H
                  have p157 : 0 ≤ (x5_1 : Int) := of_decide_eq_true (by first | (with_reducible assumption) | assumption)
                  have q157 : x5_1 < (l0.length : Int) := of_decide_eq_true (by first | (with_reducible assumption) | assumption)
                  obtain ⟨ad157, e157, hx157_0, hx157_1⟩ := at_T35 HR0.out x5_1 p157 q157
                  cases e157
                  replace p157 := eq_true p157
                  replace q157 := eq_true q157
                  have p158 : 0 ≤ (x5_1 : Int) := of_decide_eq_true (by first | (with_reducible assumption) | assumption)
                  have q158 : x5_1 < (l1.length : Int) := of_decide_eq_true (by first | (with_reducible assumption) | assumption)
                  obtain ⟨ad158, e158, hx158_0, hx158_1⟩ := at_T41 HR1.out x5_1 p158 q158
                  cases e158
                  replace p158 := eq_true p158
                  replace q158 := eq_true q158
                  have p159 : 0 ≤ (x5_1 : Int) := of_decide_eq_true (by first | (with_reducible assumption) | assumption)
                  have q159 : x5_1 < (l0.length : Int) := of_decide_eq_true (by first | (with_reducible assumption) | assumption)
                  obtain ⟨ad159, e159, hx159_0, hx159_1⟩ := at_T35 HR0.out x5_1 p159 q159
                  obtain rfl : ad157 = ad159 := (by injection e159)
                  replace p159 := eq_true p159
                  replace q159 := eq_true q159
                  have p160 : 0 ≤ (x5_1 : Int) := of_decide_eq_true (by first | (with_reducible assumption) | assumption)
                  have q160 : x5_1 < (l1.length : Int) := of_decide_eq_true (by first | (with_reducible assumption) | assumption)
                  obtain ⟨ad160, e160, hx160_0, hx160_1⟩ := at_T41 HR1.out x5_1 p160 q160
                  obtain rfl : ad158 = ad160 := (by injection e160)
                  replace p160 := eq_true p160
                  replace q160 := eq_true q160
                  go_wp2
                  repeat (go_quiet (fail); try go_wp2)
                  go_ret
                  exact ⟨by first | rfl | (simp; done) | (simp [*]; done), by repeat (first | exact Drawn0.refl _ | apply Drawn0.step)⟩
              · rw [if_neg c7] at H
                have c7b0 : (((rd_T35 l0 x5_1).f0) == ((rd_T41 l1 x5_1).f0)) = false := beq_eq_false_iff_ne.mpr c7
                have c7b1 : (((rd_T35 l0 x5_1).f0) != ((rd_T41 l1 x5_1).f0)) = true := bne_iff_ne.mpr c7
                obtain rfl := Option.some.inj H
                have p157 : 0 ≤ (x5_1 : Int) := of_decide_eq_true (by first | (with_reducible assumption) | assumption)
                have q157 : x5_1 < (l0.length : Int) := of_decide_eq_true (by first | (with_reducible assumption) | assumption)
                obtain ⟨ad157, e157, hx157_0, hx157_1⟩ := at_T35 HR0.out x5_1 p157 q157
                cases e157
                replace p157 := eq_true p157
                replace q157 := eq_true q157
                have p158 : 0 ≤ (x5_1 : Int) := of_decide_eq_true (by first | (with_reducible assumption) | assumption)
                have q158 : x5_1 < (l1.length : Int) := of_decide_eq_true (by first | (with_reducible assumption) | assumption)
                obtain ⟨ad158, e158, hx158_0, hx158_1⟩ := at_T41 HR1.out x5_1 p158 q158
                cases e158
                replace p158 := eq_true p158
                replace q158 := eq_true q158
                go_wp2
                repeat (go_quiet (fail); try go_wp2)
                go_ret
                exact ⟨by first | rfl | (simp; done) | (simp [*]; done), by repeat (first | exact Drawn0.refl _ | apply Drawn0.step)⟩
            · rw [if_neg c6] at H
              exact absurd H (by simp)
          · rw [if_neg c5] at H
            exact absurd H (by simp)
        · rw [if_neg c4] at H
          have c4b0 : decide (x5_1 < (l0.length : Int)) = false := decide_eq_false c4
          clear c4
          obtain rfl := Option.some.inj H
          go_wp2
          repeat (go_quiet (fail); try go_wp2)
          go_ret
          exact ⟨by first | rfl | (simp; done) | (simp [*]; done), by repeat (first | exact Drawn0.refl _ | apply Drawn0.step)⟩
  · rw [if_neg c3] at H
    have c3b0 : ((l0.length : Int) == (l1.length : Int)) = false := beq_eq_false_iff_ne.mpr c3
    have c3b1 : ((l0.length : Int) != (l1.length : Int)) = true := bne_iff_ne.mpr c3
    have c3b2 : (l0.length == l1.length) = false := by first | simpa using c3 | (simp at c3 ⊢; omega)
    obtain rfl := Option.some.inj H
    go_enter Try.func34, Try.ntmps34
    go_wp2
    repeat (go_quiet (fail); try go_wp2)
    go_ret
    exact ⟨by first | rfl | (simp; done) | (simp [*]; done), by repeat (first | exact Drawn0.refl _ | apply Drawn0.step)⟩
end Go.Proofs.Ytillieimgjdpbaa.Pr
namespace Go.Proofs.Ytillieimgjdpbaa.Pr
open Go.RowKit Go.Proofs.YtillieimgjdpbaaW.PrintWords Go.Proofs.YtillieimgjdpbaaW.PrintLast Go.Proofs.YtillieimgjdpbaaW.PrintMore
attribute [local go_sem] max2_int min2_int max_two min_two max_three min_three max_four min_four   -- for this text's walks alone
set_option linter.unusedVariables false
set_option linter.unusedSimpArgs false
def take_sum.l0 : Nat → Int → List Int → Int → Int → Option (Int)
  | 0, _, _, _, _ => none
  | k + 1, x2, x5, x6, x7 => if x7 < x6 then (if 0 ≤ x7 then (if x7 < (x5.length : Int) then (take_sum.l0 k (wrap64 (x2 + (rd x5 x7))) x5 x6 (wrap64 (x7 + 1))) else (none)) else (none)) else (some x2)
def take_sum.f (k : Nat) (l0 : List Int) : Option (Int) := take_sum.l0 k 0 l0 (l0.length : Int) 0
set_option maxHeartbeats 8000000 in
set_option maxRecDepth 100000 in
theorem take_sum.calls (k : Nat) (A0 : Option Addr) (c0 : Nat) (l0 : List Int) (r : Int) (w : World) (hr0 : Kd.C (Kd.int .i64) w A0 l0.length l0) (hc0 : l0.length ≤ c0) (h : take_sum.f k l0 = some r) :
    Calls Try.prog 60 #[.slice A0 l0.length c0] w fun e w' => e = .returned (.int .i64 r) ∧ Drawn0 w w' := by
  have HR0 := Aside0.mk hr0
  have HC0 := Aside0.mk hc0
  clear hr0 hc0
  have H : (take_sum.l0 k 0 l0 (l0.length : Int) 0) = some r := h
  clear h
  have H' := Aside0.mk H
  clear H
  go_enter Try.func60, Try.ntmps60
  go_wp2
  go_loopg [2, 7] k (fun kq v2 v7 w' => ∃ (x2_1 : Int) (x7_1 : Int), v2 = .int .i64 x2_1 ∧ v7 = .int .i64 x7_1 ∧ Aside0 (take_sum.l0 kq x2_1 l0 (l0.length : Int) x7_1 = some r) ∧ Aside0 (kq ≤ k) ∧ Drawn0 w w')
  case atStart => exact ⟨(0), (0), (by first | rfl | (simp; done) | (simp [*]; done)), (by first | rfl | (simp; done) | (simp [*]; done)), H', ⟨Nat.le_refl _⟩, by repeat (first | exact Drawn0.refl _ | apply Drawn0.step)⟩
  case round =>
    clear H'
    obtain ⟨x2_1, x7_1, rfl, rfl, HA, HK1, ⟨m1, rfl⟩⟩ := hrel
    cases gk with
    | zero => exact absurd HA.out (by simp [take_sum.l0])
    | succ k1 =>
      have H := HA.out
      clear HA
      simp only [take_sum.l0] at H
      by_cases c2 : x7_1 < (l0.length : Int)
      · rw [if_pos c2] at H
        have c2b0 : decide (x7_1 < (l0.length : Int)) = true := decide_eq_true c2
        clear c2
        by_cases c3 : 0 ≤ x7_1
        · rw [if_pos c3] at H
          have c3b0 : decide (0 ≤ x7_1) = true := decide_eq_true c3
          clear c3
          by_cases c4 : x7_1 < (l0.length : Int)
          · rw [if_pos c4] at H
            have c4b0 : decide (x7_1 < (l0.length : Int)) = true := decide_eq_true c4
            clear c4
            have H' := Aside0.mk H
            clear H
            have p288 : 0 ≤ (x7_1 : Int) := of_decide_eq_true (by first | (with_reducible assumption) | assumption)
            have q288 : x7_1 < (l0.length : Int) := of_decide_eq_true (by first | (with_reducible assumption) | assumption)
            obtain ⟨ad288, e288, hx288_0⟩ := Kd.at_int HR0.out x7_1 p288 q288
            cases e288
            replace p288 := eq_true p288
            replace q288 := eq_true q288
            go_wp2
            go_roundg k1
            case measure => have := HK1.out; omega
            case rel => exact ⟨(wrap64 (x2_1 + (rd l0 x7_1))), (wrap64 (x7_1 + 1)), (by first | rfl | (simp; done) | (simp [*]; done)), (by first | rfl | (simp; done) | (simp [*]; done)), H', ⟨by have := HK1.out; omega⟩, by repeat (first | exact Drawn0.refl _ | apply Drawn0.step)⟩
          · rw [if_neg c4] at H
            exact absurd H (by simp)
        · rw [if_neg c3] at H
          exact absurd H (by simp)
      · rw [if_neg c2] at H
        have c2b0 : decide (x7_1 < (l0.length : Int)) = false := decide_eq_false c2
        clear c2
        obtain rfl := Option.some.inj H
        go_wp2
        go_ret
        exact ⟨by first | rfl | (simp; done) | (simp [*]; done), by repeat (first | exact Drawn0.refl _ | apply Drawn0.step)⟩
end Go.Proofs.Ytillieimgjdpbaa.Pr
