/- Contracts by hand: the library's searches at closures; whether an office is valid. -/
import Derived.Test.YtillieimgjdpbaaOHd
namespace Go.Proofs.Ytillieimgjdpbaa.Pr
open Go.RowKit Go.Proofs.YtillieimgjdpbaaW.PrintWords Go.Proofs.YtillieimgjdpbaaW.PrintLast Go.Proofs.YtillieimgjdpbaaW.PrintMore
set_option linter.unusedVariables false
set_option linter.unusedSimpArgs false
/-- The index of the first element that is as asked, counted on from i; -1: none is. -/
def idxFrom {α : Type} (q : α → Bool) : List α → Nat → Int
  | [], _ => -1
  | x :: t, i => if q x = true then (i : Int) else idxFrom q t (i + 1)
theorem idxFrom_any {α : Type} (q : α → Bool) : ∀ (l : List α) (i : Nat), decide (0 ≤ idxFrom q l i) = l.any q
  | [], i => rfl
  | x :: t, i => by
    unfold idxFrom
    by_cases h : q x = true
    · simp [h]
    · rw [if_neg h, idxFrom_any q t (i + 1)]; simp [h]
theorem at99 {w : World} {A : Option Addr} {n : Nat} {xs : List S99} (h : Kd.C k99 w A n xs) (k : Nat) (hk : k < xs.length) : ∃ ad, A = some ad ∧ w.cell? (ad.add (k * 3)) = some (.int .i64 xs[k].f0.f0) ∧ w.cell? ⟨(ad.add (k * 3)).block, (ad.add (k * 3)).off + 1, none⟩ = some (.int .i64 xs[k].f0.f1) ∧ w.cell? ⟨(ad.add (k * 3)).block, (ad.add (k * 3)).off + 2, none⟩ = some (.int .i64 xs[k].f1) := by
  have hn := h.1
  have := at_T99 h (k : Int) (by omega) (by omega)
  simpa [rd_T99, List.getD_eq_getElem?_getD, hk] using this
theorem at3 {w : World} {A : Option Addr} {n : Nat} {xs : List Int} (h : Kd.C (Kd.int .i64) w A n xs) (k : Nat) (hk : k < xs.length) : ∃ ad, A = some ad ∧ w.cell? (ad.add k) = some (.int .i64 xs[k]) := by
  have hn := h.1
  obtain ⟨ad, e, h2⟩ := (Kd.reads_of_C (d := (0 : Int)) h).2.2 (by omega)
  refine ⟨ad, e, ?_⟩
  have := h2 k (by omega)
  simpa [List.getD_eq_getElem?_getD, hk] using this
set_option maxHeartbeats 2000000 in
set_option maxRecDepth 100000 in
theorem idx38 (A : Option Addr) (c : Nat) (l : List S35) (pv : Value) (q : S35 → Bool) (w : World) (hr : Kd.C k35 w A l.length l)
    (hq : ∀ (x : S35) (X : World), x ∈ l → Below w.heap.size w X → Calls Try.prog 39 #[.agg #[.int .i64 x.f0, .int .i64 x.f1], pv] X fun e w' => e = .returned (.bool (q x)) ∧ Below X.heap.size X w') :
    Calls Try.prog 38 #[.slice A l.length c, .func (.func 39) #[] #[pv]] w fun e w' => e = .returned (.int .i64 (idxFrom q l 0)) ∧ Below w.heap.size w w' := by
  have hlen : l.length ≤ 9223372036854775807 := hr.2.1
  have HR := Aside0.mk hr
  have HQ := Aside0.mk hq
  clear hr hq
  go_enter Try.func38, Try.ntmps38
  go_wp2
  go_loopw [8] (fun v8 wr => ∃ k : Nat, k ≤ l.length ∧ v8 = .int .i64 k ∧ Aside0 (idxFrom q l 0 = idxFrom q (l.drop k) k) ∧ Aside0 (Below w.heap.size w wr)) (fun v8 _ => l.length - (intOf v8).toNat)
  case atStart => exact ⟨0, Nat.zero_le _, rfl, ⟨rfl⟩, ⟨Below.refl _ _⟩⟩
  case round =>
    obtain ⟨k, hk, rfl, HP, HB⟩ := hrel
    by_cases hlt : k < l.length
    · obtain ⟨ad, e, hx0, hx1⟩ := at35 HR.out k hlt
      cases e
      replace hx0 := (HB.out.cell (World.block_lt_of_cell? w _ hx0)).trans hx0
      replace hx1 := (HB.out.cell (World.block_lt_of_cell? w _ hx1)).trans hx1
      obtain ⟨x, hx⟩ : ∃ x, x = l[k] := ⟨_, rfl⟩
      rw [← hx] at hx0 hx1
      have hm := Aside0.mk (show x ∈ l from by rw [hx]; exact List.getElem_mem _)
      have HD := Aside0.mk (drop_cons' l k hlt)
      rw [← hx] at HD
      clear hx
      cases hqx : q x with
      | true =>
        have HE : Aside0 (idxFrom q l 0 = (k : Int)) := ⟨by rw [HP.out, HD.out, idxFrom, if_pos hqx]⟩
        have HC : ∀ X : World, Below w.heap.size w X → Calls Try.prog 39 #[.agg #[.int .i64 x.f0, .int .i64 x.f1], pv] X fun e w' => e = .returned (.bool true) ∧ Below X.heap.size X w' := fun X hb => by have := HQ.out x X hm.out hb; rwa [hqx] at this
        have HC' := Aside0.mk HC
        clear hqx HC
        go_wp2_with (go_at_call 39; refine (HC'.out _ HB.out).mono ?_; rintro e w' ⟨rfl, hbb⟩)
        go_ret
        exact ⟨by rw [HE.out]; rfl, HB.out.trans (hbb.mono HB.out.size)⟩
      | false =>
        have HE : Aside0 (idxFrom q l 0 = idxFrom q (l.drop (k + 1)) (k + 1)) := ⟨by rw [HP.out, HD.out, idxFrom, if_neg (by rw [hqx]; decide)]⟩
        have HC : ∀ X : World, Below w.heap.size w X → Calls Try.prog 39 #[.agg #[.int .i64 x.f0, .int .i64 x.f1], pv] X fun e w' => e = .returned (.bool false) ∧ Below X.heap.size X w' := fun X hb => by have := HQ.out x X hm.out hb; rwa [hqx] at this
        have HC' := Aside0.mk HC
        clear hqx HC
        go_wp2_with (go_at_call 39; refine (HC'.out _ HB.out).mono ?_; rintro e w' ⟨rfl, hbb⟩)
        go_roundw
        case rel => exact ⟨k + 1, by omega, by go_num, HE, ⟨HB.out.trans (hbb.mono HB.out.size)⟩⟩
        case measure => simp [intOf]; omega
    · have HE : Aside0 (idxFrom q l 0 = -1) := ⟨by rw [HP.out, List.drop_eq_nil_of_le (by omega), idxFrom]⟩
      go_wp2
      go_ret
      exact ⟨by rw [HE.out]; rfl, HB.out⟩
set_option maxHeartbeats 2000000 in
set_option maxRecDepth 100000 in
theorem idx72 (A : Option Addr) (c : Nat) (l : List S99) (pv : Value) (q : S99 → Bool) (w : World) (hr : Kd.C k99 w A l.length l)
    (hq : ∀ (x : S99) (X : World), x ∈ l → Below w.heap.size w X → Calls Try.prog 68 #[.agg #[.int .i64 x.f0.f0, .int .i64 x.f0.f1, .int .i64 x.f1], pv] X fun e w' => e = .returned (.bool (q x)) ∧ Below X.heap.size X w') :
    Calls Try.prog 72 #[.slice A l.length c, .func (.func 68) #[] #[pv]] w fun e w' => e = .returned (.int .i64 (idxFrom q l 0)) ∧ Below w.heap.size w w' := by
  have hlen : l.length ≤ 9223372036854775807 := hr.2.1
  have HR := Aside0.mk hr
  have HQ := Aside0.mk hq
  clear hr hq
  go_enter Try.func72, Try.ntmps72
  go_wp2
  go_loopw [8] (fun v8 wr => ∃ k : Nat, k ≤ l.length ∧ v8 = .int .i64 k ∧ Aside0 (idxFrom q l 0 = idxFrom q (l.drop k) k) ∧ Aside0 (Below w.heap.size w wr)) (fun v8 _ => l.length - (intOf v8).toNat)
  case atStart => exact ⟨0, Nat.zero_le _, rfl, ⟨rfl⟩, ⟨Below.refl _ _⟩⟩
  case round =>
    obtain ⟨k, hk, rfl, HP, HB⟩ := hrel
    by_cases hlt : k < l.length
    · obtain ⟨ad, e, hx0, hx1, hx2⟩ := at99 HR.out k hlt
      cases e
      replace hx0 := (HB.out.cell (World.block_lt_of_cell? w _ hx0)).trans hx0
      replace hx1 := (HB.out.cell (World.block_lt_of_cell? w _ hx1)).trans hx1
      replace hx2 := (HB.out.cell (World.block_lt_of_cell? w _ hx2)).trans hx2
      obtain ⟨x, hx⟩ : ∃ x, x = l[k] := ⟨_, rfl⟩
      rw [← hx] at hx0 hx1 hx2
      have hm := Aside0.mk (show x ∈ l from by rw [hx]; exact List.getElem_mem _)
      have HD := Aside0.mk (drop_cons' l k hlt)
      rw [← hx] at HD
      clear hx
      cases hqx : q x with
      | true =>
        have HE : Aside0 (idxFrom q l 0 = (k : Int)) := ⟨by rw [HP.out, HD.out, idxFrom, if_pos hqx]⟩
        have HC : ∀ X : World, Below w.heap.size w X → Calls Try.prog 68 #[.agg #[.int .i64 x.f0.f0, .int .i64 x.f0.f1, .int .i64 x.f1], pv] X fun e w' => e = .returned (.bool true) ∧ Below X.heap.size X w' := fun X hb => by have := HQ.out x X hm.out hb; rwa [hqx] at this
        have HC' := Aside0.mk HC
        clear hqx HC
        go_wp2_with (go_at_call 68; refine (HC'.out _ HB.out).mono ?_; rintro e w' ⟨rfl, hbb⟩)
        go_ret
        exact ⟨by rw [HE.out]; rfl, HB.out.trans (hbb.mono HB.out.size)⟩
      | false =>
        have HE : Aside0 (idxFrom q l 0 = idxFrom q (l.drop (k + 1)) (k + 1)) := ⟨by rw [HP.out, HD.out, idxFrom, if_neg (by rw [hqx]; decide)]⟩
        have HC : ∀ X : World, Below w.heap.size w X → Calls Try.prog 68 #[.agg #[.int .i64 x.f0.f0, .int .i64 x.f0.f1, .int .i64 x.f1], pv] X fun e w' => e = .returned (.bool false) ∧ Below X.heap.size X w' := fun X hb => by have := HQ.out x X hm.out hb; rwa [hqx] at this
        have HC' := Aside0.mk HC
        clear hqx HC
        go_wp2_with (go_at_call 68; refine (HC'.out _ HB.out).mono ?_; rintro e w' ⟨rfl, hbb⟩)
        go_roundw
        case rel => exact ⟨k + 1, by omega, by go_num, HE, ⟨HB.out.trans (hbb.mono HB.out.size)⟩⟩
        case measure => simp [intOf]; omega
    · have HE : Aside0 (idxFrom q l 0 = -1) := ⟨by rw [HP.out, List.drop_eq_nil_of_le (by omega), idxFrom]⟩
      go_wp2
      go_ret
      exact ⟨by rw [HE.out]; rfl, HB.out⟩
set_option maxHeartbeats 2000000 in
theorem contains67 (A : Option Addr) (c : Nat) (l : List S99) (pv : Value) (q : S99 → Bool) (w : World) (hr : Kd.C k99 w A l.length l)
    (hq : ∀ (x : S99) (X : World), x ∈ l → Below w.heap.size w X → Calls Try.prog 68 #[.agg #[.int .i64 x.f0.f0, .int .i64 x.f0.f1, .int .i64 x.f1], pv] X fun e w' => e = .returned (.bool (q x)) ∧ Below X.heap.size X w') :
    Calls Try.prog 67 #[.slice A l.length c, .func (.func 68) #[] #[pv]] w fun e w' => e = .returned (.bool (l.any q)) ∧ Below w.heap.size w w' := by
  have HE := Aside0.mk (idxFrom_any q l 0)
  have HI := Aside0.mk (idx72 A c l pv q w hr hq)
  clear hr hq
  go_enter Try.func67, Try.ntmps67
  go_wp2_with (go_at_call 72; refine HI.out.mono ?_; rintro e w' ⟨rfl, hb⟩)
  go_ret
  exact ⟨by rw [← HE.out]; rfl, hb⟩
theorem any_not {α : Type} (q : α → Bool) (l : List α) : (!(l.any fun x => !(q x))) = l.all q := by
  induction l with
  | nil => rfl
  | cons x t ih => simp only [List.any_cons, List.all_cons, ← ih]; cases q x <;> simp
set_option maxHeartbeats 2000000 in
/-- all(crew, right), right a plain function (Reporter.valid). -/
theorem all62 (A : Option Addr) (c : Nat) (l : List S99) (q : S99 → Bool) (w : World) (hr : Kd.C k99 w A l.length l)
    (hq : ∀ (x : S99) (X : World), x ∈ l → Below w.heap.size w X → Calls Try.prog 63 #[.agg #[.int .i64 x.f0.f0, .int .i64 x.f0.f1, .int .i64 x.f1]] X fun e w' => e = .returned (.bool (q x)) ∧ Below X.heap.size X w') :
    Calls Try.prog 62 #[.slice A l.length c, .func (.func 63) #[] #[]] w fun e w' => e = .returned (.bool (l.all q)) ∧ Below w.heap.size w w' := by
  have HB1 := (Below.refl w.heap.size w).alloc (Nat.le_refl _) (.cells #[.func (.func 63) #[] #[]] 117)
  have hcl : ∀ (x : S99) (X : World), x ∈ l → Below (w.alloc (.cells #[.func (.func 63) #[] #[]] 117)).heap.size (w.alloc (.cells #[.func (.func 63) #[] #[]] 117)) X → Calls Try.prog 68 #[.agg #[.int .i64 x.f0.f0, .int .i64 x.f0.f1, .int .i64 x.f1], .pointer (some ⟨w.heap.size, 0, none⟩)] X fun e w' => e = .returned (.bool (!(q x))) ∧ Below X.heap.size X w' := fun x X hx hb => by
    have hbx := blk_below (blk_new w (.cells #[.func (.func 63) #[] #[]] 117)) hb
    have hc0 : X.cell? ⟨w.heap.size, 0, none⟩ = some (.func (.func 63) #[] #[]) := (blk_cell hbx 0).trans rfl
    have hlt := blk_lt hbx
    have HQ := Aside0.mk (fun Y => hq x Y hx)
    have HBX := Aside0.mk (show Below w.heap.size w X from below_then HB1 HB1.size hb)
    clear hb hq hr HB1 hx
    go_enter Try.func68, Try.ntmps68
    go_wp2_with (go_at_call 63; refine (HQ.out _ (HBX.out.alloc HBX.out.size _)).mono ?_; rintro e w' ⟨rfl, hb2⟩)
    go_ret
    exact ⟨rfl, ((Below.refl _ _).alloc (Nat.le_refl _) _).trans (hb2.mono (by simp))⟩
  have HI := Aside0.mk (contains67 A c l (.pointer (some ⟨w.heap.size, 0, none⟩)) (fun x => !(q x)) (w.alloc (.cells #[.func (.func 63) #[] #[]] 117)) (Kd.C_below hr HB1) hcl)
  have HE := Aside0.mk (any_not q l)
  clear hcl hq hr
  go_enter Try.func62, Try.ntmps62
  go_wp2_with (go_at_call 67; refine HI.out.mono ?_; rintro e w' ⟨rfl, hb⟩)
  go_ret
  exact ⟨by rw [← HE.out]; rfl, HB1.trans (hb.mono (by simp))⟩
end Go.Proofs.Ytillieimgjdpbaa.Pr
