/- Plain laws: the reference's functions against the program's. -/
import Derived.Test.YtillieimgjdpbaaRHo
import Derived.Test.YtillieimgjdpbaaRPr5
namespace Go.Proofs.Ytillieimgjdpbaa.Pr
open Go.RowKit Go.Proofs.YtillieimgjdpbaaW.PrintWords Go.Proofs.YtillieimgjdpbaaW.PrintLast Go.Proofs.YtillieimgjdpbaaW.PrintMore
set_option linter.unusedVariables false
set_option linter.unusedSimpArgs false
def palantypelaw01_list.f (l0 : List Int) : Option (List Int) := if l0.length * 8 ≤ 140737488355328 then some l0 else none
set_option maxHeartbeats 2000000 in
set_option maxRecDepth 100000 in
theorem palantypelaw01_list.calls (A0 : Option Addr) (c0 : Nat) (l0 : List Int) (r : List Int) (w : World) (hr0 : Kd.C (Kd.int .i64) w A0 l0.length l0) (hc0 : l0.length ≤ c0) (h : palantypelaw01_list.f l0 = some r) :
    Calls Try.prog 21 #[.slice A0 l0.length c0] w fun e w' => ∃ v0_ : Value, e = .returned (v0_) ∧ Kd.R (Kd.int .i64) 3 w' w.heap.size (fun _ => True) v0_ r ∧ Below w.heap.size w w' := by
  have hb : l0.length * 8 ≤ 140737488355328 := by
    unfold palantypelaw01_list.f at h
    split at h
    · assumption
    · cases h
  rw [palantypelaw01_list.f, if_pos hb] at h
  obtain rfl := Option.some.inj h
  clear h
  have HR := Aside0.mk hr0
  clear hr0
  go_enter Try.func21, Try.ntmps21
  go_wp2_with (at_builtin; refine Kd.R_append_rows (Kd.int .i64) (Rr := (Kd.int .i64).K w) (w0 := w) w.heap.size rfl (.const (.slice none 0 0)) (.tmp 3) 46 3 (.int .i64 0) 8 rfl Try.underlying46 info3 rfl (by decide) (by decide) (.slice none 0 0) [] l0 A0 l0.length c0 (fun _ => True) (fun k => True) rfl rfl (Kd.R_nil _ _ _ _ _) HR.out (by intro x cs hx; exact hx) (fun k hk => ⟨trivial, fun h => by simp [Value.ownBlock] at h⟩) (fun _ _ => trivial) (Below.refl _ _) (Nat.le_refl _) (by simpa using hb) ?_; intro v1 w1 h1 h2 _ _)
  go_ret
  exact ⟨_, rfl, h1, h2⟩
set_option maxHeartbeats 2000000 in
/-- all(rota, f), f a closure over a working. -/
theorem all58 (A : Option Addr) (c : Nat) (l : List Int) (q : Int → Bool) (p : Value) (w : World) (hr : Kd.C (Kd.int .i64) w A l.length l)
    (hq : ∀ (x : Int) (X : World), x ∈ l → Below w.heap.size w X → Calls Try.prog 59 #[.int .i64 x, p] X fun e w' => e = .returned (.bool (q x)) ∧ Below X.heap.size X w') :
    Calls Try.prog 58 #[.slice A l.length c, .func (.func 59) #[] #[p]] w fun e w' => e = .returned (.bool (l.all q)) ∧ Below w.heap.size w w' := by
  have HB1 := (Below.refl w.heap.size w).alloc (Nat.le_refl _) (.cells #[.func (.func 59) #[] #[p]] 87)
  have hcl : ∀ (x : Int) (X : World), x ∈ l → Below (w.alloc (.cells #[.func (.func 59) #[] #[p]] 87)).heap.size (w.alloc (.cells #[.func (.func 59) #[] #[p]] 87)) X → Calls Try.prog 66 #[.int .i64 x, .pointer (some ⟨w.heap.size, 0, none⟩)] X fun e w' => e = .returned (.bool (!(q x))) ∧ Below X.heap.size X w' := fun x X hx hb => by
    have hbx := blk_below (blk_new w (.cells #[.func (.func 59) #[] #[p]] 87)) hb
    have hc0 : X.cell? ⟨w.heap.size, 0, none⟩ = some (.func (.func 59) #[] #[p]) := (blk_cell hbx 0).trans rfl
    have hlt := blk_lt hbx
    have HBX0 : Below w.heap.size w X := below_then HB1 HB1.size hb
    have HQ := Aside0.mk (hq x X hx HBX0)
    clear hb hq hr HB1 hx HBX0
    go_enter Try.func66, Try.ntmps66
    go_wp2_with (go_at_call 59; refine (HQ.out).mono ?_; rintro e w' ⟨rfl, hb2⟩)
    go_ret
    exact ⟨rfl, hb2⟩
  have HI := Aside0.mk (contains65 A c l (.pointer (some ⟨w.heap.size, 0, none⟩)) (fun x => !(q x)) (w.alloc (.cells #[.func (.func 59) #[] #[p]] 87)) (Kd.C_below hr HB1) hcl)
  have HE := Aside0.mk (any_not q l)
  clear hcl hq hr
  go_enter Try.func58, Try.ntmps58
  go_wp2_with (go_at_call 65; refine HI.out.mono ?_; rintro e w' ⟨rfl, hb⟩)
  go_ret
  exact ⟨by rw [← HE.out]; rfl, HB1.trans (hb.mono (by simp))⟩
def inCrew (W : Wk) (r : Int) : Bool := decide (0 ≤ r ∧ r ≤ (W.C.length : Int) - 1)
def listedP (W : Wk) (l : List Int) : Bool := decide ((l.length : Int) = (W.T.length : Int)) && l.all (inCrew W)
set_option maxHeartbeats 2000000 in
theorem listed59 (W : Wk) (hn : W.Ok) (w : World) (p b : Nat) (h : W.Here w p) (hb : w.heap[b]? = some (.cells #[.pointer (some ⟨p, 0, none⟩)] 90 (0, 0))) (x : Int) :
    Calls Try.prog 59 #[.int .i64 x, .pointer (some ⟨b, 0, none⟩)] w fun e w' => e = .returned (.bool (inCrew W x)) ∧ Below w.heap.size w w' := by
  obtain ⟨A1, n1, c1, lo, sh, AC, cC, AT, cT, hA⟩ := h
  have u4 : w.cell? ⟨p, 4, none⟩ = some (.slice AC W.C.length cC) := (blk_cell hA.blk 4).trans rfl
  have u0 : w.cell? ⟨b, 0, none⟩ = some (.pointer (some ⟨p, 0, none⟩)) := (blk_cell hb 0).trans rfl
  have hc1 := hn.c1
  have hw1 : ∀ X : World, Calls Try.prog 37 #[.int .i64 x, .int .i64 0, .int .i64 ((W.C.length : Int) - 1)] X fun e w' => e = .returned (.bool (inCrew W x)) ∧ Drawn0 X w' := fun X => take_within.calls _ _ _ _ X (within_some _ _ _)
  obtain ⟨q, hq⟩ : ∃ q, q = inCrew W x := ⟨_, rfl⟩
  rw [← hq] at hw1 ⊢
  obtain ⟨n, hnn⟩ : ∃ n, n = W.C.length := ⟨_, rfl⟩
  rw [← hnn] at u4 hc1 hw1
  have HW1 := Aside0.mk hw1
  clear hq hnn hw1 hA hb hn
  go_enter Try.func59, Try.ntmps59
  go_wp2_with (go_at_call 37; refine (HW1.out _).mono ?_; rintro e w' ⟨rfl, ⟨nd, rfl⟩⟩)
  go_ret
  exact ⟨rfl, pw_below_drewN (Below.refl _ _) _⟩
set_option maxHeartbeats 4000000 in
theorem listed45 (W : Wk) (hn : W.Ok) (w : World) (p : Nat) (h : W.Here w p) (A : Option Addr) (c : Nat) (l : List Int) (hr : Kd.C (Kd.int .i64) w A l.length l) :
    Calls Try.prog 45 #[.pointer (some ⟨p, 0, none⟩), .slice A l.length c] w fun e w' => e = .returned (.bool (listedP W l)) ∧ Below w.heap.size w w' := by
  have HB1 := Aside0.mk ((Below.refl w.heap.size w).alloc (Nat.le_refl _) (.cells #[.pointer (some ⟨p, 0, none⟩)] 90))
  have HALL : Aside0 (Calls Try.prog 58 #[.slice A l.length c, .func (.func 59) #[] #[.pointer (some ⟨w.heap.size, 0, none⟩)]] (w.alloc (.cells #[.pointer (some ⟨p, 0, none⟩)] 90)) fun e w' => e = .returned (.bool (l.all (inCrew W))) ∧ Below (w.alloc (.cells #[.pointer (some ⟨p, 0, none⟩)] 90)).heap.size (w.alloc (.cells #[.pointer (some ⟨p, 0, none⟩)] 90)) w') :=
    ⟨all58 A c l (inCrew W) _ _ (Kd.C_below hr HB1.out) (fun x X hx hX => listed59 W hn X p _ ((h.below HB1.out).below hX) (blk_below (blk_new w _) hX) x)⟩
  have hl := hr.2.1
  obtain ⟨A1, n1, c1, lo, sh, AC, cC, AT, cT, hA⟩ := h
  have u7 : w.cell? ⟨p, 7, none⟩ = some (.slice AT W.T.length cT) := (blk_cell hA.blk 7).trans rfl
  have hlt := blk_lt hA.blk
  have hT := hn.t
  have HE : Aside0 (listedP W l = (decide ((l.length : Int) = (W.T.length : Int)) && l.all (inCrew W))) := ⟨rfl⟩
  obtain ⟨q, hq⟩ : ∃ q, q = l.all (inCrew W) := ⟨_, rfl⟩
  obtain ⟨r, hrr⟩ : ∃ r, r = listedP W l := ⟨_, rfl⟩
  rw [← hq] at HALL HE
  rw [← hrr] at HE ⊢
  obtain ⟨nT, hnT⟩ : ∃ n, n = W.T.length := ⟨_, rfl⟩
  obtain ⟨nl, hnl⟩ : ∃ n, n = l.length := ⟨_, rfl⟩
  rw [← hnT] at u7 hT HE
  rw [← hnl] at HALL HE hl ⊢
  clear hq hrr hnT hnl hA hn hr
  by_cases he : nl = nT
  · subst he
    have HE2 : Aside0 (r = q) := ⟨by rw [HE.out, decide_eq_true rfl, Bool.true_and]⟩
    clear HE
    go_enter Try.func45, Try.ntmps45
    go_wp2_with (go_at_call 58; refine (HALL.out).mono ?_; rintro e w' ⟨rfl, hb⟩)
    go_ret
    exact ⟨by rw [HE2.out]; rfl, below_then HB1.out HB1.out.size hb⟩
  · have HE2 : Aside0 (r = false) := ⟨by rw [HE.out, decide_eq_false (by omega), Bool.false_and]⟩
    have heb : ((nl : Int) == (nT : Int)) = false := by simpa using (by omega : ¬ (nl : Int) = nT)
    have HN := Aside0.mk he
    clear HE he
    go_enter Try.func45, Try.ntmps45
    go_wp2_with fail
    go_ret
    exact ⟨by rw [HE2.out]; rfl, HB1.out⟩
def rightFrom (W : Wk) : Sx → List Int → Bool
  | _, [] => true
  | s, r :: t => mayP W s r && rightFrom W (givenP s r) t
def rightP (W : Wk) (l : List Int) : Bool := rightFrom W initP l
set_option maxRecDepth 100000 in
set_option maxHeartbeats 4000000 in
theorem right46 (W : Wk) (hn : W.Ok) (w : World) (p : Nat) (h : W.Here w p) (A : Option Addr) (c : Nat) (l : List Int) (hr : Kd.C (Kd.int .i64) w A l.length l) (hl : l.length ≤ W.T.length) (hin : ∀ r ∈ l, 0 ≤ r ∧ r < W.C.length) :
    Calls Try.prog 46 #[.pointer (some ⟨p, 0, none⟩), .slice A l.length c] w fun e w' => e = .returned (.bool (rightP W l)) ∧ Below w.heap.size w w' := by
  have hT := hn.t
  have hc1 := hn.c1
  have hbg : ∀ X : World, Calls Try.prog 57 #[.slice none 0 0] X fun e w' => e = .returned (.agg #[.int .i64 0, .int .i64 (-1), .int .i64 (-1), .int .i64 (-1), .int .i64 (-1), .int .i64 (-1)]) ∧ Below X.heap.size X w' := fun X => begin57 none 0 [] (by simp) (by simp) X ⟨rfl, by decide, fun h => absurd h (by decide)⟩
  have HR := Aside0.mk hr
  have HH := Aside0.mk h
  have HIN := Aside0.mk hin
  have HN := Aside0.mk hn
  have hlen : l.length ≤ 40 := by omega
  clear hr h hin hn
  go_enter Try.func46, Try.ntmps46
  go_wp2_with (go_at_call 57; refine (hbg _).mono ?_; rintro e w1 ⟨rfl, hb1⟩)
  obtain ⟨B, hB⟩ : ∃ B, B = w1.heap.size := ⟨_, rfl⟩
  have hBw : w.heap.size ≤ B := hB ▸ hb1.size
  have hW2 : Aside0 ((w1.alloc (.cells #[.int .i64 0, .int .i64 (-1), .int .i64 (-1), .int .i64 (-1), .int .i64 (-1), .int .i64 (-1)] 110)).heap[B]? = some (.cells (beginP (l.take 0)).cells 110 (0, 0))) := ⟨by rw [hB]; exact blk_new w1 _⟩
  have hB2 : Aside0 (Below w.heap.size w (w1.alloc (.cells #[.int .i64 0, .int .i64 (-1), .int .i64 (-1), .int .i64 (-1), .int .i64 (-1), .int .i64 (-1)] 110))) := ⟨below_alloc hb1 _⟩
  rw [← hB]
  clear hb1 hB
  go_loopw [11] (fun v11 wr => ∃ k : Nat, k ≤ l.length ∧ v11 = .int .i64 k ∧ Aside0 (wr.heap[B]? = some (.cells (beginP (l.take k)).cells 110 (0, 0))) ∧ Aside0 (rightP W l = rightFrom W (beginP (l.take k)) (l.drop k)) ∧ Aside0 (Below w.heap.size w wr)) (fun v11 _ => l.length - (intOf v11).toNat)
  case atStart => exact ⟨0, Nat.zero_le _, rfl, hW2, ⟨rfl⟩, hB2⟩
  case round =>
    clear hW2 hB2
    obtain ⟨k, hk, rfl, H1, HP, HB⟩ := hrel
    obtain ⟨s, hs⟩ : ∃ s, s = beginP (l.take k) := ⟨_, rfl⟩
    have hsk : s.k = k := by rw [hs, beginP_k, List.length_take]; omega
    rw [← hs] at H1 HP
    by_cases hlt : k < l.length
    · obtain ⟨ad, e, hx0⟩ := at3 HR.out k hlt
      cases e
      replace hx0 := (HB.out.cell (World.block_lt_of_cell? w _ hx0)).trans hx0
      obtain ⟨x, hx⟩ : ∃ x, x = l[k] := ⟨_, rfl⟩
      rw [← hx] at hx0
      have hxr : 0 ≤ x ∧ x < W.C.length := HIN.out x (by rw [hx]; exact List.getElem_mem _)
      have HN1 : beginP (l.take (k + 1)) = givenP s x := by rw [hs, hx, ← beginP_snoc, List.take_append_getElem]
      have hfine : s.Fine := hs ▸ begin_fine _ (fun r hr => by have := HIN.out r (List.mem_of_mem_take hr); omega)
      have hg := hfine.h x hxr.1 (by omega)
      obtain ⟨A1, n1, c1, lo, sh, AC, cC, AT, cT, hA⟩ := HH.out.below HB.out
      have hmv := may53 W HN.out wr p hA s x (by omega) (by omega) hxr.1 hxr.2 hg.1 hg.2
      have hgv := fun X => given55 s x hxr.1 (by omega) (by omega) (by omega) X
      have HPD : Aside0 (rightP W l = (mayP W s x && rightFrom W (givenP s x) (l.drop (k + 1)))) := ⟨by rw [HP.out, drop_cons' l k hlt, rightFrom, hx]⟩
      rw [← HN1] at hgv HPD
      obtain ⟨s1, hs1⟩ : ∃ s1, s1 = beginP (l.take (k + 1)) := ⟨_, rfl⟩
      rw [← hs1] at hgv HPD
      obtain ⟨mv, hmv'⟩ : ∃ m, m = mayP W s x := ⟨_, rfl⟩
      rw [← hmv'] at hmv HPD
      obtain ⟨rv, hrv⟩ : ∃ m, m = rightP W l := ⟨_, rfl⟩
      rw [← hrv] at HPD
      have HC : Aside0 (Calls Try.prog 53 #[.pointer (some ⟨p, 0, none⟩), .agg s.cells, .int .i64 x] wr fun e w' => e = .returned (.bool mv) ∧ Aside0 (w'.heap[B]? = some (.cells s.cells 110 (0, 0))) ∧ Aside0 (Below w.heap.size w w')) :=
        ⟨hmv.mono (fun e w' h => ⟨h.1, ⟨blk_below H1.out h.2⟩, ⟨HB.out.trans (h.2.mono HB.out.size)⟩⟩)⟩
      have HG : Aside0 (∀ X, Calls Try.prog 55 #[.agg s.cells, .int .i64 x] X fun e w' => e = .returned (.agg s1.cells) ∧ Below X.heap.size X w') := ⟨hgv⟩
      have HS1 := Aside0.mk hs1
      have HRV := Aside0.mk hrv
      clear hs hx HN1 hgv hmv hs1 hmv' HP hfine hg hA hrv
      have hsz : s.cells.size = 6 := rfl
      have hsz1 : s1.cells.size = 6 := rfl
      have hone : s1.cells.all (·.oneCell') = true := by simp [Sx.cells, Value.oneCell']
      obtain ⟨cs, hcs⟩ : ∃ cs, cs = s.cells := ⟨_, rfl⟩
      obtain ⟨cs1, hcs1⟩ : ∃ cs, cs = s1.cells := ⟨_, rfl⟩
      rw [← hcs] at H1 HC HG hsz
      rw [← hcs1] at HG hsz1 hone
      have HCS := Aside0.mk hcs1
      clear hcs hcs1
      have hi1 : (Try.prog.info? 110).map (·.size) = some cs.size := by rw [hsz]; kernel_rfl
      have hi2 : (Try.prog.info? 110).map (·.size) = some cs1.size := by rw [hsz1]; kernel_rfl
      have hss : cs.size = cs1.size := hsz.trans hsz1.symm
      have HI := Aside0.mk (show _ ∧ _ ∧ _ ∧ _ from ⟨hi1, hi2, hss, hone⟩)
      clear hi1 hi2 hss hone hsz hsz1
      cases mv with
      | false =>
        have HRV2 : Aside0 (rv = false) := ⟨by rw [HPD.out, Bool.false_and]⟩
        go_wp2_with (first
          | (refine wpList_load_row rfl 110 _ rfl B rfl 110 cs (0, 0) _ H1.out Try.underlying110 rfl HI.out.1 ?_)
          | (go_at_call 53; refine (HC.out).mono ?_; rintro e w' ⟨rfl, H1', HB'⟩))
        go_ret
        exact ⟨by rw [← HRV.out, HRV2.out]; rfl, HB'.out⟩
      | true =>
        have HRV2 : Aside0 (rightP W l = rightFrom W s1 (l.drop (k + 1))) := ⟨by rw [← HRV.out, HPD.out, Bool.true_and]⟩
        clear HRV HPD
        go_wp2_with (first
          | (refine wpList_load_row rfl 110 _ rfl B rfl 110 cs (0, 0) _ H1.out Try.underlying110 rfl HI.out.1 ?_)
          | (go_at_call 53; refine (HC.out).mono ?_; rintro e w' ⟨rfl, H1', HB'⟩)
          | (refine wpList_load_row rfl 110 _ rfl B rfl 110 cs (0, 0) _ H1'.out Try.underlying110 rfl HI.out.1 ?_)
          | (go_at_call 55; refine (HG.out _).mono ?_; rintro e w3 ⟨rfl, hb3⟩; have H13 := Aside0.mk (blk_below H1'.out hb3); have HB3 : Aside0 (Below w.heap.size w w3) := ⟨HB'.out.trans (hb3.mono HB'.out.size)⟩; clear hb3)
          | (refine wpList_store_row rfl 110 _ _ rfl B cs1 rfl rfl 110 cs H13.out HI.out.2.1 HI.out.2.2.1 HI.out.2.2.2 ?_))
        go_roundw
        case rel => exact ⟨k + 1, by omega, by go_num, ⟨by rw [setRow_heap _ _ _ _ _ _ H13.out, HCS.out, HS1.out]⟩, ⟨by rw [← HS1.out]; exact HRV2.out⟩, ⟨below_setRow HB3.out hBw _⟩⟩
        case measure => simp [intOf]; omega
    · have hkl : k = l.length := by omega
      have HE : Aside0 (rightP W l = true) := ⟨by rw [HP.out, List.drop_eq_nil_of_le (by omega), rightFrom]⟩
      clear hs
      go_wp2
      go_ret
      exact ⟨by rw [HE.out]; rfl, HB.out⟩
def proveR (W : Wk) (e : Int) (l : List Int) : Bool := decide (e = 0) && listedP W l && rightP W l
def take_ProveRota.f (a0_0 : Int) (l0_1 : List (S35)) (a0_2 : Int) (a0_3 : Int) (l1_0 : List (S99)) (a1_1 : Int) (a1_2 : Int) (l2 : List Int) : Option (Bool) := some (proveR (wkOf a0_0 l0_1 a0_2 a0_3 l1_0 a1_1 a1_2) (workE a0_0 l0_1 a0_2 a0_3 l1_0 a1_1 a1_2) l2)
theorem listed_parts {W : Wk} {l : List Int} (h : listedP W l = true) : l.length = W.T.length ∧ ∀ r ∈ l, 0 ≤ r ∧ r < W.C.length := by
  simp only [listedP, Bool.and_eq_true, decide_eq_true_eq, List.all_eq_true] at h
  refine ⟨by omega, fun r hr => ?_⟩
  have := h.2 r hr
  simp only [inCrew, decide_eq_true_eq] at this
  omega
set_option maxRecDepth 100000 in
set_option maxHeartbeats 1000000 in
theorem take_ProveRota.calls (a0_0 : Int) (A0_1 : Option Addr) (c0_1 : Nat) (l0_1 : List (S35)) (a0_2 : Int) (a0_3 : Int) (A1_0 : Option Addr) (c1_0 : Nat) (l1_0 : List (S99)) (a1_1 : Int) (a1_2 : Int) (A2 : Option Addr) (c2 : Nat) (l2 : List Int) (r : Bool) (w : World) (hr0_1 : Kd.C k35 w A0_1 l0_1.length l0_1) (hc0_1 : l0_1.length ≤ c0_1) (hr1_0 : Kd.C k99 w A1_0 l1_0.length l1_0) (hc1_0 : l1_0.length ≤ c1_0) (hr2 : Kd.C (Kd.int .i64) w A2 l2.length l2) (hc2 : l2.length ≤ c2) (h : take_ProveRota.f a0_0 l0_1 a0_2 a0_3 l1_0 a1_1 a1_2 l2 = some r) :
    Calls Try.prog 20 #[.agg #[.int .i64 a0_0, .slice A0_1 l0_1.length c0_1, .int .i64 a0_2, .int .i64 a0_3], .agg #[.slice A1_0 l1_0.length c1_0, .int .i64 a1_1, .int .i64 a1_2], .slice A2 l2.length c2] w fun e w' => e = .returned (.bool r) ∧ Below w.heap.size w w' := by
  have hres := Option.some.inj h
  clear h
  obtain ⟨we, hwe⟩ : ∃ x, x = workE a0_0 l0_1 a0_2 a0_3 l1_0 a1_1 a1_2 := ⟨_, rfl⟩
  obtain ⟨W1, hW1⟩ : ∃ X, X = (w.alloc (.cells #[.int .i64 a0_0, .slice A0_1 l0_1.length c0_1, .int .i64 a0_2, .int .i64 a0_3] 32)).alloc (.cells #[.slice A1_0 l1_0.length c1_0, .int .i64 a1_1, .int .i64 a1_2] 52) := ⟨_, rfl⟩
  have hB1 : Below w.heap.size w W1 := hW1 ▸ below_alloc (below_alloc (Below.refl _ _) _) _
  have hwk := work43 a0_0 A0_1 c0_1 l0_1 a0_2 a0_3 A1_0 c1_0 l1_0 a1_1 a1_2 W1 (Kd.C_below hr0_1 hB1) hc0_1 (Kd.C_below hr1_0 hB1) hc1_0
  have hok : we = 0 → (wkOf a0_0 l0_1 a0_2 a0_3 l1_0 a1_1 a1_2).Ok := fun he => wk_ok (hwe.symm.trans he)
  rw [← hwe] at hwk hres
  obtain ⟨W, hW⟩ : ∃ x, x = wkOf a0_0 l0_1 a0_2 a0_3 l1_0 a1_1 a1_2 := ⟨_, rfl⟩
  rw [← hW] at hwk hres hok
  have HB1 := Aside0.mk hB1
  have HR2 := Aside0.mk hr2
  subst hW1
  clear hwe hW hr0_1 hr1_0 hB1 hr2
  by_cases he : we = 0
  · have hn := hok he
    have HWK : Aside0 (Calls Try.prog 43 #[.agg #[.int .i64 a0_0, .slice A0_1 l0_1.length c0_1, .int .i64 a0_2, .int .i64 a0_3], .agg #[.slice A1_0 l1_0.length c1_0, .int .i64 a1_1, .int .i64 a1_2]] _ fun e w' => ∃ p, e = .returned (.tuple #[.pointer (some ⟨p, 0, none⟩), .int .i64 0]) ∧ Aside0 (W.Here w' p ∧ Below w.heap.size w w')) := ⟨hwk.mono (fun e w' h => by
      obtain ⟨h1, ⟨h2, _⟩ | ⟨_, p, h3, h4⟩⟩ := h
      · exact absurd he h2
      · exact ⟨p, h3, ⟨h4, below_then HB1.out HB1.out.size h1⟩⟩)⟩
    rw [proveR, decide_eq_true he, Bool.true_and] at hres
    have HLI : Aside0 (∀ (X : World) (p : Nat), W.Here X p → Below w.heap.size w X → Calls Try.prog 45 #[.pointer (some ⟨p, 0, none⟩), .slice A2 l2.length c2] X fun e w' => e = .returned (.bool (listedP W l2)) ∧ Below X.heap.size X w') := ⟨fun X p hX hb => listed45 W hn X p hX A2 c2 l2 (Kd.C_below HR2.out hb)⟩
    have HRI : Aside0 (listedP W l2 = true → ∀ (X : World) (p : Nat), W.Here X p → Below w.heap.size w X → Calls Try.prog 46 #[.pointer (some ⟨p, 0, none⟩), .slice A2 l2.length c2] X fun e w' => e = .returned (.bool (rightP W l2)) ∧ Below X.heap.size X w') := ⟨fun hl X p hX hb => right46 W hn X p hX A2 c2 l2 (Kd.C_below HR2.out hb) (by have := (listed_parts hl).1; omega) (listed_parts hl).2⟩
    obtain ⟨b1, hb1⟩ : ∃ x, x = listedP W l2 := ⟨_, rfl⟩
    obtain ⟨b2, hb2⟩ : ∃ x, x = rightP W l2 := ⟨_, rfl⟩
    rw [← hb1, ← hb2] at hres
    rw [← hb1] at HLI HRI
    rw [← hb2] at HRI
    have HRES := Aside0.mk hres
    clear hwk hok hres hn he hb1 hb2
    cases b1 with
    | false =>
      have HRES2 : Aside0 (r = false) := ⟨HRES.out.symm⟩
      clear HRES HRI
      go_enter Try.func20, Try.ntmps20
      go_wp2_with (first | (go_at_call 43; refine (HWK.out).mono ?_; rintro e w' ⟨p, rfl, hX⟩) | (go_at_call 45; refine (HLI.out _ p hX.out.1 hX.out.2).mono ?_; rintro e w2 ⟨rfl, hb⟩))
      go_ret
      exact ⟨by rw [HRES2.out]; rfl, hX.out.2.trans (hb.mono hX.out.2.size)⟩
    | true =>
      have HRES2 : Aside0 (r = b2) := ⟨HRES.out.symm⟩
      clear HRES
      go_enter Try.func20, Try.ntmps20
      go_wp2_with (first | (go_at_call 43; refine (HWK.out).mono ?_; rintro e w' ⟨p, rfl, hX⟩) | (go_at_call 45; refine (HLI.out _ p hX.out.1 hX.out.2).mono ?_; rintro e w2 ⟨rfl, hb⟩; have HX2 : Aside0 (W.Here w2 p ∧ Below w.heap.size w w2) := ⟨hX.out.1.below hb, hX.out.2.trans (hb.mono hX.out.2.size)⟩; clear hb) | (go_at_call 46; refine (HRI.out (by first | rfl | trivial) _ p HX2.out.1 HX2.out.2).mono ?_; rintro e w3 ⟨rfl, hb3⟩))
      go_ret
      exact ⟨by rw [HRES2.out]; rfl, HX2.out.2.trans (hb3.mono HX2.out.2.size)⟩
  · have HWK : Aside0 (Calls Try.prog 43 #[.agg #[.int .i64 a0_0, .slice A0_1 l0_1.length c0_1, .int .i64 a0_2, .int .i64 a0_3], .agg #[.slice A1_0 l1_0.length c1_0, .int .i64 a1_1, .int .i64 a1_2]] _ fun e w' => e = .returned (.tuple #[.pointer none, .int .i64 we]) ∧ Aside0 (Below w.heap.size w w')) := ⟨hwk.mono (fun e w' h => by
      obtain ⟨h1, ⟨_, h2⟩ | ⟨h3, _⟩⟩ := h
      · exact ⟨h2, ⟨below_then HB1.out HB1.out.size h1⟩⟩
      · exact absurd h3 he)⟩
    rw [proveR, decide_eq_false he] at hres
    have HRES : Aside0 (r = false) := ⟨by simpa using hres.symm⟩
    have heb : (we == 0) = false := by simpa using he
    clear hwk hok hres
    go_enter Try.func20, Try.ntmps20
    go_wp2_with (first | (go_at_call 43; refine (HWK.out).mono ?_; rintro e w' ⟨rfl, hX⟩))
    go_ret
    exact ⟨by rw [HRES.out]; rfl, hX.out⟩
end Go.Proofs.Ytillieimgjdpbaa.Pr
namespace Go.Proofs.Ytillieimgjdpbaa.Pr
open Go.RowKit Go.Proofs.YtillieimgjdpbaaW.PrintWords
set_option linter.unusedVariables false
set_option linter.unusedSimpArgs false
/-- A right list of reporters from a state on, of the crew, none of them nt. -/
def rightN (W : Wk) (nt : Int) : Sx → List Int → Prop
  | _, [] => True
  | s, r :: t => 0 ≤ r ∧ r < W.C.length ∧ r ≠ nt ∧ mayP W s r = true ∧ rightN W nt (givenP s r) t
theorem allow_of {W : Wk} {nt : Int} {s : Sx} {r : Int} (h0 : 0 ≤ r) (h1 : r ≠ nt) (h2 : mayP W s r = true) : allow W nt s r.toNat = true := by
  have e : ((r.toNat : Nat) : Int) = r := by omega
  rw [allow, e, h2, decide_eq_false h1]; rfl
theorem allow_parts {W : Wk} {nt : Int} {s : Sx} {r : Nat} (h : allow W nt s r = true) : (r : Int) ≠ nt ∧ mayP W s r = true := by
  rw [allow, Bool.and_eq_true] at h
  exact ⟨by simpa using h.1, h.2⟩
theorem top_get (g : Nat → Nat) : ∀ i, top g i = 0 ∨ ∃ r, r < i ∧ top g i = g r
  | 0 => .inl rfl
  | i + 1 => by
    rw [top_succ]
    by_cases h : top g i ≤ g i
    · exact .inr ⟨i, by omega, Nat.max_eq_right h⟩
    · rw [Nat.max_eq_left (by omega)]
      rcases top_get g i with h2 | ⟨r, h2, h3⟩
      · exact .inl h2
      · exact .inr ⟨r, by omega, h3⟩
theorem best_get (W : Wk) (nt : Int) : ∀ (f : Nat) (s : Sx), ∃ c, rightN W nt s c ∧ c.length = best W nt f s
  | 0, s => ⟨[], trivial, rfl⟩
  | f + 1, s => by
    rcases top_get (fun r => if allow W nt s r = true then 1 + best W nt f (givenP s r) else 0) W.C.length with h | ⟨r, h1, h2⟩
    · exact ⟨[], trivial, by rw [best, h]; rfl⟩
    · by_cases ha : allow W nt s r = true
      · obtain ⟨c, hc, hl⟩ := best_get W nt f (givenP s r)
        obtain ⟨p1, p2⟩ := allow_parts ha
        refine ⟨(r : Int) :: c, ⟨by omega, by omega, p1, p2, hc⟩, ?_⟩
        rw [best, h2, if_pos ha, List.length_cons, hl]; omega
      · refine ⟨[], trivial, ?_⟩
        rw [best, h2, if_neg ha]; rfl
theorem first_right (W : Wk) (nt : Int) : ∀ (f : Nat) (s : Sx) (c : List Int), firstF W nt f s = some c → rightN W nt s c
  | 0, s, c, h => by obtain rfl := Option.some.inj h; trivial
  | f + 1, s, c, h => by
    obtain ⟨r, hr, h2⟩ := List.exists_of_findSome?_eq_some h
    rw [List.mem_range] at hr
    by_cases ha : allow W nt s r = true
    · rw [if_pos ha] at h2
      obtain ⟨d, hd, rfl⟩ := Option.map_eq_some_iff.1 h2
      obtain ⟨p1, p2⟩ := allow_parts ha
      exact ⟨by omega, by omega, p1, p2, first_right W nt f _ d hd⟩
    · rw [if_neg ha] at h2; cases h2
/-- Where one may come all the way, the search finds a rota. -/
theorem first_of_best (W : Wk) (nt : Int) : ∀ (f : Nat) (s : Sx) (c : List Int), rightN W nt s c → c.length = f → ∃ d, firstF W nt f s = some d
  | 0, s, c, _, _ => ⟨[], rfl⟩
  | f + 1, s, [], _, h => by simp at h
  | f + 1, s, r :: t, ⟨h0, h1, h2, h3, h4⟩, h => by
    obtain ⟨d, hd⟩ := first_of_best W nt f (givenP s r) t h4 (by simpa using h)
    have e : ((r.toNat : Nat) : Int) = r := by omega
    rw [firstF]
    cases hx : (List.range W.C.length).findSome? fun r => if allow W nt s r = true then (firstF W nt f (givenP s r)).map (fun c => (r : Int) :: c) else none with
    | some d => exact ⟨d, rfl⟩
    | none =>
      rw [List.findSome?_eq_none_iff] at hx
      have := hx r.toNat (by rw [List.mem_range]; omega)
      rw [if_pos (allow_of h0 h2 h3), e, hd] at this
      cases this
theorem rightN_append (W : Wk) (nt : Int) : ∀ (a : List Int) (s : Sx) (b : List Int), rightN W nt s (a ++ b) ↔ rightN W nt s a ∧ rightN W nt (a.foldl givenP s) b
  | [], s, b => by simp [rightN]
  | r :: t, s, b => by
    simp only [List.cons_append, rightN, List.foldl_cons, rightN_append W nt t]
    constructor
    · rintro ⟨h1, h2, h3, h4, h5, h6⟩; exact ⟨⟨h1, h2, h3, h4, h5⟩, h6⟩
    · rintro ⟨⟨h1, h2, h3, h4, h5⟩, h6⟩; exact ⟨h1, h2, h3, h4, h5, h6⟩
/-- What the program calls right. -/
theorem right_of (W : Wk) : ∀ (l : List Int) (s : Sx), (∀ r ∈ l, 0 ≤ r ∧ r < W.C.length) → (rightFrom W s l = true ↔ rightN W (-1) s l)
  | [], s, _ => by simp [rightFrom, rightN]
  | r :: t, s, h => by
    have h0 := h r (by simp)
    rw [rightFrom, rightN, Bool.and_eq_true, right_of W t (givenP s r) (fun q hq => h q (by simp [hq]))]
    constructor
    · rintro ⟨h1, h2⟩; exact ⟨h0.1, h0.2, by omega, h1, h2⟩
    · rintro ⟨_, _, _, h1, h2⟩; exact ⟨h1, h2⟩
theorem rightN_in {W : Wk} {nt : Int} : ∀ {c : List Int} {s : Sx}, rightN W nt s c → ∀ r ∈ c, 0 ≤ r ∧ r < W.C.length ∧ r ≠ nt
  | r :: t, s, ⟨h0, h1, h2, _, h4⟩, q, hq => by
    rcases List.mem_cons.1 hq with rfl | hq
    · exact ⟨h0, h1, h2⟩
    · exact rightN_in h4 q hq
theorem rightN_nt {W : Wk} {nt : Int} : ∀ {c : List Int} {s : Sx}, rightN W nt s c → rightN W (-1) s c
  | [], _, _ => trivial
  | r :: t, s, ⟨h0, h1, h2, h3, h4⟩ => ⟨h0, h1, by omega, h3, rightN_nt h4⟩
theorem rota_listed {W : Wk} {c : List Int} (h : rightN W (-1) initP c) (hl : c.length = W.T.length) : listedP W c = true ∧ rightP W c = true := by
  have hin := rightN_in h
  refine ⟨?_, (right_of W c initP (fun r hr => ⟨(hin r hr).1, (hin r hr).2.1⟩)).2 h⟩
  rw [listedP, decide_eq_true (by omega), Bool.true_and, List.all_eq_true]
  intro r hr
  have := hin r hr
  rw [inCrew, decide_eq_true_eq]
  omega
/-- The program's rota is right. -/
theorem rota_right {W : Wk} (h : ¬ reachP W (-1) [] < W.T.length) : rightN W (-1) initP (rotaP W (-1) []) ∧ (rotaP W (-1) []).length = W.T.length := by
  have hb := best_le W (-1) (W.T.length - ([] : List Int).length) (beginP [])
  have e : best W (-1) W.T.length initP = W.T.length := by
    have h1 : reachP W (-1) [] = ((0 : Nat) : Int) + best W (-1) (W.T.length - 0) initP := rfl
    have h2 : best W (-1) (W.T.length - 0) initP ≤ W.T.length - 0 := hb
    rw [Nat.sub_zero] at h1 h2
    omega
  obtain ⟨c, hc, hl⟩ := best_get W (-1) W.T.length initP
  obtain ⟨d, hd⟩ := first_of_best W (-1) W.T.length initP c hc (by omega)
  have er : rotaP W (-1) [] = d := by
    show [] ++ (firstF W (-1) (W.T.length - 0) initP).getD [] = d
    rw [Nat.sub_zero, hd]; rfl
  rw [er]
  exact ⟨first_right W (-1) _ _ d hd, (first_full W (-1) _ _ d hd).2⟩
end Go.Proofs.Ytillieimgjdpbaa.Pr
namespace Go.Proofs.Ytillieimgjdpbaa.Pr
open Go.RowKit Go.Proofs.YtillieimgjdpbaaW.PrintWords
set_option linter.unusedVariables false
set_option linter.unusedSimpArgs false
theorem winS (n : Int) (h : -9223372036854775808 ≤ n ∧ n ≤ 9223372036854775807) : wrap64 n = n := by unfold wrap64; omega
def to35 (p : S41) : S35 := ⟨p.f0, p.f1⟩
theorem in_some (a b c : Int) : palantyperef01_In.f a b c = some (decide (b ≤ a ∧ a ≤ c)) := by
  unfold palantyperef01_In.f
  by_cases h : a ≥ b
  · rw [if_pos h]; congr 1; simp; omega
  · rw [if_neg h]; congr 1; simp; omega
theorem rd41 (l : List S41) (i : Nat) (h : i < l.length) : rd_T41 l (i : Int) = l[i] := by
  unfold rd_T41
  rw [Int.toNat_natCast, List.getD_eq_getElem?_getD, List.getElem?_eq_getElem h]; rfl
def tailOk (L long short : Int) : Bool := decide (1 ≤ L ∧ L ≤ 36000) && decide (1 ≤ long ∧ long ≤ 1200) && decide (1 ≤ short ∧ short ≤ long)
theorem valid_end (k : Nat) (last : Int) (L : Int) (l : List S41) (long short : Int) : palantyperef01_Valid.l0 (k + 1) last (l.length : Int) L l long short = some (tailOk L long short) := by
  rw [palantyperef01_Valid.l0]
  simp only [Int.lt_irrefl, if_false, in_some, Option.bind_some, tailOk]
  by_cases h1 : 1 ≤ L ∧ L ≤ 36000
  · by_cases h2 : 1 ≤ long ∧ long ≤ 1200
    · simp [h1, h2]
    · simp [h1, h2]
  · simp [h1]
theorem valid_l0 (L : Int) (l : List S41) (long short : Int) (hlen : l.length ≤ 1000000) : ∀ (n i : Nat) (last : Int) (k : Nat), i + n = l.length → -1 ≤ last →
    palantyperef01_Valid.l0 (2 * n + 1 + k) last (i : Int) L l long short = some (pausesOk L last ((l.drop i).map to35) && tailOk L long short)
  | 0, i, last, k, hi, hlast => by
    obtain rfl : i = l.length := by omega
    rw [show 2 * 0 + 1 + k = k + 1 from by omega, valid_end]
    simp [pausesOk]
  | n + 1, i, last, k, hi, hlast => by
    have hlt : i < l.length := by omega
    have hd : l.drop i = l[i] :: l.drop (i + 1) := drop_cons' l i hlt
    rw [show 2 * (n + 1) + 1 + k = ((2 * n + 1 + k) + 1) + 1 from by omega, palantyperef01_Valid.l0, if_pos (by omega), if_pos (by omega), rd41 l i hlt, hd, List.map_cons, pausesOk]
    obtain ⟨p, hp⟩ : ∃ p, p = l[i] := ⟨_, rfl⟩
    rw [← hp]
    have hw : wrap64 ((i : Int) + 1) = ((i + 1 : Nat) : Int) := by rw [winS _ (by omega)]; omega
    have hT : ∀ q : Bool, palantyperef01_Valid.j1 ((2 * n + 1 + k) + 1) (i : Int) q L l long short p.f0 p.f1 = if q = true then some false else palantyperef01_Valid.l0 (2 * n + 1 + k) p.f1 ((i + 1 : Nat) : Int) L l long short := fun q => by rw [palantyperef01_Valid.j1, hw]
    rw [hT, hT]
    by_cases hbad : p.f0 ≤ last ∨ p.f1 ≤ p.f0 ∨ p.f1 > L
    · rw [if_pos (show (to35 p).f0 ≤ last ∨ (to35 p).f1 ≤ (to35 p).f0 ∨ (to35 p).f1 > L from hbad)]
      simp only [if_true, Bool.false_and]
      by_cases h1 : p.f0 ≤ last
      · rw [if_pos h1]
      · rw [if_neg h1]
        by_cases h2 : p.f0 < 0
        · rw [if_pos h2]
        · rw [if_neg h2]
          by_cases h3 : p.f0 ≥ p.f1
          · rw [if_pos h3]
          · rw [if_neg h3, if_pos (by simp; omega)]
    · rw [if_neg (show ¬ ((to35 p).f0 ≤ last ∨ (to35 p).f1 ≤ (to35 p).f0 ∨ (to35 p).f1 > L) from hbad)]
      rw [if_neg (by omega), if_neg (by omega), if_neg (by omega), if_neg (by simp; omega)]
      exact valid_l0 L l long short hlen n (i + 1) p.f1 k (by omega) (by omega)
theorem valid_some (L : Int) (l : List S41) (long short : Int) (hlen : l.length ≤ 1000000) (k : Nat) : palantyperef01_Valid.f (2 * l.length + 1 + k) L l long short = some (sittingOk L (l.map to35) long short) := by
  have := valid_l0 L l long short hlen l.length 0 (-1) k (by omega) (by omega)
  rw [palantyperef01_Valid.f, show (0 : Int) = ((0 : Nat) : Int) from rfl, this]
  congr 1
  simp only [List.drop_zero, sittingOk, tailOk]
  cases pausesOk L (-1) (l.map to35) <;> simp [Bool.and_assoc]
end Go.Proofs.Ytillieimgjdpbaa.Pr
