/- Contracts by hand: the state after a take is given. -/
import Derived.Test.YtillieimgjdpbaaOHh
import Derived.Laws.CopyOwn
namespace Go.Proofs.Ytillieimgjdpbaa.Pr
open Go.RowKit Go.Proofs.YtillieimgjdpbaaW.PrintWords Go.Proofs.YtillieimgjdpbaaW.PrintLast Go.Proofs.YtillieimgjdpbaaW.PrintMore
set_option linter.unusedVariables false
set_option linter.unusedSimpArgs false
def givenP (s : Sx) (r : Int) : Sx :=
  if r = 0 then { s with k := s.k + 1, h0 := s.k } else if r = 1 then { s with k := s.k + 1, h1 := s.k } else if r = 2 then { s with k := s.k + 1, h2 := s.k } else if r = 3 then { s with k := s.k + 1, h3 := s.k } else { s with k := s.k + 1, h4 := s.k }
set_option maxHeartbeats 2000000 in
theorem given55 (s : Sx) (r : Int) (r0 : 0 ≤ r) (r1 : r < 5) (k0 : 0 ≤ s.k) (k1 : s.k ≤ 40) (w : World) :
    Calls Try.prog 55 #[.agg s.cells, .int .i64 r] w fun e w' => e = .returned (.agg (givenP s r).cells) ∧ Below w.heap.size w w' := by
  obtain ⟨k, h0, h1, h2, h3, h4⟩ := s
  have HB := Aside0.mk (below_alloc (below_alloc (Below.refl w.heap.size w) (.cells #[.int .i64 k, .int .i64 h0, .int .i64 h1, .int .i64 h2, .int .i64 h3, .int .i64 h4] 110)) (.cells #[.int .i64 0, .int .i64 0, .int .i64 0, .int .i64 0, .int .i64 0, .int .i64 0] 110))
  have hw : wrap64 (k + 1) = k + 1 := win _ (by simp only at k0 k1; omega)
  simp only [Sx.cells]
  obtain rfl | rfl | rfl | rfl | rfl : r = 0 ∨ r = 1 ∨ r = 2 ∨ r = 3 ∨ r = 4 := by omega
  all_goals
    go_enter Try.func55, Try.ntmps55
    go_wp2_with fail
    refine bodyPost_ret (results_cell_row rfl _ _ (w.heap.size + 1) 110 _ (0, 0) _ rfl (heap_alloc2_new _ _ _) Try.underlying110 rfl (by kernel_rfl)) rfl ?_
    exact ⟨rfl, below_alloc (below_alloc (Below.refl _ _) _) _⟩
/-- The state ahead of all takes, and when some are given. -/
def initN (i : Nat) : Sx := ⟨0, if 0 < i then -1 else 0, if 1 < i then -1 else 0, if 2 < i then -1 else 0, if 3 < i then -1 else 0, if 4 < i then -1 else 0⟩
def initP : Sx := ⟨0, -1, -1, -1, -1, -1⟩
def beginP (l : List Int) : Sx := l.foldl givenP initP
theorem givenP_k (s : Sx) (r : Int) : (givenP s r).k = s.k + 1 := by unfold givenP; split <;> (try split) <;> (try split) <;> (try split) <;> rfl
theorem beginP_snoc (l : List Int) (r : Int) : beginP (l ++ [r]) = givenP (beginP l) r := by simp [beginP]
theorem beginP_k (l : List Int) : (beginP l).k = l.length := by
  suffices h : ∀ (l : List Int) (s : Sx), (l.foldl givenP s).k = s.k + l.length by rw [beginP, h]; simp [initP]
  intro l
  induction l with
  | nil => intro s; simp
  | cons r t ih => intro s; rw [List.foldl_cons, ih, givenP_k]; simp; omega
set_option maxHeartbeats 4000000 in
theorem begin57 (A : Option Addr) (c : Nat) (l : List Int) (hl : l.length ≤ 40) (hr : ∀ r ∈ l, 0 ≤ r ∧ r < 5) (w : World) (h : Kd.C (Kd.int .i64) w A l.length l) :
    Calls Try.prog 57 #[.slice A l.length c] w fun e w' => e = .returned (.agg (beginP l).cells) ∧ Below w.heap.size w w' := by
  have HB := Aside0.mk (below_alloc (below_alloc (Below.refl w.heap.size w) (.cells initP.cells 110)) (.cells initP.cells 110))
  have hlen : l.length ≤ 9223372036854775807 := h.2.1
  have HR := Aside0.mk h
  clear h
  go_enter Try.func57, Try.ntmps57
  go_wp2_with fail
  go_loopw [4, 7] (fun v4 v7 wr => ∃ i : Int, 0 ≤ i ∧ i ≤ 5 ∧ v7 = .int .i64 i ∧ wr = (w.alloc (.cells #[.int .i64 0, .int .i64 0, .int .i64 0, .int .i64 0, .int .i64 0, .int .i64 0] 110)).alloc (.cells (initN i.toNat).cells 110)) (fun _ v7 _ => 5 - (intOf v7).toNat)
  case atStart => exact ⟨0, by omega, by omega, rfl, rfl⟩
  case round =>
    obtain ⟨i, hi0, hi, rfl, rfl⟩ := hrel
    obtain rfl | rfl | rfl | rfl | rfl | rfl : i = 0 ∨ i = 1 ∨ i = 2 ∨ i = 3 ∨ i = 4 ∨ i = 5 := by omega
    · rw [show (initN (0 : Int).toNat).cells = #[.int .i64 0, .int .i64 0, .int .i64 0, .int .i64 0, .int .i64 0, .int .i64 0] from rfl]
      go_wp2_with fail
      go_roundw
      case rel => exact ⟨1, by omega, by omega, by go_num, rfl⟩
      case measure => simp [intOf]
    · rw [show (initN (1 : Int).toNat).cells = #[.int .i64 0, .int .i64 (-1), .int .i64 0, .int .i64 0, .int .i64 0, .int .i64 0] from rfl]
      go_wp2_with fail
      go_roundw
      case rel => exact ⟨2, by omega, by omega, by go_num, rfl⟩
      case measure => simp [intOf]
    · rw [show (initN (2 : Int).toNat).cells = #[.int .i64 0, .int .i64 (-1), .int .i64 (-1), .int .i64 0, .int .i64 0, .int .i64 0] from rfl]
      go_wp2_with fail
      go_roundw
      case rel => exact ⟨3, by omega, by omega, by go_num, rfl⟩
      case measure => simp [intOf]
    · rw [show (initN (3 : Int).toNat).cells = #[.int .i64 0, .int .i64 (-1), .int .i64 (-1), .int .i64 (-1), .int .i64 0, .int .i64 0] from rfl]
      go_wp2_with fail
      go_roundw
      case rel => exact ⟨4, by omega, by omega, by go_num, rfl⟩
      case measure => simp [intOf]
    · rw [show (initN (4 : Int).toNat).cells = #[.int .i64 0, .int .i64 (-1), .int .i64 (-1), .int .i64 (-1), .int .i64 (-1), .int .i64 0] from rfl]
      go_wp2_with fail
      go_roundw
      case rel => exact ⟨5, by omega, by omega, by go_num, rfl⟩
      case measure => simp [intOf]
    · rw [show (initN (5 : Int).toNat).cells = #[.int .i64 0, .int .i64 (-1), .int .i64 (-1), .int .i64 (-1), .int .i64 (-1), .int .i64 (-1)] from rfl]
      go_wp2_with fail
      have hB0 := Aside0.mk (below_alloc (below_alloc (Below.refl w.heap.size w) (.cells #[.int .i64 0, .int .i64 0, .int .i64 0, .int .i64 0, .int .i64 0, .int .i64 0] 110)) (.cells #[.int .i64 0, .int .i64 (-1), .int .i64 (-1), .int .i64 (-1), .int .i64 (-1), .int .i64 (-1)] 110))
      have hK1 : ((w.alloc (.cells #[.int .i64 0, .int .i64 0, .int .i64 0, .int .i64 0, .int .i64 0, .int .i64 0] 110)).alloc (.cells #[.int .i64 0, .int .i64 (-1), .int .i64 (-1), .int .i64 (-1), .int .i64 (-1), .int .i64 (-1)] 110)).heap[w.heap.size + 1]? = some (.cells (beginP (l.take 0)).cells 110 (0, 0)) := heap_alloc2_new _ _ _
      have hK0 : ((w.alloc (.cells #[.int .i64 0, .int .i64 0, .int .i64 0, .int .i64 0, .int .i64 0, .int .i64 0] 110)).alloc (.cells #[.int .i64 0, .int .i64 (-1), .int .i64 (-1), .int .i64 (-1), .int .i64 (-1), .int .i64 (-1)] 110)).heap[w.heap.size]? = some (.cells #[.int .i64 0, .int .i64 0, .int .i64 0, .int .i64 0, .int .i64 0, .int .i64 0] 110 (0, 0)) := heap_alloc2_old _ _ _
      go_loopw [16] (fun v16 wr => ∃ k : Nat, k ≤ l.length ∧ v16 = .int .i64 k ∧ Aside0 (wr.heap[w.heap.size + 1]? = some (.cells (beginP (l.take k)).cells 110 (0, 0))) ∧ Aside0 (wr.heap[w.heap.size]? = some (.cells #[.int .i64 0, .int .i64 0, .int .i64 0, .int .i64 0, .int .i64 0, .int .i64 0] 110 (0, 0))) ∧ Aside0 (Below w.heap.size w wr)) (fun v16 _ => l.length - (intOf v16).toNat)
      case atStart => exact ⟨0, Nat.zero_le _, rfl, ⟨hK1⟩, ⟨hK0⟩, hB0⟩
      case round =>
        clear hK0 hK1 hB0
        obtain ⟨k, hk, rfl, H1, H0, HB⟩ := hrel
        obtain ⟨s, hs⟩ : ∃ s, s = beginP (l.take k) := ⟨_, rfl⟩
        have hsk : s.k = k := by rw [hs, beginP_k, List.length_take]; omega
        rw [← hs] at H1
        by_cases hlt : k < l.length
        · obtain ⟨ad, e, hx0⟩ := at3 HR.out k hlt
          cases e
          replace hx0 := (HB.out.cell (World.block_lt_of_cell? w _ hx0)).trans hx0
          obtain ⟨x, hx⟩ : ∃ x, x = l[k] := ⟨_, rfl⟩
          rw [← hx] at hx0
          have hxr : 0 ≤ x ∧ x < 5 := hr x (by rw [hx]; exact List.getElem_mem _)
          have HN : beginP (l.take (k + 1)) = givenP s x := by rw [hs, hx, ← beginP_snoc, List.take_append_getElem]
          have hgv := given55 s x hxr.1 hxr.2 (by omega) (by omega) wr
          rw [← HN] at hgv
          obtain ⟨s1, hs1⟩ : ∃ s1, s1 = beginP (l.take (k + 1)) := ⟨_, rfl⟩
          rw [← hs1] at hgv
          have HN1 := Aside0.mk hs1
          have HC : Aside0 (Calls Try.prog 55 #[.agg s.cells, .int .i64 x] wr fun e w' => e = .returned (.agg s1.cells) ∧ Aside0 (w'.heap[w.heap.size + 1]? = some (.cells s.cells 110 (0, 0))) ∧ Aside0 (w'.heap[w.heap.size]? = some (.cells #[.int .i64 0, .int .i64 0, .int .i64 0, .int .i64 0, .int .i64 0, .int .i64 0] 110 (0, 0))) ∧ Aside0 (Below w.heap.size w w')) :=
            ⟨hgv.mono (fun e w' h => ⟨h.1, ⟨blk_below H1.out h.2⟩, ⟨blk_below H0.out h.2⟩, ⟨HB.out.trans (h.2.mono HB.out.size)⟩⟩)⟩
          clear hs hx hs1 HN hgv
          have hsz : s.cells.size = 6 := rfl
          have hsz1 : s1.cells.size = 6 := rfl
          have hone : s1.cells.all (·.oneCell') = true := by simp [Sx.cells, Value.oneCell']
          obtain ⟨cs, hcs⟩ : ∃ cs, cs = s.cells := ⟨_, rfl⟩
          obtain ⟨cs1, hcs1⟩ : ∃ cs, cs = s1.cells := ⟨_, rfl⟩
          rw [← hcs] at H1 HC hsz
          rw [← hcs1] at HC hsz1 hone
          have HCS := Aside0.mk hcs1
          clear hcs hcs1
          have hi1 : (Try.prog.info? 110).map (·.size) = some cs.size := by rw [hsz]; kernel_rfl
          have hi2 : (Try.prog.info? 110).map (·.size) = some cs1.size := by rw [hsz1]; kernel_rfl
          have hss : cs.size = cs1.size := hsz.trans hsz1.symm
          have HI := Aside0.mk (show _ ∧ _ ∧ _ ∧ _ from ⟨hi1, hi2, hss, hone⟩)
          clear hi1 hi2 hss hone hsz hsz1
          go_wp2_with (first
            | (refine wpList_load_row rfl 110 _ rfl (w.heap.size + 1) rfl 110 cs (0, 0) _ H1.out Try.underlying110 rfl HI.out.1 ?_)
            | (go_at_call 55; refine (HC.out).mono ?_; rintro e w' ⟨rfl, H1', H0', HB'⟩)
            | (refine wpList_store_row rfl 110 _ _ rfl (w.heap.size + 1) cs1 rfl rfl 110 cs H1'.out HI.out.2.1 HI.out.2.2.1 HI.out.2.2.2 ?_))
          go_roundw
          case rel => exact ⟨k + 1, by omega, by go_num, ⟨by rw [setRow_heap _ _ _ _ _ _ H1'.out, HCS.out, HN1.out]⟩, ⟨(setRow_other _ _ _ _ (by omega)).trans H0'.out⟩, ⟨below_setRow HB'.out (by omega) _⟩⟩
          case measure => simp [intOf]; omega
        · have hkl : k = l.length := by omega
          have HE : Aside0 (s = beginP l) := ⟨by rw [hs, hkl, List.take_length]⟩
          clear hs
          have hsz : s.cells.size = 6 := rfl
          have hone : s.cells.all (·.oneCell') = true := by simp [Sx.cells, Value.oneCell']
          obtain ⟨cs, hcs⟩ : ∃ cs, cs = s.cells := ⟨_, rfl⟩
          rw [← hcs] at H1 hsz hone
          have HCS := Aside0.mk hcs
          clear hcs
          have hi1 : (Try.prog.info? 110).map (·.size) = some cs.size := by rw [hsz]; kernel_rfl
          have hss : (#[.int .i64 0, .int .i64 0, .int .i64 0, .int .i64 0, .int .i64 0, .int .i64 0] : Array Value).size = cs.size := by rw [hsz]; rfl
          have HI := Aside0.mk (show _ ∧ _ ∧ _ from ⟨hi1, hss, hone⟩)
          clear hi1 hss hone hsz
          go_wp2_with (first
            | (refine wpList_load_row rfl 110 _ rfl (w.heap.size + 1) rfl 110 cs (0, 0) _ H1.out Try.underlying110 rfl HI.out.1 ?_)
            | (refine wpList_store_row rfl 110 _ _ rfl w.heap.size cs rfl rfl 110 #[.int .i64 0, .int .i64 0, .int .i64 0, .int .i64 0, .int .i64 0, .int .i64 0] H0.out HI.out.1 HI.out.2.1 HI.out.2.2 ?_))
          refine bodyPost_ret (results_cell_row rfl _ _ w.heap.size 110 _ (0, 0) _ rfl (setRow_heap _ _ _ _ _ _ H0.out) Try.underlying110 rfl HI.out.1) rfl ?_
          exact ⟨by rw [HCS.out, HE.out], below_setRow HB.out (Nat.le_refl _) _⟩
end Go.Proofs.Ytillieimgjdpbaa.Pr
