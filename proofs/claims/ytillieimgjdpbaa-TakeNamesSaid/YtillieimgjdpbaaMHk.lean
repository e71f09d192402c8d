/- The search for a rota, in plain Lean; what the search's worlds keep. -/
import Derived.Test.YtillieimgjdpbaaMHh
import Derived.Laws.CopyOwn
import Derived.Maps.OwnOps
import Derived.DeepKeys4
namespace Go.Proofs.Ytillieimgjdpbaa.Pr
open Go.RowKit Go.Proofs.YtillieimgjdpbaaW.PrintWords Go.Proofs.YtillieimgjdpbaaW.PrintLast Go.Proofs.YtillieimgjdpbaaW.PrintMore
set_option linter.unusedVariables false
set_option linter.unusedSimpArgs false
def givenP (s : Sx) (r : Int) : Sx :=
  if r = 0 then { s with k := s.k + 1, h0 := s.k } else if r = 1 then { s with k := s.k + 1, h1 := s.k } else if r = 2 then { s with k := s.k + 1, h2 := s.k } else if r = 3 then { s with k := s.k + 1, h3 := s.k } else { s with k := s.k + 1, h4 := s.k }
set_option maxHeartbeats 2000000 in
theorem given55 (s : Sx) (r : Int) (r0 : 0 ≤ r) (r1 : r < 5) (k0 : 0 ≤ s.k) (k1 : s.k ≤ 40) (w : World) :
    Calls Try.prog 55 #[.agg s.cells, .int .i64 r] w fun e w' => e = .returned (.agg (givenP s r).cells) ∧ Below w.heap.size w w' := by
  obtain ⟨k, h0, h1, h2, h3, h4⟩ := s
  have HB := Aside0.mk (below_alloc (below_alloc (Below.refl w.heap.size w) (.cells #[.int .i64 k, .int .i64 h0, .int .i64 h1, .int .i64 h2, .int .i64 h3, .int .i64 h4] 110)) (.cells #[.int .i64 0, .int .i64 0, .int .i64 0, .int .i64 0, .int .i64 0, .int .i64 0] 110))
  have hw : wrap64 (k + 1) = k + 1 := win _ (by simp only at k0 k1; omega)
  simp only [Sx.cells]
  obtain rfl | rfl | rfl | rfl | rfl : r = 0 ∨ r = 1 ∨ r = 2 ∨ r = 3 ∨ r = 4 := by omega
  all_goals
    go_enter Try.func55, Try.ntmps55
    go_wp2_with fail
    refine bodyPost_ret (results_cell_row rfl _ _ (w.heap.size + 1) 110 _ (0, 0) _ rfl (heap_alloc2_new _ _ _) Try.underlying110 rfl (by kernel_rfl)) rfl ?_
    exact ⟨rfl, below_alloc (below_alloc (Below.refl _ _) _) _⟩
/-- The state ahead of all takes, and when some are given. -/
def initN (i : Nat) : Sx := ⟨0, if 0 < i then -1 else 0, if 1 < i then -1 else 0, if 2 < i then -1 else 0, if 3 < i then -1 else 0, if 4 < i then -1 else 0⟩
def initP : Sx := ⟨0, -1, -1, -1, -1, -1⟩
def beginP (l : List Int) : Sx := l.foldl givenP initP
theorem givenP_k (s : Sx) (r : Int) : (givenP s r).k = s.k + 1 := by unfold givenP; split <;> (try split) <;> (try split) <;> (try split) <;> rfl
theorem beginP_snoc (l : List Int) (r : Int) : beginP (l ++ [r]) = givenP (beginP l) r := by simp [beginP]
theorem beginP_k (l : List Int) : (beginP l).k = l.length := by
  suffices h : ∀ (l : List Int) (s : Sx), (l.foldl givenP s).k = s.k + l.length by rw [beginP, h]; simp [initP]
  intro l
  induction l with
  | nil => intro s; simp
  | cons r t ih => intro s; rw [List.foldl_cons, ih, givenP_k]; simp; omega
set_option maxHeartbeats 4000000 in
theorem begin57 (A : Option Addr) (c : Nat) (l : List Int) (hl : l.length ≤ 40) (hr : ∀ r ∈ l, 0 ≤ r ∧ r < 5) (w : World) (h : Kd.C (Kd.int .i64) w A l.length l) :
    Calls Try.prog 57 #[.slice A l.length c] w fun e w' => e = .returned (.agg (beginP l).cells) ∧ Below w.heap.size w w' := by
  have HB := Aside0.mk (below_alloc (below_alloc (Below.refl w.heap.size w) (.cells initP.cells 110)) (.cells initP.cells 110))
  have hlen : l.length ≤ 9223372036854775807 := h.2.1
  have HR := Aside0.mk h
  clear h
  go_enter Try.func57, Try.ntmps57
  go_wp2_with fail
  go_loopw [4, 7] (fun v4 v7 wr => ∃ i : Int, 0 ≤ i ∧ i ≤ 5 ∧ v7 = .int .i64 i ∧ wr = (w.alloc (.cells #[.int .i64 0, .int .i64 0, .int .i64 0, .int .i64 0, .int .i64 0, .int .i64 0] 110)).alloc (.cells (initN i.toNat).cells 110)) (fun _ v7 _ => 5 - (intOf v7).toNat)
  case atStart => exact ⟨0, by omega, by omega, rfl, rfl⟩
  case round =>
    obtain ⟨i, hi0, hi, rfl, rfl⟩ := hrel
    obtain rfl | rfl | rfl | rfl | rfl | rfl : i = 0 ∨ i = 1 ∨ i = 2 ∨ i = 3 ∨ i = 4 ∨ i = 5 := by omega
    · rw [show (initN (0 : Int).toNat).cells = #[.int .i64 0, .int .i64 0, .int .i64 0, .int .i64 0, .int .i64 0, .int .i64 0] from rfl]
      go_wp2_with fail
      go_roundw
      case rel => exact ⟨1, by omega, by omega, by go_num, rfl⟩
      case measure => simp [intOf]
    · rw [show (initN (1 : Int).toNat).cells = #[.int .i64 0, .int .i64 (-1), .int .i64 0, .int .i64 0, .int .i64 0, .int .i64 0] from rfl]
      go_wp2_with fail
      go_roundw
      case rel => exact ⟨2, by omega, by omega, by go_num, rfl⟩
      case measure => simp [intOf]
    · rw [show (initN (2 : Int).toNat).cells = #[.int .i64 0, .int .i64 (-1), .int .i64 (-1), .int .i64 0, .int .i64 0, .int .i64 0] from rfl]
      go_wp2_with fail
      go_roundw
      case rel => exact ⟨3, by omega, by omega, by go_num, rfl⟩
      case measure => simp [intOf]
    · rw [show (initN (3 : Int).toNat).cells = #[.int .i64 0, .int .i64 (-1), .int .i64 (-1), .int .i64 (-1), .int .i64 0, .int .i64 0] from rfl]
      go_wp2_with fail
      go_roundw
      case rel => exact ⟨4, by omega, by omega, by go_num, rfl⟩
      case measure => simp [intOf]
    · rw [show (initN (4 : Int).toNat).cells = #[.int .i64 0, .int .i64 (-1), .int .i64 (-1), .int .i64 (-1), .int .i64 (-1), .int .i64 0] from rfl]
      go_wp2_with fail
      go_roundw
      case rel => exact ⟨5, by omega, by omega, by go_num, rfl⟩
      case measure => simp [intOf]
    · rw [show (initN (5 : Int).toNat).cells = #[.int .i64 0, .int .i64 (-1), .int .i64 (-1), .int .i64 (-1), .int .i64 (-1), .int .i64 (-1)] from rfl]
      go_wp2_with fail
      have hB0 := Aside0.mk (below_alloc (below_alloc (Below.refl w.heap.size w) (.cells #[.int .i64 0, .int .i64 0, .int .i64 0, .int .i64 0, .int .i64 0, .int .i64 0] 110)) (.cells #[.int .i64 0, .int .i64 (-1), .int .i64 (-1), .int .i64 (-1), .int .i64 (-1), .int .i64 (-1)] 110))
      have hK1 : ((w.alloc (.cells #[.int .i64 0, .int .i64 0, .int .i64 0, .int .i64 0, .int .i64 0, .int .i64 0] 110)).alloc (.cells #[.int .i64 0, .int .i64 (-1), .int .i64 (-1), .int .i64 (-1), .int .i64 (-1), .int .i64 (-1)] 110)).heap[w.heap.size + 1]? = some (.cells (beginP (l.take 0)).cells 110 (0, 0)) := heap_alloc2_new _ _ _
      have hK0 : ((w.alloc (.cells #[.int .i64 0, .int .i64 0, .int .i64 0, .int .i64 0, .int .i64 0, .int .i64 0] 110)).alloc (.cells #[.int .i64 0, .int .i64 (-1), .int .i64 (-1), .int .i64 (-1), .int .i64 (-1), .int .i64 (-1)] 110)).heap[w.heap.size]? = some (.cells #[.int .i64 0, .int .i64 0, .int .i64 0, .int .i64 0, .int .i64 0, .int .i64 0] 110 (0, 0)) := heap_alloc2_old _ _ _
      go_loopw [16] (fun v16 wr => ∃ k : Nat, k ≤ l.length ∧ v16 = .int .i64 k ∧ Aside0 (wr.heap[w.heap.size + 1]? = some (.cells (beginP (l.take k)).cells 110 (0, 0))) ∧ Aside0 (wr.heap[w.heap.size]? = some (.cells #[.int .i64 0, .int .i64 0, .int .i64 0, .int .i64 0, .int .i64 0, .int .i64 0] 110 (0, 0))) ∧ Aside0 (Below w.heap.size w wr)) (fun v16 _ => l.length - (intOf v16).toNat)
      case atStart => exact ⟨0, Nat.zero_le _, rfl, ⟨hK1⟩, ⟨hK0⟩, hB0⟩
      case round =>
        clear hK0 hK1 hB0
        obtain ⟨k, hk, rfl, H1, H0, HB⟩ := hrel
        obtain ⟨s, hs⟩ : ∃ s, s = beginP (l.take k) := ⟨_, rfl⟩
        have hsk : s.k = k := by rw [hs, beginP_k, List.length_take]; omega
        rw [← hs] at H1
        by_cases hlt : k < l.length
        · obtain ⟨ad, e, hx0⟩ := at3 HR.out k hlt
          cases e
          replace hx0 := (HB.out.cell (World.block_lt_of_cell? w _ hx0)).trans hx0
          obtain ⟨x, hx⟩ : ∃ x, x = l[k] := ⟨_, rfl⟩
          rw [← hx] at hx0
          have hxr : 0 ≤ x ∧ x < 5 := hr x (by rw [hx]; exact List.getElem_mem _)
          have HN : beginP (l.take (k + 1)) = givenP s x := by rw [hs, hx, ← beginP_snoc, List.take_append_getElem]
          have hgv := given55 s x hxr.1 hxr.2 (by omega) (by omega) wr
          rw [← HN] at hgv
          obtain ⟨s1, hs1⟩ : ∃ s1, s1 = beginP (l.take (k + 1)) := ⟨_, rfl⟩
          rw [← hs1] at hgv
          have HN1 := Aside0.mk hs1
          have HC : Aside0 (Calls Try.prog 55 #[.agg s.cells, .int .i64 x] wr fun e w' => e = .returned (.agg s1.cells) ∧ Aside0 (w'.heap[w.heap.size + 1]? = some (.cells s.cells 110 (0, 0))) ∧ Aside0 (w'.heap[w.heap.size]? = some (.cells #[.int .i64 0, .int .i64 0, .int .i64 0, .int .i64 0, .int .i64 0, .int .i64 0] 110 (0, 0))) ∧ Aside0 (Below w.heap.size w w')) :=
            ⟨hgv.mono (fun e w' h => ⟨h.1, ⟨blk_below H1.out h.2⟩, ⟨blk_below H0.out h.2⟩, ⟨HB.out.trans (h.2.mono HB.out.size)⟩⟩)⟩
          clear hs hx hs1 HN hgv
          have hsz : s.cells.size = 6 := rfl
          have hsz1 : s1.cells.size = 6 := rfl
          have hone : s1.cells.all (·.oneCell') = true := by simp [Sx.cells, Value.oneCell']
          obtain ⟨cs, hcs⟩ : ∃ cs, cs = s.cells := ⟨_, rfl⟩
          obtain ⟨cs1, hcs1⟩ : ∃ cs, cs = s1.cells := ⟨_, rfl⟩
          rw [← hcs] at H1 HC hsz
          rw [← hcs1] at HC hsz1 hone
          have HCS := Aside0.mk hcs1
          clear hcs hcs1
          have hi1 : (Try.prog.info? 110).map (·.size) = some cs.size := by rw [hsz]; kernel_rfl
          have hi2 : (Try.prog.info? 110).map (·.size) = some cs1.size := by rw [hsz1]; kernel_rfl
          have hss : cs.size = cs1.size := hsz.trans hsz1.symm
          have HI := Aside0.mk (show _ ∧ _ ∧ _ ∧ _ from ⟨hi1, hi2, hss, hone⟩)
          clear hi1 hi2 hss hone hsz hsz1
          go_wp2_with (first
            | (refine wpList_load_row rfl 110 _ rfl (w.heap.size + 1) rfl 110 cs (0, 0) _ H1.out Try.underlying110 rfl HI.out.1 ?_)
            | (go_at_call 55; refine (HC.out).mono ?_; rintro e w' ⟨rfl, H1', H0', HB'⟩)
            | (refine wpList_store_row rfl 110 _ _ rfl (w.heap.size + 1) cs1 rfl rfl 110 cs H1'.out HI.out.2.1 HI.out.2.2.1 HI.out.2.2.2 ?_))
          go_roundw
          case rel => exact ⟨k + 1, by omega, by go_num, ⟨by rw [setRow_heap _ _ _ _ _ _ H1'.out, HCS.out, HN1.out]⟩, ⟨(setRow_other _ _ _ _ (by omega)).trans H0'.out⟩, ⟨below_setRow HB'.out (by omega) _⟩⟩
          case measure => simp [intOf]; omega
        · have hkl : k = l.length := by omega
          have HE : Aside0 (s = beginP l) := ⟨by rw [hs, hkl, List.take_length]⟩
          clear hs
          have hsz : s.cells.size = 6 := rfl
          have hone : s.cells.all (·.oneCell') = true := by simp [Sx.cells, Value.oneCell']
          obtain ⟨cs, hcs⟩ : ∃ cs, cs = s.cells := ⟨_, rfl⟩
          rw [← hcs] at H1 hsz hone
          have HCS := Aside0.mk hcs
          clear hcs
          have hi1 : (Try.prog.info? 110).map (·.size) = some cs.size := by rw [hsz]; kernel_rfl
          have hss : (#[.int .i64 0, .int .i64 0, .int .i64 0, .int .i64 0, .int .i64 0, .int .i64 0] : Array Value).size = cs.size := by rw [hsz]; rfl
          have HI := Aside0.mk (show _ ∧ _ ∧ _ from ⟨hi1, hss, hone⟩)
          clear hi1 hss hone hsz
          go_wp2_with (first
            | (refine wpList_load_row rfl 110 _ rfl (w.heap.size + 1) rfl 110 cs (0, 0) _ H1.out Try.underlying110 rfl HI.out.1 ?_)
            | (refine wpList_store_row rfl 110 _ _ rfl w.heap.size cs rfl rfl 110 #[.int .i64 0, .int .i64 0, .int .i64 0, .int .i64 0, .int .i64 0, .int .i64 0] H0.out HI.out.1 HI.out.2.1 HI.out.2.2 ?_))
          refine bodyPost_ret (results_cell_row rfl _ _ w.heap.size 110 _ (0, 0) _ rfl (setRow_heap _ _ _ _ _ _ H0.out) Try.underlying110 rfl HI.out.1) rfl ?_
          exact ⟨by rw [HCS.out, HE.out], below_setRow HB.out (Nat.le_refl _) _⟩
end Go.Proofs.Ytillieimgjdpbaa.Pr
namespace Go.Proofs.Ytillieimgjdpbaa.Pr
open Go.RowKit Go.Proofs.YtillieimgjdpbaaW.PrintWords Go.Proofs.YtillieimgjdpbaaW.PrintLast Go.Proofs.YtillieimgjdpbaaW.PrintMore
open Go.WideElems (Fit)
open Go.Maps (Keyed)
open Go.MapKept
open Go.ChangeMaps
set_option linter.unusedVariables false
set_option linter.unusedSimpArgs false
theorem laid110 : laidOutB Try.prog = true := by kernel_rfl
theorem row110 : 110 < Try.prog.types.size := of_decide_eq_true (by kernel_rfl)
theorem kt110 : Try.prog.keyTypeAt 3 110 = true := by kernel_rfl
theorem law110 : Keyed Try.prog 110 := Keyed.of_law (deep_law_laid laid110 (m := 3) (by omega) row110 kt110 (by rw [Try.underlying110]))
/-- A state that may be met. -/
structure Sx.Ok (s : Sx) : Prop where
  k0 : 0 ≤ s.k
  k1 : s.k ≤ 40
  h : ∀ r : Int, 0 ≤ r → r < 5 → -1 ≤ s.get r ∧ s.get r ≤ 40
theorem Sx.Ok.all {s : Sx} (h : s.Ok) : (-1 ≤ s.h0 ∧ s.h0 ≤ 40) ∧ (-1 ≤ s.h1 ∧ s.h1 ≤ 40) ∧ (-1 ≤ s.h2 ∧ s.h2 ≤ 40) ∧ (-1 ≤ s.h3 ∧ s.h3 ≤ 40) ∧ (-1 ≤ s.h4 ∧ s.h4 ≤ 40) :=
  ⟨h.h 0 (by omega) (by omega), h.h 1 (by omega) (by omega), h.h 2 (by omega) (by omega), h.h 3 (by omega) (by omega), h.h 4 (by omega) (by omega)⟩
theorem Sx.cells_inj {s t : Sx} (h : s.cells = t.cells) : s = t := by
  obtain ⟨a, b, c, d, e, f⟩ := s
  obtain ⟨a', b', c', d', e', f'⟩ := t
  simp [Sx.cells] at h
  obtain ⟨rfl, rfl, rfl, rfl, rfl, rfl⟩ := h
  rfl
def Sx.code (s : Sx) : Nat := (((((s.k.toNat * 42 + (s.h0 + 1).toNat) * 42 + (s.h1 + 1).toNat) * 42 + (s.h2 + 1).toNat) * 42 + (s.h3 + 1).toNat) * 42 + (s.h4 + 1).toNat)
theorem Sx.code_lt {s : Sx} (h : s.Ok) : s.code < 5489031744 := by
  have := h.all
  have := h.k0
  have := h.k1
  unfold Sx.code
  omega
theorem dig {a b a' b' : Nat} (hb : b < 42) (hb' : b' < 42) (h : a * 42 + b = a' * 42 + b') : a = a' ∧ b = b' := by omega
theorem dg {x : Int} (h : -1 ≤ x ∧ x ≤ 40) : (x + 1).toNat < 42 := by omega
theorem dgi {x y : Int} (h : -1 ≤ x ∧ x ≤ 40) (h' : -1 ≤ y ∧ y ≤ 40) (e : (x + 1).toNat = (y + 1).toNat) : x = y := by omega
theorem dgk {x y : Int} (h : 0 ≤ x) (h' : 0 ≤ y) (e : x.toNat = y.toNat) : x = y := by omega
theorem Sx.code_inj {s t : Sx} (hs : s.Ok) (ht : t.Ok) (h : s.code = t.code) : s = t := by
  have A := hs.all
  have B := ht.all
  have h0 := hs.k0
  have h0' := ht.k0
  obtain ⟨a, b, c, d, e, f⟩ := s
  obtain ⟨a', b', c', d', e', f'⟩ := t
  obtain ⟨a1, a2, a3, a4, a5⟩ := A
  obtain ⟨b1, b2, b3, b4, b5⟩ := B
  simp only at a1 a2 a3 a4 a5 b1 b2 b3 b4 b5 h0 h0'
  have p1 := dig (dg a5) (dg b5) h
  have p2 := dig (dg a4) (dg b4) p1.1
  have p3 := dig (dg a3) (dg b3) p2.1
  have p4 := dig (dg a2) (dg b2) p3.1
  have p5 := dig (dg a1) (dg b1) p4.1
  rw [dgk h0 h0' p5.1, dgi a1 b1 p5.2, dgi a2 b2 p4.2, dgi a3 b3 p3.2, dgi a4 b4 p2.2, dgi a5 b5 p1.2]
/-- Different numbers below a bound are at most so many. -/
theorem few : ∀ (N : Nat) (l : List Nat), l.Pairwise (· ≠ ·) → (∀ x ∈ l, x < N) → l.length ≤ N
  | 0, l, _, h => by
    cases l with
    | nil => simp
    | cons a t => exact absurd (h a (by simp)) (by omega)
  | N + 1, l, hd, h => by
    have h1 := few N (l.filter (· != N)) (hd.filter _) (fun x hx => by
      obtain ⟨hm, hn⟩ := List.mem_filter.1 hx
      have := h x hm
      have : x ≠ N := by simpa using hn
      omega)
    have h2 : ∀ l : List Nat, l.Pairwise (· ≠ ·) → l.length ≤ (l.filter (· != N)).length + 1 := by
      intro l
      induction l with
      | nil => intro _; simp
      | cons a t ih =>
        intro hp
        obtain ⟨ha, ht⟩ := List.pairwise_cons.1 hp
        by_cases hn : a = N
        · subst hn
          have : t.filter (· != a) = t := List.filter_eq_self.2 (fun x hx => by simpa using (ha x hx).symm)
          simp [this]
        · rw [List.filter_cons, if_pos (by simpa using hn)]
          have := ih ht
          simp only [List.length_cons]
          omega
    have := h2 l hd
    omega
def keyL (s : Sx) : Lit := .string (keyBytes [.int .i64 s.k, .int .i64 s.h0, .int .i64 s.h1, .int .i64 s.h2, .int .i64 s.h3, .int .i64 s.h4])
theorem wf64 (x : Int) (h0 : -1 ≤ x) (h1 : x ≤ 40) : (Lit.int .i64 x).wf = true := by
  rw [← win x (by omega)]
  exact wrap64_wf x
theorem lits110 (s : Sx) (hs : s.Ok) (d : Nat) : Try.prog.keyLits (d + 3) 110 s.cells.toList = some [.int .i64 s.k, .int .i64 s.h0, .int .i64 s.h1, .int .i64 s.h2, .int .i64 s.h3, .int .i64 s.h4] := by
  have h := hs.all
  have w0 := wf64 s.k (by have := hs.k0; omega) hs.k1
  have w1 := wf64 _ h.1.1 h.1.2
  have w2 := wf64 _ h.2.1.1 h.2.1.2
  have w3 := wf64 _ h.2.2.1.1 h.2.2.1.2
  have w4 := wf64 _ h.2.2.2.1.1 h.2.2.2.1.2
  have w5 := wf64 _ h.2.2.2.2.1 h.2.2.2.2.2
  have c110 : Try.prog.cellsOf 110 = 6 := by kernel_rfl
  have c108 : Try.prog.cellsOf 108 = 5 := by kernel_rfl
  have c3 : Try.prog.cellsOf 3 = 1 := by kernel_rfl
  have u110 := Try.underlying110
  have u108 := Try.underlying108
  have u3 := Try.underlying3
  simp [Program.keyLits, u110, u108, u3, c110, c108, c3, Sx.cells, w0, w1, w2, w3, w4, w5, List.range, List.range.loop]
  done
theorem key110 (s : Sx) (hs : s.Ok) : keyOf Try.prog 110 (.agg s.cells) = some (keyL s) := by
  have c110 : Try.prog.cellsOf 110 = 6 := by kernel_rfl
  have hk : Try.prog.keyType 110 = true := by kernel_rfl
  have h2 : 2 ≤ Try.prog.types.size := of_decide_eq_true (by kernel_rfl)
  obtain ⟨m, hm⟩ : ∃ m, Try.prog.types.size + 1 = m + 3 := ⟨Try.prog.types.size - 2, by omega⟩
  have u110 := Try.underlying110
  have hf : (Value.agg s.cells).formed Try.prog 110 = true := by simp [Value.formed, u110, c110]; rfl
  simp only [keyOf, u110, hk, hf, Bool.and_self, if_true, Value.cells, hm, lits110 s hs m]
  rfl
/-- Block mb is a map whose keys are states of which D holds. -/
def LostAt (w : World) (mb : Nat) (D : Sx → Prop) : Prop :=
  ∃ es clock, w.heap[mb]? = some (.map es clock) ∧ Fit Try.prog 110 (plainElem (H := Unit) Try.prog 4) es clock ∧ ∀ x ∈ es.toList, ∃ s : Sx, s.Ok ∧ x.key = .agg s.cells ∧ x.val = .bool true ∧ D s
theorem LostAt.mono {w : World} {mb : Nat} {D D' : Sx → Prop} (h : LostAt w mb D) (hd : ∀ s, D s → D' s) : LostAt w mb D' := by
  obtain ⟨es, clock, hb, hf, hx⟩ := h
  exact ⟨es, clock, hb, hf, fun x hm => by obtain ⟨s, h1, h2, h3, h4⟩ := hx x hm; exact ⟨s, h1, h2, h3, hd s h4⟩⟩
theorem LostAt.move {w w' : World} {mb : Nat} {D : Sx → Prop} (h : LostAt w mb D) (hb : w'.heap[mb]? = w.heap[mb]?) : LostAt w' mb D := by
  obtain ⟨es, clock, hb', hf, hx⟩ := h
  exact ⟨es, clock, hb.trans hb', hf, hx⟩
theorem LostAt.lt {w : World} {mb : Nat} {D : Sx → Prop} (h : LostAt w mb D) : mb < w.heap.size := by
  obtain ⟨es, clock, hb, _⟩ := h
  exact (Array.getElem?_eq_some_iff.1 hb).1
theorem LostAt.made (w : World) (D : Sx → Prop) : LostAt (w.alloc (.map #[] 0)) w.heap.size D :=
  ⟨#[], 0, (MapKept.heap_alloc w _).1, ⟨by simp, stamped_empty 0, by simp⟩, by simp⟩
theorem LostAt.look {w : World} {mb : Nat} {D : Sx → Prop} (h : LostAt w mb D) (s : Sx) (hs : s.Ok) :
    ∃ b : Bool, (b = true → D s) ∧ ∀ X : World, X.heap[mb]? = w.heap[mb]? → (Instr.lookup 104 (.map (some mb)) (.agg s.cells) false).run Try.prog X = .ok (.bool b) X := by
  obtain ⟨es, clock, hb, hf, hx⟩ := h
  have hz : ∀ X : World, (zeroValue 4).run Try.prog X = .ok (.bool false) X := fun X => by kernel_rfl
  have hany : ∃ x : MapEntry, x ∈ es.toList ∧ x.key = .agg s.cells ∨ (∀ x ∈ es.toList, x.key ≠ .agg s.cells) := by
    by_cases hc : ∃ x ∈ es.toList, x.key = .agg s.cells
    · obtain ⟨x, h1, h2⟩ := hc
      exact ⟨x, .inl ⟨h1, h2⟩⟩
    · exact ⟨⟨.bool false, .bool false, 0⟩, .inr (fun x h1 h2 => hc ⟨x, h1, h2⟩)⟩
  obtain ⟨x, ⟨hm, hk⟩ | hno⟩ := hany
  · obtain ⟨t, ht, e1, e2, hD⟩ := hx x hm
    have hst : t = s := Sx.cells_inj (Value.agg.inj (e1.symm.trans hk))
    refine ⟨true, fun _ => hst ▸ hD, fun X hX => ?_⟩
    rcases Maps.fit_look false law110 Try.underlying104 (hz X) (hX.trans hb) hf (key110 s hs) with ⟨_, hn, _⟩ | ⟨e0, y, hm0, hk0, hrun, _⟩
    · exact absurd hk (hn x hm)
    · obtain ⟨t0, _, _, e3, _⟩ := hx e0 hm0
      rw [hrun, e3]
      rfl
  · refine ⟨false, (fun h => Bool.noConfusion h), fun X hX => ?_⟩
    rcases Maps.fit_look false law110 Try.underlying104 (hz X) (hX.trans hb) hf (key110 s hs) with ⟨hrun, _⟩ | ⟨e0, y, hm0, hk0, _⟩
    · rw [hrun]
      rfl
    · exact absurd hk0 (hno e0 hm0)
theorem LostAt.put {w : World} {mb : Nat} {D : Sx → Prop} (h : LostAt w mb D) (s : Sx) (hs : s.Ok) (hD : D s) :
    ∃ w', (Instr.mapUpdate 104 (.map (some mb)) (.agg s.cells) (.bool true)).run Try.prog w = .ok () w' ∧ LostAt w' mb D ∧ w.grownBy w' (some mb) := by
  obtain ⟨es, clock, hb, hf, hx⟩ := h
  have hsize : es.size < maxLen := by
    have hn : es.toList.Pairwise (fun x y => x.key ≠ y.key) := ((stamped_iff es clock).1 hf.stamped).2.2
    have hex : ∀ x ∈ es.toList, ∃ t : Sx, t.Ok ∧ x.key = .agg t.cells := fun x hm => by obtain ⟨t, h1, h2, _⟩ := hx x hm; exact ⟨t, h1, h2⟩
    have hc : ∃ c : MapEntry → Nat, (∀ x ∈ es.toList, c x < 5489031744) ∧ (∀ x ∈ es.toList, ∀ y ∈ es.toList, c x = c y → x.key = y.key) := by
      classical
      refine ⟨fun x => if hh : ∃ t : Sx, t.Ok ∧ x.key = .agg t.cells then (Classical.choose hh).code else 0, fun x hm => ?_, fun x hm y hm' hxy => ?_⟩
      · simp only [dif_pos (hex x hm)]
        exact Sx.code_lt (Classical.choose_spec (hex x hm)).1
      · simp only [dif_pos (hex x hm), dif_pos (hex y hm')] at hxy
        have h1 := Classical.choose_spec (hex x hm)
        have h2 := Classical.choose_spec (hex y hm')
        have := Sx.code_inj h1.1 h2.1 hxy
        rw [h1.2, h2.2, this]
    obtain ⟨c, c1, c2⟩ := hc
    have hp : (es.toList.map c).Pairwise (· ≠ ·) := by
      rw [List.pairwise_map]
      exact (List.Pairwise.imp_of_mem (R := fun x y => x.key ≠ y.key) (S := fun x y => c x ≠ c y) (fun {a b} ha hb h e => h (c2 a ha b hb e)) hn)
    have := few 5489031744 _ hp (fun n hn => by
      obtain ⟨x, hx, rfl⟩ := List.mem_map.1 hn
      exact c1 x hx)
    rw [List.length_map, Array.length_toList] at this
    unfold maxLen
    omega
  obtain ⟨es', clock', hrun, hf', _, _, _, hwho⟩ := Maps.fit_store (R' := plainElem (H := Unit) Try.prog 4) law110 Try.underlying104 hb hf hsize (fun _ _ _ _ hz => hz) (key110 s hs) (plainElem_bool Try.underlying4 true)
  refine ⟨_, hrun, ⟨es', clock', heap_setBlock_same hb _, hf', fun x hm => ?_⟩, ⟨rfl, rfl, rfl, by simp [setBlock], fun i _ hi => heap_setBlock_other hb _ (fun e => hi (by rw [e]))⟩⟩
  rcases hwho x hm with ⟨hm', _⟩ | ⟨e1, e2⟩
  · exact hx x hm'
  · exact ⟨s, hs, e1, e2, hD⟩
end Go.Proofs.Ytillieimgjdpbaa.Pr
namespace Go.Proofs.Ytillieimgjdpbaa.Pr
open Go.RowKit Go.Proofs.YtillieimgjdpbaaW.PrintWords Go.Proofs.YtillieimgjdpbaaW.PrintLast Go.Proofs.YtillieimgjdpbaaW.PrintMore
set_option linter.unusedVariables false
set_option linter.unusedSimpArgs false
def allow (W : Wk) (nt : Int) (s : Sx) (r : Nat) : Bool := !(decide ((r : Int) = nt)) && mayP W s r
def firstF (W : Wk) (nt : Int) : Nat → Sx → Option (List Int)
  | 0, _ => some []
  | f + 1, s => (List.range W.C.length).findSome? fun r => if allow W nt s r = true then (firstF W nt f (givenP s r)).map (fun c => (r : Int) :: c) else none
def top (g : Nat → Nat) (i : Nat) : Nat := ((List.range i).map g).foldl max 0
def best (W : Wk) (nt : Int) : Nat → Sx → Nat
  | 0, _ => 0
  | f + 1, s => top (fun r => if allow W nt s r = true then 1 + best W nt f (givenP s r) else 0) W.C.length
theorem top_succ (g : Nat → Nat) (i : Nat) : top g (i + 1) = max (top g i) (g i) := by simp [top, List.range_succ, List.foldl_append]
theorem top_zero (g : Nat → Nat) : top g 0 = 0 := rfl
theorem top_le (g : Nat → Nat) (N : Nat) (h : ∀ r, g r ≤ N) : ∀ i, top g i ≤ N
  | 0 => Nat.zero_le _
  | i + 1 => by rw [top_succ]; exact Nat.max_le.2 ⟨top_le g N h i, h i⟩
theorem top_ge (g : Nat → Nat) : ∀ (i r : Nat), r < i → g r ≤ top g i
  | i + 1, r, h => by
    rw [top_succ]
    by_cases hr : r = i
    · subst hr; exact Nat.le_max_right _ _
    · exact Nat.le_trans (top_ge g i r (by omega)) (Nat.le_max_left _ _)
theorem best_le (W : Wk) (nt : Int) : ∀ (f : Nat) (s : Sx), best W nt f s ≤ f
  | 0, s => Nat.le_refl _
  | f + 1, s => top_le _ _ (fun r => by
      have := best_le W nt f (givenP s r)
      split <;> omega) _
theorem first_full (W : Wk) (nt : Int) : ∀ (f : Nat) (s : Sx) (c : List Int), firstF W nt f s = some c → best W nt f s = f ∧ c.length = f
  | 0, s, c, h => by
    obtain rfl := Option.some.inj h
    exact ⟨rfl, rfl⟩
  | f + 1, s, c, h => by
    obtain ⟨r, hr, h2⟩ := List.exists_of_findSome?_eq_some h
    rw [List.mem_range] at hr
    by_cases ha : allow W nt s r = true
    · rw [if_pos ha] at h2
      obtain ⟨d, hd, rfl⟩ := Option.map_eq_some_iff.1 h2
      obtain ⟨e1, e2⟩ := first_full W nt f _ d hd
      refine ⟨?_, by simp [e2]⟩
      have h3 := top_ge (fun r => if allow W nt s r = true then 1 + best W nt f (givenP s r) else 0) W.C.length r hr
      simp only [if_pos ha, e1] at h3
      have := best_le W nt (f + 1) s
      unfold best at this ⊢
      omega
    · rw [if_neg ha] at h2
      cases h2
/-- A state from which n takes can be reckoned: who had a take had one that is given. -/
structure Sx.Fine (s : Sx) : Prop where
  k0 : 0 ≤ s.k
  h : ∀ r : Int, 0 ≤ r → r < 5 → -1 ≤ s.get r ∧ s.get r < s.k
theorem Sx.Fine.ok {s : Sx} (h : s.Fine) (hk : s.k ≤ 40) : s.Ok := ⟨h.k0, hk, fun r h0 h1 => by have := h.h r h0 h1; omega⟩
theorem given_get (s : Sx) (r q : Int) (h0 : 0 ≤ r) (h1 : r < 5) (q0 : 0 ≤ q) (q1 : q < 5) : (givenP s r).get q = if q = r then s.k else s.get q := by
  obtain rfl | rfl | rfl | rfl | rfl : r = 0 ∨ r = 1 ∨ r = 2 ∨ r = 3 ∨ r = 4 := by omega
  all_goals
    obtain rfl | rfl | rfl | rfl | rfl : q = 0 ∨ q = 1 ∨ q = 2 ∨ q = 3 ∨ q = 4 := by omega
    all_goals rfl
theorem Sx.Fine.given {s : Sx} (h : s.Fine) (r : Int) (h0 : 0 ≤ r) (h1 : r < 5) : (givenP s r).Fine :=
  ⟨by rw [givenP_k]; have := h.k0; omega, fun q q0 q1 => by
    rw [given_get s r q h0 h1 q0 q1, givenP_k]
    have := h.h q q0 q1
    have := h.k0
    split <;> omega⟩
theorem init_fine : initP.Fine := ⟨Int.le_refl _, fun r h0 h1 => by
  obtain rfl | rfl | rfl | rfl | rfl : r = 0 ∨ r = 1 ∨ r = 2 ∨ r = 3 ∨ r = 4 := by omega
  all_goals decide⟩
theorem begin_fine (l : List Int) (h : ∀ r ∈ l, 0 ≤ r ∧ r < 5) : (beginP l).Fine := by
  suffices hh : ∀ (l : List Int) (s : Sx), s.Fine → (∀ r ∈ l, 0 ≤ r ∧ r < 5) → (l.foldl givenP s).Fine from hh l initP init_fine h
  intro l
  induction l with
  | nil => intro s hs _; exact hs
  | cons r t ih => intro s hs hr; exact ih _ (hs.given r (hr r (by simp)).1 (hr r (by simp)).2) (fun q hq => hr q (by simp [hq]))
/-- A state leads nowhere, and no further than ρ. -/
def DeadP (W : Wk) (nt ρ : Int) (s : Sx) : Prop := s.k < W.T.length ∧ firstF W nt (W.T.length - s.k.toNat) s = none ∧ s.k + best W nt (W.T.length - s.k.toNat) s ≤ ρ
theorem DeadP.mono {W : Wk} {nt ρ ρ' : Int} (h : ρ ≤ ρ') (s : Sx) (hd : DeadP W nt ρ s) : DeadP W nt ρ' s := ⟨hd.1, hd.2.1, Int.le_trans hd.2.2 h⟩
/-- What the search keeps: all blocks but its number and its map. -/
structure Kp (base : Nat) (w w' : World) : Prop where
  os : w'.os = w.os
  tape : w'.tape = w.tape
  output : w'.output = w.output
  size : w.heap.size ≤ w'.heap.size
  block : ∀ i, i < w.heap.size → i ≠ base + 2 → i ≠ base + 3 → w'.heap[i]? = w.heap[i]?
theorem Kp.refl (base : Nat) (w : World) : Kp base w w := ⟨rfl, rfl, rfl, Nat.le_refl _, fun _ _ _ _ => rfl⟩
theorem Kp.trans {base : Nat} {a b c : World} (h : Kp base a b) (k : Kp base b c) : Kp base a c :=
  ⟨k.os.trans h.os, k.tape.trans h.tape, k.output.trans h.output, Nat.le_trans h.size k.size, fun i hi h1 h2 => (k.block i (Nat.lt_of_lt_of_le hi h.size) h1 h2).trans (h.block i hi h1 h2)⟩
theorem Kp.of {base : Nat} {w w' : World} (h : Below w.heap.size w w') : Kp base w w' := ⟨h.os, h.tape, h.output, h.size, fun i hi _ _ => h.block i hi⟩
theorem Kp.alloc {base : Nat} {a w : World} (h : Kp base a w) (o : Obj) : Kp base a (w.alloc o) := h.trans (.of ((Below.refl _ _).alloc (Nat.le_refl _) _))
theorem Kp.set {base : Nat} {a w : World} (h : Kp base a w) (u : Value) : Kp base a (w.setCell ⟨base + 2, 0, none⟩ u) :=
  h.trans ⟨rfl, rfl, rfl, by simp [World.setCell], fun i _ h1 _ => Below.heap_setCell _ _ _ _ h1⟩
theorem Kp.grown {base : Nat} {a w w' : World} (h : Kp base a w) (hg : w.grownBy w' (some (base + 3))) : Kp base a w' :=
  h.trans ⟨hg.os, hg.tape, hg.output, hg.size, fun i hi _ h2 => hg.block i hi (fun e => h2 (Option.some.inj e))⟩
theorem Kp.blk {base : Nat} {w w' : World} {g : Nat} {o : Obj} (h : Kp base w w') (hg : w.heap[g]? = some o) (h1 : g ≠ base + 2) (h2 : g ≠ base + 3) : w'.heap[g]? = some o := (h.block g (blk_lt hg) h1 h2).trans hg
theorem Kp.below {base : Nat} {w w' : World} (h : Kp base w w') (hb : base ≤ w.heap.size) : Below base w w' := ⟨h.os, h.tape, h.output, h.size, fun i hi => h.block i (by omega) (by omega) (by omega)⟩
def Wk.Here (W : Wk) (w : World) (p : Nat) : Prop := ∃ A1 n1 c1 lo sh AC cC AT cT, W.At w p A1 n1 c1 lo sh AC cC AT cT
theorem Wk.Here.below {W : Wk} {w w' : World} {p : Nat} (h : W.Here w p) (hb : Below w.heap.size w w') : W.Here w' p := by
  obtain ⟨_, _, _, _, _, _, _, _, _, h⟩ := h
  exact ⟨_, _, _, _, _, _, _, _, _, h.below hb⟩
/-- The captured variables of the search. -/
def caps (base : Nat) : Array Value := #[.pointer (some ⟨base + 2, 0, none⟩), .pointer (some ⟨base, 0, none⟩), .pointer (some ⟨base + 4, 0, none⟩), .pointer (some ⟨base + 1, 0, none⟩), .pointer (some ⟨base + 5, 0, none⟩), .pointer (some ⟨base + 6, 0, none⟩)]
/-- The search's world: w0 is that ahead of it. -/
structure Env (W : Wk) (w0 : World) (p : Nat) (nt ρ : Int) (w : World) : Prop where
  below : Below w0.heap.size w0 w
  wb : w.heap[w0.heap.size]? = some (.cells #[.pointer (some ⟨p, 0, none⟩)] 90 (0, 0))
  nb : w.heap[w0.heap.size + 1]? = some (.cells #[.int .i64 nt] 3 (0, 0))
  rb : w.heap[w0.heap.size + 2]? = some (.cells #[.int .i64 ρ] 3 (0, 0))
  lost : LostAt w (w0.heap.size + 3) (DeadP W nt ρ)
  lb : w.heap[w0.heap.size + 4]? = some (.cells #[.map (some (w0.heap.size + 3))] 104 (0, 0))
  mb : w.heap[w0.heap.size + 5]? = some (.cells #[.func (.func 53) #[.pointer (some ⟨p, 0, none⟩)] #[]] 105 (0, 0))
  gb : w.heap[w0.heap.size + 6]? = some (.cells #[.func (.func 54) #[] (caps w0.heap.size)] 106 (0, 0))
theorem Env.move {W : Wk} {w0 : World} {p : Nat} {nt ρ ρ' : Int} {w w' : World} (h : Env W w0 p nt ρ w) (hk : Kp w0.heap.size w w') (hr : w'.heap[w0.heap.size + 2]? = some (.cells #[.int .i64 ρ'] 3 (0, 0))) (hl : LostAt w' (w0.heap.size + 3) (DeadP W nt ρ')) : Env W w0 p nt ρ' w' :=
  ⟨h.below.trans (hk.below h.below.size), hk.blk h.wb (by omega) (by omega), hk.blk h.nb (by omega) (by omega), hr, hl, hk.blk h.lb (by omega) (by omega), hk.blk h.mb (by omega) (by omega), hk.blk h.gb (by omega) (by omega)⟩
theorem Env.of_below {W : Wk} {w0 : World} {p : Nat} {nt ρ : Int} {w w' : World} (h : Env W w0 p nt ρ w) (hb : Below w.heap.size w w') : Env W w0 p nt ρ w' :=
  h.move (.of hb) (blk_below h.rb hb) (h.lost.move (hb.block _ h.lost.lt))
theorem setCell_heap_same {w : World} {g : Nat} {u v : Value} {t : TypeId} (hg : w.heap[g]? = some (.cells #[u] t (0, 0))) : (w.setCell ⟨g, 0, none⟩ v).heap[g]? = some (.cells #[v] t (0, 0)) := by
  simp [World.setCell, Array.getElem?_modify, hg]
theorem Env.set {W : Wk} {w0 : World} {p : Nat} {nt ρ ρ' : Int} {w : World} (h : Env W w0 p nt ρ w) (hr : ρ ≤ ρ') : Env W w0 p nt ρ' (w.setCell ⟨w0.heap.size + 2, 0, none⟩ (.int .i64 ρ')) :=
  h.move ((Kp.refl _ _).set _) (setCell_heap_same h.rb) ((h.lost.mono (DeadP.mono hr)).move (Below.heap_setCell _ _ _ _ (by show _ ≠ w0.heap.size + 2; omega)))
theorem Env.here {W : Wk} {w0 : World} {p : Nat} {nt ρ : Int} {w : World} (h : Env W w0 p nt ρ w) (hw : W.Here w0 p) : W.Here w p := hw.below h.below
end Go.Proofs.Ytillieimgjdpbaa.Pr
