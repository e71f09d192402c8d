/- What comes in: a sitting of the reference, opened. -/
import Derived.Test.YtillieimgjdpbaaEIk
import Derived.RegionTactic
import Derived.Outline
import Derived.Test.YtillieimgjdpbaaEPr0
import Derived.Deep.SlicePairs
import Derived.WalkKit
import Derived.ProofKit
import Derived.OpenShut
import Derived.SizedLaws
namespace Go.Proofs.Ytillieimgjdpbaa.Pr
open Go.RowKit Go.Proofs.YtillieimgjdpbaaW.PrintWords Go.Proofs.YtillieimgjdpbaaW.PrintLast Go.Proofs.YtillieimgjdpbaaW.PrintMore
set_option linter.unusedVariables false
set_option linter.unusedSimpArgs false
set_option maxRecDepth 100000 in
set_option maxHeartbeats 4000000 in
theorem easy_idle (w : World) (L lo sh due dl : Int) (A B : Option Addr) (c d : Nat) (l : List S41) (cr : List S62) (which at_ by_ m0 m1 m2 : Int) (h1 : Kd.C k41 w A l.length l) (h1c : l.length ≤ c) (h2 : Kd.C k62 w B cr.length cr) (h2c : cr.length ≤ d) (hw : 0 ≤ which ∧ which ≤ 255) (ha : 0 ≤ at_ ∧ at_ ≤ 255) (hy : 0 ≤ by_ ∧ by_ ≤ 65535) (hm0 : -9223372036854775808 ≤ m0 ∧ m0 ≤ 9223372036854775807) (hr : readyP L l lo sh cr due dl = false) :
    Calls Try.prog 6 #[.agg #[.int .i64 L, .slice A l.length c, .int .i64 lo, .int .i64 sh], .agg #[.slice B cr.length d, .int .i64 due, .int .i64 dl], .int .u8 which, .int .u8 at_, .int .u16 by_, .agg #[.int .i64 m0, .int .i64 m1, .int .i64 m2]] w fun e w' => e = .returned (.bool true) ∧ Below w.heap.size w w' := by
  have HR1 := Aside0.mk h1
  have HR2 := Aside0.mk h2
  have H16 : Aside0 (∀ X, Below w.heap.size w X → Calls Try.prog 16 #[.agg #[.int .i64 L, .slice A l.length c, .int .i64 lo, .int .i64 sh], .agg #[.slice B cr.length d, .int .i64 due, .int .i64 dl]] X fun e w' => e = .returned (.bool false) ∧ Below X.heap.size X w') := ⟨fun X hX => by have := c16 (Kd.C_below HR1.out hX) h1c (Kd.C_below HR2.out hX) h2c L lo sh due dl; rwa [hr] at this⟩
  have HFs := Fa.start w #[.int .i64 L, .slice A l.length c, .int .i64 lo, .int .i64 sh] #[.slice B cr.length d, .int .i64 due, .int .i64 dl]
  have HF : Aside0 (Fa w #[.int .i64 L, .slice A l.length c, .int .i64 lo, .int .i64 sh] #[.slice B cr.length d, .int .i64 due, .int .i64 dl] (fun X => X.heap[w.heap.size + 2]? = some (.cells #[.int .i64 m0, .int .i64 m1, .int .i64 m2] 62 (0, 0))) (((w.alloc (.cells #[.int .i64 L, .slice A l.length c, .int .i64 lo, .int .i64 sh] 24)).alloc (.cells #[.slice B cr.length d, .int .i64 due, .int .i64 dl] 45)).alloc (.cells #[.int .i64 m0, .int .i64 m1, .int .i64 m2] 62))) := ⟨(HFs.alloc _).add _ (by have := blk_new ((w.alloc (.cells #[.int .i64 L, .slice A l.length c, .int .i64 lo, .int .i64 sh] 24)).alloc (.cells #[.slice B cr.length d, .int .i64 due, .int .i64 dl] 45)) (.cells #[.int .i64 m0, .int .i64 m1, .int .i64 m2] 62); simpa using this)⟩
  clear HFs
  obtain ⟨u0, u1, u2, u3, u4, u5, u6⟩ := HF.out.cells
  clear h1 h2 hr
  go_enter Try.func6, Try.ntmps6
  go_wp2_with (first | (go_at_call 16; refine (H16.out _ HF.out.b).mono ?_; rintro e w1 ⟨rfl, hb⟩; have HF1 := Aside0.mk (HF.out.below hb); clear hb) | (go_at_call 11; refine (c11 _).mono ?_; rintro e w2 ⟨rfl, hb⟩))
  go_ret
  exact ⟨rfl, (HF1.out.below hb).b⟩
theorem info62 : (Try.prog.info? 62).map (fun i => (i.zero, i.size, i.bytes)) = some (some (.agg #[(.int .i64 0), (.int .i64 0), (.int .i64 0)]), 3, 24) := by kernel_rfl
theorem R62_blk {w : World} {base g n cap : Nat} {ok : Nat → Prop} {a b : List S62} {p : S62} (h : Kd.R k62 62 w base ok (.slice (some ⟨g, 0, none⟩) n cap) (a ++ p :: b)) :
    ∃ cur, w.heap[g]? = some (.cells cur 62 (0, 0)) ∧ a.length * 3 + 2 < cur.size ∧ cur[a.length * 3]? = some (.int .i64 p.f0.f0) ∧ cur[a.length * 3 + 1]? = some (.int .i64 p.f0.f1) ∧ cur[a.length * 3 + 2]? = some (.int .i64 p.f1) := by
  obtain ⟨_, h1 | ⟨g', cap', cur, hv, _, hb, hn, _, hs, ht⟩⟩ := R62_own h
  · simp at h1
  obtain ⟨rfl, rfl, rfl⟩ : g = g' ∧ n = (a ++ p :: b).length ∧ cap = cap' := by simpa using hv
  have hc : cells62 (a ++ p :: b) = cells62 a ++ ([.int .i64 p.f0.f0, .int .i64 p.f0.f1, .int .i64 p.f1] ++ cells62 b) := by simp [cells62]
  have hl := cells62_length a
  have hlen : (a ++ p :: b).length = a.length + b.length + 1 := by simp; omega
  have key : ∀ i, i < 3 → cur[a.length * 3 + i]? = [Value.int .i64 p.f0.f0, .int .i64 p.f0.f1, .int .i64 p.f1][i]? := by
    intro i hi
    have h2 : (cur.toList.take ((a ++ p :: b).length * 3))[a.length * 3 + i]? = cur.toList[a.length * 3 + i]? := by
      rw [List.getElem?_take, if_pos (by omega)]
    rw [ht, hc, List.getElem?_append_right (by omega), hl, show a.length * 3 + i - a.length * 3 = i by omega, List.getElem?_append_left (by simpa using hi)] at h2
    rw [h2, Array.getElem?_toList]
  exact ⟨cur, hb, by omega, key 0 (by omega), key 1 (by omega), key 2 (by omega)⟩
theorem workE_easy {L : Int} {P : List S35} {lo sh : Int} {O O' : List S99} {due dl due' dl' : Int} (he : workE L P lo sh O due dl = 0) (h : officeOk O' due' dl' = true) : workE L P lo sh O' due' dl' = 0 := by
  unfold workE
  rw [check_of_work he, if_neg (by simp), if_pos h]
theorem easyX {w : World} {L lo sh due dl due' dl' : Int} {A B Ax : Option Addr} {n c k d gx m kx : Nat} {cr' : List S62} {Y : World} (h : Fa w #[.int .i64 L, .slice A n c, .int .i64 lo, .int .i64 sh] #[.slice B k d, .int .i64 due, .int .i64 dl] (fun X => X.heap[gx]? = some (.cells #[.slice Ax m kx, .int .i64 due', .int .i64 dl'] 45 (0, 0)) ∧ Kd.C k62 X Ax m cr') Y) :
    Y.cell? ⟨gx, 0, none⟩ = some (.slice Ax m kx) ∧ Y.cell? ⟨gx, 1, none⟩ = some (.int .i64 due') ∧ Y.cell? ⟨gx, 2, none⟩ = some (.int .i64 dl') ∧ Y.cell? ⟨w.heap.size, 0, none⟩ = some (.int .i64 L) ∧ Y.cell? ⟨w.heap.size, 1, none⟩ = some (.slice A n c) ∧ Y.cell? ⟨w.heap.size, 2, none⟩ = some (.int .i64 lo) ∧ Y.cell? ⟨w.heap.size, 3, none⟩ = some (.int .i64 sh) ∧ Y.cell? ⟨w.heap.size + 1, 0, none⟩ = some (.slice B k d) ∧ Y.cell? ⟨w.heap.size + 1, 1, none⟩ = some (.int .i64 due) ∧ Y.cell? ⟨w.heap.size + 1, 2, none⟩ = some (.int .i64 dl) :=
  ⟨(blk_cell h.k.1 0).trans rfl, (blk_cell h.k.1 1).trans rfl, (blk_cell h.k.1 2).trans rfl, h.cells⟩
set_option maxRecDepth 100000 in
set_option maxHeartbeats 4000000 in
theorem easy_main (w : World) (L lo sh due dl : Int) (A B : Option Addr) (c d : Nat) (l : List S41) (cr : List S62) (which at_ by_ m0 m1 m2 : Int) (h1 : Kd.C k41 w A l.length l) (h1c : l.length ≤ c) (h2 : Kd.C k62 w B cr.length cr) (h2c : cr.length ≤ d) (hw : 0 ≤ which ∧ which ≤ 255) (ha : 0 ≤ at_ ∧ at_ ≤ 255) (hy : 0 ≤ by_ ∧ by_ ≤ 65535) (hm0 : -9223372036854775808 ≤ m0 ∧ m0 ≤ 9223372036854775807) (hr : readyP L l lo sh cr due dl = true) :
    Calls Try.prog 6 #[.agg #[.int .i64 L, .slice A l.length c, .int .i64 lo, .int .i64 sh], .agg #[.slice B cr.length d, .int .i64 due, .int .i64 dl], .int .u8 which, .int .u8 at_, .int .u16 by_, .agg #[.int .i64 m0, .int .i64 m1, .int .i64 m2]] w fun e w' => e = .returned (.bool true) ∧ Below w.heap.size w w' := by
  obtain ⟨hl60, hc8, he⟩ := ready_parts hr
  have HR1 := Aside0.mk h1
  have HR2 := Aside0.mk h2
  have H16 : Aside0 (∀ X, Below w.heap.size w X → Calls Try.prog 16 #[.agg #[.int .i64 L, .slice A l.length c, .int .i64 lo, .int .i64 sh], .agg #[.slice B cr.length d, .int .i64 due, .int .i64 dl]] X fun e w' => e = .returned (.bool true) ∧ Below X.heap.size X w') := ⟨fun X hX => by have := c16 (Kd.C_below HR1.out hX) h1c (Kd.C_below HR2.out hX) h2c L lo sh due dl; rwa [hr] at this⟩
  have HFs := Fa.start w #[.int .i64 L, .slice A l.length c, .int .i64 lo, .int .i64 sh] #[.slice B cr.length d, .int .i64 due, .int .i64 dl]
  have HF : Aside0 (Fa w #[.int .i64 L, .slice A l.length c, .int .i64 lo, .int .i64 sh] #[.slice B cr.length d, .int .i64 due, .int .i64 dl] (fun X => X.heap[w.heap.size + 2]? = some (.cells #[.int .i64 m0, .int .i64 m1, .int .i64 m2] 62 (0, 0))) (((w.alloc (.cells #[.int .i64 L, .slice A l.length c, .int .i64 lo, .int .i64 sh] 24)).alloc (.cells #[.slice B cr.length d, .int .i64 due, .int .i64 dl] 45)).alloc (.cells #[.int .i64 m0, .int .i64 m1, .int .i64 m2] 62))) := ⟨(HFs.alloc _).add _ (by have := blk_new ((w.alloc (.cells #[.int .i64 L, .slice A l.length c, .int .i64 lo, .int .i64 sh] 24)).alloc (.cells #[.slice B cr.length d, .int .i64 due, .int .i64 dl] 45)) (.cells #[.int .i64 m0, .int .i64 m1, .int .i64 m2] 62); simpa using this)⟩
  clear HFs
  obtain ⟨u0, u1, u2, u3, u4, u5, u6⟩ := HF.out.cells
  obtain ⟨P, hP⟩ : ∃ P, P = l.map to35 := ⟨_, rfl⟩
  obtain ⟨O, hO⟩ : ∃ O, O = cr.map to99 := ⟨_, rfl⟩
  rw [← hP, ← hO] at he
  have hn := wk_ok he
  have H13 : Aside0 (∀ X, Below w.heap.size w X → Calls Try.prog 13 #[.agg #[.int .i64 L, .slice A l.length c, .int .i64 lo, .int .i64 sh]] X fun e w' => ∃ A1 c1, e = .returned (.agg #[.int .i64 L, .slice A1 P.length c1, .int .i64 lo, .int .i64 sh]) ∧ Aside0 (Kd.C k35 w' A1 P.length P) ∧ Aside0 (P.length ≤ c1) ∧ Below X.heap.size X w') := ⟨fun X hX => c13 (Kd.C_below HR1.out hX) h1c (by omega) L lo sh hP⟩
  have H18 : Aside0 (∀ X, Below w.heap.size w X → Calls Try.prog 18 #[.agg #[.slice B cr.length d, .int .i64 due, .int .i64 dl]] X fun e w' => ∃ A1 c1, e = .returned (.agg #[.slice A1 O.length c1, .int .i64 due, .int .i64 dl]) ∧ Aside0 (Kd.C k99 w' A1 O.length O) ∧ Aside0 (O.length ≤ c1) ∧ Below X.heap.size X w') := ⟨fun X hX => c18 (Kd.C_below HR2.out hX) h2c (by omega) due dl hO⟩
  have hof : officeOk O due dl = true := by
    unfold workE at he
    rw [check_of_work he, if_neg (by simp)] at he
    split at he
    · assumption
    · cases he
  have hcn : 1 ≤ cr.length := by have := hn.c0; rw [show (wkOf L P lo sh O due dl).C = O from rfl, hO, List.length_map] at this; exact this
  have hdu := hn.d1
  have hdl := hn.e0
  have hdu0 := hn.d0
  have hdl1 := hn.e1
  have hdu' : due ≤ 36000 ∧ 0 ≤ due := ⟨hdu, hdu0⟩
  have hdl' : dl ≤ 36000 ∧ 0 ≤ dl := ⟨hdl1, hdl⟩
  clear hdu hdl hdu0 hdl1
  have HN := Aside0.mk hn
  have HE := Aside0.mk he
  have HPO := Aside0.mk (show _ ∧ _ from ⟨hP, hO⟩)
  clear h1 h2 hr hP hO he hn hof
  go_enter Try.func6, Try.ntmps6
  go_upto_region 4 with (first | (go_at_call 16; refine (H16.out _ HF.out.b).mono ?_; rintro e w1 ⟨rfl, hb⟩; have HF1 := Aside0.mk (HF.out.below hb); clear hb; clear u0 u1 u2 u3 u4 u5 u6; obtain ⟨u0, u1, u2, u3, u4, u5, u6⟩ := HF1.out.cells))
  have HGX : Aside0 (Below w1.heap.size w1 (w1.alloc (.cells #[.slice B cr.length d, .int .i64 due, .int .i64 dl] 45)) ∧ (w1.alloc (.cells #[.slice B cr.length d, .int .i64 due, .int .i64 dl] 45)).heap[w1.heap.size]? = some (.cells #[.slice B cr.length d, .int .i64 due, .int .i64 dl] 45 (0, 0))) := ⟨below_alloc (Below.refl _ _) _, blk_new w1 _⟩
  obtain ⟨gx, hgx⟩ : ∃ b, b = w1.heap.size := ⟨_, rfl⟩
  have HBx : Aside0 (Below w1.heap.size w1 (w1.alloc (.cells #[.slice B cr.length d, .int .i64 due, .int .i64 dl] 45))) := ⟨HGX.out.1⟩
  have hsz1 : (w1.alloc (.cells #[.slice B cr.length d, .int .i64 due, .int .i64 dl] 45)).heap.size = w1.heap.size + 1 := by simp
  generalize hyy : w1.alloc (.cells #[.slice B cr.length d, .int .i64 due, .int .i64 dl] 45) = y1 at HGX HBx hsz1 ⊢
  rw [← hgx] at HGX hsz1 ⊢
  have HSZ := Aside0.mk hsz1
  have HGE := Aside0.mk hgx
  have HFL := Aside0.mk (blk_lt HF1.out.k)
  have HF2 := Aside0.mk (HF1.out.below HBx.out)
  have hBk := HGX.out.2
  have HC62 := Aside0.mk (Kd.C_below (Kd.C_below HR2.out HF2.out.b) (below_alloc (Below.refl y1.heap.size y1) (.cells #[] 62)))
  clear hyy hgx hsz1
  clear u0 u1 u2 u3 u4 u5 u6
  obtain ⟨u0, u1, u2, u3, u4, u5, u6⟩ := HF2.out.cells
  have g0 := (blk_cell hBk 0).trans rfl
  have g1 := (blk_cell hBk 1).trans rfl
  have g2 := (blk_cell hBk 2).trans rfl
  have hlt := blk_lt hBk
  have hlt2 := blk_lt HF2.out.o
  have hcr24 : (([] : List S62).length + cr.length) * 24 ≤ 140737488355328 := by simp; omega
  have HCR := Aside0.mk hcr24
  clear hcr24
  go_upto_region 5 with (at_builtin; refine Kd.R_append_rows k62 (Rr := k62.K (y1.alloc (.cells #[] 62))) (w0 := y1) y1.heap.size rfl (.tmp 27) (.tmp 29) 43 62 (.agg #[.int .i64 0, .int .i64 0, .int .i64 0]) 24 rfl Try.underlying43 info62 rfl (by decide) (by decide) (.slice (some ⟨y1.heap.size, 0, none⟩) 0 0) [] cr B cr.length d (fun _ => True) (fun k => k ≠ y1.heap.size) rfl rfl (R_empty k62 62 y1 y1.heap.size (Nat.le_refl _) _ trivial) HC62.out (by intro x cs hx; obtain rfl := k62_open hx; exact k62_mkM _ _ _ x) (fun k hk => ⟨trivial, fun h => hk (by simpa [Value.ownBlock] using h)⟩) (fun _ _ => trivial) ((Below.refl _ _).alloc (Nat.le_refl _) _) (by simp) HCR.out ?_; intro v1 z1 hR1 hB1 hg1 _; obtain ⟨A1, k1, rfl⟩ := Kd.R_slice hR1; have HR4 := Aside0.mk hR1; have HB4 := Aside0.mk hB1; have hzx := blk_below HGX.out.2 hB1; have HZX := Aside0.mk hzx; have zc := (blk_cell hzx 0).trans rfl; have zf := blk_frozen hzx 0; clear hR1 hB1 hg1 hzx)
  have HY2 : Aside0 ((z1.setCell ⟨gx, 0, none⟩ (.slice A1 cr.length k1)).heap[gx]? = some (.cells #[.slice A1 cr.length k1, .int .i64 due, .int .i64 dl] 45 (0, 0)) ∧ Kd.R k62 62 (z1.setCell ⟨gx, 0, none⟩ (.slice A1 cr.length k1)) y1.heap.size (fun _ => True) (.slice A1 cr.length k1) cr ∧ Below w1.heap.size w1 (z1.setCell ⟨gx, 0, none⟩ (.slice A1 cr.length k1))) :=
    ⟨setCell_cells HZX.out _, Kd.R_mono (Kd.R_far (Kd.R_mono (Kd.R_bound HR4.out) (fun k hk => hk.2.1)) (fun k hk => by show k ≠ gx; have := HSZ.out; omega) _) (fun _ _ => trivial), (HBx.out.trans (HB4.out.mono HBx.out.size)).setCell (by show _ ≤ gx; have := HGE.out; omega) _⟩
  generalize z1.setCell ⟨gx, 0, none⟩ (.slice A1 cr.length k1) = y2 at HY2 ⊢
  clear HR4 HB4 HZX zc zf g0 g1 g2 hBk hlt hlt2 HC62 HCR u0 u1 u2 u3 u4 u5 u6 HF HF2
  have HF3 := Aside0.mk (HF1.out.below HY2.out.2.2)
  have HB2 := Aside0.mk HY2.out.2.2
  obtain ⟨gr, kk, eV, hgr1, hgr2, _⟩ := Kd.R_form HY2.out.2.1 (by omega)
  obtain ⟨rfl, rfl⟩ : A1 = some ⟨gr, 0, none⟩ ∧ k1 = kk := by simpa using eV
  have hB5 := HY2.out.1
  have g0 : y2.cell? ⟨gx, 0, none⟩ = some (.slice (some ⟨gr, 0, none⟩) cr.length k1) := (blk_cell hB5 0).trans rfl
  have hj0 : 0 ≤ at_ % (cr.length : Int) := Int.emod_nonneg _ (by omega)
  have hj1 : at_ % (cr.length : Int) < (cr.length : Int) := Int.emod_lt_of_pos _ (by omega)
  obtain ⟨ha0, ha1⟩ := ha
  obtain ⟨j, hj⟩ : ∃ j : Nat, at_ % (cr.length : Int) = j := ⟨(at_ % (cr.length : Int)).toNat, by omega⟩
  have hjn : (j : Int) < (cr.length : Int) := by omega
  have htm : Int.tmod at_ (cr.length : Int) = (j : Int) := by rw [Int.tmod_eq_emod_of_nonneg ha0, hj]
  have hne0 : ((cr.length : Int) == 0) = false := by simp; intro h; rw [h] at hcn; simp at hcn
  have hpos : (0 : Int) < (cr.length : Int) := by omega
  have hnil : ¬ cr = [] := fun h => by rw [h] at hcn; simp at hcn
  have hnz : ¬ cr.length = 0 := by omega
  have hjn2 : j < cr.length := by omega
  have hc8n : cr.length ≤ 8 := by omega
  clear eV hB5
  go_region
  clear g0 hj0 hj1 hj htm hne0 hpos hnil hnz
  obtain ⟨hw0, hw1⟩ := hw
  obtain ⟨v, hv⟩ : ∃ v : Int, which % 5 = v := ⟨_, rfl⟩
  have hvt : Int.tmod which 5 = v := by rw [Int.tmod_eq_emod_of_nonneg hw0, hv]
  have hv5 : v = 0 ∨ v = 1 ∨ v = 2 ∨ v = 3 ∨ v = 4 := by omega
  have HY3 := Aside0.mk HY2.out.2.1
  have HY4 := Aside0.mk HY2.out.1
  have HGX2 : Aside0 (w.heap.size + 3 ≤ gx) := ⟨by
    have h1 := blk_lt HF3.out.k
    have := HGE.out
    have := HFL.out
    omega⟩
  clear HY2 HGX HBx
  go_upto_block 0 with fail
  clear hv hvt hw0 hw1
  go_cut [53] (fun v53 wc => ∃ (Ax : Option Addr) (kx : Nat) (cr' : List S62) (due' dl' : Int), v53 = v53 ∧ Aside0 (wc.heap[gx]? = some (.cells #[.slice Ax cr'.length kx, .int .i64 due', .int .i64 dl'] 45 (0, 0))) ∧ Aside0 (Kd.C k62 wc Ax cr'.length cr' ∧ cr'.length ≤ kx) ∧ Aside0 (EasyO cr due dl cr' due' dl') ∧ Aside0 (Fa w #[.int .i64 L, .slice A l.length c, .int .i64 lo, .int .i64 sh] #[.slice B cr.length d, .int .i64 due, .int .i64 dl] (fun X => X.heap[w.heap.size + 2]? = some (.cells #[.int .i64 m0, .int .i64 m1, .int .i64 m2] 62 (0, 0))) wc))
  case first =>
    obtain ⟨ra, p, rb, hsp, hal⟩ := split_at' cr j hjn2
    obtain ⟨cur, hcb, hcs, e0, e1, e2⟩ := R62_blk (hsp ▸ HY3.out)
    have hp := HN.out.cr (to99 p) (by rw [show (wkOf L P lo sh O due dl).C = O from rfl, HPO.out.2, hsp]; simp)
    have hp' : 0 ≤ p.f0.f0 ∧ p.f0.f0 ≤ p.f0.f1 ∧ p.f0.f1 ≤ 20 ∧ 0 ≤ p.f1 ∧ p.f1 ≤ 36000 := by
      simp only [repOk, to99, Bool.and_eq_true] at hp
      have h4 := of_decide_eq_true hp.2
      exact ⟨of_decide_eq_true hp.1.1.1, of_decide_eq_true hp.1.1.2, of_decide_eq_true hp.1.2, h4.1, h4.2⟩
    have f0 : y2.cell? ⟨gx, 0, none⟩ = some (.slice (some ⟨gr, 0, none⟩) cr.length k1) := (blk_cell HY4.out 0).trans rfl
    have f1 : y2.cell? ⟨gx, 1, none⟩ = some (.int .i64 due) := (blk_cell HY4.out 1).trans rfl
    have f2 : y2.cell? ⟨gx, 2, none⟩ = some (.int .i64 dl) := (blk_cell HY4.out 2).trans rfl
    have f3 := blk_frozen HY4.out 0
    have f4 := blk_frozen HY4.out 1
    have f5 := blk_frozen HY4.out 2
    rw [hal] at hcs e0 e1 e2
    have f6 := (blk_cell hcb (j * 3)).trans e0
    have f7 := (blk_cell hcb (j * 3 + 1)).trans e1
    have f8 := (blk_cell hcb (j * 3 + 2)).trans e2
    have f9 := blk_frozen hcb (j * 3 + 1)
    have f10 := blk_frozen hcb (j * 3 + 2)
    have HSP := Aside0.mk hsp
    have HAL := Aside0.mk hal
    have HP := Aside0.mk hp'
    clear hsp hal hp hcb e0 e1 e2
    have HEND : Aside0 (∀ (X : World) (due' dl' : Int), X.heap[gx]? = some (.cells #[.slice (some ⟨gr, 0, none⟩) cr.length k1, .int .i64 due', .int .i64 dl'] 45 (0, 0)) → Kd.R k62 62 X y1.heap.size (fun _ => True) (.slice (some ⟨gr, 0, none⟩) cr.length k1) cr → due ≤ due' → dl' ≤ dl → Below w1.heap.size w1 X → ∃ (Ax : Option Addr) (kx : Nat) (cr' : List S62) (due' dl' : Int), True ∧ Aside0 (X.heap[gx]? = some (.cells #[.slice Ax cr'.length kx, .int .i64 due', .int .i64 dl'] 45 (0, 0))) ∧ Aside0 (Kd.C k62 X Ax cr'.length cr' ∧ cr'.length ≤ kx) ∧ Aside0 (EasyO cr due dl cr' due' dl') ∧ Aside0 (Fa w #[.int .i64 L, .slice A l.length c, .int .i64 lo, .int .i64 sh] #[.slice B cr.length d, .int .i64 due, .int .i64 dl] (fun X => X.heap[w.heap.size + 2]? = some (.cells #[.int .i64 m0, .int .i64 m1, .int .i64 m2] 62 (0, 0))) X)) :=
      ⟨fun X D' E' hX hR h1 h2 hb => ⟨_, _, cr, D', E', trivial, ⟨hX⟩, ⟨(Kd.R_reads' hR).2.2, (Kd.R_reads' hR).2.1⟩, ⟨easy_same hc8n h1 h2⟩, ⟨HF1.out.below hb⟩⟩⟩
    have HROW : Aside0 (∀ (q : S62) (i : Nat) (u : Value), i < 3 → [Value.int .i64 q.f0.f0, .int .i64 q.f0.f1, .int .i64 q.f1] = [Value.int .i64 p.f0.f0, .int .i64 p.f0.f1, .int .i64 p.f1].set i u → q.f0.f1 ≤ p.f0.f1 → q.f1 ≤ p.f1 → ∀ X, Below (y2.setCell ⟨gr, j * 3 + i, none⟩ u).heap.size (y2.setCell ⟨gr, j * 3 + i, none⟩ u) X → ∃ (Ax : Option Addr) (kx : Nat) (cr' : List S62) (due' dl' : Int), True ∧ Aside0 (X.heap[gx]? = some (.cells #[.slice Ax cr'.length kx, .int .i64 due', .int .i64 dl'] 45 (0, 0))) ∧ Aside0 (Kd.C k62 X Ax cr'.length cr' ∧ cr'.length ≤ kx) ∧ Aside0 (EasyO cr due dl cr' due' dl') ∧ Aside0 (Fa w #[.int .i64 L, .slice A l.length c, .int .i64 lo, .int .i64 sh] #[.slice B cr.length d, .int .i64 due, .int .i64 dl] (fun X => X.heap[w.heap.size + 2]? = some (.cells #[.int .i64 m0, .int .i64 m1, .int .i64 m2] 62 (0, 0))) X)) := ⟨fun q i u hi hq h1 h2 X hX => by
      have hR := R62_set q i u rfl hi hq (HSP.out ▸ HY3.out)
      rw [HAL.out, ← HSP.out] at hR
      have hln : (ra ++ q :: rb).length = cr.length := by rw [HSP.out]; simp
      have hE := easy_one (a := ra) (b := rb) (p := p) (q := q) (due := due) (dl := dl) (by rw [← HSP.out]; exact hc8n) h1 h2
      rw [← HSP.out] at hE
      have hR' := Kd.R_reads' (Kd.R_below hR hX)
      refine ⟨_, _, _, due, dl, trivial, ⟨?_⟩, ⟨hR'.2.2, by rw [hln]; exact hR'.2.1⟩, ⟨hE⟩, ⟨HF1.out.below ((HB2.out.setCell (by show _ ≤ gr; have := HGE.out; have := HSZ.out; omega) _).trans (hX.mono (by have := HB2.out.size; simp; omega)))⟩⟩
      rw [hln]
      have hg : (y2.setCell ⟨gr, j * 3 + i, none⟩ u).heap[gx]? = some (.cells #[.slice (some ⟨gr, 0, none⟩) cr.length k1, .int .i64 due, .int .i64 dl] 45 (0, 0)) := (Below.heap_setCell y2 ⟨gr, j * 3 + i, none⟩ u gx (by show gx ≠ gr; have := HSZ.out; omega)).trans HY4.out
      exact blk_below hg hX⟩
    have HSET : Aside0 (∀ i u, Kd.R k62 62 (y2.setCell ⟨gx, i, none⟩ u) y1.heap.size (fun _ => True) (.slice (some ⟨gr, 0, none⟩) cr.length k1) cr ∧ Below w1.heap.size w1 (y2.setCell ⟨gx, i, none⟩ u)) := ⟨fun i u => ⟨Kd.R_mono (Kd.R_far (Kd.R_mono (Kd.R_bound HY3.out) (fun k hk => hk.2.1)) (fun k hk => by show k ≠ gx; have := HSZ.out; omega) _) (fun _ _ => trivial), HB2.out.setCell (by show _ ≤ gx; have := HGE.out; omega) _⟩⟩
    rcases hv5 with rfl | rfl | rfl | rfl | rfl
    · go_wp2
      all_goals (go_meet; refine HEND.out _ _ dl (setCell_cells HY4.out _) (Kd.R_drew (HSET.out 1 _).1) (by omega) (Int.le_refl _) (below_drew (HSET.out 1 _).2))
    · go_wp2
      all_goals (go_meet; refine HEND.out _ due _ (setCell_cells HY4.out _) (Kd.R_drew (HSET.out 2 _).1) (Int.le_refl _) (by omega) (below_drew (HSET.out 2 _).2))
    · obtain ⟨hq0, hq1, hq2, hq3, hq4⟩ := HP.out
      go_wp2
      all_goals (go_meet; first
        | exact HROW.out ⟨p.f0, p.f1 - by_⟩ 2 (.int .i64 (p.f1 - by_)) (by decide) rfl (Int.le_refl _) (by show p.f1 - by_ ≤ p.f1; omega) _ (below_drew (Below.refl _ _))
        | exact HROW.out ⟨p.f0, 0⟩ 2 (.int .i64 0) (by decide) rfl (Int.le_refl _) hq3 _ (below_drew (Below.refl _ _)))
    · obtain ⟨hq0, hq1, hq2, hq3, hq4⟩ := HP.out
      go_upto_region 16 with fail
      have hb5 : 0 ≤ by_ % 5 ∧ by_ % 5 < 5 := by omega
      go_region
      all_goals go_wp2
      all_goals (go_meet; first
        | exact HROW.out ⟨⟨p.f0.f0, p.f0.f1 - by_ % 5⟩, p.f1⟩ 1 (.int .i64 (p.f0.f1 - by_ % 5)) (by decide) rfl (by show p.f0.f1 - by_ % 5 ≤ p.f0.f1; omega) (Int.le_refl _) _ (below_drew (below_drew (Below.refl _ _)))
        | exact HROW.out ⟨⟨p.f0.f0, p.f0.f0⟩, p.f1⟩ 1 (.int .i64 p.f0.f0) (by decide) rfl hq1 (Int.le_refl _) _ (below_drew (below_drew (Below.refl _ _))))
    · by_cases h5 : cr.length < 5
      · have HR5 := Aside0.mk (Kd.R_mono (Kd.R_bound HY3.out) (fun k hk => show k ≠ gx by have := HSZ.out; have := hk.2.1; omega))
        have hcr24 : (cr.length + 1) * 24 ≤ 140737488355328 := by omega
        have HCR := Aside0.mk hcr24
        have HHZ : Aside0 (∀ X : World, X.heap.size = y2.heap.size → y1.heap.size ≤ X.heap.size ∧ ∀ k, X.heap.size ≤ k → k ≠ gx) := ⟨fun X hX => by rw [hX]; have h1 := blk_lt HY4.out; have h2 := Kd.R_lt HY3.out gr rfl; exact ⟨by omega, fun k hk => by omega⟩⟩
        clear hcr24
        obtain ⟨u0, u1, u2, u3, u4, u5, u6⟩ := HF3.out.cells
        have v0 := (blk_cell HF3.out.k 0).trans rfl
        have v1 := (blk_cell HF3.out.k 1).trans rfl
        have v2 := (blk_cell HF3.out.k 2).trans rfl
        have hlk := blk_lt HF3.out.k
        go_upto_region 8 with fail
        go_wp2_with (at_builtin; rw [← World.alloc_drew]; refine Kd.R_append k62 (w0 := y2) y1.heap.size rfl (.tmp 48) (.tmp 50) 43 62 (.agg #[.int .i64 0, .int .i64 0, .int .i64 0]) 24 rfl Try.underlying43 info62 rfl (by decide) (by decide) (.slice (some ⟨gr, 0, none⟩) cr.length k1) cr (⟨⟨m0, m1⟩, m2⟩ : S62) [.int .i64 m0, .int .i64 m1, .int .i64 m2] (fun k => k ≠ gx) (fun _ => False) (by rfl) (by rfl) (k62_mkM _ _ _ _) (fun _ hk => hk.elim) (HHZ.out _ rfl).2 (by first | exact HR5.out | exact Kd.R_drew HR5.out) (by repeat (first | exact Below.refl _ _ | apply below_drew)) (HHZ.out _ rfl).1 HCR.out ?_; intro v1 z1 hR1 hB1 hg1 _; obtain ⟨A1, k2, rfl⟩ := Kd.R_slice hR1; have HR6 := Aside0.mk hR1; have HB6 := Aside0.mk hB1; have HZX := Aside0.mk ((hB1.block gx (by have := HSZ.out; omega)).trans HY4.out); have zc := (blk_cell HZX.out 0).trans rfl; have zf := blk_frozen HZX.out 0; clear hR1 hB1 hg1)
        go_meet
        have hR7 := Kd.R_far (Kd.R_mono (Kd.R_bound HR6.out) (fun k hk => hk.2.1)) (p := ⟨gx, 0, none⟩) (fun k hk => by show k ≠ gx; have := HSZ.out; omega) (Value.slice A1 (cr.length + 1) k2)
        have hR8 := Kd.R_reads' hR7
        have hlen : (cr ++ [(⟨⟨m0, m1⟩, m2⟩ : S62)]).length = cr.length + 1 := by simp
        exact ⟨A1, k2, cr ++ [⟨⟨m0, m1⟩, m2⟩], due, dl, trivial, ⟨by rw [hlen]; exact setCell_cells HZX.out _⟩, ⟨hR8.2.2, hR8.2.1⟩, ⟨easy_more _ hc8n⟩, ⟨HF1.out.below ((HB2.out.trans (HB6.out.mono (by have := HSZ.out; have := HGE.out; omega))).setCell (by show _ ≤ gx; have := HGE.out; omega) _)⟩⟩
      · go_wp2
        all_goals (go_meet; exact HEND.out _ due dl HY4.out (Kd.R_drew HY3.out) (Int.le_refl _) (Int.le_refl _) (below_drew HB2.out))
  case rest =>
    clear HF1 HB2 HF3 HY3 HY4 HSZ HGE HFL HGX2 H16
    obtain ⟨Ax, kx, cr', due', dl', _, HXB, HXC, HEO, HFx⟩ := hcut
    have HFa := Aside0.mk (HFx.out.add (fun X => X.heap[gx]? = some (.cells #[.slice Ax cr'.length kx, .int .i64 due', .int .i64 dl'] 45 (0, 0)) ∧ Kd.C k62 X Ax cr'.length cr') ⟨HXB.out, HXC.out.1⟩)
    have hxk := HXC.out.2
    have hE9 : cr'.length ≤ 9 := HEO.out.2.2.2.1
    obtain ⟨O', hO'⟩ : ∃ O', O' = cr'.map to99 := ⟨_, rfl⟩
    obtain ⟨b, hb⟩ : ∃ b, b = officeOk O' due' dl' := ⟨_, rfl⟩
    have H23 : Aside0 (∀ X, Kd.C k62 X Ax cr'.length cr' → Calls Try.prog 23 #[.agg #[.slice Ax cr'.length kx, .int .i64 due', .int .i64 dl']] X fun e w' => e = .returned (.bool b) ∧ Below X.heap.size X w') := ⟨fun X h => palantyperef01_RightOffice.calls _ Ax kx cr' due' dl' _ X h hxk (by rw [right_some cr' due' dl' (by omega) _ (Nat.le_refl _), hb, hO'])⟩
    have H18x : Aside0 (∀ X, Kd.C k62 X Ax cr'.length cr' → Calls Try.prog 18 #[.agg #[.slice Ax cr'.length kx, .int .i64 due', .int .i64 dl']] X fun e w' => ∃ A1 c1, e = .returned (.agg #[.slice A1 O'.length c1, .int .i64 due', .int .i64 dl']) ∧ Aside0 (Kd.C k99 w' A1 O'.length O') ∧ Aside0 (O'.length ≤ c1) ∧ Below X.heap.size X w') := ⟨fun X h => c18 h hxk (by omega) due' dl' hO'⟩
    obtain ⟨q0, q1, q2, u0, u1, u2, u3, u4, u5, u6⟩ := easyX HFa.out
    clear HFx HXB HXC
    cases b
    · clear hb hO'
      go_wp2_with (first | (go_at_call 23; refine (H23.out _ HFa.out.k.2).mono ?_; rintro e x0 ⟨rfl, hb⟩; have HFb := Aside0.mk (HFa.out.below hb); clear hb) | (go_at_call 11; refine (c11 _).mono ?_; rintro e w2 ⟨rfl, hb⟩))
      go_ret
      exact ⟨rfl, (HFb.out.below hb).b⟩
    · have heV : workE L P lo sh O' due' dl' = 0 := workE_easy HE.out hb.symm
      obtain ⟨W, hW⟩ : ∃ W, W = wkOf L P lo sh O due dl := ⟨_, rfl⟩
      obtain ⟨V, hV⟩ : ∃ V, V = wkOf L P lo sh O' due' dl' := ⟨_, rfl⟩
      obtain ⟨law1, law2⟩ : (¬ reachP W (-1) [] < W.T.length → proveR V 0 (rotaP W (-1) []) = true) ∧ reachP W (-1) [] ≤ reachP V (-1) [] := by
        have := easyO_easier (L := L) (P := P) (lo := lo) (sh := sh) HEO.out
        rw [← hO', ← HPO.out.2, ← hV, ← hW] at this
        exact easier_law this (hW ▸ HN.out)
      have he := HE.out
      by_cases hre : reachP W (-1) [] < W.T.length
      · have e1 : rotaR (wkOf L P lo sh O due dl) (workE L P lo sh O due dl) = ([], 9) := by rw [rotaR, if_neg (by simp [he]), ← hW, if_pos hre]
        obtain ⟨n, hn⟩ : ∃ n, n = reachP W (-1) [] := ⟨_, rfl⟩
        have e2 : failsR (wkOf L P lo sh O due dl) (workE L P lo sh O due dl) = (n, 0) := by rw [failsR, if_neg (by simp [he]), ← hW, if_neg (by omega), hn]
        obtain ⟨k, g, hkg, hkg2⟩ : ∃ k g, failsR (wkOf L P lo sh O' due' dl') (workE L P lo sh O' due' dl') = (k, g) ∧ (g = 7 ∨ g = 0 ∧ n ≤ k) := by
          rw [failsR, if_neg (by simp [heV]), ← hV]
          split
          · exact ⟨_, _, rfl, .inl rfl⟩
          · exact ⟨_, _, rfl, .inr ⟨rfl, by rw [hn]; exact law2⟩⟩
        have H17 := Aside0.mk (fun (X : World) (A1 : Option Addr) (k1 : Nat) (B1 : Option Addr) (k2 : Nat) (g1 : Kd.C k35 X A1 P.length P) (g2 : P.length ≤ k1) (g3 : Kd.C k99 X B1 O.length O) (g4 : O.length ≤ k2) => c17 g1 g2 g3 g4 L lo sh due dl e1)
        have H19 := Aside0.mk (fun (X : World) (A1 : Option Addr) (k1 : Nat) (B1 : Option Addr) (k2 : Nat) (g1 : Kd.C k35 X A1 P.length P) (g2 : P.length ≤ k1) (g3 : Kd.C k99 X B1 O.length O) (g4 : O.length ≤ k2) => c19 g1 g2 g3 g4 L lo sh due dl e2)
        have H19x := Aside0.mk (fun (X : World) (A1 : Option Addr) (k1 : Nat) (B1 : Option Addr) (k2 : Nat) (g1 : Kd.C k35 X A1 P.length P) (g2 : P.length ≤ k1) (g3 : Kd.C k99 X B1 O'.length O') (g4 : O'.length ≤ k2) => c19 g1 g2 g3 g4 L lo sh due' dl' hkg)
        clear hb hO' heV law1 law2 he hre e1 e2 hkg hW hV hn
        go_wp2_with (first | (go_at_call 23; refine (H23.out _ HFa.out.k.2).mono ?_; rintro e x0 ⟨rfl, hb⟩; have HFb := Aside0.mk (HFa.out.below hb); clear hb))
        clear q0 q1 q2 u0 u1 u2 u3 u4 u5 u6
        obtain ⟨q0, q1, q2, u0, u1, u2, u3, u4, u5, u6⟩ := easyX HFb.out
        have HFc := Aside0.mk HFb.out.drew
        go_region_held3 (fun Y : World => Y.cell? ⟨gx, 0, none⟩ = some (.slice Ax cr'.length kx) ∧ Y.cell? ⟨gx, 1, none⟩ = some (.int .i64 due') ∧ Y.cell? ⟨gx, 2, none⟩ = some (.int .i64 dl') ∧ Y.cell? ⟨w.heap.size, 0, none⟩ = some (.int .i64 L) ∧ Y.cell? ⟨w.heap.size, 1, none⟩ = some (.slice A l.length c) ∧ Y.cell? ⟨w.heap.size, 2, none⟩ = some (.int .i64 lo) ∧ Y.cell? ⟨w.heap.size, 3, none⟩ = some (.int .i64 sh) ∧ Y.cell? ⟨w.heap.size + 1, 0, none⟩ = some (.slice B cr.length d) ∧ Y.cell? ⟨w.heap.size + 1, 1, none⟩ = some (.int .i64 due) ∧ Y.cell? ⟨w.heap.size + 1, 2, none⟩ = some (.int .i64 dl)) (first | exact easyX HFz.out | exact easyX HFe.out | exact easyX HFd1.out | exact easyX HFc.out | go_keep) (first
          | (go_at_call 13; refine (H13.out _ HFc.out.b).mono ?_; rintro e x1 ⟨A1, k1, rfl, HA1, HK1, hb⟩; have HFd1 := Aside0.mk (HFc.out.below hb); clear hb)
          | (go_at_call 18; refine (H18.out _ HFd1.out.b).mono ?_; rintro e x2 ⟨A2, k2, rfl, HA2, HK2, hb⟩; have HFe := Aside0.mk (HFd1.out.below hb); have HB1 := Aside0.mk (Kd.C_below HA1.out hb); clear hb)
          | (go_at_call 17; refine (H17.out _ _ _ _ _ HB1.out HK1.out HA2.out HK2.out).mono ?_; rintro e x3 ⟨A3, k3, rfl, HA3, HK3, hb⟩; have HFz := Aside0.mk (HFe.out.below hb); clear hb))
        go_wp2
        have HFd := Aside0.mk HFz.out.drew
        clear q0 q1 q2 u0 u1 u2 u3 u4 u5 u6
        obtain ⟨q0, q1, q2, u0, u1, u2, u3, u4, u5, u6⟩ := easyX HFz.out
        go_region_held3 (fun Y : World => Y.cell? ⟨gx, 0, none⟩ = some (.slice Ax cr'.length kx) ∧ Y.cell? ⟨gx, 1, none⟩ = some (.int .i64 due') ∧ Y.cell? ⟨gx, 2, none⟩ = some (.int .i64 dl') ∧ Y.cell? ⟨w.heap.size, 0, none⟩ = some (.int .i64 L) ∧ Y.cell? ⟨w.heap.size, 1, none⟩ = some (.slice A l.length c) ∧ Y.cell? ⟨w.heap.size, 2, none⟩ = some (.int .i64 lo) ∧ Y.cell? ⟨w.heap.size, 3, none⟩ = some (.int .i64 sh) ∧ Y.cell? ⟨w.heap.size + 1, 0, none⟩ = some (.slice B cr.length d) ∧ Y.cell? ⟨w.heap.size + 1, 1, none⟩ = some (.int .i64 due) ∧ Y.cell? ⟨w.heap.size + 1, 2, none⟩ = some (.int .i64 dl)) (first | exact easyX HFy.out | exact easyX HFf.out | exact easyX HFe1.out | exact easyX HFd.out | go_keep) (first
          | (go_at_call 13; refine (H13.out _ HFd.out.b).mono ?_; rintro e x4 ⟨A4, k4, rfl, HA4, HK4, hb⟩; have HFe1 := Aside0.mk (HFd.out.below hb); clear hb)
          | (go_at_call 18; refine (H18.out _ HFe1.out.b).mono ?_; rintro e x5 ⟨A5, k5, rfl, HA5, HK5, hb⟩; have HFf := Aside0.mk (HFe1.out.below hb); have HB4 := Aside0.mk (Kd.C_below HA4.out hb); clear hb)
          | (go_at_call 19; refine (H19.out _ _ _ _ _ HB4.out HK4.out HA5.out HK5.out).mono ?_; rintro e x6 ⟨rfl, hb⟩; have HFy := Aside0.mk (HFf.out.below hb); clear hb))
        go_wp2
        have HFg := Aside0.mk HFy.out.drew
        clear q0 q1 q2 u0 u1 u2 u3 u4 u5 u6
        obtain ⟨q0, q1, q2, u0, u1, u2, u3, u4, u5, u6⟩ := easyX HFy.out
        go_region_held3 (fun Y : World => Y.cell? ⟨gx, 0, none⟩ = some (.slice Ax cr'.length kx) ∧ Y.cell? ⟨gx, 1, none⟩ = some (.int .i64 due') ∧ Y.cell? ⟨gx, 2, none⟩ = some (.int .i64 dl') ∧ Y.cell? ⟨w.heap.size, 0, none⟩ = some (.int .i64 L) ∧ Y.cell? ⟨w.heap.size, 1, none⟩ = some (.slice A l.length c) ∧ Y.cell? ⟨w.heap.size, 2, none⟩ = some (.int .i64 lo) ∧ Y.cell? ⟨w.heap.size, 3, none⟩ = some (.int .i64 sh) ∧ Y.cell? ⟨w.heap.size + 1, 0, none⟩ = some (.slice B cr.length d) ∧ Y.cell? ⟨w.heap.size + 1, 1, none⟩ = some (.int .i64 due) ∧ Y.cell? ⟨w.heap.size + 1, 2, none⟩ = some (.int .i64 dl)) (first | exact easyX HFj.out | exact easyX HFi.out | exact easyX HFh.out | exact easyX HFg.out | go_keep) (first
          | (go_at_call 13; refine (H13.out _ HFg.out.b).mono ?_; rintro e x7 ⟨A7, k7, rfl, HA7, HK7, hb⟩; have HFh := Aside0.mk (HFg.out.below hb); clear hb)
          | (go_at_call 18; refine (H18x.out _ HFh.out.k.2).mono ?_; rintro e x8 ⟨A8, k8, rfl, HA8, HK8, hb⟩; have HFi := Aside0.mk (HFh.out.below hb); have HB7 := Aside0.mk (Kd.C_below HA7.out hb); clear hb)
          | (go_at_call 19; refine (H19x.out _ _ _ _ _ HB7.out HK7.out HA8.out HK8.out).mono ?_; rintro e x9 ⟨rfl, hb⟩; have HFj := Aside0.mk (HFi.out.below hb); clear hb))
        go_upto_region 24 with fail
        have HFk := Aside0.mk HFj.out.drew
        rcases hkg2 with rfl | ⟨rfl, hk2⟩
        · go_wp2_with (first | (go_at_call 11; refine (c11 _).mono ?_; rintro e w2 ⟨rfl, hb⟩))
          go_ret
          exact ⟨rfl, (HFj.out.below hb).b⟩
        · go_wp2_with (first | (go_at_call 11; refine (c11 _).mono ?_; rintro e w2 ⟨rfl, hb⟩))
          go_ret
          exact ⟨rfl, (HFj.out.below hb).b⟩
      · obtain ⟨rr, hrr⟩ : ∃ x, x = rotaP W (-1) [] := ⟨_, rfl⟩
        have e1 : rotaR (wkOf L P lo sh O due dl) (workE L P lo sh O due dl) = (rr, 0) := by rw [rotaR, if_neg (by simp [he]), ← hW, if_neg hre, hrr]
        have e3 : proveR (wkOf L P lo sh O' due' dl') (workE L P lo sh O' due' dl') rr = true := by rw [heV, ← hV, hrr]; exact law1 hre
        have hrl : rr.length ≤ 1000000 := by
          have h1 := (rota_right hre).2
          have h2 := HN.out.t
          rw [← hW] at h2
          rw [← hrr] at h1
          omega
        have H17 := Aside0.mk (fun (X : World) (A1 : Option Addr) (k1 : Nat) (B1 : Option Addr) (k2 : Nat) (g1 : Kd.C k35 X A1 P.length P) (g2 : P.length ≤ k1) (g3 : Kd.C k99 X B1 O.length O) (g4 : O.length ≤ k2) => c17 g1 g2 g3 g4 L lo sh due dl e1)
        have H20 := Aside0.mk (fun (X : World) (A1 : Option Addr) (k1 : Nat) (B1 : Option Addr) (k2 : Nat) (g1 : Kd.C k35 X A1 P.length P) (g2 : P.length ≤ k1) (g3 : Kd.C k99 X B1 O'.length O') (g4 : O'.length ≤ k2) (D1 : Option Addr) (k3 : Nat) (g5 : Kd.C (Kd.int .i64) X D1 rr.length rr) (g6 : rr.length ≤ k3) => c20 g1 g2 g3 g4 g5 g6 L lo sh due' dl' e3)
        have H21 := Aside0.mk (fun (X : World) (A1 : Option Addr) (k1 : Nat) (g1 : Kd.C (Kd.int .i64) X A1 rr.length rr) (g2 : rr.length ≤ k1) => c21 g1 g2 hrl)
        clear hb hO' heV law1 law2 he hre e1 e3 hW hV hrr
        go_wp2_with (first | (go_at_call 23; refine (H23.out _ HFa.out.k.2).mono ?_; rintro e x0 ⟨rfl, hb⟩; have HFb := Aside0.mk (HFa.out.below hb); clear hb))
        clear q0 q1 q2 u0 u1 u2 u3 u4 u5 u6
        obtain ⟨q0, q1, q2, u0, u1, u2, u3, u4, u5, u6⟩ := easyX HFb.out
        have HFc := Aside0.mk HFb.out.drew
        go_region_held3 (fun Y : World => Y.cell? ⟨gx, 0, none⟩ = some (.slice Ax cr'.length kx) ∧ Y.cell? ⟨gx, 1, none⟩ = some (.int .i64 due') ∧ Y.cell? ⟨gx, 2, none⟩ = some (.int .i64 dl') ∧ Y.cell? ⟨w.heap.size, 0, none⟩ = some (.int .i64 L) ∧ Y.cell? ⟨w.heap.size, 1, none⟩ = some (.slice A l.length c) ∧ Y.cell? ⟨w.heap.size, 2, none⟩ = some (.int .i64 lo) ∧ Y.cell? ⟨w.heap.size, 3, none⟩ = some (.int .i64 sh) ∧ Y.cell? ⟨w.heap.size + 1, 0, none⟩ = some (.slice B cr.length d) ∧ Y.cell? ⟨w.heap.size + 1, 1, none⟩ = some (.int .i64 due) ∧ Y.cell? ⟨w.heap.size + 1, 2, none⟩ = some (.int .i64 dl)) (first | exact easyX HFz.out | exact easyX HFe.out | exact easyX HFd1.out | exact easyX HFc.out | go_keep) (first
          | (go_at_call 13; refine (H13.out _ HFc.out.b).mono ?_; rintro e x1 ⟨A1, k1, rfl, HA1, HK1, hb⟩; have HFd1 := Aside0.mk (HFc.out.below hb); clear hb)
          | (go_at_call 18; refine (H18.out _ HFd1.out.b).mono ?_; rintro e x2 ⟨A2, k2, rfl, HA2, HK2, hb⟩; have HFe := Aside0.mk (HFd1.out.below hb); have HB1 := Aside0.mk (Kd.C_below HA1.out hb); clear hb)
          | (go_at_call 17; refine (H17.out _ _ _ _ _ HB1.out HK1.out HA2.out HK2.out).mono ?_; rintro e x3 ⟨A3, k3, rfl, HA3, HK3, hb⟩; have HFz := Aside0.mk (HFe.out.below hb); clear hb))
        go_wp2
        have HA3' := Aside0.mk (Kd.C_drew HA3.out)
        have HFd := Aside0.mk HFz.out.drew
        clear q0 q1 q2 u0 u1 u2 u3 u4 u5 u6
        obtain ⟨q0, q1, q2, u0, u1, u2, u3, u4, u5, u6⟩ := easyX HFz.out
        go_region_held3 (fun Y : World => Y.cell? ⟨gx, 0, none⟩ = some (.slice Ax cr'.length kx) ∧ Y.cell? ⟨gx, 1, none⟩ = some (.int .i64 due') ∧ Y.cell? ⟨gx, 2, none⟩ = some (.int .i64 dl') ∧ Y.cell? ⟨w.heap.size, 0, none⟩ = some (.int .i64 L) ∧ Y.cell? ⟨w.heap.size, 1, none⟩ = some (.slice A l.length c) ∧ Y.cell? ⟨w.heap.size, 2, none⟩ = some (.int .i64 lo) ∧ Y.cell? ⟨w.heap.size, 3, none⟩ = some (.int .i64 sh) ∧ Y.cell? ⟨w.heap.size + 1, 0, none⟩ = some (.slice B cr.length d) ∧ Y.cell? ⟨w.heap.size + 1, 1, none⟩ = some (.int .i64 due) ∧ Y.cell? ⟨w.heap.size + 1, 2, none⟩ = some (.int .i64 dl)) (first | exact easyX HFv.out | exact easyX HFw.out | exact easyX HFy.out | exact easyX HFf.out | exact easyX HFe1.out | exact easyX HFd.out | go_keep) (first
          | (go_at_call 13; refine (H13.out _ HFd.out.b).mono ?_; rintro e x4 ⟨A4, k4, rfl, HA4, HK4, hb⟩; have HFe1 := Aside0.mk (HFd.out.below hb); have HB4B := Aside0.mk hb; clear hb)
          | (go_at_call 18; refine (H18x.out _ HFe1.out.k.2).mono ?_; rintro e x5 ⟨A5, k5, rfl, HA5, HK5, hb⟩; have HFf := Aside0.mk (HFe1.out.below hb); have HB4 := Aside0.mk (Kd.C_below HA4.out hb); have HB5B := Aside0.mk hb; clear hb)
          | (go_at_call 21; refine (H21.out _ _ _ (Kd.C_below (Kd.C_below HA3'.out HB4B.out) HB5B.out) HK3.out).mono ?_; rintro e x6 ⟨A6, k6, rfl, HA6, HK6, hb⟩; have HFy := Aside0.mk (HFf.out.below hb); have HC4 := Aside0.mk (Kd.C_below HB4.out hb); have HC5 := Aside0.mk (Kd.C_below HA5.out hb); clear hb)
          | (go_at_call 20; refine (H20.out _ _ _ _ _ HC4.out HK4.out HC5.out HK5.out _ _ HA6.out HK6.out).mono ?_; rintro e x7 ⟨rfl, hb⟩; have HFw := Aside0.mk (HFy.out.below hb); clear hb)
          | (go_at_call 11; refine (c11 _).mono ?_; rintro e w2 ⟨rfl, hb⟩; have HFv := Aside0.mk (HFw.out.below hb); clear hb))
        go_wp2
        go_ret
        exact ⟨rfl, HFv.out.b⟩
/-- TakeEasier returns true, whatever comes in. -/
theorem easy_true (w : World) (L lo sh due dl : Int) (A B : Option Addr) (c d : Nat) (l : List S41) (cr : List S62) (which at_ by_ m0 m1 m2 : Int) (h1 : Kd.C k41 w A l.length l) (h1c : l.length ≤ c) (h2 : Kd.C k62 w B cr.length cr) (h2c : cr.length ≤ d) (hw : 0 ≤ which ∧ which ≤ 255) (ha : 0 ≤ at_ ∧ at_ ≤ 255) (hy : 0 ≤ by_ ∧ by_ ≤ 65535) (hm0 : -9223372036854775808 ≤ m0 ∧ m0 ≤ 9223372036854775807) :
    Calls Try.prog 6 #[.agg #[.int .i64 L, .slice A l.length c, .int .i64 lo, .int .i64 sh], .agg #[.slice B cr.length d, .int .i64 due, .int .i64 dl], .int .u8 which, .int .u8 at_, .int .u16 by_, .agg #[.int .i64 m0, .int .i64 m1, .int .i64 m2]] w fun e w' => e = .returned (.bool true) ∧ Below w.heap.size w w' := by
  cases hr : readyP L l lo sh cr due dl
  · exact easy_idle w L lo sh due dl A B c d l cr which at_ by_ m0 m1 m2 h1 h1c h2 h2c hw ha hy hm0 hr
  · exact easy_main w L lo sh due dl A B c d l cr which at_ by_ m0 m1 m2 h1 h1c h2 h2c hw ha hy hm0 hr
end Go.Proofs.Ytillieimgjdpbaa.Pr
namespace Go.Proofs.Ytillieimgjdpbaa.Pr
open Go.RowKit Go.Proofs.YtillieimgjdpbaaW.PrintWords
set_option linter.unusedVariables false
set_option linter.unusedSimpArgs false
theorem spans41 {H : Type} {enc : TypeId × Value → H} {W : World} {sp : Nat → Bool} {held : Bool} {fuel : Nat} {cs : List Value} {x : DataW H × List MemPlace} (h : DataW.trod enc Try.prog W 0 sp held fuel 22 cs = some x) :
    ∃ (A : Option Addr) (c : Nat) (l : List S41), cs = [.slice A l.length c] ∧ l.length ≤ c ∧ Kd.C k41 W A l.length l ∧ ∀ p ∈ l, (Lit.int .i64 p.f0).wf = true ∧ (Lit.int .i64 p.f1).wf = true := by
  rcases Go.Deep.open_slice_pairs Try.underlying22 Try.underlying41 (by kernel_rfl) rfl rfl (by kernel_rfl) (by kernel_rfl) h with ⟨rfl, _⟩ | ⟨a, len, cap, m, n, V0, V1, D0, D1, P0, P1, rfl, _, hlc, hcm, hm, _, hx⟩
  · exact ⟨none, 0, [], rfl, Nat.le_refl _, ⟨rfl, by decide, fun h => absurd h (by decide)⟩, by simp⟩
  · have hlm : len ≤ m := by rw [hm]; split <;> omega
    have hex : ∀ i, i < m → ∃ q : Int × Int, V0 i = .int .i64 q.1 ∧ V1 i = .int .i64 q.2 ∧ (Lit.int .i64 q.1).wf = true ∧ (Lit.int .i64 q.2).wf = true := fun i hi => by
      obtain ⟨_, _, h0, h1⟩ := hx i hi
      obtain ⟨p0, e0, _, w0⟩ := DataW.trod_int Try.underlying3 h0
      obtain ⟨p1, e1, _, w1⟩ := DataW.trod_int Try.underlying3 h1
      exact ⟨(p0, p1), by simpa using e0, by simpa using e1, w0, w1⟩
    have hq : ∃ q : Nat → Int × Int, ∀ i, i < m → V0 i = .int .i64 (q i).1 ∧ V1 i = .int .i64 (q i).2 ∧ (Lit.int .i64 (q i).1).wf = true ∧ (Lit.int .i64 (q i).2).wf = true := by
      classical
      exact ⟨fun i => if hi : i < m then Classical.choose (hex i hi) else (0, 0), fun i hi => by simp only [dif_pos hi]; exact Classical.choose_spec (hex i hi)⟩
    obtain ⟨q, hq⟩ := hq
    have hl : ((List.range len).map fun i => (⟨(q i).1, (q i).2⟩ : S41)).length = len := by simp
    refine ⟨some a, cap, (List.range len).map fun i => ⟨(q i).1, (q i).2⟩, by rw [hl], by rw [hl]; exact hlc, ⟨rfl, by rw [hl]; unfold maxLen at hcm; omega, fun _ => ⟨a, rfl, fun j p hj => ?_⟩⟩, fun p hp => ?_⟩
    · obtain ⟨hj1, hj2⟩ := List.getElem?_eq_some_iff.1 hj
      rw [hl] at hj1
      obtain ⟨c0, c1, _, _⟩ := hx j (by omega)
      obtain ⟨e0, e1, _, _⟩ := hq j (by omega)
      have hp : p = ⟨(q j).1, (q j).2⟩ := by rw [← hj2]; simp
      subst hp
      refine ⟨[.int .i64 (q j).1, .int .i64 (q j).2], rfl, k41_mk _ _, fun i u hi => ?_⟩
      match i, hi with
      | 0, hi =>
        obtain rfl : Value.int .i64 (q j).1 = u := by simpa using hi
        rw [← e0]; exact c0
      | 1, hi =>
        obtain rfl : Value.int .i64 (q j).2 = u := by simpa using hi
        rw [← e1]; exact c1
    · obtain ⟨i, hi, rfl⟩ := List.mem_map.1 hp
      obtain ⟨_, _, w0, w1⟩ := hq i (by have := List.mem_range.1 hi; omega)
      exact ⟨w0, w1⟩
set_option maxRecDepth 100000 in
theorem open24 {H : Type} {enc : TypeId × Value → H} {W : World} {sp : Nat → Bool} {held : Bool} {fuel : Nat} {cs : List Value} {x : DataW H × List MemPlace} (h : DataW.trod enc Try.prog W 0 sp held fuel 24 cs = some x) :
    ∃ (L : Int) (A : Option Addr) (c : Nat) (l : List S41) (lo sh : Int), cs = [.int .i64 L, .slice A l.length c, .int .i64 lo, .int .i64 sh] ∧ l.length ≤ c ∧ Kd.C k41 W A l.length l ∧ (∀ p ∈ l, (Lit.int .i64 p.f0).wf = true ∧ (Lit.int .i64 p.f1).wf = true) ∧ (Lit.int .i64 L).wf = true ∧ (Lit.int .i64 lo).wf = true ∧ (Lit.int .i64 sh).wf = true := by
  obtain ⟨xs, n, _, _, hlen, hxl, hf⟩ := DataW.trod_struct Try.underlying24 h
  have c24 : Try.prog.cellsOf 24 = 4 := by kernel_rfl
  have c3 : Try.prog.cellsOf 3 = 1 := by kernel_rfl
  have c22 : Try.prog.cellsOf 22 = 1 := by kernel_rfl
  rw [c24] at hlen
  match cs, hlen, xs, hxl with
  | [v0, v1, v2, v3], _, [y0, y1, y2, y3], _ =>
    have g0 := hf 0 _ rfl
    have g1 := hf 1 _ rfl
    have g2 := hf 2 _ rfl
    have g3 := hf 3 _ rfl
    simp [c3, c22] at g0 g1 g2 g3
    obtain ⟨L, e0, _, w0⟩ := DataW.trod_int Try.underlying3 g0
    obtain ⟨A, c, l, e1, hc, hC, hw⟩ := spans41 g1
    obtain ⟨lo, e2, _, w2⟩ := DataW.trod_int Try.underlying3 g2
    obtain ⟨sh, e3, _, w3⟩ := DataW.trod_int Try.underlying3 g3
    exact ⟨L, A, c, l, lo, sh, by simp at e0 e1 e2 e3; simp [e0, e1, e2, e3], hc, hC, hw, w0, w2, w3⟩
end Go.Proofs.Ytillieimgjdpbaa.Pr
