/- TakeNames: what the program's answers come to at the document's examples (closed facts). -/
import Derived.Test.YtillieimgjdpbaaMPr12
namespace Go.Proofs.Ytillieimgjdpbaa.Pr
open Go.RowKit Go.Proofs.YtillieimgjdpbaaW.PrintWords Go.Proofs.YtillieimgjdpbaaW.PrintLast Go.Proofs.YtillieimgjdpbaaW.PrintMore
def nmP : List S35 := [⟨400, 500⟩]
def nmO : List S99 := [⟨⟨0, 1⟩, 60⟩, ⟨⟨1, 2⟩, 0⟩, ⟨⟨0, 1⟩, 300⟩]
def nmT : List S99 := [⟨⟨0, 1⟩, 60⟩, ⟨⟨1, 2⟩, 0⟩]
def nmR : List S71 := [⟨1, 10⟩, ⟨1, 10⟩, ⟨1, 10⟩, ⟨1, 10⟩, ⟨1, 10⟩]
def nmN : List S35 := [⟨0, 1000⟩]
def nmW : Wk := ⟨1000, [⟨0, 180⟩, ⟨180, 400⟩, ⟨500, 680⟩, ⟨680, 860⟩, ⟨860, 1000⟩], nmO, 400, 30⟩
def nmV : Wk := ⟨1000, [⟨0, 180⟩, ⟨180, 400⟩, ⟨500, 680⟩, ⟨680, 860⟩, ⟨860, 1000⟩], nmT, 400, 30⟩
theorem nm_w : nmW = wkOf 1000 nmP 180 60 nmO 400 30 := by kernel_rfl
theorem nm_v : nmV = wkOf 1000 nmP 180 60 nmT 400 30 := by kernel_rfl
theorem nm_e : workE 1000 nmP 180 60 nmO 400 30 = 0 := by kernel_rfl
theorem nm_e2 : workE 1000 nmP 180 60 nmT 400 30 = 0 := by kernel_rfl
theorem nm_at1 : take_At.f 1000 nmP 180 60 399 = some (1, 0) := by kernel_rfl
theorem nm_at2 : take_At.f 1000 nmP 180 60 400 = some (0, 7) := by kernel_rfl
theorem nm_at3 : take_At.f 1000 nmP 180 60 500 = some (2, 0) := by kernel_rfl
theorem nm_at4 : take_At.f 1000 nmP 180 60 1000 = some (0, 2) := by kernel_rfl
theorem nm_li : listedP nmW [1, 0, 2, 1, 0] = true := by kernel_rfl
theorem nm_li4 : listedP nmW [1, 0, 2, 1] = false := by kernel_rfl
theorem nm_li0 : listedP nmW [0, 0, 2, 1, 0] = true := by kernel_rfl
theorem nm_ri : rightP nmW [1, 0, 2, 1, 0] = true := by kernel_rfl
theorem nm_ri0 : rightP nmW [0, 0, 2, 1, 0] = false := by kernel_rfl
theorem nm_done : doneFrom nmW 0 nmR = [370, 630, 870, 1050, 1150] := by kernel_rfl
theorem nm_fr : frontP 600 nmW.T = 3 := by kernel_rfl
theorem nm_rel2 : rotaP nmW 2 (([1, 0, 2, 1, 0] : List Int).take 3) = [1, 0, 2, 1, 0] := by kernel_rfl
theorem nm_op2 : openP nmW [1, 0, 2, 1, 0] 2 600 3 = [2] := by kernel_rfl
theorem nm_rel1 : (rotaP nmW 1 (([1, 0, 2, 1, 0] : List Int).take 3)).length < nmW.T.length := by decide +kernel
theorem nm_f : failsR nmW 0 = (0, 7) := by kernel_rfl
theorem nm_f2 : failsR nmV 0 = (2, 0) := by kernel_rfl
theorem nm_r2 : rotaR nmV 0 = ([], 9) := by kernel_rfl
theorem nm_none : checkP 1000 nmN 180 60 = ([], 0) := by kernel_rfl
theorem nm_rn : rotaR (wkOf 1000 nmN 180 60 nmT 400 30) (workE 1000 nmN 180 60 nmT 400 30) = ([], 0) := by kernel_rfl
theorem nm_long : take_CheckSitting.f 1000 nmP 20 20 = some 3 := by kernel_rfl
theorem nm_s0 : take_CheckSitting.f 0 [] 0 0 = some 1 := by kernel_rfl
theorem nm_o0 : take_CheckOffice.f [] 0 0 = some 1 := by kernel_rfl
theorem nm_good : ∀ (k : Nat) (_ : k < ([1, 0, 2, 1, 0] : List Int).length) (_ : k < nmR.length), realOk nmW ([1, 0, 2, 1, 0] : List Int)[k] nmR[k] := by
  intro k h1 h2
  match k, h1, h2 with
  | 0, _, _ => exact (show realOk nmW 1 ⟨1, 10⟩ from by unfold realOk; decide)
  | 1, _, _ => exact (show realOk nmW 0 ⟨1, 10⟩ from by unfold realOk; decide)
  | 2, _, _ => exact (show realOk nmW 2 ⟨1, 10⟩ from by unfold realOk; decide)
  | 3, _, _ => exact (show realOk nmW 1 ⟨1, 10⟩ from by unfold realOk; decide)
  | 4, _, _ => exact (show realOk nmW 0 ⟨1, 10⟩ from by unfold realOk; decide)
end Go.Proofs.Ytillieimgjdpbaa.Pr
