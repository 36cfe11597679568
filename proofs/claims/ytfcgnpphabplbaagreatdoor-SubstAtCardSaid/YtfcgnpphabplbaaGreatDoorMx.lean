/- The living call; the document's longest part. -/
import Derived.Test.YtfcgnpphabplbaaGreatDoorMw
import Derived.ProofKit
import Derived.Test.YtfcgnpphabplbaaGreatDoorMv
import Derived.Test.YtfcgnpphabplbaaGreatDoorMt
set_option linter.unusedVariables false
set_option linter.unusedSimpArgs false
namespace Go.Ak
set_option maxRecDepth 100000
theorem ztA:run fsT spE 200 0 19 [] []=some (.ret (.bool true),[]):=by kernel_rfl
theorem zFW (bar:Nat) (H:Heap):Rn fsT SA.sp bar 19 [] H=some (.ret (.bool true),H):=zu5 SA.mono zJd rfl rfl ztA bar H
end Go.Ak
namespace Go.Ak
end Go.Ak
namespace Go.Ak
attribute [local simp] zbN zda zdb zeJ zbh zcO zaE zaX zaP zaY zbg zbv zbw za9 zb2 zc7 zc8 zbT zbU
 zaN zcS wanted zbl opd zjq live zbW zcT zbm zbS zhi put zdE esc zn7 zqD args drop1 zgh zqB zqA zqC zmS rd wr zbH sub AV.cells pack one setCells zet zmt zcV roOf zaL zeW zav zat zdA za6 newRow newObj step zbY zbx contents take flat look lim zd4 bound zdo zdH eqS eqL eqA ver
 zb1 zc6 zc5 zbZ zb0
 List.getElem?_cons_zero List.getElem?_cons_succ zc4 zbd zaB zaC zbX
attribute [local simp] sR sT cV bL mvV mvL mgV mgL asL asI asB ldN ldV ldL ldG stV stL fdL fdV fdG fgL nlC nlG bnI bvI bnL bvL bxI bxU bgI bgL exT lnS lgS clA clB clC clI pkT pkF pvT pvF pgT pgF ixL axV bxV apL
attribute [-simp] getElem?_pos
section
end
section
end
end Go.Ak
namespace Go.Ak
end Go.Ak
namespace Go.Ak
attribute [local simp] zbN zda zdb zeJ zbh zcO zaE zaX zaP zaY zbg zbv zbw za9 zb2 zc7 zc8 zbT zbU
 zaN zcS wanted zbl opd zjq live zbW zcT zbm zbS zhi put zdE esc zn7 zqD args drop1 zgh zqB zqA zqC zmS rd wr zbH sub AV.cells pack one setCells zet zmt zcV roOf zaL zeW zav zat zdA za6 newRow newObj step zbY zbx contents take flat look lim zd4 bound zdo zdH eqS eqL eqA ver
 zb1 zc6 zc5 zbZ zb0
 List.getElem?_cons_zero List.getElem?_cons_succ zc4 zbd zaB zaC zbX
attribute [local simp] sR sT cV bL mvV mvL mgV mgL asL asI asB ldN ldV ldL ldG stV stL fdL fdV fdG fgL nlC nlG bnI bvI bnL bvL bxI bxU bgI bgL exT lnS lgS clA clB clC clI pkT pkF pvT pvF pgT pgF ixL axV bxV apL
attribute [-simp] getElem?_pos
section
theorem zBW {s:List UInt8} {y:Re} {j:Nat} (h:ztk s= .ok y j):y.can (-1) 1=true:=by
 unfold ztk at h
 split at h
 ·cases h
 split at h
 ·cases h
 split at h
 ·cases h
 ·rename_i h0 _
  simp only [PR.ok.injEq] at h
  obtain ⟨rfl,rfl⟩:=h
  rename_i z _ _ _
  cases hc:z.can (-1) 1 with
  | true=>rfl
  | false=>exact absurd (by simp [Re.states,hc]) h0
end
end Go.Ak
