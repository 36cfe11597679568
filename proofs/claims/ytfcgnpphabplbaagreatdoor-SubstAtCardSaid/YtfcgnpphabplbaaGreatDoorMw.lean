/- Parts' places taken: Put, All, the document's Put. -/
import Derived.Test.YtfcgnpphabplbaaGreatDoorMl
import Derived.Test.YtfcgnpphabplbaaGreatDoorMt
set_option linter.unusedVariables false
set_option linter.unusedSimpArgs false
namespace Go.Ak
attribute [local simp] zbN zda zdb zeJ zbh zcO zaE zaX zaP zaY zbg zbv zbw za9 zb2 zc7 zc8 zbT zbU
 zaN zcS wanted zbl opd zjq live zbW zcT zbm zbS zhi put zdE esc zn7 zqD args drop1 zgh zqB zqA zqC zmS rd wr zbH sub AV.cells pack one setCells zet zmt zcV roOf zaL zeW zav zat zdA za6 newRow newObj step zbY zbx contents take flat look lim zd4 bound zdo zdH eqS eqL eqA ver
 zb1 zc6 zc5 zbZ zb0
 List.getElem?_cons_zero List.getElem?_cons_succ zc4 zbd zaB zaC zbX
attribute [local simp] sR sT cV bL mvV mvL mgV mgL asL asI asB ldN ldV ldL ldG stV stL fdL fdV fdG fgL nlC nlG bnI bvI bnL bvL bxI bxU bgI bgL exT lnS lgS clA clB clC clI pkT pkF pvT pvF pgT pgF ixL axV bxV apL
attribute [-simp] getElem?_pos
section
def BC (bar:Nat) (H:Heap) (q:Nat) (s:List UInt8):Prop :=
 bar≤q∧ ∃ b0,(b0= .nilp∨b0= .tptr 4 2 q 0)∧((hget H q=some (some [b0, .nils])∧s= [])∨ ∃ r cs,hget H q=some (some [b0, .bsl r s.length])∧hget H r=some (some cs)∧cs.take s.length=bytesOf s∧s.length≤cs.length∧q≠r∧bar≤r∧s ≠ [])
theorem BC.new (bar:Nat) (H:Heap) (h:bar≤H.length):BC bar (H ++ [some [.nilp, .nils]]) H.length []:=⟨h, .nilp, .inl rfl, .inl ⟨zbd _ _,rfl⟩⟩
end
section
end
section
end
section
end
end Go.Ak
