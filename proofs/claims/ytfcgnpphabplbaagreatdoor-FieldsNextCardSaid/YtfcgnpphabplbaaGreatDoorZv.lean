/- Parts' places taken: Put, All, the document's Put. -/
import Derived.Test.YtfcgnpphabplbaaGreatDoorZk
import Derived.Test.YtfcgnpphabplbaaGreatDoorZs
set_option linter.unusedVariables false
set_option linter.unusedSimpArgs false
namespace Go.Ak
attribute [local simp] zbI zc2 zc3 zey zbd zcH zaD zaW zaN zaX zbc zbt zbu za6 zbY zcZ zc0 zbP zbQ
 zaL zcL wanted zbh opd zi2 live zbS zcM zbk zbO zgZ put zdv esc znn zpZ args drop1 zf8 zpW zqn zpY zmb rd wr zbD sub AV.cells pack one setCells zek zlL zcO roOf zaK zeJ zav zat zdr zbi newRow newObj step zbU zbv contents take flat look lim zdV bound zdg zdy eqS eqL eqA ver
 zbX zcY zcX zbV zbW
 List.getElem?_cons_zero List.getElem?_cons_succ zcW zba zaA zaB zbT
attribute [local simp] sR sT cV bL mvV mvL mgV mgL asL asI asB ldN ldV ldL ldG stV stL fdL fdV fdG fgL nlC nlG bnI bvI bnL bvL bxI bxU bgI bgL exT lnS lgS clA clB clC clI pkT pkF pvT pvF pgT pgF ixL axV bxV apL
attribute [-simp] getElem?_pos
section
def BC (bar:Nat) (H:Heap) (q:Nat) (s:List UInt8):Prop :=
 bar≤q∧ ∃ b0,(b0= .nilp∨b0= .tptr 4 2 q 0)∧((hget H q=some (some [b0, .nils])∧s= [])∨ ∃ r cs,hget H q=some (some [b0, .bsl r s.length])∧hget H r=some (some cs)∧cs.take s.length=bytesOf s∧s.length≤cs.length∧q≠r∧bar≤r∧s ≠ [])
theorem BC.new (bar:Nat) (H:Heap) (h:bar≤H.length):BC bar (H ++ [some [.nilp, .nils]]) H.length []:=⟨h, .nilp, .inl rfl, .inl ⟨zba _ _,rfl⟩⟩
end
section
end
section
end
section
end
end Go.Ak
