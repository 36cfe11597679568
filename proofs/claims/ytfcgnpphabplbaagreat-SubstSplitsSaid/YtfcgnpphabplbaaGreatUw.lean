/- Which patterns and texts are light; the living call. -/
import Derived.Test.YtfcgnpphabplbaaGreatUv
import Derived.ProofKit
set_option linter.unusedVariables false
set_option linter.unusedSimpArgs false

namespace Go.Ak
set_option maxRecDepth 100000

theorem lives08_run:run fsT spB 200 0 19 [] []=some (.ret (.bool true),[]):=by kernel_rfl

theorem lives08 (bar:Nat) (H:Heap):Rn fsT SA.sp bar 19 [] H=some (.ret (.bool true),H):=pure_any SA.mono fsT_19 rfl rfl lives08_run bar H

end Go.Ak

namespace Go.Ak

end Go.Ak

namespace Go.Ak
attribute [local simp] zbF zcX zcY zew zbg zcB zaC zaU zaK zaV zbb zbm zbn zaY zbT zcU zcV zbJ zbK
 zaO zcH wanted zbl opd opdL live zbM zcG zbi zbH zf7 put zdi esc escs arg1 args drop1 nbeq nble nblt binA binI rd wr zbB sub AV.cells pack one setCells zdV resV zcM roOf zaJ zeH zaw zav zda za1 newRow newObj step zbP zbo contents take flat look lim zdL bound zc7 zdj eqS eqL eqA ver
 zbS zcT zcS zbQ zbR
 List.getElem?_cons_zero List.getElem?_cons_succ zcR zbc zaA zaB zbO
attribute [local simp] mvV mvL mgV mgL asL asI asB ldN ldV ldL ldG stV stL fdL fdV fdG fgL nlC nlG bnI bvI bnL bvL bxI bxU bgI bgL exT lnS lgS clA clB clC clI pkT pkF pvT pvF pgT pgF ixL axV bxV apL
attribute [-simp] getElem?_pos

section

theorem light8_run (p s:List UInt8): ∃ b:Bool,(b=true→s.length≤25)∧ ∀ (bar:Nat) (H:Heap),Rn fsT SA.sp bar 18 [.str p, .str s] H=some (.ret (.bool b),H):=by
 have hs:=SA.mono
 obtain ⟨b,hb⟩:=light_run p
 have hb:=hb 0 []
 refine ⟨decide (s.length≤25)&&b,fun h=>by simp at h;exact h.1,fun bar H=>zao hs fsT_18 rfl rfl rfl ?_⟩
 rw [env18]
 by_cases h:s.length≤25
 ·have h':(s.length:Int)≤25:=by omega
  cases b<;>simp [a18,a18r0,a18r1,zad hs,zaa hs,zac hs,h,h',hb]
 ·have h': ¬ (s.length:Int)≤25:=by omega
  simp [a18,a18r0,a18r1,zad hs,zaa hs,zac hs,h,h']

end

end Go.Ak

