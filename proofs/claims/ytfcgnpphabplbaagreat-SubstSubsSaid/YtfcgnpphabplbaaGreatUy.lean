/- That the law answers true. -/
import Derived.Test.YtfcgnpphabplbaaGreatUx
import Derived.Test.YtfcgnpphabplbaaGreatUw
set_option linter.unusedVariables false
set_option linter.unusedSimpArgs false

namespace Go.Ak
attribute [local simp] zbF zcX zcY zew zbg zcB zaC zaU zaK zaV zbb zbm zbn zaY zbT zcU zcV zbJ zbK
 zaO zcH wanted zbl opd opdL live zbM zcG zbi zbH zf7 put zdi esc escs arg1 args drop1 nbeq nble nblt binA binI rd wr zbB sub AV.cells pack one setCells zdV resV zcM roOf zaJ zeH zaw zav zda za1 newRow newObj step zbP zbo contents take flat look lim zdL bound zc7 zdj eqS eqL eqA ver
 zbS zcT zcS zbQ zbR
 List.getElem?_cons_zero List.getElem?_cons_succ zcR zbc zaA zaB zbO
attribute [local simp] mvV mvL mgV mgL asL asI asB ldN ldV ldL ldG stV stL fdL fdV fdG fgL nlC nlG bnI bvI bnL bvL bxI bxU bgI bgL exT lnS lgS clA clB clC clI pkT pkF pvT pvF pgT pgF ixL axV bxV apL
attribute [-simp] getElem?_pos

section

theorem substSubs_all (p b s:List UInt8):Wc (Rn fsT SA.sp 0 141 [.str p, .str b, .str s] []) (fun o _=>o= .ret (.bool true)):=by
 have hs:=SA.mono
 have hlives:=fun H=>lives08 0 H
 obtain ⟨lt,h25,hb⟩:=light8_run p s
 have hb:=fun H=>hb 0 H
 have hnew:=fun H=>ref_new (bar:=0) (H:=H) p
 have hz:emptyRe.av= .agg [.int .i64 0, .int .u64 0, .int .u64 0, .int .u64 0, .int .u64 0, .int .i64 0, .int .i64 0, .nils]:=rfl
 refine za0 hs fsT_141 rfl rfl ?_
 rw [env141]
 cases lt with
 | false=>simp [a141r0,a141r1,a141r2,a141,zad hs,zaa hs,zac hs,hb,hlives]
 | true =>
 by_cases h100:100<b.length
 ·have h100':(100:Int)<(b.length:Int):=by omega
  simp [a141r0,a141r1,a141r2,a141,zad hs,zaa hs,zac hs,hb,h100',hlives]
 have h100': ¬ (100:Int)<(b.length:Int):=by omega
 have hl:=h25 rfl
 obtain ⟨o,K,q1,q2⟩:=New_run (bar:=0) (H:= []) p (Nat.zero_le _)
 cases hx:newF p with
 | er a w =>
  have hw:=newF_er hx
  have hw2:((w:Int) != 0)=true:=by simp [bne];omega
  rw [hx] at q2 hnew
  obtain ⟨rfl,rfl⟩:=q2
  simp only [zbx,hz] at hnew
  have hsub: ∀ H,Rn fsT SA.sp 0 142 [.nilp, .str b, .str s] H=some (.ret (.tup [.str s,num 0]),H):=fun H=>by
   refine zao hs fsT_142 rfl rfl rfl ?_
   rw [env142]
   simp [a142,a142r0,a142r1,a142r2,a142r3,a142r4,a142r5,a142r6,zad hs,zaa hs,zac hs,frz,zbG]
  have hall: ∀ H,Rn fsT SA.sp 0 20 [.nilp, .str b, .str s] H=some (.ret (.tup [.str s,num 0]),H):=fun H=>by
   refine zao hs fsT_20 rfl rfl rfl ?_
   rw [env20]
   simp [a20,a20r0,a20r1,a20r2,a20r3,zad hs,zaa hs,zac hs,frz,zbG]
  simp [a141r0,a141r1,a141r2,a141r3,a141r4,a141r5,a141r6,a141r7,a141r8,a141,zad hs,zaa hs,zac hs,hb,h100',q1,hnew,hsub,hall,hlives,binS,zfP]
 | ok r j =>
  have hc:=newF_can hx
  have hw:=newF_wide hx
  rw [hx] at q2 hnew
  obtain ⟨pid,rfl,hpl,hF,hP⟩:=q2
  simp only [zbx] at hnew
  obtain ⟨c1,c2,c3,c4,c5,c6,hcs⟩:=Re.av_eight hw
  have hrall:=fun H=>rall_run (bar:=0) (H:=H) (s:=s) (by omega) hP.fine hc hw
  rw [hcs] at hnew hrall
  have hord:=zeU hP.fine s
  have hsub:=sub_run (bar:=0) hP (by':=b) (s:=s) (by omega) (by omega)
  have hall:=substAll_run (bar:=0) hP (by':=b) (s:=s) (by omega) (by omega)
  have hrep:=fun H=>replace_run (bar:=0) (H:=H) (by':=b) (s:=s) (by omega) (by omega) hord
  have hrep1:=fun H=>replace_run (bar:=0) (H:=H) (by':=b) (s:=s) (by omega) (by omega) (L:=(zcO r s).take 1) (by
   cases h:zcO r s with
   | nil=>trivial
   | cons x l =>
    rw [h] at hord
    exact ⟨hord.1,hord.2.1,hord.2.2.1,hord.2.2.2.1,trivial⟩)
  generalize zcO r s=L at *
  have htr:List.take L.length (zaH L)=zaH L:=List.take_of_length_le (by rw [zba];exact Nat.le_refl _)
  have hok:=hdOk_pairsL L
  have hpl:=zba L
  have ht1:List.take 1 (zaH L)=zaH (L.take 1):=by simp [zaH,List.map_take]
  have hpl1:=zba (L.take 1)
  by_cases h1:1<L.length
  ·have h1I:(1:Int)<(L.length:Int):=by omega
   have h1l:1≤L.length:=by omega
   have hlt:(L.take 1).length=1:=by simp;omega
   generalize zaH L=A at *
   generalize zaH (L.take 1)=A1 at *
   generalize L.take 1=L1 at *
   simp [a141r0,a141r1,a141r2,a141r3,a141r4,a141r5,a141r6,a141r7,a141r8,a141r9,a141r10,a141r11,a141r12,a141r13,a141r14,a141r15,a141,zad hs,zaa hs,zac hs,hb,h100',q1,hnew,hrall,hsub,hall,hrep,hrep1,hlives,binS,zfP,hpl,hpl1,h1,h1I,h1l,htr,hok,ht1,hlt]
  ·have h1I: ¬ (1:Int)<(L.length:Int):=by omega
   have hlt:L.take 1=L:=List.take_of_length_le (by omega)
   rw [hlt] at hsub hrep1
   generalize zaH L=A at *
   simp [a141r0,a141r1,a141r2,a141r3,a141r4,a141r5,a141r6,a141r7,a141r8,a141r9,a141r10,a141r11,a141r12,a141r13,a141r14,a141r15,a141,zad hs,zaa hs,zac hs,hb,h100',q1,hnew,hrall,hsub,hall,hrep,hlives,binS,zfP,hpl,h1,h1I,htr,hok]

end

end Go.Ak

