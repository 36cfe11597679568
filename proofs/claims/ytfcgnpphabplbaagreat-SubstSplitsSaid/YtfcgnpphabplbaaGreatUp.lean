/- What the document's class reader computes. -/
import Derived.Test.YtfcgnpphabplbaaGreatUo
set_option linter.unusedVariables false
set_option linter.unusedSimpArgs false

namespace Go.Ak
attribute [local simp] zbF zcX zcY zew zbg zcB zaC zaU zaK zaV zbb zbm zbn zaY zbT zcU zcV zbJ zbK
 zaO zcH wanted zbl opd opdL live zbM zcG zbi zbH zf7 put zdi esc escs arg1 args drop1 nbeq nble nblt binA binI rd wr zbB sub AV.cells pack one setCells zdV resV zcM roOf zaJ zeH zaw zav zda za1 newRow newObj step zbP zbo contents take flat look lim zdL bound zc7 zdj eqS eqL eqA ver
 zbS zcT zcS zbQ zbR
 List.getElem?_cons_zero List.getElem?_cons_succ zcR zbc zaA zaB zbO
attribute [local simp] mvV mvL mgV mgL asL asI asB ldN ldV ldL ldG stV stL fdL fdV fdG fgL nlC nlG bnI bvI bnL bvL bxI bxU bgI bgL exT lnS lgS clA clB clC clI pkT pkF pvT pvF pgT pgF ixL axV bxV apL
attribute [-simp] getElem?_pos

section

/-- The byte at a place; -1 beyond. -/
def atF (s:List UInt8) (i:Nat):Int:=match s[i]? with | some c=>c.toNat | none=> -1

theorem zaI {s:List UInt8} {i:Nat} {c:UInt8} (h:s[i]? = some c):atF s i=c.toNat:=by simp [atF,h]
theorem atF_none {s:List UInt8} {i:Nat} (h:s[i]? = none):atF s i= -1:=by simp [atF,h]

theorem zdc {s:List UInt8} {i:Nat} (d:UInt8) (h: ¬ s[i]? = some d):(atF s i==(d.toNat:Int))=false∧(atF s i != (d.toNat:Int))=true:=by
 have: ¬ atF s i=(d.toNat:Int):=by
  unfold atF
  cases q:s[i]? with
  | none=>simp only;omega
  | some c =>
   simp only
   intro e
   exact h (by rw [q,UInt8.toNat_inj.1 (Int.ofNat.inj e)])
 have e:(atF s i==(d.toNat:Int))=false:=by simpa using this
 exact ⟨e,by simp [bne,e]⟩

theorem at_run {bar:Nat} {H:Heap} (s:List UInt8) (i:Nat):Rn fsT SA.sp bar 119 [.str s,num i] H=some (.ret (.int .i64 (atF s i)),H):=by
 have hs:=SA.mono
 refine zao hs fsT_119 rfl rfl rfl ?_
 rw [env119]
 cases h:s[i]? with
 | none =>
  have h1: ¬ i<s.length:=by have:=List.getElem?_eq_none_iff.1 h;omega
  rw [atF_none h]
  simp [a119,a119r0,a119r1,a119r2,a119r3,zad hs,zaa hs,zac hs,h1]
 | some c =>
  have h1:=(List.getElem?_eq_some_iff.1 h).1
  have hw:IntKind.i64.wrap (c.toNat:Int)=(c.toNat:Int):=zaj _ (by have:=c.toNat_lt;omega)
  rw [zaI h]
  simp [a119,a119r0,a119r1,a119r2,a119r3,zad hs,zaa hs,zac hs,h1,h,hw]

/-- A byte, perhaps behind a stroke, as the document reads it. -/
def oneF (s:List UInt8) (i:Nat):AV:=match zbt s i with
 | some (c,j)=> .tup [.int .i64 c.toNat,num j]
 | none=> .tup [.int .i64 (-1),num (match s[i]? with | some _=>i+2 | none=>i+1)]

theorem one_run' {bar:Nat} {H:Heap} (s:List UInt8) {i:Nat} (hi:i≤100000):Rn fsT SA.sp bar 121 [.str s,num i] H=some (.ret (oneF s i),H):=by
 have hs:=SA.mono
 have hat:=fun i=>at_run (bar:=0) (H:= []) s i
 have hw:IntKind.i64.wrap ((i:Int)+1)=(i:Int)+1:=zaj _ (by omega)
 have hw2:IntKind.i64.wrap ((i:Int)+2)=(i:Int)+2:=zaj _ (by omega)
 have hat1:Rn fsT SA.sp 0 119 [.str s, .int .i64 ((i:Int)+1)] []=some (.ret (.int .i64 (atF s (i+1))),[]):=by
  rw [show (AV.int .i64 ((i:Int)+1))=num (i+1) by simp [num]];exact hat (i+1)
 refine zao hs fsT_121 rfl rfl rfl ?_
 rw [env121]
 by_cases hc:s[i]? = some 92
 ·have h92:atF s i=92:=zaI hc
  by_cases c1:s[i+1]? = some 110
  ·have e:oneF s i= .tup [num 10,num (i+2)]:=by simp [oneF,zbt,hc,c1,zc3]
   have h110:atF s (i+1)=110:=zaI c1
   rw [e]
   simp [a121,a121r0,a121r1,a121r2,a121r3,a121r4,a121r5,a121r6,a121r7,a121r8,zad hs,zaa hs,zac hs,hat,hat1,hw,hw2,h92,h110,frz,zbG]
  ·obtain ⟨h110,h110'⟩:=zdc 110 c1
   have h110:(atF s (i+1)==110)=false:=h110
   by_cases c2:s[i+1]? = some 116
   ·have e:oneF s i= .tup [num 9,num (i+2)]:=by simp [oneF,zbt,hc,c2,zc3]
    have h116:atF s (i+1)=116:=zaI c2
    rw [e]
    simp [a121,a121r0,a121r1,a121r2,a121r3,a121r4,a121r5,a121r6,a121r7,a121r8,zad hs,zaa hs,zac hs,hat,hat1,hw,hw2,h92,h116,frz,zbG]
   ·obtain ⟨h116,h116'⟩:=zdc 116 c2
    have h116:(atF s (i+1)==116)=false:=h116
    have e:oneF s i= .tup [.int .i64 (atF s (i+1)),num (i+2)]:=by
     cases q:s[i+1]? with
     | none=>simp [oneF,zbt,hc,q,atF]
     | some d =>
      have d1:d≠110:=fun e=>c1 (e▸q)
      have d2:d≠116:=fun e=>c2 (e▸q)
      simp [oneF,zbt,hc,q,atF,zc3,d1,d2]
    rw [e]
    simp [a121,a121r0,a121r1,a121r2,a121r3,a121r4,a121r5,a121r6,a121r7,a121r8,zad hs,zaa hs,zac hs,hat,hat1,hw,hw2,h92,h110,h116,frz,zbG]
 ·obtain ⟨h92,h92'⟩:=zdc 92 hc
  have h92':(atF s i != 92)=true:=h92'
  have e:oneF s i= .tup [.int .i64 (atF s i),num (i+1)]:=by
   cases q:s[i]? with
   | none=>simp [oneF,zbt,q,atF]
   | some d =>
    have d1:d≠92:=fun e=>hc (e▸q)
    simp [oneF,zbt,q,atF,d1]
  rw [e]
  simp [a121,a121r0,a121r1,a121r2,a121r3,a121r4,a121r5,a121r6,a121r7,a121r8,zad hs,zaa hs,zac hs,hat,hat1,hw,hw2,h92',frz,zbG]

/-- Where a byte lies. -/
theorem byte_parts {c:Nat} (hc:c<256):c<48∨(48≤c∧c≤57)∨(58≤c∧c<65)∨(65≤c∧c≤90)∨(91≤c∧c<97)∨(97≤c∧c≤122)∨123≤c:=by omega

theorem named_un {bar:Nat} {H:Heap} {name:List UInt8} (h:zaP name= []) {c:Nat} (hc:c<256):Rn fsT SA.sp bar 120 [.str name,num c] H=some (.ret (.tup [.bool false, .bool false]),H):=by
 have hs:=SA.mono
 have hn: ∀ t:List UInt8,zaP t ≠ []→ ¬ name=t:=fun t ht e=>by rw [e] at h;exact ht h
 have n1:=hn [97,108,112,104,97] (by decide)
 have n2:=hn [100,105,103,105,116] (by decide)
 have n3:=hn [97,108,110,117,109] (by decide)
 have n4:=hn [117,112,112,101,114] (by decide)
 have n5:=hn [108,111,119,101,114] (by decide)
 have n6:=hn [115,112,97,99,101] (by decide)
 have n7:=hn [98,108,97,110,107] (by decide)
 have n8:=hn [112,117,110,99,116] (by decide)
 have n9:=hn [112,114,105,110,116] (by decide)
 have n10:=hn [103,114,97,112,104] (by decide)
 have n11:=hn [99,110,116,114,108] (by decide)
 have n12:=hn [120,100,105,103,105,116] (by decide)
 refine zao hs zdZ rfl rfl rfl ?_
 rw [zfM]
 rcases byte_parts hc with h | h | h | h | h | h | h
 ·have a0: ¬ (65:Int)≤(c:Int):=by omega
  have a2: ¬ (97:Int)≤(c:Int):=by omega
  have a4: ¬ (48:Int)≤(c:Int):=by omega
  simp [a120,a120r0,a120r1,a120r2,a120r3,a120r4,a120r5,a120r6,a120r7,a120r8,a120r9,zgG,zgF,zgE,zgD,zgC,zgB,zgA,zgz,zgy,zgx,zgw,zgv,zgu,zgt,zgs,zgr,zgq,zgp,zad hs,zaa hs,zac hs,zab hs,a0,a2,a4,zbh,n1,n2,n3,n4,n5,n6,n7,n8,n9,n10,n11,n12,frz,zbG]
 ·have a0: ¬ (65:Int)≤(c:Int):=by omega
  have a2: ¬ (97:Int)≤(c:Int):=by omega
  have a4:(48:Int)≤(c:Int):=by omega
  have a5:(c:Int)≤57:=by omega
  simp [a120,a120r0,a120r1,a120r2,a120r3,a120r4,a120r5,a120r6,a120r7,a120r8,a120r9,zgG,zgF,zgE,zgD,zgC,zgB,zgA,zgz,zgy,zgx,zgw,zgv,zgu,zgt,zgs,zgr,zgq,zgp,zad hs,zaa hs,zac hs,zab hs,a0,a2,a4,a5,zbh,n1,n2,n3,n4,n5,n6,n7,n8,n9,n10,n11,n12,frz,zbG]
 ·have a0: ¬ (65:Int)≤(c:Int):=by omega
  have a2: ¬ (97:Int)≤(c:Int):=by omega
  have a4:(48:Int)≤(c:Int):=by omega
  have a5: ¬ (c:Int)≤57:=by omega
  simp [a120,a120r0,a120r1,a120r2,a120r3,a120r4,a120r5,a120r6,a120r7,a120r8,a120r9,zgG,zgF,zgE,zgD,zgC,zgB,zgA,zgz,zgy,zgx,zgw,zgv,zgu,zgt,zgs,zgr,zgq,zgp,zad hs,zaa hs,zac hs,zab hs,a0,a2,a4,a5,zbh,n1,n2,n3,n4,n5,n6,n7,n8,n9,n10,n11,n12,frz,zbG]
 ·have a0:(65:Int)≤(c:Int):=by omega
  have a1:(c:Int)≤90:=by omega
  have a2: ¬ (97:Int)≤(c:Int):=by omega
  have a4:(48:Int)≤(c:Int):=by omega
  have a5: ¬ (c:Int)≤57:=by omega
  simp [a120,a120r0,a120r1,a120r2,a120r3,a120r4,a120r5,a120r6,a120r7,a120r8,a120r9,zgG,zgF,zgE,zgD,zgC,zgB,zgA,zgz,zgy,zgx,zgw,zgv,zgu,zgt,zgs,zgr,zgq,zgp,zad hs,zaa hs,zac hs,zab hs,a0,a1,a2,a4,a5,zbh,n1,n2,n3,n4,n5,n6,n7,n8,n9,n10,n11,n12,frz,zbG]
 ·have a0:(65:Int)≤(c:Int):=by omega
  have a1: ¬ (c:Int)≤90:=by omega
  have a2: ¬ (97:Int)≤(c:Int):=by omega
  have a4:(48:Int)≤(c:Int):=by omega
  have a5: ¬ (c:Int)≤57:=by omega
  simp [a120,a120r0,a120r1,a120r2,a120r3,a120r4,a120r5,a120r6,a120r7,a120r8,a120r9,zgG,zgF,zgE,zgD,zgC,zgB,zgA,zgz,zgy,zgx,zgw,zgv,zgu,zgt,zgs,zgr,zgq,zgp,zad hs,zaa hs,zac hs,zab hs,a0,a1,a2,a4,a5,zbh,n1,n2,n3,n4,n5,n6,n7,n8,n9,n10,n11,n12,frz,zbG]
 ·have a0:(65:Int)≤(c:Int):=by omega
  have a1: ¬ (c:Int)≤90:=by omega
  have a2:(97:Int)≤(c:Int):=by omega
  have a3:(c:Int)≤122:=by omega
  have a4:(48:Int)≤(c:Int):=by omega
  have a5: ¬ (c:Int)≤57:=by omega
  simp [a120,a120r0,a120r1,a120r2,a120r3,a120r4,a120r5,a120r6,a120r7,a120r8,a120r9,zgG,zgF,zgE,zgD,zgC,zgB,zgA,zgz,zgy,zgx,zgw,zgv,zgu,zgt,zgs,zgr,zgq,zgp,zad hs,zaa hs,zac hs,zab hs,a0,a1,a2,a3,a4,a5,zbh,n1,n2,n3,n4,n5,n6,n7,n8,n9,n10,n11,n12,frz,zbG]
 ·have a0:(65:Int)≤(c:Int):=by omega
  have a1: ¬ (c:Int)≤90:=by omega
  have a2:(97:Int)≤(c:Int):=by omega
  have a3: ¬ (c:Int)≤122:=by omega
  have a4:(48:Int)≤(c:Int):=by omega
  have a5: ¬ (c:Int)≤57:=by omega
  simp [a120,a120r0,a120r1,a120r2,a120r3,a120r4,a120r5,a120r6,a120r7,a120r8,a120r9,zgG,zgF,zgE,zgD,zgC,zgB,zgA,zgz,zgy,zgx,zgw,zgv,zgu,zgt,zgs,zgr,zgq,zgp,zad hs,zaa hs,zac hs,zab hs,a0,a1,a2,a3,a4,a5,zbh,n1,n2,n3,n4,n5,n6,n7,n8,n9,n10,n11,n12,frz,zbG]

end

section

/-- What the small loops keep. -/
def Kept (v v':Nat→AV):Prop:=v' 0=v 0∧v' 1=v 1∧v' 4=v 4∧v' 7=v 7∧v' 9=v 9

theorem Kept.refl (v:Nat→AV):Kept v v:=⟨rfl,rfl,rfl,rfl,rfl⟩
theorem Kept.of_eq {v w u:Nat→AV} (h:Kept v u) (h0:v 0=w 0) (h1:v 1=w 1) (h4:v 4=w 4) (h7:v 7=w 7) (h9:v 9=w 9):Kept w u :=
 ⟨h.1.trans h0,h.2.1.trans h1,h.2.2.1.trans h4,h.2.2.2.1.trans h7,h.2.2.2.2.trans h9⟩

theorem close_step {s:List UInt8} {t:Nat} (h:t<s.length):zdC (s.drop t)=if s[t]? = some 58∧s[t+1]? = some 93 then some 0 else (zdC (s.drop (t+1))).map (· + 1):=by
 rw [List.drop_eq_getElem_cons h,zdC]
 have e:((s[t]::s.drop (t+1)).take 2= [58,93])↔(s[t]? = some 58∧s[t+1]? = some 93):=by
  rw [List.take_succ_cons,List.getElem?_eq_getElem h]
  by_cases h1:t+1<s.length
  ·rw [List.drop_eq_getElem_cons h1,List.take_succ_cons,List.take_zero,List.getElem?_eq_getElem h1]
   simp only [List.cons.injEq,and_true,Option.some.injEq]
  ·rw [List.drop_eq_nil_of_le (by omega),List.getElem?_eq_none (by omega)]
   simp
 simp only [e]

/-- Where the search for a class's end comes to rest. -/
def zd1 (s:List UInt8) (t:Nat):Nat:=match zdC (s.drop t) with | some n=>t+n | none=>s.length

theorem closeAt_yes {s:List UInt8} {t:Nat} (h:s[t]? = some 58) (h2:s[t+1]? = some 93):zd1 s t=t:=by
 have:=(List.getElem?_eq_some_iff.1 h).1
 unfold zd1
 rw [close_step this,if_pos ⟨h,h2⟩];rfl

theorem closeAt_no {s:List UInt8} {t:Nat} (h:t<s.length) (h2: ¬ (s[t]? = some 58∧s[t+1]? = some 93)):zd1 s t=zd1 s (t+1):=by
 unfold zd1
 rw [close_step h,if_neg h2]
 cases zdC (s.drop (t+1)) with
 | none=>rfl
 | some n=>simp only [Option.map_some];omega

theorem close_loop {bar:Nat} {s:List UInt8} (hl:s.length≤10000): ∀ (n t:Nat) (v:Nat→AV),t≤s.length→s.length=n+t→v 0= .str s→v 10=num t →
  Wp (evI fsT SA.sp bar (.loop a108l14) (mkE 240225565480938577807985484469345695599948758954541043 v,[])) (fun e t'=>e= .exit 2∧ ∃ v',t'=(mkE 240225565480938577807985484469345695599948758954541043 v',[])∧v' 10=num (zd1 s t)∧v' 8=v 8∧Kept v v'):=by
 have hs:=SA.mono
 intro n
 induction n with
 | zero =>
  intro t v h1 h2 v0 v10
  have e:t=s.length:=by omega
  subst e
  have e2:zd1 s s.length=s.length:=by unfold zd1;simp [zdC]
  rw [zah hs a108l14.eq_1]
  simp [zad hs,zaa hs,zab hs,zac hs,a108r12,a108r13,v0,v10]
  exact ⟨_,rfl,by simp [v10,e2],by simp,by simp,by simp,by simp,by simp,by simp⟩
 | succ n ih =>
  intro t v h1 h2 v0 v10
  have hlt:t<s.length:=by omega
  have hat:=fun i=>at_run (bar:=bar) (H:= []) s i
  have hat1:Rn fsT SA.sp bar 119 [.str s, .int .i64 ((t:Int)+1)] []=some (.ret (.int .i64 (atF s (t+1))),[]):=by
   rw [show (AV.int .i64 ((t:Int)+1))=num (t+1) by simp [num]];exact hat (t+1)
  have hw:IntKind.i64.wrap ((t:Int)+1)=(t:Int)+1:=zaj _ (by omega)
  have next: ∀ w:Nat→AV,w 0= .str s→w 10=num (t+1)→w 8=v 8→Kept v w→ ¬ (s[t]? = some 58∧s[t+1]? = some 93) →
    Wp (evI fsT SA.sp bar (.loop a108l14) (mkE 240225565480938577807985484469345695599948758954541043 w,[])) (fun e t'=>e= .exit 2∧ ∃ v',t'=(mkE 240225565480938577807985484469345695599948758954541043 v',[])∧v' 10=num (zd1 s t)∧v' 8=v 8∧Kept v v'):=fun w w0 w10 w8 wk hno=>by
   rw [closeAt_no hlt hno]
   refine (ih (t+1) w (by omega) (by omega) w0 w10).mono fun e q h=> ?_
   obtain ⟨r1,v',r2,r3,r4,r5⟩:=h
   exact ⟨r1,v',r2,r3,r4.trans w8,r5.1.trans wk.1,r5.2.1.trans wk.2.1,r5.2.2.1.trans wk.2.2.1,r5.2.2.2.1.trans wk.2.2.2.1,r5.2.2.2.2.trans wk.2.2.2.2⟩
  rw [zah hs a108l14.eq_1]
  by_cases c1:s[t]? = some 58
  ·have h58:atF s t=58:=zaI c1
   by_cases c2:s[t+1]? = some 93
   ·have h93:atF s (t+1)=93:=zaI c2
    simp [zad hs,zaa hs,zab hs,zac hs,a108r12,a108r13,v0,v10,hlt,hat,hat1,h58,h93,hw]
    exact ⟨_,rfl,by simp [v10,closeAt_yes c1 c2],by simp,by simp,by simp,by simp,by simp,by simp⟩
   ·have h93:(atF s (t+1)==93)=false:=(zdc 93 c2).1
    simp [zad hs,zaa hs,zab hs,zac hs,a108r12,a108r13,v0,v10,hlt,hat,hat1,h58,h93,hw]
    refine next _ ?_ ?_ ?_ ⟨?_,?_,?_,?_,?_⟩ (by simp [c2])
    all_goals simp [v0]
  ·have h58:(atF s t==58)=false:=(zdc 58 c1).1
   simp [zad hs,zaa hs,zab hs,zac hs,a108r12,a108r13,v0,v10,hlt,hat,hat1,h58,hw]
   refine next _ ?_ ?_ ?_ ⟨?_,?_,?_,?_,?_⟩ (by simp [c1])
   all_goals simp [v0]

/-- A set with those of another below a bound. -/
def upTo (p q:Nat→Bool) (c:Nat):Nat→Bool:=fun x=>p x||(decide (x<c)&&q x)

theorem upTo_step (p q:Nat→Bool) (c:Nat):(fun x=>if x=c then upTo p q c c||q c else upTo p q c x)=upTo p q (c+1):=by
 funext x
 unfold upTo
 by_cases h:x=c
 ·subst h;simp
 ·have:decide (x<c)=decide (x<c+1):=by rw [decide_eq_decide];omega
  simp [h,this]

theorem boolsC_ext {p q:Nat→Bool} (h: ∀ i,i<256→p i=q i):zaG p=zaG q:=by
 unfold zaG
 apply List.map_congr_left
 intro i hi
 rw [h i (List.mem_range.1 hi)]

theorem upTo_all (p q:Nat→Bool):zaG (upTo p q 256)=zaG (orB p q):=boolsC_ext fun i hi=>by simp [upTo,orB,hi]
theorem upTo_zero (p q:Nat→Bool):upTo p q 0=p:=by funext x;simp [upTo]

theorem class_un {bar:Nat} {s:List UInt8} {i t:Nat} (hi:i+2≤t) (ht:t≤s.length) (hl:s.length≤10000) (h:zaP ((s.drop (i+2)).take (t-(i+2)))= []) (v:Nat→AV) (v0:v 0= .str s) (v1:v 1=num i) (v10:v 10=num t) (v11:v 11=num 0) (v4:v 4= .box (zbX noB)) :
  Wp (evI fsT SA.sp bar (.loop a108l24) (mkE 240225565480938577807985484469345695599948758954541043 v,[])) (fun e t'=>e= .ret∧ ∃ v',t'=(mkE 240225565480938577807985484469345695599948758954541043 v',[])∧v' 4= .box (zbX noB)∧v' 5=num 0∧v' 6=num 40):=by
 have hs:=SA.mono
 have hw:IntKind.i64.wrap ((i:Int)+2)=(i:Int)+2:=zaj _ (by omega)
 have h0:(0:Int)≤(i:Int)+2:=by omega
 have hx:((i:Int)+2).toNat=i+2:=by omega
 have hle:(i:Int)+2≤(t:Int):=by omega
 have hn:=named_un (bar:=bar) (H:= []) h (c:=0) (by decide)
 rw [zah hs a108l24.eq_1]
 simp [zad hs,zaa hs,zai hs,zab hs,zac hs,a108r18,a108r19,a108r20,a108r21,a108r22,a108r23,v0,v1,v10,v11,v4,hw,h0,hx,hi,hle,ht,hn,zbw]
 exact ⟨_,rfl,by simp;rfl,by simp,by simp⟩

theorem class_loop {bar:Nat} {s:List UInt8} {i t:Nat} (hi:i+2≤t) (ht:t≤s.length) (hl:s.length≤10000) (h:zaP ((s.drop (i+2)).take (t-(i+2))) ≠ []) (p:Nat→Bool): ∀ (n c:Nat) (v:Nat→AV),n+c=256→v 0= .str s→v 1=num i→v 10=num t→v 11=num c→v 8= .box (zaG (upTo p (zaf (zaP ((s.drop (i+2)).take (t-(i+2))))) c)) →
  Wp (evI fsT SA.sp bar (.loop a108l24) (mkE 240225565480938577807985484469345695599948758954541043 v,[])) (fun e t'=>e= .exit 4∧ ∃ v',t'=(mkE 240225565480938577807985484469345695599948758954541043 v',[])∧v' 8= .box (zaG (orB p (zaf (zaP ((s.drop (i+2)).take (t-(i+2)))))))∧v' 10=num t∧Kept v v'):=by
 have hs:=SA.mono
 have hw:IntKind.i64.wrap ((i:Int)+2)=(i:Int)+2:=zaj _ (by omega)
 have h0:(0:Int)≤(i:Int)+2:=by omega
 have hx:((i:Int)+2).toNat=i+2:=by omega
 have hle:(i:Int)+2≤(t:Int):=by omega
 have hn:=fun c (hc:c<256)=>namedAt_run h hc bar []
 generalize hnm:(s.drop (i+2)).take (t-(i+2))=nm at h hn ⊢
 generalize zaf (zaP nm)=q at hn ⊢
 intro n
 induction n with
 | zero =>
  intro c v hc v0 v1 v10 v11 v8
  have e:c=256:=by omega
  subst e
  rw [zah hs a108l24.eq_1]
  simp [zad hs,zaa hs,zai hs,zab hs,zac hs,a108r18,a108r19,a108r20,a108r21,a108r22,a108r23,v11]
  exact ⟨_,rfl,by simp [v8,upTo_all],by simp [v10],by simp,by simp,by simp,by simp,by simp⟩
 | succ n ih =>
  intro c v hc v0 v1 v10 v11 v8
  have hc2:c<256:=by omega
  have hc3:c+1≤256:=by omega
  have hcI:(c:Int)<256:=by omega
  have hn2:=hn c hc2
  have hb:=boolsC_at (upTo p q c) hc2
  have hwc:IntKind.i64.wrap ((c:Int)+1)=(c:Int)+1:=zaj _ (by omega)
  have hset:=zfN (upTo p q c) c (upTo p q c c||q c)
  rw [upTo_step] at hset
  have next: ∀ w:Nat→AV,w 0= .str s→w 1=num i→w 10=num t→w 11=num (c+1)→w 8= .box (zaG (upTo p q (c+1)))→Kept v w →
    Wp (evI fsT SA.sp bar (.loop a108l24) (mkE 240225565480938577807985484469345695599948758954541043 w,[])) (fun e t'=>e= .exit 4∧ ∃ v',t'=(mkE 240225565480938577807985484469345695599948758954541043 v',[])∧v' 8= .box (zaG (orB p q))∧v' 10=num t∧Kept v v'):=fun w w0 w1 w10 w11 w8 wk=>by
   refine (ih (c+1) w (by omega) w0 w1 w10 w11 w8).mono fun e q h=> ?_
   obtain ⟨r1,v',r2,r3,r4,r5⟩:=h
   exact ⟨r1,v',r2,r3,r4,r5.1.trans wk.1,r5.2.1.trans wk.2.1,r5.2.2.1.trans wk.2.2.1,r5.2.2.2.1.trans wk.2.2.2.1,r5.2.2.2.2.trans wk.2.2.2.2⟩
  rw [zah hs a108l24.eq_1]
  cases hu:upTo p q c c with
  | true =>
   rw [hu] at hb hset
   simp only [Bool.true_or] at hset
   simp [zad hs,zaa hs,zai hs,zab hs,zac hs,a108r18,a108r19,a108r20,a108r21,a108r22,a108r23,v0,v1,v10,v11,v8,hw,h0,hx,hi,hle,ht,hnm,hn2,hc2,hc3,hcI,hb,hset,hwc,zaL]
   refine next _ ?_ ?_ ?_ ?_ ?_ ⟨?_,?_,?_,?_,?_⟩
   all_goals simp [v0,v1,v10,hset]
  | false =>
   rw [hu] at hb hset
   simp only [Bool.false_or] at hset
   simp [zad hs,zaa hs,zai hs,zab hs,zac hs,a108r18,a108r19,a108r20,a108r21,a108r22,a108r23,v0,v1,v10,v11,v8,hw,h0,hx,hi,hle,ht,hnm,hn2,hc2,hc3,hcI,hb,hset,hwc,zaL]
   refine next _ ?_ ?_ ?_ ?_ ?_ ⟨?_,?_,?_,?_,?_⟩
   all_goals simp [v0,v1,v10,hset]

end

section

theorem Kept.trans {u v w:Nat→AV} (h:Kept u v) (k:Kept v w):Kept u w :=
 ⟨k.1.trans h.1,k.2.1.trans h.2.1,k.2.2.1.trans h.2.2.1,k.2.2.2.1.trans h.2.2.2.1,k.2.2.2.2.trans h.2.2.2.2⟩

/-- A set with a run of bytes from a on below a bound. -/
def fromTo (p:Nat→Bool) (a c:Nat):Nat→Bool:=fun x=>p x||(decide (a≤x)&&decide (x<c))

theorem fromTo_step (p:Nat→Bool) {a c:Nat} (h:a≤c):(fun x=>if x=c then true else fromTo p a c x)=fromTo p a (c+1):=by
 funext x
 unfold fromTo
 by_cases e:x=c
 ·subst e;simp [h]
 ·have:decide (x<c)=decide (x<c+1):=by rw [decide_eq_decide];omega
  simp [e,this]

theorem fromTo_zero (p:Nat→Bool) (a:Nat):fromTo p a a=p:=by
 funext x
 have:(decide (a≤x)&&decide (x<a))=false:=by
  rw [Bool.and_eq_false_iff]
  by_cases h:a≤x
  ·exact .inr (by simp;omega)
  ·exact .inl (by simp;omega)
 unfold fromTo
 rw [this,Bool.or_false]

theorem fromTo_all (p:Nat→Bool) (a b:UInt8):fromTo p a.toNat (b.toNat+1)=orB p (zak a b):=by
 funext x
 have:decide (x<b.toNat+1)=decide (x≤b.toNat):=by rw [decide_eq_decide];omega
 simp only [fromTo,orB,zak,this]

theorem range_loop {bar:Nat} (p:Nat→Bool) (a b:UInt8): ∀ (n c:Nat) (v:Nat→AV),n+c=b.toNat+1→a.toNat≤c→v 16=num b.toNat→v 17=num c→v 8= .box (zaG (fromTo p a.toNat c)) →
  Wp (evI fsT SA.sp bar (.loop a108l40) (mkE 240225565480938577807985484469345695599948758954541043 v,[])) (fun e t'=>e= .exit 6∧ ∃ v',t'=(mkE 240225565480938577807985484469345695599948758954541043 v',[])∧v' 8= .box (zaG (orB p (zak a b)))∧v' 15=v 15∧Kept v v'):=by
 have hs:=SA.mono
 have hb256:=b.toNat_lt
 intro n
 induction n with
 | zero =>
  intro c v hc ha v16 v17 v8
  have e:c=b.toNat+1:=by omega
  subst e
  have hx: ¬ (b.toNat:Int)+1≤(b.toNat:Int):=by omega
  rw [zah hs a108l40.eq_1]
  simp [zad hs,zaa hs,zai hs,zab hs,zac hs,a108r37,a108r38,a108r39,v16,v17,hx]
  exact ⟨_,rfl,by simp [v8,fromTo_all],by simp,by simp,by simp,by simp,by simp,by simp⟩
 | succ n ih =>
  intro c v hc ha v16 v17 v8
  have hc1:c≤b.toNat:=by omega
  have hc1I:(c:Int)≤(b.toNat:Int):=by omega
  have hc2:c<256:=by omega
  have hc3:c+1≤256:=by omega
  have hcI:(c:Int)<256:=by omega
  have hwc:IntKind.i64.wrap ((c:Int)+1)=(c:Int)+1:=zaj _ (by omega)
  have hset:=zfN (fromTo p a.toNat c) c true
  rw [fromTo_step p ha] at hset
  have next: ∀ w:Nat→AV,w 16=num b.toNat→w 17=num (c+1)→w 8= .box (zaG (fromTo p a.toNat (c+1)))→w 15=v 15→Kept v w →
    Wp (evI fsT SA.sp bar (.loop a108l40) (mkE 240225565480938577807985484469345695599948758954541043 w,[])) (fun e t'=>e= .exit 6∧ ∃ v',t'=(mkE 240225565480938577807985484469345695599948758954541043 v',[])∧v' 8= .box (zaG (orB p (zak a b)))∧v' 15=v 15∧Kept v v'):=fun w w16 w17 w8 w15 wk=>by
   refine (ih (c+1) w (by omega) (by omega) w16 w17 w8).mono fun e q h=> ?_
   obtain ⟨r1,v',r2,r3,r4,r5⟩:=h
   exact ⟨r1,v',r2,r3,r4.trans w15,wk.trans r5⟩
  rw [zah hs a108l40.eq_1]
  simp [zad hs,zaa hs,zai hs,zab hs,zac hs,a108r37,a108r38,a108r39,v16,v17,v8,hc1,hc1I,hc2,hc3,hcI,hset,hwc,zaL]
  refine next _ ?_ ?_ ?_ ?_ ⟨?_,?_,?_,?_,?_⟩
  all_goals simp [v16,hset]

/-- A set turned below a bound. -/
def turned (p:Nat→Bool) (c:Nat):Nat→Bool:=fun x=>if x<c then !p x else p x

theorem turned_step (p:Nat→Bool) (c:Nat):(fun x=>if x=c then !turned p c c else turned p c x)=turned p (c+1):=by
 funext x
 unfold turned
 by_cases e:x=c
 ·subst e;simp
 ·by_cases h:x<c
  ·have:x<c+1:=by omega
   simp [e,h,this]
  ·have: ¬ x<c+1:=by omega
   simp [e,h,this]

theorem turned_all (p:Nat→Bool):zaG (turned p 256)=zaG (notB p):=boolsC_ext fun i hi=>by simp [turned,notB,hi]
theorem turned_zero (p:Nat→Bool):turned p 0=p:=by funext x;simp [turned]

theorem not_loop {bar:Nat} (p:Nat→Bool): ∀ (n c:Nat) (v:Nat→AV),n+c=256→v 18=num c→v 8= .box (zaG (turned p c)) →
  Wp (evI fsT SA.sp bar (.loop a108l49) (mkE 240225565480938577807985484469345695599948758954541043 v,[])) (fun e t'=>e= .exit 8∧ ∃ v',t'=(mkE 240225565480938577807985484469345695599948758954541043 v',[])∧v' 8= .box (zaG (notB p))∧Kept v v'):=by
 have hs:=SA.mono
 intro n
 induction n with
 | zero =>
  intro c v hc v18 v8
  have e:c=256:=by omega
  subst e
  rw [zah hs a108l49.eq_1]
  simp [zad hs,zaa hs,zai hs,zab hs,zac hs,a108r46,a108r47,a108r48,v18]
  exact ⟨_,rfl,by simp [v8,turned_all],by simp,by simp,by simp,by simp,by simp⟩
 | succ n ih =>
  intro c v hc v18 v8
  have hc2:c<256:=by omega
  have hc3:c+1≤256:=by omega
  have hcI:(c:Int)<256:=by omega
  have hb:=boolsC_at (turned p c) hc2
  have hwc:IntKind.i64.wrap ((c:Int)+1)=(c:Int)+1:=zaj _ (by omega)
  have hset:=zfN (turned p c) c (!turned p c c)
  rw [turned_step p c] at hset
  have next: ∀ w:Nat→AV,w 18=num (c+1)→w 8= .box (zaG (turned p (c+1)))→Kept v w →
    Wp (evI fsT SA.sp bar (.loop a108l49) (mkE 240225565480938577807985484469345695599948758954541043 w,[])) (fun e t'=>e= .exit 8∧ ∃ v',t'=(mkE 240225565480938577807985484469345695599948758954541043 v',[])∧v' 8= .box (zaG (notB p))∧Kept v v'):=fun w w18 w8 wk=>by
   refine (ih (c+1) w (by omega) w18 w8).mono fun e q h=> ?_
   obtain ⟨r1,v',r2,r3,r5⟩:=h
   exact ⟨r1,v',r2,r3,wk.trans r5⟩
  rw [zah hs a108l49.eq_1]
  simp [zad hs,zaa hs,zai hs,zab hs,zac hs,a108r46,a108r47,a108r48,v18,v8,hc2,hc3,hcI,hb,hset,hwc,zaL]
  refine next _ ?_ ?_ ⟨?_,?_,?_,?_,?_⟩
  all_goals simp [hset]

end

section

theorem zdv {s:List UInt8} {i k:Nat} {a:UInt8} {t:List UInt8}:(s.drop i).take (k+1)=a::t↔s[i]? = some a∧(s.drop (i+1)).take k=t:=by
 by_cases h:i<s.length
 ·rw [List.drop_eq_getElem_cons h,List.getElem?_eq_getElem h,List.take_succ_cons,List.cons.injEq,Option.some.injEq]
 ·rw [List.drop_eq_nil_of_le (by omega),List.getElem?_eq_none (by omega)]
  simp

theorem comes_two {s:List UInt8} {i:Nat} (a b:UInt8):comes s i [a,b]=decide (s[i]? = some a∧s[i+1]? = some b):=by
 have h:(s.drop i).take (1+1)= [a,b]↔s[i]? = some a∧s[i+1]? = some b:=by
  rw [zdv,show (1:Nat)=0+1 from rfl,zdv];simp
 exact decide_eq_decide.2 h

theorem comes_three {s:List UInt8} {i:Nat} (a b c:UInt8):comes s i [a,b,c]=decide (s[i]? = some a∧s[i+1]? = some b∧s[i+2]? = some c):=by
 have h:(s.drop i).take (2+1)= [a,b,c]↔s[i]? = some a∧s[i+1]? = some b∧s[i+2]? = some c:=by
  rw [zdv,show (2:Nat)=1+1 from rfl,zdv,show (1:Nat)=0+1 from rfl,zdv];simp
 exact decide_eq_decide.2 h

/-- How the document's items' loop ends. -/
def RefOut (s:List UInt8) (ng:Bool) (x:PR (Nat→Bool)) (e:AExit) (t:EH):Prop :=
 match x with
 | .er _ w=>e= .ret∧ ∃ v',t=(mkE 240225565480938577807985484469345695599948758954541043 v',[])∧v' 4= .box (zbX noB)∧v' 5=num 0∧v' 6=num w
 | .ok p j=>e= .exit 0∧ ∃ v',t=(mkE 240225565480938577807985484469345695599948758954541043 v',[])∧v' 8= .box (zaG p)∧v' 1=num j∧v' 4= .box (zbX noB)∧v' 7= .bool ng

theorem refOut_er (s:List UInt8) (ng:Bool) (a w:Nat):RefOut s ng (.er a w)=fun e t=>e= .ret∧ ∃ v',t=(mkE 240225565480938577807985484469345695599948758954541043 v',[])∧v' 4= .box (zbX noB)∧v' 5=num 0∧v' 6=num w:=rfl
theorem refOut_ok (s:List UInt8) (ng:Bool) (p:Nat→Bool) (j:Nat):RefOut s ng (.ok p j)=fun e t=>e= .exit 0∧ ∃ v',t=(mkE 240225565480938577807985484469345695599948758954541043 v',[])∧v' 8= .box (zaG p)∧v' 1=num j∧v' 4= .box (zbX noB)∧v' 7= .bool ng:=rfl

theorem range_test {s:List UInt8} {j:Nat} (hj:j≤20000) (w:Nat→AV) (w0:w 0= .str s) (w15:w 15=num j) (Y:ACode) (Q:AExit→EH→Prop)
  (h:Wp (evI fsT SA.sp 0 (bif comes s j [45] && !comes s j [45,93] && !comes s j [45,91,58] then Y else .skip) (mkE 240225565480938577807985484469345695599948758954541043 (st (st w 151 (.bool (comes s j [45] && !comes s j [45,93] && !comes s j [45,91,58]))) 151 .undef),[])) Q) :
  Wp (evI fsT SA.sp 0 (.seq (.region a108r30) (.cond true (.v 151) Y .skip)) (mkE 240225565480938577807985484469345695599948758954541043 w,[])) Q:=by
 have hs:=SA.mono
 have hat:=fun i=>at_run (bar:=0) (H:= []) s i
 have hat1:Rn fsT SA.sp 0 119 [.str s, .int .i64 ((j:Int)+1)] []=some (.ret (.int .i64 (atF s (j+1))),[]):=by
  rw [show (AV.int .i64 ((j:Int)+1))=num (j+1) by simp [num]];exact hat (j+1)
 have hat2:Rn fsT SA.sp 0 119 [.str s, .int .i64 ((j:Int)+2)] []=some (.ret (.int .i64 (atF s (j+2))),[]):=by
  rw [show (AV.int .i64 ((j:Int)+2))=num (j+2) by simp [num]];exact hat (j+2)
 have hw:IntKind.i64.wrap ((j:Int)+1)=(j:Int)+1:=zaj _ (by omega)
 have hw2:IntKind.i64.wrap ((j:Int)+2)=(j:Int)+2:=zaj _ (by omega)
 rw [comes_one,comes_two,comes_three] at h
 by_cases c1:s[j]? = some 45
 ·have f1:atF s j=45:=zaI c1
  by_cases c2:s[j+1]? = some 93
  ·have f2:atF s (j+1)=93:=zaI c2
   simp [c1,c2] at h
   simp [zad hs,zaa hs,zab hs,zac hs,a108r30,w0,w15,hat,hat1,hat2,hw,hw2,f1,f2]
   exact h
  ·have f2:(atF s (j+1) != 93)=true:=(zdc 93 c2).2
   by_cases c3:s[j+1]? = some 91
   ·have f3:atF s (j+1)=91:=zaI c3
    by_cases c4:s[j+2]? = some 58
    ·have f4:atF s (j+2)=58:=zaI c4
     simp [c1,c3,c4] at h
     simp [zad hs,zaa hs,zab hs,zac hs,a108r30,w0,w15,hat,hat1,hat2,hw,hw2,f1,f3,f4]
     exact h
    ·have f4:(atF s (j+2)==58)=false:=(zdc 58 c4).1
     simp [c1,c3,c4] at h
     simp [zad hs,zaa hs,zab hs,zac hs,a108r30,w0,w15,hat,hat1,hat2,hw,hw2,f1,f3,f4]
     exact h
   ·have f3:(atF s (j+1)==91)=false:=(zdc 91 c3).1
    simp [c1,c2,c3] at h
    simp [zad hs,zaa hs,zab hs,zac hs,a108r30,w0,w15,hat,hat1,hat2,hw,hw2,f1,f2,f3]
    exact h
 ·have f1:(atF s j==45)=false:=(zdc 45 c1).1
  simp [c1] at h
  simp [zad hs,zaa hs,zab hs,zac hs,a108r30,w0,w15,hat,hat1,hat2,hw,hw2,f1]
  exact h

theorem ref_items {s:List UInt8} (hl:s.length≤10000) (ng:Bool): ∀ (n i:Nat) (first:Bool) (p:Nat→Bool) (v:Nat→AV),i≤s.length→s.length<n+i→v 0= .str s→v 1=num i→v 4= .box (zbX noB)→v 7= .bool ng→v 8= .box (zaG p)→v 9= .bool first →
  Wp (evI fsT SA.sp 0 (.loop a108l43) (mkE 240225565480938577807985484469345695599948758954541043 v,[])) (RefOut s ng (zdz s n first p i)):=by
 have hs:=SA.mono
 intro n
 induction n with
 | zero=>intro i first p v h1 h2;omega
 | succ n ih =>
  intro i first p v h1 h2 v0 v1 v4 v7 v8 v9
  have hat:=fun i=>at_run (bar:=0) (H:= []) s i
  have hat1: ∀ j:Nat,Rn fsT SA.sp 0 119 [.str s, .int .i64 ((j:Int)+1)] []=some (.ret (.int .i64 (atF s (j+1))),[]):=fun j=>by
   rw [show (AV.int .i64 ((j:Int)+1))=num (j+1) by simp [num]];exact hat (j+1)
  have hat2: ∀ j:Nat,Rn fsT SA.sp 0 119 [.str s, .int .i64 ((j:Int)+2)] []=some (.ret (.int .i64 (atF s (j+2))),[]):=fun j=>by
   rw [show (AV.int .i64 ((j:Int)+2))=num (j+2) by simp [num]];exact hat (j+2)
  have hw: ∀ j:Nat,j≤20000→IntKind.i64.wrap ((j:Int)+1)=(j:Int)+1:=fun j h=>zaj _ (by omega)
  have hw2: ∀ j:Nat,j≤20000→IntKind.i64.wrap ((j:Int)+2)=(j:Int)+2:=fun j h=>zaj _ (by omega)
  have hiw:=hw i (by omega)
  have hiw2:=hw2 i (by omega)
  rw [zah hs a108l43.eq_1]
  by_cases hend:first=false∧comes s i [93]=true
  ·obtain ⟨rfl,he⟩:=hend
   have e1:zdz s (n+1) false p i= .ok p i:=by simp [zdz,he]
   rw [comes_one] at he
   have h93:atF s i=93:=zaI (by simpa using he)
   rw [e1,refOut_ok]
   simp [zad hs,zaa hs,zab hs,zac hs,a108r9,v0,v1,v9,hat,h93]
   exact ⟨_,rfl,by simp [v8],by simp [v1],by simp [v4],by simp [v7]⟩
  ·have e0:zdz s (n+1) first p i=match zcC s i with
     | .er a w=> .er a w
     | .ok q j=>zdz s n false (orB p q) j:=by
    rw [zdz,if_neg (by simpa using hend)]
    cases zcC s i<;>rfl
   have hp:=itemF_place (s:=s) i
   rw [e0]
   -- the round's test
   have test: ∀ (X:ACode) (Q:AExit→EH→Prop),Wp (evI fsT SA.sp 0 X (mkE 240225565480938577807985484469345695599948758954541043 (st (st v 50 (.bool true)) 50 .undef),[])) Q →
     Wp (evI fsT SA.sp 0 (.seq (.seq (.region a108r9) (.cond true (.v 50) .skip (.exit 0))) X) (mkE 240225565480938577807985484469345695599948758954541043 v,[])) Q:=fun X Q h=>by
    cases first with
    | true =>
     simp [zad hs,zaa hs,zab hs,zac hs,a108r9,v0,v1,v9,hat]
     exact h
    | false =>
     have he: ¬ s[i]? = some 93:=by
      have: ¬ comes s i [93]=true:=fun e=>hend ⟨rfl,e⟩
      rw [comes_one] at this
      simpa using this
     have h93:(atF s i != 93)=true:=(zdc 93 he).2
     have h93':(atF s i==93)=false:=(zdc 93 he).1
     simp [zad hs,zaa hs,zab hs,zac hs,a108r9,v0,v1,v9,hat,h93]
     exact h
   refine test _ _ ?_
   have k0:(st (st v 50 (.bool true)) 50 .undef) 0= .str s:=by simp [v0]
   have k1:(st (st v 50 (.bool true)) 50 .undef) 1=num i:=by simp [v1]
   have k4:(st (st v 50 (.bool true)) 50 .undef) 4= .box (zbX noB):=by simp [v4]
   have k7:(st (st v 50 (.bool true)) 50 .undef) 7= .bool ng:=by simp [v7]
   have k8:(st (st v 50 (.bool true)) 50 .undef) 8= .box (zaG p):=by simp [v8]
   generalize st (st v 50 (.bool true)) 50 .undef=u at k0 k1 k4 k7 k8 ⊢
   clear v0 v1 v4 v7 v8 v9 test
   by_cases hcl:comes s i [91,58]=true
   · -- a class
    have hlen:=comes_len hcl (by simp)
    simp only [List.length_cons,List.length_nil] at hlen
    rw [comes_two] at hcl
    have hcl':=of_decide_eq_true hcl
    have h91:atF s i=91:=zaI hcl'.1
    have h58:atF s (i+1)=58:=zaI hcl'.2
    rw [←comes_two] at hcl
    simp [zad hs,zaa hs,zab hs,zac hs,a108r10,a108r11,k0,k1,hat,hat1,hiw,hiw2,h91,h58]
    refine (close_loop hl (s.length-(i+2)) (i+2) _ (by omega) (by omega) ?_ ?_).mono fun e t h=> ?_
    ·simp [k0]
    ·simp
    obtain ⟨rfl,u1,rfl,r10,r8,rk⟩:=h
    obtain ⟨m0,m1,m4,m7,m9⟩:=rk
    simp at r8 m0 m1 m4 m7 m9
    rw [k0] at m0;rw [k1] at m1;rw [k4] at m4;rw [k7] at m7;rw [k8] at r8
    cases hcf:zdC (s.drop (i+2)) with
    | none =>
     have e2:zcC s i= .er 0 3:=by simp [zcC,hcl,hcf]
     have e3:zd1 s (i+2)=s.length:=by simp [zd1,hcf]
     rw [e3] at r10
     rw [e2]
     simp only [refOut_er]
     simp [zad hs,zaa hs,zab hs,zac hs,a108r15,a108r16,r10,m0,m1,m4,zbw]
     exact ⟨_,rfl,by simp;rfl,by simp,by simp⟩
    | some k =>
     have hpl:=zev hcf
     simp only [List.length_drop] at hpl
     have e3:zd1 s (i+2)=i+2+k:=by simp [zd1,hcf]
     rw [e3] at r10
     have hnk:i+2+k-(i+2)=k:=by omega
     have hge: ¬ s.length≤i+2+k:=by omega
     have hgeI: ¬ (s.length:Int)≤(i:Int)+2+(k:Int):=by omega
     have hwk:IntKind.i64.wrap ((i:Int)+2+(k:Int)+2)=(i:Int)+2+(k:Int)+2:=zaj _ (by omega)
     simp [zad hs,zaa hs,zab hs,zac hs,a108r15,a108r16,a108r17,r10,m0,m1,m4,hgeI]
     by_cases hr:zaP ((s.drop (i+2)).take k)= []
     ·have e2:zcC s i= .er 0 40:=by simp [zcC,hcl,hcf,hr]
      rw [e2]
      simp only [refOut_er]
      refine (class_un (i:=i) (t:=i+2+k) (by omega) (by omega) hl (by rw [hnk];exact hr) _ ?_ ?_ ?_ ?_ ?_).mono fun e t h=> ?_
      ·simp [m0]
      ·simp [m1]
      ·simp [r10]
      ·simp
      ·simp [m4]
      obtain ⟨rfl,u2,rfl,q4,q5,q6⟩:=h
      simp
      exact ⟨_,rfl,q4,q5,q6⟩
     ·have e2:zcC s i= .ok (zaf (zaP ((s.drop (i+2)).take k))) (i+k+4):=by simp [zcC,hcl,hcf,hr]
      rw [e2] at hp ⊢
      simp only
      simp only [PR.sat] at hp
      refine (class_loop (i:=i) (t:=i+2+k) (by omega) (by omega) hl (by rw [hnk];exact hr) p 256 0 _ (by omega) ?_ ?_ ?_ ?_ ?_).mono fun e t h=> ?_
      ·simp [m0]
      ·simp [m1]
      ·simp [r10]
      ·simp
      ·rw [upTo_zero];simp [r8]
      obtain ⟨rfl,u2,rfl,q8,q10,q0,q1,q4,q7,q9⟩:=h
      rw [hnk] at q8
      simp at q0 q1 q4 q7 q9
      rw [m0] at q0;rw [m1] at q1;rw [m4] at q4;rw [m7] at q7
      have ej:num (i+k+4)= .int .i64 ((i:Int)+2+(k:Int)+2):=by simp [num];omega
      simp [zad hs,zaa hs,zab hs,zac hs,a108r25,a108r42,q10,q1,hwk]
      refine ih (i+k+4) false _ _ (by omega) (by omega) ?_ ?_ ?_ ?_ ?_ ?_
      ·simp [q0]
      ·simp [ej]
      ·simp [q4]
      ·simp [q7]
      ·simp [q8]
      ·simp
   ·have hcl0:comes s i [91,58]=false:=by simpa using hcl
    -- no class
    have skip10: ∀ (Y:ACode) (Q:AExit→EH→Prop),Wp (evI fsT SA.sp 0 .skip (mkE 240225565480938577807985484469345695599948758954541043 (st (st u 61 (.bool false)) 61 .undef),[])) Q →
      Wp (evI fsT SA.sp 0 (.seq (.region a108r10) (.cond true (.v 61) Y .skip)) (mkE 240225565480938577807985484469345695599948758954541043 u,[])) Q:=fun Y Q h=>by
     rw [comes_two] at hcl0
     by_cases c1:s[i]? = some 91
     ·have f1:atF s i=91:=zaI c1
      have c2: ¬ s[i+1]? = some 58:=fun e=>by simp [c1,e] at hcl0
      have f2:(atF s (i+1)==58)=false:=(zdc 58 c2).1
      simp [zad hs,zaa hs,zab hs,zac hs,a108r10,k0,k1,hat,hat1,hiw,f1,f2]
      simpa using h
     ·have f1:(atF s i==91)=false:=(zdc 91 c1).1
      simp [zad hs,zaa hs,zab hs,zac hs,a108r10,k0,k1,hat,hat1,hiw,f1]
      simpa using h
    have hone:=fun j (h:j≤100000)=>one_run' (bar:=0) (H:= []) s h
    rw [zad hs,zab hs,zad hs]
    refine skip10 _ _ ?_
    have j0:(st (st u 61 (.bool false)) 61 .undef) 0= .str s:=by simp [k0]
    have j1:(st (st u 61 (.bool false)) 61 .undef) 1=num i:=by simp [k1]
    have j4:(st (st u 61 (.bool false)) 61 .undef) 4= .box (zbX noB):=by simp [k4]
    have j7:(st (st u 61 (.bool false)) 61 .undef) 7= .bool ng:=by simp [k7]
    have j8:(st (st u 61 (.bool false)) 61 .undef) 8= .box (zaG p):=by simp [k8]
    generalize st (st u 61 (.bool false)) 61 .undef=w at j0 j1 j4 j7 j8 ⊢
    clear k0 k1 k4 k7 k8 skip10
    cases hsg:zbt s i with
    | none =>
     obtain ⟨X,e1⟩: ∃ X,oneF s i= .tup [.int .i64 (-1),num X]:=⟨match s[i]? with | some _=>i+2 | none=>i+1,by unfold oneF;rw [hsg]<;>rfl⟩
     have h1:=hone i (by omega)
     rw [e1] at h1
     have e2:zcC s i= .er 0 3:=by simp [zcC,hcl0,hsg]
     rw [e2]
     simp only [refOut_er]
     simp [zad hs,zaa hs,zab hs,zac hs,a108r26,a108r27,a108r28,j0,j1,j4,h1,zbw]
     exact ⟨_,rfl,by simp;rfl,by simp,by simp⟩
    | some q =>
     obtain ⟨a,j⟩:=q
     have hjp:=zeG hsg
     have h1:=hone i (by omega)
     have e1:oneF s i= .tup [.int .i64 a.toNat,num j]:=by simp [oneF,hsg]
     rw [e1] at h1
     have ha0: ¬ (a.toNat:Int)<0:=by omega
     have haw:IntKind.i64.wrap (a.toNat:Int)=(a.toNat:Int):=zaj _ (by have:=a.toNat_lt;omega)
     simp [zad hs,zaa hs,zab hs,zac hs,a108r26,a108r27,a108r28,a108r29,j0,j1,h1,ha0]
     have w0:(st (st (st (st (st w 14 (.int .i64 a.toNat)) 15 (num j)) 123 (.bool false)) 123 .undef) 16 (.int .i64 a.toNat)) 0= .str s:=by simp [j0]
     have w1:(st (st (st (st (st w 14 (.int .i64 a.toNat)) 15 (num j)) 123 (.bool false)) 123 .undef) 16 (.int .i64 a.toNat)) 1=num i:=by simp [j1]
     have w4:(st (st (st (st (st w 14 (.int .i64 a.toNat)) 15 (num j)) 123 (.bool false)) 123 .undef) 16 (.int .i64 a.toNat)) 4= .box (zbX noB):=by simp [j4]
     have w7:(st (st (st (st (st w 14 (.int .i64 a.toNat)) 15 (num j)) 123 (.bool false)) 123 .undef) 16 (.int .i64 a.toNat)) 7= .bool ng:=by simp [j7]
     have w8:(st (st (st (st (st w 14 (.int .i64 a.toNat)) 15 (num j)) 123 (.bool false)) 123 .undef) 16 (.int .i64 a.toNat)) 8= .box (zaG p):=by simp [j8]
     have w14:(st (st (st (st (st w 14 (.int .i64 a.toNat)) 15 (num j)) 123 (.bool false)) 123 .undef) 16 (.int .i64 a.toNat)) 14=num a.toNat:=by simp
     have w15:(st (st (st (st (st w 14 (.int .i64 a.toNat)) 15 (num j)) 123 (.bool false)) 123 .undef) 16 (.int .i64 a.toNat)) 15=num j:=by simp
     have w16:(st (st (st (st (st w 14 (.int .i64 a.toNat)) 15 (num j)) 123 (.bool false)) 123 .undef) 16 (.int .i64 a.toNat)) 16=num a.toNat:=by simp
     generalize st (st (st (st (st w 14 (.int .i64 a.toNat)) 15 (num j)) 123 (.bool false)) 123 .undef) 16 (.int .i64 a.toNat)=x at w0 w1 w4 w7 w8 w14 w15 w16 ⊢
     clear j0 j1 j4 j7 j8
     have T:=fun Y Q h=>range_test (s:=s) (j:=j) (by omega) x w0 w15 Y Q h
     simp only [zad hs,zaa hs] at T
     refine T _ _ ?_
     clear T
     -- behind the range's bytes
     have fin2: ∀ (b:UInt8) (k:Nat) (y:Nat→AV),zcC s i= .ok (zak a b) k→a.toNat≤b.toNat→y 0= .str s→y 4= .box (zbX noB)→y 7= .bool ng→y 8= .box (zaG p)→y 14=num a.toNat→y 15=num k→y 16=num b.toNat →
       Wp (evI fsT SA.sp 0 (.seq (.seq (.region a108r36) (.block 6 (.loop a108l40))) (.region a108r41)) (mkE 240225565480938577807985484469345695599948758954541043 y,[])) (outOf 1 (andThen (evI fsT SA.sp 0 (.region a108r42)) (andThen (evI fsT SA.sp 0 (.loop a108l43)) (RefOut s ng (zdz s n false (orB p (zak a b)) k))))):=fun b k y hit hab y0 y4 y7 y8 y14 y15 y16=>by
      rw [hit] at hp
      simp only [PR.sat] at hp
      simp [zad hs,zaa hs,zab hs,zac hs,a108r36,y14]
      refine (range_loop (bar:=0) p a b (b.toNat+1-a.toNat) a.toNat _ (by omega) (Nat.le_refl _) ?_ ?_ ?_).mono fun e t h=> ?_
      ·simp [y16]
      ·simp
      ·rw [fromTo_zero];simp [y8]
      obtain ⟨rfl,u2,rfl,q8,q15,q0,q1,q4,q7,q9⟩:=h
      simp at q15 q0 q4 q7
      rw [y15] at q15;rw [y0] at q0;rw [y4] at q4;rw [y7] at q7
      simp [zad hs,zaa hs,zab hs,zac hs,a108r41,a108r42,q15]
      refine ih k false _ _ (by omega) (by omega) ?_ ?_ ?_ ?_ ?_ ?_
      ·simp [q0]
      ·simp
      ·simp [q4]
      ·simp [q7]
      ·simp [q8]
      ·simp
     cases hcond:(comes s j [45] && !comes s j [45,93] && !comes s j [45,91,58]) with
     | false =>
      have e2:zcC s i= .ok (zak a a) j:=by
       simp only [zcC,hcl0,hsg,Bool.false_eq_true,if_false]
       rw [if_neg (fun h=>by simp [h.1,h.2.1,h.2.2] at hcond)]
      have F:=fin2 a j (st (st x 151 (.bool false)) 151 .undef) e2 (Nat.le_refl _) (by simp [w0]) (by simp [w4]) (by simp [w7]) (by simp [w8]) (by simp [w14]) (by simp [w15]) (by simp [w16])
      rw [e2]
      simpa using F
     | true =>
      simp only [Bool.and_eq_true,Bool.not_eq_true'] at hcond
      obtain ⟨⟨d1,d2⟩,d3⟩:=hcond
      have hone1:Rn fsT SA.sp 0 121 [.str s, .int .i64 ((j:Int)+1)] []=some (.ret (oneF s (j+1)),[]):=by
       rw [show (AV.int .i64 ((j:Int)+1))=num (j+1) by simp [num]];exact hone (j+1) (by omega)
      have hjw:=hw j (by omega)
      have hi0:zcC s i=match zbt s (j+1) with
        | none=> .er 0 3
        | some (b,k)=>if b<a then .er 0 4 else .ok (zak a b) k:=by
       simp only [zcC,hcl0,hsg,Bool.false_eq_true,if_false]
       rw [if_pos ⟨d1,by simp [d2],by simp [d3]⟩]
       rfl
      cases hsg2:zbt s (j+1) with
      | none =>
       obtain ⟨X,e1⟩: ∃ X,oneF s (j+1)= .tup [.int .i64 (-1),num X]:=⟨match s[j+1]? with | some _=>j+1+2 | none=>j+1+1,by unfold oneF;rw [hsg2]<;>rfl⟩
       rw [e1] at hone1
       rw [hsg2] at hi0
       rw [hi0]
       simp only [refOut_er,cond_true]
       simp [zad hs,zaa hs,zab hs,zac hs,a108r31,a108r32,a108r33,w0,w15,w4,hone1,hjw,zbw]
       exact ⟨_,rfl,by simp;rfl,by simp,by simp⟩
      | some q =>
       obtain ⟨b,k⟩:=q
       have e1:oneF s (j+1)= .tup [.int .i64 b.toNat,num k]:=by simp [oneF,hsg2]
       rw [e1] at hone1
       rw [hsg2] at hi0
       simp only at hi0
       have hb0: ¬ (b.toNat:Int)<0:=by omega
       by_cases hba:b<a
       ·have hba':(b.toNat:Int)<(a.toNat:Int):=by rw [UInt8.lt_iff_toNat_lt] at hba;omega
        rw [if_pos hba] at hi0
        rw [hi0]
        simp only [refOut_er,cond_true]
        simp [zad hs,zaa hs,zab hs,zac hs,a108r31,a108r32,a108r33,a108r34,a108r35,w0,w14,w15,w4,hone1,hjw,zbw,hb0,hba']
        exact ⟨_,rfl,by simp;rfl,by simp,by simp⟩
       ·have hba': ¬ (b.toNat:Int)<(a.toNat:Int):=by rw [UInt8.lt_iff_toNat_lt] at hba;omega
        have hbaN:a.toNat≤b.toNat:=by omega
        rw [if_neg hba] at hi0
        simp only [cond_true]
        have F:=fun y=>fin2 b k y hi0 hbaN
        simp only [zad hs,zaa hs] at F
        rw [hi0]
        simp only [zad hs,zaa hs,zac hs]
        simp [a108r31,a108r32,a108r33,a108r34,zad hs,zaa hs,zac hs,w0,w14,w15,hone1,hjw,hb0,hba']
        refine F _ ?_ ?_ ?_ ?_ ?_ ?_ ?_
        all_goals simp [w0,w4,w7,w8,w14]

end

section

theorem ref_bracket {bar:Nat} {H:Heap} {s:List UInt8} {i:Nat} (hl:s.length≤10000) (h:s[i]? = some 91):Rn fsT SA.sp bar 108 [.str s,num i] H=some (.ret (zc0 (brackF s i)),H):=by
 have hs:=SA.mono
 have hlt:=(List.getElem?_eq_some_iff.1 h).1
 have hat:=fun i=>at_run (bar:=0) (H:= []) s i
 have hat1:Rn fsT SA.sp 0 119 [.str s, .int .i64 ((i:Int)+1)] []=some (.ret (.int .i64 (atF s (i+1))),[]):=by
  rw [show (AV.int .i64 ((i:Int)+1))=num (i+1) by simp [num]];exact hat (i+1)
 have hw:IntKind.i64.wrap ((i:Int)+1)=(i:Int)+1:=zaj _ (by omega)
 have hw2:IntKind.i64.wrap ((i:Int)+1+1)=(i:Int)+1+1:=zaj _ (by omega)
 have h0: ¬ (i:Int)<0:=by omega
 have h1: ¬ s.length≤i:=by omega
 have h1I: ¬ (s.length:Int)≤(i:Int):=by omega
 have hno:=boolsC_no
 have h4: ∀ p,List.take 4 (zbX p)=zbX p:=fun p=>rfl
 have hz:([.int .u64 0, .int .u64 0, .int .u64 0, .int .u64 0]:List AV)=zbX noB:=rfl
 have c2: ∀ p q:Nat→Bool,setCells (zbX p) 0 (zbX q)=zbX q:=fun p q=>rfl
 have hset:=fun p=>Set_run (bar:=0) (H:= []) p
 unfold zfa at hset
 have frzC: ∀ (p:Nat→Bool) H,zbG 0 H (zbX p)=some (zbX p):=fun p H=>by simp [setC_eq,frz,zbG]
 have after: ∀ (x:PR (Nat→Bool)) (ng:Bool) (e:AExit) (t:EH),(∀ p j,x= .ok p j→j≤s.length)→RefOut s ng x e t →
   outOf 0 (andThen (evI fsT SA.sp 0 (.seq (.seq (.region a108r44) (.cond true (.v 175) (.seq (.region a108r45) (.block 8 (.loop a108l49))) .skip)) (.seq (.region a108r50) .ret))) (fin [.cell 4 (some 4), .tmp 5, .tmp 6] (thaw 0 (· = .ret (zc0 (match x with | .er a w=> .er a w | .ok p j=> .ok (bif ng then notB p else p) (j+1))))))) e t:=by
  intro x ng e t hj h
  cases x with
  | er a w =>
   obtain ⟨rfl,v',rfl,k4,k5,k6⟩:=h
   simp [k4,k5,k6,zbw,h4,zc0,zfa,frz,zbG,frzC]
  | ok p j =>
   obtain ⟨rfl,v',rfl,k8,k1,k4,k7⟩:=h
   have hj:=hj p j rfl
   have hwj:IntKind.i64.wrap ((j:Int)+1)=(j:Int)+1:=zaj _ (by omega)
   cases ng with
   | true =>
    simp [zad hs,zaa hs,zab hs,zac hs,a108r44,a108r45,k7]
    refine (not_loop p 256 0 _ (by omega) ?_ ?_).mono fun e t h=> ?_
    ·simp
    ·rw [turned_zero];simp [k8]
    obtain ⟨rfl,u,rfl,q8,q0,q1,q4,q7,q9⟩:=h
    simp at q1 q4
    rw [k1] at q1;rw [k4] at q4
    simp [zad hs,zaa hs,zab hs,zac hs,a108r50,q1,q4,q8,hset,hwj,zaL,zdh,zbw,h4,c2,zc0,zfa,frz,zbG,frzC]
   | false =>
    simp [zad hs,zaa hs,zab hs,zac hs,a108r44,a108r45,a108r50,k7,k1,k4,k8,hset,hwj,zaL,zdh,zbw,h4,c2,zc0,zfa,frz,zbG,frzC]
 refine zao hs fsT_108 rfl rfl rfl ?_
 rw [env108]
 have hit:=fun first p i h1 h2=>zfe (s:=s) (s.length+1) first p i h1 h2
 have e1:((i:Int)+1)=((i+1:Nat):Int):=by simp
 unfold brackF
 rw [comes_one]
 by_cases hcc:s[i+1]? = some 94
 ·have f1:atF s (i+1)=94:=zaI hcc
  have hlen:=(List.getElem?_eq_some_iff.1 hcc).1
  simp only [hcc,decide_true,cond_true]
  simp [-List.reduceReplicate,hno,zaL,zdh,zfO,a108,a108r0,a108r1,a108r2,a108r3,a108r4,a108r5,a108r6,a108r7,a108r8,zad hs,zaa hs,zai hs,zab hs,zac hs,h0,h1,h1I,h,hat,hat1,hw,hw2,f1]
  refine (ref_items hl true (s.length+1) (i+2) true noB _ (by omega) (by omega) ?_ ?_ ?_ ?_ ?_ ?_).mono fun e t h=> ?_
  ·simp
  ·simp;omega
  ·simp;rfl
  ·simp
  ·simp [-List.reduceReplicate]
  ·simp
  ·have hq:=hit true noB (i+2) (by omega) (by omega)
   refine after _ true e t (fun p j e=> ?_) h
   rw [e] at hq;simp only [PR.sat] at hq;omega
 ·have f1:(atF s (i+1)==94)=false:=(zdc 94 hcc).1
  have e94:decide (s[i+1]? = some 94)=false:=by simp [hcc]
  simp only [e94,cond_false]
  simp [-List.reduceReplicate,hno,zaL,zdh,zfO,a108,a108r0,a108r1,a108r2,a108r3,a108r4,a108r5,a108r6,a108r7,a108r8,zad hs,zaa hs,zai hs,zab hs,zac hs,h0,h1,h1I,h,hat,hat1,hw,hw2,f1]
  refine (ref_items hl false (s.length+1) (i+1) true noB _ (by omega) (by omega) ?_ ?_ ?_ ?_ ?_ ?_).mono fun e t h=> ?_
  ·simp
  ·simp
  ·simp;rfl
  ·simp
  ·simp [-List.reduceReplicate]
  ·simp
  ·have hq:=hit true noB (i+1) (by omega) (by omega)
   refine after _ false e t (fun p j e=> ?_) h
   rw [e] at hq;simp only [PR.sat] at hq;omega

end

end Go.Ak

