/- What the document's class reader computes. -/
import Derived.Test.YtfcgnpphabplbaaGreatDoorOq
set_option linter.unusedVariables false
set_option linter.unusedSimpArgs false
namespace Go.Ak
attribute [local simp] zcx zd7 zd8 zfV zbm zc2 zaG za9 za0 zba zbs zbK zbL zbg zcJ zdJ zdK zcB zcC
 zaN zcN wanted zbb opd zkt live zcD zde zbA zcA ziq put zes esc zqx ztJ args drop1 zg1 zuW zuV ztH zou rd wr zbE sub AV.cells pack one setCells zeH znX zc3 roOf zaL zfw zav zau zey zbw newRow newObj step zcF zbM contents take flat look lim zex bound zec zeu eqS eqL eqA ver
 zcI zdI zdH zcG zcH
 List.getElem?_cons_zero List.getElem?_cons_succ zdl zbp zaE zaF zcE
attribute [local simp] sR sT cV bL mvV mvL mgV mgL asL asI asB ldN ldV ldL ldG stV stL fdL fdV fdG fgL nlC nlG bnI bvI bnL bvL bxI bxU bgI bgL exT lnS lgS clA clB clC clI pkT pkF pvT pvF pgT pgF ixL axV bxV apL
attribute [-simp] getElem?_pos
section
def atF (s:List UInt8) (i:Nat):Int:=match s[i]? with | some c=>c.toNat | none=> -1
theorem zaA {s:List UInt8} {i:Nat} {c:UInt8} (h:s[i]? = some c):atF s i=c.toNat:=by simp [atF,h]
theorem zjv {s:List UInt8} {i:Nat} (h:s[i]? = none):atF s i= -1:=by simp [atF,h]
theorem zcV {s:List UInt8} {i:Nat} (d:UInt8) (h: ¬ s[i]? = some d):(atF s i==(d.toNat:Int))=false∧(atF s i != (d.toNat:Int))=true:=by
 have: ¬ atF s i=(d.toNat:Int):=by
  unfold atF
  cases q:s[i]? with
  | none=>simp only;omega
  | some c =>
   simp only
   intro e
   exact h (by rw [q,UInt8.toNat_inj.1 (Int.ofNat.inj e)])
 have e:(atF s i==(d.toNat:Int))=false:=by simpa using this
 exact ⟨e,by simp [bne,e]⟩
theorem zrB {bar:Nat} {H:Heap} (s:List UInt8) (i:Nat):Rn fsT SA.sp bar 119 [.str s,num i] H=some (.ret (.int .i64 (atF s i)),H):=by
 have hs:=SA.mono
 refine zao hs zFU rfl rfl rfl ?_
 rw [zI8]
 cases h:s[i]? with
 | none =>
  have h1: ¬ i<s.length:=by have:=List.getElem?_eq_none_iff.1 h;omega
  rw [zjv h]
  simp [a119,zzX,zzW,zzV,zzU,zad hs,zaa hs,zac hs,h1]
 | some c =>
  have h1:=(List.getElem?_eq_some_iff.1 h).1
  have hw:IntKind.i64.wrap (c.toNat:Int)=(c.toNat:Int):=zal _ (by have:=c.toNat_lt;omega)
  rw [zaA h]
  simp [a119,zzX,zzW,zzV,zzU,zad hs,zaa hs,zac hs,h1,h,hw]
def zn1 (s:List UInt8) (i:Nat):AV:=match zbi s i with
 | some (c,j)=> .tup [.int .i64 c.toNat,num j]
 | none=> .tup [.int .i64 (-1),num (match s[i]? with | some _=>i+2 | none=>i+1)]
theorem zBv {bar:Nat} {H:Heap} (s:List UInt8) {i:Nat} (hi:i≤100000):Rn fsT SA.sp bar 121 [.str s,num i] H=some (.ret (zn1 s i),H):=by
 have hs:=SA.mono
 have hat:=fun i=>zrB (bar:=0) (H:= []) s i
 have hw:IntKind.i64.wrap ((i:Int)+1)=(i:Int)+1:=zal _ (by omega)
 have hw2:IntKind.i64.wrap ((i:Int)+2)=(i:Int)+2:=zal _ (by omega)
 have hat1:Rn fsT SA.sp 0 119 [.str s, .int .i64 ((i:Int)+1)] []=some (.ret (.int .i64 (atF s (i+1))),[]):=by
  rw [show (AV.int .i64 ((i:Int)+1))=num (i+1) by simp [num]];exact hat (i+1)
 refine zao hs zFT rfl rfl rfl ?_
 rw [zI7]
 by_cases hc:s[i]? = some 92
 ·have h92:atF s i=92:=zaA hc
  by_cases c1:s[i+1]? = some 110
  ·have e:zn1 s i= .tup [num 10,num (i+2)]:=by simp [zn1,zbi,hc,c1,zcM]
   have h110:atF s (i+1)=110:=zaA c1
   rw [e]
   simp [a121,zsb,zsa,zr9,zr8,zr7,zr6,zr5,zr4,zr3,zad hs,zaa hs,zac hs,hat,hat1,hw,hw2,h92,h110,frz,zbd]
  ·obtain ⟨h110,h110'⟩:=zcV 110 c1
   have h110:(atF s (i+1)==110)=false:=h110
   by_cases c2:s[i+1]? = some 116
   ·have e:zn1 s i= .tup [num 9,num (i+2)]:=by simp [zn1,zbi,hc,c2,zcM]
    have h116:atF s (i+1)=116:=zaA c2
    rw [e]
    simp [a121,zsb,zsa,zr9,zr8,zr7,zr6,zr5,zr4,zr3,zad hs,zaa hs,zac hs,hat,hat1,hw,hw2,h92,h116,frz,zbd]
   ·obtain ⟨h116,h116'⟩:=zcV 116 c2
    have h116:(atF s (i+1)==116)=false:=h116
    have e:zn1 s i= .tup [.int .i64 (atF s (i+1)),num (i+2)]:=by
     cases q:s[i+1]? with
     | none=>simp [zn1,zbi,hc,q,atF]
     | some d =>
      have d1:d≠110:=fun e=>c1 (e▸q)
      have d2:d≠116:=fun e=>c2 (e▸q)
      simp [zn1,zbi,hc,q,atF,zcM,d1,d2]
    rw [e]
    simp [a121,zsb,zsa,zr9,zr8,zr7,zr6,zr5,zr4,zr3,zad hs,zaa hs,zac hs,hat,hat1,hw,hw2,h92,h110,h116,frz,zbd]
 ·obtain ⟨h92,h92'⟩:=zcV 92 hc
  have h92':(atF s i != 92)=true:=h92'
  have e:zn1 s i= .tup [.int .i64 (atF s i),num (i+1)]:=by
   cases q:s[i]? with
   | none=>simp [zn1,zbi,q,atF]
   | some d =>
    have d1:d≠92:=fun e=>hc (e▸q)
    simp [zn1,zbi,q,atF,d1]
  rw [e]
  simp [a121,zsb,zsa,zr9,zr8,zr7,zr6,zr5,zr4,zr3,zad hs,zaa hs,zac hs,hat,hat1,hw,hw2,h92',frz,zbd]
theorem zwJ {c:Nat} (hc:c<256):c<48∨(48≤c∧c≤57)∨(58≤c∧c<65)∨(65≤c∧c≤90)∨(91≤c∧c<97)∨(97≤c∧c≤122)∨123≤c:=by omega
theorem zBE {bar:Nat} {H:Heap} {name:List UInt8} (h:zaD name= []) {c:Nat} (hc:c<256):Rn fsT SA.sp bar 120 [.str name,num c] H=some (.ret (.tup [.bool false, .bool false]),H):=by
 have hs:=SA.mono
 have hn: ∀ t:List UInt8,zaD t ≠ []→ ¬ name=t:=fun t ht e=>by rw [e] at h;exact ht h
 have n1:=hn [97,108,112,104,97] (by decide)
 have n2:=hn [100,105,103,105,116] (by decide)
 have n3:=hn [97,108,110,117,109] (by decide)
 have n4:=hn [117,112,112,101,114] (by decide)
 have n5:=hn [108,111,119,101,114] (by decide)
 have n6:=hn [115,112,97,99,101] (by decide)
 have n7:=hn [98,108,97,110,107] (by decide)
 have n8:=hn [112,117,110,99,116] (by decide)
 have n9:=hn [112,114,105,110,116] (by decide)
 have n10:=hn [103,114,97,112,104] (by decide)
 have n11:=hn [99,110,116,114,108] (by decide)
 have n12:=hn [120,100,105,103,105,116] (by decide)
 refine zao hs zdG rfl rfl rfl ?_
 rw [zfF]
 rcases zwJ hc with h | h | h | h | h | h | h
 ·have a0: ¬ (65:Int)≤(c:Int):=by omega
  have a2: ¬ (97:Int)≤(c:Int):=by omega
  have a4: ¬ (48:Int)≤(c:Int):=by omega
  simp [a120,zj3,zj2,zj1,zj0,zjZ,zjY,zjX,zjW,zjV,zjU,zgw,zgv,zgu,zgt,zgs,zgr,zgq,zgp,zgo,zgn,zgm,zgl,zgk,zgj,zgi,zgh,zgg,zgf,zad hs,zaa hs,zac hs,zab hs,a0,a2,a4,za6,n1,n2,n3,n4,n5,n6,n7,n8,n9,n10,n11,n12,frz,zbd]
 ·have a0: ¬ (65:Int)≤(c:Int):=by omega
  have a2: ¬ (97:Int)≤(c:Int):=by omega
  have a4:(48:Int)≤(c:Int):=by omega
  have a5:(c:Int)≤57:=by omega
  simp [a120,zj3,zj2,zj1,zj0,zjZ,zjY,zjX,zjW,zjV,zjU,zgw,zgv,zgu,zgt,zgs,zgr,zgq,zgp,zgo,zgn,zgm,zgl,zgk,zgj,zgi,zgh,zgg,zgf,zad hs,zaa hs,zac hs,zab hs,a0,a2,a4,a5,za6,n1,n2,n3,n4,n5,n6,n7,n8,n9,n10,n11,n12,frz,zbd]
 ·have a0: ¬ (65:Int)≤(c:Int):=by omega
  have a2: ¬ (97:Int)≤(c:Int):=by omega
  have a4:(48:Int)≤(c:Int):=by omega
  have a5: ¬ (c:Int)≤57:=by omega
  simp [a120,zj3,zj2,zj1,zj0,zjZ,zjY,zjX,zjW,zjV,zjU,zgw,zgv,zgu,zgt,zgs,zgr,zgq,zgp,zgo,zgn,zgm,zgl,zgk,zgj,zgi,zgh,zgg,zgf,zad hs,zaa hs,zac hs,zab hs,a0,a2,a4,a5,za6,n1,n2,n3,n4,n5,n6,n7,n8,n9,n10,n11,n12,frz,zbd]
 ·have a0:(65:Int)≤(c:Int):=by omega
  have a1:(c:Int)≤90:=by omega
  have a2: ¬ (97:Int)≤(c:Int):=by omega
  have a4:(48:Int)≤(c:Int):=by omega
  have a5: ¬ (c:Int)≤57:=by omega
  simp [a120,zj3,zj2,zj1,zj0,zjZ,zjY,zjX,zjW,zjV,zjU,zgw,zgv,zgu,zgt,zgs,zgr,zgq,zgp,zgo,zgn,zgm,zgl,zgk,zgj,zgi,zgh,zgg,zgf,zad hs,zaa hs,zac hs,zab hs,a0,a1,a2,a4,a5,za6,n1,n2,n3,n4,n5,n6,n7,n8,n9,n10,n11,n12,frz,zbd]
 ·have a0:(65:Int)≤(c:Int):=by omega
  have a1: ¬ (c:Int)≤90:=by omega
  have a2: ¬ (97:Int)≤(c:Int):=by omega
  have a4:(48:Int)≤(c:Int):=by omega
  have a5: ¬ (c:Int)≤57:=by omega
  simp [a120,zj3,zj2,zj1,zj0,zjZ,zjY,zjX,zjW,zjV,zjU,zgw,zgv,zgu,zgt,zgs,zgr,zgq,zgp,zgo,zgn,zgm,zgl,zgk,zgj,zgi,zgh,zgg,zgf,zad hs,zaa hs,zac hs,zab hs,a0,a1,a2,a4,a5,za6,n1,n2,n3,n4,n5,n6,n7,n8,n9,n10,n11,n12,frz,zbd]
 ·have a0:(65:Int)≤(c:Int):=by omega
  have a1: ¬ (c:Int)≤90:=by omega
  have a2:(97:Int)≤(c:Int):=by omega
  have a3:(c:Int)≤122:=by omega
  have a4:(48:Int)≤(c:Int):=by omega
  have a5: ¬ (c:Int)≤57:=by omega
  simp [a120,zj3,zj2,zj1,zj0,zjZ,zjY,zjX,zjW,zjV,zjU,zgw,zgv,zgu,zgt,zgs,zgr,zgq,zgp,zgo,zgn,zgm,zgl,zgk,zgj,zgi,zgh,zgg,zgf,zad hs,zaa hs,zac hs,zab hs,a0,a1,a2,a3,a4,a5,za6,n1,n2,n3,n4,n5,n6,n7,n8,n9,n10,n11,n12,frz,zbd]
 ·have a0:(65:Int)≤(c:Int):=by omega
  have a1: ¬ (c:Int)≤90:=by omega
  have a2:(97:Int)≤(c:Int):=by omega
  have a3: ¬ (c:Int)≤122:=by omega
  have a4:(48:Int)≤(c:Int):=by omega
  have a5: ¬ (c:Int)≤57:=by omega
  simp [a120,zj3,zj2,zj1,zj0,zjZ,zjY,zjX,zjW,zjV,zjU,zgw,zgv,zgu,zgt,zgs,zgr,zgq,zgp,zgo,zgn,zgm,zgl,zgk,zgj,zgi,zgh,zgg,zgf,zad hs,zaa hs,zac hs,zab hs,a0,a1,a2,a3,a4,a5,za6,n1,n2,n3,n4,n5,n6,n7,n8,n9,n10,n11,n12,frz,zbd]
end
section
def Kept (v v':Nat→AV):Prop:=v' 0=v 0∧v' 1=v 1∧v' 4=v 4∧v' 7=v 7∧v' 9=v 9
theorem Kept.refl (v:Nat→AV):Kept v v:=⟨rfl,rfl,rfl,rfl,rfl⟩
theorem Kept.of_eq {v w u:Nat→AV} (h:Kept v u) (h0:v 0=w 0) (h1:v 1=w 1) (h4:v 4=w 4) (h7:v 7=w 7) (h9:v 9=w 9):Kept w u :=
 ⟨h.1.trans h0,h.2.1.trans h1,h.2.2.1.trans h4,h.2.2.2.1.trans h7,h.2.2.2.2.trans h9⟩
theorem zoj {s:List UInt8} {t:Nat} (h:t<s.length):zdo (s.drop t)=if s[t]? = some 58∧s[t+1]? = some 93 then some 0 else (zdo (s.drop (t+1))).map (· + 1):=by
 rw [List.drop_eq_getElem_cons h,zdo]
 have e:((s[t]::s.drop (t+1)).take 2= [58,93])↔(s[t]? = some 58∧s[t+1]? = some 93):=by
  rw [List.take_succ_cons,List.getElem?_eq_getElem h]
  by_cases h1:t+1<s.length
  ·rw [List.drop_eq_getElem_cons h1,List.take_succ_cons,List.take_zero,List.getElem?_eq_getElem h1]
   simp only [List.cons.injEq,and_true,Option.some.injEq]
  ·rw [List.drop_eq_nil_of_le (by omega),List.getElem?_eq_none (by omega)]
   simp
 simp only [e]
def zdM (s:List UInt8) (t:Nat):Nat:=match zdo (s.drop t) with | some n=>t+n | none=>s.length
theorem ztv {s:List UInt8} {t:Nat} (h:s[t]? = some 58) (h2:s[t+1]? = some 93):zdM s t=t:=by
 have:=(List.getElem?_eq_some_iff.1 h).1
 unfold zdM
 rw [zoj this,if_pos ⟨h,h2⟩];rfl
theorem zwD {s:List UInt8} {t:Nat} (h:t<s.length) (h2: ¬ (s[t]? = some 58∧s[t+1]? = some 93)):zdM s t=zdM s (t+1):=by
 unfold zdM
 rw [zoj h,if_neg h2]
 cases zdo (s.drop (t+1)) with
 | none=>rfl
 | some n=>simp only [Option.map_some];omega
theorem zwC {bar:Nat} {s:List UInt8} (hl:s.length≤10000): ∀ (n t:Nat) (v:Nat→AV),t≤s.length→s.length=n+t→v 0= .str s→v 10=num t →
  Wp (evI fsT SA.sp bar (.loop a108l14) (mkE 240225565480938577807985484469345695599948758954541043 v,[])) (fun e t'=>e= .exit 2∧ ∃ v',t'=(mkE 240225565480938577807985484469345695599948758954541043 v',[])∧v' 10=num (zdM s t)∧v' 8=v 8∧Kept v v'):=by
 have hs:=SA.mono
 intro n
 induction n with
 | zero =>
  intro t v h1 h2 v0 v10
  have e:t=s.length:=by omega
  subst e
  have e2:zdM s s.length=s.length:=by unfold zdM;simp [zdo]
  rw [zaj hs a108l14.eq_1]
  simp [zad hs,zaa hs,zab hs,zac hs,zno,znn,v0,v10]
  exact ⟨_,rfl,by simp [v10,e2],by simp,by simp,by simp,by simp,by simp,by simp⟩
 | succ n ih =>
  intro t v h1 h2 v0 v10
  have hlt:t<s.length:=by omega
  have hat:=fun i=>zrB (bar:=bar) (H:= []) s i
  have hat1:Rn fsT SA.sp bar 119 [.str s, .int .i64 ((t:Int)+1)] []=some (.ret (.int .i64 (atF s (t+1))),[]):=by
   rw [show (AV.int .i64 ((t:Int)+1))=num (t+1) by simp [num]];exact hat (t+1)
  have hw:IntKind.i64.wrap ((t:Int)+1)=(t:Int)+1:=zal _ (by omega)
  have next: ∀ w:Nat→AV,w 0= .str s→w 10=num (t+1)→w 8=v 8→Kept v w→ ¬ (s[t]? = some 58∧s[t+1]? = some 93) →
    Wp (evI fsT SA.sp bar (.loop a108l14) (mkE 240225565480938577807985484469345695599948758954541043 w,[])) (fun e t'=>e= .exit 2∧ ∃ v',t'=(mkE 240225565480938577807985484469345695599948758954541043 v',[])∧v' 10=num (zdM s t)∧v' 8=v 8∧Kept v v'):=fun w w0 w10 w8 wk hno=>by
   rw [zwD hlt hno]
   refine (ih (t+1) w (by omega) (by omega) w0 w10).mono fun e q h=> ?_
   obtain ⟨r1,v',r2,r3,r4,r5⟩:=h
   exact ⟨r1,v',r2,r3,r4.trans w8,r5.1.trans wk.1,r5.2.1.trans wk.2.1,r5.2.2.1.trans wk.2.2.1,r5.2.2.2.1.trans wk.2.2.2.1,r5.2.2.2.2.trans wk.2.2.2.2⟩
  rw [zaj hs a108l14.eq_1]
  by_cases c1:s[t]? = some 58
  ·have h58:atF s t=58:=zaA c1
   by_cases c2:s[t+1]? = some 93
   ·have h93:atF s (t+1)=93:=zaA c2
    simp [zad hs,zaa hs,zab hs,zac hs,zno,znn,v0,v10,hlt,hat,hat1,h58,h93,hw]
    exact ⟨_,rfl,by simp [v10,ztv c1 c2],by simp,by simp,by simp,by simp,by simp,by simp⟩
   ·have h93:(atF s (t+1)==93)=false:=(zcV 93 c2).1
    simp [zad hs,zaa hs,zab hs,zac hs,zno,znn,v0,v10,hlt,hat,hat1,h58,h93,hw]
    refine next _ ?_ ?_ ?_ ⟨?_,?_,?_,?_,?_⟩ (by simp [c2])
    all_goals simp [v0]
  ·have h58:(atF s t==58)=false:=(zcV 58 c1).1
   simp [zad hs,zaa hs,zab hs,zac hs,zno,znn,v0,v10,hlt,hat,hat1,h58,hw]
   refine next _ ?_ ?_ ?_ ⟨?_,?_,?_,?_,?_⟩ (by simp [c1])
   all_goals simp [v0]
def upTo (p q:Nat→Bool) (c:Nat):Nat→Bool:=fun x=>p x||(decide (x<c)&&q x)
theorem zw4 (p q:Nat→Bool) (c:Nat):(fun x=>if x=c then upTo p q c c||q c else upTo p q c x)=upTo p q (c+1):=by
 funext x
 unfold upTo
 by_cases h:x=c
 ·subst h;simp
 ·have:decide (x<c)=decide (x<c+1):=by rw [decide_eq_decide];omega
  simp [h,this]
theorem zor {p q:Nat→Bool} (h: ∀ i,i<256→p i=q i):zaM p=zaM q:=by
 unfold zaM
 apply List.map_congr_left
 intro i hi
 rw [h i (List.mem_range.1 hi)]
theorem zAT (p q:Nat→Bool):zaM (upTo p q 256)=zaM (orB p q):=zor fun i hi=>by simp [upTo,orB,hi]
theorem zw3 (p q:Nat→Bool):upTo p q 0=p:=by funext x;simp [upTo]
theorem zB0 {bar:Nat} {s:List UInt8} {i t:Nat} (hi:i+2≤t) (ht:t≤s.length) (hl:s.length≤10000) (h:zaD ((s.drop (i+2)).take (t-(i+2)))= []) (v:Nat→AV) (v0:v 0= .str s) (v1:v 1=num i) (v10:v 10=num t) (v11:v 11=num 0) (v4:v 4= .box (zbG noB)) :
  Wp (evI fsT SA.sp bar (.loop a108l24) (mkE 240225565480938577807985484469345695599948758954541043 v,[])) (fun e t'=>e= .ret∧ ∃ v',t'=(mkE 240225565480938577807985484469345695599948758954541043 v',[])∧v' 4= .box (zbG noB)∧v' 5=num 0∧v' 6=num 40):=by
 have hs:=SA.mono
 have hw:IntKind.i64.wrap ((i:Int)+2)=(i:Int)+2:=zal _ (by omega)
 have h0:(0:Int)≤(i:Int)+2:=by omega
 have hx:((i:Int)+2).toNat=i+2:=by omega
 have hle:(i:Int)+2≤(t:Int):=by omega
 have hn:=zBE (bar:=bar) (H:= []) h (c:=0) (by decide)
 rw [zaj hs a108l24.eq_1]
 simp [zad hs,zaa hs,zai hs,zab hs,zac hs,znm,znl,znk,znj,zni,znh,v0,v1,v10,v11,v4,hw,h0,hx,hi,hle,ht,hn,zbn]
 exact ⟨_,rfl,by simp;rfl,by simp,by simp⟩
theorem zwE {bar:Nat} {s:List UInt8} {i t:Nat} (hi:i+2≤t) (ht:t≤s.length) (hl:s.length≤10000) (h:zaD ((s.drop (i+2)).take (t-(i+2))) ≠ []) (p:Nat→Bool): ∀ (n c:Nat) (v:Nat→AV),n+c=256→v 0= .str s→v 1=num i→v 10=num t→v 11=num c→v 8= .box (zaM (upTo p (zaf (zaD ((s.drop (i+2)).take (t-(i+2))))) c)) →
  Wp (evI fsT SA.sp bar (.loop a108l24) (mkE 240225565480938577807985484469345695599948758954541043 v,[])) (fun e t'=>e= .exit 4∧ ∃ v',t'=(mkE 240225565480938577807985484469345695599948758954541043 v',[])∧v' 8= .box (zaM (orB p (zaf (zaD ((s.drop (i+2)).take (t-(i+2)))))))∧v' 10=num t∧Kept v v'):=by
 have hs:=SA.mono
 have hw:IntKind.i64.wrap ((i:Int)+2)=(i:Int)+2:=zal _ (by omega)
 have h0:(0:Int)≤(i:Int)+2:=by omega
 have hx:((i:Int)+2).toNat=i+2:=by omega
 have hle:(i:Int)+2≤(t:Int):=by omega
 have hn:=fun c (hc:c<256)=>zte h hc bar []
 generalize hnm:(s.drop (i+2)).take (t-(i+2))=nm at h hn ⊢
 generalize zaf (zaD nm)=q at hn ⊢
 intro n
 induction n with
 | zero =>
  intro c v hc v0 v1 v10 v11 v8
  have e:c=256:=by omega
  subst e
  rw [zaj hs a108l24.eq_1]
  simp [zad hs,zaa hs,zai hs,zab hs,zac hs,znm,znl,znk,znj,zni,znh,v11]
  exact ⟨_,rfl,by simp [v8,zAT],by simp [v10],by simp,by simp,by simp,by simp,by simp⟩
 | succ n ih =>
  intro c v hc v0 v1 v10 v11 v8
  have hc2:c<256:=by omega
  have hc3:c+1≤256:=by omega
  have hcI:(c:Int)<256:=by omega
  have hn2:=hn c hc2
  have hb:=zmy (upTo p q c) hc2
  have hwc:IntKind.i64.wrap ((c:Int)+1)=(c:Int)+1:=zal _ (by omega)
  have hset:=zh5 (upTo p q c) c (upTo p q c c||q c)
  rw [zw4] at hset
  have next: ∀ w:Nat→AV,w 0= .str s→w 1=num i→w 10=num t→w 11=num (c+1)→w 8= .box (zaM (upTo p q (c+1)))→Kept v w →
    Wp (evI fsT SA.sp bar (.loop a108l24) (mkE 240225565480938577807985484469345695599948758954541043 w,[])) (fun e t'=>e= .exit 4∧ ∃ v',t'=(mkE 240225565480938577807985484469345695599948758954541043 v',[])∧v' 8= .box (zaM (orB p q))∧v' 10=num t∧Kept v v'):=fun w w0 w1 w10 w11 w8 wk=>by
   refine (ih (c+1) w (by omega) w0 w1 w10 w11 w8).mono fun e q h=> ?_
   obtain ⟨r1,v',r2,r3,r4,r5⟩:=h
   exact ⟨r1,v',r2,r3,r4,r5.1.trans wk.1,r5.2.1.trans wk.2.1,r5.2.2.1.trans wk.2.2.1,r5.2.2.2.1.trans wk.2.2.2.1,r5.2.2.2.2.trans wk.2.2.2.2⟩
  rw [zaj hs a108l24.eq_1]
  cases hu:upTo p q c c with
  | true =>
   rw [hu] at hb hset
   simp only [Bool.true_or] at hset
   simp [zad hs,zaa hs,zai hs,zab hs,zac hs,znm,znl,znk,znj,zni,znh,v0,v1,v10,v11,v8,hw,h0,hx,hi,hle,ht,hnm,hn2,hc2,hc3,hcI,hb,hset,hwc,zaR]
   refine next _ ?_ ?_ ?_ ?_ ?_ ⟨?_,?_,?_,?_,?_⟩
   all_goals simp [v0,v1,v10,hset]
  | false =>
   rw [hu] at hb hset
   simp only [Bool.false_or] at hset
   simp [zad hs,zaa hs,zai hs,zab hs,zac hs,znm,znl,znk,znj,zni,znh,v0,v1,v10,v11,v8,hw,h0,hx,hi,hle,ht,hnm,hn2,hc2,hc3,hcI,hb,hset,hwc,zaR]
   refine next _ ?_ ?_ ?_ ?_ ?_ ⟨?_,?_,?_,?_,?_⟩
   all_goals simp [v0,v1,v10,hset]
end
section
theorem Kept.trans {u v w:Nat→AV} (h:Kept u v) (k:Kept v w):Kept u w :=
 ⟨k.1.trans h.1,k.2.1.trans h.2.1,k.2.2.1.trans h.2.2.1,k.2.2.2.1.trans h.2.2.2.1,k.2.2.2.2.trans h.2.2.2.2⟩
def zid (p:Nat→Bool) (a c:Nat):Nat→Bool:=fun x=>p x||(decide (a≤x)&&decide (x<c))
theorem ztp (p:Nat→Bool) {a c:Nat} (h:a≤c):(fun x=>if x=c then true else zid p a c x)=zid p a (c+1):=by
 funext x
 unfold zid
 by_cases e:x=c
 ·subst e;simp [h]
 ·have:decide (x<c)=decide (x<c+1):=by rw [decide_eq_decide];omega
  simp [e,this]
theorem zto (p:Nat→Bool) (a:Nat):zid p a a=p:=by
 funext x
 have:(decide (a≤x)&&decide (x<a))=false:=by
  rw [Bool.and_eq_false_iff]
  by_cases h:a≤x
  ·exact .inr (by simp;omega)
  ·exact .inl (by simp;omega)
 unfold zid
 rw [this,Bool.or_false]
theorem zwu (p:Nat→Bool) (a b:UInt8):zid p a.toNat (b.toNat+1)=orB p (zak a b):=by
 funext x
 have:decide (x<b.toNat+1)=decide (x≤b.toNat):=by rw [decide_eq_decide];omega
 simp only [zid,orB,zak,this]
theorem zv6 {bar:Nat} (p:Nat→Bool) (a b:UInt8): ∀ (n c:Nat) (v:Nat→AV),n+c=b.toNat+1→a.toNat≤c→v 16=num b.toNat→v 17=num c→v 8= .box (zaM (zid p a.toNat c)) →
  Wp (evI fsT SA.sp bar (.loop a108l40) (mkE 240225565480938577807985484469345695599948758954541043 v,[])) (fun e t'=>e= .exit 6∧ ∃ v',t'=(mkE 240225565480938577807985484469345695599948758954541043 v',[])∧v' 8= .box (zaM (orB p (zak a b)))∧v' 15=v 15∧Kept v v'):=by
 have hs:=SA.mono
 have hb256:=b.toNat_lt
 intro n
 induction n with
 | zero =>
  intro c v hc ha v16 v17 v8
  have e:c=b.toNat+1:=by omega
  subst e
  have hx: ¬ (b.toNat:Int)+1≤(b.toNat:Int):=by omega
  rw [zaj hs a108l40.eq_1]
  simp [zad hs,zaa hs,zai hs,zab hs,zac hs,zue,zua,zt9,v16,v17,hx]
  exact ⟨_,rfl,by simp [v8,zwu],by simp,by simp,by simp,by simp,by simp,by simp⟩
 | succ n ih =>
  intro c v hc ha v16 v17 v8
  have hc1:c≤b.toNat:=by omega
  have hc1I:(c:Int)≤(b.toNat:Int):=by omega
  have hc2:c<256:=by omega
  have hc3:c+1≤256:=by omega
  have hcI:(c:Int)<256:=by omega
  have hwc:IntKind.i64.wrap ((c:Int)+1)=(c:Int)+1:=zal _ (by omega)
  have hset:=zh5 (zid p a.toNat c) c true
  rw [ztp p ha] at hset
  have next: ∀ w:Nat→AV,w 16=num b.toNat→w 17=num (c+1)→w 8= .box (zaM (zid p a.toNat (c+1)))→w 15=v 15→Kept v w →
    Wp (evI fsT SA.sp bar (.loop a108l40) (mkE 240225565480938577807985484469345695599948758954541043 w,[])) (fun e t'=>e= .exit 6∧ ∃ v',t'=(mkE 240225565480938577807985484469345695599948758954541043 v',[])∧v' 8= .box (zaM (orB p (zak a b)))∧v' 15=v 15∧Kept v v'):=fun w w16 w17 w8 w15 wk=>by
   refine (ih (c+1) w (by omega) (by omega) w16 w17 w8).mono fun e q h=> ?_
   obtain ⟨r1,v',r2,r3,r4,r5⟩:=h
   exact ⟨r1,v',r2,r3,r4.trans w15,wk.trans r5⟩
  rw [zaj hs a108l40.eq_1]
  simp [zad hs,zaa hs,zai hs,zab hs,zac hs,zue,zua,zt9,v16,v17,v8,hc1,hc1I,hc2,hc3,hcI,hset,hwc,zaR]
  refine next _ ?_ ?_ ?_ ?_ ⟨?_,?_,?_,?_,?_⟩
  all_goals simp [v16,hset]
def turned (p:Nat→Bool) (c:Nat):Nat→Bool:=fun x=>if x<c then !p x else p x
theorem zsy (p:Nat→Bool) (c:Nat):(fun x=>if x=c then !turned p c c else turned p c x)=turned p (c+1):=by
 funext x
 unfold turned
 by_cases e:x=c
 ·subst e;simp
 ·by_cases h:x<c
  ·have:x<c+1:=by omega
   simp [e,h,this]
  ·have: ¬ x<c+1:=by omega
   simp [e,h,this]
theorem zvH (p:Nat→Bool):zaM (turned p 256)=zaM (zq1 p):=zor fun i hi=>by simp [turned,zq1,hi]
theorem zsx (p:Nat→Bool):turned p 0=p:=by funext x;simp [turned]
theorem zBB {bar:Nat} (p:Nat→Bool): ∀ (n c:Nat) (v:Nat→AV),n+c=256→v 18=num c→v 8= .box (zaM (turned p c)) →
  Wp (evI fsT SA.sp bar (.loop a108l49) (mkE 240225565480938577807985484469345695599948758954541043 v,[])) (fun e t'=>e= .exit 8∧ ∃ v',t'=(mkE 240225565480938577807985484469345695599948758954541043 v',[])∧v' 8= .box (zaM (zq1 p))∧Kept v v'):=by
 have hs:=SA.mono
 intro n
 induction n with
 | zero =>
  intro c v hc v18 v8
  have e:c=256:=by omega
  subst e
  rw [zaj hs a108l49.eq_1]
  simp [zad hs,zaa hs,zai hs,zab hs,zac hs,zt7,zt6,zt5,v18]
  exact ⟨_,rfl,by simp [v8,zvH],by simp,by simp,by simp,by simp,by simp⟩
 | succ n ih =>
  intro c v hc v18 v8
  have hc2:c<256:=by omega
  have hc3:c+1≤256:=by omega
  have hcI:(c:Int)<256:=by omega
  have hb:=zmy (turned p c) hc2
  have hwc:IntKind.i64.wrap ((c:Int)+1)=(c:Int)+1:=zal _ (by omega)
  have hset:=zh5 (turned p c) c (!turned p c c)
  rw [zsy p c] at hset
  have next: ∀ w:Nat→AV,w 18=num (c+1)→w 8= .box (zaM (turned p (c+1)))→Kept v w →
    Wp (evI fsT SA.sp bar (.loop a108l49) (mkE 240225565480938577807985484469345695599948758954541043 w,[])) (fun e t'=>e= .exit 8∧ ∃ v',t'=(mkE 240225565480938577807985484469345695599948758954541043 v',[])∧v' 8= .box (zaM (zq1 p))∧Kept v v'):=fun w w18 w8 wk=>by
   refine (ih (c+1) w (by omega) w18 w8).mono fun e q h=> ?_
   obtain ⟨r1,v',r2,r3,r5⟩:=h
   exact ⟨r1,v',r2,r3,wk.trans r5⟩
  rw [zaj hs a108l49.eq_1]
  simp [zad hs,zaa hs,zai hs,zab hs,zac hs,zt7,zt6,zt5,v18,v8,hc2,hc3,hcI,hb,hset,hwc,zaR]
  refine next _ ?_ ?_ ⟨?_,?_,?_,?_,?_⟩
  all_goals simp [hset]
end
section
theorem zdg {s:List UInt8} {i k:Nat} {a:UInt8} {t:List UInt8}:(s.drop i).take (k+1)=a::t↔s[i]? = some a∧(s.drop (i+1)).take k=t:=by
 by_cases h:i<s.length
 ·rw [List.drop_eq_getElem_cons h,List.getElem?_eq_getElem h,List.take_succ_cons,List.cons.injEq,Option.some.injEq]
 ·rw [List.drop_eq_nil_of_le (by omega),List.getElem?_eq_none (by omega)]
  simp
theorem zjr {s:List UInt8} {i:Nat} (a b:UInt8):comes s i [a,b]=decide (s[i]? = some a∧s[i+1]? = some b):=by
 have h:(s.drop i).take (1+1)= [a,b]↔s[i]? = some a∧s[i+1]? = some b:=by
  rw [zdg,show (1:Nat)=0+1 from rfl,zdg];simp
 exact decide_eq_decide.2 h
theorem ztu {s:List UInt8} {i:Nat} (a b c:UInt8):comes s i [a,b,c]=decide (s[i]? = some a∧s[i+1]? = some b∧s[i+2]? = some c):=by
 have h:(s.drop i).take (2+1)= [a,b,c]↔s[i]? = some a∧s[i+1]? = some b∧s[i+2]? = some c:=by
  rw [zdg,show (2:Nat)=1+1 from rfl,zdg,show (1:Nat)=0+1 from rfl,zdg];simp
 exact decide_eq_decide.2 h
def zsn (s:List UInt8) (ng:Bool) (x:PR (Nat→Bool)) (e:AExit) (t:EH):Prop :=
 match x with
 | .er _ w=>e= .ret∧ ∃ v',t=(mkE 240225565480938577807985484469345695599948758954541043 v',[])∧v' 4= .box (zbG noB)∧v' 5=num 0∧v' 6=num w
 | .ok p j=>e= .exit 0∧ ∃ v',t=(mkE 240225565480938577807985484469345695599948758954541043 v',[])∧v' 8= .box (zaM p)∧v' 1=num j∧v' 4= .box (zbG noB)∧v' 7= .bool ng
theorem zgY (s:List UInt8) (ng:Bool) (a w:Nat):zsn s ng (.er a w)=fun e t=>e= .ret∧ ∃ v',t=(mkE 240225565480938577807985484469345695599948758954541043 v',[])∧v' 4= .box (zbG noB)∧v' 5=num 0∧v' 6=num w:=rfl
theorem zxu (s:List UInt8) (ng:Bool) (p:Nat→Bool) (j:Nat):zsn s ng (.ok p j)=fun e t=>e= .exit 0∧ ∃ v',t=(mkE 240225565480938577807985484469345695599948758954541043 v',[])∧v' 8= .box (zaM p)∧v' 1=num j∧v' 4= .box (zbG noB)∧v' 7= .bool ng:=rfl
theorem zv5 {s:List UInt8} {j:Nat} (hj:j≤20000) (w:Nat→AV) (w0:w 0= .str s) (w15:w 15=num j) (Y:ACode) (Q:AExit→EH→Prop)
  (h:Wp (evI fsT SA.sp 0 (bif comes s j [45] && !comes s j [45,93] && !comes s j [45,91,58] then Y else .skip) (mkE 240225565480938577807985484469345695599948758954541043 (st (st w 151 (.bool (comes s j [45] && !comes s j [45,93] && !comes s j [45,91,58]))) 151 .undef),[])) Q) :
  Wp (evI fsT SA.sp 0 (.seq (.region ziV) (.cond true (.v 151) Y .skip)) (mkE 240225565480938577807985484469345695599948758954541043 w,[])) Q:=by
 have hs:=SA.mono
 have hat:=fun i=>zrB (bar:=0) (H:= []) s i
 have hat1:Rn fsT SA.sp 0 119 [.str s, .int .i64 ((j:Int)+1)] []=some (.ret (.int .i64 (atF s (j+1))),[]):=by
  rw [show (AV.int .i64 ((j:Int)+1))=num (j+1) by simp [num]];exact hat (j+1)
 have hat2:Rn fsT SA.sp 0 119 [.str s, .int .i64 ((j:Int)+2)] []=some (.ret (.int .i64 (atF s (j+2))),[]):=by
  rw [show (AV.int .i64 ((j:Int)+2))=num (j+2) by simp [num]];exact hat (j+2)
 have hw:IntKind.i64.wrap ((j:Int)+1)=(j:Int)+1:=zal _ (by omega)
 have hw2:IntKind.i64.wrap ((j:Int)+2)=(j:Int)+2:=zal _ (by omega)
 rw [zha,zjr,ztu] at h
 by_cases c1:s[j]? = some 45
 ·have f1:atF s j=45:=zaA c1
  by_cases c2:s[j+1]? = some 93
  ·have f2:atF s (j+1)=93:=zaA c2
   simp [c1,c2] at h
   simp [zad hs,zaa hs,zab hs,zac hs,ziV,w0,w15,hat,hat1,hat2,hw,hw2,f1,f2]
   exact h
  ·have f2:(atF s (j+1) != 93)=true:=(zcV 93 c2).2
   by_cases c3:s[j+1]? = some 91
   ·have f3:atF s (j+1)=91:=zaA c3
    by_cases c4:s[j+2]? = some 58
    ·have f4:atF s (j+2)=58:=zaA c4
     simp [c1,c3,c4] at h
     simp [zad hs,zaa hs,zab hs,zac hs,ziV,w0,w15,hat,hat1,hat2,hw,hw2,f1,f3,f4]
     exact h
    ·have f4:(atF s (j+2)==58)=false:=(zcV 58 c4).1
     simp [c1,c3,c4] at h
     simp [zad hs,zaa hs,zab hs,zac hs,ziV,w0,w15,hat,hat1,hat2,hw,hw2,f1,f3,f4]
     exact h
   ·have f3:(atF s (j+1)==91)=false:=(zcV 91 c3).1
    simp [c1,c2,c3] at h
    simp [zad hs,zaa hs,zab hs,zac hs,ziV,w0,w15,hat,hat1,hat2,hw,hw2,f1,f2,f3]
    exact h
 ·have f1:(atF s j==45)=false:=(zcV 45 c1).1
  simp [c1] at h
  simp [zad hs,zaa hs,zab hs,zac hs,ziV,w0,w15,hat,hat1,hat2,hw,hw2,f1]
  exact h
theorem zqQ {s:List UInt8} (hl:s.length≤10000) (ng:Bool): ∀ (n i:Nat) (first:Bool) (p:Nat→Bool) (v:Nat→AV),i≤s.length→s.length<n+i→v 0= .str s→v 1=num i→v 4= .box (zbG noB)→v 7= .bool ng→v 8= .box (zaM p)→v 9= .bool first →
  Wp (evI fsT SA.sp 0 (.loop a108l43) (mkE 240225565480938577807985484469345695599948758954541043 v,[])) (zsn s ng (zdk s n first p i)):=by
 have hs:=SA.mono
 intro n
 induction n with
 | zero=>intro i first p v h1 h2;omega
 | succ n ih =>
  intro i first p v h1 h2 v0 v1 v4 v7 v8 v9
  have hat:=fun i=>zrB (bar:=0) (H:= []) s i
  have hat1: ∀ j:Nat,Rn fsT SA.sp 0 119 [.str s, .int .i64 ((j:Int)+1)] []=some (.ret (.int .i64 (atF s (j+1))),[]):=fun j=>by
   rw [show (AV.int .i64 ((j:Int)+1))=num (j+1) by simp [num]];exact hat (j+1)
  have hat2: ∀ j:Nat,Rn fsT SA.sp 0 119 [.str s, .int .i64 ((j:Int)+2)] []=some (.ret (.int .i64 (atF s (j+2))),[]):=fun j=>by
   rw [show (AV.int .i64 ((j:Int)+2))=num (j+2) by simp [num]];exact hat (j+2)
  have hw: ∀ j:Nat,j≤20000→IntKind.i64.wrap ((j:Int)+1)=(j:Int)+1:=fun j h=>zal _ (by omega)
  have hw2: ∀ j:Nat,j≤20000→IntKind.i64.wrap ((j:Int)+2)=(j:Int)+2:=fun j h=>zal _ (by omega)
  have hiw:=hw i (by omega)
  have hiw2:=hw2 i (by omega)
  rw [zaj hs a108l43.eq_1]
  by_cases hend:first=false∧comes s i [93]=true
  ·obtain ⟨rfl,he⟩:=hend
   have e1:zdk s (n+1) false p i= .ok p i:=by simp [zdk,he]
   rw [zha] at he
   have h93:atF s i=93:=zaA (by simpa using he)
   rw [e1,zxu]
   simp [zad hs,zaa hs,zab hs,zac hs,zsm,v0,v1,v9,hat,h93]
   exact ⟨_,rfl,by simp [v8],by simp [v1],by simp [v4],by simp [v7]⟩
  ·have e0:zdk s (n+1) first p i=match zcp s i with
     | .er a w=> .er a w
     | .ok q j=>zdk s n false (orB p q) j:=by
    rw [zdk,if_neg (by simpa using hend)]
    cases zcp s i<;>rfl
   have hp:=ziu (s:=s) i
   rw [e0]
   -- the round's test
   have test: ∀ (X:ACode) (Q:AExit→EH→Prop),Wp (evI fsT SA.sp 0 X (mkE 240225565480938577807985484469345695599948758954541043 (st (st v 50 (.bool true)) 50 .undef),[])) Q →
     Wp (evI fsT SA.sp 0 (.seq (.seq (.region zsm) (.cond true (.v 50) .skip (.exit 0))) X) (mkE 240225565480938577807985484469345695599948758954541043 v,[])) Q:=fun X Q h=>by
    cases first with
    | true =>
     simp [zad hs,zaa hs,zab hs,zac hs,zsm,v0,v1,v9,hat]
     exact h
    | false =>
     have he: ¬ s[i]? = some 93:=by
      have: ¬ comes s i [93]=true:=fun e=>hend ⟨rfl,e⟩
      rw [zha] at this
      simpa using this
     have h93:(atF s i != 93)=true:=(zcV 93 he).2
     have h93':(atF s i==93)=false:=(zcV 93 he).1
     simp [zad hs,zaa hs,zab hs,zac hs,zsm,v0,v1,v9,hat,h93]
     exact h
   refine test _ _ ?_
   have k0:(st (st v 50 (.bool true)) 50 .undef) 0= .str s:=by simp [v0]
   have k1:(st (st v 50 (.bool true)) 50 .undef) 1=num i:=by simp [v1]
   have k4:(st (st v 50 (.bool true)) 50 .undef) 4= .box (zbG noB):=by simp [v4]
   have k7:(st (st v 50 (.bool true)) 50 .undef) 7= .bool ng:=by simp [v7]
   have k8:(st (st v 50 (.bool true)) 50 .undef) 8= .box (zaM p):=by simp [v8]
   generalize st (st v 50 (.bool true)) 50 .undef=u at k0 k1 k4 k7 k8 ⊢
   clear v0 v1 v4 v7 v8 v9 test
   by_cases hcl:comes s i [91,58]=true
   · -- a class
    have hlen:=zhb hcl (by simp)
    simp only [List.length_cons,List.length_nil] at hlen
    rw [zjr] at hcl
    have hcl':=of_decide_eq_true hcl
    have h91:atF s i=91:=zaA hcl'.1
    have h58:atF s (i+1)=58:=zaA hcl'.2
    rw [←zjr] at hcl
    simp [zad hs,zaa hs,zab hs,zac hs,znp,zAo,k0,k1,hat,hat1,hiw,hiw2,h91,h58]
    refine (zwC hl (s.length-(i+2)) (i+2) _ (by omega) (by omega) ?_ ?_).mono fun e t h=> ?_
    ·simp [k0]
    ·simp
    obtain ⟨rfl,u1,rfl,r10,r8,rk⟩:=h
    obtain ⟨m0,m1,m4,m7,m9⟩:=rk
    simp at r8 m0 m1 m4 m7 m9
    rw [k0] at m0;rw [k1] at m1;rw [k4] at m4;rw [k7] at m7;rw [k8] at r8
    cases hcf:zdo (s.drop (i+2)) with
    | none =>
     have e2:zcp s i= .er 0 3:=by simp [zcp,hcl,hcf]
     have e3:zdM s (i+2)=s.length:=by simp [zdM,hcf]
     rw [e3] at r10
     rw [e2]
     simp only [zgY]
     simp [zad hs,zaa hs,zab hs,zac hs,zul,zuk,r10,m0,m1,m4,zbn]
     exact ⟨_,rfl,by simp;rfl,by simp,by simp⟩
    | some k =>
     have hpl:=zel hcf
     simp only [List.length_drop] at hpl
     have e3:zdM s (i+2)=i+2+k:=by simp [zdM,hcf]
     rw [e3] at r10
     have hnk:i+2+k-(i+2)=k:=by omega
     have hge: ¬ s.length≤i+2+k:=by omega
     have hgeI: ¬ (s.length:Int)≤(i:Int)+2+(k:Int):=by omega
     have hwk:IntKind.i64.wrap ((i:Int)+2+(k:Int)+2)=(i:Int)+2+(k:Int)+2:=zal _ (by omega)
     simp [zad hs,zaa hs,zab hs,zac hs,zul,zuk,zAn,r10,m0,m1,m4,hgeI]
     by_cases hr:zaD ((s.drop (i+2)).take k)= []
     ·have e2:zcp s i= .er 0 40:=by simp [zcp,hcl,hcf,hr]
      rw [e2]
      simp only [zgY]
      refine (zB0 (i:=i) (t:=i+2+k) (by omega) (by omega) hl (by rw [hnk];exact hr) _ ?_ ?_ ?_ ?_ ?_).mono fun e t h=> ?_
      ·simp [m0]
      ·simp [m1]
      ·simp [r10]
      ·simp
      ·simp [m4]
      obtain ⟨rfl,u2,rfl,q4,q5,q6⟩:=h
      simp
      exact ⟨_,rfl,q4,q5,q6⟩
     ·have e2:zcp s i= .ok (zaf (zaD ((s.drop (i+2)).take k))) (i+k+4):=by simp [zcp,hcl,hcf,hr]
      rw [e2] at hp ⊢
      simp only
      simp only [PR.sat] at hp
      refine (zwE (i:=i) (t:=i+2+k) (by omega) (by omega) hl (by rw [hnk];exact hr) p 256 0 _ (by omega) ?_ ?_ ?_ ?_ ?_).mono fun e t h=> ?_
      ·simp [m0]
      ·simp [m1]
      ·simp [r10]
      ·simp
      ·rw [zw3];simp [r8]
      obtain ⟨rfl,u2,rfl,q8,q10,q0,q1,q4,q7,q9⟩:=h
      rw [hnk] at q8
      simp at q0 q1 q4 q7 q9
      rw [m0] at q0;rw [m1] at q1;rw [m4] at q4;rw [m7] at q7
      have ej:num (i+k+4)= .int .i64 ((i:Int)+2+(k:Int)+2):=by simp [num];omega
      simp [zad hs,zaa hs,zab hs,zac hs,zAl,zqp,q10,q1,hwk]
      refine ih (i+k+4) false _ _ (by omega) (by omega) ?_ ?_ ?_ ?_ ?_ ?_
      ·simp [q0]
      ·simp [ej]
      ·simp [q4]
      ·simp [q7]
      ·simp [q8]
      ·simp
   ·have hcl0:comes s i [91,58]=false:=by simpa using hcl
    -- no class
    have skip10: ∀ (Y:ACode) (Q:AExit→EH→Prop),Wp (evI fsT SA.sp 0 .skip (mkE 240225565480938577807985484469345695599948758954541043 (st (st u 61 (.bool false)) 61 .undef),[])) Q →
      Wp (evI fsT SA.sp 0 (.seq (.region znp) (.cond true (.v 61) Y .skip)) (mkE 240225565480938577807985484469345695599948758954541043 u,[])) Q:=fun Y Q h=>by
     rw [zjr] at hcl0
     by_cases c1:s[i]? = some 91
     ·have f1:atF s i=91:=zaA c1
      have c2: ¬ s[i+1]? = some 58:=fun e=>by simp [c1,e] at hcl0
      have f2:(atF s (i+1)==58)=false:=(zcV 58 c2).1
      simp [zad hs,zaa hs,zab hs,zac hs,znp,k0,k1,hat,hat1,hiw,f1,f2]
      simpa using h
     ·have f1:(atF s i==91)=false:=(zcV 91 c1).1
      simp [zad hs,zaa hs,zab hs,zac hs,znp,k0,k1,hat,hat1,hiw,f1]
      simpa using h
    have hone:=fun j (h:j≤100000)=>zBv (bar:=0) (H:= []) s h
    rw [zad hs,zab hs,zad hs]
    refine skip10 _ _ ?_
    have j0:(st (st u 61 (.bool false)) 61 .undef) 0= .str s:=by simp [k0]
    have j1:(st (st u 61 (.bool false)) 61 .undef) 1=num i:=by simp [k1]
    have j4:(st (st u 61 (.bool false)) 61 .undef) 4= .box (zbG noB):=by simp [k4]
    have j7:(st (st u 61 (.bool false)) 61 .undef) 7= .bool ng:=by simp [k7]
    have j8:(st (st u 61 (.bool false)) 61 .undef) 8= .box (zaM p):=by simp [k8]
    generalize st (st u 61 (.bool false)) 61 .undef=w at j0 j1 j4 j7 j8 ⊢
    clear k0 k1 k4 k7 k8 skip10
    cases hsg:zbi s i with
    | none =>
     obtain ⟨X,e1⟩: ∃ X,zn1 s i= .tup [.int .i64 (-1),num X]:=⟨match s[i]? with | some _=>i+2 | none=>i+1,by unfold zn1;rw [hsg]<;>rfl⟩
     have h1:=hone i (by omega)
     rw [e1] at h1
     have e2:zcp s i= .er 0 3:=by simp [zcp,hcl0,hsg]
     rw [e2]
     simp only [zgY]
     simp [zad hs,zaa hs,zab hs,zac hs,zuj,zui,zuh,j0,j1,j4,h1,zbn]
     exact ⟨_,rfl,by simp;rfl,by simp,by simp⟩
    | some q =>
     obtain ⟨a,j⟩:=q
     have hjp:=zew hsg
     have h1:=hone i (by omega)
     have e1:zn1 s i= .tup [.int .i64 a.toNat,num j]:=by simp [zn1,hsg]
     rw [e1] at h1
     have ha0: ¬ (a.toNat:Int)<0:=by omega
     have haw:IntKind.i64.wrap (a.toNat:Int)=(a.toNat:Int):=zal _ (by have:=a.toNat_lt;omega)
     simp [zad hs,zaa hs,zab hs,zac hs,zuj,zui,zuh,zAk,j0,j1,h1,ha0]
     have w0:(st (st (st (st (st w 14 (.int .i64 a.toNat)) 15 (num j)) 123 (.bool false)) 123 .undef) 16 (.int .i64 a.toNat)) 0= .str s:=by simp [j0]
     have w1:(st (st (st (st (st w 14 (.int .i64 a.toNat)) 15 (num j)) 123 (.bool false)) 123 .undef) 16 (.int .i64 a.toNat)) 1=num i:=by simp [j1]
     have w4:(st (st (st (st (st w 14 (.int .i64 a.toNat)) 15 (num j)) 123 (.bool false)) 123 .undef) 16 (.int .i64 a.toNat)) 4= .box (zbG noB):=by simp [j4]
     have w7:(st (st (st (st (st w 14 (.int .i64 a.toNat)) 15 (num j)) 123 (.bool false)) 123 .undef) 16 (.int .i64 a.toNat)) 7= .bool ng:=by simp [j7]
     have w8:(st (st (st (st (st w 14 (.int .i64 a.toNat)) 15 (num j)) 123 (.bool false)) 123 .undef) 16 (.int .i64 a.toNat)) 8= .box (zaM p):=by simp [j8]
     have w14:(st (st (st (st (st w 14 (.int .i64 a.toNat)) 15 (num j)) 123 (.bool false)) 123 .undef) 16 (.int .i64 a.toNat)) 14=num a.toNat:=by simp
     have w15:(st (st (st (st (st w 14 (.int .i64 a.toNat)) 15 (num j)) 123 (.bool false)) 123 .undef) 16 (.int .i64 a.toNat)) 15=num j:=by simp
     have w16:(st (st (st (st (st w 14 (.int .i64 a.toNat)) 15 (num j)) 123 (.bool false)) 123 .undef) 16 (.int .i64 a.toNat)) 16=num a.toNat:=by simp
     generalize st (st (st (st (st w 14 (.int .i64 a.toNat)) 15 (num j)) 123 (.bool false)) 123 .undef) 16 (.int .i64 a.toNat)=x at w0 w1 w4 w7 w8 w14 w15 w16 ⊢
     clear j0 j1 j4 j7 j8
     have T:=fun Y Q h=>zv5 (s:=s) (j:=j) (by omega) x w0 w15 Y Q h
     simp only [zad hs,zaa hs] at T
     refine T _ _ ?_
     clear T
     -- behind the range's bytes
     have fin2: ∀ (b:UInt8) (k:Nat) (y:Nat→AV),zcp s i= .ok (zak a b) k→a.toNat≤b.toNat→y 0= .str s→y 4= .box (zbG noB)→y 7= .bool ng→y 8= .box (zaM p)→y 14=num a.toNat→y 15=num k→y 16=num b.toNat →
       Wp (evI fsT SA.sp 0 (.seq (.seq (.region zuf) (.block 6 (.loop a108l40))) (.region zt8)) (mkE 240225565480938577807985484469345695599948758954541043 y,[])) (zlh 1 (andThen (evI fsT SA.sp 0 (.region zqp)) (andThen (evI fsT SA.sp 0 (.loop a108l43)) (zsn s ng (zdk s n false (orB p (zak a b)) k))))):=fun b k y hit hab y0 y4 y7 y8 y14 y15 y16=>by
      rw [hit] at hp
      simp only [PR.sat] at hp
      simp [zad hs,zaa hs,zab hs,zac hs,zuf,y14]
      refine (zv6 (bar:=0) p a b (b.toNat+1-a.toNat) a.toNat _ (by omega) (Nat.le_refl _) ?_ ?_ ?_).mono fun e t h=> ?_
      ·simp [y16]
      ·simp
      ·rw [zto];simp [y8]
      obtain ⟨rfl,u2,rfl,q8,q15,q0,q1,q4,q7,q9⟩:=h
      simp at q15 q0 q4 q7
      rw [y15] at q15;rw [y0] at q0;rw [y4] at q4;rw [y7] at q7
      simp [zad hs,zaa hs,zab hs,zac hs,zt8,zqp,q15]
      refine ih k false _ _ (by omega) (by omega) ?_ ?_ ?_ ?_ ?_ ?_
      ·simp [q0]
      ·simp
      ·simp [q4]
      ·simp [q7]
      ·simp [q8]
      ·simp
     cases hcond:(comes s j [45] && !comes s j [45,93] && !comes s j [45,91,58]) with
     | false =>
      have e2:zcp s i= .ok (zak a a) j:=by
       simp only [zcp,hcl0,hsg,Bool.false_eq_true,if_false]
       rw [if_neg (fun h=>by simp [h.1,h.2.1,h.2.2] at hcond)]
      have F:=fin2 a j (st (st x 151 (.bool false)) 151 .undef) e2 (Nat.le_refl _) (by simp [w0]) (by simp [w4]) (by simp [w7]) (by simp [w8]) (by simp [w14]) (by simp [w15]) (by simp [w16])
      rw [e2]
      simpa using F
     | true =>
      simp only [Bool.and_eq_true,Bool.not_eq_true'] at hcond
      obtain ⟨⟨d1,d2⟩,d3⟩:=hcond
      have hone1:Rn fsT SA.sp 0 121 [.str s, .int .i64 ((j:Int)+1)] []=some (.ret (zn1 s (j+1)),[]):=by
       rw [show (AV.int .i64 ((j:Int)+1))=num (j+1) by simp [num]];exact hone (j+1) (by omega)
      have hjw:=hw j (by omega)
      have hi0:zcp s i=match zbi s (j+1) with
        | none=> .er 0 3
        | some (b,k)=>if b<a then .er 0 4 else .ok (zak a b) k:=by
       simp only [zcp,hcl0,hsg,Bool.false_eq_true,if_false]
       rw [if_pos ⟨d1,by simp [d2],by simp [d3]⟩]
       rfl
      cases hsg2:zbi s (j+1) with
      | none =>
       obtain ⟨X,e1⟩: ∃ X,zn1 s (j+1)= .tup [.int .i64 (-1),num X]:=⟨match s[j+1]? with | some _=>j+1+2 | none=>j+1+1,by unfold zn1;rw [hsg2]<;>rfl⟩
       rw [e1] at hone1
       rw [hsg2] at hi0
       rw [hi0]
       simp only [zgY,cond_true]
       simp [zad hs,zaa hs,zab hs,zac hs,zqs,zqr,zqq,w0,w15,w4,hone1,hjw,zbn]
       exact ⟨_,rfl,by simp;rfl,by simp,by simp⟩
      | some q =>
       obtain ⟨b,k⟩:=q
       have e1:zn1 s (j+1)= .tup [.int .i64 b.toNat,num k]:=by simp [zn1,hsg2]
       rw [e1] at hone1
       rw [hsg2] at hi0
       simp only at hi0
       have hb0: ¬ (b.toNat:Int)<0:=by omega
       by_cases hba:b<a
       ·have hba':(b.toNat:Int)<(a.toNat:Int):=by rw [UInt8.lt_iff_toNat_lt] at hba;omega
        rw [if_pos hba] at hi0
        rw [hi0]
        simp only [zgY,cond_true]
        simp [zad hs,zaa hs,zab hs,zac hs,zqs,zqr,zqq,zug,zAi,w0,w14,w15,w4,hone1,hjw,zbn,hb0,hba']
        exact ⟨_,rfl,by simp;rfl,by simp,by simp⟩
       ·have hba': ¬ (b.toNat:Int)<(a.toNat:Int):=by rw [UInt8.lt_iff_toNat_lt] at hba;omega
        have hbaN:a.toNat≤b.toNat:=by omega
        rw [if_neg hba] at hi0
        simp only [cond_true]
        have F:=fun y=>fin2 b k y hi0 hbaN
        simp only [zad hs,zaa hs] at F
        rw [hi0]
        simp only [zad hs,zaa hs,zac hs]
        simp [zqs,zqr,zqq,zug,zad hs,zaa hs,zac hs,w0,w14,w15,hone1,hjw,hb0,hba']
        refine F _ ?_ ?_ ?_ ?_ ?_ ?_ ?_
        all_goals simp [w0,w4,w7,w8,w14]
end
section
theorem zsS {bar:Nat} {H:Heap} {s:List UInt8} {i:Nat} (hl:s.length≤10000) (h:s[i]? = some 91):Rn fsT SA.sp bar 108 [.str s,num i] H=some (.ret (zcK (zjt s i)),H):=by
 have hs:=SA.mono
 have hlt:=(List.getElem?_eq_some_iff.1 h).1
 have hat:=fun i=>zrB (bar:=0) (H:= []) s i
 have hat1:Rn fsT SA.sp 0 119 [.str s, .int .i64 ((i:Int)+1)] []=some (.ret (.int .i64 (atF s (i+1))),[]):=by
  rw [show (AV.int .i64 ((i:Int)+1))=num (i+1) by simp [num]];exact hat (i+1)
 have hw:IntKind.i64.wrap ((i:Int)+1)=(i:Int)+1:=zal _ (by omega)
 have hw2:IntKind.i64.wrap ((i:Int)+1+1)=(i:Int)+1+1:=zal _ (by omega)
 have h0: ¬ (i:Int)<0:=by omega
 have h1: ¬ s.length≤i:=by omega
 have h1I: ¬ (s.length:Int)≤(i:Int):=by omega
 have hno:=zrz
 have h4: ∀ p,List.take 4 (zbG p)=zbG p:=fun p=>rfl
 have hz:([.int .u64 0, .int .u64 0, .int .u64 0, .int .u64 0]:List AV)=zbG noB:=rfl
 have c2: ∀ p q:Nat→Bool,setCells (zbG p) 0 (zbG q)=zbG q:=fun p q=>rfl
 have hset:=fun p=>zAH (bar:=0) (H:= []) p
 unfold ze4 at hset
 have frzC: ∀ (p:Nat→Bool) H,zbd 0 H (zbG p)=some (zbG p):=fun p H=>by simp [zgW,frz,zbd]
 have after: ∀ (x:PR (Nat→Bool)) (ng:Bool) (e:AExit) (t:EH),(∀ p j,x= .ok p j→j≤s.length)→zsn s ng x e t →
   zlh 0 (andThen (evI fsT SA.sp 0 (.seq (.seq (.region zqo) (.cond true (.v 175) (.seq (.region zqn) (.block 8 (.loop a108l49))) .skip)) (.seq (.region zqm) .ret))) (fin [.cell 4 (some 4), .tmp 5, .tmp 6] (thaw 0 (· = .ret (zcK (match x with | .er a w=> .er a w | .ok p j=> .ok (bif ng then zq1 p else p) (j+1))))))) e t:=by
  intro x ng e t hj h
  cases x with
  | er a w =>
   obtain ⟨rfl,v',rfl,k4,k5,k6⟩:=h
   simp [k4,k5,k6,zbn,h4,zcK,ze4,frz,zbd,frzC]
  | ok p j =>
   obtain ⟨rfl,v',rfl,k8,k1,k4,k7⟩:=h
   have hj:=hj p j rfl
   have hwj:IntKind.i64.wrap ((j:Int)+1)=(j:Int)+1:=zal _ (by omega)
   cases ng with
   | true =>
    simp [zad hs,zaa hs,zab hs,zac hs,zqo,zqn,k7]
    refine (zBB p 256 0 _ (by omega) ?_ ?_).mono fun e t h=> ?_
    ·simp
    ·rw [zsx];simp [k8]
    obtain ⟨rfl,u,rfl,q8,q0,q1,q4,q7,q9⟩:=h
    simp at q1 q4
    rw [k1] at q1;rw [k4] at q4
    simp [zad hs,zaa hs,zab hs,zac hs,zqm,q1,q4,q8,hset,hwj,zaR,zeO,zbn,h4,c2,zcK,ze4,frz,zbd,frzC]
   | false =>
    simp [zad hs,zaa hs,zab hs,zac hs,zqo,zqn,zqm,k7,k1,k4,k8,hset,hwj,zaR,zeO,zbn,h4,c2,zcK,ze4,frz,zbd,frzC]
 refine zao hs zF4 rfl rfl rfl ?_
 rw [zJi]
 have hit:=fun first p i h1 h2=>ze7 (s:=s) (s.length+1) first p i h1 h2
 have e1:((i:Int)+1)=((i+1:Nat):Int):=by simp
 unfold zjt
 rw [zha]
 by_cases hcc:s[i+1]? = some 94
 ·have f1:atF s (i+1)=94:=zaA hcc
  have hlen:=(List.getElem?_eq_some_iff.1 hcc).1
  simp only [hcc,decide_true,cond_true]
  simp [-List.reduceReplicate,hno,zaR,zeO,zkF,a108,zAq,zAp,zAm,zAj,zAh,zAg,zAf,zAe,zAd,zad hs,zaa hs,zai hs,zab hs,zac hs,h0,h1,h1I,h,hat,hat1,hw,hw2,f1]
  refine (zqQ hl true (s.length+1) (i+2) true noB _ (by omega) (by omega) ?_ ?_ ?_ ?_ ?_ ?_).mono fun e t h=> ?_
  ·simp
  ·simp;omega
  ·simp;rfl
  ·simp
  ·simp [-List.reduceReplicate]
  ·simp
  ·have hq:=hit true noB (i+2) (by omega) (by omega)
   refine after _ true e t (fun p j e=> ?_) h
   rw [e] at hq;simp only [PR.sat] at hq;omega
 ·have f1:(atF s (i+1)==94)=false:=(zcV 94 hcc).1
  have e94:decide (s[i+1]? = some 94)=false:=by simp [hcc]
  simp only [e94,cond_false]
  simp [-List.reduceReplicate,hno,zaR,zeO,zkF,a108,zAq,zAp,zAm,zAj,zAh,zAg,zAf,zAe,zAd,zad hs,zaa hs,zai hs,zab hs,zac hs,h0,h1,h1I,h,hat,hat1,hw,hw2,f1]
  refine (zqQ hl false (s.length+1) (i+1) true noB _ (by omega) (by omega) ?_ ?_ ?_ ?_ ?_ ?_).mono fun e t h=> ?_
  ·simp
  ·simp
  ·simp;rfl
  ·simp
  ·simp [-List.reduceReplicate]
  ·simp
  ·have hq:=hit true noB (i+1) (by omega) (by omega)
   refine after _ false e t (fun p j e=> ?_) h
   rw [e] at hq;simp only [PR.sat] at hq;omega
end
end Go.Ak
