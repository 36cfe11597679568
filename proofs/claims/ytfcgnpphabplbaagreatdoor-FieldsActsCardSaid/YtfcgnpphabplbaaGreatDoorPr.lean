/- Acts on fields, in the program and in the document, and that the law answers true. -/
import Derived.Test.YtfcgnpphabplbaaGreatDoorPq
import Derived.Test.YtfcgnpphabplbaaGreatDoorPp
import Derived.Test.YtfcgnpphabplbaaGreatDoorPk
set_option linter.unusedVariables false
set_option linter.unusedSimpArgs false
namespace Go.Ak
attribute [local simp] Av EA EC EB mM zK wH Cy CB Cz BP BM BN Ac Cs Cq Cr Bz BA
 jP kr wanted cB dZ l8 live BR zU Aj Bw xN put vZ esc sS yn args drop1 jv xV xU yj qX rd wr kW sub AV.cells pack one setCells nJ qI qJ roOf gT qF jI jy mf eY newRow newObj step Ce Cf qR take cz bB lim mG bound uh ww uu nO yf fO
 Cm Ck Ch Ci Cj
 pY ru Ap rR BZ Ca BX
attribute [local simp] sR sT cV bL kA kB kC af aQ aJ gK ah aC dC aA eQ iY fI bH eO bD bN gQ rU bI rF aL dI eZ fK gp lX bW iQ df cO jc dP dM gm mJ fH gH iq iR lc ku fB jX iH iI
attribute [-simp] getElem?_pos
section
theorem zc0{H:aj}{p:Nat}{T:List UInt8}{L:List (List UInt8)}{A:AV}(h:Rc H p T L A){s fs:List UInt8}(hl:s.length<=900):
  ∃A',BH (iL s fs).1 A'∧Rn ak SA.sp 0 174 [.ptr p 0,.str s,.str fs] H=some (.ret (ag (zW s fs)),if zW s fs=0 then H.set p (some [.str s,A'])else H):=by
 obtain⟨hp,hA⟩:=h;obtain⟨A',hA',dQ⟩:=zlP (s:=s) (bU:=fs) hl;have dQ:=dQ 0;have dK:=fA hp;refine⟨A',hA',l5.1 (jl rfl rfl rfl ?_)⟩;rw[zpo];unfold zW;have iV:∀X,X=aV (iL s fs).1->X.length=(iL s fs).1.length:=fun X e=>by rw[e,jo]
 have cK:=fun x=>dB (H:=H) (i:=p) x dK;have hss:∀x y:Option (List AV),(H.set p x).set p y=H.set p y:=fun x y=>iP ..;generalize(iL s fs).2.1=q at *;generalize(iL s fs).2.2=e at *;by_cases h1:e=0
 ·subst h1;by_cases h2:100<(iL s fs).1.length
  ·have h2I:(100:Int)<((iL s fs).1.length:Int):=by omega
   rcases hA' with rfl|⟨hn,rfl⟩
   ·have hX:=iV _ rfl;generalize aV (iL s fs).1=X at *;simp[au,a174,KL,KJ,KI,KH,KG,KF,KE,KD,dQ,hX,h2,h2I]
   ·rw[hn]at h2;simp at h2
  ·have h2I:¬(100:Int)<((iL s fs).1.length:Int):=by omega
   rcases hA' with rfl|⟨hn,rfl⟩
   ·have hX:=iV _ rfl;generalize aV (iL s fs).1=X at *;simp[au,a174,KL,KJ,KI,KH,KG,KF,KE,KD,dQ,hX,h2,h2I,hp,cK,hss]
   ·simp[au,a174,KL,KJ,KI,KH,KG,KF,KE,KD,dQ,hn,hp,cK,hss]
 ·have h1I:((e:Int) != 0)=true:=by simp[bne];omega
  rcases hA' with rfl|⟨hn,rfl⟩
  ·generalize aV (iL s fs).1=X at *;simp[au,a174,KL,KJ,KI,KH,KG,KF,KE,KD,dQ,h1,h1I]
  ·simp[au,a174,KL,KJ,KI,KH,KG,KF,KE,KD,dQ,h1,h1I]
theorem zc4{ae:Nat}{H:aj}{p:Nat}{T:List UInt8}{L:List (List UInt8)}{A:AV}(h:Rc H p T L A)(hT:T.length<=100000)(hL:∀x∈L,x.length<=100000)(hn:L.length<=1000)(i:Int):
  Rn ak SA.sp ae 179 [.ptr p 0,.int .i64 i] H=some (.ret (.tup [(Fg T L i).1,ag (Fg T L i).2]),H):=by
 obtain⟨hp,hA⟩:=h;refine xS rfl rfl rfl rfl ?_;rw[zpn];unfold Fg;by_cases h0:i<0
 ·rw[aS (.inl h0)];simp[au,a179,FK,FJ,FI,FH,FE,FD,FC,FB,Af,h0,aN,bg]
 by_cases h1:100<i
 ·rw[aS (.inr h1)];simp[au,a179,FK,FJ,FI,FH,FE,FD,FC,FB,Af,h0,h1,aN,bg]
 rw[aF (by omega)];by_cases h2:i=0
 ·subst h2;have hi:=fun H ae=>zc3 (ae:=ae) (H:=H) hT;obtain⟨k,m,hc⟩:=GV T;rw[hc]at hi;rw[aS rfl,hc];rcases hA with rfl|⟨rfl,rfl⟩
  ·generalize aV L=X at *;simp[au,a179,FK,FJ,FI,FH,FE,FD,FC,FB,hp,hi,aN,bg]
  ·simp[au,a179,FK,FJ,FI,FH,FE,FD,FC,FB,hp,hi,aN,bg]
 rw[aF h2];have h2b:(i==0)=false:=by simpa using h2
 obtain⟨n,rfl⟩:∃n:Nat,i=(n:Int)+1:=⟨(i-1).toNat,by omega⟩
 have ht:((n:Int)+1).toNat-1=n:=by omega
 rw[ht];have hw:IntKind.i64.wrap (n:Int)=(n:Int):=aM _ (by omega);cases hx:L[n]? with
 |none=>
  have bq:=rq.1 hx;have hI:(L.length:Int)<(n:Int)+1:=by omega
  rcases hA with rfl|⟨rfl,rfl⟩
  ·have hXl:=jo L;generalize aV L=X at *;simp[au,a179,FK,FJ,FI,FH,FE,FD,FC,FB,Af,hp,h0,h1,h2b,hXl,hI,aN,bg]
  ·have hI:(0:Int)<(n:Int)+1:=by omega
   simp[au,a179,FK,FJ,FI,FH,FE,FD,FC,FB,Af,hp,h0,h1,h2b,hI,aN,bg]
 |some x=>
  have aB:=(eD.1 hx).1;have hI:¬(L.length:Int)<(n:Int)+1:=by omega
  have hi:=fun H ae=>zc3 (ae:=ae) (H:=H) (hL x (jm hx));obtain⟨k,m,hc⟩:=GV x;rw[hc]at hi;simp only[hc];rcases hA with rfl|⟨rfl,rfl⟩
  ·have hXl:=jo L;have hg:=Gm hx;generalize aV L=X at *;simp[au,a179,FK,FJ,FI,FH,FE,FD,FC,FB,hp,h0,h1,h2b,hXl,hI,hw,hg,hi,aN,bg]
  ·cases hx
theorem zkT{H:aj}{L:List (List UInt8)}{bU:List UInt8}(hl:L.length<=1000)(hL:∀x∈L,x.length<=1000000)(hsep:bU.length<=1000000):∀(m i:Nat)(v:Nat->AV),i+m=L.length->v 1=.slc .ro (aV L)->v 2=.str bU->v 7=ag (Lib.join (L.take i) bU).length->v 8=ag i->
  Wp (aP ak SA.sp 0 (.loop a186l8) (az 536940999 v,H)) (fun e t=>e=.exit 0∧∃v',t=(az 536940999 v',H)∧v' 0=v 0∧v' 1=.slc .ro (aV L)∧v' 2=.str bU∧v' 7=ag (Lib.join L bU).length):=by
 intro m;induction m with
 |zero=>
  intro i v hi v1 v2 v7 v8;have aK:i=L.length:=by omega
  subst aK;rw[List.take_length]at v7;have hXl:=jo L;generalize aV L=X at *;rw[bu a186l8.eq_1];simp[au,Uw,Uv,Uu,Ut,Us,v1,v8,hXl];exact⟨_,rfl,by simp,by simp[v1],by simp[v2],by simp[v7]⟩
 |succ m ih=>
  intro i v hi v1 v2 v7 v8;have fe:i<L.length:=by omega
  have hI:(i:Int)<(L.length:Int):=by omega
  obtain⟨x,hx⟩:∃x,L[i]?=some x:=⟨_,gG fe⟩
  have hg:=Gm hx;have bV:L.take (i+1)=L.take i ++[x]:=by rw[LH,hx];rfl
  have aT:IntKind.i64.wrap ((i:Int)+1)=((i+1:Nat):Int):=aM _ (by omega);have hb1:=Q8 hsep (zbX (i:=i) hL);have jG:=hL x (jm hx);have hti:(L.take i).length<=1000:=by simp;omega
  have hb3:(Lib.join (L.take i) bU).length<=1000*2000000:=fT hb1 (zN hti (aX _));have Am:=zdP (L.take i) x bU;rw[←bV]at Am;have next:=fun w=>ih (i+1) w (by omega)
  rw[Am]at next
  have hXl:=jo L;generalize aV L=X at *;have hiX:i<X.length:=by omega
  rw[bu a186l8.eq_1];by_cases h0:i=0
  ·subst h0;have hw01:IntKind.i64.wrap 1=1:=rfl;have hw02:IntKind.i64.wrap (x.length:Int)=(x.length:Int):=aM _ (by omega);rw[xD,Lib.join_nil]at v7;rw[aS (by simp)]at next
   simp[au,Uw,Uv,Uu,Ut,Us,v1,v2,v7,v8,hXl,fe,hg,hw01,hw02];refine(next _ ?_ ?_ ?_ ?_).mono fun e t h=>by simpa using h
   all_goals simp[v1,v2]
  ·have gJ:(0:Int)<(i:Int):=by omega
   have hgt2:0<i:=by omega
   have aR:¬L.take i=[]:=fun e=>by
    have h2:=dF List.length e;rw[Bq,gW]at h2;omega
   rw[aF aR,iF,iF]at next
   generalize(Lib.join (L.take i) bU).length=J at *;have hwa:IntKind.i64.wrap ((J:Int)+(bU.length:Int))=(J:Int)+(bU.length:Int):=aM _ (by omega);have hwb:IntKind.i64.wrap ((J:Int)+(bU.length:Int)+(x.length:Int))=(J:Int)+(bU.length:Int)+(x.length:Int):=aM _ (by omega);simp[au,Uw,Uv,Uu,Ut,Us,v1,v2,v7,v8,hXl,hI,fe,gJ,hgt2,hg,hwa,hwb,aT];refine(next _ ?_ ?_ ?_ ?_).mono fun e t h=>by simpa using h
   all_goals simp[v1,v2]
theorem zcL{H:aj}{p:Nat}{T:List UInt8}{L:List (List UInt8)}{A:AV}(h:Rc H p T L A){l:List (List UInt8)}{t:List UInt8}(h1:l.length<=1000)(h2:∀x∈l,x.length<=1000000)(h3:t.length<=1000000):
  Rn ak SA.sp 0 186 [.ptr p 0,.slc .ro (aV l),.str t] H=some (.ret (ag (if 65536<(Lib.join l t).length then 2 else 0)),if 65536<(Lib.join l t).length then H else H.set p (some [.str (Lib.join l t),.slc .ro (aV l)])):=by
 obtain⟨hp,hA⟩:=h;have hj:=fun H=>zk8 (ae:=0) (H:=H) (L:=l) (bU:=t) (by omega) h2 h3;have dK:=fA hp;have cK:=fun x=>dB (H:=H) (i:=p) x dK;have hss:∀x y:Option (List AV),(H.set p x).set p y=H.set p y:=fun x y=>iP ..;have gy:=fun v=>zkT (H:=H) h1 h2 h3 l.length 0 v (by omega);refine l5.1 (jl rfl rfl rfl ?_);rw[zpj];generalize aV l=X at *;simp[iO,zhr,zhq,zhp,a186];refine(gy _ ?_ ?_ ?_ ?_).mono fun e t h=>?_
 ·simp
 ·simp
 ·simp[Lib.join_nil]
 ·simp
 obtain⟨rfl,v',rfl,k0,k1,k2,k7⟩:=h;simp at k0;generalize Lib.join l _=J at *;by_cases hb:65536<J.length
 ·have hbI:(65536:Int)<(J.length:Int):=by omega
  simp[dN,ZI,ZL,ZK,ZJ,k7,hb,hbI]
 ·have hbI:¬(65536:Int)<(J.length:Int):=by omega
  simp[dN,ZI,ZL,ZK,ZJ,k0,k1,k2,k7,hj,hb,hbI,hp,cK,hss]
theorem zkX{H:aj}{i:Nat}(hi:i<=1000):∀(m:Nat)(P:List (List UInt8))(v:Nat->AV),P.length+m=i∨(m=0∧i<=P.length)->P.length<=2000->v 1=ag i->v 9=.slc .own (aV P)->
  Wp (aP ak SA.sp 0 (.loop a175l6) (az 33587983 v,H)) (fun e t=>e=.exit 0∧∃v',t=(az 33587983 v',H)∧v' 0=v 0∧v' 1=ag i∧v' 2=v 2∧v' 3=v 3∧v' 9=.slc .own (aV (P++List.replicate m []))):=by
 intro m;induction m with
 |zero=>
  intro P v hP hPl v1 v9;have hI:¬(P.length:Int)<(i:Int):=by omega
  have hX:=jo P;rw[List.replicate_zero,ry];generalize aV P=X at *;rw[bu a175l6.eq_1];simp[au,ZT,ZR,v1,v9,hX,hI];exact⟨_,rfl,by simp,by simp[v1],by simp,by simp,by simp[v9]⟩
 |succ m ih=>
  intro P v hP hPl v1 v9;have hI:(P.length:Int)<(i:Int):=by omega
  have hI2:P.length<i:=by omega
  have hX:=jo P;have bF:=qh P;have bq:(aV P).length+1<=4294967296:=by rw[jo];omega
  have Ao:P.length<=4294967295:=by omega
  have next:=fun w=>ih (P ++[[]]) w (by simp;omega) (by simp;omega)
  rw[BD,zR]at next
  have h1:aV [([]:List UInt8)]=[.str []]:=rfl;rw[h1]at next
  have hr: [([]:List UInt8)]++List.replicate m []=List.replicate (m+1) []:=rfl;rw[hr]at next
  generalize aV (P++List.replicate (m+1) [])=Z at *;generalize aV P=X at *;rw[bu a175l6.eq_1];simp[au,ZT,ZR,v1,v9,hX,hI,hI2,eY,bF,Ao];refine(next _ ?_ ?_).mono fun e t h=>by simpa using h
  all_goals simp[v1]
end
section
theorem zl9(L:List (List UInt8))(i:Nat):fo L (max i L.length)=L++List.replicate (i-L.length) []:=by
 unfold fo;rw[ek (by omega),show max i L.length-L.length=i-L.length by omega]
theorem zc2{H:aj}{p:Nat}{T:List UInt8}{L:List (List UInt8)}{A:AV}(h:Rc H p T L A)(hn:L.length<=900){i:Nat}(h1:1<=i)(h2:i<=100){s t:List UInt8}(hL:∀x∈L,x.length<=1000000)(hsl:s.length<=1000000)(htl:t.length<=1000000):
  Rn ak SA.sp 0 175 [.ptr p 0,ag i,.str s,.str t] H=some (.ret (ag (if 65536<(Lib.join (kG L i s) t).length then 2 else 0)),if 65536<(Lib.join (kG L i s) t).length then H else H.set p (some [.str (Lib.join (kG L i s) t),.slc .ro (aV (kG L i s))])):=by
 have hjr:=zcL h (l:=kG L i s) (t:=t) (by rw[zcj];omega) (zck hL hsl) htl;obtain⟨hp,hA⟩:=h;refine l5.1 (jl rfl rfl rfl ?_);rw[zeB];have aB:¬(i:Int)<1:=by omega
 have gJ:¬(100:Int)<(i:Int):=by omega
 have hw:IntKind.i64.wrap ((i:Int)-1)=((i-1:Nat):Int):=by rw[aM _ (by omega)];omega
 have cK:aV (kG L i s)=(aV (fo L (max i L.length))).set (i-1) (.str s):=by
  unfold kG aV;rw[List.map_set]
 have bq:i-1<(aV (fo L (max i L.length))).length:=by rw[jo];simp[fo];omega
 rw[cK]at hjr ⊢;obtain⟨y,hy⟩:∃y,(fo L (max i L.length))[i-1]?=some y:=⟨_,gG (by rw[jo]at bq;exact bq)⟩
 have hg:=Gm hy;have gy:=fun v=>zkX (H:=H) (i:=i) (by omega) (i-L.length) L v (by omega) (by omega);rw[←zl9]at gy;have bF:=qh L;have iV:(aV L).length<=4294967296:=by rw[jo];omega
 have hLnil:L=[]->aV L=[]:=fun e=>by rw[e];rfl
 generalize aV (fo L (max i L.length))=X at *;have bV:List.take X.length (X.set (i-1) (.str s))=X.set (i-1) (.str s):=ek (by simp);generalize Lib.join (kG L i s) t=J at *;generalize(if 65536<J.length then H else H.set p (some [.str J,.slc .ro (X.set (i-1) (.str s))]))=H2 at *;generalize(if 65536<J.length then 2 else 0:Nat)=e at *;rcases hA with rfl|⟨hL0,rfl⟩
 ·generalize aV L=Y at *;simp[au,OE,OD,OC,ZU,a175,hp,aB,gJ,eY,bF,iV];refine(gy _ ?_ ?_).mono fun e t h=>?_
  ·simp
  ·simp
  obtain⟨rfl,v',rfl,k0,k1,k2,k3,k9⟩:=h;simp at k0 k2 k3;simp[au,ZQ,ZP,k0,k1,k2,k3,k9,hw,bq,hg,bV,hjr]
 ·rw[hLnil hL0]at gy;simp[au,OE,OD,OC,ZU,a175,hp,aB,gJ,eY];refine(gy _ ?_ ?_).mono fun e t h=>?_
  ·simp
  ·simp
  obtain⟨rfl,v',rfl,k0,k1,k2,k3,k9⟩:=h;simp at k0 k2 k3;simp[au,ZQ,ZP,k0,k1,k2,k3,k9,hw,bq,hg,bV,hjr]
theorem zlO{ae:Nat}{H:aj}{p:Nat}{i:Int}(h:i<1∨100<i){s t:List UInt8}:Rn ak SA.sp ae 175 [.ptr p 0,.int .i64 i,.str s,.str t] H=some (.ret (ag 90),H):=by
 refine l5.1 (jl rfl rfl rfl ?_);rw[zeB];by_cases h1:i<1
 ·simp[dN,OE,OD,OC,a175,h1]
 ·have h2:100<i:=by omega
  simp[dN,OE,OD,OC,a175,h1,h2]
theorem zl8(L:List (List UInt8))(j:Nat):fo L (j+1)=fo L j ++[match L[j]? with|some x=>x|none=>[]]:=by
 unfold fo;cases h:L[j]? with
 |some x=>
  have aB:=(eD.1 h).1;rw[LH,h,show j+1-L.length=0 by omega,show j-L.length=0 by omega];simp
 |none=>
  have jD:=rq.1 h;rw[ek (by omega),ek jD,show j+1-L.length=(j-L.length)+1 by omega,Vz,zR]
theorem zkY{H:aj}{p:Nat}{T:List UInt8}{L:List (List UInt8)}{A:AV}(h:Rc H p T L A){n:Nat}(hn:n<=1000):∀(m j:Nat)(v:Nat->AV),j+m=n->v 0=.ptr p 0->v 1=ag n->v 7=.slc .own (aV (fo L j))->v 8=ag j->
  Wp (aP ak SA.sp 0 (.loop a176l10) (az 134496711 v,H)) (fun e t=>e=.exit 0∧∃v',t=(az 134496711 v',H)∧v' 0=.ptr p 0∧v' 2=v 2∧v' 7=.slc .own (aV (fo L n))):=by
 obtain⟨hp,hA⟩:=h;intro m;induction m with
 |zero=>
  intro j v hj v0 v1 v7 v8;have hj':j=n:=by omega
  subst hj';rw[bu a176l10.eq_1];simp[au,OB,OA,Oz,Oy,Ox,v1,v8];exact⟨_,rfl,by simp[v0],by simp,by simp[v7]⟩
 |succ m ih=>
  intro j v hj v0 v1 v7 v8;have aB:j<n:=by omega
  have rQ:(j:Int)<(n:Int):=by omega
  have aT:IntKind.i64.wrap ((j:Int)+1)=((j+1:Nat):Int):=aM _ (by omega);have bF:=qh (fo L j);have bq:(aV (fo L j)).length+1<=4294967296:=by rw[jo];simp[fo];omega
  have next:=fun w=>ih (j+1) w (by omega)
  rw[zl8,BD]at next
  have h1:∀x,aV [x]=[.str x]:=fun _=>rfl;rw[h1]at next
  have hX:=jo L;generalize aV (fo L j)=Y at *;rw[bu a176l10.eq_1];cases hx:L[j]? with
  |some x=>
   have hjl:=(eD.1 hx).1;have hjI:(j:Int)<(L.length:Int):=by omega
   have hg:=Gm hx;rw[hx]at next
   simp only at next
   rcases hA with rfl|⟨rfl,rfl⟩
   ·generalize aV L=X at *;simp[au,OB,OA,Oz,Oy,Ox,v0,v1,v7,v8,aB,rQ,hp,hX,hjl,hjI,hg,aT,eY,bF,bq];refine(next _ ?_ ?_ ?_ ?_).mono fun e t h=>by simpa using h
    all_goals simp[v0,v1]
   ·cases hx
  |none=>
   have hjl:=rq.1 hx;have hjI:¬(j:Int)<(L.length:Int):=by omega
   have hjl2:¬j<L.length:=by omega
   rw[hx]at next
   simp only at next
   rcases hA with rfl|⟨rfl,rfl⟩
   ·generalize aV L=X at *;simp[au,OB,OA,Oz,Oy,Ox,v0,v1,v7,v8,aB,rQ,hp,hX,hjl2,hjI,aT,eY,bF,bq];refine(next _ ?_ ?_ ?_ ?_).mono fun e t h=>by simpa using h
    all_goals simp[v0,v1]
   ·have hjn:¬(j:Int)<0:=by omega
    simp[au,OB,OA,Oz,Oy,Ox,v0,v1,v7,v8,aB,rQ,hp,hjn,aT,eY,bF,bq];refine(next _ ?_ ?_ ?_ ?_).mono fun e t h=>by simpa using h
    all_goals simp[v0,v1]
theorem zc1{H:aj}{p:Nat}{T:List UInt8}{L:List (List UInt8)}{A:AV}(h:Rc H p T L A){n:Nat}(h2:n<=100){t:List UInt8}(hL:∀x∈L,x.length<=1000000)(htl:t.length<=1000000):
  Rn ak SA.sp 0 176 [.ptr p 0,ag n,.str t] H=some (.ret (ag (if 65536<(Lib.join (fo L n) t).length then 2 else 0)),if 65536<(Lib.join (fo L n) t).length then H else H.set p (some [.str (Lib.join (fo L n) t),.slc .ro (aV (fo L n))])):=by
 have hjr:=zcL h (l:=fo L n) (t:=t) (by simp[fo];omega) (Wt hL) htl;have gy:=fun v=>zkY h (n:=n) (by omega) n 0 v (by omega);refine l5.1 (jl rfl rfl rfl ?_);rw[zeA];have aB:¬(n:Int)<0:=by omega
 have gJ:¬(100:Int)<(n:Int):=by omega
 have bF:=qh (fo L n);have h0:fo L 0=[]:=by simp[fo]
 rw[h0]at gy;generalize aV (fo L n)=X at *;have bV:List.take X.length X=X:=ek (aX _);generalize Lib.join (fo L n) t=J at *;generalize(if 65536<J.length then H else H.set p (some [.str J,.slc .ro X]))=H2 at *;generalize(if 65536<J.length then 2 else 0:Nat)=e at *;simp[au,UD,UC,UB,zhB,zhA,a176,aB,gJ];refine(gy _ ?_ ?_ ?_ ?_).mono fun e t h=>?_
 ·simp
 ·simp
 ·simp[aV]
 ·simp
 obtain⟨rfl,v',rfl,k0,k2,k7⟩:=h;simp at k2;simp[dX,zhC,k0,k2,k7,bV,hjr]
theorem zlN{ae:Nat}{H:aj}{p:Nat}{i:Int}(h:i<0∨100<i){t:List UInt8}:Rn ak SA.sp ae 176 [.ptr p 0,.int .i64 i,.str t] H=some (.ret (ag 90),H):=by
 refine l5.1 (jl rfl rfl rfl ?_);rw[zeA];by_cases h1:i<0
 ·simp[dN,UD,UC,UB,a176,h1]
 ·have h2:100<i:=by omega
  simp[dN,UD,UC,UB,a176,h1,h2]
theorem zr6{H:aj}{p:Nat}{T:List UInt8}{L:List (List UInt8)}{A:AV}(h:Rc H p T L A){n:Nat}(h2:n<=100){t:List UInt8}(hj:(Lib.join (fo L n) t).length<=1000000000):
  Rn ak SA.sp 0 177 [.ptr p 0,ag n,.str t] H=some (.ret (ag (if 65536<(Lib.join (fo L n) t).length then 2 else 0)),if 65536<(Lib.join (fo L n) t).length then H else H.set p (some [.str (Lib.join (fo L n) t),.slc .ro (aV (fo L n))])):=by
 have hr:=zcN h (n:=n) (by omega);have hjr:=zdQ h (l:=fo L n) (t:=t) (by simp[fo];omega) hj;refine l5.1 (jl rfl rfl rfl ?_);rw[zez];have aB:¬(n:Int)<0:=by omega
 have gJ:¬(100:Int)<(n:Int):=by omega
 have bF:=qh (fo L n);generalize aV (fo L n)=X at *;generalize Lib.join (fo L n) t=J at *;generalize(if 65536<J.length then H else H.set p (some [.str J,.slc .ro X]))=H2 at *;generalize(if 65536<J.length then 2 else 0:Nat)=e at *;simp[dN,a177,UA,Uz,Uy,Ux,aB,gJ,hr,hjr]
theorem zr7{ae:Nat}{H:aj}{p:Nat}{i:Int}(h:i<0∨100<i){t:List UInt8}:Rn ak SA.sp ae 177 [.ptr p 0,.int .i64 i,.str t] H=some (.ret (ag 90),H):=by
 refine l5.1 (jl rfl rfl rfl ?_);rw[zez];by_cases h1:i<0
 ·simp[dN,a177,UA,Uz,Uy,Ux,h1]
 ·have h2:100<i:=by omega
  simp[dN,a177,UA,Uz,Uy,Ux,h1,h2]
def BV:Nat->List UInt8->List UInt8->List UInt8
 |0,t,_=>t
 |m+1,t,s=>if t.length<33000 then BV m (t++s) s else t
theorem zdB:∀(m:Nat)(t s:List UInt8),s.length<=1000->t.length<=34000->(BV m t s).length<=34000
 |0,_,_,_,h=>h
 |m+1,t,s,hs,h=>by
  unfold BV;split
  ·exact zdB m _ s hs (by simp;omega)
  ·exact h
theorem znK{s:List UInt8}(hs0:s ≠ [])(hl:s.length<=1000):∀(m:Nat)(t:List UInt8)(v:Nat->AV),33000<=t.length+m->t.length<=34000->v 0=.str s->v 3=.slc .own (iD t)->
  Wp (aP ak SA.sp 0 (.loop a178l4) (az 2061 v,[])) (fun e x=>e=.exit 0∧∃v',x=(az 2061 v',[])∧v' 3=.slc .own (iD (BV m t s))):=by
 have aR:ic s []=false:=by rw[sW];simpa using hs0
 have lH:0<s.length:=by
  cases s with
  |nil=>exact absurd rfl hs0
  |cons c l=>simp
 intro m;induction m with
 |zero=>
  intro t v hm ht v0 v3;have hX:(iD t).length=t.length:=by simp[iD]
  have hI:¬(t.length:Int)<33000:=by omega
  unfold BV;generalize iD t=X at *;rw[bu a178l4.eq_1];simp[au,Ow,Ov,v0,v3,iw,aR,hX,hI];exact⟨_,rfl,by simp[v3]⟩
 |succ m ih=>
  intro t v hm ht v0 v3;have hX:(iD t).length=t.length:=by simp[iD]
  unfold BV;by_cases h:t.length<33000
  ·rw[aS h];have hI:(t.length:Int)<33000:=by omega
   have next:=fun w=>ih (t++s) w (by simp;omega) (by simp;omega)
   rw[zqX]at next
   have bF:jF 0 (iD t)=true:=by
    cases t with
    |nil=>rfl
    |cons c l=>rfl
   have bq:t.length+(iD s).length<=4294967296:=by simp[iD];omega
   generalize iD t=X at *;rw[bu a178l4.eq_1];simp[au,Ow,Ov,v0,v3,iw,aR,hX,h,hI,bF,bq];refine(next _ ?_ ?_).mono fun e t h=>by simpa using h
   all_goals simp[v0]
  ·rw[aF h];have hI:¬(t.length:Int)<33000:=by omega
   generalize iD t=X at *;rw[bu a178l4.eq_1];simp[au,Ow,Ov,v0,v3,iw,aR,hX,h,hI];exact⟨_,rfl,by simp[v3]⟩
theorem znJ(s:List UInt8)(hl:s.length<=1000):∃x:List UInt8,x.length<=34000∧∀ae H,Rn ak SA.sp ae 178 [.str s] H=some (.ret (.str x),H):=by
 by_cases h0:s=[]
 ·subst h0;refine⟨[],by simp,fun ae H=>?_⟩;refine di rfl rfl rfl rfl ?_;rw[zey];simp[iO,ZO,ZN,a178];rw[bu a178l4.eq_1];simp[au,Ow,Ov,ZM,iw,ic,strOf,aN,bg]
 ·refine⟨BV 33000 [] s,zdB _ _ _ hl (by simp),fun ae H=>?_⟩;have gy:=fun v=>znK h0 hl 33000 [] v (by simp) (by simp);have hb:=zb4 (BV 33000 [] s);refine di rfl rfl rfl rfl ?_;rw[zey];generalize BV 33000 [] s=x at *;have bF:jF 0 (iD x)=true:=by
   cases x with
   |nil=>rfl
   |cons c l=>rfl
  simp[iO,ZO,ZN,a178];refine(gy _ ?_ ?_).mono fun e t h=>?_
  ·simp
  ·simp[iD]
  obtain⟨rfl,v',rfl,k3⟩:=h;generalize iD x=X at *;simp[dX,ZM,k3,bF,hb,aN,bg]
end
section
theorem znP(s:List UInt8):∃b:Bool,∀(ae:Nat)(H:aj),Rn ak SA.sp ae 160 [.str s] H=some (.ret (.bool b),H):=by
 obtain⟨b,hb⟩:=znO s;have hb0:=hb 0;by_cases h:s.length<2
 ·refine⟨true,fun ae H=>?_⟩;refine di rfl rfl rfl rfl ?_;rw[zeD];have hI:(s.length:Int)<2:=by omega
  simp[dX,a160,Z0,ZZ,hI,aN,bg]
 ·refine⟨b,fun ae H=>?_⟩;refine di rfl rfl rfl rfl ?_;rw[zeD];have hI:¬(s.length:Int)<2:=by omega
  simp[dX,a160,Z0,ZZ,hI,hb0,aN,bg]
def J8(k i:Int)(s bU:List UInt8):AV:=.agg [.int .i64 k,.int .i64 i,.str s,.str bU]
theorem zkv(k i:Int)(s bU:List UInt8):∃b:Bool,(b=true->s.length<=30∧bU.length<=30)∧∀(ae:Nat)(H:aj),Rn ak SA.sp ae 166 [J8 k i s bU] H=some (.ret (.bool b),H):=by
 obtain⟨b,hb⟩:=znP bU;have hb:=hb 0;by_cases h1:s.length<=30
 ·have h1I:(s.length:Int)<=30:=by omega
  by_cases h2:bU.length<=30
  ·have h2I:(bU.length:Int)<=30:=by omega
   refine⟨b,fun _=>⟨h1,h2⟩,fun ae H=>?_⟩;refine di rfl rfl rfl rfl ?_;rw[Xf];simp[dX,a166,UR,UQ,J8,h1,h1I,h2,h2I,hb,aN,bg]
  ·have h2I:¬(bU.length:Int)<=30:=by omega
   refine⟨false,(fun h=>by cases h),fun ae H=>?_⟩;refine di rfl rfl rfl rfl ?_;rw[Xf];simp[dX,a166,UR,UQ,J8,h1,h1I,h2,h2I,aN,bg]
 ·have h1I:¬(s.length:Int)<=30:=by omega
  refine⟨false,(fun h=>by cases h),fun ae H=>?_⟩;refine di rfl rfl rfl rfl ?_;rw[Xf];simp[dX,a166,UR,UQ,J8,h1,h1I,aN,bg]
theorem zr9{ae:Nat}{H:aj}{p:Nat}{i:Int}(h:i<1∨100<i){s t:List UInt8}:Rn ak SA.sp ae 168 [.ptr p 0,.int .i64 i,.str s,.str t] H=some (.ret (ag 90),H):=by
 refine l5.1 (jl rfl rfl rfl ?_);rw[zeC];by_cases h1:i<1
 ·simp[dN,a168,KR,KQ,KP,KO,KN,KM,h1]
 ·have h2:100<i:=by omega
  simp[dN,a168,KR,KQ,KP,KO,KN,KM,h1,h2]
end
section
def RS(H:aj)(T:List UInt8)(L:List (List UInt8)):Prop:=∃A B,H=[some [.str T,A],some [.str T,B]]∧BH L A∧BH L B∧L.length<=100∧T.length<=65536∧∀x∈L,x.length<=65536
theorem zdR{bU x:List UInt8}{l:List (List UInt8)}(h:x∈l):x.length<=(Lib.join l bU).length:=by
 induction l with
 |nil=>cases h
 |cons y r ih=>
  rw[Lib.join_cons,iF];rcases il.1 h with rfl|hx
  ·omega
  ·cases r with
   |nil=>cases hx
   |cons z r'=>
    have:=ih hx;rw[Lib.join_cons,iF]at this;have e:Lib.joinTail bU (z::r')=bU++z++Lib.joinTail bU r':=by simp[Lib.joinTail]
    rw[e,iF,iF];omega
def Both(f g:Nat)(xs ys:List AV)(H:aj):Prop:=∃(e:Nat)(H1 H2:aj)(T':List UInt8)(L':List (List UInt8)),Rn ak SA.sp 0 f (.ptr 0 0::xs) H=some (.ret (ag e),H1)∧Rn ak SA.sp 0 g (.ptr 1 0::ys) H1=some (.ret (ag e),H2)∧RS H2 T' L'
theorem zq2{H:aj}{T:List UInt8}{L:List (List UInt8)}(h:RS H T L){s fs:List UInt8}(hl:s.length<=30):Both 167 174 [.str s,.str fs] [.str s,.str fs] H:=by
 have hL:=fun x hx=>fT (zlY (s:=s) (bU:=fs) (x:=x) hx) hl;obtain⟨A,B,rfl,hA,hB,h1,h2,h3⟩:=h;have r0:Rc [some [.str T,A],some [.str T,B]] 0 T L A:=⟨rfl,hA⟩
 obtain⟨A',hA',t0⟩:=zrR r0 (s:=s) (fs:=fs) (by omega);by_cases he:zW s fs=0
 ·rw[aS he]at t0;have r1:Rc [some [.str s,A'],some [.str T,B]] 1 T L B:=⟨rfl,hB⟩
  obtain⟨B',hB',t1⟩:=zc0 r1 (s:=s) (fs:=fs) (by omega);rw[aS he]at t1;refine⟨zW s fs,_,_,s,(iL s fs).1,t0,t1,A',B',rfl,hA',hB',?_,by omega,fun x hx=>fT (hL x hx) (by omega)⟩;unfold zW at he;split at he
  ·rename_i h;exact absurd he h
  ·split at he
   ·cases he
   ·omega
 ·rw[aF he]at t0;have r1:Rc [some [.str T,A],some [.str T,B]] 1 T L B:=⟨rfl,hB⟩
  obtain⟨B',hB',t1⟩:=zc0 r1 (s:=s) (fs:=fs) (by omega);rw[aF he]at t1;exact⟨zW s fs,_,_,T,L,t0,t1,A,B,rfl,hA,hB,h1,h2,h3⟩
theorem zfk{H:aj}{T:List UInt8}{L:List (List UInt8)}(h:RS H T L)(i:Int){s t:List UInt8}(hl:s.length<=34000)(ht:t.length<=30):Both 168 175 [.int .i64 i,.str s,.str t] [.int .i64 i,.str s,.str t] H:=by
 obtain⟨A,B,rfl,hA,hB,h1,h2,h3⟩:=h;have r0:Rc [some [.str T,A],some [.str T,B]] 0 T L A:=⟨rfl,hA⟩
 have r1:Rc [some [.str T,A],some [.str T,B]] 1 T L B:=⟨rfl,hB⟩
 by_cases hi:i<1∨100<i
 ·exact⟨90,_,_,T,L,zr9 hi,zlO hi,A,B,rfl,hA,hB,h1,h2,h3⟩
 ·obtain⟨n,rfl⟩:∃n:Nat,i=n:=⟨i.toNat,by omega⟩
  have hL2:∀x∈kG L n s,x.length<=65536:=zck h3 (by omega);have hl2:(kG L n s).length<=100:=by rw[zcj];omega
  have hJ:=Q8 ht hL2;have hJ2:(Lib.join (kG L n s) t).length<=100*(65536+30):=fT hJ (zN hl2 (aX _));have t0:=zr8 r0 (by omega) (i:=n) (by omega) (by omega) (s:=s) (t:=t) (by omega);by_cases hb:65536<(Lib.join (kG L n s) t).length
  ·have t1:=zc2 r1 (by omega) (i:=n) (by omega) (by omega) (s:=s) (t:=t) (fun x hx=>fT (h3 x hx) (by omega)) (by omega) (by omega);simp only[aS hb]at t0 t1;exact⟨2,_,_,T,L,t0,t1,A,B,rfl,hA,hB,h1,h2,h3⟩
  ·have r2:Rc [some [.str (Lib.join (kG L n s) t),.slc .ro (aV (kG L n s))],some [.str T,B]] 1 T L B:=⟨rfl,hB⟩
   have t1:=zc2 r2 (by omega) (i:=n) (by omega) (by omega) (s:=s) (t:=t) (fun x hx=>fT (h3 x hx) (by omega)) (by omega) (by omega);simp only[aF hb]at t0 t1;exact⟨0,_,_,_,_,t0,t1,_,_,rfl,.inl rfl,.inl rfl,hl2,by omega,fun x hx=>fT (zdR (bU:=t) hx) (by omega)⟩
theorem zq3{H:aj}{T:List UInt8}{L:List (List UInt8)}(h:RS H T L)(i:Int){t:List UInt8}(ht:t.length<=30):Both 177 176 [.int .i64 i,.str t] [.int .i64 i,.str t] H:=by
 obtain⟨A,B,rfl,hA,hB,h1,h2,h3⟩:=h;have r0:Rc [some [.str T,A],some [.str T,B]] 0 T L A:=⟨rfl,hA⟩
 have r1:Rc [some [.str T,A],some [.str T,B]] 1 T L B:=⟨rfl,hB⟩
 by_cases hi:i<0∨100<i
 ·exact⟨90,_,_,T,L,zr7 hi,zlN hi,A,B,rfl,hA,hB,h1,h2,h3⟩
 ·obtain⟨n,rfl⟩:∃n:Nat,i=n:=⟨i.toNat,by omega⟩
  have hL2:∀x∈fo L n,x.length<=65536:=Wt h3;have hl2:(fo L n).length<=100:=by simp[fo];omega
  have hJ:=Q8 ht hL2;have hJ2:(Lib.join (fo L n) t).length<=100*(65536+30):=fT hJ (zN hl2 (aX _));have t0:=zr6 r0 (n:=n) (by omega) (t:=t) (by omega);by_cases hb:65536<(Lib.join (fo L n) t).length
  ·have t1:=zc1 r1 (n:=n) (by omega) (t:=t) (fun x hx=>fT (h3 x hx) (by omega)) (by omega);simp only[aS hb]at t0 t1;exact⟨2,_,_,T,L,t0,t1,A,B,rfl,hA,hB,h1,h2,h3⟩
  ·have r2:Rc [some [.str (Lib.join (fo L n) t),.slc .ro (aV (fo L n))],some [.str T,B]] 1 T L B:=⟨rfl,hB⟩
   have t1:=zc1 r2 (n:=n) (by omega) (t:=t) (fun x hx=>fT (h3 x hx) (by omega)) (by omega);simp only[aF hb]at t0 t1;exact⟨0,_,_,_,_,t0,t1,_,_,rfl,.inl rfl,.inl rfl,hl2,by omega,fun x hx=>fT (zdR (bU:=t) hx) (by omega)⟩
theorem zd3(T:List UInt8)(L:List (List UInt8))(i:Int):∃k n x,(Fg T L i).1=.agg [.int .i64 k,.int .i64 n,.str x]:=by
 unfold Fg;split
 ·exact⟨0,0,[],rfl⟩
 ·split
  ·obtain⟨k,n,h⟩:=GV T;exact⟨k,n,T,h⟩
  ·split
   ·rename_i x _;obtain⟨k,n,h⟩:=GV x;exact⟨k,n,x,h⟩
   ·exact⟨0,0,[],rfl⟩
end
section
def RI:ACode:=.seq (.region UH) (.seq (.region UG) (.seq (.seq (.draw UI) (.cond true (.v 153) (.seq (.region UF) .ret) .skip)) (.seq (.region UE) (.block 3 (.loop a173l30)))))
theorem WH:UJ=(.seq (.seq (.region uR) (.cond true (.v 33) .skip (.exit 0))) (.seq (.block 1 (.seq (.region FN) (.seq (.seq (.region FM) (.cond true (.v 42) (.exit 1) .skip)) (.seq (.region FL) (.seq (.seq (.region H7) (.block 2 (.seq (.region Ic) (.cond true (.v 45) (.draw Ii) (.seq (.region Ib) (.cond true (.v 59) (.draw Ih) (.seq (.region Ia) (.cond true (.v 77) (.draw Ig) (.seq (.region H9) (.cond true (.v 91) (.seq (.region H8) (.draw Ie)) .skip)))))))))) RI))))) (.region OG))):=rfl
def Vu(v v':Nat->AV):Prop:=v' 0=v 0∧v' 1=v 1∧v' 5=v 5∧v' 6=v 6∧v' 7=v 7
def zbu(v:Nat->AV)(H:aj)(e:AExit)(t:EH):Prop:=e=.exit 3∧∃v',t=(az 383126819637728418043102215099561678941415497451700211 v',H)∧Vu v v'
theorem zor{T:List UInt8}{L:List (List UInt8)}{A B:AV}(hA:BH L A)(hB:BH L B)(hl:L.length<=100)(hT:T.length<=65536)(hL:∀x∈L,x.length<=65536):∀(m q:Nat)(v:Nat->AV),q+m=L.length+2->v 5=.ptr 0 0->v 6=.ptr 1 0->v 16=ag q->
  Wp (aP ak SA.sp 0 (.loop a173l30) (az 383126819637728418043102215099561678941415497451700211 v,[some [.str T,A],some [.str T,B]])) (zbu v [some [.str T,A],some [.str T,B]]):=by
 have r0:Rc [some [.str T,A],some [.str T,B]] 0 T L A:=⟨rfl,hA⟩
 have r1:Rc [some [.str T,A],some [.str T,B]] 1 T L B:=⟨rfl,hB⟩
 have hw0:IntKind.i64.wrap ((L.length:Int)+1)=(L.length:Int)+1:=aM _ (by omega);intro m;induction m with
 |zero=>
  intro q v hq v5 v6 v16;have gJ:¬(q:Int)<=(L.length:Int)+1:=by omega
  have hXl:=jo L;rw[bu a173l30.eq_1];rcases hB with rfl|⟨rfl,rfl⟩
  ·generalize aV L=X at *;simp[au,OO,OM,OL,OJ,OI,OH,v6,v16,hXl,hw0,gJ];exact⟨rfl,_,rfl,by simp[Vu]⟩
  ·have gJ:¬(q:Int)<=1:=by simp at hq;omega
   simp[au,OO,OM,OL,OJ,OI,OH,v6,v16,gJ,show IntKind.i64.wrap 1=1 from rfl];exact⟨rfl,_,rfl,by simp[Vu]⟩
 |succ m ih=>
  intro q v hq v5 v6 v16;have cu:(q:Int)<=(L.length:Int)+1:=by omega
  have g0:=zi4 (ae:=0) r0 (by omega) (fun x hx=>fT (hL x hx) (by omega)) (by omega) (q:Int);have g1:=zc4 (ae:=0) r1 (by omega) (fun x hx=>fT (hL x hx) (by omega)) (by omega) (q:Int);obtain⟨k,n,x,hc⟩:=zd3 T L (q:Int);rw[hc]at g0 g1;have aT:IntKind.i64.wrap ((q:Int)+1)=((q+1:Nat):Int):=aM _ (by omega);have next:=fun w=>ih (q+1) w (by omega)
  have turn:∀(w:Nat->AV) H e t,w 0=v 0->w 1=v 1->w 5=v 5->w 6=v 6->w 7=v 7->zbu w H e t->zbu v H e t:=fun w H e t w0 w1 w5 w6 w7 ⟨h1,v',h2,k0,k1,k5,k6,k7⟩=>⟨h1,v',h2,k0.trans w0,k1.trans w1,k5.trans w5,k6.trans w6,k7.trans w7⟩
  have hXl:=jo L;have aR:iw .neq x x=some (.bool false):=by simp[iw,GY]
  rw[bu a173l30.eq_1];rcases hB with rfl|⟨rfl,rfl⟩
  ·generalize aV L=X at *;simp[au,OO,OM,OL,OJ,OI,OH,v5,v6,v16,hXl,hw0,cu,g0,g1,aT,GY];refine(next _ ?_ ?_ ?_).mono fun e t h=>turn _ _ e t ?_ ?_ ?_ ?_ ?_ h;all_goals simp[v5,v6]
  ·have cu:(q:Int)<=1:=by simp at cu;omega
   simp[au,OO,OM,OL,OJ,OI,OH,v5,v6,v16,cu,g0,g1,aT,GY,show IntKind.i64.wrap 1=1 from rfl];refine(next _ ?_ ?_ ?_).mono fun e t h=>turn _ _ e t ?_ ?_ ?_ ?_ ?_ h;all_goals simp[v5,v6]
def PostT(v:Nat->AV)(H:aj)(e:AExit)(t:EH):Prop:=e=.norm∧∃v',t=(az 383126819637728418043102215099561678941415497451700211 v',H)∧Vu v v'
theorem zry{H:aj}{T:List UInt8}{L:List (List UInt8)}(h:RS H T L)(i:Int)(e:Nat)(v:Nat->AV)(v1:v 1=.int .i64 i)(v5:v 5=.ptr 0 0)(v6:v 6=.ptr 1 0)(v9:v 9=ag e)(fP:v 10=ag e):
  Wp (aP ak SA.sp 0 RI (az 383126819637728418043102215099561678941415497451700211 v,H)) (PostT v H):=by
 obtain⟨A,B,rfl,hA,hB,h1,h2,h3⟩:=h;have r0:Rc [some [.str T,A],some [.str T,B]] 0 T L A:=⟨rfl,hA⟩
 have r1:Rc [some [.str T,A],some [.str T,B]] 1 T L B:=⟨rfl,hB⟩
 have g0:=zi4 (ae:=0) r0 (by omega) (fun x hx=>fT (h3 x hx) (by omega)) (by omega) i;have g1:=zc4 (ae:=0) r1 (by omega) (fun x hx=>fT (h3 x hx) (by omega)) (by omega) i;obtain⟨k,n,x,hc⟩:=zd3 T L i;rw[hc]at g0 g1;have hmany:=znC (ae:=0) r0;have htext:=zjK (ae:=0) r0;have gy:=fun v=>zor hA hB h1 h2 h3 (L.length+2) 0 v (by omega);have hXl:=jo L;unfold RI;rcases hB with rfl|⟨rfl,rfl⟩
 ·generalize aV L=X at *;simp[bR,UH,UG,UI,UF,UE,v1,v5,v6,v9,fP,g0,g1,hmany,htext,hXl,iw,GY];refine(gy _ ?_ ?_ ?_).mono fun e t h=>?_
  ·simp[v5]
  ·simp[v6]
  ·simp
  obtain⟨rfl,v',rfl,k0,k1,k5,k6,k7⟩:=h;simp at k0 k1 k5 k6 k7;simp;exact⟨rfl,_,rfl,k0,k1,k5,k6,k7⟩
 ·simp[bR,UH,UG,UI,UF,UE,v1,v5,v6,v9,fP,g0,g1,hmany,htext,iw,GY];refine(gy _ ?_ ?_ ?_).mono fun e t h=>?_
  ·simp[v5]
  ·simp[v6]
  ·simp
  obtain⟨rfl,v',rfl,k0,k1,k5,k6,k7⟩:=h;simp at k0 k1 k5 k6 k7;simp;exact⟨rfl,_,rfl,k0,k1,k5,k6,k7⟩
end
section
def yt(a:Int×Int×List UInt8×List UInt8):AV:=J8 a.1 a.2.1 a.2.2.1 a.2.2.2
def RG(R:AV)(al:List (Int×Int×List UInt8×List UInt8)):Prop:=R=.slc .ro (al.map yt)∨(R=.nils∧al=[])
def zi1(e:AExit)(t:EH):Prop:=e=.exit 0∧∃v' H',t=(az 383126819637728418043102215099561678941415497451700211 v',H')
theorem zrx{al:List (Int×Int×List UInt8×List UInt8)}{R:AV}(hR:RG R al)(i:Int):∀(m k:Nat)(H:aj)(T:List UInt8)(L:List (List UInt8))(v:Nat->AV),k+m=12->RS H T L->v 0=R->v 1=.int .i64 i->v 5=.ptr 0 0->v 6=.ptr 1 0->v 7=ag k->
  Wp (aP ak SA.sp 0 (.loop UJ) (az 383126819637728418043102215099561678941415497451700211 v,H)) zi1:=by
 intro m;induction m with
 |zero=>
  intro k H T L v hk h v0 v1 v5 v6 v7;have hk12:k=12:=by omega
  subst hk12;have h12:¬((12:Int)<12):=by omega
  rw[bu WH];rcases hR with rfl|⟨rfl,rfl⟩
  ·have hX:(al.map yt).length=al.length:=pX ..;generalize al.map yt=X at *;by_cases aB:(12:Int)<(al.length:Int)
   ·simp[au,uR,v0,v7,hX,aB];exact⟨rfl,_,_,rfl⟩
   ·simp[au,uR,v0,v7,hX,aB];exact⟨rfl,_,_,rfl⟩
  ·simp[au,uR,v0,v7];exact⟨rfl,_,_,rfl⟩
 |succ m ih=>
  intro k H T L v hk h v0 v1 v5 v6 v7;have h12:k<12:=by omega
  have h12I:(k:Int)<12:=by omega
  have hw7:IntKind.i64.wrap ((k:Int)+1)=((k+1:Nat):Int):=aM _ (by omega);by_cases aB:k<al.length
  ·have hR2:R=.slc .ro (al.map yt):=by
    rcases hR with h|⟨_,rfl⟩
    ·exact h
    ·simp at aB
   subst hR2;have next:=fun H T L w hRS=>ih (k+1) H T L w (by omega) hRS
   have rQ:(k:Int)<(al.length:Int):=by omega
   obtain⟨⟨K,j,s,bU⟩,ha⟩:∃a,al[k]?=some a:=⟨_,gG aB⟩
   have hg:(al.map yt)[k]?=some (.agg [.int .i64 K,.int .i64 j,.str s,.str bU]):=by
    rw[xH,ha];rfl
   have hX:(al.map yt).length=al.length:=pX ..;generalize al.map yt=X at *;have hkX:k<X.length:=by omega
   obtain⟨sm,hsm,hsmr⟩:=zkv K j s bU;have hsmr:=hsmr 0;unfold J8 at hsmr;rw[bu WH];cases sm with
   |false=>
    simp[au,uR,FN,FM,FL,OG,v0,v7,hX,h12,h12I,aB,rQ,hg,hsmr,hw7];refine next H T L _ h ?_ ?_ ?_ ?_ ?_
    all_goals simp[v0,v1,v5,v6]
   |true=>
    obtain⟨hs1,hs2⟩:=hsm rfl
    -- behind the switch
    have fin:∀(H2:aj)(T':List UInt8)(L':List (List UInt8))(e:Nat)(w:Nat->AV),RS H2 T' L'->w 0=.slc .ro X->w 1=.int .i64 i->w 5=.ptr 0 0->w 6=.ptr 1 0->w 7=ag k->w 9=ag e->w 10=ag e->
      Wp (aP ak SA.sp 0 RI (az 383126819637728418043102215099561678941415497451700211 w,H2)) (ul 1 (andThen (aP ak SA.sp 0 (.region OG)) (andThen (aP ak SA.sp 0 (.loop UJ)) zi1))):=fun H2 T' L' e w hRS w0 w1 w5 w6 w7 w9 w10=>by
     refine(zry hRS i e w w1 w5 w6 w9 w10).mono fun x t hx=>?_;obtain⟨rfl,v',rfl,k0,k1,k5,k6,k7⟩:=hx;simp[dX,OG,k7,w7,hw7];refine next H2 T' L' _ hRS ?_ ?_ ?_ ?_ ?_
     all_goals simp[k0,k1,k5,k6,w0,w1,w5,w6]
    by_cases K0:K=0
    ·subst K0;obtain⟨e,H1,H2,T',L',t0,t1,hRS⟩:=zq2 h (s:=s) (fs:=bU) (by omega);simp[bR,uR,FN,FM,FL,H7,Ic,Ii,Ib,Ih,Ia,Ig,H9,H8,Ie,v0,v5,v6,v7,hX,h12,h12I,aB,rQ,hg,hsmr,t0,t1];refine fin H2 T' L' e _ hRS ?_ ?_ ?_ ?_ ?_ ?_ ?_;all_goals simp[v0,v1,v5,v6,v7]
    have n0:(K==0)=false:=by simpa using K0
    by_cases K1:K=1
    ·subst K1;obtain⟨e,H1,H2,T',L',t0,t1,hRS⟩:=zfk h j (s:=s) (t:=bU) (by omega) (by omega);simp[bR,uR,FN,FM,FL,H7,Ic,Ii,Ib,Ih,Ia,Ig,H9,H8,Ie,v0,v5,v6,v7,hX,h12,h12I,aB,rQ,hg,hsmr,t0,t1];refine fin H2 T' L' e _ hRS ?_ ?_ ?_ ?_ ?_ ?_ ?_;all_goals simp[v0,v1,v5,v6,v7]
    have n1:(K==1)=false:=by simpa using K1
    by_cases K2:K=2
    ·subst K2;obtain⟨e,H1,H2,T',L',t0,t1,hRS⟩:=zq3 h j (t:=bU) (by omega);simp[bR,uR,FN,FM,FL,H7,Ic,Ii,Ib,Ih,Ia,Ig,H9,H8,Ie,v0,v5,v6,v7,hX,h12,h12I,aB,rQ,hg,hsmr,t0,t1];refine fin H2 T' L' e _ hRS ?_ ?_ ?_ ?_ ?_ ?_ ?_;all_goals simp[v0,v1,v5,v6,v7]
    have n2:(K==2)=false:=by simpa using K2
    by_cases K3:K=3
    ·subst K3;obtain⟨x,hx,hlong⟩:=znJ s (by omega);have hlong:=hlong 0;obtain⟨e,H1,H2,T',L',t0,t1,hRS⟩:=zfk h j (s:=x) (t:=bU) (by omega) (by omega);simp[bR,uR,FN,FM,FL,H7,Ic,Ii,Ib,Ih,Ia,Ig,H9,H8,Ie,v0,v5,v6,v7,hX,h12,h12I,aB,rQ,hg,hsmr,hlong,t0,t1];refine fin H2 T' L' e _ hRS ?_ ?_ ?_ ?_ ?_ ?_ ?_;all_goals simp[v0,v1,v5,v6,v7]
    have n3:(K==3)=false:=by simpa using K3
    simp[bR,uR,FN,FM,FL,H7,Ic,Ii,Ib,Ih,Ia,Ig,H9,H8,Ie,v0,v5,v6,v7,hX,h12,h12I,aB,rQ,hg,hsmr,n0,n1,n2,n3];refine fin H T L 0 _ h ?_ ?_ ?_ ?_ ?_ ?_ ?_;all_goals simp[v0,v1,v5,v6,v7]
  ·have rQ:¬(k:Int)<(al.length:Int):=by omega
   rw[bu WH];rcases hR with rfl|⟨rfl,rfl⟩
   ·have hX:(al.map yt).length=al.length:=pX ..;generalize al.map yt=X at *;simp[au,uR,v0,v7,hX,aB,rQ];exact⟨rfl,_,_,rfl⟩
   ·have hk0:¬(k:Int)<0:=by omega
    simp[au,uR,v0,v7,hk0];exact⟨rfl,_,_,rfl⟩
theorem zoU{al:List (Int×Int×List UInt8×List UInt8)}{R:AV}(hR:RG R al)(i:Int):Wc (Rn ak SA.sp 0 173 [R,.int .i64 i] []) (fun o _=>o=.ret (.bool true)):=by
 have hlives:=fun H=>znM 0 H;have hnew:=znc (ae:=0) (H:=[]) (jK _);simp only[gW,gV]at hnew;have h0:RS [some [.str [],.nils],some [.str [],.nils]] [] []:=⟨.nils,.nils,rfl,.inr ⟨rfl,rfl⟩,.inr ⟨rfl,rfl⟩,by simp,by simp,fun x hx=>by cases hx⟩
 have gy:=fun v=>zrx hR i 12 0 _ _ _ v rfl h0;refine jl rfl rfl rfl ?_;rw[zpp];simp[au,zhI,zhH,zhG,zhF,zhD,a173,hnew];refine(gy _ ?_ ?_ ?_ ?_ ?_).mono fun e t h=>?_
 ·simp
 ·simp
 ·simp
 ·simp
 ·simp
 obtain⟨rfl,v',H',rfl⟩:=h;simp[dX,zhE,hlives]
end
end Go.Ak
