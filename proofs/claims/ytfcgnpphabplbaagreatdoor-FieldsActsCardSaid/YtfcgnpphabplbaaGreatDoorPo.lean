/- What a pattern's New, Find, Is and All compute; the document's tables. -/
import Derived.Test.YtfcgnpphabplbaaGreatDoorPn
import Derived.Test.YtfcgnpphabplbaaGreatDoorPd
import Derived.Test.YtfcgnpphabplbaaGreatDoorPh
set_option linter.unusedVariables false
set_option linter.unusedSimpArgs false
namespace Go.Ak
attribute [local simp] Av EA EC EB mM zK wH Cy CB Cz BP BM BN Ac Cs Cq Cr Bz BA
 jP kr wanted cB dZ l8 live BR zU Aj Bw xN put vZ esc sS yn args drop1 jv xV xU yj qX rd wr kW sub AV.cells pack one setCells nJ qI qJ roOf gT qF jI jy mf eY newRow newObj step Ce Cf qR take cz bB lim mG bound uh ww uu nO yf fO
 Cm Ck Ch Ci Cj
 pY ru Ap rR BZ Ca BX
attribute [local simp] sR sT cV bL kA kB kC af aQ aJ gK ah aC dC aA eQ iY fI bH eO bD bN gQ rU bI rF aL dI eZ fK gp lX bW iQ df cO jc dP dM gm mJ fH gH iq iR lc ku fB jX iH iI
attribute [-simp] getElem?_pos
section
theorem capL_le:∀(l:List Re)(n:Nat),Re.capL n l<=500->∀x∈l,x.cap<=500
 | [],_,_=>fun x hx=>by cases hx
 |y::l,n,h=>fun x hx=>by
  simp only[Re.capL]at h;split at h
  ·omega
  ·rename_i h1;rcases il.1 hx with rfl|hx
   ·omega
   ·exact capL_le l _ h x hx
theorem zfc{k:Int}{set:List Nat}{mn mx:Int}{l:List Re}(h:(Re.mk k set mn mx l).cap<=500):∀x∈l,x.cap<=500:=by
 refine capL_le l 0 ?_;unfold Re.cap at h;split at h<;>omega
theorem WE{r:Re}{w d:Int}(h:r.can w d=true)(hc:r.cap<=500):r.least<=500:=by
 have h1:=Re.least_cnt r (Re.can_fine r w d h);have h2:=Re.cap_cnt r w d h hc;omega
theorem znS{ae:Nat}{l:List Re}{H:aj}(hw:Re.wideL l)(bq:l.length<1000000)(hsm:Re.leastSum l<=500)
  (ih:∀x∈l,Rn ak SA.sp ae 66 [x.av] H=some (.ret (ag x.least),H)) :
  ∀(aY:List Re)(i n:Nat)(v:Nat->AV),i<=l.length->l.drop i=aY->n+Re.leastSum aY<=500->v 25=bT (Re.avs l)->v 26=ag l.length->v 27=ag i->v 3=ag n->
   Wp (aP ak SA.sp ae (.loop a66l13) (az 263952017659567 v,H)) (fun e t=>e=.exit 1∧∃v',t=(az 263952017659567 v',H)∧v' 3=ag (n+Re.leastSum aY)):=by
 intro aY;induction aY with
 |nil=>
  intro i n v hi hr hn v25 v26 v27 v3;have aK:i=l.length:=by
   have:=dF List.length hr;rw[kZ]at this;simp at this;omega
  subst aK;rw[bu a66l13.eq_1];simp[au,YW,v26,v27];exact⟨_,rfl,by simp[v3,Re.leastSum]⟩
 |cons x aY ihr=>
  intro i n v hi hr hn v25 v26 v27 v3;have aK:i<l.length:=by
   have:=dF List.length hr;rw[kZ]at this;simp at this;omega
  have jE:=iJ aK;rw[hr]at jE;obtain⟨hx,gF⟩:=zQ jE;have jC:x∈l:=hx▸mO aK;obtain⟨c1,c2,c3,c4,c5,c6,aH⟩:=Re.av_eight (kz.1 hw x jC);have hg:(Re.avs l)[i]?=some x.av:=by rw[sZ aK,←hx]
  have aR:Re.avs l ≠ []:=by rw[Re.avs_map];simp;intro e;subst e;simp at aK
  have bf:=ih x jC;rw[aH]at bf hg;rw[kM aR]at v25;simp only[Re.leastSum]at hn;have aT:IntKind.i64.wrap ((i:Int)+1)=(i:Int)+1:=aM _ (by omega);have bY:IntKind.i64.wrap ((n:Int)+(x.least:Int))=(n:Int)+(x.least:Int):=aM _ (by omega);rw[bu a66l13.eq_1];simp[au,YW,zgD,zgC,zgB,v25,v26,v27,v3,aK,hg,bf,aT,bY];refine(ihr (i+1) (n+x.least) _ (by omega) gF.symm (by omega) ?_ ?_ ?_ ?_).mono fun e t h=>?_
  ·simp[v25,kM aR]
  ·simp[v26]
  ·simp
  ·simp
  ·obtain⟨e1,v',e2,e3⟩:=h;exact⟨e1,v',e2,by rw[e3];simp only[Re.leastSum,tX]⟩
def JE(n:Nat):List Re->Nat
 | []=>n
 |x::l=>JE (min n x.least) l
theorem zdx:∀(l:List Re)(n:Nat),l ≠ []->JE n l=min n (Re.leastMin l)
 | [],_,h=>absurd rfl h
 | [x],n,_=>rfl
 |x::y::l,n,_=>by
  rw[JE,zdx (y::l) _ (by simp)];simp only[Re.leastMin];omega
theorem znA(x:Re)(l:List Re):JE x.least (x::l)=Re.leastMin (x::l):=by
 rw[zdx _ _ (by simp)];have:=(WF x l).1;omega
theorem znU{ae:Nat}{l:List Re}{H:aj}(hw:Re.wideL l)(bq:l.length<1000000)
  (ih:∀x∈l,Rn ak SA.sp ae 66 [x.av] H=some (.ret (ag x.least),H)) :
  ∀(aY:List Re)(i n:Nat)(v:Nat->AV),i<=l.length->l.drop i=aY->v 44=bT (Re.avs l)->v 45=ag l.length->v 46=ag i->v 3=ag n->
   Wp (aP ak SA.sp ae (.loop a66l21) (az 263952017659567 v,H)) (fun e t=>e=.exit 3∧∃v',t=(az 263952017659567 v',H)∧v' 3=ag (JE n aY)):=by
 intro aY;induction aY with
 |nil=>
  intro i n v hi hr v44 v45 v46 v3;have aK:i=l.length:=by
   have:=dF List.length hr;rw[kZ]at this;simp at this;omega
  subst aK;rw[bu a66l21.eq_1];simp[au,YX,v45,v46];exact⟨_,rfl,by simp[v3,JE]⟩
 |cons x aY ihr=>
  intro i n v hi hr v44 v45 v46 v3;have aK:i<l.length:=by
   have:=dF List.length hr;rw[kZ]at this;simp at this;omega
  have jE:=iJ aK;rw[hr]at jE;obtain⟨hx,gF⟩:=zQ jE;have jC:x∈l:=hx▸mO aK;obtain⟨c1,c2,c3,c4,c5,c6,aH⟩:=Re.av_eight (kz.1 hw x jC);have hg:(Re.avs l)[i]?=some x.av:=by rw[sZ aK,←hx]
  have aR:Re.avs l ≠ []:=by rw[Re.avs_map];simp;intro e;subst e;simp at aK
  have bf:=ih x jC;rw[aH]at bf hg;rw[kM aR]at v44;have aT:IntKind.i64.wrap ((i:Int)+1)=(i:Int)+1:=aM _ (by omega);have hmin:min (n:Int) (x.least:Int)=((min n x.least:Nat):Int):=by omega
  rw[bu a66l21.eq_1];simp[au,YX,zgy,zgx,zgw,v44,v45,v46,v3,aK,hg,bf,aT];refine(ihr (i+1) (min n x.least) _ (by omega) gF.symm ?_ ?_ ?_ ?_).mono fun e t h=>h
  ·simp[v44,kM aR]
  ·simp[v45]
  ·simp
  ·by_cases h:x.least<n
   ·have e:min n x.least=x.least:=by omega
    simp[h,e]
   ·have e:min n x.least=n:=by omega
    simp[h,e]
theorem znT{k:Int}{set:List Nat}{mn mx:Int}{l:List Re}{dh ay:Int}(hc:(Re.mk k set mn mx l).can dh ay=true)(mZ:(Re.mk k set mn mx l).cap<=500)(hw:(Re.mk k set mn mx l).wide)
  (ih:∀x∈l,Rn ak SA.sp 0 66 [x.av] []=some (.ret (ag x.least),[])) (ae:Nat) (H:aj):Rn ak SA.sp ae 66 [(Re.mk k set mn mx l).av] H=some (.ret (ag (Re.mk k set mn mx l).least),H):=by
 obtain⟨r1,r2,r3,r4,r5,r6,r7⟩:=J4 hc;have hsm:=WE hc mZ;unfold Re.wide at hw;obtain⟨h4,bq,⟨m1,m2,m3,m4⟩,hwl⟩:=hw;obtain⟨a,b,c,d,rfl⟩:=four h4;refine di rfl rfl (by simp only[dG,qU];rfl) rfl ?_;rw[env66];by_cases e1:k=1
 ·subst e1;have hl:(Re.mk 1 [a,b,c,d] mn mx l).least=1:=by simp[Re.least]
  rw[hl];simp[au,a66,Kc,Kb,Ka,J9,NE,Re.av]
 have e1':(k==1)=false:=by simpa using e1
 by_cases e6:k=6
 ·subst e6;obtain⟨s1,s2,s3,s4,s5⟩:=r6 rfl;obtain⟨x,rfl⟩:∃x,l=[x]:=by
   match l,s1 with
   | [x],_=>exact⟨x,rfl⟩
  have hx:=ih x (by simp);simp only[Re.wideL,nE]at hwl;obtain⟨c1,c2,c3,c4,c5,c6,aH⟩:=Re.av_eight hwl;have hl:(Re.mk 6 [a,b,c,d] mn mx [x]).least=mn.toNat*x.least:=by simp[Re.least,Re.leastHead]
  rw[hl]at hsm ⊢;obtain⟨N,rfl⟩:∃N:Nat,mn=(N:Int):=⟨mn.toNat,by omega⟩
  have hxN:x.least<=500:=WE (XB.1 r7 x (by simp)) (zfc mZ x (by simp));have hrow6:bT (Re.avs [x])=.slc .ro [x.av]:=rfl;rw[aH]at hx hrow6;obtain⟨D,hD⟩:∃D,N*x.least=D:=⟨_,rfl⟩
  simp only[Int.toNat_natCast]at hsm ⊢;rw[hD]at hsm ⊢;have hDI:(N:Int)*(x.least:Int)=(D:Int):=by rw[←hD];push_cast;rfl
  have hwD:IntKind.i64.wrap (D:Int)=(D:Int):=aM _ (by omega);simp[bR,a66,lV,jy,jI,Kc,Kb,Ka,J9,NE,ND,SC,Re.av,hrow6,hx,hDI,hwD]
 have e6':(k==6)=false:=by simpa using e6
 have bz:(l=[]∧bT (Re.avs l)=.nils)∨bT (Re.avs l)=.slc .ro (Re.avs l):=by
  cases l with
  |nil=>exact .inl ⟨rfl,rfl⟩
  |cons x l=>exact .inr rfl
 by_cases e4:k=4
 ·subst e4;have hl:(Re.mk 4 [a,b,c,d] mn mx l).least=Re.leastSum l:=by simp[Re.least]
  rw[hl]at hsm ⊢;rcases bz with⟨rfl,bz⟩|bz;all_goals
   simp[bR,a66,Kc,Kb,Ka,J9,NE,ND,SC,Sz,zgv,Re.av,bz];refine(znS (ae:=0) (H:=[]) hwl bq hsm ih _ 0 0 _ (jK _) (xI) (by rw[jZ];exact hsm) ?_ ?_ ?_ ?_).mono fun e t h=>?_
   ·simp[bz]
   ·simp[ed]
   ·simp
   ·simp
   ·obtain⟨rfl,v',rfl,q3⟩:=h;simp[dX,SB,q3]
 have e4':(k==4)=false:=by simpa using e4
 by_cases e5:k=5
 ·subst e5;have hl2:=r5 rfl;have hl:(Re.mk 5 [a,b,c,d] mn mx l).least=Re.leastMin l:=by simp[Re.least]
  rw[hl]at hsm ⊢;obtain⟨x,l',rfl⟩:∃x l',l=x::l':=by
   cases l with
   |nil=>simp at hl2
   |cons x l'=>exact⟨x,l',rfl⟩
  have hx:=ih x (by simp);have hxw:x.wide:=by simp only[Re.wideL]at hwl;exact hwl.1
  obtain⟨c1,c2,c3,c4,c5,c6,aH⟩:=Re.av_eight hxw;have bz:bT (Re.avs (x::l'))=.slc .ro (Re.avs (x::l')):=rfl;have h0:(Re.avs (x::l'))[0]?=some x.av:=rfl;have hlen0:(Re.avs (x::l')).length=(x::l').length:=ed _;rw[aH]at hx h0;rw[←znA];have lH:0<(x::l').length:=by simp
  have gy:=fun v=>znU (ae:=0) (H:=[]) hwl bq ih (x::l') 0 x.least v (jK _) rfl;generalize x::l'=L at *;simp[bR,a66,Kc,Kb,Ka,J9,NE,ND,SC,Sz,YY,zgA,zgz,Re.av,bz,hlen0,h0,hx,lH];refine(gy _ ?_ ?_ ?_ ?_).mono fun e t h=>?_
  ·simp[bz]
  ·simp
  ·simp
  ·simp
  ·obtain⟨rfl,v',rfl,q3⟩:=h;simp[dX,SB,q3]
 have e5':(k==5)=false:=by simpa using e5
 have hl:(Re.mk k [a,b,c,d] mn mx l).least=0:=by simp[Re.least,e1,e4,e5,e6]
 rw[hl];simp[bR,a66,Kc,Kb,Ka,J9,ND,Sz,YY,SB,Re.av,e1',e4',e5',e6']
mutual
theorem zdF:∀(r:Re)(dh ay:Int),r.can dh ay=true->r.cap<=500->r.wide->∀(ae:Nat)(H:aj),Rn ak SA.sp ae 66 [r.av] H=some (.ret (ag r.least),H)
 | .mk k set mn mx l,dh,ay,hc,mZ,hw,ae,H=>znT hc mZ hw (fun x hx=>zdE l k ay (J4 hc).2.2.2.2.2.2 (zfc mZ) (by unfold Re.wide at hw;exact hw.2.2.2) x hx) ae H
theorem zdE:∀(l:List Re)(k ay:Int),Re.canL l k ay=true->(∀x∈l,x.cap<=500)->Re.wideL l->∀x∈l,Rn ak SA.sp 0 66 [x.av] []=some (.ret (ag x.least),[])
 | [],_,_,_,_,_=>fun x hx=>by cases hx
 |y::l,k,ay,hc,mZ,hw=>fun x hx=>by
  unfold Re.wideL at hw;simp only[Re.canL,aU]at hc;rcases il.1 hx with e|h
  ·rw[e];exact zdF y k (ay+1) hc.1 (mZ y (by simp)) hw.1 0 []
  ·exact zdE l k ay hc.2 (fun z hz=>mZ z (EM _ hz)) hw.2 x h
end
theorem zse{ae:Nat}{r:Re}(hw:r.wide)(hc:r.can (-1) 1=true)(mZ:r.cap<=500)(H:aj):Rn ak SA.sp ae 42 [r.av] H=some (.ret (ag r.least),H):=by
 have h1:=XA (S:=SA) r hw (-1) 1 (by omega) (by omega) 0 [];rw[hc]at h1;have h2:=zdF r (-1) 1 hc mZ hw 0 [];obtain⟨c1,c2,c3,c4,c5,c6,aH⟩:=Re.av_eight hw;refine di rfl rfl (by simp only[dG,qU];rfl) rfl ?_;rw[env42];rw[aH]at h1 h2 ⊢;simp[dN,a42,zg3,zg2,zg1,zg0,h1,h2]
end
end Go.Ak
namespace Go.Ak
def MM:List Nat->Int
 | []=> -1
 | [a]=>a
 |_::b::l=>MM (b::l)
theorem zdJ:∀(l:List Nat),l.Pairwise (· < ·)->(l=[]∧MM l= -1)∨(∃m∈l,MM l=(m:Int)∧∀k∈l,k<=m)
 | [],_=>.inl ⟨rfl,rfl⟩
 | [a],_=>.inr ⟨a,by simp,rfl,fun k hk=>by simp at hk;omega⟩
 |a::b::l,h=>by
  obtain⟨h1,h2⟩:=List.pairwise_cons.1 h;rcases zdJ (b::l) h2 with⟨e,_⟩|⟨m,m1,m2,m3⟩
  ·cases e
  ·refine .inr ⟨m,EM _ m1,m2,fun k hk=>?_⟩;rcases il.1 hk with rfl|hk
   ·exact Nat.le_of_lt (h1 m m1)
   ·exact m3 k hk
def eF(r:Re)(s:List UInt8)(i:Nat):Int:=MM (Ct (lF r).2 (lF r).1 s i)
theorem Xj{r:Re}(h:r.fine){s:List UInt8}{i:Nat}(hi:i<=s.length):(eF r s i= -1∧∀j,¬r.M s i j)∨(∃j:Nat,eF r s i=(j:Int)∧r.M s i j∧∀k,r.M s i k->k<=j):=by
 obtain⟨h1,h2⟩:=zp5 h hi;rcases zdJ _ h2 with⟨e,e2⟩|⟨m,m1,m2,m3⟩
 ·refine .inl ⟨e2,fun j hj=>?_⟩;have:=(h1 j).2 hj;rw[e]at this;cases this
 ·exact .inr ⟨m,m2,(h1 m).1 m1,fun k hk=>m3 k ((h1 k).2 hk)⟩
theorem Rp{r:Re}(h:r.fine)(s:List UInt8):Ahead (eF r s) s.length:=by
 intro i hi;rcases Xj h hi with⟨e,_⟩|⟨j,e,hm,_⟩
 ·exact .inl (by omega)
 ·have h1:=Re.least_ok s r i j hm;have h2:=Re.M_stays s r i j (by omega) hm;exact .inr (by omega)
theorem zqh{r:Re}(h:r.fine){s:List UInt8}{i:Nat}(hi:i<=s.length)(hl:s.length<i+r.least):eF r s i<0:=by
 rcases Xj h hi with⟨e,_⟩|⟨j,e,hm,_⟩
 ·omega
 ·have h1:=Re.least_ok s r i j hm;have h2:=Re.M_stays s r i j (by omega) hm;omega
theorem QU{len:Nat}:∀{l:List (Nat×Nat)}{ax:Nat}{bQ:Int},InOrder len ax bQ l-> -1<=bQ->(l.length:Int)+bQ<=len∨l=[]
 | [],_,_,_,_=>.inr rfl
 |(f,t)::l,ax,bQ,h,hl=>by
  obtain⟨a,b,c,d,e⟩:=h;rcases QU e (by omega)with h1|rfl
  ·left;simp only[fF];omega
  ·left;simp only[fF,gW];omega
def EZ(x:Nat×Nat):Int×Int:=(x.1,x.2)
theorem QR{e:Nat->Int}{len:Nat}(he:Ahead e len)(bq:len<=1000000){jO:Int->Option (Int×Int×Bool)}
  (hf:∀a:Nat,a<=len->jO a=some (match ji e (len+1-a) a with|none=>(0,0,false)|some (f,t)=>((f:Int),(t:Int),true))) :
  ∀(n ax:Nat)(bQ:Int),lU len ax bQ<=n->jL jO len n ax bQ=some ((qw e len n ax bQ).map EZ)
 |0,ax,bQ,h=>by unfold lU at h;omega
 |n+1,ax,bQ,h=>by
  rw[jL,qw];by_cases h0:len<ax
  ·have:decide ((ax:Int)<=(len:Int))=false:=by simp;omega
   rw[this,aS h0];rfl
  ·have hd:decide ((ax:Int)<=(len:Int))=true:=by simp;omega
   rw[hd,aF h0,hf ax (by omega)];simp only[bA];cases hq:ji e (len+1-ax) ax with
   |none=>rfl
   |some q=>
    obtain⟨f,t⟩:=q;obtain⟨a1,a2,a3,_,_⟩:=Rj he _ ax (by omega) hq;simp only[bA];by_cases hc:f=t∧(f:Int)=bQ
    ·have hcd:(decide ((f:Int)=(t:Int))&&decide ((f:Int)=bQ))=true:=by simp;omega
     have hw:RowKit.wrap64 ((f:Int)+1)=((f+1:Nat):Int):=by
      unfold RowKit.wrap64;omega
     rw[hcd,aS hc,hw];simp only[bA];refine QR he bq hf n (f+1) bQ ?_;unfold lU at h ⊢;obtain⟨c1,c2⟩:=hc;have:¬((f+1:Nat):Int)=bQ:=by omega
     rw[aF this];split at h<;>omega
    ·have hcd:(decide ((f:Int)=(t:Int))&&decide ((f:Int)=bQ))=false:=by
      rw[LV];by_cases e1:f=t
      ·exact .inr (by simp;intro e2;exact hc ⟨e1,e2⟩)
      ·exact .inl (by simp;omega)
     rw[hcd,aF hc];simp only[fq];have ih:=QR he bq hf n t t (by
      unfold lU at h ⊢;rw[aS rfl];split at h
      ·rename_i e1;by_cases e2:t=ax
       ·exact absurd ⟨by omega,by omega⟩ hc
       ·omega
      ·omega)
     rw[ih];rfl
end Go.Ak
namespace Go.Ak
attribute [local simp] Av EA EC EB mM zK wH Cy CB Cz BP BM BN Ac Cs Cq Cr Bz BA
 jP kr wanted cB dZ l8 live BR zU Aj Bw xN put vZ esc sS yn args drop1 jv xV xU yj qX rd wr kW sub AV.cells pack one setCells nJ qI qJ roOf gT qF jI jy mf eY newRow newObj step Ce Cf qR take cz bB lim mG bound uh ww uu nO yf fO
 Cm Ck Ch Ci Cj
 pY ru Ap rR BZ Ca BX
attribute [local simp] sR sT cV bL kA kB kC af aQ aJ gK ah aC dC aA eQ iY fI bH eO bD bN gQ rU bI rF aL dI eZ fK gp lX bW iQ df cO jc dP dM gm mJ fH gH iq iR lc ku fB jX iH iI
attribute [-simp] getElem?_pos
section
theorem zdL:∀l:List Nat,Gx l=MM l
 | []=>rfl
 | [_]=>rfl
 |_::b::l=>zdL (b::l)
structure Pat(H:aj)(p:Nat)(t:List UInt8)(r:Re):Prop where
 fine:r.fine
 small:r.cnt<=499
 least:r.least<=500
 obj:∃eG q,eB H p=some (some [.str t,.ptr eG 0,ag r.least])∧PC H eG q (lF r).2 (lF r).1
def P7(s:List UInt8)(H:aj)(x:PR Re)(o:Out)(H':aj):Prop:=
 match x with
 | .er a w=>o=.ret (.tup [.nilp,ag a,ag w])∧H'=H
 | .ok r _=> ∃p,o=.ret (.tup [.ptr p 0,ag 0,ag 0])∧H.length<=p∧(∀i,i<H.length->eB H' i=eB H i)∧Pat H' p s r
theorem zi2{ae:Nat}{H:aj}(s:List UInt8)(hb:ae<=H.length):Wc (Rn ak SA.sp ae 10 [.str s] H) (P7 s H (rG s)):=by
 have hz:emptyRe.av=.agg [.int .i64 0,.int .u64 0,.int .u64 0,.int .u64 0,.int .u64 0,.int .i64 0,.int .i64 0,.nils]:=rfl;have hp:=fun H=>zl0 (ae:=ae) (H:=H) s;refine jl rfl rfl rfl ?_;rw[env10];unfold rG;cases hx:uj s with
 |er a w=>
  have hw:=Wm hx;have bY:((w:Int) != 0)=true:=by simp[bne];omega
  rw[hx]at hp;simp only[p9,hz]at hp;simp[dN,P7,PE,PD,Pz,Py,a10,hp,hw,bY]
 |ok r j=>
  have hrw:=Wl hx;rw[hx]at hp;obtain⟨c1,c2,c3,c4,c5,c6,aH⟩:=Re.av_eight hrw;simp only[p9]at hp;obtain⟨o,H1,q1,q2⟩:=zsk (S:=SA) (ae:=ae) (H:=H) hrw hb;rw[aH]at hp q1;replace hp:∀H,Rn ak SA.sp ae 41 [.str s] H=some (.ret (.tup [.agg [.int .i64 r.k,c1,c2,c3,c4,c5,c6,bT (Re.avs r.l)],.int .i64 0,.int .i64 0]),H):=hp;rcases q2 with⟨h0,rfl,rfl⟩|⟨h5,rfl,rfl⟩|⟨h0,h5,rfl,hF,q,hq,hPC⟩
  ·simp only;rw[aS h0];simp[dN,P7,PE,PD,Pz,Py,Vd,Vb,Va,a10,hp,q1]
  ·simp only;rw[aF (by omega),aS h5];simp[dN,P7,PE,PD,Pz,Py,Vd,Vb,Va,a10,hp,q1]
  ·simp only;rw[aF (by omega),aF (by omega)];have hcan:r.can (-1) 1=true:=by
    cases h:r.can (-1) 1 with
    |true=>rfl
    |false=>simp[Re.states,h]at h0
   have dx:r.states=min r.cap 500+1:=by simp[Re.states,hcan]
   have mZ:r.cap<=499:=by omega
   have Cb:=Re.can_fine r (-1) 1 hcan;have qi:=Re.cap_cnt r (-1) 1 hcan (by omega);have hleast:=zse (ae:=ae) hrw hcan (by omega) H1;have cu:=WE hcan (by omega);have hl1:H.length<H1.length:=fA hPC.pc;rw[aH]at hleast;simp[dN,P7,PE,PD,Pz,Py,Vd,Vb,Va,ziI,a10,hp,q1,hleast];refine⟨by omega,fun i hi=>?_,Cb,by omega,cu,H.length,q,rR _ _,hPC.app _⟩;rw[l9 _ (by omega)];exact hF i hi
def Au(x:Option (Nat×Nat)):AV:=match x with
 |none=>.tup [ag 0,ag 0,.bool false]
 |some (f,t)=>.tup [ag f,ag t,.bool true]
theorem zoO{ae:Nat}{H:aj}{p:Nat}{t:List UInt8}{r:Re}(hP:Pat H p t r){s:List UInt8}(hl:s.length<=100000):
  ∀(n ax:Nat)(v:Nat->AV),ax+n=s.length+1->v 0=.ptr p 0->v 1=.str s->v 2=ag ax->
   Wp (aP ak SA.sp ae (.loop a43l8) (az 2148535239 v,H)) (fun e t'=>match ji (eF r s) n ax with
    |none=>e=.exit 0∧∃v',t'=(az 2148535239 v',H)
    |some (a,b)=>e=.ret∧∃v',t'=(az 2148535239 v',H)∧v' 6=ag a∧v' 7=ag b∧v' 8=.bool true):=by
 obtain⟨Cb,hsmall,hleast,eG,q,ho,hPC⟩:=hP;obtain⟨g1,g2,g3,g4⟩:=Wz Cb;intro n;induction n with
 |zero=>
  intro ax v hn v0 v1 v2;have hx:¬(ax:Int)+(r.least:Int)<=(s.length:Int):=by omega
  have hw:IntKind.i64.wrap ((ax:Int)+(r.least:Int))=(ax:Int)+(r.least:Int):=aM _ (by omega);rw[bu a43l8.eq_1];simp[au,NP,v0,v1,v2,ho,hw,hx,ji];exact⟨_,rfl⟩
 |succ n ih=>
  intro ax v hn v0 v1 v2;have dQ:ax<=s.length:=by omega
  have hw:IntKind.i64.wrap ((ax:Int)+(r.least:Int))=(ax:Int)+(r.least:Int):=aM _ (by omega);have aT:IntKind.i64.wrap ((ax:Int)+1)=(ax:Int)+1:=aM _ (by omega);rw[bu a43l8.eq_1];by_cases hx:(ax:Int)+(r.least:Int)<=(s.length:Int)
  ·have hL:=zsd (S:=SA) (ae:=ae) (s:=s) (ax:=ax) hPC g1 g2 (by omega) (by omega) dQ;have he:Gx (Ct (lF r).2 (lF r).1 s ax)=eF r s ax:=zdL _;rw[he]at hL;by_cases hx2:0<=eF r s ax
   ·have hfn:ji (eF r s) (n+1) ax=some (ax,(eF r s ax).toNat):=by rw[ji,aS hx2]
    have hb:ag (eF r s ax).toNat=.int .i64 (eF r s ax):=by simp only[ag,AV.int.injEq,Bj];omega
    rw[hfn];simp[au,NP,Ze,Zd,Zc,v0,v1,v2,ho,hw,hx,hL,hx2];exact⟨_,rfl,by simp,by simp;omega,by simp⟩
   ·have hfn:ji (eF r s) (n+1) ax=ji (eF r s) n (ax+1):=by rw[ji,aF hx2]
    rw[hfn];simp[au,NP,Ze,Zd,Zc,zgW,v0,v1,v2,ho,hw,hx,hL,hx2,aT];refine ih (ax+1) _ (by omega) ?_ ?_ ?_
    ·simp[v0]
    ·simp[v1]
    ·simp
  ·have hfn:ji (eF r s) (n+1) ax=none:=by
    rw[zeb];intro i h1 h2;exact zqh Cb (by omega) (by omega)
   rw[hfn];simp[au,NP,v0,v1,v2,ho,hw,hx];exact⟨_,rfl⟩
theorem zoN{ae:Nat}{H:aj}{p:Nat}{t:List UInt8}{r:Re}(hP:Pat H p t r){s:List UInt8}(hl:s.length<=100000){ax:Nat}(dQ:ax<=s.length+1):
  Rn ak SA.sp ae 43 [.ptr p 0,.str s,ag ax] H=some (.ret (Au (ji (eF r s) (s.length+1-ax) ax)),H):=by
 refine xS rfl rfl rfl rfl ?_;rw[env43];have hx:¬(ax:Int)<0:=by omega
 simp[au,zgZ,zgY,zgX,a43,hx];refine(zoO (ae:=H.length) hP hl (s.length+1-ax) ax _ (by omega) ?_ ?_ ?_).mono fun e t' h=>?_
 ·simp
 ·simp
 ·simp
 cases hq:ji (eF r s) (s.length+1-ax) ax with
 |none=>
  rw[hq]at h;obtain⟨rfl,v',rfl⟩:=h;simp[dX,zgV,Au,aN,bg]
 |some x=>
  obtain⟨a,b⟩:=x;rw[hq]at h;obtain⟨rfl,v',rfl,q6,q7,q8⟩:=h;simp[q6,q7,q8,Au,aN,bg]
def kX(r:Re)(s:List UInt8):List (Nat×Nat):=qw (eF r s) s.length (lU s.length 0 (-1)) 0 (-1)
theorem XW{r:Re}(h:r.fine)(s:List UInt8):InOrder s.length 0 (-1) (kX r s):=XX (Rp h s) _ 0 (-1) (by omega)
theorem zsn{ae:Nat}{H:aj}{p:Nat}{t:List UInt8}{r:Re}(hP:Pat H p t r){s:List UInt8}(hl:s.length<=100000):
  Rn ak SA.sp ae 11 [.ptr p 0,.str s] H=some (.ret (QS ((kX r s).map EZ)),H):=by
 have hm:Mono fun n=>BG n (run ak qE n) [.ptr p 0,.str s] H:=fun n m r l e=>zcf l (fun b=>qG SA.mono n m b l) _ _ _ e;rw[zr5,JH hm]
 -- every find is told by some bound
 have each:∀a:Nat,a<=s.length->∃n,run ak qE n H.length 43 [.ptr p 0,.str s,ag a] H=some (.ret (Au (ji (eF r s) (s.length+1-a) a)),H):=fun a ha=>
  (vR SA.mono).1 (zoN hP hl (by omega))
 have bound:∀m,m<=s.length+1->∃N,∀a,a<m->run ak qE N H.length 43 [.ptr p 0,.str s,ag a] H=some (.ret (Au (ji (eF r s) (s.length+1-a) a)),H):=by
  intro m;induction m with
  |zero=>exact fun _=>⟨0,fun a ha=>by omega⟩
  |succ m ih=>
   intro hm;obtain⟨N,hN⟩:=ih (by omega);obtain⟨n,hn⟩:=each m (by omega);refine⟨max N n,fun a ha=>?_⟩;by_cases e:a=m
   ·subst e;exact qG SA.mono n (max N n) H.length (by omega) _ _ _ _ hn
   ·exact qG SA.mono N (max N n) H.length (by omega) _ _ _ _ (hN a (by omega))
 obtain⟨N,hN⟩:=bound (s.length+1) (aX _);refine⟨max N (lU s.length 0 (-1)),?_⟩;have hfind:∀a:Nat,a<=s.length->Co (run ak qE (max N (lU s.length 0 (-1)))) p 0 s H a=some (match ji (eF r s) (s.length+1-a) a with|none=>(0,0,false)|some (f,t)=>((f:Int),(t:Int),true)):=fun a ha=>by
  have h:=qG SA.mono N (max N (lU s.length 0 (-1))) H.length (by omega) _ _ _ _ (hN a (by omega));unfold Co;replace h:run ak qE (max N (lU s.length 0 (-1))) H.length 43 [.ptr p 0,.str s,.int .i64 a] H=_:=h;rw[h];cases hq:ji (eF r s) (s.length+1-a) a with
  |none=>rfl
  |some x=>rfl
 have hparts:=QR (Rp hP.fine s) (by omega) hfind (max N (lU s.length 0 (-1))) 0 (-1) (by omega);have hdet:qw (eF r s) s.length (max N (lU s.length 0 (-1))) 0 (-1)=kX r s:=by
  have h1:=QR (Rp hP.fine s) (by omega) hfind (lU s.length 0 (-1)) 0 (-1) (aX _);have h2:=QQ (fun a r h=>h) (lU s.length 0 (-1)) (max N (lU s.length 0 (-1))) 0 (-1) _ (by omega) h1;have h3:some ((qw (eF r s) s.length (max N (lU s.length 0 (-1))) 0 (-1)).map EZ)=some ((kX r s).map EZ):=by rw[←hparts];exact h2
  have h4:=Bl h3;refine(List.map_inj_right fun x y h=>?_).1 h4;obtain⟨a,b⟩:=x;obtain⟨c,d⟩:=y;simp only[EZ,eU]at h;simp only[eU];omega
 rw[hdet]at hparts;have sO:=QU (XW hP.fine s) (by omega);have bq:Nat.ble ((kX r s).map EZ).length 1000000=true:=by
  rw[Nat.ble_eq,pX];rcases sO with h|h
  ·omega
  ·rw[h];simp
 simp only[BG];replace hparts:jL (Co (run ak qE (max N (lU s.length 0 (-1)))) p 0 s H) (s.length:Int) (max N (lU s.length 0 (-1))) 0 (-1)=_:=hparts;rw[hparts];simp only[bq,bA]
end
section
def ql(w:List Nat)(c:Nat):Bool:=Nat.testBit (w.getD (c/64) 0) (c%64)
theorem zm2{ae:Nat}{H:aj}{a b c d:Nat}:∀(n i:Nat)(v:Nat->AV),i+n=256->v 1=.box [u64 a,u64 b,u64 c,u64 d]->v 4=ag i->v 3=.box (fM (iG aO (ql [a,b,c,d]) i))->
  Wp (aP ak SA.sp ae (.loop a72l6) (az 159 v,H)) (fun e t=>e=.exit 0∧∃v',t=(az 159 v',H)∧v' 2=v 2∧v' 3=.box (fM (ql [a,b,c,d]))):=by
 intro n;induction n with
 |zero=>
  intro i v hi v1 v4 v3;have aK:i=256:=by omega
  subst aK;have he:fM (iG aO (ql [a,b,c,d]) 256)=fM (ql [a,b,c,d]):=by rw[zbP,QW]
  rw[bu a72l6.eq_1];simp[au,YI,v4];exact⟨_,rfl,by simp,by simp[v3,he]⟩
 |succ n ih=>
  intro i v hi v1 v4 v3;have hi2:i<256:=by omega
  have hi3:i+1<=256:=by omega
  have hiI:(i:Int)<256:=by omega
  have hq:i/64<4:=by omega
  have hq5:i/64+1<=4:=by omega
  have hqw:IntKind.i64.wrap ((i:Int)/64)=(i:Int)/64:=aM _ (by omega);have hrw:IntKind.i64.wrap ((i:Int)%64)=(i:Int)%64:=aM _ (by omega);have aT:IntKind.i64.wrap ((i:Int)+1)=(i:Int)+1:=aM _ (by omega);have hq0:0<=(i:Int)/64:=by omega
  have hqt:((i:Int)/64).toNat=i/64:=by omega
  have sQ:List.take 1 (List.drop (i/64) [u64 a,u64 b,u64 c,u64 d])=[u64 ([a,b,c,d].getD (i/64) 0)]:=by
   have:i/64=0∨i/64=1∨i/64=2∨i/64=3:=by omega
   rcases this with h|h|h|h<;>rw[h]<;>rfl
  have htm:((i:Int).tmod 64)=((i%64:Nat):Int):=by rw[VB (by omega)];omega
  have hwu:IntKind.u64.wrap ((i%64:Nat):Int)=((i%64:Nat):Int):=Jm (by omega);have hwi:IntKind.i64.wrap ((i%64:Nat):Int)=((i%64:Nat):Int):=aM _ (by omega);generalize hw: [a,b,c,d].getD (i/64) 0=w at sQ;have hbit:ql [a,b,c,d] i=decide (w/2^(i%64)%2=1):=by unfold ql;rw[hw,Nat.testBit_eq_decide_div_mod_eq]
  have hfd:(((w:Int).fdiv (2^(min (i%64) IntKind.u64.bits))).tmod 2==1)=ql [a,b,c,d] i:=by
   rw[show min (i%64) IntKind.u64.bits=i%64 by simp only[IntKind.bits];omega,Int.fdiv_eq_ediv_of_nonneg _ (Int.le_of_lt (Int.pow_pos (by decide))),hbit];have e:(w:Int)/2^(i%64)=((w/2^(i%64):Nat):Int):=by push_cast;rfl
   rw[e];generalize w/2^(i%64)=z;have h2:((z:Nat):Int).tmod 2=((z%2:Nat):Int):=by rw[VB (by omega)];omega
   rw[h2];by_cases h:z%2=1
   ·simp[h]
   ·have:z%2=0:=by omega
    simp[this]
  have cK:=Nj (iG aO (ql [a,b,c,d]) i) i (iG aO (ql [a,b,c,d]) i i||ql [a,b,c,d] i);rw[Qq]at cK;have hz:iG aO (ql [a,b,c,d]) i i=false:=by simp[iG,aO]
  rw[hz,xJ]at cK;have aR:¬((i%64:Nat):Int)<0:=by omega
  generalize i%64=k at htm hwu hwi hfd aR;rw[bu a72l6.eq_1];simp[au,YI,zgi,zgh,v1,v3,v4,hi2,hi3,hiI,hq,hq5,hqw,aT,hq0,hqt,mr,sQ,htm,hwu,hwi,aR];rw[hfd,cK];refine(ih (i+1) _ (by omega) ?_ ?_ ?_).mono fun e t h=>by simpa using h
  ·simp[v1]
  ·simp
  ·simp
theorem zox(H:aj)(p:Nat->Bool):bg 0 H (fM p)=some (fM p):=by
 have:∀l:List Nat,bg 0 H (l.map fun i=>AV.bool (p i))=some (l.map fun i=>AV.bool (p i)):=fun l=>by
  induction l with
  |nil=>rfl
  |cons x l ih=>simp[bg,ih]
 exact this _
theorem zsb{ae:Nat}{H:aj}(a b c d:Nat):Rn ak SA.sp ae 72 [.agg [u64 a,u64 b,u64 c,u64 d]] H=some (.ret (.agg (fM (ql [a,b,c,d]))),H):=by
 have jT:=zox [] (ql [a,b,c,d]);refine di rfl rfl rfl rfl ?_;rw[env72];simp[iO, -List.reduceReplicate,XF,mr,GX,Nk,zgl,zgk,zgj,a72];refine(zm2 (ae:=0) (H:=[]) (a:=a) (b:=b) (c:=c) (d:=d) 256 0 _ (by omega) ?_ ?_ ?_).mono fun e t h=>?_
 ·simp
 ·simp
 ·rw[LZ];simp
 ·obtain⟨rfl,v',rfl,k2,k3⟩:=h;simp at k2;simp[dX,zgg,k2,k3,mr,GX,Nk,jT,aN]
end
section
def dY(n:Nat)(p:Nat->Bool):List AV:=(List.range n).map fun j=>.bool (p j)
theorem iK(n:Nat)(p:Nat->Bool):(dY n p).length=n:=by simp[dY]
theorem sF(p:Nat->Bool){n i:Nat}(h:i<n):(dY n p)[i]?=some (.bool (p i)):=by
 unfold dY;rw[xH,LM h];rfl
theorem Jy(p:Nat->Bool)(n i:Nat)(b:Bool):(dY n p).set i (.bool b)=dY n (fun x=>if x=i then b else p x):=by
 apply Br;intro j;rw[EN];by_cases hj:j<n
 ·rw[sF _ hj,sF _ hj];by_cases e:i=j
  ·subst e;simp[iK,hj]
  ·have:¬j=i:=fun h=>e h.symm;simp[e,this]
 ·have h1:∀q:Nat->Bool,(dY n q)[j]?=none:=fun q=>pq (by rw[iK];omega);rw[h1,h1];by_cases e:i=j
  ·subst e;simp[iK,hj]
  ·simp[e]
theorem V8(n:Nat):List.replicate n (AV.bool false)=dY n aO:=by
 induction n with
 |zero=>rfl
 |succ n ih=>rw[Vz,ih];unfold dY;rw[LJ,LK];rfl
theorem MB{n:Nat}{p q:Nat->Bool}(h:∀i,i<n->p i=q i):dY n p=dY n q:=by
 unfold dY;apply Bp;intro i hi;rw[h i (EK.1 hi)]
def bZ(n:Nat)(f:Nat->Nat->Bool):List AV:=(List.range n).map fun i=>.slc .ro (dY n (f i))
theorem gB(n:Nat)(f:Nat->Nat->Bool):(bZ n f).length=n:=by simp[bZ]
theorem Jv(f:Nat->Nat->Bool){n i:Nat}(h:i<n):(bZ n f)[i]?=some (.slc .ro (dY n (f i))):=by
 unfold bZ;rw[xH,LM h];rfl
theorem zqe{ae:Nat}{H:aj}{n i:Nat}{f g:Nat->Nat->Bool}(hn:n<=1000)(hi:i<n):∀(m j:Nat)(v:Nat->AV),j+m=n->v 0=.slc .ro (bZ n f)->v 1=.slc .ro (bZ n g)->v 6=ag i->v 8=ag j->v 7=.slc .own (dY n (iG aO (jH f g i) j))->
  Wp (aP ak SA.sp ae (.loop a74l9) (az 4202995 v,H)) (fun e t=>e=.exit 2∧∃v',t=(az 4202995 v',H)∧v' 0=.slc .ro (bZ n f)∧v' 1=.slc .ro (bZ n g)∧v' 6=ag i∧v' 5=v 5∧v' 7=.slc .own (dY n (jH f g i))):=by
 intro m;induction m with
 |zero=>
  intro j v hj v0 v1 v6 v8 v7;have hj':j=n:=by omega
  subst hj';have he:dY j (iG aO (jH f g i) j)=dY j (jH f g i):=MB fun x hx=>by simp[iG,aO,hx]
  rw[he]at v7;rw[bu a74l9.eq_1];simp[au,Sl,v0,v8,gB];exact⟨_,rfl,by simp[v0],by simp[v1],by simp[v6],by simp,by simp[v7]⟩
 |succ m ih=>
  intro j v hj v0 v1 v6 v8 v7;have hj':j<n:=by omega
  have aT:IntKind.i64.wrap ((j:Int)+1)=(j:Int)+1:=aM _ (by omega);have g1:=Jv f hi;have g2:=Jv g hi;have g3:=sF (f i) hj';have g4:=sF (g i) hj';have g5:=sF (iG aO (jH f g i) j) hj';have cK:=Jy (iG aO (jH f g i) j) n j (iG aO (jH f g i) j j||jH f g i j);rw[Qq]at cK;have hz:iG aO (jH f g i) j j=false:=by simp[iG,aO]
  rw[hz,xJ]at cK;have next:∀w:Nat->AV,w 0=.slc .ro (bZ n f)->w 1=.slc .ro (bZ n g)->w 6=ag i->w 8=ag (j+1)->w 7=.slc .own (dY n (iG aO (jH f g i) (j+1)))->w 5=v 5->
    Wp (aP ak SA.sp ae (.loop a74l9) (az 4202995 w,H)) (fun e t=>e=.exit 2∧∃v',t=(az 4202995 v',H)∧v' 0=.slc .ro (bZ n f)∧v' 1=.slc .ro (bZ n g)∧v' 6=ag i∧v' 5=v 5∧v' 7=.slc .own (dY n (jH f g i))):=fun w w0 w1 w6 w8 w7 w5=>by
   rw[←w5];exact ih (j+1) w (by omega) w0 w1 w6 w8 w7
  rw[bu a74l9.eq_1];cases hf:f i j with
  |true=>
   rw[hf]at g3;have he:jH f g i j=true:=by simp[jH,hf]
   rw[he]at cK;simp[au,Sl,YA,Yz,v0,v1,v6,v7,v8,gB,iK,hi,hj',g1,g2,g3,g5,aT,cK];refine next _ ?_ ?_ ?_ ?_ ?_ ?_
   all_goals simp[v0,v1,v6]
  |false=>
   rw[hf]at g3;have he:jH f g i j=g i j:=by simp[jH,hf]
   rw[he]at cK;simp[au,Sl,YA,Yz,v0,v1,v6,v7,v8,gB,iK,hi,hj',g1,g2,g3,g4,g5,aT,cK];refine next _ ?_ ?_ ?_ ?_ ?_ ?_
   all_goals simp[v0,v1,v6]
def rE(n i:Nat)(f:Nat->Nat->Bool):List AV:=(List.range i).map fun k=>.slc .ro (dY n (f k))
theorem V7(n i:Nat)(f:Nat->Nat->Bool):rE n (i+1) f=rE n i f ++[.slc .ro (dY n (f i))]:=by
 unfold rE;rw[LJ,LK];rfl
theorem Mx(n i:Nat)(f:Nat->Nat->Bool):(rE n i f).length=i:=by simp[rE]
theorem MR(n i:Nat)(f:Nat->Nat->Bool):jF 0 (rE n i f)=true:=by
 have:∀l:List Nat,jF 0 (l.map fun k=>AV.slc .ro (dY n (f k)))=true:=fun l=>by
  induction l with
  |nil=>rfl
  |cons x l ih=>simp[jF,ih]
 exact this _
theorem zqd{ae:Nat}{H:aj}{n:Nat}{f g:Nat->Nat->Bool}(hn:n<=1000):∀(m i:Nat)(v:Nat->AV),i+m=n->v 0=.slc .ro (bZ n f)->v 1=.slc .ro (bZ n g)->v 6=ag i->v 5=.slc .own (rE n i (jH f g))->
  Wp (aP ak SA.sp ae (.loop a74l12) (az 4202995 v,H)) (fun e t=>e=.exit 0∧∃v',t=(az 4202995 v',H)∧v' 5=.slc .own (bZ n (jH f g))):=by
 intro m;induction m with
 |zero=>
  intro i v hi v0 v1 v6 v5;have aK:i=n:=by omega
  subst aK;rw[bu a74l12.eq_1];simp[au,YB,v0,v6,gB];exact⟨_,rfl,by simp[v5];rfl⟩
 |succ m ih=>
  intro i v hi v0 v1 v6 v5;have aK:i<n:=by omega
  have aT:IntKind.i64.wrap ((i:Int)+1)=(i:Int)+1:=aM _ (by omega);have kw:n<=4294967296:=by omega
  rw[bu a74l12.eq_1];simp[au, -List.reduceReplicate,YB,zf1,zf0,v0,v6,gB,aK,V8,kw];refine(zqe (ae:=ae) (H:=H) (f:=f) (g:=g) hn aK n 0 _ (by omega) ?_ ?_ ?_ ?_ ?_).mono fun e t h=>?_
  ·simp[v0]
  ·simp[v1]
  ·simp[v6]
  ·simp
  ·rw[LZ];simp
  obtain⟨rfl,u,rfl,k0,k1,k6,k5,k7⟩:=h;simp at k5;rw[v5]at k5;have bV:List.take n (dY n (jH f g i))=dY n (jH f g i):=ek (by rw[iK];exact aX _);have hi5:i<=4294967295:=by omega
  have bF:=MR n i (jH f g);simp[au,zf5,zf4,k0,k1,k5,k6,k7,iK,Mx,aT,eY,bV,hi5,bF];refine(ih (i+1) _ (by omega) ?_ ?_ ?_ ?_).mono fun e t h=>by simpa using h
  ·simp[k0]
  ·simp[k1]
  ·simp
  ·simp[V7]
theorem ze3(l:List Nat)(p:Nat->Bool):dG (l.map fun j=>AV.bool (p j))=true:=by
 induction l with
 |nil=>rfl
 |cons x l ih=>simp[dG,gq,ih]
theorem JW(n:Nat)(f:Nat->Nat->Bool):gq (.slc .ro (bZ n f))=true:=by
 have:∀l:List Nat,dG (l.map fun k=>AV.slc .ro (dY n (f k)))=true:=fun l=>by
  induction l with
  |nil=>rfl
  |cons x l ih=>
   have h:=ze3 (List.range n) (f x);simp only[mE,dG,gq];rw[ih];unfold dY;rw[h];rfl
 simpa[gq,bZ]using this (List.range n)
theorem WW(H:aj)(p:Perm)(n:Nat)(f:Nat->Nat->Bool):aN 0 H (.slc p (bZ n f))=some (.slc p (bZ n f)):=by
 have hb:∀(p:Nat->Bool)(l:List Nat),bg 0 H (l.map fun j=>AV.bool (p j))=some (l.map fun j=>AV.bool (p j)):=fun p l=>by
  induction l with
  |nil=>rfl
  |cons x l ih=>simp[bg,aN,ih]
 have:∀l:List Nat,bg 0 H (l.map fun k=>AV.slc .ro (dY n (f k)))=some (l.map fun k=>AV.slc .ro (dY n (f k))):=fun l=>by
  induction l with
  |nil=>rfl
  |cons x l ih=>
   have h:=hb (f x) (List.range n);simp only[mE,bg,aN];rw[ih];unfold dY;rw[h]
 have h:=this (List.range n);cases p<;>(simp only[aN,bZ];rw[h])
theorem zeN{ae:Nat}{H:aj}{n:Nat}{f g:Nat->Nat->Bool}(hn:n<=1000):Rn ak SA.sp ae 74 [.slc .ro (bZ n f),.slc .ro (bZ n g)] H=some (.ret (.slc .own (bZ n (jH f g))),H):=by
 have hc:dG [.slc .ro (bZ n f),.slc .ro (bZ n g)]=true:=by
  have h1:=JW n f;have h2:=JW n g;simp only[dG,h1,h2];rfl
 have jT:=WW [] .own n (jH f g);have bV:List.take n (bZ n (jH f g))=bZ n (jH f g):=ek (by rw[gB];exact aX _);have bF:=MR n n (jH f g);have hII:rE n n (jH f g)=bZ n (jH f g):=rfl;rw[hII]at bF;refine di rfl rfl hc rfl ?_;rw[env74];simp[iO,zf7,zf6,zf2,a74];refine(zqd (ae:=0) (H:=[]) (f:=f) (g:=g) hn n 0 _ (by omega) ?_ ?_ ?_ ?_).mono fun e t h=>?_
 ·simp
 ·simp
 ·simp
 ·simp[rE]
 ·obtain⟨rfl,v',rfl,k5⟩:=h;simp[dX,zf3,k5,gB,bV,bF];exact jT
end
section
theorem zk6(n:Nat)(p q:Nat->Bool):dY n (iG p q n)=dY n (bi p q):=MB fun i hi=>by simp[iG,bi,hi]
theorem zjJ{ae:Nat}{H:aj}{n k:Nat}{f g:Nat->Nat->Bool}{p:Nat->Bool}(hn:n<=1000)(hk:k<n):∀(m j:Nat)(v:Nat->AV),j+m=n->v 0=.slc .ro (bZ n f)->v 1=.slc .ro (bZ n g)->v 8=ag k->v 9=ag j->v 7=.slc .own (dY n (iG p (g k) j))->
  Wp (aP ak SA.sp ae (.loop a73l12) (az 73022850035 v,H)) (fun e t=>e=.exit 4∧∃v',t=(az 73022850035 v',H)∧v' 0=.slc .ro (bZ n f)∧v' 1=.slc .ro (bZ n g)∧v' 8=ag k∧v' 5=v 5∧v' 6=v 6∧v' 7=.slc .own (dY n (bi p (g k)))):=by
 intro m;induction m with
 |zero=>
  intro j v hj v0 v1 v8 v9 v7;have hj':j=n:=by omega
  subst hj';rw[zk6]at v7;rw[bu a73l12.eq_1];simp[au,Sm,v0,v9,gB];exact⟨_,rfl,by simp[v0],by simp[v1],by simp[v8],by simp,by simp,by simp[v7]⟩
 |succ m ih=>
  intro j v hj v0 v1 v8 v9 v7;have hj':j<n:=by omega
  have aT:IntKind.i64.wrap ((j:Int)+1)=(j:Int)+1:=aM _ (by omega);have g2:=Jv g hk;have g4:=sF (g k) hj';have g5:=sF (iG p (g k) j) hj';have cK:=Jy (iG p (g k) j) n j (iG p (g k) j j||g k j);rw[Qq]at cK;have next:∀w:Nat->AV,w 0=.slc .ro (bZ n f)->w 1=.slc .ro (bZ n g)->w 8=ag k->w 9=ag (j+1)->w 7=.slc .own (dY n (iG p (g k) (j+1)))->w 5=v 5->w 6=v 6->
    Wp (aP ak SA.sp ae (.loop a73l12) (az 73022850035 w,H)) (fun e t=>e=.exit 4∧∃v',t=(az 73022850035 v',H)∧v' 0=.slc .ro (bZ n f)∧v' 1=.slc .ro (bZ n g)∧v' 8=ag k∧v' 5=v 5∧v' 6=v 6∧v' 7=.slc .own (dY n (bi p (g k)))):=fun w w0 w1 w8 w9 w7 w5 w6=>by
   rw[←w5,←w6];exact ih (j+1) w (by omega) w0 w1 w8 w9 w7
  rw[bu a73l12.eq_1];cases hu:iG p (g k) j j with
  |true=>
   rw[hu]at g5 cK;simp only[Gg]at cK;simp[au,Sm,YH,YG,v0,v1,v7,v8,v9,gB,iK,hk,hj',g2,g4,g5,aT,cK];refine next _ ?_ ?_ ?_ ?_ ?_ ?_ ?_
   all_goals simp[v0,v1,v8]
  |false=>
   rw[hu]at g5 cK;simp only[xJ]at cK;simp[au,Sm,YH,YG,v0,v1,v7,v8,v9,gB,iK,hk,hj',g2,g4,g5,aT,cK];refine next _ ?_ ?_ ?_ ?_ ?_ ?_ ?_
   all_goals simp[v0,v1,v8]
def AJ(f g:Nat->Nat->Bool)(i k:Nat):Nat->Bool:=fun x=>(List.range k).any fun y=>f i y&&g y x
theorem zrA(f g:Nat->Nat->Bool)(i:Nat):AJ f g i 0=aO:=rfl
theorem zrB{f g:Nat->Nat->Bool}{i k:Nat}(h:f i k=true):bi (AJ f g i k) (g k)=AJ f g i (k+1):=by
 funext x;simp[AJ,bi,LJ,h]
theorem zrC{f g:Nat->Nat->Bool}{i k:Nat}(h:f i k=false):AJ f g i (k+1)=AJ f g i k:=by
 funext x;simp[AJ,LJ,h]
theorem zjI{ae:Nat}{H:aj}{n i:Nat}{f g:Nat->Nat->Bool}(hn:n<=1000)(hi:i<n):∀(m k:Nat)(v:Nat->AV),k+m=n->v 0=.slc .ro (bZ n f)->v 1=.slc .ro (bZ n g)->v 6=ag i->v 8=ag k->v 7=.slc .own (dY n (AJ f g i k))->
  Wp (aP ak SA.sp ae (.loop a73l14) (az 73022850035 v,H)) (fun e t=>e=.exit 2∧∃v',t=(az 73022850035 v',H)∧v' 0=.slc .ro (bZ n f)∧v' 1=.slc .ro (bZ n g)∧v' 6=ag i∧v' 5=v 5∧v' 7=.slc .own (dY n (lN n f g i))):=by
 intro m;induction m with
 |zero=>
  intro k v hk v0 v1 v6 v8 v7;have hk':k=n:=by omega
  subst hk';rw[bu a73l14.eq_1];simp[au,Sn,v0,v8,gB];exact⟨_,rfl,by simp[v0],by simp[v1],by simp[v6],by simp,by simp[v7];rfl⟩
 |succ m ih=>
  intro k v hk v0 v1 v6 v8 v7;have hk':k<n:=by omega
  have aT:IntKind.i64.wrap ((k:Int)+1)=(k:Int)+1:=aM _ (by omega);have g1:=Jv f hi;have g3:=sF (f i) hk';have next:∀w:Nat->AV,w 0=.slc .ro (bZ n f)->w 1=.slc .ro (bZ n g)->w 6=ag i->w 8=ag (k+1)->w 7=.slc .own (dY n (AJ f g i (k+1)))->w 5=v 5->
    Wp (aP ak SA.sp ae (.loop a73l14) (az 73022850035 w,H)) (fun e t=>e=.exit 2∧∃v',t=(az 73022850035 v',H)∧v' 0=.slc .ro (bZ n f)∧v' 1=.slc .ro (bZ n g)∧v' 6=ag i∧v' 5=v 5∧v' 7=.slc .own (dY n (lN n f g i))):=fun w w0 w1 w6 w8 w7 w5=>by
   rw[←w5];exact ih (k+1) w (by omega) w0 w1 w6 w8 w7
  rw[bu a73l14.eq_1];cases hf:f i k with
  |true=>
   rw[hf]at g3;simp[au,Sn,YD,YC,v0,v6,v8,gB,iK,hi,hk',g1,g3];refine(zjJ (ae:=ae) (H:=H) (f:=f) (g:=g) (p:=AJ f g i k) hn hk' n 0 _ (by omega) ?_ ?_ ?_ ?_ ?_).mono fun e t h=>?_
   ·simp[v0]
   ·simp[v1]
   ·simp[v8]
   ·simp
   ·rw[LZ];simp[v7]
   obtain⟨rfl,u,rfl,k0,k1,k8,k5,k6,k7⟩:=h;simp at k5 k6;rw[v6]at k6;rw[zrB hf]at k7;simp[au,YF,k8,aT];refine next _ ?_ ?_ ?_ ?_ ?_ ?_
   ·simp[k0]
   ·simp[k1]
   ·simp[k6]
   ·simp
   ·simp[k7]
   ·simp[k5]
  |false=>
   rw[hf]at g3;rw[zrC hf]at next
   simp[au,Sn,YD,YC,YF,v0,v6,v8,gB,iK,hi,hk',g1,g3,aT];refine next _ ?_ ?_ ?_ ?_ ?_ ?_
   all_goals simp[v0,v1,v6,v7]
theorem zjH{ae:Nat}{H:aj}{n:Nat}{f g:Nat->Nat->Bool}(hn:n<=1000):∀(m i:Nat)(v:Nat->AV),i+m=n->v 0=.slc .ro (bZ n f)->v 1=.slc .ro (bZ n g)->v 6=ag i->v 5=.slc .own (rE n i (lN n f g))->
  Wp (aP ak SA.sp ae (.loop a73l17) (az 73022850035 v,H)) (fun e t=>e=.exit 0∧∃v',t=(az 73022850035 v',H)∧v' 5=.slc .own (bZ n (lN n f g))):=by
 intro m;induction m with
 |zero=>
  intro i v hi v0 v1 v6 v5;have aK:i=n:=by omega
  subst aK;rw[bu a73l17.eq_1];simp[au,YE,v0,v6,gB];exact⟨_,rfl,by simp[v5];rfl⟩
 |succ m ih=>
  intro i v hi v0 v1 v6 v5;have aK:i<n:=by omega
  have aT:IntKind.i64.wrap ((i:Int)+1)=(i:Int)+1:=aM _ (by omega);have kw:n<=4294967296:=by omega
  rw[bu a73l17.eq_1];simp[au, -List.reduceReplicate,YE,zf9,zf8,v0,v6,gB,aK,V8,kw];refine(zjI (ae:=ae) (H:=H) (f:=f) (g:=g) hn aK n 0 _ (by omega) ?_ ?_ ?_ ?_ ?_).mono fun e t h=>?_
  ·simp[v0]
  ·simp[v1]
  ·simp[v6]
  ·simp
  ·rw[zrA];simp
  obtain⟨rfl,u,rfl,k0,k1,k6,k5,k7⟩:=h;simp at k5;rw[v5]at k5;have bV:List.take n (dY n (lN n f g i))=dY n (lN n f g i):=ek (by rw[iK];exact aX _);have hi5:i<=4294967295:=by omega
  have bF:=MR n i (lN n f g);simp[au,zgd,zgc,k0,k1,k5,k6,k7,iK,Mx,aT,eY,bV,hi5,bF];refine(ih (i+1) _ (by omega) ?_ ?_ ?_ ?_).mono fun e t h=>by simpa using h
  ·simp[k0]
  ·simp[k1]
  ·simp
  ·simp[V7]
theorem Qt{ae:Nat}{H:aj}{n:Nat}{f g:Nat->Nat->Bool}(hn:n<=1000):Rn ak SA.sp ae 73 [.slc .ro (bZ n f),.slc .ro (bZ n g)] H=some (.ret (.slc .own (bZ n (lN n f g))),H):=by
 have hc:dG [.slc .ro (bZ n f),.slc .ro (bZ n g)]=true:=by
  have h1:=JW n f;have h2:=JW n g;simp only[dG,h1,h2];rfl
 have jT:=WW [] .own n (lN n f g);have bV:List.take n (bZ n (lN n f g))=bZ n (lN n f g):=ek (by rw[gB];exact aX _);have bF:=MR n n (lN n f g);have hII:rE n n (lN n f g)=bZ n (lN n f g):=rfl;rw[hII]at bF;refine di rfl rfl hc rfl ?_;rw[env73];simp[iO,zgf,zge,zga,a73];refine(zjH (ae:=0) (H:=[]) (f:=f) (g:=g) hn n 0 _ (by omega) ?_ ?_ ?_ ?_).mono fun e t h=>?_
 ·simp
 ·simp
 ·simp
 ·simp[rE]
 ·obtain⟨rfl,v',rfl,k5⟩:=h;simp[dX,zgb,k5,gB,bV,bF];exact jT
end
section
def OR(H:aj)(n i:Nat)(r:Nat->Nat->Bool):Prop:=∀x,x<i->eB H (2*x+1)=some (some (dY n (r x)))
def lL(n i:Nat):List AV:=(List.range i).map fun k=>.msl 1 (2*k+1) 0 n
theorem GZ(n i:Nat):(lL n i).length=i:=by simp[lL]
theorem XU{n i k:Nat}(h:k<i):(lL n i)[k]?=some (.msl 1 (2*k+1) 0 n):=by
 unfold lL;rw[xH,LM h];rfl
theorem zrl(n i:Nat):lL n (i+1)=lL n i ++[.msl 1 (2*i+1) 0 n]:=by
 unfold lL;rw[LJ,LK];rfl
theorem zol(n:Nat)(p:Nat->Bool):jF 0 (dY n p)=true:=by
 have:∀l:List Nat,jF 0 (l.map fun k=>AV.bool (p k))=true:=fun l=>by
  induction l with
  |nil=>rfl
  |cons x l ih=>simp[jF,ih]
 exact this _
theorem zd0(n i:Nat):jF 0 (lL n i)=true:=by
 have:∀l:List Nat,jF 0 (l.map fun k=>AV.msl 1 (2*k+1) 0 n)=true:=fun l=>by
  induction l with
  |nil=>rfl
  |cons x l ih=>simp[jF,ih]
 exact this _
theorem zoL(n:Nat)(p:Nat->Bool):List.flatMap AV.cells (dY n p)=dY n p:=by
 have:∀l:List Nat,List.flatMap AV.cells (l.map fun k=>AV.bool (p k))=l.map fun k=>AV.bool (p k):=fun l=>by
  induction l with
  |nil=>rfl
  |cons x l ih=>simp[ih]
 exact this _
theorem zmZ{n:Nat}{f:Nat->Nat->Bool}(hn:n<=1000):∀(m i:Nat)(v:Nat->AV)(H:aj),i+m=n->v 0=.slc .ro (bZ n f)->v 4=ag i->v 3=.slc .own (lL n i)->H.length=2*i->OR H n i (fun x y=>Ff x y||f x y)->
  Wp (aP ak SA.sp 0 (.loop a75l8) (az 4785353776964093 v,H)) (fun e t=>e=.exit 0∧∃v' H',t=(az 4785353776964093 v',H')∧v' 0=.slc .ro (bZ n f)∧v' 3=.slc .own (lL n n)∧H'.length=2*n∧OR H' n n (fun x y=>Ff x y||f x y)):=by
 intro m;induction m with
 |zero=>
  intro i v H hi v0 v4 v3 hH hO;have aK:i=n:=by omega
  subst aK;rw[bu a75l8.eq_1];simp[au,Yt,v0,v4,gB];exact⟨_,H,⟨rfl,rfl⟩,by simp[v0],by simp[v3],hH,hO⟩
 |succ m ih=>
  intro i v H hi v0 v4 v3 hH hO;have aK:i<n:=by omega
  have g1:=Jv f aK;have kw:n<=4294967296:=by omega
  have bV:List.take n (dY n (f i))=dY n (f i):=ek (by rw[iK];exact aX _);have bF:=zol n (f i);have hfl:=zoL n (f i);have aT:IntKind.i64.wrap ((i:Int)+1)=(i:Int)+1:=aM _ (by omega);have hgn:eB (H ++[none,some (dY n (f i))]) (H.length+1)=some (some (dY n (f i))):=by
   rw[eB,Gd (by omega),show H.length+1-H.length=1 by omega];rfl
  have cK:=Jy (f i) n i true;have hoka:=zd0 n i;have hi5:i<=4294967295:=by omega
  have hin:i+1<=n:=aK;rw[bu a75l8.eq_1];simp[au,Yt,zfS,zfR,zfQ,zfP,v0,v3,v4,gB,iK,GZ,aK,hin,g1,kw,bV,bF,hfl,hgn,cK,hoka,hi5,aT,eY];have bz:dY n (fun x=>decide (x=i)||f i x)=dY n (fun y=>Ff i y||f i y):=MB fun y _=>by
   simp only[Ff,eq_comm]
  refine(ih (i+1) _ _ (by omega) ?_ ?_ ?_ ?_ ?_).mono fun e t h=>by simpa using h
  ·simp[v0]
  ·simp
  ·simp[zrl,hH]
  ·simp[hH];omega
  ·intro x hx;by_cases e:x=i
   ·subst e;rw[←hH,eB,Gd (by omega),show H.length+1-H.length=1 by omega,←bz];rfl
   ·have:=hO x (by omega);rw[l9 _ (fA this)];exact this
theorem OR.set{H:aj}{n m i:Nat}{r:Nat->Nat->Bool}(h:OR H n m r)(hi:i<m)(p:Nat->Bool):OR (H.set (2*i+1) (some (dY n p))) n m (fun x=>if x=i then p else r x):=by
 intro x hx;by_cases e:x=i
 ·subst e;simp only[fD];exact dB _ (fA (h x hi))
 ·simp only[aF e];rw[kU _ (by omega)];exact h x hx
theorem OR.congr{H:aj}{n m:Nat}{r r':Nat->Nat->Bool}(h:OR H n m r)(e:∀x y,x<m->y<n->r x y=r' x y):OR H n m r':=by
 intro x hx;rw[h x hx,MB fun y hy=>e x y hx hy]
theorem zmY{n i k:Nat}{f:Nat->Nat->Bool}{p q:Nat->Bool}(hn:n<=1000)(hi:i<n)(hk:k<n):∀(m j:Nat)(v:Nat->AV)(H:aj)(r:Nat->Nat->Bool),j+m=n->v 0=.slc .ro (bZ n f)->v 3=.slc .own (lL n n)->v 6=ag k->v 7=ag i->v 8=ag j->OR H n n r->H.length=2*n->(∀y,r i y=iG p q j y)->(∀y,r k y=q y)->
  Wp (aP ak SA.sp 0 (.loop a75l18) (az 4785353776964093 v,H)) (fun e t=>e=.exit 6∧∃v' H',t=(az 4785353776964093 v',H')∧v' 0=.slc .ro (bZ n f)∧v' 3=.slc .own (lL n n)∧v' 6=ag k∧v' 7=ag i∧H'.length=2*n∧OR H' n n (fun x=>if x=i then bi p q else r x)):=by
 intro m;induction m with
 |zero=>
  intro j v H r hj v0 v3 v6 v7 v8 hO hH hri hrk;have hj':j=n:=by omega
  subst hj';rw[bu a75l18.eq_1];simp[au,Sj,v0,v8,gB];refine⟨_,H,⟨rfl,rfl⟩,by simp[v0],by simp[v3],by simp[v6],by simp[v7],hH,hO.congr fun x y hx hy=>?_⟩;by_cases e:x=i
  ·subst e;rw[aS rfl,hri];simp[iG,bi,hy]
  ·rw[aF e]
 |succ m ih=>
  intro j v H r hj v0 v3 v6 v7 v8 hO hH hri hrk;have hj':j<n:=by omega
  have aT:IntKind.i64.wrap ((j:Int)+1)=(j:Int)+1:=aM _ (by omega);have a1:=XU (n:=n) hi;have a2:=XU (n:=n) hk;have o1:=hO i hi;have o2:=hO k hk;have g1:=sF (r i) hj';have g2:=sF (r k) hj';have cK:=Jy (r i) n j (r i j||r k j);have hj5:j+1<=n:=hj';have d1:List.take 1 (List.drop j (dY n (r i)))=[.bool (r i j)]:=by
   rw[iJ (by rw[iK];exact hj')];have:=(eD.1 g1).2;simp only[EJ,xD,this]
  have d2:List.take 1 (List.drop j (dY n (r k)))=[.bool (r k j)]:=by
   rw[iJ (by rw[iK];exact hj')];have:=(eD.1 g2).2;simp only[EJ,xD,this]
  have fe:2*i+1<H.length:=fA o1;have qQ:∀(w:Nat->AV),w 0=.slc .ro (bZ n f)->w 3=.slc .own (lL n n)->w 6=ag k->w 7=ag i->w 8=ag (j+1)->
    Wp (aP ak SA.sp 0 (.loop a75l18) (az 4785353776964093 w,H.set (2*i+1) (some (dY n (fun x=>if x=j then(r i j||r k j)else r i x))))) (fun e t=>e=.exit 6∧∃v' H',t=(az 4785353776964093 v',H')∧v' 0=.slc .ro (bZ n f)∧v' 3=.slc .own (lL n n)∧v' 6=ag k∧v' 7=ag i∧H'.length=2*n∧OR H' n n (fun x=>if x=i then bi p q else r x)):=fun w w0 w3 w6 w7 w8=>by
   have hO2:=hO.set hi (fun x=>if x=j then(r i j||r k j)else r i x);refine(ih (j+1) w _ _ (by omega) w0 w3 w6 w7 w8 hO2 (by simpa using hH) (fun y=>?_) (fun y=>?_)).mono fun e t h=>?_
   ·simp only[fD];by_cases e:y=j
    ·subst e;simp[hri,hrk,iG]
    ·have:decide (y<j)=decide (y<j+1):=by rw[F7];omega
     simp[e,hri,iG,this]
   ·by_cases e:k=i
    ·subst e;simp only[fD];by_cases e2:y=j
     ·subst e2;simp[hrk]
     ·simp[e2,hrk]
    ·simp[e,hrk]
   ·obtain⟨e1,v',H',e2,e3,e4,e5,e6,e7,e8⟩:=h;refine⟨e1,v',H',e2,e3,e4,e5,e6,e7,e8.congr fun x y _ _=>?_⟩;by_cases e:x=i
    ·simp[e]
    ·simp[e]
  rw[bu a75l18.eq_1];cases hb:r i j with
  |true=>
   rw[hb]at d1 cK qQ;simp[bR,Sj,Yy,Yv,v0,v3,v6,v7,v8,gB,iK,GZ,hi,hk,hj',hj5,a1,a2,o1,o2,d1,d2,aT,fe];simp only[Gg]at cK qQ;rw[cK];refine qQ _ ?_ ?_ ?_ ?_ ?_;all_goals simp[v0,v3,v6,v7]
  |false=>
   rw[hb]at d1 cK qQ;simp only[xJ]at cK qQ;simp[bR,Sj,Yy,Yv,v0,v3,v6,v7,v8,gB,iK,GZ,hi,hk,hj',hj5,a1,a2,o1,o2,d1,d2,aT,fe];rw[cK];refine qQ _ ?_ ?_ ?_ ?_ ?_;all_goals simp[v0,v3,v6,v7]
end
section
def rH(k i:Nat)(a:Nat->Nat->Bool):Nat->Nat->Bool:=fun x y=>if x<i then zT k a x y else a x y
theorem znB(k i:Nat)(a:Nat->Nat->Bool)(y:Nat):rH k i a k y=a k y:=by
 unfold rH zT;split
 ·cases a k y<;>simp
 ·rfl
theorem zmX{n k:Nat}{f a:Nat->Nat->Bool}(hn:n<=1000)(hk:k<n):∀(m i:Nat)(v:Nat->AV)(H:aj),i+m=n->v 0=.slc .ro (bZ n f)->v 3=.slc .own (lL n n)->v 6=ag k->v 7=ag i->H.length=2*n->OR H n n (rH k i a)->
  Wp (aP ak SA.sp 0 (.loop a75l20) (az 4785353776964093 v,H)) (fun e t=>e=.exit 4∧∃v' H',t=(az 4785353776964093 v',H')∧v' 0=.slc .ro (bZ n f)∧v' 3=.slc .own (lL n n)∧v' 6=ag k∧H'.length=2*n∧OR H' n n (zT k a)):=by
 intro m;induction m with
 |zero=>
  intro i v H hi v0 v3 v6 v7 hH hO;have aK:i=n:=by omega
  subst aK;rw[bu a75l20.eq_1];simp[au,Sk,v0,v7,gB];exact⟨_,H,⟨rfl,rfl⟩,by simp[v0],by simp[v3],by simp[v6],hH,hO.congr fun x y hx _=>by simp[rH,hx]⟩
 |succ m ih=>
  intro i v H hi v0 v3 v6 v7 hH hO;have aK:i<n:=by omega
  have aT:IntKind.i64.wrap ((i:Int)+1)=(i:Int)+1:=aM _ (by omega);have a1:=XU (n:=n) aK;have o1:=hO i aK;have g1:=sF (rH k i a i) hk;have hmi:∀y,rH k i a i y=a i y:=fun y=>by simp[rH]
  have hk5:k+1<=n:=hk;have d1:List.take 1 (List.drop k (dY n (rH k i a i)))=[.bool (a i k)]:=by
   rw[iJ (by rw[iK];exact hk)];have:=(eD.1 g1).2;simp only[EJ,xD,this,hmi]
  have next:∀(w:Nat->AV)(K:aj),w 0=.slc .ro (bZ n f)->w 3=.slc .own (lL n n)->w 6=ag k->w 7=ag (i+1)->K.length=2*n->OR K n n (rH k (i+1) a)->
    Wp (aP ak SA.sp 0 (.loop a75l20) (az 4785353776964093 w,K)) (fun e t=>e=.exit 4∧∃v' H',t=(az 4785353776964093 v',H')∧v' 0=.slc .ro (bZ n f)∧v' 3=.slc .own (lL n n)∧v' 6=ag k∧H'.length=2*n∧OR H' n n (zT k a)):=fun w K w0 w3 w6 w7 hK hOK=>ih (i+1) w K (by omega) w0 w3 w6 w7 hK hOK
  rw[bu a75l20.eq_1];cases ha:a i k with
  |false=>
   rw[ha]at d1;simp[au,Sk,Yw,Yu,v0,v3,v6,v7,gB,iK,GZ,aK,hk,hk5,a1,o1,d1,aT];refine next _ H ?_ ?_ ?_ ?_ hH (hO.congr fun x y _ _=>?_)
   ·simp[v0]
   ·simp[v3]
   ·simp[v6]
   ·simp
   ·unfold rH;by_cases e:x=i
    ·subst e;simp[zT,ha]
    ·by_cases h:x<i
     ·have:x<i+1:=by omega
      simp[h,this]
     ·have:¬x<i+1:=by omega
      simp[h,this]
  |true=>
   rw[ha]at d1;simp[au,Sk,Yw,zfW,v0,v3,v6,v7,gB,iK,GZ,aK,hk,hk5,a1,o1,d1];refine(zmY (f:=f) (p:=a i) (q:=a k) hn aK hk n 0 _ H (rH k i a) (by omega) ?_ ?_ ?_ ?_ ?_ hO hH (fun y=>?_) (fun y=>znB k i a y)).mono fun e t h=>?_
   ·simp[v0]
   ·simp[v3]
   ·simp[v6]
   ·simp[v7]
   ·simp
   ·rw[LZ];exact hmi y
   obtain⟨rfl,u,H',rfl,k0,k3,k6,k7,hK,hOK⟩:=h;simp[au,Yu,k7,aT];refine next _ H' ?_ ?_ ?_ ?_ hK (hOK.congr fun x y _ _=>?_)
   ·simp[k0]
   ·simp[k3]
   ·simp[k6]
   ·simp
   ·by_cases e:x=i
    ·subst e;simp[rH,zT,ha,bi]
    ·by_cases h:x<i
     ·have:x<i+1:=by omega
      simp[rH,h,this,e]
     ·have:¬x<i+1:=by omega
      simp[rH,h,this,e]
theorem zmW{n:Nat}{f a:Nat->Nat->Bool}(hn:n<=1000):∀(m k:Nat)(v:Nat->AV)(H:aj),k+m=n->v 0=.slc .ro (bZ n f)->v 3=.slc .own (lL n n)->v 6=ag k->H.length=2*n->OR H n n (rA a k)->
  Wp (aP ak SA.sp 0 (.loop a75l22) (az 4785353776964093 v,H)) (fun e t=>e=.exit 2∧∃v' H',t=(az 4785353776964093 v',H')∧v' 3=.slc .own (lL n n)∧H'.length=2*n∧OR H' n n (rA a n)):=by
 intro m;induction m with
 |zero=>
  intro k v H hk v0 v3 v6 hH hO;have hk':k=n:=by omega
  subst hk';rw[bu a75l22.eq_1];simp[au,Yx,v0,v6,gB];exact⟨_,H,⟨rfl,rfl⟩,by simp[v3],hH,hO⟩
 |succ m ih=>
  intro k v H hk v0 v3 v6 hH hO;have hk':k<n:=by omega
  have aT:IntKind.i64.wrap ((k:Int)+1)=(k:Int)+1:=aM _ (by omega);rw[bu a75l22.eq_1];simp[au,Yx,zfX,v0,v6,gB,hk'];refine(zmX (f:=f) (a:=rA a k) hn hk' n 0 _ H (by omega) ?_ ?_ ?_ ?_ hH (hO.congr fun x y _ _=>by simp[rH])).mono fun e t h=>?_
  ·simp[v0]
  ·simp[v3]
  ·simp[v6]
  ·simp
  obtain⟨rfl,u,H',rfl,k0,k3,k6,hK,hOK⟩:=h;simp[au,zfU,k6,aT];refine ih (k+1) _ H' (by omega) ?_ ?_ ?_ hK hOK
  ·simp[k0]
  ·simp[k3]
  ·simp
theorem zow{H:aj}{n:Nat}{r:Nat->Nat->Bool}(h:OR H n n r):aN 0 H (.slc .own (lL n n))=some (.slc .own (bZ n r)):=by
 have one:∀k,k<n->aN 0 H (.msl 1 (2*k+1) 0 n)=some (.slc .ro (dY n (r k))):=fun k hk=>by
  have hb:Nat.blt (2*k+1) 0=false:=by rw[xU];simp
  have hb1:Nat.beq 1 1=true:=rfl;have hh:=h k hk;rw[eB]at hh;have hsub:sub (dY n (r k)) 0 n=some (dY n (r k)):=by
   have bV:List.take n (dY n (r k))=dY n (r k):=ek (by rw[iK];exact aX _);simp[sub,xV,iK,bV]
  have hsc:(dY n (r k)).all scal=true:=by simp[dY,scal]
  simp only[aN,hb,hb1,fq,bA,hh,hsub,hsc]
 have all:∀l:List Nat,(∀k∈l,k<n)->bg 0 H (l.map fun k=>AV.msl 1 (2*k+1) 0 n)=some (l.map fun k=>AV.slc .ro (dY n (r k))):=fun l=>by
  induction l with
  |nil=>intro _;rfl
  |cons x l ih=>
   intro hl;simp only[mE,bg];rw[one x (hl x (by simp)),ih fun k hk=>hl k (EM _ hk)]
 have:=all (List.range n) fun k hk=>EK.1 hk;simp only[aN,lL,bZ];rw[this]
theorem zmV{ae:Nat}{H:aj}{n:Nat}{f:Nat->Nat->Bool}(hn:n<=1000):Rn ak SA.sp ae 75 [.slc .ro (bZ n f)] H=some (.ret (.slc .own (bZ n (MI n f))),H):=by
 have hc:dG [.slc .ro (bZ n f)]=true:=by
  have h1:=JW n f;simp only[dG,h1];rfl
 refine di rfl rfl hc rfl ?_;rw[env75];simp[iO,zfZ,zfY,zfV,a75];refine(zmZ (f:=f) hn n 0 _ [] (by omega) ?_ ?_ ?_ rfl (fun x hx=>by omega)).mono fun e t h=>?_
 ·simp
 ·simp
 ·simp[lL]
 obtain⟨rfl,u,H1,rfl,k0,k3,hH1,hO1⟩:=h;simp[iO,zfO];refine(zmW (f:=f) (a:=fun x y=>Ff x y||f x y) hn n 0 _ H1 (by omega) ?_ ?_ ?_ hH1 hO1).mono fun e t h=>?_
 ·simp[k0]
 ·simp[k3]
 ·simp
 obtain⟨rfl,v',H',rfl,j3,hH',hO'⟩:=h;have bF:=zd0 n n;have bV:List.take n (lL n n)=lL n n:=ek (by rw[GZ];exact aX _);simp[dX,zfT,j3,GZ,bV,bF];exact zow hO'
end
section
def mh(s:List UInt8)(k:Int)(set:List Nat)(i j:Nat):Bool:=
 if k=1 then(match s[i]? with|some c=>hasB set c&&decide (j=i+1)|none=>false)
 else decide (j=i)&&(decide (k=0)||(decide (k=2)&&decide (i=0))||(decide (k=3)&&decide (i=s.length))||decide (k=4)||decide (k=6))
def kQ(s:List UInt8)(k:Int)(i:Nat):Bool:=decide (k=0)||(decide (k=2)&&decide (i=0))||(decide (k=3)&&decide (i=s.length))||decide (k=4)||decide (k=6)
theorem zq4(p:Nat->Bool){i:Nat}(h:i<256):(fM p)[i]?=some (.bool (p i)):=by
 unfold fM;rw[xH,LM h];rfl
theorem zrh{ae:Nat}{H:aj}{s:List UInt8}{k mn mx:Int}{a b c d:Nat}{R:AV}{i:Nat}(hi:i<=s.length)(hl:s.length<=900)(hk:0<=k∧k<=6)(v:Nat->AV)(v1:v 1=.str s)(v2:v 2=.box [.int .i64 k,u64 a,u64 b,u64 c,u64 d,.int .i64 mn,.int .i64 mx,R])(v6:v 6=ag i)(v7:v 7=.slc .own (dY (s.length+1) aO))
  (Q:AExit->EH->Prop) (h:Wp (aP ak SA.sp ae .skip (az 22847157054575562436918159888043788588013600759 (st v 7 (.slc .own (dY (s.length+1) (fun x=>if x=i then kQ s k i else aO x)))),H)) Q) :
  Wp (aP ak SA.sp ae (.region za) (az 22847157054575562436918159888043788588013600759 v,H)) Q:=by
 have cK:=fun x=>Jy aO (s.length+1) i x;have g:=sF aO (n:=s.length+1) (i:=i) (by omega);have hk':k=0∨k=1∨k=2∨k=3∨k=4∨k=5∨k=6:=by omega
 have hi1:i<s.length+1:=by omega
 rcases hk' with rfl|rfl|rfl|rfl|rfl|rfl|rfl
 ·have e:kQ s 0 i=true:=by simp[kQ]
  rw[e]at h;simp[vP,za,v1,v2,v6,v7,iK,hi1,g,cK];simpa using h
 ·have e:kQ s 1 i=false:=by simp[kQ]
  rw[e]at h;simp[vP,za,v1,v2,v6,v7,iK,hi1,g,cK];simpa using h
 ·by_cases h0:i=0
  ·have e:kQ s 2 i=true:=by simp[kQ,h0]
   rw[e]at h;subst h0;simp[vP,za,v1,v2,v6,v7,iK,g,cK];simpa using h
  ·have e:kQ s 2 i=false:=by simp[kQ,h0]
   rw[e]at h;have jd:((i:Int)==0)=false:=by simp;omega
   simp[vP,za,v1,v2,v6,v7,iK,hi1,g,cK,h0,jd];simpa using h
 ·by_cases h0:i=s.length
  ·have e:kQ s 3 i=true:=by simp[kQ,h0]
   rw[e]at h;have jd:((i:Int)==(s.length:Int))=true:=by simp;omega
   simp[vP,za,v1,v2,v6,v7,iK,hi1,g,cK,jd];simpa using h
  ·have e:kQ s 3 i=false:=by simp[kQ,h0]
   rw[e]at h;have jd:((i:Int)==(s.length:Int))=false:=by simp;omega
   simp[vP,za,v1,v2,v6,v7,iK,hi1,g,cK,h0,jd];simpa using h
 ·have e:kQ s 4 i=true:=by simp[kQ]
  rw[e]at h;simp[vP,za,v1,v2,v6,v7,iK,hi1,g,cK];simpa using h
 ·have e:kQ s 5 i=false:=by simp[kQ]
  rw[e]at h;simp[vP,za,v1,v2,v6,v7,iK,hi1,g,cK];simpa using h
 ·have e:kQ s 6 i=true:=by simp[kQ]
  rw[e]at h;simp[vP,za,v1,v2,v6,v7,iK,hi1,g,cK];simpa using h
theorem zop(w:List Nat)(c:UInt8):hasB w c=ql w c.toNat:=rfl
theorem zjL{l:List AV}{i:Nat}{a:AV}(h:l[i]?=some a):List.take 1 (List.drop i l)=[a]:=by
 obtain⟨h1,h2⟩:=eD.1 h;rw[iJ h1,h2];rfl
theorem zri{ae:Nat}{H:aj}{s:List UInt8}{k mn mx:Int}{a b c d:Nat}{R:AV}(hl:s.length<=900)(hk:0<=k∧k<=6):
  ∀(m i:Nat)(v:Nat->AV),i+m=s.length+1->v 1=.str s->v 2=.box [.int .i64 k,u64 a,u64 b,u64 c,u64 d,.int .i64 mn,.int .i64 mx,R]->v 6=ag i->v 5=.slc .own (rE (s.length+1) i (mh s k [a,b,c,d]))->
   Wp (aP ak SA.sp ae (.loop a46l10) (az 22847157054575562436918159888043788588013600759 v,H)) (fun e t=>e=.exit 0∧∃v',t=(az 22847157054575562436918159888043788588013600759 v',H)∧v' 1=.str s∧v' 2=.box [.int .i64 k,u64 a,u64 b,u64 c,u64 d,.int .i64 mn,.int .i64 mx,R]∧v' 5=.slc .own (bZ (s.length+1) (mh s k [a,b,c,d]))):=by
 intro m;induction m with
 |zero=>
  intro i v hi v1 v2 v6 v5;have aK:i=s.length+1:=by omega
  subst aK;have hx:¬(s.length:Int)+1<=(s.length:Int):=by omega
  rw[bu a46l10.eq_1];simp[au,Y5,v1,v6,hx];exact⟨_,rfl,by simp[v1],by simp[v2],by simp[v5];rfl⟩
 |succ m ih=>
  intro i v hi v1 v2 v6 v5;have aK:i<=s.length:=by omega
  have kw:s.length+1<=4294967296:=by omega
  have hn0:(0:Int)<=(s.length:Int)+1:=by omega
  have hnt:((s.length:Int)+1).toNat=s.length+1:=by omega
  have hw0:IntKind.i64.wrap ((s.length:Int)+1)=(s.length:Int)+1:=aM _ (by omega);have aT:IntKind.i64.wrap ((i:Int)+1)=(i:Int)+1:=aM _ (by omega);have hi5:i<=4294967295:=by omega
  have bF:=MR (s.length+1) i (mh s k [a,b,c,d]);have next:∀(p:Nat->Bool)(w:Nat->AV),(∀j,p j=mh s k [a,b,c,d] i j)->w 1=.str s->w 2=.box [.int .i64 k,u64 a,u64 b,u64 c,u64 d,.int .i64 mn,.int .i64 mx,R]->w 6=ag (i+1)->w 5=.slc .own (rE (s.length+1) i (mh s k [a,b,c,d]) ++[.slc .ro (dY (s.length+1) p)])->
    Wp (aP ak SA.sp ae (.loop a46l10) (az 22847157054575562436918159888043788588013600759 w,H)) (fun e t=>e=.exit 0∧∃v',t=(az 22847157054575562436918159888043788588013600759 v',H)∧v' 1=.str s∧v' 2=.box [.int .i64 k,u64 a,u64 b,u64 c,u64 d,.int .i64 mn,.int .i64 mx,R]∧v' 5=.slc .own (bZ (s.length+1) (mh s k [a,b,c,d]))):=fun p w hp w1 w2 w6 w5=>by
   refine ih (i+1) w (by omega) w1 w2 w6 ?_;rw[w5,V7,MB fun j _=>hp j]
  have bV:∀p,List.take (s.length+1) (dY (s.length+1) p)=dY (s.length+1) p:=fun p=>ek (by rw[iK];exact aX _);rw[bu a46l10.eq_1];simp[au, -List.reduceReplicate,Y5,zgK,v1,v6,aK,V8,kw,hn0,hnt,hw0];refine(vP).1 (zrh (mn:=mn) (mx:=mx) (a:=a) (b:=b) (c:=c) (d:=d) (R:=R) aK hl hk _ ?_ ?_ ?_ ?_ _ ?_)
  ·simp[v1]
  ·simp[v2]
  ·simp[v6]
  ·simp
  by_cases k1:k=1
  ·subst k1;have e:kQ s 1 i=false:=by simp[kQ]
   by_cases h2:i<s.length
   ·have hc:s[i]?=some s[i]:=gG h2;generalize s[i]=x at hc;have bf:=zsb (ae:=ae) (H:=H) a b c d;have hidx:=zq4 (ql [a,b,c,d]) (i:=x.toNat) x.toNat_lt;have cK:=Jy (fun y=>if y=i then kQ s 1 i else aO y) (s.length+1) (i+1) (ql [a,b,c,d] x.toNat);have h2I:(i:Int)<(s.length:Int):=by omega
    have hi0:(0:Int)<=(i:Int)+1:=by omega
    have hit:((i:Int)+1).toNat=i+1:=by omega
    have bz:=sF (fun y=>if y=i then kQ s 1 i else aO y) (n:=s.length+1) (i:=i+1) (by omega);have hx256:x.toNat<=255:=by have:=x.toNat_lt;omega
    have ht1:=zjL hidx;have hx257:x.toNat<256:=x.toNat_lt;simp[bR,SN,SY,SK,SI,v1,v2,v5,v6,h2,h2I,hc,bf,hidx,cK,hi0,hit,aT,bz,iK,Mx,mr,eY,bV,hi5,bF,hx256,hx257,ht1];refine next (fun y=>if y=i+1 then ql [a,b,c,d] x.toNat else if y=i then kQ s 1 i else aO y) _ ?_ ?_ ?_ ?_ ?_
    rotate_left
    ·simp[v1]
    ·simp[v2]
    ·simp
    ·simp
    intro j;rw[e];simp only[mh,hc,fD,zop];by_cases q:j=i+1
    ·subst q;simp
    ·by_cases q2:j=i
     ·simp[q,q2,aO]
     ·simp[q,q2,aO]
   ·have h2I:¬(i:Int)<(s.length:Int):=by omega
    simp[bR,SN,SY,SK,SI,v1,v2,v5,v6,h2,h2I,aT,iK,Mx,eY,bV,hi5,bF];refine next (fun y=>if y=i then kQ s 1 i else aO y) _ ?_ ?_ ?_ ?_ ?_
    rotate_left
    ·simp[v1]
    ·simp[v2]
    ·simp
    ·simp
    intro j;rw[e];have hc:s[i]?=none:=pq (by omega);simp[mh,hc,aO]
  ·have k1':(k==1)=false:=by simpa using k1
   simp[bR,SN,SY,SK,SI,v1,v2,v5,v6,k1',aT,iK,Mx,eY,bV,hi5,bF];refine next (fun y=>if y=i then kQ s k i else aO y) _ ?_ ?_ ?_ ?_ ?_
   rotate_left
   ·simp[v1]
   ·simp[v2]
   ·simp
   ·simp
   intro j;unfold mh;rw[aF k1];by_cases q:j=i
   ·simp[q,kQ]
   ·simp[q,aO]
end
section
def Lr(s:List UInt8)(x:Re):Prop:=∃p:Perm,∀(ae:Nat)(H:aj),Rn ak SA.sp ae 46 [x.av,.str s] H=some (.ret (.slc p (bZ (s.length+1) (x.tab s))),H)
theorem zqP{ae:Nat}{H:aj}{s:List UInt8}{l:List Re}{cs:List AV}(h7:cs.length=7)(hw:Re.wideL l)(hl:s.length<=900)(iV:l.length<=1000000)(ih:∀x∈l,Lr s x):
  ∀(aY:List Re)(i:Nat)(f:Nat->Nat->Bool)(v:Nat->AV),i+aY.length=l.length->l.drop i=aY->v 1=.str s->v 2=.box (cs ++[bT (Re.avs l)])->v 8=ag i->v 5=.slc .own (bZ (s.length+1) f)->
   Wp (aP ak SA.sp ae (.loop a46l16) (az 22847157054575562436918159888043788588013600759 v,H)) (fun e t=>e=.exit 2∧∃v',t=(az 22847157054575562436918159888043788588013600759 v',H)∧v' 1=.str s∧v' 2=v 2∧v' 5=.slc .own (bZ (s.length+1) (Re.tabCat s aY f))):=by
 obtain⟨c0,c1,c2,c3,c4,c5,c6,rfl⟩:∃a b c d e f g,cs=[a,b,c,d,e,f,g]:=by
  match cs,h7 with
  | [a,b,c,d,e,f,g],_=>exact⟨a,b,c,d,e,f,g,rfl⟩
 intro aY;induction aY with
 |nil=>
  intro i f v hi hr v1 v2 v8 v5;simp only[gW,qx]at hi;subst hi;rw[bu a46l16.eq_1];have bz:(l=[]∧bT (Re.avs l)=.nils)∨bT (Re.avs l)=.slc .ro (Re.avs l):=by
   cases l with
   |nil=>exact .inl ⟨rfl,rfl⟩
   |cons x l=>exact .inr rfl
  rcases bz with⟨rfl,bz⟩|bz;all_goals
   have v2':=v2;rw[bz]at v2';simp only[kg,gV]at v2';simp[au,Kg,v2',v8,ed];exact⟨_,rfl,by simp[v1],by simp[v2'],by simp[v5,Re.tabCat]⟩
 |cons x aY ihr=>
  intro i f v hi hr v1 v2 v8 v5;have aK:i<l.length:=by simp at hi;omega
  have jE:=iJ aK;rw[hr]at jE;obtain⟨hx,gF⟩:=zQ jE;have jC:x∈l:=hx▸mO aK;obtain⟨d,aH,bM⟩:=Re.av_agg (kz.1 hw x jC);have fQ:8<=d.length:=by omega
  have bV:List.take 8 d=d:=ek (by omega);have hg:(Re.avs l)[i]?=some (.agg d):=by rw[sZ aK,←hx,aH]
  have aR:Re.avs l ≠ []:=by rw[Re.avs_map];simp;intro e;subst e;simp at aK
  obtain⟨p,bf⟩:=ih x jC;rw[aH]at bf;have v2':=v2;rw[kM aR]at v2';simp only[kg,gV]at v2';have aT:IntKind.i64.wrap ((i:Int)+1)=(i:Int)+1:=aM _ (by omega);have hthen:=fun H=>Qt (ae:=ae) (H:=H) (n:=s.length+1) (f:=f) (g:=x.tab s) (by omega);have htl:List.take (s.length+1) (bZ (s.length+1) f)=bZ (s.length+1) f:=ek (by rw[gB];exact aX _);rw[bu a46l16.eq_1];cases p <;>
   (simp[au,Kg,NL,NK,v1,v2',v5,v8,ed,aK,hg,bM,fQ,bV,bf,aT,hthen,gB,htl]
    refine(ihr (i+1) (lN (s.length+1) f (x.tab s)) _ (by simp at hi;omega) gF.symm ?_ ?_ ?_ ?_).mono fun e t h=>by simpa[Re.tabCat,v2']using h
    ·simp[v1]
    ·simp[v2',kM aR]
    ·simp
    ·simp)
theorem zrp{ae:Nat}{H:aj}{s:List UInt8}{l:List Re}{cs:List AV}(h7:cs.length=7)(hw:Re.wideL l)(hl:s.length<=900)(iV:l.length<=1000000)(ih:∀x∈l,Lr s x):
  ∀(aY:List Re)(i:Nat)(f:Nat->Nat->Bool)(v:Nat->AV),i+aY.length=l.length->l.drop i=aY->v 1=.str s->v 2=.box (cs ++[bT (Re.avs l)])->v 9=ag i->v 5=.slc .own (bZ (s.length+1) f)->
   Wp (aP ak SA.sp ae (.loop a46l22) (az 22847157054575562436918159888043788588013600759 v,H)) (fun e t=>e=.exit 4∧∃v',t=(az 22847157054575562436918159888043788588013600759 v',H)∧v' 1=.str s∧v' 2=v 2∧v' 5=.slc .own (bZ (s.length+1) (Re.tabAlt s aY f))):=by
 obtain⟨c0,c1,c2,c3,c4,c5,c6,rfl⟩:∃a b c d e f g,cs=[a,b,c,d,e,f,g]:=by
  match cs,h7 with
  | [a,b,c,d,e,f,g],_=>exact⟨a,b,c,d,e,f,g,rfl⟩
 intro aY;induction aY with
 |nil=>
  intro i f v hi hr v1 v2 v9 v5;simp only[gW,qx]at hi;subst hi;rw[bu a46l22.eq_1];have bz:(l=[]∧bT (Re.avs l)=.nils)∨bT (Re.avs l)=.slc .ro (Re.avs l):=by
   cases l with
   |nil=>exact .inl ⟨rfl,rfl⟩
   |cons x l=>exact .inr rfl
  rcases bz with⟨rfl,bz⟩|bz;all_goals
   have v2':=v2;rw[bz]at v2';simp only[kg,gV]at v2';simp[au,Ke,v2',v9,ed];exact⟨_,rfl,by simp[v1],by simp[v2'],by simp[v5,Re.tabAlt]⟩
 |cons x aY ihr=>
  intro i f v hi hr v1 v2 v9 v5;have aK:i<l.length:=by simp at hi;omega
  have jE:=iJ aK;rw[hr]at jE;obtain⟨hx,gF⟩:=zQ jE;have jC:x∈l:=hx▸mO aK;obtain⟨d,aH,bM⟩:=Re.av_agg (kz.1 hw x jC);have fQ:8<=d.length:=by omega
  have bV:List.take 8 d=d:=ek (by omega);have hg:(Re.avs l)[i]?=some (.agg d):=by rw[sZ aK,←hx,aH]
  have aR:Re.avs l ≠ []:=by rw[Re.avs_map];simp;intro e;subst e;simp at aK
  obtain⟨p,bf⟩:=ih x jC;rw[aH]at bf;have v2':=v2;rw[kM aR]at v2';simp only[kg,gV]at v2';have aT:IntKind.i64.wrap ((i:Int)+1)=(i:Int)+1:=aM _ (by omega);have heit:=fun H=>zeN (ae:=ae) (H:=H) (n:=s.length+1) (f:=f) (g:=x.tab s) (by omega);have htl:List.take (s.length+1) (bZ (s.length+1) f)=bZ (s.length+1) f:=ek (by rw[gB];exact aX _);rw[bu a46l22.eq_1];cases p <;>
   (simp[au,Ke,NH,NG,v1,v2',v5,v9,ed,aK,hg,bM,fQ,bV,bf,aT,heit,gB,htl]
    refine(ihr (i+1) (jH f (x.tab s)) _ (by simp at hi;omega) gF.symm ?_ ?_ ?_ ?_).mono fun e t h=>by simpa[Re.tabAlt,v2']using h
    ·simp[v1]
    ·simp[v2',kM aR]
    ·simp
    ·simp)
theorem zlj{ae:Nat}{H:aj}{s:List UInt8}{c0 c1 c2 c3 c4 c6 c7:AV}{mn:Int}(hmn:mn<=1000){x:Nat->Nat->Bool}(hl:s.length<=900):
  ∀(m:Nat)(i:Int)(f:Nat->Nat->Bool)(v:Nat->AV),0<=i->i+m=mn->v 2=.box [c0,c1,c2,c3,c4,.int .i64 mn,c6,c7]->(∃p,v 10=.slc p (bZ (s.length+1) x))->v 11=.int .i64 i->v 5=.slc .own (bZ (s.length+1) f)->
   Wp (aP ak SA.sp ae (.loop a46l29) (az 22847157054575562436918159888043788588013600759 v,H)) (fun e t=>e=.exit 6∧∃v',t=(az 22847157054575562436918159888043788588013600759 v',H)∧v' 2=.box [c0,c1,c2,c3,c4,.int .i64 mn,c6,c7]∧(∃p,v' 10=.slc p (bZ (s.length+1) x))∧v' 5=.slc .own (bZ (s.length+1) (ug (s.length+1) x m f))):=by
 intro m;induction m with
 |zero=>
  intro i f v h0 hi v2 ⟨p,fP⟩ v11 v5;have aK:¬i<mn:=by omega
  rw[bu a46l29.eq_1];simp[au,Y6,v2,v11,aK];exact⟨_,rfl,by simp[v2],⟨p,by simp[fP]⟩,by simp[v5,ug]⟩
 |succ m ih=>
  intro i f v h0 hi v2 ⟨p,fP⟩ v11 v5;have aK:i<mn:=by omega
  have aT:IntKind.i64.wrap (i+1)=i+1:=aM _ (by omega);have hthen:=fun H=>Qt (ae:=ae) (H:=H) (n:=s.length+1) (f:=f) (g:=x) (by omega);have htl:∀f,List.take (s.length+1) (bZ (s.length+1) f)=bZ (s.length+1) f:=fun f=>ek (by rw[gB];exact aX _);rw[bu a46l29.eq_1];cases p <;>
   (simp[au,Y6,zgP,zgO,v2,v5,fP,v11,aK,aT,hthen,gB,htl]
    refine(ih (i+1) (lN (s.length+1) f x) _ (by omega) (by omega) ?_ ?_ ?_ ?_).mono fun e t h=>by simpa[ug]using h
    ·simp[v2]
    ·simp[fP]
    ·simp
    ·simp)
theorem znz{ae:Nat}{H:aj}{s:List UInt8}{c0 c1 c2 c3 c4 c5 c7:AV}{mx:Int}(hmx:mx<=1000){x:Nat->Nat->Bool}(hl:s.length<=900):
  ∀(m:Nat)(i:Int)(gu out:Nat->Nat->Bool)(v:Nat->AV),0<=i->i+m=mx->v 2=.box [c0,c1,c2,c3,c4,c5,.int .i64 mx,c7]->(∃p,v 10=.slc p (bZ (s.length+1) x))->v 13=.int .i64 i->(∃p,v 12=.slc p (bZ (s.length+1) gu))->(∃p,v 5=.slc p (bZ (s.length+1) out))->
   Wp (aP ak SA.sp ae (.loop a46l38) (az 22847157054575562436918159888043788588013600759 v,H)) (fun e t=>e=.exit 8∧∃v',t=(az 22847157054575562436918159888043788588013600759 v',H)∧∃p,v' 5=.slc p (bZ (s.length+1) (Fa (s.length+1) x m gu out))):=by
 intro m;induction m with
 |zero=>
  intro i gu out v h0 hi v2 ⟨p,fP⟩ v13 ⟨p2,v12⟩ ⟨p3,v5⟩;have aK:¬i<mx:=by omega
  rw[bu a46l38.eq_1];simp[au,Y2,v2,v13,aK];exact⟨_,rfl,p3,by simp[v5,Fa]⟩
 |succ m ih=>
  intro i gu out v h0 hi v2 ⟨p,fP⟩ v13 ⟨p2,v12⟩ ⟨p3,v5⟩;have aK:i<mx:=by omega
  have aT:IntKind.i64.wrap (i+1)=i+1:=aM _ (by omega);have hthen:=fun H=>Qt (ae:=ae) (H:=H) (n:=s.length+1) (f:=gu) (g:=x) (by omega);have heit:=fun H=>zeN (ae:=ae) (H:=H) (n:=s.length+1) (f:=out) (g:=lN (s.length+1) gu x) (by omega);have htl:∀f,List.take (s.length+1) (bZ (s.length+1) f)=bZ (s.length+1) f:=fun f=>ek (by rw[gB];exact aX _);rw[bu a46l38.eq_1];cases p<;>cases p2<;>cases p3 <;>
   (simp[au,Y2,zgN,zgM,zgL,v2,v5,fP,v12,v13,aK,aT,hthen,heit,gB,htl]
    refine(ih (i+1) _ _ _ (by omega) (by omega) ?_ ?_ ?_ ?_ ?_).mono fun e t h=>by simpa[Fa]using h
    ·simp[v2]
    ·simp[fP]
    ·simp
    ·simp
    ·simp)
end
section
theorem zlQ{fs:Nat->Option AFunc}{sp:Nat->(Nat->CallF)->Nat->CallF}(hs:jR sp){f:Nat}{F:AFunc}(hf:fs f=some F){xs:List AV}{Q:Out->Prop}(hp:F.pure=true)(hc:dG xs=true)(hn:Nat.beq xs.length F.np=true)
  (h:Wp (aP fs sp 0 F.body (bC F.vars xs,[])) (fin F.res (thaw 0 Q))):∃o,Q o∧∀(ae:Nat)(H:aj),Rn fs sp ae f xs H=some (o,H):=by
 obtain⟨o,K,h1,h2⟩:=QG (Q:=thaw 0 Q) hn h;cases o with
 |ret v=>obtain⟨u,h3,h4⟩:=h2;exact⟨.ret u,h4,fun ae H=>by rw[Ls hs hf,hp,hc];simp only[bA,h1,lC,h3]⟩
 |pan v=>obtain⟨u,h3,h4⟩:=h2;exact⟨.pan u,h4,fun ae H=>by rw[Ls hs hf,hp,hc];simp only[bA,h1,lC,h3]⟩
theorem zjO(s:List UInt8)(k:Int)(set:List Nat)(mn mx:Int)(l:List Re):(Re.mk k set mn mx l).tab s=if k=4 then Re.tabCat s l (mh s k set)else if k=5 then Re.tabAlt s l (mh s k set)else if k=6 then Re.tabRep s mn mx (mh s k set) l else mh s k set:=by
 unfold Re.tab;rfl
theorem zjN{s:List UInt8}(hl:s.length<=900){k:Int}{set:List Nat}{mn mx:Int}{l:List Re}{dh ay:Int}(hc:(Re.mk k set mn mx l).can dh ay=true)(hw:(Re.mk k set mn mx l).wide)(ih:∀x∈l,Lr s x):Lr s (.mk k set mn mx l):=by
 have hs:=SA.mono;obtain⟨r1,r2,r3,r4,r5,r6,r7⟩:=J4 hc;unfold Re.wide at hw;obtain⟨h4,bq,⟨m1,m2,m3,m4⟩,hwl⟩:=hw;obtain⟨a,b,c,d,rfl⟩:=four h4;suffices h:∃o,(∃p,o=Out.ret (.slc p (bZ (s.length+1) ((Re.mk k [a,b,c,d] mn mx l).tab s))))∧∀(ae:Nat)(H:aj),Rn ak SA.sp ae 46 [(Re.mk k [a,b,c,d] mn mx l).av,.str s] H=some (o,H) by
  obtain⟨o,⟨p,rfl⟩,h⟩:=h;exact⟨p,h⟩
 have qj:dG [(Re.mk k [a,b,c,d] mn mx l).av,AV.str s]=true:=by simp only[dG,qU];rfl
 refine zlQ hs rfl rfl qj rfl ?_;rw[env46,zjO];have hz:(Re.mk k [a,b,c,d] mn mx l).av=.agg [.int .i64 k,u64 a,u64 b,u64 c,u64 d,.int .i64 mn,.int .i64 mx,bT (Re.avs l)]:=by rw[Re.av];rfl
 rw[hz];simp[iO,zgU,zgT,zgS,a46];refine(zri (ae:=0) (H:=[]) (s:=s) (k:=k) (mn:=mn) (mx:=mx) (a:=a) (b:=b) (c:=c) (d:=d) (R:=bT (Re.avs l)) hl ⟨r3,r4⟩ (s.length+1) 0 _ (by omega) ?_ ?_ ?_ ?_).mono fun e t h=>?_
 ·simp
 ·simp
 ·simp
 ·simp[rE]
 obtain⟨rfl,u,rfl,u1,u2,u5⟩:=h;have htl:∀f,List.take (s.length+1) (bZ (s.length+1) f)=bZ (s.length+1) f:=fun f=>ek (by rw[gB];exact aX _);have jT:=fun p f=>WW [] p (s.length+1) f
 -- the end
 have qQ:∀(w:Nat->AV)(g:Nat->Nat->Bool),(∃p,w 5=.slc p (bZ (s.length+1) g))->Wp (aP ak SA.sp 0 (.seq (.region SQ) .ret) (az 22847157054575562436918159888043788588013600759 w,[])) (fin [.tmp 4] (thaw 0 fun o=> ∃p,o=Out.ret (.slc p (bZ (s.length+1) g)))):=fun w g ⟨p,hw⟩=>by
  cases p<;>simp[dX,SQ,hw,gB,htl,jT]
 by_cases k4:k=4
 ·subst k4;simp[au,NN,NM,u2];refine(zqP (ae:=0) (H:=[]) (cs:=[.int .i64 4,u64 a,u64 b,u64 c,u64 d,.int .i64 mn,.int .i64 mx]) rfl hwl hl (by omega) ih l 0 (mh s 4 [a,b,c,d]) _ (by simp) rfl ?_ ?_ ?_ ?_).mono fun e t h=>?_
  ·simp[u1]
  ·simp[u2]
  ·simp
  ·simp[u5]
  obtain⟨rfl,w,rfl,w1,w2,w5⟩:=h;simp[u2]at w2;simp[au,NJ,NI,Ke,NH,NG,NF,w2];have h:=fun w (hw:∃p,w 5=.slc p (bZ (s.length+1) (Re.tabCat s l (mh s 4 [a,b,c,d]))))=>qQ w _ hw;simp only[dX]at h;refine h _ ⟨.own,?_⟩;simp[w5]
 by_cases k5:k=5
 ·subst k5;simp[au,NN,NM,Kg,NL,NK,NJ,NI,u2];refine(zrp (ae:=0) (H:=[]) (cs:=[.int .i64 5,u64 a,u64 b,u64 c,u64 d,.int .i64 mn,.int .i64 mx]) rfl hwl hl (by omega) ih l 0 (mh s 5 [a,b,c,d]) _ (by simp) rfl ?_ ?_ ?_ ?_).mono fun e t h=>?_
  ·simp[u1]
  ·simp[u2]
  ·simp
  ·simp[u5]
  obtain⟨rfl,w,rfl,w1,w2,w5⟩:=h;simp[u2]at w2;simp[au,NF,w2];have h:=fun w (hw:∃p,w 5=.slc p (bZ (s.length+1) (Re.tabAlt s l (mh s 5 [a,b,c,d]))))=>qQ w _ hw;simp only[dX]at h;refine h _ ⟨.own,?_⟩;simp[w5]
 by_cases k6:k=6
 ·subst k6;obtain⟨q1,q2,q3,q4,q5⟩:=r6 rfl;obtain⟨x,rfl⟩:∃x,l=[x]:=by
   match l,q1 with
   | [x],_=>exact⟨x,rfl⟩
  obtain⟨p,hx⟩:=ih x (by simp);obtain⟨e,aH,bM⟩:=Re.av_agg (kz.1 hwl x (by simp));have fQ:8<=e.length:=by omega
  have bV:List.take 8 e=e:=ek (by omega);have bz:bT (Re.avs [x])=.slc .ro [.agg e]:=by simp only[Re.avs,bT,aH]
  rw[aH]at hx;rw[bz]at u2;have hx0:=hx 0 [];have hrep:=fun v=>zlj (ae:=0) (H:=[]) (s:=s) (c0:=.int .i64 6) (c1:=u64 a) (c2:=u64 b) (c3:=u64 c) (c4:=u64 d) (c6:=.int .i64 mx) (c7:=.slc .ro [.agg e]) (mn:=mn) (by omega) (x:=x.tab s) hl mn.toNat 0 (mh s 6 [a,b,c,d]) v (by omega) (by omega);have hoft:=fun H=>zmV (ae:=0) (H:=H) (n:=s.length+1) (f:=x.tab s) (by omega);have hthen:=fun f g H=>Qt (ae:=0) (H:=H) (n:=s.length+1) (f:=f) (g:=g) (by omega)
  -- behind the first rounds
  have tail:∀w:Nat->AV,w 2=.box [.int .i64 6,u64 a,u64 b,u64 c,u64 d,.int .i64 mn,.int .i64 mx,.slc .ro [.agg e]]->(∃p,w 10=.slc p (bZ (s.length+1) (x.tab s)))->w 5=.slc .own (bZ (s.length+1) (ug (s.length+1) (x.tab s) mn.toNat (mh s 6 [a,b,c,d])))->
    Wp (aP ak SA.sp 0 (.seq (.seq (.seq (.region SX) (.cond true (.v 143) (.seq (.region SS) .ret) .skip)) (.seq (.region Y4) (.seq (.region Y3) (.block 8 (.loop a46l38))))) (.seq (.region SQ) .ret)) (az 22847157054575562436918159888043788588013600759 w,[]))
     (fin [.tmp 4] (thaw 0 fun o=> ∃p,o=Out.ret (.slc p (bZ (s.length+1) (Re.tabRep s mn mx (mh s 6 [a,b,c,d]) [x]))))):=fun w w2 ⟨p,w10⟩ w5=>by
   by_cases sP:mx<0
   ·simp only[Re.tabRep,aS sP];cases p<;>simp[dN,SX,SS,w2,w5,w10,sP,hoft,hthen,gB,htl,jT]
   ·simp only[Re.tabRep,aF sP];simp[au,SX,SS,Y4,Y3,w2,w5,sP];refine(znz (ae:=0) (H:=[]) (s:=s) (c0:=.int .i64 6) (c1:=u64 a) (c2:=u64 b) (c3:=u64 c) (c4:=u64 d) (c5:=.int .i64 mn) (c7:=.slc .ro [.agg e]) (mx:=mx) (by omega) (x:=x.tab s) hl (mx-mn).toNat mn (ug (s.length+1) (x.tab s) mn.toNat (mh s 6 [a,b,c,d])) (ug (s.length+1) (x.tab s) mn.toNat (mh s 6 [a,b,c,d])) _ (by omega) (by omega) ?_ ?_ ?_ ?_ ?_).mono fun e t h=>?_
    ·simp[w2]
    ·exact⟨p,by simp[w10]⟩
    ·simp
    ·simp[gB,htl]
    ·simp[w5]
    obtain⟨rfl,w',rfl,w5'⟩:=h;have h:=qQ w' _ w5';simpa[PZ,vP]using h
  have htail:=tail;simp only[dX]at htail;cases p <;>
   (simp[au,NN,NM,Kg,NL,NK,NJ,NI,Ke,NH,NG,NF,zgR,zgQ,u1,u2,bM,fQ,bV,hx0]
    refine(hrep _ ?_ ?_ ?_ ?_).mono fun e t h=>?_
    ·simp[u2]
    ·simp
    ·simp
    ·simp[u5]
    obtain⟨rfl,w,rfl,w2,w10,w5⟩:=h;have h:=htail w w2 w10 w5;simpa[PZ,vP]using h)
 have e4:(k==4)=false:=by simpa using k4
 have e5:(k==5)=false:=by simpa using k5
 have e6:(k==6)=false:=by simpa using k6
 rw[aF k4,aF k5,aF k6];simp[dN,NN,NM,Kg,NL,NK,NJ,NI,Ke,NH,NG,NF,u2,e4,e5,e6];have h:=fun w (hw:∃p,w 5=.slc p (bZ (s.length+1) (mh s k [a,b,c,d])))=>qQ w _ hw;simp only[dX]at h;refine h _ ⟨.own,?_⟩;simp[u5]
mutual
theorem zbY{s:List UInt8}(hl:s.length<=900):∀(r:Re)(dh ay:Int),r.can dh ay=true->r.wide->Lr s r
 | .mk k set mn mx l,dh,ay,hc,hw=>by
  obtain⟨r1,r2,r3,r4,r5,r6,r7⟩:=J4 hc;have hwl:Re.wideL l:=by unfold Re.wide at hw;exact hw.2.2.2
  refine zjN hl hc hw ?_;by_cases h:k<4
  ·rw[r2 h];intro x hx;cases hx
  ·exact zbZ hl l k ay r7 hwl
theorem zbZ{s:List UInt8}(hl:s.length<=900):∀(l:List Re)(k ay:Int),Re.canL l k ay=true->Re.wideL l->∀x∈l,Lr s x
 | [],_,_,_,_=>by intro x hx;cases hx
 |x::l,k,ay,hc,hw=>by
  simp only[Re.canL,aU]at hc;intro y hy;rcases il.1 hy with e|hy
  ·rw[e];exact zbY hl x k (ay+1) hc.1 hw.1
  ·exact zbZ hl l k ay hc.2 hw.2 y hy
end
end
end Go.Ak
