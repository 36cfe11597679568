/- What the program's class reader and its reader of patterns compute. -/
import Derived.Test.YtfcgnpphabplbaaGreatDoorPk
import Derived.Test.YtfcgnpphabplbaaGreatDoorPd
set_option linter.unusedVariables false
set_option linter.unusedSimpArgs false
namespace Go.Ak
attribute [local simp] Av EA EC EB mM zK wH Cy CB Cz BP BM BN Ac Cs Cq Cr Bz BA
 jP kr wanted cB dZ l8 live BR zU Aj Bw xN put vZ esc sS yn args drop1 jv xV xU yj qX rd wr kW sub AV.cells pack one setCells nJ qI qJ roOf gT qF jI jy mf eY newRow newObj step Ce Cf qR take cz bB lim mG bound uh ww uu nO yf fO
 Cm Ck Ch Ci Cj
 pY ru Ap rR BZ Ca BX
attribute [local simp] sR sT cV bL kA kB kC af aQ aJ gK ah aC dC aA eQ iY fI bH eO bD bN gQ rU bI rF aL dI eZ fK gp lX bW iQ df cO jc dP dM gm mJ fH gH iq iR lc ku fB jX iH iI
attribute [-simp] getElem?_pos
section
def dJ(p:Nat->Bool):List AV:=(ER p).map u64
theorem ES(p:Nat->Bool):dJ p=[u64 (dR p 0 64),u64 (dR p 1 64),u64 (dR p 2 64),u64 (dR p 3 64)]:=rfl
theorem nI(p:Nat->Bool):(dJ p).length=4:=rfl
theorem zkE(p:Nat->Bool){i:Nat}(h:i<4):((dJ p).drop i).take 1=[u64 (dR p i 64)]:=by
 rcases i with _|_|_|_|i
 ·rfl
 ·rfl
 ·rfl
 ·rfl
 ·omega
theorem zkD(p:Nat->Bool){c:Nat}(hc:c<256):(dJ p).set (c/64) (u64 (dR p (c/64) 64 ||| 2^(c%64)))=dJ (fun x=>p x||decide (x=c)):=by
 unfold dJ;rw[←zkB p hc,List.map_set]
theorem VG{n:Nat}(h:n<2^64):((n:Int)%2^IntKind.u64.bits).toNat=n:=by
 have h1:(2:Int)^IntKind.u64.bits=18446744073709551616:=by decide
 have h2:2^64=18446744073709551616:=by decide
 rw[h1];omega
theorem Jm{n:Nat}(h:n<2^64):IntKind.u64.wrap (n:Int)=n:=by
 have h1:(2:Int)^64=18446744073709551616:=by decide
 have h2:2^64=18446744073709551616:=by decide
 simp only[IntKind.wrap,IntKind.bits,IntKind.signed,h1,Bool.false_and,mQ,ig];omega
theorem u64_or{a b:Nat}(ha:a<2^64)(hb:b<2^64):IntKind.u64.wrap (((((a:Int)%2^IntKind.u64.bits).toNat ||| ((b:Int)%2^IntKind.u64.bits).toNat:Nat)):Int)=((a ||| b:Nat):Int):=by
 rw[VG ha,VG hb];exact Jm (Nat.or_lt_two_pow ha hb)
theorem Qs{n:Nat}(h:n<2^64):n%2^IntKind.u64.bits=n:=EG h
theorem zjr{a k:Nat}(ha:a<2^64)(hk:k<64):IntKind.u64.wrap ((a%2^IntKind.u64.bits ||| ((2:Int)^k%2^IntKind.u64.bits).toNat:Nat):Int)=((a ||| 2^k:Nat):Int):=by
 have h:=u64_or ha (Nat.pow_lt_pow_right (a:=2) (by omega) hk);rw[VG ha,show(((2^k:Nat)):Int)=(2:Int)^k by simp]at h;rw[Qs ha];exact h
theorem zrv{ae:Nat}{H:aj}{b:UInt8}:∀(n c:Nat)(p:Nat->Bool)(v:Nat->AV),c+n=b.toNat+1->v 2=.int .u8 b.toNat->v 3=.box (dJ p)->v 7=ag c->
  Wp (aP ak SA.sp ae (.loop a136l5) (az 8399 v,H)) (fun e t=>e=.exit 0∧∃v' q,t=(az 8399 v',H)∧v' 3=.box (dJ q)∧v' 6=v 6∧∀x,q x=(p x||(decide (c<=x)&&decide (x<=b.toNat)))):=by
 intro n;induction n with
 |zero=>
  intro c p v hi v2 v3 v7;have hb:=b.toNat_lt;have hw:IntKind.i64.wrap (b.toNat:Int)=b.toNat:=aM _ (by omega);have gJ:¬((c:Int)<=(b.toNat:Int)):=by omega
  rw[bu a136l5.eq_1];simp[au,U8,v2,v7,gJ,hw];refine⟨_,rfl,p,by simp[v3],by simp,fun x=>?_⟩;by_cases h1:c<=x<;>by_cases h2:x<=b.toNat<;>simp[h1,h2]<;>omega
 |succ n ih=>
  intro c p v hi v2 v3 v7;have hb:=b.toNat_lt;have hw:IntKind.i64.wrap (b.toNat:Int)=b.toNat:=aM _ (by omega);have cu:((c:Int)<=(b.toNat:Int)):=by omega
  have hq2:IntKind.i64.wrap ((c:Int)/64)=(c:Int)/64:=aM _ (by omega);have hq0:0<=(c:Int)/64:=by omega
  have hqt:((c:Int)/64).toNat=c/64:=by omega
  have hr0:¬((c:Int)%64<0):=by omega
  have hrt:((c:Int)%64).toNat=c%64:=by omega
  have hm:min (c%64) IntKind.u64.bits=c%64:=Nat.min_eq_left (by show c%64<=64;omega);have hr:(c:Int).tmod 64=(c:Int)%64:=VB (by omega);have hpw:IntKind.u64.wrap (2^(c%64))=(2:Int)^(c%64):=by rw[zjo _ (by omega)];simp
  have hor:=zjr (a:=dR p (c/64) 64) (k:=c%64) (Bv p _ _) (by omega);have cK:=zkD p (c:=c) (by omega);have hq4:c/64<4:=by omega
  have hq5:c/64+1<=4:=by omega
  have aT:IntKind.i64.wrap ((c:Int)+1)=(c:Int)+1:=aM _ (by omega);have dQ:=zkE p hq4;rw[bu a136l5.eq_1];simp[bR,U8,zh7,zh4,v2,v3,v7,cu,hw,aT,hq2,hq0,hqt,hr,hr0,hrt,hm,hor,cK,hpw,hq4,hq5,dQ,nI];refine(ih (c+1) (fun x=>p x||decide (x=c)) _ (by omega) ?_ ?_ ?_).mono fun e t h=>?_
  ·simp[v2]
  ·simp
  ·simp
  ·obtain⟨rfl,v',q,rfl,h3,h6,hq⟩:=h;refine⟨rfl,v',rfl,q,h3,by simpa using h6,fun x=>?_⟩;rw[hq x];by_cases e:x=c
   ·subst e;have:x<=b.toNat:=by omega
    simp[this]
   ·have:c+1<=x↔c<=x:=by omega
    simp[e,this]
def gN(p:Nat->Bool):AV:=.agg (dJ p)
theorem zot(n:Nat)(H:aj)(p:Nat->Bool):aN n H (gN p)=some (gN p):=by simp[gN,ES,aN,bg]
theorem VY{ae:Nat}{H:aj}(p:Nat->Bool)(a b:UInt8):Rn ak SA.sp ae 136 [gN p,.int .u8 a.toNat,.int .u8 b.toNat] H=some (.ret (gN (bi p (bv a b))),H):=by
 have ha:=a.toNat_lt;have hw:IntKind.i64.wrap (a.toNat:Int)=a.toNat:=aM _ (by omega);refine di rfl rfl rfl rfl ?_;rw[zpD];simp[iO,a136,zh6,zh5,hw,gN];by_cases cu:a.toNat<=b.toNat
 ·refine(zrv (ae:=0) (b:=b) (b.toNat+1-a.toNat) a.toNat p _ (by omega) ?_ ?_ ?_).mono fun e t h=>?_
  ·simp
  ·simp
  ·simp
  ·obtain⟨rfl,v',q,rfl,h3,h6,hq⟩:=h;have e1:dJ q=dJ (bi p (bv a b)):=by
    have:q=bi p (bv a b):=funext fun x=>by rw[hq x];rfl
    rw[this]
   simp at h6;have h4:List.take 4 (dJ (bi p (bv a b)))=dJ (bi p (bv a b)):=rfl;simp[dX,zar,h3,h6,nI,e1];simp[ES,aN,bg]
 ·have gJ:¬((a.toNat:Int)<=(b.toNat:Int)):=by omega
  have hb:=b.toNat_lt;have hwb:IntKind.i64.wrap (b.toNat:Int)=b.toNat:=aM _ (by omega);have e1:bi p (bv a b)=p:=funext fun x=>by
   by_cases h1:a.toNat<=x<;>by_cases h2:x<=b.toNat<;>simp[bi,bv,h1,h2]<;>omega
  rw[bu a136l5.eq_1];simp[au,U8,zar,gJ,hwb,nI,e1];simp[ES,aN,bg]
end
section
theorem zjq{a b:Nat}(ha:a<2^64)(hb:b<2^64):IntKind.u64.wrap ((a%2^IntKind.u64.bits ||| b%2^IntKind.u64.bits:Nat):Int)=((a ||| b:Nat):Int):=by
 rw[Qs ha,Qs hb];exact Jm (Nat.or_lt_two_pow ha hb)
theorem pz(p:Nat->Bool):gN p=.agg [u64 (dR p 0 64),u64 (dR p 1 64),u64 (dR p 2 64),u64 (dR p 3 64)]:=rfl
theorem zjn{ae:Nat}{H:aj}(p q:Nat->Bool):Rn ak SA.sp ae 126 [gN p,gN q] H=some (.ret (gN (bi p q)),H):=by
 have o:∀i,IntKind.u64.wrap ((dR p i 64%2^IntKind.u64.bits ||| dR q i 64%2^IntKind.u64.bits:Nat):Int)=(dR (bi p q) i 64:Int):=fun i=>by
  rw[zjq (Bv p i 64) (Bv q i 64),zjh]
 have w1:IntKind.i64.wrap 1=1:=by decide
 have w2:IntKind.i64.wrap 2=2:=by decide
 have w3:IntKind.i64.wrap 3=3:=by decide
 have w4:IntKind.i64.wrap 4=4:=by decide
 refine di rfl rfl rfl rfl ?_;rw[zpJ];simp[iO,a126,ziq,zio,pz];rw[bu a126l6.eq_1];simp[bR,Lg,Lf,Lh,Le,o,w1];rw[bu a126l6.eq_1];simp[bR,Lg,Lf,Lh,Le,o,w2];rw[bu a126l6.eq_1];simp[bR,Lg,Lf,Lh,Le,o,w3];rw[bu a126l6.eq_1];simp[bR,Lg,Lf,Lh,Le,o,w4];rw[bu a126l6.eq_1];simp[bR,Lg,Lf,Lh,Le,zin,aN,bg]
theorem zdr{ae:Nat}{H:aj}(p:Nat->Bool):Rn ak SA.sp ae 127 [gN p] H=some (.ret (gN (qa p)),H):=by
 have o:∀i,IntKind.u64.wrap ((((bif IntKind.u64.signed then -1 else IntKind.u64.max)%2^IntKind.u64.bits).toNat ^^^ dR p i 64%2^IntKind.u64.bits:Nat):Int)=(dR (qa p) i 64:Int):=fun i=>by
  rw[Qs (Bv p i 64)];have e:((bif IntKind.u64.signed then -1 else IntKind.u64.max)%2^IntKind.u64.bits:Int).toNat=2^64-1:=by decide
  have e2:(2^64-1) ^^^ dR p i 64=dR (qa p) i 64:=by
   apply Qd;intro j;rw[Nat.testBit_xor,Nat.testBit_two_pow_sub_one,vY,vY];by_cases hj:j<64<;>simp[hj,qa]
  rw[e,e2];exact Jm (Bv _ _ _)
 have w1:IntKind.i64.wrap 1=1:=by decide
 have w2:IntKind.i64.wrap 2=2:=by decide
 have w3:IntKind.i64.wrap 3=3:=by decide
 have w4:IntKind.i64.wrap 4=4:=by decide
 refine di rfl rfl rfl rfl ?_;rw[zpI];simp[iO,a127,zim,zil,pz];rw[bu a127l6.eq_1];simp[bR,Ld,Lc,Lb,La,w1,o];rw[bu a127l6.eq_1];simp[bR,Ld,Lc,Lb,La,w2,o];rw[bu a127l6.eq_1];simp[bR,Ld,Lc,Lb,La,w3,o];rw[bu a127l6.eq_1];simp[bR,Ld,Lc,Lb,La,w4,o];rw[bu a127l6.eq_1];simp[bR,Ld,Lc,Lb,La,zik,aN,bg]
theorem zso{ae:Nat}{H:aj}(p:Nat->Bool)(a b:UInt8):Rn ak SA.sp ae 128 [gN p,.int .u8 a.toNat,.int .u8 b.toNat] H=some (.ret (gN (bi p (bv a b))),H):=by
 have h:=VY (ae:=0) (H:=[]) p a b;rw[pz,pz]at h ⊢;refine di rfl rfl rfl rfl ?_;rw[zpH];simp[dX,a128,zij,zii,h,aN,bg]
theorem zsc{ae:Nat}{H:aj}(p:Nat->Bool):Rn ak SA.sp ae 115 [gN p] H=some (.ret (gN (qa p)),H):=by
 have h:=zdr (ae:=0) (H:=[]) p;rw[pz,pz]at h ⊢;refine di rfl rfl rfl rfl ?_;rw[zpS];simp[dX,a115,ziC,ziB,h,aN,bg]
theorem Wh(name:List UInt8):jS name=
 if name=[97,108,112,104,97]then[65,90,97,122]
 else if name=[100,105,103,105,116]then[48,57]
 else if name=[97,108,110,117,109]then[48,57,65,90,97,122]
 else if name=[117,112,112,101,114]then[65,90]
 else if name=[108,111,119,101,114]then[97,122]
 else if name=[115,112,97,99,101]then[9,13,32,32]
 else if name=[98,108,97,110,107]then[9,9,32,32]
 else if name=[112,117,110,99,116]then[33,47,58,64,91,96,123,126]
 else if name=[112,114,105,110,116]then[32,126]
 else if name=[103,114,97,112,104]then[33,126]
 else if name=[99,110,116,114,108]then[0,31,127,127]
 else if name=[120,100,105,103,105,116]then[48,57,65,70,97,102]
 else[]:=rfl
theorem sW:∀(a b:List UInt8),ic a b=decide (a=b)
 | [],[]=>rfl
 | [],_::_=>rfl
 |_::_,[]=>rfl
 |a::x,b::y=>by
  have ih:=sW x y;simp only[ic,jv,ih];by_cases h:a=b
  ·subst h;simp
  ·have h2:¬a.toNat=b.toNat:=fun e=>h (si.1 e);simp[h,h2]
theorem mD(a b:List UInt8):iw .eql a b=some (.bool (decide (a=b))):=by rw[←sW];rfl
theorem zlG{ae:Nat}{H:aj}(name:List UInt8):Rn ak SA.sp ae 138 [.str name] H=some (.ret (.str (jS name)),H):=by
 refine di rfl rfl rfl rfl ?_;rw[zpB,Wh];simp only[a138];by_cases h1:name=[97,108,112,104,97]
 ·simp[au,tQ,tO,tL,tK,mD,h1]
 by_cases h2:name=[100,105,103,105,116]
 ·simp[au,tQ,tO,tL,tK,uT,uS,mD,h1,h2]
 by_cases h3:name=[97,108,110,117,109]
 ·simp[au,tQ,tO,tL,tK,uT,uS,xq,xn,mD,h1,h2,h3]
 by_cases h4:name=[117,112,112,101,114]
 ·simp[au,tQ,tO,tL,tK,uT,uS,xq,xn,ze,zb,mD,h1,h2,h3,h4]
 by_cases h5:name=[108,111,119,101,114]
 ·simp[au,tQ,tO,tL,tK,uT,uS,xq,xn,ze,zb,Bd,Bc,mD,h1,h2,h3,h4,h5]
 by_cases h6:name=[115,112,97,99,101]
 ·simp[au,tQ,tO,tL,tK,uT,uS,xq,xn,ze,zb,Bd,Bc,DI,DF,mD,h1,h2,h3,h4,h5,h6]
 by_cases h7:name=[98,108,97,110,107]
 ·simp[au,tQ,tO,tL,tK,uT,uS,xq,xn,ze,zb,Bd,Bc,DI,DF,FY,FX,mD,h1,h2,h3,h4,h5,h6,h7]
 by_cases h8:name=[112,117,110,99,116]
 ·simp[au,tQ,tO,tL,tK,uT,uS,xq,xn,ze,zb,Bd,Bc,DI,DF,FY,FX,IE,IC,mD,h1,h2,h3,h4,h5,h6,h7,h8]
 by_cases h9:name=[112,114,105,110,116]
 ·simp[au,tQ,tO,tL,tK,uT,uS,xq,xn,ze,zb,Bd,Bc,DI,DF,FY,FX,IE,IC,K9,K8,mD,h1,h2,h3,h4,h5,h6,h7,h8,h9]
 by_cases h10:name=[103,114,97,112,104]
 ·simp[au,tQ,tO,tL,tK,uT,uS,xq,xn,ze,zb,Bd,Bc,DI,DF,FY,FX,IE,IC,K9,K8,O1,O0,mD,h1,h2,h3,h4,h5,h6,h7,h8,h9,h10]
 by_cases h11:name=[99,110,116,114,108]
 ·simp[au,tQ,tO,tL,tK,uT,uS,xq,xn,ze,zb,Bd,Bc,DI,DF,FY,FX,IE,IC,K9,K8,O1,O0,U7,U6,mD,h1,h2,h3,h4,h5,h6,h7,h8,h9,h10,h11]
 by_cases h12:name=[120,100,105,103,105,116]
 ·simp[au,tQ,tO,tL,tK,uT,uS,xq,xn,ze,zb,Bd,Bc,DI,DF,FY,FX,IE,IC,K9,K8,O1,O0,U7,U6,zan,zam,mD,h1,h2,h3,h4,h5,h6,h7,h8,h9,h10,h11,h12]
 simp[au,tQ,tO,tL,tK,uT,uS,xq,xn,ze,zb,Bd,Bc,DI,DF,FY,FX,IE,IC,K9,K8,O1,O0,U7,U6,zan,zam,zh3,mD,h1,h2,h3,h4,h5,h6,h7,h8,h9,h10,h11,h12]
theorem zme(p q r:Nat->Bool):bi (bi p q) r=bi p (bi q r):=funext fun x=>by simp[bi,Bool.or_assoc]
theorem zmd(p:Nat->Bool):bi p aO=p:=funext fun x=>by simp[bi,aO]
theorem QW(p:Nat->Bool):bi aO p=p:=funext fun x=>by simp[bi,aO]
theorem znp{ae:Nat}{H:aj}{l:List UInt8}(hl:l.length<=100)(hev:l.length%2=0):∀(n i:Nat)(p:Nat->Bool)(v:Nat->AV),i+2*n=l.length->v 4=.box (dJ p)->v 5=.str l->v 6=ag i->
  Wp (aP ak SA.sp ae (.loop a134l7) (az 4221 v,H)) (fun e t=>e=.exit 0∧∃v',t=(az 4221 v',H)∧v' 4=.box (dJ (bi p (aG (l.drop i))))∧v' 2=v 2∧v' 5=v 5):=by
 intro n;induction n with
 |zero=>
  intro i p v hi v4 v5 v6;have jD:¬((i:Int)<(l.length:Int)):=by omega
  have e0:l.drop i=[]:=pu (by omega);rw[bu a134l7.eq_1];simp[au,zas,v5,v6,jD];exact⟨_,rfl,by rw[e0];simp[v4,aG,zmd],by simp,by simp[v5]⟩
 |succ n ih=>
  intro i p v hi v4 v5 v6;have aB:((i:Int)<(l.length:Int)):=by omega
  have h1:i<l.length:=by omega
  have h2:i+1<l.length:=by omega
  obtain⟨a,ha⟩:∃a,l[i]?=some a:=⟨l[i],gG h1⟩
  obtain⟨b,hb⟩:∃b,l[i+1]?=some b:=⟨l[i+1],gG h2⟩
  have hd:l.drop i=a::b::l.drop (i+2):=by
   obtain⟨_,rfl⟩:=eD.1 ha;obtain⟨_,rfl⟩:=eD.1 hb;rw[iJ h1,iJ h2]
  have hw:IntKind.i64.wrap ((i:Int)+1)=(i:Int)+1:=aM _ (by omega);have h0:(0:Int)<=(i:Int)+1:=by omega
  have ht:((i:Int)+1).toNat=i+1:=by omega
  have bY:IntKind.i64.wrap ((i:Int)+2)=(i:Int)+2:=aM _ (by omega);have hc:=VY (ae:=ae) (H:=H) p a b;unfold gN at hc;have h4:List.take 4 (dJ p)=dJ p:=rfl;have h44:(dJ (bi p (bv a b))).length=4:=rfl;have hsc:∀q:Nat->Bool,(((((dJ p).set 0 (u64 (dR q 0 64))).set 1 (u64 (dR q 1 64))).set 2 (u64 (dR q 2 64))).set 3 (u64 (dR q 3 64)))=dJ q:=fun q=>rfl;rw[bu a134l7.eq_1];rw[ES (bi p (bv a b))]at hc;simp[bR,zas,zie,zh9,v4,v5,v6,aB,ha,hb,hw,bY,h0,ht,nI,h4,hc,hsc];refine(ih (i+2) (bi p (bv a b)) _ (by omega) ?_ ?_ ?_).mono fun e t h=>?_
  ·simp
  ·simp[v5]
  ·simp
  ·obtain⟨rfl,v',rfl,k4,k2,k5⟩:=h;refine⟨rfl,v',rfl,?_,by simpa using k2,by simpa[v5]using k5⟩;rw[k4,hd,aG,zme]
def EvenL(l:List UInt8):Prop:=l.length<=100∧l.length%2=0
theorem zn7{P:List UInt8->Prop}{c:Prop}[Decidable c]{a b:List UInt8}(h1:P a)(h2:P b):P (if c then a else b):=by split<;>assumption
theorem zlH(name:List UInt8):(jS name).length<=100∧(jS name).length%2=0:=by
 rw[Wh];show EvenL _;repeat' (first|exact⟨by decide,by decide⟩|apply zn7)
theorem znl{ae:Nat}{H:aj}(name:List UInt8):Rn ak SA.sp ae 134 [.str name] H=some (.ret (.tup [gN (aG (jS name)),.bool (!decide (jS name=[]))]),H):=by
 have h:=zlG (ae:=0) (H:=[]) name;obtain⟨h1,h2⟩:=zlH name;generalize jS name=l at *;have z:∀p:Nat->Bool,List.replicate 4 (AV.int .u64 0)=dJ aO:=fun _=>rfl;have hneq:iw .neq l []=some (.bool (!decide (l=[]))):=by rw[zrf,sW]
 refine di rfl rfl rfl rfl ?_;rw[zpF];simp[iO,a134,zid,zic,zib,zia,h];refine(znp (ae:=0) (H:=[]) h1 h2 (l.length/2) 0 aO _ (by omega) ?_ ?_ ?_).mono fun e t h=>?_
 ·simp;rfl
 ·simp
 ·simp
 ·obtain⟨rfl,v',rfl,k4,k2,k5⟩:=h;simp at k2 k5;rw[xI,QW]at k4;have h4:∀p,List.take 4 (dJ p)=dJ p:=fun p=>rfl;have hsc:∀q:Nat->Bool,dJ q=[u64 (dR q 0 64),u64 (dR q 1 64),u64 (dR q 2 64),u64 (dR q 3 64)]:=fun q=>rfl;rw[hsc]at k4;simp[dX,zh8,k2,k4,k5,hneq,pz,aN,bg]
end
section
theorem WO:∀(l:List UInt8),Lib.index l [58,93]=match nQ l with|none=> -1|some n=>(n:Int)
 | []=>rfl
 |c::l=>by
  have ih:=WO l;rw[Lib.index,nQ];have hp:([58,93]:List UInt8).isPrefixOf (c::l)=decide ((c::l).take 2=[58,93]):=by
   cases l with
   |nil=>simp[List.isPrefixOf]
   |cons d l=>
    simp only[List.isPrefixOf,EJ,xD,LQ,nE,Bool.and_true];by_cases h1:58=c<;>by_cases h2:93=d
    ·subst h1 h2;rfl
    ·have:¬d=93:=fun e=>h2 e.symm;simp[h1,h2,this]
    ·have:¬c=58:=fun e=>h1 e.symm;simp[h1,this]
    ·have:¬c=58:=fun e=>h1 e.symm;simp[h1,this]
  rw[hp];by_cases h:(c::l).take 2=[58,93]
  ·simp[h]
  ·rw[aF (by simpa using h),aF h,ih];cases nQ l with
   |none=>rfl
   |some n=>
    have:¬((n:Int) == -1)=true:=by simp
    simp only[Qa];rw[aF this];rfl
theorem zoo{ae:Nat}{H:aj}(l t:List UInt8):Rn ak SA.sp ae 133 [.str l,.str t] H=some (.ret (.bool (decide (l.take t.length=t))),H):=by
 have h1:∀(ae:Nat)(H:aj),Rn ak SA.sp ae 137 [.str l,.str t] H=some (.ret (.bool (decide (l.take t.length=t))),H):=fun ae H=>by
  refine di rfl rfl rfl rfl ?_;rw[zpC];by_cases h:t.length<=l.length
  ·have h':(t.length:Int)<=(l.length:Int):=by omega
   simp[dX,a137,zaq,zao,h,h',mD]
  ·have h':¬(t.length:Int)<=(l.length:Int):=by omega
   have e:¬l.take t.length=t:=fun e=>by
    have:=dF List.length e;simp only[Bq]at this;omega
   simp[dX,a137,zaq,zao,h,h',e]
 refine di rfl rfl rfl rfl ?_;rw[zpG];simp[dX,a133,zih,zif,h1]
def Rd(H:aj)(r:Nat)(s:List UInt8)(i:Nat):Prop:=eB H r=some (some [.str s,ag i])
theorem Rd.set{H:aj}{r:Nat}{s:List UInt8}{i:Nat}(h:Rd H r s i)(j:Nat):Rd (H.set r (some [.str s,ag j])) r s j:=dB _ (fA h)
theorem GK{ae:Nat}{H:aj}{r:Nat}{s:List UInt8}{i:Nat}(h:Rd H r s i)(hi:i<=s.length)(t:List UInt8):Rn ak SA.sp ae 124 [.ptr r 0,.str t] H=some (.ret (.bool (gU s i t)),H):=by
 have h1:=fun H=>zoo (ae:=H.length) (H:=H) (s.drop i) t;have e1:List.take (s.length-i) (s.drop i)=s.drop i:=ek (by simp);unfold Rd at h;refine xS rfl rfl rfl rfl ?_;rw[zpL];simp[zrO,a124,zir,zis,h,hi,e1,h1,gU]
def zrS(s:List UInt8)(r:Nat)(H:aj)(x:Option (UInt8×Nat))(o:Out)(H':aj):Prop:=
 match x with
 |none=>o=.ret (.tup [.int .u8 0,.bool false])∧∃j:Nat,H'=H.set r (some [.str s,ag j])
 |some (c,j)=>o=.ret (.tup [.int .u8 c.toNat,.bool true])∧H'=H.set r (some [.str s,ag j])
theorem z8{H:aj}{r:Nat}{x:Option (List AV)}(h:eB H r=some x):H.set r x=H:=by
 apply Br;intro j;rw[EN];split
 ·rename_i e;subst e;rw[aS (fA h)];exact h.symm
 ·rfl
theorem M9{s:List UInt8}{i:Nat}(c:UInt8):gU s i [c]=decide (s[i]?=some c):=by
 unfold gU;cases h:s[i]? with
 |none=>
  have:s.drop i=[]:=pu (rq.1 h);simp[this]
 |some d=>
  have e:(s.drop i).take [c].length=[d]:=by
   obtain⟨hi,rfl⟩:=eD.1 h;rw[iJ hi];rfl
  rw[e];by_cases q:d=c
  ·subst q;simp
  ·have:¬c=d:=fun e=>q e.symm;simp[q]
theorem zci{ae:Nat}{H:aj}{r:Nat}{s:List UInt8}{i:Nat}(h:Rd H r s i)(hi:i<=s.length)(hb:ae<=r)(hl:s.length<=1000000):Wc (Rn ak SA.sp ae 135 [.ptr r 0] H) (zrS s r H (lu s i)):=by
 have dU:=fA h;have hc:=GK (ae:=ae) h hi [92];rw[M9]at hc;have hw:IntKind.i64.wrap ((i:Int)+1)=(i:Int)+1:=aM _ (by omega);have bY:IntKind.i64.wrap ((i:Int)+1+1)=(i:Int)+1+1:=aM _ (by omega);have hm:IntKind.i64.wrap ((i:Int)+1-1)=(i:Int):=by rw[aM _ (by omega)];omega
 have hm0:IntKind.i64.wrap (i:Int)=(i:Int):=aM _ (by omega);have hm2:IntKind.i64.wrap ((i:Int)+1+1-1)=(i:Int)+1:=by rw[aM _ (by omega)];omega
 have h0:(0:Int)<=(i:Int)+1:=by omega
 have ht:((i:Int)+1).toNat=i+1:=by omega
 have h':=h;unfold Rd at h';refine jl rfl rfl rfl ?_;rw[zpE];cases hc0:s[i]? with
 |none=>
  have e:i=s.length:=by have:=rq.1 hc0;omega
  have e2:lu s i=none:=by simp[lu,hc0]
  subst e;rw[hc0]at hc;simp at hc;rw[e2];simp[bR,a135,IX,IW,IM,IZ,IL,IK,IY,IJ,II,IG,IV,IU,IR,I4,IQ,IP,I1,h',hc];exact⟨rfl,s.length,(z8 h).symm⟩
 |some c=>
  have aB:=(eD.1 hc0).1;have aR:((i:Int)==(s.length:Int))=false:=by simp;omega
  have hnN:¬(i=s.length):=by omega
  rw[hc0]at hc;by_cases h92:c=92
  ·subst h92;simp at hc;cases hd:s[i+1]? with
   |none=>
    have e2:lu s i=none:=by simp[lu,hc0,hd]
    have e0:(i:Int)+1=(s.length:Int):=by have:=rq.1 hd;omega
    have e:((i:Int)+1==(s.length:Int))=true:=by simp[e0]
    rw[e2];simp[bR,a135,IX,IW,IM,IZ,IL,IK,IY,IJ,II,IG,IV,IU,IR,I4,IQ,IP,I1,h',hc,hb,hw,dB,dU,e];exact⟨rfl,i+1,rfl⟩
   |some d=>
    have e2:lu s i=some (qC d,i+2):=by simp[lu,hc0,hd]
    have hlt2:=(eD.1 hd).1;have e:((i:Int)+1==(s.length:Int))=false:=by simp;omega
    have e3:(ag (i+2))=.int .i64 ((i:Int)+1+1):=by simp[ag];omega
    have d110:((d.toNat:Int)==110)=decide (d=110):=by
     by_cases q:d=110
     ·subst q;rfl
     ·have:¬d.toNat=110:=fun e=>q (si.1 (by simpa using e));simp[q];omega
    have d116:((d.toNat:Int)==116)=decide (d=116):=by
     by_cases q:d=116
     ·subst q;rfl
     ·have:¬d.toNat=116:=fun e=>q (si.1 (by simpa using e));simp[q];omega
    rw[e2];by_cases q1:d=110
    ·subst q1;simp[bR,a135,IX,IW,IM,IZ,IL,IK,IY,IJ,II,IG,IV,IU,IR,I4,IQ,IP,I1,h',hc,hb,hw,bY,hm,hm2,h0,ht,dB,dU,e,hd];exact⟨rfl,by rw[e3]⟩
    ·by_cases q2:d=116
     ·subst q2;simp[bR,a135,IX,IW,IM,IZ,IL,IK,IY,IJ,II,IG,IV,IU,IR,I4,IQ,IP,I1,h',hc,hb,hw,bY,hm,hm2,h0,ht,dB,dU,e,hd];exact⟨rfl,by rw[e3]⟩
     ·have q1':=d110;have q2':=d116;simp only[q1,q2,decide_false]at q1' q2';simp[bR,a135,IX,IW,IM,IZ,IL,IK,IY,IJ,II,IG,IV,IU,IR,I4,IQ,IP,I1,h',hc,hb,hw,bY,hm,hm2,h0,ht,dB,dU,e,hd,q1',q2'];exact⟨by simp[qC,q1,q2],by rw[e3]⟩
  ·have e2:lu s i=some (c,i+1):=by simp[lu,hc0,h92]
   simp[h92]at hc;rw[e2];simp[bR,a135,IX,IW,IM,IZ,IL,IK,IY,IJ,II,IG,IV,IU,IR,I4,IQ,IP,I1,h',hc,hb,hw,hm,hm0,dB,dU,aR,hnN,hc0];exact⟨rfl,rfl⟩
end
section
theorem zqr{ae:Nat}{H:aj}{s:List UInt8}(h:nQ s=none)(hl:s.length<=1000000):Rn ak SA.sp ae 95 [.str s,.str [58,93]] H=some (.ret (.tup [.str s,.str [],.bool false]),H):=by
 have hx:=WO s;rw[h]at hx;have hl2:s.length<4294967281:=by omega
 have h1:∀(ae:Nat)(H:aj),Rn ak SA.sp ae 104 [.str s,.str [58,93]] H=some (.ret (.tup [.str s,.str [],.bool false]),H):=fun ae H=>by
  refine di rfl rfl rfl rfl ?_;rw[zeF];simp[dN,a104,zbl,zbk,zbj,zbm,zbi,zi0,Js,hx,hl2,aN,bg]
 refine di rfl rfl rfl rfl ?_;rw[zeu];simp[dX,a95,X7,X6,h1,aN,bg]
theorem zqq{ae:Nat}{H:aj}{s:List UInt8}{n:Nat}(h:nQ s=some n)(hl:s.length<=1000000):Rn ak SA.sp ae 95 [.str s,.str [58,93]] H=some (.ret (.tup [.str (s.take n),.str (s.drop (n+2)),.bool true]),H):=by
 have hx:=WO s;rw[h]at hx;simp only at hx;have hp:=Nb h;have hl2:s.length<4294967281:=by omega
 have h1:∀(ae:Nat)(H:aj),Rn ak SA.sp ae 104 [.str s,.str [58,93]] H=some (.ret (.tup [.str (s.take n),.str (s.drop (n+2)),.bool true]),H):=fun ae H=>by
  have hw:IntKind.i64.wrap ((n:Int)+2)=(n:Int)+2:=aM _ (by omega);have h0:(0:Int)<=(n:Int)+2:=by omega
  have e1:List.take (s.length-(n+2)) (s.drop (n+2))=s.drop (n+2):=ek (by simp);have iZ:n<=s.length:=by omega
  have ht:((n:Int)+2).toNat=n+2:=by omega
  refine di rfl rfl rfl rfl ?_;rw[zeF];simp[Ez,a104,zbl,zbk,zbj,zbm,zbi,zi0,Js,hx,hl2,aN,bg,hw,h0,hp,iZ,ht,e1]
 refine di rfl rfl rfl rfl ?_;rw[zeu];simp[dX,a95,X7,X6,h1,aN,bg]
def zbw(s:List UInt8)(r:Nat)(H:aj)(x:PR (Nat->Bool))(o:Out)(H':aj):Prop:=
 match x with
 | .er _ w=>o=.ret (.tup [gN aO,ag w])∧∃j:Nat,H'=H.set r (some [.str s,ag j])
 | .ok p j=>o=.ret (.tup [gN p,ag 0])∧H'=H.set r (some [.str s,ag j])
theorem MN(s:List UInt8)(r:Nat)(H:aj)(a w:Nat):zbw s r H (.er a w)=fun o H'=>o=.ret (.tup [gN aO,ag w])∧∃j:Nat,H'=H.set r (some [.str s,ag j]):=rfl
theorem WJ(s:List UInt8)(r:Nat)(H:aj)(p:Nat->Bool)(j:Nat):zbw s r H (.ok p j)=fun o H'=>o=.ret (.tup [gN p,ag 0])∧H'=H.set r (some [.str s,ag j]):=rfl
theorem zn6{ae:Nat}{H:aj}{r:Nat}{s:List UInt8}{i:Nat}(h:Rd H r s i)(hi:i<=s.length)(hb:ae<=r)(hl:s.length<=10000):Wc (Rn ak SA.sp ae 125 [.ptr r 0] H) (zbw s r H (iU s i)):=by
 have dU:=fA h;have hc:=GK (ae:=ae) h hi [91,58];have h':=h;unfold Rd at h';have hz:gN aO=.agg [.int .u64 0,.int .u64 0,.int .u64 0,.int .u64 0]:=rfl;refine jl rfl rfl rfl ?_;rw[zpK];by_cases bM:gU s i [91,58]=true
 · -- a class
  have bq:=Na bM (by simp);simp only[fF,gW]at bq;have hw:IntKind.i64.wrap ((i:Int)+2)=(i:Int)+2:=aM _ (by omega);have h0:(0:Int)<=(i:Int)+2:=by omega
  have ht:((i:Int)+2).toNat=i+2:=by omega
  have hle2:i+2<=s.length:=by omega
  have e1:List.take (s.length-(i+2)) (s.drop (i+2))=s.drop (i+2):=ek (by simp);rw[bM]at hc;cases hcf:nQ (s.drop (i+2))with
  |none=>
   have hcut:=zqr (ae:=ae) (H:=H) hcf (by simp;omega);have e2:iU s i=.er 0 3:=by simp[iU,bM,hcf]
   rw[e2,MN,hz];simp[bR,a125,zF,zD,zG,zm,zl,zk,zi,zh,zg,zf,zC,zB,zA,zz,zy,zx,zw,zu,zt,zq,zo,zn,h',hc,hw,h0,ht,hle2,e1,hcut];exact⟨i,(z8 h).symm⟩
  |some n=>
   have hp:=Nb hcf;simp only[kZ]at hp;have hcut:=zqq (ae:=ae) (H:=H) hcf (by simp;omega);generalize hnm:(s.drop (i+2)).take n=nm at hcut;have kw:nm.length=n:=by rw[←hnm];simp;omega
   have hnamed:=fun H=>znl (ae:=ae) (H:=H) nm;have hw4:IntKind.i64.wrap ((nm.length:Int)+4)=(nm.length:Int)+4:=aM _ (by omega);have hwi:IntKind.i64.wrap ((i:Int)+((nm.length:Int)+4))=(i:Int)+((nm.length:Int)+4):=aM _ (by omega);by_cases hr:jS nm=[]
   ·have e2:iU s i=.er 0 40:=by simp[iU,bM,hcf,hnm,hr]
    have hn0:∀H,Rn ak SA.sp ae 134 [.str nm] H=some (.ret (.tup [.agg [u64 (dR (aG (jS nm)) 0 64),u64 (dR (aG (jS nm)) 1 64),u64 (dR (aG (jS nm)) 2 64),u64 (dR (aG (jS nm)) 3 64)],.bool false]),H):=fun H=>by
     rw[hnamed H,pz];simp[hr]
    rw[e2,MN,hz];simp[bR,a125,zF,zD,zG,zm,zl,zk,zi,zh,zg,zf,zC,zB,zA,zz,zy,zx,zw,zu,zt,zq,zo,zn,h',hc,hw,h0,ht,hle2,e1,hcut,hw4,hwi,hb,dU,hn0];exact⟨i+(nm.length+4),rfl⟩
   ·have e2:iU s i=.ok (aG (jS nm)) (i+n+4):=by simp[iU,bM,hcf,hnm,hr]
    have hn0:∀H,Rn ak SA.sp ae 134 [.str nm] H=some (.ret (.tup [.agg [u64 (dR (aG (jS nm)) 0 64),u64 (dR (aG (jS nm)) 1 64),u64 (dR (aG (jS nm)) 2 64),u64 (dR (aG (jS nm)) 3 64)],.bool true]),H):=fun H=>by
     rw[hnamed H,pz];simp[hr]
    have e3:(ag (i+n+4))=.int .i64 ((i:Int)+((nm.length:Int)+4)):=by simp[ag,kw];omega
    rw[e2,WJ,pz,e3];simp[bR,a125,zF,zD,zG,zm,zl,zk,zi,zh,zg,zf,zC,zB,zA,zz,zy,zx,zw,zu,zt,zq,zo,zn,h',hc,hw,h0,ht,hle2,e1,hcut,hw4,hwi,hb,dU,hn0]
 ·have bM:gU s i [91,58]=false:=by simpa using bM
  rw[bM]at hc;obtain⟨o1,H1,q1,q2⟩:=zci h hi hb (by omega);cases hsg:lu s i with
  |none=>
   rw[hsg]at q2;obtain⟨rfl,j,rfl⟩:=q2;have e2:iU s i=.er 0 3:=by simp[iU,bM,hsg]
   rw[e2,MN,hz];simp[bR,a125,zF,zD,zG,zm,zl,zk,zi,zh,zg,zf,zC,zB,zA,zz,zy,zx,zw,zu,zt,zq,zo,zn,h',hc,q1];exact⟨j,rfl⟩
  |some q=>
   obtain⟨a,j⟩:=q;rw[hsg]at q2;obtain⟨rfl,rfl⟩:=q2;obtain⟨j1,j2⟩:=QA hsg;have hR:=h.set j;have hRl:=fA hR;have c1:=GK (ae:=ae) hR j2 [45];have c2:=GK (ae:=ae) hR j2 [45,93];have c3:=GK (ae:=ae) hR j2 [45,91,58];have hadd:=fun H a b=>VY (ae:=ae) (H:=H) aO a b;have gZ:=hR;unfold Rd at gZ;have hadd':∀H (a b:UInt8),Rn ak SA.sp ae 136 [.agg [.int .u64 0,.int .u64 0,.int .u64 0,.int .u64 0],.int .u8 a.toNat,.int .u8 b.toNat] H=some (.ret (.agg [u64 (dR (bv a b) 0 64),u64 (dR (bv a b) 1 64),u64 (dR (bv a b) 2 64),u64 (dR (bv a b) 3 64)]),H):=fun H a b=>by
    have:=hadd H a b;rw[QW]at this;exact this
   by_cases dW:gU s j [45]=true∧¬gU s j [45,93]=true∧¬gU s j [45,91,58]=true
   ·obtain⟨d1,d2,d3⟩:=dW;have d2:gU s j [45,93]=false:=by simpa using d2
    have d3:gU s j [45,91,58]=false:=by simpa using d3
    have hjl:=Na d1 (by simp);simp only[fF,gW]at hjl;have hwj:IntKind.i64.wrap ((j:Int)+1)=(j:Int)+1:=aM _ (by omega);have cK:(H.set r (some [.str s,ag j])).set r (some [.str s,ag (j+1)])=H.set r (some [.str s,ag (j+1)]):=iP ..;obtain⟨o3,H3,q3,q4⟩:=zci (ae:=ae) (h.set (j+1)) (by omega) hb (by omega);have hnj:ag (j+1)=.int .i64 ((j:Int)+1):=by simp[ag]
    rw[hnj]at q3 q4;rw[d1]at c1;rw[d2]at c2;rw[d3]at c3;cases hsg2:lu s (j+1)with
    |none=>
     rw[hsg2]at q4;obtain⟨rfl,k,rfl⟩:=q4;have e2:iU s i=.er 0 3:=by simp[iU,bM,hsg,d1,d2,d3,hsg2]
     rw[e2,MN,hz];simp[bR,a125,zF,zD,zG,zm,zl,zk,zi,zh,zg,zf,zC,zB,zA,zz,zy,zx,zw,zu,zt,zq,zo,zn,h',hc,q1,c1,c2,c3,gZ,hwj,hb,dU,q3,dB];exact⟨k,rfl⟩
    |some q=>
     obtain⟨b,k⟩:=q;rw[hsg2]at q4;obtain⟨rfl,rfl⟩:=q4;by_cases hba:b<a
     ·have hba':(b.toNat:Int)<(a.toNat:Int):=by rw[EE]at hba;omega
      have e2:iU s i=.er 0 4:=by simp[iU,bM,hsg,d1,d2,d3,hsg2,hba]
      rw[e2,MN,hz];simp[bR,a125,zF,zD,zG,zm,zl,zk,zi,zh,zg,zf,zC,zB,zA,zz,zy,zx,zw,zu,zt,zq,zo,zn,h',hc,q1,c1,c2,c3,gZ,hwj,hb,dU,q3,dB,hba'];exact⟨k,rfl⟩
     ·have hba':¬(b.toNat:Int)<(a.toNat:Int):=by rw[EE]at hba;omega
      have e2:iU s i=.ok (bv a b) k:=by simp[iU,bM,hsg,d1,d2,d3,hsg2,hba]
      rw[e2,WJ,pz];simp[bR,a125,zF,zD,zG,zm,zl,zk,zi,zh,zg,zf,zC,zB,zA,zz,zy,zx,zw,zu,zt,zq,zo,zn,h',hc,q1,c1,c2,c3,gZ,hwj,hb,dU,q3,dB,hba',hadd']
   ·have e2:iU s i=.ok (bv a a) j:=by
     simp only[iU,bM,hsg,mQ,ig];rw[aF dW]
    rw[e2,WJ,pz];cases d1:gU s j [45]with
    |false=>
     rw[d1]at c1;simp[bR,a125,zF,zD,zG,zm,zl,zk,zi,zh,zg,zf,zC,zB,zA,zz,zy,zx,zw,zu,zt,zq,zo,zn,h',hc,q1,c1,hadd']
    |true=>
     rw[d1]at c1;cases d2:gU s j [45,93]with
     |true=>
      rw[d2]at c2;simp[bR,a125,zF,zD,zG,zm,zl,zk,zi,zh,zg,zf,zC,zB,zA,zz,zy,zx,zw,zu,zt,zq,zo,zn,h',hc,q1,c1,c2,hadd']
     |false=>
      rw[d2]at c2;cases d3:gU s j [45,91,58]with
      |true=>
       rw[d3]at c3;simp[bR,a125,zF,zD,zG,zm,zl,zk,zi,zh,zg,zf,zC,zB,zA,zz,zy,zx,zw,zu,zt,zq,zo,zn,h',hc,q1,c1,c2,c3,hadd']
      |false=>exact absurd ⟨d1,by simp[d2],by simp[d3]⟩ dW
end
section
def ItemsOut(s:List UInt8)(v:Nat->AV)(x:PR (Nat->Bool))(e:AExit)(t:EH):Prop:=
 match x with
 | .er _ w=>e=.ret∧∃v' K,t=(az 2342153315636223987 v',K)∧v' 4=.box (dJ aO)∧v' 5=ag 0∧v' 6=ag w
 | .ok p j=>e=.exit 0∧∃v',t=(az 2342153315636223987 v',[some [.str s,ag j]])∧v' 9=.box (dJ p)∧v' 4=v 4∧v' 7=v 7∧v' 8=v 8
theorem zn5(s:List UInt8)(v:Nat->AV)(a w:Nat):ItemsOut s v (.er a w)=fun e t=>e=.ret∧∃v' K,t=(az 2342153315636223987 v',K)∧v' 4=.box (dJ aO)∧v' 5=ag 0∧v' 6=ag w:=rfl
theorem zn4(s:List UInt8)(v:Nat->AV)(p:Nat->Bool)(j:Nat):ItemsOut s v (.ok p j)=fun e t=>e=.exit 0∧∃v',t=(az 2342153315636223987 v',[some [.str s,ag j]])∧v' 9=.box (dJ p)∧v' 4=v 4∧v' 7=v 7∧v' 8=v 8:=rfl
theorem ItemsOut.of_eq{s:List UInt8}{v w:Nat->AV}{x:PR (Nat->Bool)}{e:AExit}{t:EH}(h:ItemsOut s v x e t)(h4:v 4=w 4)(h7:v 7=w 7)(h8:v 8=w 8):ItemsOut s w x e t:=by
 cases x with
 |er a b=>exact h
 |ok p j=>
  obtain⟨h1,v',h2,h3,k4,k7,k8⟩:=h;exact⟨h1,v',h2,h3,k4.trans h4,k7.trans h7,k8.trans h8⟩
theorem zdT{s:List UInt8}(hl:s.length<=10000):∀(n i:Nat)(first:Bool)(p:Nat->Bool)(v:Nat->AV),i<=s.length->s.length<n+i->v 4=.box (dJ aO)->v 7=.ptr 0 0->v 9=.box (dJ p)->v 10=.bool first->
  Wp (aP ak SA.sp 0 (.loop a114l15) (az 2342153315636223987 v,[some [.str s,ag i]])) (ItemsOut s v (nL s n first p i)):=by
 intro n;induction n with
 |zero=>intro i first p v h1 h2;omega
 |succ n ih=>
  intro i first p v h1 h2 v4 v7 v9 fP
  have hR:Rd [some [.str s,ag i]] 0 s i:=rfl;have hc:=GK (ae:=0) hR h1 [93];have hz:([.int .u64 0,.int .u64 0,.int .u64 0,.int .u64 0]:List AV)=dJ aO:=rfl;rw[bu a114l15.eq_1];by_cases hend:first=false∧gU s i [93]=true
  ·obtain⟨rfl,he⟩:=hend;have e1:nL s (n+1) false p i=.ok p i:=by simp[nL,he]
   rw[he]at hc;rw[e1,zn4];simp[au,Li,v4,v7,v9,fP,hc];exact⟨_,rfl,by simp[v9],by simp[v4],by simp[v7],by simp⟩
  ·have e0:nL s (n+1) first p i=match iU s i with
     | .er a w=>.er a w
     | .ok q j=>nL s n false (bi p q) j:=by
    rw[nL,aF (by simpa using hend)];cases iU s i<;>rfl
   have eH:first=true∨(first=false∧gU s i [93]=false):=by
    cases first with
    |true=>exact .inl rfl
    |false=>exact .inr ⟨rfl,by simpa using hend⟩
   obtain⟨o,K,q1,q2⟩:=zn6 (ae:=0) hR h1 (aX _) hl;have hp:=WK (s:=s) i;rw[e0];cases hit:iU s i with
   |er a w=>
    rw[hit]at q2 hp;obtain⟨rfl,j,rfl⟩:=q2;rw[zn5];rw[gN]at q1;have h4:∀p:Nat->Bool,List.take 4 (dJ p)=dJ p:=fun p=>rfl;have c1:∀q:Nat->Bool,setCells [.int .u64 0,.int .u64 0,.int .u64 0,.int .u64 0] 0 (dJ q)=dJ q:=fun q=>rfl;have c2:∀p q:Nat->Bool,setCells (dJ p) 0 (dJ q)=dJ q:=fun p q=>rfl;rcases hp with rfl|rfl|rfl;all_goals
     simp only[ag,Jh]at q1;rcases eH with rfl|⟨rfl,he⟩
     ·simp[au,Li,Px,Pw,Pv,Pt,Ps,v4,v7,v9,fP,q1,nI,h4,c1,c2];exact⟨_,rfl,by simp;rfl,by simp,by simp⟩
     ·rw[he]at hc;simp[au,Li,Px,Pw,Pv,Pt,Ps,v4,v7,v9,fP,q1,hc,nI,h4,c1,c2];exact⟨_,rfl,by simp;rfl,by simp,by simp⟩
   |ok q j=>
    rw[hit]at q2 hp;obtain⟨rfl,rfl⟩:=q2;simp only[PR.sat]at hp;have hun:=zjn (ae:=0) (H:=[some [.str s,ag j]]) p q;rw[gN,gN,gN]at hun;rw[gN]at q1;have h4:∀p:Nat->Bool,List.take 4 (dJ p)=dJ p:=fun p=>rfl;have c1:∀q:Nat->Bool,setCells [.int .u64 0,.int .u64 0,.int .u64 0,.int .u64 0] 0 (dJ q)=dJ q:=fun q=>rfl;have c2:∀p q:Nat->Bool,setCells (dJ p) 0 (dJ q)=dJ q:=fun p q=>rfl;have fin:∀(w:Nat->AV),w 4=v 4->w 7=v 7->w 8=v 8->w 9=.box (dJ (bi p q))->w 10=.bool false->Wp (aP ak SA.sp 0 (.loop a114l15) (az 2342153315636223987 w,[some [.str s,ag j]])) (ItemsOut s v (nL s n false (bi p q) j)):=fun w w4 w7 w8 w9 w10=>
     (ih j false (bi p q) w hp.2 (by omega) (by rw[w4,v4]) (by rw[w7,v7]) w9 w10).mono fun e t h=>h.of_eq w4 w7 w8
    rcases eH with rfl|⟨rfl,he⟩
    ·simp[au,Li,Px,Pw,Pv,Pt,Ps,v4,v7,v9,fP,q1,hun,nI,h4,c1,c2];refine fin _ ?_ ?_ ?_ ?_ ?_<;>simp
    ·rw[he]at hc;simp[au,Li,Px,Pw,Pv,Pt,Ps,v4,v7,v9,fP,q1,hun,hc,nI,h4,c1,c2];refine fin _ ?_ ?_ ?_ ?_ ?_<;>simp
def uC(x:PR (Nat->Bool)):AV:=
 match x with
 | .er _ w=>.tup [gN aO,ag 0,ag w]
 | .ok p j=>.tup [gN p,ag j,ag 0]
theorem zq0{ae:Nat}{H:aj}{s:List UInt8}{i:Nat}(hl:s.length<=10000)(hc:s[i]?=some 91):Rn ak SA.sp ae 114 [.str s,ag i] H=some (.ret (uC (Cv s i)),H):=by
 have aB:=lT hc;have h1:¬((i:Int)<0):=by omega
 have h2:¬((s.length:Int)<=(i:Int)):=by omega
 have hw:IntKind.i64.wrap ((i:Int)+1)=(i:Int)+1:=aM _ (by omega);have bY:IntKind.i64.wrap ((i:Int)+1+1)=(i:Int)+1+1:=aM _ (by omega);have hR:Rd [some [.str s,ag (i+1)]] 0 s (i+1):=rfl;have hcm:=GK (ae:=0) hR (by omega) [94];have hz:([.int .u64 0,.int .u64 0,.int .u64 0,.int .u64 0]:List AV)=dJ aO:=rfl;have jB:ag (i+1)=.int .i64 ((i:Int)+1):=rfl;have iZ:ag (i+2)=.int .i64 ((i:Int)+1+1):=by simp[ag];omega
 have h4:∀p:Nat->Bool,List.take 4 (dJ p)=dJ p:=fun p=>rfl;have c1:∀q:Nat->Bool,setCells [.int .u64 0,.int .u64 0,.int .u64 0,.int .u64 0] 0 (dJ q)=dJ q:=fun q=>rfl;have c2:∀p q:Nat->Bool,setCells (dJ p) 0 (dJ q)=dJ q:=fun p q=>rfl;have hnot:=fun p H=>zdr (ae:=0) (H:=H) p;simp only[gN]at hnot;have frzC:∀(p:Nat->Bool) H,bg 0 H (dJ p)=some (dJ p):=fun p H=>by simp[ES,aN,bg]
 -- behind the loop
 have after:∀(x:PR (Nat->Bool))(other:Bool)(v:Nat->AV)(e:AExit)(t:EH),v 4=.box (dJ aO)->v 7=.ptr 0 0->v 8=.bool other->(∀p j,x=.ok p j->j<=s.length)->ItemsOut s v x e t->
   ul 0 (andThen (aP ak SA.sp 0 (((ACode.region zaJ).seq (ACode.cond true (.v 61) (.region zaI) .skip)).seq ((ACode.draw zaM).seq .ret))) (fin [.cell 4 (some 4),.tmp 5,.tmp 6] (thaw 0 (· =.ret (uC (match x with|.er a w=>.er a w|.ok p j=>.ok (bif other then qa p else p) (j+1))))))) e t:=by
  intro x other v e t v4 v7 v8 hj h;cases x with
  |er a w=>
   obtain⟨rfl,v',K,rfl,k4,k5,k6⟩:=h;simp[k4,k5,k6,nI,h4,uC,gN,aN,bg,frzC]
  |ok p j=>
   obtain⟨rfl,v',rfl,k9,k4,k7,k8⟩:=h;rw[v4]at k4;rw[v7]at k7;rw[v8]at k8;have hj:=hj p j rfl;have hwj:IntKind.i64.wrap ((j:Int)+1)=(j:Int)+1:=aM _ (by omega);cases other<;>simp[bR,zaJ,zaI,zaM,lV,k4,k7,k8,k9,nI,h4,c1,c2,hnot,uC,gN,aN,bg,frzC,hwj,jy,jI]
 refine di rfl rfl rfl rfl ?_;rw[zpT];have hit:=fun first p i h1 h2=>Ra (s:=s) (s.length+1) first p i h1 h2
 unfold Cv;cases hcc:gU s (i+1) [94]with
 |true=>
  rw[hcc]at hcm;have bq:=Na hcc (by simp);simp only[fF,gW]at bq;rw[jB]at hcm;simp[bR,a114,zaL,zaK,zaH,zaG,zaF,zaE,zaD,zaC,zaB,h1,h2,hc,hw,bY,hcm,hz];rw[←iZ];refine(zdT hl (s.length+1) (i+2) true aO _ (by omega) (by omega) ?_ ?_ ?_ ?_).mono fun e t h=>?_
  ·simp
  ·simp
  ·simp
  ·simp
  ·have hq:=hit true aO (i+2) (by omega) (by omega);refine after _ true _ e t ?_ ?_ ?_ (fun p j e=>?_) h
   ·simp
   ·simp
   ·simp
   ·rw[e]at hq;simp only[PR.sat]at hq;omega
 |false=>
  rw[hcc]at hcm;rw[jB]at hcm;simp[bR,a114,zaL,zaK,zaH,zaG,zaF,zaE,zaD,zaC,zaB,h1,h2,hc,hw,bY,hcm,hz];rw[←jB];refine(zdT hl (s.length+1) (i+1) true aO _ (by omega) (by omega) ?_ ?_ ?_ ?_).mono fun e t h=>?_
  ·simp
  ·simp
  ·simp
  ·simp
  ·have hq:=hit true aO (i+1) (by omega) (by omega);refine after _ false _ e t ?_ ?_ ?_ (fun p j e=>?_) h
   ·simp
   ·simp
   ·simp
   ·rw[e]at hq;simp only[PR.sat]at hq;omega
end
section
def BL(J:List Re):AV:=match J with
 | []=>.nils
 |J=>.slc .own (Re.avs J)
theorem E5:BL []=.nils:=rfl
theorem E8{J:List Re}(h:J ≠ []):BL J=.slc .own (Re.avs J):=by
 cases J with
 |nil=>exact absurd rfl h
 |cons x J=>rfl
theorem zn1{ae:Nat}{k:Int}{a:AV}{l:List Re}(ha:EW a l)(hw:Re.wideL l)(bq:(dS k l).length+l.length<1000000){H:aj}:
  ∀(aY:List Re)(i:Nat)(v:Nat->AV),i<=l.length->l.drop i=aY->v 0=.int .i64 k->v 18=a->v 19=ag l.length->v 20=ag i->v 5=BL (dS k (l.take i))->
   Wp (aP ak SA.sp ae (.loop a89l15) (az 70643760244403 v,H)) (fun e t=>e=.exit 1∧∃v',t=(az 70643760244403 v',H)∧v' 0=.int .i64 k∧v' 4=v 4∧v' 5=BL (dS k l)):=by
 intro aY;induction aY with
 |nil=>
  intro i v hi hr v0 v18 v19 v20 v5;have aK:i=l.length:=by
   have:=dF List.length hr;rw[kZ]at this;simp at this;omega
  subst aK;rw[bu a89l15.eq_1];simp[au,yu,v19,v20];exact⟨_,rfl,by simpa using v0,by simp,by simpa using v5⟩
 |cons x aY ihr=>
  intro i v hi hr v0 v18 v19 v20 v5;have aK:i<l.length:=by
   have:=dF List.length hr;rw[kZ]at this;simp at this;omega
  have aB:(i:Int)<(l.length:Int):=by omega
  have jE:=iJ aK;rw[hr]at jE;obtain⟨hx,gF⟩:=zQ jE;have jC:x∈l:=hx▸mO aK;have hxw:=kz.1 hw x jC;obtain⟨c1,c2,c3,c4,c5,c6,aH⟩:=Re.av_eight hxw;have hg:(Re.avs l)[i]?=some (.agg [.int .i64 x.k,c1,c2,c3,c4,c5,c6,bT (Re.avs x.l)]):=by rw[sZ aK,←hx,aH]
  have ha':a=.slc .ro (Re.avs l):=by
   rcases ha with h|⟨rfl,_⟩
   ·exact h
   ·simp at aK
  subst ha';have htake:l.take (i+1)=l.take i ++[x]:=by rw[List.take_succ_eq_append_getElem aK,hx]
  have hju:dS k (l.take (i+1))=dS k (l.take i)++x.part k:=by rw[htake,JJ];simp[dS]
  have hsplit:dS k l=dS k (l.take (i+1))++dS k (l.drop (i+1)):=by rw[←JJ,Gb]
  have iV:(dS k (l.take i)).length+(x.part k).length<=(dS k l).length:=by
   rw[hsplit,hju];simp only[iF];omega
  have hwt:Re.wideL (dS k (l.take i)):=Jk (kz.2 fun y hy=>kz.1 hw y (vU hy));have bF:=wD hwt;have aT:IntKind.i64.wrap ((i:Int)+1)=(i:Int)+1:=aM _ (by omega);have eH:∀v',v' 0=.int .i64 k->v' 18=.slc .ro (Re.avs l)->v' 19=ag l.length->v' 20=ag (i+1)->v' 4=v 4->v' 5=BL (dS k (l.take (i+1)))->
    Wp (aP ak SA.sp ae (.loop a89l15) (az 70643760244403 v',H)) (fun e t=>e=.exit 1∧∃v',t=(az 70643760244403 v',H)∧v' 0=.int .i64 k∧v' 4=v 4∧v' 5=BL (dS k l)):=fun v' w0 w18 w19 w20 w4 w5=>by
   rw[←w4];exact ihr (i+1) v' (by omega) gF.symm w0 w18 w19 w20 w5
  rw[hju]at eH;have gP:∀ys:List Re,ys ≠ []->BL (dS k (l.take i)++ys)=.slc .own (Re.avs (dS k (l.take i))++Re.avs ys):=fun ys hy=>by
   rw[E8 (by simp[hy]),ym]
  rw[bu a89l15.eq_1];by_cases hk:x.k=k
  ·have hp:x.part k=x.l:=by simp[Re.part,hk]
   have hok2:jF 8 (Re.avs x.l)=true:=wD (by rw[←hp];exact VD hxw);rw[hp]at iV hju eH;have cu:((dS k (l.take i)).length+x.l.length)*8<=4294967296:=by omega
   have hle2:x.l.length*8<=4294967296:=by omega
   have hk1:(x.k==k)=true:=by simp[hk]
   cases hxl:x.l with
   |nil=>
    rw[hxl]at eH hg;simp only[ry]at eH;have bz:bT (Re.avs [])=.nils:=rfl;rw[bz]at hg;cases hJ:dS k (l.take i)with
    |nil=>
     rw[hJ]at v5 eH;simp[au,yu,AL,AU,AR,AQ,AP,AO,v0,v18,v19,v20,v5,ed,aK,aB,hg,hk1,aT,E5];refine(eH _ ?_ ?_ ?_ ?_ ?_ ?_).mono fun e t h=>by simpa using h
     all_goals simp[v0,v18,v19,E5]
    |cons y J=>
     rw[hJ]at v5 eH bF cu;rw[E8 (by simp)]at v5 eH;rw[hxl]at cu;simp only[gW,qx,fF]at cu;simp only[Re.avs]at v5 bF eH;simp[au,yu,AL,AU,AR,AQ,AP,AO,v0,v18,v19,v20,v5,ed,aK,aB,hg,hk1,aT,bF,cu];refine(eH _ ?_ ?_ ?_ ?_ ?_ ?_).mono fun e t h=>by simpa using h
     all_goals simp[v0,v18,v19]
   |cons z zs=>
    have aR:x.l ≠ []:=by rw[hxl];simp
    have bz:bT (Re.avs x.l)=.slc .ro (Re.avs x.l):=by rw[hxl];rfl
    have havs:Re.avs x.l=z.av::Re.avs zs:=by rw[hxl];rfl
    have hz1:(Re.avs zs).length+1=x.l.length:=by rw[ed,hxl];rfl
    rw[bz]at hg;have hown':=gP x.l aR;rw[hown']at eH;cases hJ:dS k (l.take i)with
    |nil=>
     rw[hJ]at v5 eH;have hle3:(zs.length+1)*8<=4294967296:=by rw[ed]at hz1;omega
     rw[havs]at hg hok2 eH;simp[au,yu,AL,AU,AR,AQ,AP,AO,v0,v18,v19,v20,v5,ed,aK,aB,hg,hk1,aT,E5,hok2,hle3];refine(eH _ ?_ ?_ ?_ ?_ ?_ ?_).mono fun e t h=>by simpa using h
     all_goals simp[v0,v18,v19,Re.avs]
    |cons y J=>
     rw[hJ]at v5 eH bF cu;rw[E8 (by simp)]at v5;have hle3:(J.length+1+(zs.length+1))*8<=4294967296:=by rw[ed]at hz1;simp only[fF]at cu;omega
     rw[havs]at hg hok2 eH;simp only[Re.avs]at v5 bF eH;simp[au,yu,AL,AU,AR,AQ,AP,AO,v0,v18,v19,v20,v5,ed,aK,aB,hg,hk1,aT,bF,hok2,hle3];refine(eH _ ?_ ?_ ?_ ?_ ?_ ?_).mono fun e t h=>by simpa using h
     all_goals simp[v0,v18,v19]
  ·have hk':(x.k==k)=false:=by simpa using hk
   -- x itself, or nothing
   by_cases hskip:x.k=0∧k≠5
   ·have jd:(x.k != 0)=false:=by simp[hskip.1]
    have jh:(k==5)=false:=by simpa using hskip.2
    have hp:x.part k=[]:=by unfold Re.part;rw[aF hk,aF (by omega)]
    rw[hp,ry]at eH;simp[au,yu,AL,AU,AR,AQ,AP,AO,v0,v18,v19,v20,ed,aK,aB,hg,hk',jd,jh,aT];refine(eH _ ?_ ?_ ?_ ?_ ?_ ?_).mono fun e t h=>by simpa using h
    all_goals simp[v0,v18,v19,v5]
   ·have hp:x.part k=[x]:=by unfold Re.part;rw[aF hk,aS (by omega)]
    rw[hp]at iV eH;rw[gP [x] (by simp)]at eH;simp only[Re.avs,aH]at eH;have cu:((dS k (l.take i)).length+1)*8<=4294967296:=by simp only[fF,gW]at iV;omega
    have dW:(x.k != 0)=true∨((x.k != 0)=false∧(k==5)=true):=by
     by_cases h0:x.k=0
     ·exact .inr ⟨by simp[h0],by simp;omega⟩
     ·exact .inl (by simpa using h0)
    cases hJ:dS k (l.take i)with
    |nil=>
     rw[hJ]at v5 eH;rcases dW with jd|⟨jd,jh⟩
     ·simp[au,yu,AL,AU,AR,AQ,AP,AO,v0,v18,v19,v20,v5,ed,aK,aB,hg,hk',jd,aT,E5];refine(eH _ ?_ ?_ ?_ ?_ ?_ ?_).mono fun e t h=>by simpa using h
      all_goals simp[v0,v18,v19,Re.avs]
     ·simp[au,yu,AL,AU,AR,AQ,AP,AO,v0,v18,v19,v20,v5,ed,aK,aB,hg,hk',jd,jh,aT,E5];refine(eH _ ?_ ?_ ?_ ?_ ?_ ?_).mono fun e t h=>by simpa using h
      all_goals simp[v0,v18,v19,Re.avs]
    |cons y J=>
     rw[hJ]at v5 eH bF cu;rw[E8 (by simp)]at v5;simp only[Re.avs]at v5 bF eH;simp only[fF]at cu;rcases dW with jd|⟨jd,jh⟩
     ·simp[au,yu,AL,AU,AR,AQ,AP,AO,v0,v18,v19,v20,v5,ed,aK,aB,hg,hk',jd,aT,bF,cu];refine(eH _ ?_ ?_ ?_ ?_ ?_ ?_).mono fun e t h=>by simpa using h
      all_goals simp[v0,v18,v19]
     ·simp[au,yu,AL,AU,AR,AQ,AP,AO,v0,v18,v19,v20,v5,ed,aK,aB,hg,hk',jd,jh,aT,bF,cu];refine(eH _ ?_ ?_ ?_ ?_ ?_ ?_).mono fun e t h=>by simpa using h
      all_goals simp[v0,v18,v19]
theorem Xq{a:AV}{l:List Re}(ha:EW a l)(k:Int):dG [.int .i64 k,a]=true:=by
 rcases ha with rfl|⟨rfl,rfl⟩
 ·simp[dG,gq,Rv]
 ·simp[dG,gq]
theorem zdO{ae:Nat}{H:aj}{k:Int}{a:AV}(ha:EW a []):Rn ak SA.sp ae 89 [.int .i64 k,a] H=some (.ret emptyRe.av,H):=by
 have gI:=x9 0 [] emptyRe;simp only[emptyRe,Re.av,dL,Re.avs,bT,mE,xG,kg,gV]at gI;have ha':a=.slc .ro []∨a=.nils:=by
  rcases ha with h|⟨_,h⟩
  ·exact .inl h
  ·exact .inr h
 refine di rfl rfl (Xq ha k) rfl ?_;rw[Xe];rcases ha' with rfl|rfl;all_goals
  simp[au,R5,R4,RX,RV,a89,emptyRe,Re.av,dL,Re.avs,bT];exact gI
theorem zdN{ae:Nat}{H:aj}{k:Int}{x:Re}(hx:x.wide):Rn ak SA.sp ae 89 [.int .i64 k,.slc .ro [x.av]] H=some (.ret x.av,H):=by
 have gI:=x9 0 [] x;obtain⟨c1,c2,c3,c4,c5,c6,aH⟩:=Re.av_eight hx;rw[aH]at gI;refine di rfl rfl (Xq (l:=[x]) (.inl rfl) k) rfl ?_;rw[Xe];simp[au,R5,R4,RX,RV,Yd,Yc,a89,aH];exact gI
theorem zn0{ae:Nat}{H:aj}{k:Int}{a:AV}{l:List Re}(ha:EW a l)(hw:Re.wideL l)(bq:(dS k l).length+l.length<1000000)(fJ:∀x,l=[x]->eX k l=x):Rn ak SA.sp ae 89 [.int .i64 k,a] H=some (.ret (eX k l).av,H):=by
 match l,ha,hw,bq,fJ with
 | [],ha,_,_,_=>exact zdO ha
 | [x],ha,hw,_,fJ=>
  rcases ha with rfl|⟨h,_⟩
  ·rw[fJ x rfl];exact zdN (by simpa[Re.wideL]using hw)
  ·simp at h
 |x::y::t,ha,hw,bq,_=>
  have ha':a=.slc .ro (Re.avs (x::y::t)):=by
   rcases ha with h|⟨h,_⟩
   ·exact h
   ·simp at h
  have hl:((Re.avs (x::y::t)).length:Int)=(t.length:Int)+1+1:=by simp[ed]
  have hl0:((t.length:Int)+1+1==0)=false:=by simp;omega
  have hl1:((t.length:Int)+1+1==1)=false:=by simp;omega
  have bY:=Jk (k:=k) hw;refine di rfl rfl (Xq ha k) rfl ?_;rw[Xe];subst ha';simp only[Re.avs]at hl ⊢;simp[au,R5,R4,RX,RV,Yd,Yc,zfD,zfC,a89,ed,hl0,hl1];refine(zn1 (ae:=0) (a:=.slc .ro (Re.avs (x::y::t))) (k:=k) (.inl rfl) hw bq (x::y::t) 0 _ (by simp) rfl ?_ ?_ ?_ ?_ ?_).mono fun e t' h=>?_
  ·simp
  ·simp[Re.avs]
  ·simp
  ·simp
  ·simp[dS,E5]
  ·obtain⟨rfl,v',rfl,w0,w4,w5⟩:=h;simp at w4;unfold eX;generalize dS k (x::y::t)=J at w5 bY;match J,w5,bY with
   | [],w5,bY=>
    have h1:=zdO (ae:=0) (H:=[]) (k:=k) (a:=.nils) (.inr ⟨rfl,rfl⟩);have gI:=x9 0 [] emptyRe;simp only[emptyRe,Re.av,dL,Re.avs,bT,mE,xG,kg,gV]at h1 gI;rw[E5]at w5;simp[dN,R3,RZ,RY,w0,w4,w5,h1,sJ,emptyRe,Re.av,dL,bT,Re.avs];exact gI
   | [z],w5,bY=>
    have hz:z.wide:=by simpa[Re.wideL]using bY
    have h1:=zdN (ae:=0) (H:=[]) (k:=k) hz;have gI:=x9 0 [] z;obtain⟨c1,c2,c3,c4,c5,c6,aH⟩:=Re.av_eight hz;rw[aH]at h1 gI;rw[E8 (by simp)]at w5;simp only[Re.avs,aH]at w5;simp[dN,R3,RZ,RY,w0,w4,w5,h1,sJ,aH];exact gI
   |z1::z2::J,w5,bY=>
    have gI:=x9 0 [] (sJ k (z1::z2::J));simp only[sJ,Re.av,dL,bT,Re.avs,mE,xG,kg,gV]at gI;have hl2:¬((J.length:Int)+1+1<2):=by omega
    have bV:List.take J.length (Re.avs J)=Re.avs J:=ek (by simp[ed]);rw[E8 (by simp)]at w5;simp only[Re.avs]at w5;simp[dN,R3,RZ,RY,w0,w4,w5,sJ,hl2,ed,bV,Re.av,dL,bT,Re.avs];exact gI
theorem zn3{k:Int}(hk:k=4∨k=5){x:Re}(h:x.plain):eX k [x]=x:=by
 unfold eX dS;simp only[lq,List.flatMap_nil,ry];unfold Re.part;by_cases e:x.k=k
 ·rw[aS e];have h2:x=.mk k dL 0 0 x.l∧2<=x.l.length:=by
   rcases hk with rfl|rfl
   ·exact h.2.1 e
   ·exact h.2.2 e
  obtain⟨h3,h4⟩:=h2;match hl:x.l,h4 with
  |a::b::t,_=>
   show Re.mk k dL 0 0 (a::b::t)=x;rw[←hl];exact h3.symm
 ·rw[aF e];split
  ·rfl
  ·rename_i h5;have:x.k=0:=by omega
   exact(h.1 this).symm
end
section
theorem MF{ae:Nat}{H:aj}{r:Nat}{s:List UInt8}{i:Nat}(h:Rd H r s i)(hi:i<=s.length)(hc:s[i]?=none):Rn ak SA.sp ae 98 [.ptr r 0] H=some (.ret (.tup [.int .u8 0,.bool false]),H):=by
 have e:i=s.length:=by have:=rq.1 hc;omega
 unfold Rd at h;refine xS rfl rfl rfl rfl ?_;rw[zet];simp[Ez,a98,X3,X5,X0,X4,h,e,aN,bg]
theorem Gt{ae:Nat}{H:aj}{r:Nat}{s:List UInt8}{i:Nat}{c:UInt8}(h:Rd H r s i)(hc:s[i]?=some c):Rn ak SA.sp ae 98 [.ptr r 0] H=some (.ret (.tup [.int .u8 c.toNat,.bool true]),H):=by
 have aB:=lT hc;have e:((i:Int)==(s.length:Int))=false:=by simp;omega
 have e2:¬i=s.length:=by omega
 unfold Rd at h;refine xS rfl rfl rfl rfl ?_;rw[zet];simp[Ez,a98,X3,X5,X0,X4,h,e,e2,hc,aN,bg]
theorem GD{ae:Nat}{H:aj}{r:Nat}{s:List UInt8}{i:Nat}{c:UInt8}(h:Rd H r s i)(hb:ae<=r)(hl:s.length<=1000000)(hc:s[i]?=some c):Rn ak SA.sp ae 88 [.ptr r 0,.int .u8 c.toNat] H=some (.ret (.bool true),H.set r (some [.str s,ag (i+1)])):=by
 have aB:=lT hc;have hw:IntKind.i64.wrap ((i:Int)+1)=(i:Int)+1:=aM _ (by omega);have hp:=Gt (ae:=ae) h hc;have dU:=fA h;unfold Rd at h;refine l5.1 (jl rfl rfl rfl ?_);rw[zew];simp[bR,a88,Sb,Sa,R9,R8,R7,R6,h,hp,hw,hb];rfl
theorem GG{ae:Nat}{H:aj}{r:Nat}{s:List UInt8}{i:Nat}{c:UInt8}(h:Rd H r s i)(hi:i<=s.length)(hc:s[i]?≠some c):Rn ak SA.sp ae 88 [.ptr r 0,.int .u8 c.toNat] H=some (.ret (.bool false),H):=by
 refine l5.1 (jl rfl rfl rfl ?_);rw[zew];cases hd:s[i]? with
 |none=>
  have hp:=MF (ae:=ae) h hi hd;simp[bR,a88,Sb,Sa,R9,R8,R7,R6,hp]
 |some d=>
  have hp:=Gt (ae:=ae) h hd;have aR:¬d=c:=fun e=>hc (by rw[hd,e]);have e:((d.toNat:Int)==(c.toNat:Int))=false:=by
   have:¬d.toNat=c.toNat:=fun e=>aR (si.1 e);simp;omega
  have e2:¬d.toNat=c.toNat:=fun e=>aR (si.1 e);simp[bR,a88,Sb,Sa,R9,R8,R7,R6,hp,e,e2]
def sw(a w:Nat):AV:=.ifc 1 (.agg [ag a,ag w])
theorem Xa{ae:Nat}{H:aj}{r a w:Nat}(h:r<H.length):Rn ak SA.sp ae 113 [.ptr r 0,ag a,ag w] H=some (.pan (sw a w),H):=by
 have hs:=SA.mono;refine l5.1 ((ziX (Q:=fun o=>o=.pan (sw a w)) hs rfl rfl rfl rfl ?_).mono fun o K h=>h);rw[zpU];simp[dX,a113,ziD,aN,bg,sw]
theorem GI{c:UInt8}:(c<48)↔((c.toNat:Int)<48):=by rw[EE];simp;omega
theorem JU{c:UInt8}:(57<c)↔((57:Int)<(c.toNat:Int)):=by rw[EE];simp;omega
theorem zdp{ae:Nat}{H:aj}{r:Nat}{s:List UInt8}{i:Nat}(h:Rd H r s i)(hb:ae<=r)(hi:i<=s.length)(hl:s.length<=1000000):
  Rn ak SA.sp ae 118 [.ptr r 0] H=some (.ret (.tup [ag (gD s i).1,.bool (jb (gD s i))]),H.set r (some [.str s,ag (i+(gD s i).2)])):=by
 have dU:=fA h;have h0:=z8 h;have hw:IntKind.i64.wrap ((i:Int)+1)=(i:Int)+1:=aM _ (by omega);have bY:IntKind.i64.wrap ((i:Int)+1+1)=(i:Int)+1+1:=aM _ (by omega);have w00:IntKind.i64.wrap 0=0:=by decide
 have w1:IntKind.i64.wrap 1=1:=by decide
 have w2:IntKind.i64.wrap 2=2:=by decide
 have h':=h;unfold Rd at h'
 -- the end: the number told
 refine l5.1 (jl rfl rfl rfl ?_);rw[zpP];simp[iO,a118,ziy,zix];rw[bu a118l8.eq_1];cases hc:s[i]? with
 |none=>
  have hp:=MF (ae:=ae) h hi hc;have e:gD s i=(0,0):=by simp[gD,hc]
  simp[au,uU,xA,xz,xy,xw,xu,FZ,hp,e,jb,h0]
 |some c=>
  have hp:=Gt (ae:=ae) h hc;have aB:=lT hc;have bM:=c.toNat_lt;by_cases hd1:c<48
  ·have e:gD s i=(0,0):=by simp[gD,hc,hd1]
   have hd1':=GI.1 hd1;simp[au,uU,xA,xz,xy,xw,xu,FZ,hp,e,jb,h0,hd1']
  ·have hd1':¬((c.toNat:Int)<48):=fun e=>hd1 (GI.2 e);by_cases hd2:57<c
   ·have e:gD s i=(0,0):=by simp[gD,hc,hd2]
    have hd2':=JU.1 hd2;simp[au,uU,xA,xz,xy,xw,xu,FZ,hp,e,jb,h0,hd1',hd2']
   ·have hd2':¬((57:Int)<(c.toNat:Int)):=fun e=>hd2 (JU.2 e);have ws:IntKind.u8.wrap ((c.toNat:Int)-48)=(c.toNat:Int)-48:=by
     have:(c.toNat:Int)-48=((c.toNat-48:Nat):Int):=by omega
     rw[this];exact zdU _ (by omega) _ rfl
    have wc:IntKind.i64.wrap ((c.toNat:Int)-48)=(c.toNat:Int)-48:=aM _ (by omega);have hR:=h.set (i+1);have jB:ag (i+1)=.int .i64 ((i:Int)+1):=rfl;have gZ:=hR;unfold Rd at gZ;rw[jB]at gZ;cases hd:s[i+1]? with
    |none=>
     have hp2:=MF (ae:=ae) hR (by omega) hd;rw[jB]at hp2;have e:gD s i=(c.toNat-48,1):=by simp[gD,hc,hd1,hd2,hd]
     have e2:(((c.toNat-48:Nat)):Int)=(c.toNat:Int)-48:=by omega
     simp[au,uU,xA,xz,xy,xw,xu,hp,h',hd1',hd2',ws,wc,w00,w1,hw,hb,dU,dB];rw[bu a118l8.eq_1];simp[au,uU,xA,xz,xy,xw,xu,FZ,hp2,e,jb,e2];exact⟨by omega,rfl⟩
    |some d=>
     have hlt2:=lT hd;have hdl:=d.toNat_lt;have hp2:=Gt (ae:=ae) hR hd;rw[jB]at hp2;have e2:(((c.toNat-48:Nat)):Int)=(c.toNat:Int)-48:=by omega
     by_cases he1:d<48
     ·have e:gD s i=(c.toNat-48,1):=by simp[gD,hc,hd1,hd2,hd,he1]
      have he1':=GI.1 he1;simp[au,uU,xA,xz,xy,xw,xu,hp,h',hd1',hd2',ws,wc,w00,w1,hw,hb,dU,dB];rw[bu a118l8.eq_1];simp[au,uU,xA,xz,xy,xw,xu,FZ,hp2,e,jb,e2,he1'];exact⟨by omega,rfl⟩
     ·have he1':¬((d.toNat:Int)<48):=fun e=>he1 (GI.2 e);by_cases he2:57<d
      ·have e:gD s i=(c.toNat-48,1):=by simp[gD,hc,hd1,hd2,hd,he2]
       have he2':=JU.1 he2;simp[au,uU,xA,xz,xy,xw,xu,hp,h',hd1',hd2',ws,wc,w00,w1,hw,hb,dU,dB];rw[bu a118l8.eq_1];simp[au,uU,xA,xz,xy,xw,xu,FZ,hp2,e,jb,e2,he1',he2'];exact⟨by omega,rfl⟩
      ·have he2':¬((57:Int)<(d.toNat:Int)):=fun e=>he2 (JU.2 e);have e:gD s i=(10*(c.toNat-48)+(d.toNat-48),2):=by simp[gD,hc,hd1,hd2,hd,he1,he2]
       have ws2:IntKind.u8.wrap ((d.toNat:Int)-48)=(d.toNat:Int)-48:=by
        have:(d.toNat:Int)-48=((d.toNat-48:Nat):Int):=by omega
        rw[this];exact zdU _ (by omega) _ rfl
       have wc2:IntKind.i64.wrap ((d.toNat:Int)-48)=(d.toNat:Int)-48:=aM _ (by omega);have wm:IntKind.i64.wrap (10*((c.toNat:Int)-48))=10*((c.toNat:Int)-48):=aM _ (by omega);have wa:IntKind.i64.wrap (10*((c.toNat:Int)-48)+((d.toNat:Int)-48))=10*((c.toNat:Int)-48)+((d.toNat:Int)-48):=aM _ (by omega);have e3:ag (10*(c.toNat-48)+(d.toNat-48))=.int .i64 (10*((c.toNat:Int)-48)+((d.toNat:Int)-48)):=by simp[ag];omega
       have e4:ag (i+2)=.int .i64 ((i:Int)+1+1):=by simp[ag];omega
       have cK:(H.set r (some [.str s,.int .i64 ((i:Int)+1)])).set r (some [.str s,.int .i64 ((i:Int)+1+1)])=H.set r (some [.str s,.int .i64 ((i:Int)+1+1)]):=iP ..;rw[e,e3,e4];simp[au,uU,xA,xz,xy,xw,xu,hp,h',hd1',hd2',ws,wc,w00,w1,hw,hb,dU,dB];rw[bu a118l8.eq_1];simp[au,uU,xA,xz,xy,xw,xu,hp2,he1',he2',ws2,wc2,wm,wa,w2,bY,hb,dU,dB,cK];rw[bu a118l8.eq_1];simp[au,uU,FZ,jb];omega
theorem zdn{ae:Nat}{H:aj}(c:UInt8):Rn ak SA.sp ae 117 [.int .u8 c.toNat] H=some (.ret (sD (bv c c)).av,H):=by
 have h:=zso (ae:=0) (H:=[]) aO c c;rw[QW]at h;rw[pz,pz]at h;have hz:∀i,dR aO i 64=0:=fun i=>by
  have:=zkA;unfold ER dL at this;apply Qd;intro j;rw[vY];simp[aO]
 simp only[hz]at h;replace h:Rn ak SA.sp 0 128 [.agg [.int .u64 0,.int .u64 0,.int .u64 0,.int .u64 0],.int .u8 c.toNat,.int .u8 c.toNat] []=some (.ret (.agg [u64 (dR (bv c c) 0 64),u64 (dR (bv c c) 1 64),u64 (dR (bv c c) 2 64),u64 (dR (bv c c) 3 64)]),[]):=h;have gI:=x9 0 [] (sD (bv c c));have hav:(sD (bv c c)).av=.agg [.int .i64 1,u64 (dR (bv c c) 0 64),u64 (dR (bv c c) 1 64),u64 (dR (bv c c) 2 64),u64 (dR (bv c c) 3 64),.int .i64 0,.int .i64 0,.nils]:=rfl;rw[hav]at gI ⊢;refine di rfl rfl rfl rfl ?_;rw[zpQ];simp[dX,a117,ziA,ziz,h];exact gI
def F6{α:Type}(s:List UInt8)(r:Nat)(H:aj)(f:α->AV)(x:PR α)(o:Out)(H':aj):Prop:=
 match x with
 | .er a w=>o=.pan (sw a w)∧∃j:Nat,H'=H.set r (some [.str s,ag j])
 | .ok a j=>o=.ret (f a)∧H'=H.set r (some [.str s,ag j])
theorem nK{α:Type}(s:List UInt8)(r:Nat)(H:aj)(f:α->AV)(a w:Nat):F6 s r H f (.er a w)=fun o H'=>o=.pan (sw a w)∧∃j:Nat,H'=H.set r (some [.str s,ag j]):=rfl
theorem sG{α:Type}(s:List UInt8)(r:Nat)(H:aj)(f:α->AV)(a:α)(j:Nat):F6 s r H f (.ok a j)=fun o H'=>o=.ret (f a)∧H'=H.set r (some [.str s,ag j]):=rfl
def VP(s:List UInt8)(i:Nat):PR UInt8:=match s[i]? with
 |none=>.er i 3
 |some d=>.ok (qC d) (i+1)
theorem zjQ{ae:Nat}{H:aj}{r:Nat}{s:List UInt8}{i:Nat}(h:Rd H r s i)(hb:ae<=r)(hi:i<=s.length)(hl:s.length<=1000000):Wc (Rn ak SA.sp ae 116 [.ptr r 0] H) (F6 s r H (fun c:UInt8=>.int .u8 c.toNat) (VP s i)):=by
 have dU:=fA h;have hw:IntKind.i64.wrap ((i:Int)+1)=(i:Int)+1:=aM _ (by omega);have h':=h;unfold Rd at h';refine jl rfl rfl rfl ?_;rw[zpR];unfold VP;cases hd:s[i]? with
 |none=>
  have hp:=MF (ae:=ae) h hi hd;have hf:=Xa (ae:=ae) (a:=i) (w:=3) dU;simp only[ag,Jh]at hf;rw[nK];simp[bR,a116,Pq,Pp,Pm,Pk,Pj,Pi,Ph,Pg,Pf,Pe,Po,h',hp,hf];exact⟨i,(z8 h).symm⟩
 |some d=>
  have hp:=Gt (ae:=ae) h hd;rw[sG];have d110:((d.toNat:Int)==110)=decide (d=110):=by
   by_cases q:d=110
   ·subst q;rfl
   ·have:¬d.toNat=110:=fun e=>q (si.1 (by simpa using e));simp[q];omega
  have d116:((d.toNat:Int)==116)=decide (d=116):=by
   by_cases q:d=116
   ·subst q;rfl
   ·have:¬d.toNat=116:=fun e=>q (si.1 (by simpa using e));simp[q];omega
  by_cases q1:d=110
  ·subst q1;simp[bR,a116,Pq,Pp,Pm,Pk,Pj,Pi,Ph,Pg,Pf,Pe,Po,h',hp,hw,hb,qC];rfl
  ·by_cases q2:d=116
   ·subst q2;simp[bR,a116,Pq,Pp,Pm,Pk,Pj,Pi,Ph,Pg,Pf,Pe,Po,h',hp,hw,hb,qC];rfl
   ·simp only[q1,q2,decide_false]at d110 d116;simp[bR,a116,Pq,Pp,Pm,Pk,Pj,Pi,Ph,Pg,Pf,Pe,Po,h',hp,hw,hb,qC,q1,q2,d110,d116];rfl
end
section
def VJ(s:List UInt8)(ax i:Nat):PR (Nat×Int):=match qB s i with
 |none=>.er ax 50
 |some (mn,mx,j)=>.ok (mn,mx) j
theorem zjE{ae:Nat}{H:aj}{r:Nat}{s:List UInt8}{i ax:Nat}(h:Rd H r s i)(hb:ae<=r)(hi:i<=s.length)(hl:s.length<=1000000):
  Wc (Rn ak SA.sp ae 106 [.ptr r 0,ag ax] H) (F6 s r H (fun x:Nat×Int=>.tup [ag x.1,.int .i64 x.2]) (VJ s ax i)):=by
 have dU:=fA h;have hn:=zdp (ae:=ae) h hb hi hl;have dK:=JD (s:=s) i hi;unfold VJ qB;simp only;generalize ha:gD s i=a at hn dK;have hR:=h.set (i+a.2);have hf:∀H:aj,r<H.length->Rn ak SA.sp ae 113 [.ptr r 0,ag ax,.int .i64 50] H=some (.pan (sw ax 50),H):=fun H hr=>by
  have:=Xa (ae:=ae) (H:=H) (a:=ax) (w:=50) hr;simpa only[ag,Jh]using this
 have c44:(.int .u8 44:AV)=.int .u8 (44:UInt8).toNat:=rfl;have c125:(.int .u8 125:AV)=.int .u8 (125:UInt8).toNat:=rfl;refine jl rfl rfl rfl ?_;rw[zpZ];by_cases hcomma:jb a=true∧s[i+a.2]?=some 44
 ·obtain⟨bF,hcm⟩:=hcomma;rw[aS ⟨bF,hcm⟩];have aB:=lT hcm;have g1:=GD (ae:=ae) hR hb hl hcm;simp only[iP]at g1;rw[←c44]at g1;have hR2:=h.set (i+a.2+1);rw[bF]at hn;by_cases gL:s[i+a.2+1]?=some 125
  ·rw[aS gL,sG];have g2:=GD (ae:=ae) hR2 hb hl gL;simp only[iP]at g2;rw[←c125]at g2;simp[bR,a106,Ey,Ex,Ew,Ev,Eu,Et,Es,Er,Ep,Eo,hn,g1,g2]
  ·rw[aF gL];have g2:=GG (ae:=ae) hR2 (by omega) gL;rw[←c125]at g2;have iZ:=zdp (ae:=ae) hR2 hb (by omega) hl;have hpl2:=JD (s:=s) (i+a.2+1) (by omega);simp only[iP]at iZ;generalize jG:gD s (i+a.2+1)=b at iZ hpl2;have hR3:=h.set (i+a.2+1+b.2);by_cases jg:jb b=true∧a.1<=b.1∧s[i+a.2+1+b.2]?=some 125
   ·obtain⟨k1,k2,k3⟩:=jg;rw[aS ⟨k1,k2,k3⟩,sG];have g3:=GD (ae:=ae) hR3 hb hl k3;simp only[iP]at g3;rw[←c125]at g3;rw[k1]at iZ;have k2':¬((b.1:Int)<(a.1:Int)):=by omega
    simp[bR,a106,Ey,Ex,Ew,Ev,Eu,Et,Es,Er,Ep,Eo,hn,g1,g2,iZ,g3,k2']
   ·rw[aF jg,nK];by_cases k1:jb b=true
    ·rw[k1]at iZ;by_cases k2:a.1<=b.1
     ·have k2':¬((b.1:Int)<(a.1:Int)):=by omega
      have k3:¬s[i+a.2+1+b.2]?=some 125:=fun e=>jg ⟨k1,k2,e⟩;have g3:=GG (ae:=ae) hR3 (by omega) k3;rw[←c125]at g3;have hf3:=hf _ (fA hR3);simp[bR,a106,Ey,Ex,Ew,Ev,Eu,Et,Es,Er,Ep,Eo,hn,g1,g2,iZ,g3,k2',hf3];exact⟨_,rfl⟩
     ·have k2':((b.1:Int)<(a.1:Int)):=by omega
      have hf3:=hf _ (fA hR3);simp[bR,a106,Ey,Ex,Ew,Ev,Eu,Et,Es,Er,Ep,Eo,hn,g1,g2,iZ,k2',hf3];exact⟨_,rfl⟩
    ·have k1':jb b=false:=by simpa using k1
     rw[k1']at iZ;have hf3:=hf _ (fA hR3);simp[bR,a106,Ey,Ex,Ew,Ev,Eu,Et,Es,Er,Ep,Eo,hn,g1,g2,iZ,hf3];exact⟨_,rfl⟩
 ·rw[aF hcomma];have hirr:¬((a.1:Int)<(a.1:Int)):=by omega
  by_cases bF:jb a=true
  ·have hcm:¬s[i+a.2]?=some 44:=fun e=>hcomma ⟨bF,e⟩;have g1:=GG (ae:=ae) hR (by omega) hcm;rw[←c44]at g1;rw[bF]at hn;by_cases gL:s[i+a.2]?=some 125
   ·rw[aS ⟨bF,gL⟩,sG];have g2:=GD (ae:=ae) hR hb hl gL;simp only[iP]at g2;rw[←c125]at g2;simp[bR,a106,Ey,Ex,Ew,Ev,Eu,Et,Es,Er,Ep,Eo,hn,g1,g2]
   ·rw[aF (fun e=>gL e.2),nK];have g2:=GG (ae:=ae) hR (by omega) gL;rw[←c125]at g2;have hf2:=hf _ (fA hR);simp[bR,a106,Ey,Ex,Ew,Ev,Eu,Et,Es,Er,Ep,Eo,hn,g1,g2,hf2];exact⟨_,rfl⟩
  ·have hok':jb a=false:=by simpa using bF
   rw[aF (fun e=>bF e.1),nK];rw[hok']at hn;have hf2:=hf _ (fA hR);simp[bR,a106,Ey,Ex,Ew,Ev,Eu,Et,Es,Er,Ep,Eo,hn,hf2];exact⟨_,rfl⟩
end
section
def EY(s:List UInt8)(n i ay:Nat):PR Re:=match sV s n i ay with
 | .er a w=>.er a w
 | .ok ls j=>.ok (eX 5 ls) j
def Lx(s:List UInt8)(n:Nat):Prop:=∀(ae:Nat)(H:aj)(r i ay:Nat),Rd H r s i->ae<=r->i<=s.length->3*(s.length+1-i)<=n->ay<=20->
 Wc (Rn ak SA.sp ae 86 [.ptr r 0,ag ay] H) (F6 s r H Re.av (EY s n i ay))
theorem ko{c:UInt8}(k:UInt8)(h:¬c=k):((c.toNat:Int)==(k.toNat:Int))=false:=by
 have:¬c.toNat=k.toNat:=fun e=>h (si.1 e);simp;omega
theorem wh(p:Nat->Bool):(sD p).av=.agg [.int .i64 1,u64 (dR p 0 64),u64 (dR p 1 64),u64 (dR p 2 64),u64 (dR p 3 64),.int .i64 0,.int .i64 0,.nils]:=rfl
theorem Q6(k:Int):(WG k).av=.agg [.int .i64 k,.int .u64 0,.int .u64 0,.int .u64 0,.int .u64 0,.int .i64 0,.int .i64 0,.nils]:=rfl
set_option maxHeartbeats 1000000 in
theorem zrm{s:List UInt8}{n:Nat}(gz:s.length<=400)(hC:Lx s n){ae:Nat}{H:aj}{r i ay:Nat}(h:Rd H r s i)(hb:ae<=r)(hi:i<s.length)(hf:3*(s.length+1-i)<=n+3)(hd:ay<=20):
  Wc (Rn ak SA.sp ae 105 [.ptr r 0,ag ay] H) (F6 s r H Re.av (uE s (n+1) i ay)):=by
 have hs:=SA.mono;have dU:=fA h;obtain⟨c,hc⟩:∃c,s[i]?=some c:=⟨s[i],gG hi⟩
 have hp:=Gt (ae:=ae) h hc;have hfl:∀(H:aj)(a w:Nat),r<H.length->Rn ak SA.sp ae 113 [.ptr r 0,ag a,.int .i64 w] H=some (.pan (sw a w),H):=fun H a w hr=>Xa (ae:=ae) (H:=H) (a:=a) (w:=w) hr;have f50:=fun H hr=>hfl H i 50 hr;have f4:=fun H hr=>hfl H i 4 hr;have f2:=fun H hr=>hfl H i 2 hr;simp only[Jh]at f50 f4 f2;have hw:IntKind.i64.wrap ((i:Int)+1)=(i:Int)+1:=aM _ (by omega);have jB:ag (i+1)=.int .i64 ((i:Int)+1):=rfl;have h':=h;unfold Rd at h';have kJ:=z8 h;refine jl rfl rfl rfl ?_;rw[zp0];unfold uE;rw[hc];simp only;by_cases c42:c=42
 ·subst c42;rw[aS (by simp),nK];simp[bR,pV,pU,pR,pQ,pO,pM,pK,pJ,xB,a105,h',hp,f50,dU];exact⟨i,kJ.symm⟩
 by_cases c43:c=43
 ·subst c43;rw[aS (by simp),nK];simp[bR,pV,pU,pR,pQ,pO,pM,pK,pJ,xB,a105,h',hp,f50,dU];exact⟨i,kJ.symm⟩
 by_cases c63:c=63
 ·subst c63;rw[aS (by simp),nK];simp[bR,pV,pU,pR,pQ,pO,pM,pK,pJ,xB,a105,h',hp,f50,dU];exact⟨i,kJ.symm⟩
 by_cases c123:c=123
 ·subst c123;rw[aS (by simp),nK];simp[bR,pV,pU,pR,pQ,pO,pM,pK,pJ,xB,a105,h',hp,f50,dU];exact⟨i,kJ.symm⟩
 rw[aF (by simp[c42,c43,c63,c123])];have n42:((c.toNat:Int)==42)=false:=ko 42 c42;have n43:((c.toNat:Int)==43)=false:=ko 43 c43;have n63:((c.toNat:Int)==63)=false:=ko 63 c63;have n123:((c.toNat:Int)==123)=false:=ko 123 c123;by_cases c41:c=41
 ·subst c41;rw[aS rfl,nK];simp[bR,pV,pU,pR,pQ,pO,pM,pK,pJ,xB,tT,F3,a105,h',hp,f4,dU];exact⟨i,kJ.symm⟩
 rw[aF c41];have n41:((c.toNat:Int)==41)=false:=ko 41 c41;by_cases c91:c=91
 ·subst c91;rw[aS rfl];have gL:=zq0 (ae:=ae) (H:=H) (s:=s) (i:=i) (by omega) hc;have dK:=XD (s:=s) hi;cases hx:Cv s i with
  |er a w=>
   rw[hx]at gL dK;simp only[uC]at gL;have hz:gN aO=.agg [u64 0,u64 0,u64 0,u64 0]:=rfl;rw[hz]at gL;simp only;rw[nK];have fw:=fun H hr=>hfl H i w hr;rcases dK with rfl|rfl|rfl;all_goals
    simp only[Jh,ag]at fw gL;simp[bR,pV,pU,pR,pQ,pO,pM,pK,pJ,xB,tT,F3,uV,Jc,Jb,Ja,a105,h',hp,gL,fw,dU];exact⟨i,kJ.symm⟩
  |ok p j=>
   rw[hx]at gL dK;simp only[uC,pz]at gL;simp only;rw[sG,wh];simp[bR,pV,pU,pR,pQ,pO,pM,pK,pJ,xB,tT,F3,uV,Jc,Jb,Ja,Lp,Lm,a105,h',hp,gL,hb]
 rw[aF c91];have n91:((c.toNat:Int)==91)=false:=ko 91 c91;by_cases c40:c=40
 ·subst c40;rw[aS rfl];by_cases h20:20<=ay
  ·have h20':(20:Int)<=(ay:Int):=by omega
   rw[aS h20,nK];have e:r<(H.set r (some [.str s,.int .i64 ((i:Int)+1)])).length:=by simpa using dU
   simp[bR,pV,pU,pR,pQ,pO,pM,pK,pJ,xB,tT,F3,uV,Jc,Jb,Ja,Lp,Lm,zJ,zI,zH,PY,PX,a105,h',hp,hw,hb,f2,dU,h20'];exact⟨i+1,rfl⟩
  ·have h20':¬(20:Int)<=(ay:Int):=by omega
   have hwd:IntKind.i64.wrap ((ay:Int)+1)=(ay:Int)+1:=aM _ (by omega);rw[aF h20];have hR:=h.set (i+1);obtain⟨o,K,q1,q2⟩:=hC ae _ r (i+1) (ay+1) hR hb (by omega) (by omega) (by omega);have hdn:ag (ay+1)=.int .i64 ((ay:Int)+1):=rfl;rw[jB,hdn]at q1;unfold EY at q2;have hplc:=(sH (s:=s) gz n).1 (i+1) (ay+1) (by omega) (by omega);cases hx:sV s n (i+1) (ay+1)with
   |er a w=>
    rw[hx]at q2;obtain⟨rfl,j,rfl⟩:=q2;simp only;rw[nK];simp[bR,pV,pU,pR,pQ,pO,pM,pK,pJ,xB,tT,F3,uV,Jc,Jb,Ja,Lp,Lm,zJ,zI,zH,PY,PX,Vn,a105,h',hp,hw,hb,dU,h20',hwd,q1];exact⟨j,rfl⟩
   |ok ls j=>
    rw[hx]at q2 hplc;obtain⟨rfl,rfl⟩:=q2;obtain⟨b1,b2,b3,b4,b5,_⟩:=hplc;simp only[iP]at q1;have htree:Tree (j-(i+1)+1) (eX 5 ls):=su (.inr rfl) b3 b4 (by omega) (by omega);obtain⟨c1,c2,c3,c4,c5,c6,aH⟩:=Re.av_eight htree.wide;rw[aH]at q1;have hR2:=h.set j;simp only;by_cases bM:s[j]?=some 41
    ·have g:=GD (ae:=ae) hR2 hb (by omega) bM;simp only[iP]at g;replace g:Rn ak SA.sp ae 88 [.ptr r 0,.int .u8 41] (H.set r (some [.str s,ag j]))=_:=g;rw[aS bM,sG,aH];simp[bR,pV,pU,pR,pQ,pO,pM,pK,pJ,xB,tT,F3,uV,Jc,Jb,Ja,Lp,Lm,zJ,zI,zH,PY,PX,Vn,zbh,zbg,zbf,a105,h',hp,hw,hb,dU,h20',hwd,q1,g]
    ·have g:=GG (ae:=ae) hR2 (by omega) bM;replace g:Rn ak SA.sp ae 88 [.ptr r 0,.int .u8 41] (H.set r (some [.str s,ag j]))=_:=g;have fj:=fun H hr=>hfl H j 3 hr;simp only[Jh]at fj;have hR2':=hR2;unfold Rd at hR2';rw[aF bM,nK];simp[bR,pV,pU,pR,pQ,pO,pM,pK,pJ,xB,tT,F3,uV,Jc,Jb,Ja,Lp,Lm,zJ,zI,zH,PY,PX,Vn,zbh,zbg,zbf,a105,h',hp,hw,hb,dU,h20',hwd,q1,g,hR2',fj];exact⟨j,rfl⟩
 rw[aF c40];have n40:((c.toNat:Int)==40)=false:=ko 40 c40;by_cases c46:c=46
 ·subst c46;have hnot:=zsc (ae:=ae) (H:=H.set r (some [.str s,.int .i64 ((i:Int)+1)])) aO;rw[pz (qa aO)]at hnot;have hz:gN aO=.agg [.int .u64 0,.int .u64 0,.int .u64 0,.int .u64 0]:=rfl;rw[hz]at hnot;rw[aS rfl,sG,wh];simp[bR,pV,pU,pR,pQ,pO,pM,pK,pJ,tT,uV,zJ,zI,zH,I9,Ll,a105,h',hp,hw,hb,hnot];rfl
 rw[aF c46];have n46:((c.toNat:Int)==46)=false:=ko 46 c46;by_cases c94:c=94
 ·subst c94;rw[aS rfl,sG,Q6];simp[bR,pV,pU,pR,pQ,pO,pM,pK,pJ,tT,uV,zJ,zI,zH,I9,Ll,Lj,PW,a105,h',hp,hw,hb];rfl
 rw[aF c94];have n94:((c.toNat:Int)==94)=false:=ko 94 c94;by_cases c36:c=36
 ·subst c36;rw[aS rfl,sG,Q6];simp[bR,pV,pU,pR,pQ,pO,pM,pK,pJ,tT,uV,zJ,zI,zH,I9,Ll,Lj,PW,PV,Vm,a105,h',hp,hw,hb];rfl
 rw[aF c36];have n36:((c.toNat:Int)==36)=false:=ko 36 c36;by_cases c92:c=92
 ·subst c92;rw[aS rfl];obtain⟨o,K,q1,q2⟩:=zjQ (ae:=ae) (h.set (i+1)) hb (by omega) (by omega);unfold VP at q2;rw[jB]at q1;cases hx:s[i+1]? with
  |none=>
   rw[hx]at q2;obtain⟨rfl,j,rfl⟩:=q2;simp only;rw[nK];simp[bR,pV,pU,pR,pQ,pO,pM,pK,pJ,tT,uV,zJ,zI,zH,I9,Ll,Lj,PW,PV,Vm,Vl,zbe,a105,h',hp,hw,hb,q1];exact⟨j,rfl⟩
  |some d=>
   rw[hx]at q2;obtain⟨rfl,rfl⟩:=q2;have fJ:=zdn (ae:=ae) (H:=H.set r (some [.str s,ag (i+1+1)])) (qC d);simp only[iP]at q1;rw[wh]at fJ;simp only;rw[sG,wh];simp[bR,pV,pU,pR,pQ,pO,pM,pK,pJ,tT,uV,zJ,zI,zH,I9,Ll,Lj,PW,PV,Vm,Vl,zbe,a105,h',hp,hw,hb,q1,fJ]
 ·rw[aF c92,sG];have n92:((c.toNat:Int)==92)=false:=ko 92 c92;have fJ:=zdn (ae:=ae) (H:=H.set r (some [.str s,.int .i64 ((i:Int)+1)])) c;rw[wh]at fJ ⊢;simp[bR,pV,pU,pR,pQ,pO,pM,pK,pJ,tT,uV,zJ,zI,zH,I9,Lj,PV,Vl,ziS,a105,h',hp,hw,hb,fJ,n42,n43,n63,n123,n41,n91,n40,n46,n94,n36,n92];rfl
end
section
def Vp(s:List UInt8)(r:Nat)(H:aj)(x:PR Re)(e:AExit)(t:EH):Prop:=
 match x with
 | .er a w=>e=.pan (sw a w)∧∃E,∃j:Nat,t=(E,H.set r (some [.str s,ag j]))
 | .ok y j=>e=.ret∧∃v',t=(az 76677619 v',H.set r (some [.str s,ag j]))∧v' 4=.box y.av.cells
theorem zli(s:List UInt8)(r:Nat)(H:aj)(a w:Nat):Vp s r H (.er a w)=fun e t=>e=.pan (sw a w)∧∃E,∃j:Nat,t=(E,H.set r (some [.str s,ag j])):=rfl
theorem zlh(s:List UInt8)(r:Nat)(H:aj)(y:Re)(j:Nat):Vp s r H (.ok y j)=fun e t=>e=.ret∧∃v',t=(az 76677619 v',H.set r (some [.str s,ag j]))∧v' 4=.box y.av.cells:=rfl
theorem zcQ(mn:Nat)(mx:Int)(x:Re):(mF mn mx x).av=.agg [.int .i64 6,.int .u64 0,.int .u64 0,.int .u64 0,.int .u64 0,ag mn,.int .i64 mx,.slc .ro [x.av]]:=rfl
theorem zcP{s:List UInt8}{i:Nat}(n:Nat)(x:Re)(k42:¬s[i]?=some 42)(k43:¬s[i]?=some 43)(k63:¬s[i]?=some 63)(rM:¬s[i]?=some 123):jq s (n+1) x i=.ok x i:=by
 unfold jq;cases hc:s[i]? with
 |none=>rfl
 |some c=>
  rw[hc]at k42 k43 k63 rM;simp only[aD]at k42 k43 k63 rM;simp only[k42,k43,k63,rM,ig]
set_option maxHeartbeats 1000000 in
theorem zlg{s:List UInt8}(gz:s.length<=400){ae:Nat}{H:aj}{r:Nat}(hr:r<H.length)(hb:ae<=r):∀(n:Nat)(x:Re)(i:Nat)(v:Nat->AV),i<=s.length->s.length<n+i->x.wide->v 0=.ptr r 0->v 4=.box [.int .i64 0,.int .u64 0,.int .u64 0,.int .u64 0,.int .u64 0,.int .i64 0,.int .i64 0,.nils]->v 5=.box x.av.cells->
  Wp (aP ak SA.sp ae (.loop a99l13) (az 76677619 v,H.set r (some [.str s,ag i]))) (Vp s r H (jq s n x i)):=by
 have hs:=SA.mono;intro n;induction n with
 |zero=>intro x i v h1 h2;omega
 |succ n ih=>
  intro x i v h1 h2 hx v0 v4 v5;have hR:Rd (H.set r (some [.str s,ag i])) r s i:=dB _ hr;have gZ:=hR;unfold Rd at gZ;obtain⟨c1,c2,c3,c4,c5,c6,aH⟩:=Re.av_eight hx;rw[aH]at v5;simp only[AV.cells]at v5;have step:∀(mn:Nat)(mx:Int)(j:Nat)(w:Nat->AV),i<j->j<=s.length->mn<=50-> -1<=mx∧mx<=50->w 0=.ptr r 0->w 4=.box [.int .i64 0,.int .u64 0,.int .u64 0,.int .u64 0,.int .u64 0,.int .i64 0,.int .i64 0,.nils]->
    w 5=.box [.int .i64 6,.int .u64 0,.int .u64 0,.int .u64 0,.int .u64 0,ag mn,.int .i64 mx,.slc .ro [.agg [.int .i64 x.k,c1,c2,c3,c4,c5,c6,bT (Re.avs x.l)]]]->
    Wp (aP ak SA.sp ae (.loop a99l13) (az 76677619 w,H.set r (some [.str s,ag j]))) (Vp s r H (jq s n (mF mn mx x) j)):=fun mn mx j w hj hl a b w0 w4 w5=>by
   refine ih (mF mn mx x) j w hl (by omega) ?_ w0 w4 (by rw[w5,zcQ,aH];rfl);simp only[mF,Re.wide,Re.wideL,nE];exact⟨rfl,by simp,by omega,hx⟩
  have gno:∀c:UInt8,s[i]?≠some c->Rn ak SA.sp ae 88 [.ptr r 0,.int .u8 c.toNat] (H.set r (some [.str s,ag i]))=some (.ret (.bool false),H.set r (some [.str s,ag i])):=fun c hc=>GG hR h1 hc;have gyes:∀c:UInt8,s[i]?=some c->Rn ak SA.sp ae 88 [.ptr r 0,.int .u8 c.toNat] (H.set r (some [.str s,ag i]))=some (.ret (.bool true),H.set r (some [.str s,ag (i+1)])):=fun c hc=>by
   have:=GD (ae:=ae) hR hb (by omega) hc;simpa only[iP]using this
  rw[bu a99l13.eq_1];by_cases k42:s[i]?=some 42
  ·have g:Rn ak SA.sp ae 88 [.ptr r 0,.int .u8 42] (H.set r (some [.str s,ag i]))=_:=gyes 42 k42;have aB:=lT k42;unfold jq;rw[k42];simp only[fD];simp[au,He,Hd,Ha,G9,G8,G7,G6,G5,Hl,Hg,Hf,v0,v4,v5,gZ,g,eY];refine step 0 (-1) (i+1) _ (by omega) aB (by omega) (by omega) ?_ ?_ ?_
   ·simp[v0]
   ·simp[v4]
   ·simp
  have g42:Rn ak SA.sp ae 88 [.ptr r 0,.int .u8 42] (H.set r (some [.str s,ag i]))=_:=gno 42 k42;by_cases k43:s[i]?=some 43
  ·have g:Rn ak SA.sp ae 88 [.ptr r 0,.int .u8 43] (H.set r (some [.str s,ag i]))=_:=gyes 43 k43;have aB:=lT k43;unfold jq;rw[k43];simp only[show ¬((43:UInt8)=42) by decide,fD,ig];simp[au,He,Hd,Ha,G9,G8,G7,G6,G5,Hl,Hg,Hf,v0,v4,v5,gZ,g42,g,eY];refine step 1 (-1) (i+1) _ (by omega) aB (by omega) (by omega) ?_ ?_ ?_
   ·simp[v0]
   ·simp[v4]
   ·simp
  have g43:Rn ak SA.sp ae 88 [.ptr r 0,.int .u8 43] (H.set r (some [.str s,ag i]))=_:=gno 43 k43;by_cases k63:s[i]?=some 63
  ·have g:Rn ak SA.sp ae 88 [.ptr r 0,.int .u8 63] (H.set r (some [.str s,ag i]))=_:=gyes 63 k63;have aB:=lT k63;unfold jq;rw[k63];simp only[show ¬((63:UInt8)=42) by decide,show ¬((63:UInt8)=43) by decide,fD,ig];simp[au,He,Hd,Ha,G9,G8,G7,G6,G5,Hl,Hg,Hf,v0,v4,v5,gZ,g42,g43,g,eY];refine step 0 1 (i+1) _ (by omega) aB (by omega) (by omega) ?_ ?_ ?_
   ·simp[v0]
   ·simp[v4]
   ·simp
  have g63:Rn ak SA.sp ae 88 [.ptr r 0,.int .u8 63] (H.set r (some [.str s,ag i]))=_:=gno 63 k63;by_cases rM:s[i]?=some 123
  ·have g:Rn ak SA.sp ae 88 [.ptr r 0,.int .u8 123] (H.set r (some [.str s,ag i]))=_:=gyes 123 rM;have aB:=lT rM;have hR2:Rd (H.set r (some [.str s,ag (i+1)])) r s (i+1):=dB _ hr;obtain⟨o,K,q1,q2⟩:=zjE (ae:=ae) (ax:=i) hR2 hb (by omega) (by omega);unfold jq;rw[rM];simp only[show ¬((123:UInt8)=42) by decide,show ¬((123:UInt8)=43) by decide,show ¬((123:UInt8)=63) by decide,fD,ig];unfold VJ at q2;cases ht:qB s (i+1)with
   |none=>
    rw[ht]at q2;obtain⟨rfl,j,rfl⟩:=q2;simp only;rw[zli];simp[au,He,Hd,Ha,G9,G8,G7,G6,G5,Hl,Hg,Hf,v0,v4,v5,gZ,g42,g43,g63,g,q1,eY];exact⟨j,rfl⟩
   |some q=>
    obtain⟨mn,mx,j⟩:=q;rw[ht]at q2;obtain⟨rfl,rfl⟩:=q2;have dK:=VK (s:=s) (by omega) ht;simp only[iP]at q1;simp only;simp[au,He,Hd,Ha,G9,G8,G7,G6,G5,Hl,Hg,Hf,v0,v4,v5,gZ,g42,g43,g63,g,q1,eY];refine step mn mx j _ (by omega) dK.2.1 dK.2.2.1 dK.2.2.2 ?_ ?_ ?_
    ·simp[v0]
    ·simp[v4]
    ·simp
  have g123:Rn ak SA.sp ae 88 [.ptr r 0,.int .u8 123] (H.set r (some [.str s,ag i]))=_:=gno 123 rM;have e0:=zcP n x k42 k43 k63 rM;rw[e0,zlh];simp[au,He,Hd,Ha,G9,G8,G7,G6,G5,Hl,Hg,Hf,v0,v4,v5,gZ,g42,g43,g63,g123];refine⟨_,rfl,?_⟩;simp[aH]
def Gs(s:List UInt8)(n i ay:Nat):PR Re:=match uE s n i ay with
 | .er a w=>.er a w
 | .ok x j=>jq s (s.length+1) x j
theorem zlT{s:List UInt8}{n:Nat}(gz:s.length<=400)(hC:Lx s n){ae:Nat}{H:aj}{r i ay:Nat}(h:Rd H r s i)(hb:ae<=r)(hi:i<s.length)(hf:3*(s.length+1-i)<=n+3)(hd:ay<=20):
  Wc (Rn ak SA.sp ae 99 [.ptr r 0,ag ay] H) (F6 s r H Re.av (Gs s (n+1) i ay)):=by
 have hs:=SA.mono;have dU:=fA h;obtain⟨o,K,q1,q2⟩:=zrm gz hC h hb hi hf hd;have dK:=(sH (s:=s) gz (n+1)).2.2 i ay hi (by omega);refine jl rfl rfl rfl ?_;rw[env99];unfold Gs;cases hx:uE s (n+1) i ay with
 |er a w=>
  rw[hx]at q2;obtain⟨rfl,j,rfl⟩:=q2;simp only;rw[nK];simp[iO,XZ,XY,a99,q1];exact⟨j,rfl⟩
 |ok x j=>
  rw[hx]at q2 dK;obtain⟨rfl,rfl⟩:=q2;obtain⟨p1,p2,p3⟩:=dK;have hxw:=p3.wide;obtain⟨c1,c2,c3,c4,c5,c6,aH⟩:=Re.av_eight hxw;rw[aH]at q1;simp only;simp[iO,XZ,XY,a99,q1];refine(zlg gz dU hb (s.length+1) x j _ p2 (by omega) hxw ?_ ?_ ?_).mono fun e t ht=>?_
  ·simp
  ·simp
  ·simp[aH]
  ·have hpl2:=Jz (s:=s) (s.length+1) x j (j-i) p2 (by omega) (by omega) p3;cases hy:jq s (s.length+1) x j with
   |er a w=>
    rw[hy]at ht;obtain⟨rfl,E,k,rfl⟩:=ht;rw[nK];simp;exact⟨k,rfl⟩
   |ok y k=>
    rw[hy]at ht hpl2;obtain⟨rfl,v',rfl,k4⟩:=ht;obtain⟨c1,c2,c3,c4,c5,c6,aH⟩:=Re.av_eight hpl2.2.2.wide;rw[aH]at k4;rw[sG,aH];simp only[AV.cells]at k4;simp[k4]
end
section
def Vw(s:List UInt8)(r:Nat)(H:aj)(x:PR Re)(e:AExit)(t:EH):Prop:=
 match x with
 | .er a w=>e=.pan (sw a w)∧∃E,∃j:Nat,t=(E,H.set r (some [.str s,ag j]))
 | .ok y j=>e=.ret∧∃v',t=(az 67109107 v',H.set r (some [.str s,ag j]))∧v' 4=.box y.av.cells
theorem zq1(s:List UInt8)(r:Nat)(H:aj)(a w:Nat):Vw s r H (.er a w)=fun e t=>e=.pan (sw a w)∧∃E,∃j:Nat,t=(E,H.set r (some [.str s,ag j])):=rfl
theorem XE(s:List UInt8)(r:Nat)(H:aj)(y:Re)(j:Nat):Vw s r H (.ok y j)=fun e t=>e=.ret∧∃v',t=(az 67109107 v',H.set r (some [.str s,ag j]))∧v' 4=.box y.av.cells:=rfl
def Parts(k:Int)(m:Nat)(aW:List Re):Prop:=(∀x∈aW,Tree 1000 x)∧(dS k aW).length<=m∧aW.length<=m
theorem Parts.snoc{k:Int}{m n:Nat}{aW:List Re}{x:Re}(h:Parts k m aW)(hx:Tree n x)(hn:1<=n∧n<=1000):Parts k (m+n) (aW ++[x]):=by
 obtain⟨h1,h2,h3⟩:=h;refine⟨fun y hy=>?_,?_,?_⟩
 ·rcases qy.1 hy with h|h
  ·exact h1 y h
  ·simp only[xE]at h;subst h;exact hx.mono hn.2
 ·rw[JJ,iF];have:=hx.part k;simp only[dS,lq,List.flatMap_nil,ry]at this ⊢;simp only[dS]at h2;omega
 ·simp only[iF,fF,gW];omega
theorem Parts.mono{k:Int}{m n:Nat}{aW:List Re}(h:Parts k m aW)(l:m<=n):Parts k n aW:=⟨h.1,fT h.2.1 l,fT h.2.2 l⟩
theorem Parts.joined{k:Int}{m:Nat}{aW:List Re}(h:Parts k m aW)(hk:k=4∨k=5)(hm:m<=1000)(ae:Nat)(H:aj)(a:AV)(ha:EW a aW):Rn ak SA.sp ae 89 [.int .i64 k,a] H=some (.ret (eX k aW).av,H):=by
 obtain⟨h1,h2,h3⟩:=h;refine zn0 ha (kz.2 fun x hx=>(h1 x hx).wide) (by omega) fun x hx=>?_;subst hx;exact zn3 hk (h1 x (by simp)).plain
theorem Parts.wide{k:Int}{m:Nat}{aW:List Re}(h:Parts k m aW)(hk:k=4∨k=5)(hm:m<=1000):(eX k aW).wide:=(su hk h.1 (fT h.2.1 hm) (by omega) (by omega)).wide
theorem Parts.rowWide{k:Int}{m:Nat}{aW:List Re}(h:Parts k m aW):Re.wideL aW:=kz.2 fun x hx=>(h.1 x hx).wide
def qp(s:List UInt8)(aW:List Re)(n i ay:Nat):PR Re:=match lY s n i ay with
 | .er a w=>.er a w
 | .ok l j=>.ok (eX 4 (aW++l)) j
set_option maxHeartbeats 1000000 in
theorem zqZ{s:List UInt8}(gz:s.length<=400){N:Nat}(hC:∀m,m<N->Lx s m){ae:Nat}{H:aj}{r ay:Nat}(hr:r<H.length)(hb:ae<=r)(hd:ay<=20):
  ∀(n i:Nat)(aW:List Re)(v:Nat->AV),n<=N->i<=s.length->3*(s.length+1-i)<=n+1->Parts 4 i aW->v 0=.ptr r 0->v 1=ag ay->
   v 4=.box [.int .i64 0,.int .u64 0,.int .u64 0,.int .u64 0,.int .u64 0,.int .i64 0,.int .i64 0,.nils]->v 5=BL aW->
   Wp (aP ak SA.sp ae (.loop a87l6) (az 67109107 v,H.set r (some [.str s,ag i]))) (Vw s r H (qp s aW n i ay)):=by
 have hs:=SA.mono;intro n;induction n with
 |zero=>intro i aW v hN h1 h2;omega
 |succ n ih=>
  intro i aW v hN h1 h2 kK v0 v1 v4 v5;have hR:Rd (H.set r (some [.str s,ag i])) r s i:=dB _ hr;have hj:=kK.joined (.inl rfl) (by omega) ae (H.set r (some [.str s,ag i]));have hjw:=kK.wide (.inl rfl) (by omega);obtain⟨c1,c2,c3,c4,c5,c6,aH⟩:=Re.av_eight hjw;rw[aH]at hj;have bF:=wD kK.rowWide;have stop:stops s i ay=true->qp s aW (n+1) i ay=.ok (eX 4 aW) i:=fun h=>by
   unfold qp lY;rw[aS h];simp
  rw[bu a87l6.eq_1]
  -- where the branch ends
  have ends:stops s i ay=true->(∀(Q:AExit->EH->Prop),(∀v':Nat->AV,v' 4=.box (eX 4 aW).av.cells->Q .ret (az 67109107 v',H.set r (some [.str s,ag i])))->True):=fun _ _ _=>trivial;have bz:(aW=[]∧v 5=.nils)∨(aW ≠ []∧v 5=.slc .own (Re.avs aW)):=by
   cases aW with
   |nil=>exact .inl ⟨rfl,v5⟩
   |cons y l=>exact .inr ⟨by simp,by rw[v5,E8 (by simp)]⟩
  have jn:=hj .nils;have jr:=hj (.slc .ro (Re.avs aW)) (.inl rfl);have bV:List.take aW.length (Re.avs aW)=Re.avs aW:=ek (by simp[ed]);have dl0:ay=0∨0<ay:=Je _;cases hc:s[i]? with
  |none=>
   have hp:=MF (ae:=ae) hR h1 hc;rw[stop (by simp[stops,hc]),XE,aH];rcases bz with⟨rfl,v5'⟩|⟨aR,v5'⟩
   ·have jn:=jn (.inr ⟨rfl,rfl⟩);simp[au,rZ,rY,rX,rW,v0,v1,v4,v5',hp,jn];exact⟨_,rfl,by simp⟩
   ·simp[au,rZ,rY,rX,rW,v0,v1,v4,v5',hp,jr,ed,bV,bF];exact⟨_,rfl,by simp⟩
  |some c=>
   have hp:=Gt (ae:=ae) hR hc;have aB:=lT hc;by_cases c124:c=124
   ·subst c124;rw[stop (by simp[stops,hc]),XE,aH];rcases bz with⟨rfl,v5'⟩|⟨aR,v5'⟩
    ·have jn:=jn (.inr ⟨rfl,rfl⟩);simp[au,rZ,rY,rX,rW,v0,v1,v4,v5',hp,jn];exact⟨_,rfl,by simp⟩
    ·simp[au,rZ,rY,rX,rW,v0,v1,v4,v5',hp,jr,ed,bV,bF];exact⟨_,rfl,by simp⟩
   have n124:((c.toNat:Int)==124)=false:=ko 124 c124;by_cases c41:c=41∧0<ay
   ·obtain⟨rfl,hd0⟩:=c41;have hd0':(0:Int)<(ay:Int):=by omega
    rw[stop (by simp[stops,hc,hd0]),XE,aH];rcases bz with⟨rfl,v5'⟩|⟨aR,v5'⟩
    ·have jn:=jn (.inr ⟨rfl,rfl⟩);simp[au,rZ,rY,rX,rW,v0,v1,v4,v5',hp,jn,hd0',hd0];exact⟨_,rfl,by simp⟩
    ·simp[au,rZ,rY,rX,rW,v0,v1,v4,v5',hp,jr,ed,bV,bF,hd0',hd0];exact⟨_,rfl,by simp⟩
   -- a piece more
   have dx:stops s i ay=false:=by
    simp only[stops,hc,Bool.or_eq_false_iff,P9,LV];refine⟨c124,?_⟩;by_cases e:c=41
    ·exact .inr fun h=>c41 ⟨e,h⟩
    ·exact .inl e
   obtain⟨m,rfl⟩:∃m,n=m+1:=⟨n-1,by omega⟩
   obtain⟨o,K,q1,q2⟩:=zlT gz (hC m (by omega)) hR hb aB (by omega) hd;have hapl:=(sH (s:=s) gz (m+1)).2.2 i ay aB (by omega);have e0:qp s aW (m+1+1) i ay=match Gs s (m+1) i ay with
     | .er a w=>.er a w
     | .ok y k=>qp s (aW ++[y]) (m+1) k ay:=by
    unfold qp Gs;rw[lY,aF (by simp[dx])];cases uE s (m+1) i ay with
    |er a w=>rfl
    |ok x j=>
     simp only;cases jq s (s.length+1) x j with
     |er a w=>rfl
     |ok y k=>
      simp only;cases lY s (m+1) k ay with
      |er a w=>rfl
      |ok ys l=>simp
   have hppl:(Gs s (m+1) i ay).sat (fun y k=>i<k∧k<=s.length∧Tree (k-i) y) (J6 s):=by
    unfold Gs;cases hx:uE s (m+1) i ay with
    |er a w=>rw[hx]at hapl;exact hapl
    |ok x j=>
     rw[hx]at hapl;obtain⟨p1,p2,p3⟩:=hapl;have hr:=Jz (s:=s) (s.length+1) x j (j-i) p2 (by omega) (by omega) p3;simp only;cases hy:jq s (s.length+1) x j with
     |er a w=>rw[hy]at hr;exact hr
     |ok y k=>
      rw[hy]at hr;obtain⟨r1,r2,r3⟩:=hr;exact⟨by omega,r2,r3.mono (by omega)⟩
   rw[e0]
   -- the test answers no
   have test:((decide (c=41))&&decide (0<ay))=false:=by
    by_cases e:c=41
    ·have:¬0<ay:=fun h=>c41 ⟨e,h⟩;simp[this]
    ·simp[e]
   cases hx:Gs s (m+1) i ay with
   |er a w=>
    rw[hx]at q2;obtain⟨rfl,j,rfl⟩:=q2;simp only[iP]at q1;simp only;rw[zq1];by_cases e:c=41
    ·subst e;have hd0:ay=0:=by have:¬0<ay:=fun h=>c41 ⟨rfl,h⟩;omega
     subst hd0;rcases bz with⟨rfl,v5'⟩|⟨aR,v5'⟩
     ·simp[au,rZ,rY,rX,rW,v0,v1,v4,v5',hp,n124,q1];exact⟨j,rfl⟩
     ·simp[au,rZ,rY,rX,rW,v0,v1,v4,v5',hp,n124,q1];exact⟨j,rfl⟩
    ·have n41:((c.toNat:Int)==41)=false:=ko 41 e;rcases bz with⟨rfl,v5'⟩|⟨aR,v5'⟩
     ·simp[au,rZ,rY,rX,rW,v0,v1,v4,v5',hp,n124,n41,q1];exact⟨j,rfl⟩
     ·simp[au,rZ,rY,rX,rW,v0,v1,v4,v5',hp,n124,n41,q1];exact⟨j,rfl⟩
   |ok y k=>
    rw[hx]at q2 hppl;obtain⟨rfl,rfl⟩:=q2;obtain⟨g1,g2,g3⟩:=hppl;simp only[iP]at q1;simp only;have hyw:=g3.wide;obtain⟨d1,d2,d3,d4,d5,d6,jU⟩:=Re.av_eight hyw;rw[jU]at q1;have hacc2:Parts 4 k (aW ++[y]):=(kK.snoc g3 (by omega)).mono (by omega);have gP:BL (aW ++[y])=.slc .own (Re.avs aW ++[.agg [.int .i64 y.k,d1,d2,d3,d4,d5,d6,bT (Re.avs y.l)]]):=by
     rw[E8 (by simp),←ym];simp[Re.avs,jU]
    have bq:=kK.2.2;have cu:(aW.length+1)*8<=4294967296:=by omega
    have next:∀w:Nat->AV,w 0=.ptr r 0->w 1=ag ay->w 4=.box [.int .i64 0,.int .u64 0,.int .u64 0,.int .u64 0,.int .u64 0,.int .i64 0,.int .i64 0,.nils]->w 5=.slc .own (Re.avs aW ++[.agg [.int .i64 y.k,d1,d2,d3,d4,d5,d6,bT (Re.avs y.l)]])->
      Wp (aP ak SA.sp ae (.loop a87l6) (az 67109107 w,H.set r (some [.str s,ag k]))) (Vw s r H (qp s (aW ++[y]) (m+1) k ay)):=fun w w0 w1 w4 w5=>
     ih k (aW ++[y]) w (by omega) g2 (by omega) hacc2 w0 w1 w4 (by rw[w5,gP])
    by_cases e:c=41
    ·subst e;have hd0:ay=0:=by have:¬0<ay:=fun h=>c41 ⟨rfl,h⟩;omega
     subst hd0;rcases bz with⟨rfl,v5'⟩|⟨aR,v5'⟩
     ·simp[au,rZ,rY,rX,rW,v0,v1,v4,v5',hp,n124,q1,eY];refine next _ ?_ ?_ ?_ ?_
      all_goals simp[v0,v1,v4,Re.avs]
     ·simp[au,rZ,rY,rX,rW,v0,v1,v4,v5',hp,n124,q1,eY,bF,ed,cu];refine next _ ?_ ?_ ?_ ?_
      all_goals simp[v0,v1,v4]
    ·have n41:((c.toNat:Int)==41)=false:=ko 41 e;rcases bz with⟨rfl,v5'⟩|⟨aR,v5'⟩
     ·simp[au,rZ,rY,rX,rW,v0,v1,v4,v5',hp,n124,n41,q1,eY];refine next _ ?_ ?_ ?_ ?_
      all_goals simp[v0,v1,v4,Re.avs]
     ·simp[au,rZ,rY,rX,rW,v0,v1,v4,v5',hp,n124,n41,q1,eY,bF,ed,cu];refine next _ ?_ ?_ ?_ ?_
      all_goals simp[v0,v1,v4]
end
section
theorem zfj{s:List UInt8}(gz:s.length<=400){N:Nat}(hC:∀m,m<N->Lx s m){ae:Nat}{H:aj}{r i ay n:Nat}(h:Rd H r s i)(hb:ae<=r)(hi:i<=s.length)(hn:n<=N)(hf:3*(s.length+1-i)<=n+1)(hd:ay<=20):
  Wc (Rn ak SA.sp ae 87 [.ptr r 0,ag ay] H) (F6 s r H Re.av (qp s [] n i ay)):=by
 have hs:=SA.mono;have dU:=fA h;have kJ:=z8 h;have dK:=(sH (s:=s) gz n).2.1 i ay hi (by omega);have hwy:∀y j,qp s [] n i ay=.ok y j->y.wide:=fun y j e=>by
  unfold qp at e;cases hx:lY s n i ay with
  |er a w=>rw[hx]at e;cases e
  |ok l k=>
   rw[hx]at e dK;simp only[gV,PR.ok.injEq]at e;obtain⟨rfl,rfl⟩:=e;obtain⟨b1,b2,b3,b4,b5⟩:=dK;exact(su (m:=k-i+1) (.inl rfl) (fun x hx=>(b3 x hx).mono (by omega)) (by omega) (by omega) (by omega)).wide
 refine jl rfl rfl rfl ?_;rw[env87];simp[iO,zfF,zfE,a87];have dw:=zqZ gz hC (ae:=ae) (H:=H) dU hb hd n i [] (st (st (st (st bK 0 (.ptr r 0)) 1 (ag ay)) 4 (.box [.int .i64 0,.int .u64 0,.int .u64 0,.int .u64 0,.int .u64 0,.int .i64 0,.int .i64 0,.nils])) 5 .nils) hn hi hf ⟨by simp,by simp[dS],by simp⟩
  (by simp) (by simp) (by simp) (by simp[E5])
 rw[kJ]at dw;refine dw.mono fun e t ht=>?_;cases hx:qp s [] n i ay with
 |er a w=>
  rw[hx]at ht;obtain⟨rfl,E,j,rfl⟩:=ht;rw[nK];simp;exact⟨j,rfl⟩
 |ok y j=>
  rw[hx]at ht;obtain⟨rfl,v',rfl,k4⟩:=ht;obtain⟨c1,c2,c3,c4,c5,c6,aH⟩:=Re.av_eight (hwy y j hx);rw[aH]at k4;rw[sG,aH];simp only[AV.cells]at k4;simp[k4]
def wu(s:List UInt8)(n j ay:Nat):PR (List Re):=if s[j]?=some 124 then sV s n (j+1) ay else .ok [] j
theorem Rz(s:List UInt8)(n i ay:Nat):sV s (n+1) i ay=match lY s n i ay with
  | .er a w=>.er a w
  | .ok l j=>match wu s n j ay with
   | .er a w=>.er a w
   | .ok ls k=>.ok (eX 4 l::ls) k:=by
 rw[sV];cases lY s n i ay with
 |er a w=>rfl
 |ok l j=>
  simp only[wu];split
  ·cases sV s n (j+1) ay<;>rfl
  ·rfl
def Vr(s:List UInt8)(r:Nat)(H:aj)(aW:List Re)(v:Nat->AV)(x:PR (List Re))(e:AExit)(t:EH):Prop:=
 match x with
 | .er a w=>e=.pan (sw a w)∧∃E,∃j:Nat,t=(E,H.set r (some [.str s,ag j]))
 | .ok ls j=>e=.exit 0∧∃v',t=(az 2099 v',H.set r (some [.str s,ag j]))∧v' 4=v 4∧v' 5=.slc .own (Re.avs (aW++ls))∧Parts 5 (j+1) (aW++ls)∧j<=s.length
theorem zlX(s:List UInt8)(r:Nat)(H:aj)(aW:List Re)(v:Nat->AV)(a w:Nat):Vr s r H aW v (.er a w)=fun e t=>e=.pan (sw a w)∧∃E,∃j:Nat,t=(E,H.set r (some [.str s,ag j])):=rfl
theorem zlW(s:List UInt8)(r:Nat)(H:aj)(aW:List Re)(v:Nat->AV)(ls:List Re)(j:Nat):Vr s r H aW v (.ok ls j)=fun e t=>e=.exit 0∧∃v',t=(az 2099 v',H.set r (some [.str s,ag j]))∧v' 4=v 4∧v' 5=.slc .own (Re.avs (aW++ls))∧Parts 5 (j+1) (aW++ls)∧j<=s.length:=rfl
set_option maxHeartbeats 1000000 in
theorem zlV{s:List UInt8}(gz:s.length<=400){N:Nat}(hC:∀m,m<N->Lx s m){ae:Nat}{H:aj}{r ay:Nat}(hr:r<H.length)(hb:ae<=r)(hd:ay<=20):
  ∀(n j:Nat)(aW:List Re)(v:Nat->AV),n<=N->j<=s.length->3*(s.length-j)<=n->Parts 5 (j+1) aW->aW ≠ []->v 0=.ptr r 0->v 1=ag ay->v 5=.slc .own (Re.avs aW)->
   Wp (aP ak SA.sp ae (.loop a86l4) (az 2099 v,H.set r (some [.str s,ag j]))) (Vr s r H aW v (wu s n j ay)):=by
 have hs:=SA.mono;intro n;induction n using Nat.strongRecOn with
 |ind n ih=>
 intro j aW v hN h1 h2 kK aR v0 v1 v5;have hR:Rd (H.set r (some [.str s,ag j])) r s j:=dB _ hr;have bF:=wD kK.rowWide;rw[bu a86l4.eq_1];unfold wu;by_cases hc:s[j]?=some 124
 ·rw[aS hc];have aB:=lT hc;have g:=GD (ae:=ae) hR hb (by omega) hc;simp only[iP]at g;replace g:Rn ak SA.sp ae 88 [.ptr r 0,.int .u8 124] (H.set r (some [.str s,ag j]))=_:=g;obtain⟨m,rfl⟩:∃m,n=m+1:=⟨n-1,by omega⟩
  have hR2:Rd (H.set r (some [.str s,ag (j+1)])) r s (j+1):=dB _ hr;obtain⟨o,K,q1,q2⟩:=zfj gz hC hR2 hb (by omega) (show m<=N by omega) (by omega) hd;have rT:=(sH (s:=s) gz m).2.1 (j+1) ay (by omega) (by omega);rw[Rz];unfold qp at q2;simp only[iP,gV]at q1 q2;cases hx:lY s m (j+1) ay with
  |er a w=>
   rw[hx]at q2;obtain⟨rfl,k,rfl⟩:=q2;simp only[iP]at q1;simp only;rw[zlX];simp[au,Sc,Ye,v0,v1,v5,g,q1];exact⟨k,rfl⟩
  |ok l k=>
   rw[hx]at q2 rT;obtain⟨rfl,rfl⟩:=q2;obtain⟨b1,b2,b3,b4,b5⟩:=rT;simp only[iP]at q1;have ht:Tree (k-(j+1)+1) (eX 4 l):=su (.inl rfl) (fun x hx=>(b3 x hx).mono (by omega)) (by omega) (by omega) (by omega);obtain⟨d1,d2,d3,d4,d5,d6,jU⟩:=Re.av_eight ht.wide;rw[jU]at q1;have hacc2:Parts 5 (k+1) (aW ++[eX 4 l]):=(kK.snoc ht (by omega)).mono (by omega);have bq:=kK.2.2;have cu:(aW.length+1)*8<=4294967296:=by omega
   have hav:Re.avs (aW ++[eX 4 l])=Re.avs aW ++[.agg [.int .i64 (eX 4 l).k,d1,d2,d3,d4,d5,d6,bT (Re.avs (eX 4 l).l)]]:=by
    rw[←ym];simp[Re.avs,jU]
   simp only;have next:∀w:Nat->AV,w 0=.ptr r 0->w 1=ag ay->w 4=v 4->w 5=.slc .own (Re.avs aW ++[.agg [.int .i64 (eX 4 l).k,d1,d2,d3,d4,d5,d6,bT (Re.avs (eX 4 l).l)]])->
     Wp (aP ak SA.sp ae (.loop a86l4) (az 2099 w,H.set r (some [.str s,ag k]))) (Vr s r H aW v (match wu s m k ay with|.er a w=>.er a w|.ok ls k=>.ok (eX 4 l::ls) k)):=fun w w0 w1 w4 w5=>by
    refine(ih m (by omega) k (aW ++[eX 4 l]) w (by omega) b2 (by omega) hacc2 (by simp) w0 w1 (by rw[w5,hav])).mono fun e t h=>?_;cases hy:wu s m k ay with
    |er a b=>rw[hy]at h;exact h
    |ok ls z=>
     rw[hy]at h;obtain⟨h1,v',h2,h3,h4,h5,h6⟩:=h;simp only[zR,kg,gV]at h4 h5;exact⟨h1,v',h2,h3.trans w4,h4,h5,h6⟩
   simp[au,Sc,Ye,v0,v1,v5,g,q1,eY,bF,ed,cu];refine next _ ?_ ?_ ?_ ?_
   all_goals simp[v0,v1]
 ·rw[aF hc,zlW];have g:=GG (ae:=ae) hR h1 hc;replace g:Rn ak SA.sp ae 88 [.ptr r 0,.int .u8 124] (H.set r (some [.str s,ag j]))=_:=g;simp[au,Sc,v0,g];exact⟨_,rfl,by simp,by simp[v5],kK,h1⟩
theorem zlU{s:List UInt8}(gz:s.length<=400):∀n,Lx s n:=by
 have hs:=SA.mono;intro n;induction n using Nat.strongRecOn with
 |ind n ih=>
 intro ae H r i ay h hb hi hf hd;obtain⟨m,rfl⟩:∃m,n=m+1:=⟨n-1,by omega⟩
 have dU:=fA h;obtain⟨o,K,q1,q2⟩:=zfj gz ih h hb hi (show m<=m+1 by omega) (by omega) hd;have rT:=(sH (s:=s) gz m).2.1 i ay hi (by omega);refine jl rfl rfl rfl ?_;rw[env86];unfold EY;rw[Rz];unfold qp at q2;simp only[gV]at q2;cases hx:lY s m i ay with
 |er a w=>
  rw[hx]at q2;obtain⟨rfl,k,rfl⟩:=q2;simp only;rw[nK];simp[iO,Yg,Yf,a86,q1];exact⟨k,rfl⟩
 |ok l k=>
  rw[hx]at q2 rT;obtain⟨rfl,rfl⟩:=q2;obtain⟨b1,b2,b3,b4,b5⟩:=rT;have ht:Tree (k-i+1) (eX 4 l):=su (.inl rfl) (fun x hx=>(b3 x hx).mono (by omega)) (by omega) (by omega) (by omega);obtain⟨d1,d2,d3,d4,d5,d6,jU⟩:=Re.av_eight ht.wide;rw[jU]at q1;have kK:Parts 5 (k+1) [eX 4 l]:=by
   have h0:Parts 5 0 []:=⟨by simp,by simp[dS],by simp⟩
   have:=h0.snoc ht (by omega);simpa using this.mono (show 0+(k-i+1)<=k+1 by omega)
  simp[iO,Yg,Yf,a86,q1,eY];refine(zlV gz ih (ae:=ae) (H:=H) dU hb hd m k [eX 4 l] _ (by omega) b2 (by omega) kK (by simp) ?_ ?_ ?_).mono fun e t ht=>?_
  ·simp
  ·simp
  ·simp[Re.avs,jU]
  ·cases hy:wu s m k ay with
   |er a w=>
    rw[hy]at ht;obtain⟨rfl,E,j,rfl⟩:=ht;simp only;rw[nK];simp;exact⟨j,rfl⟩
   |ok ls j=>
    rw[hy]at ht;obtain⟨rfl,v',rfl,k4,k5,hp,hj⟩:=ht;have hjn:=hp.joined (.inr rfl) (by omega) ae (H.set r (some [.str s,ag j])) _ (.inl rfl);have hjw:=hp.wide (.inr rfl) (by omega);obtain⟨c1,c2,c3,c4,c5,c6,aH⟩:=Re.av_eight hjw;simp only[kg,gV]at hjn aH k5 hp;rw[aH]at hjn;simp only;rw[sG,aH];simp at k4;have bF:=wD hp.rowWide;have bV:List.take (eX 4 l::ls).length (Re.avs (eX 4 l::ls))=Re.avs (eX 4 l::ls):=ek (by simp[ed]);have hal:(Re.avs (eX 4 l::ls)).length=(eX 4 l::ls).length:=ed _;generalize eX 4 l::ls=A at *;simp[dX,zfG,k4,k5,hjn,hal,bV]
def p9(x:PR Re):AV:=
 match x with
 | .er a w=>.tup [emptyRe.av,ag a,ag w]
 | .ok y _=>.tup [y.av,ag 0,ag 0]
theorem zl0{ae:Nat}{H:aj}(s:List UInt8):Rn ak SA.sp ae 41 [.str s] H=some (.ret (p9 (uj s)),H):=by
 have hz:emptyRe.av=Qm:=rfl;have hm:Mono fun n=>zZ (run ak qE n) [.str s] H:=fun n m r l e=>zce (fun b=>qG SA.mono n m b l) _ _ _ e;rw[zrY,JH hm];by_cases hl:400<s.length
 ·refine⟨0,?_⟩;have:Nat.ble s.length 400=false:=by
   cases h:Nat.ble s.length 400
   ·rfl
   ·have:=iy h;omega
  simp only[zZ,this,fq,uj,aS hl,p9,hz];rfl
 ·have cu:Nat.ble s.length 400=true:=by rw[Nat.ble_eq];omega
  obtain⟨o,K,q1,q2⟩:=zlU (s:=s) (by omega) (qO s 0) 0 [some [.str s,ag 0]] 0 0 0 rfl (aX _) (jK _) (by unfold qO;omega) (jK _);obtain⟨n,hn⟩:=(vR SA.mono).1 q1;refine⟨n,?_⟩;have hn':run ak qE n 0 86 [.ptr 0 0,.int .i64 0] [some [.str s,.int .i64 0]]=some (o,K):=hn;simp only[zZ,cu,bA,hn',uj,aF hl];unfold EY at q2;have dK:=(sH (s:=s) (by omega) (qO s 0)).1 0 0 (by omega) (by unfold qO;omega);cases hx:sV s (qO s 0) 0 0 with
  |er a w=>
   rw[hx]at q2;obtain⟨rfl,j,rfl⟩:=q2;simp only[sw,ag,p9,hz]
  |ok ls j=>
   rw[hx]at q2 dK;obtain⟨rfl,rfl⟩:=q2;obtain⟨b1,b2,b3,b4,b5,_⟩:=dK;have ht:Tree (j-0+1) (eX 5 ls):=su (.inr rfl) b3 b4 (by omega) (by omega);obtain⟨c1,c2,c3,c4,c5,c6,aH⟩:=Re.av_eight ht.wide;have jT:=x9 0 (List.set [some [AV.str s,ag 0]] 0 (some [AV.str s,ag j])) (eX 5 ls);simp only[p9];rw[jT,aH];rfl
end
end Go.Ak
