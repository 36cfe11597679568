/- What the document's reader of patterns, its New and its Light compute. -/
import Derived.Test.YtfcgnpphabplbaaGreatDoorPm
import Derived.Test.YtfcgnpphabplbaaGreatDoorPl
set_option linter.unusedVariables false
set_option linter.unusedSimpArgs false
namespace Go.Ak
attribute [local simp] Av EA EC EB mM zK wH Cy CB Cz BP BM BN Ac Cs Cq Cr Bz BA
 jP kr wanted cB dZ l8 live BR zU Aj Bw xN put vZ esc sS yn args drop1 jv xV xU yj qX rd wr kW sub AV.cells pack one setCells nJ qI qJ roOf gT qF jI jy mf eY newRow newObj step Ce Cf qR take cz bB lim mG bound uh ww uu nO yf fO
 Cm Ck Ch Ci Cj
 pY ru Ap rR BZ Ca BX
attribute [local simp] sR sT cV bL kA kB kC af aQ aJ gK ah aC dC aA eQ iY fI bH eO bD bN gQ rU bI rF aL dI eZ fK gp lX bW iQ df cO jc dP dM gm mJ fH gH iq iR lc ku fB jX iH iI
attribute [-simp] getElem?_pos
section
def Rf(H:aj)(r:Nat)(s:List UInt8)(i:Nat):Prop:=eB H r=some (some [.str s,ag i,ag 0,ag 0])
def Bf(H:aj)(r:Nat)(s:List UInt8)(z:Int)(a w:Nat):Prop:=eB H r=some (some [.str s,.int .i64 z,ag a,ag w])∧w≠0
theorem Rf.set{H:aj}{r:Nat}{s:List UInt8}{i:Nat}(h:Rf H r s i)(j:Nat):Rf (H.set r (some [.str s,ag j,ag 0,ag 0])) r s j:=dB _ (fA h)
theorem xR{ae:Nat}{H:aj}{r:Nat}{s:List UInt8}{i:Nat}(h:Rf H r s i):Rn ak SA.sp ae 93 [.ptr r 0] H=some (.ret (.int .i64 (dV s i)),H):=by
 unfold Rf at h;refine xS rfl rfl rfl rfl ?_;rw[zev];cases hc:s[i]? with
 |none=>
  have h1:s.length<=i:=rq.1 hc;rw[Nn hc];simp[Ez,a93,RL,RO,RJ,RN,h,h1]
 |some c=>
  have h1:=lT hc;have h2:¬s.length<=i:=by omega
  have hw:IntKind.i64.wrap (c.toNat:Int)=(c.toNat:Int):=aM _ (by have:=c.toNat_lt;omega);rw[jJ hc];simp[Ez,a93,RL,RO,RJ,RN,h,h1,h2,hc,hw]
theorem QM{ae:Nat}{H:aj}{r:Nat}{s:List UInt8}{z:Int}{a w:Nat}(h:Bf H r s z a w):Rn ak SA.sp ae 93 [.ptr r 0] H=some (.ret (.int .i64 (-1)),H):=by
 obtain⟨h,hw⟩:=h;have bY:((w:Int) != 0)=true:=by simp[bne];omega
 refine xS rfl rfl rfl rfl ?_;rw[zev];simp[Ez,a93,RL,RO,RJ,RN,h,hw,bY]
theorem EX{ae:Nat}{H:aj}{r:Nat}{s:List UInt8}{i a w:Nat}(h:Rf H r s i)(hb:ae<=r):Rn ak SA.sp ae 107 [.ptr r 0,ag a,ag w] H=some (.ret (.tup []),H.set r (some [.str s,ag i,ag a,ag w])):=by
 have dU:=fA h;unfold Rf at h;refine l5.1 (jl rfl rfl rfl ?_);rw[zeE];simp[Ez,a107,zbd,zbc,h,hb,dU,dB]
end
section
def qM(x:Nat×Nat):Int:=if jb x then x.1 else -1
theorem zrt:([.int .u64 18446744073709551615,.int .u64 18446744073709551615,.int .u64 18446744073709551615,.int .u64 18446744073709551615]:List AV)=dJ (qa aO):=by rfl
theorem zrs{ae:Nat}{H:aj}:Rn ak SA.sp ae 110 [] H=some (.ret (gN (qa aO)),H):=by
 refine di rfl rfl rfl rfl ?_;rw[zpW];unfold gN;rw[←zrt];simp[dX,a110,ziH,ziG,aN,bg]
theorem one_byte{ae:Nat}{H:aj}{c:Nat}(hc:c<256):Rn ak SA.sp ae 109 [ag c] H=some (.ret (sD (fun x=>decide (x=c))).av,H):=by
 have cK:=fun p=>ziZ (ae:=0) (H:=[]) p;unfold gN at cK;simp only[ES]at cK;have hb:=Nj aO c true;have e:(fun x=>if x=c then true else aO x)=fun x=>decide (x=c):=by funext x;by_cases h:x=c<;>simp[h,aO]
 rw[e]at hb;have hc3:c+1<=256:=by omega
 have hcI:(c:Int)<256:=by omega
 refine di rfl rfl rfl rfl ?_;rw[zpX,wh];simp[dX, -List.reduceReplicate,XF,mr,GX,Nk,a109,ziM,ziL,ziK,ziJ,aN,bg,hc,hc3,hcI,hb,cK,mf,ES]
theorem zlK(c:UInt8):bv c c=fun x=>decide (x=c.toNat):=by
 funext x;unfold bv;by_cases h:x=c.toNat
 ·simp[h]
 ·have:(decide (c.toNat<=x)&&decide (x<=c.toNat))=false:=by
   rw[LV];by_cases h1:c.toNat<=x
   ·exact .inr (by simp;omega)
   ·exact .inl (by simp;omega)
  rw[this];simp[h]
theorem zdo{ae:Nat}{H:aj}(c:UInt8):Rn ak SA.sp ae 109 [ag c.toNat] H=some (.ret (sD (bv c c)).av,H):=by
 rw[zlK];exact one_byte c.toNat_lt
def Ay(s:List UInt8)(i:Nat):Bool:=match s[i]? with|some c=>decide (¬(c<48∨57<c))|none=>false
theorem zeR{s:List UInt8}{i:Nat}(h:Ay s i=true):∃c,s[i]?=some c∧¬c<48∧¬57<c∧(48:Int)<=c.toNat∧(c.toNat:Int)<=57:=by
 unfold Ay at h;cases hc:s[i]? with
 |none=>simp[hc]at h
 |some c=>
  simp only[hc]at h;have h:=Jd h;have h1:¬c<48:=fun e=>h (.inl e);have h2:¬57<c:=fun e=>h (.inr e);have h1':¬((c.toNat:Int)<48):=fun e=>h1 (GI.2 e);have h2':¬((57:Int)<(c.toNat:Int)):=fun e=>h2 (JU.2 e);exact⟨c,rfl,h1,h2,by omega,by omega⟩
theorem zeS{s:List UInt8}{i:Nat}(h:Ay s i=false):(¬(48:Int)<=dV s i)∨((48:Int)<=dV s i∧¬dV s i<=57):=by
 unfold Ay at h;cases hc:s[i]? with
 |none=>exact .inl (by rw[Nn hc];omega)
 |some c=>
  simp only[hc]at h;have h:=of_decide_eq_false h;rw[jJ hc];by_cases h1:c<48
  ·have:=GI.1 h1;exact .inl (by omega)
  ·by_cases h2:57<c
   ·have h2':=JU.1 h2;have h1':¬((c.toNat:Int)<48):=fun e=>h1 (GI.2 e);exact .inr ⟨by omega,by omega⟩
   ·exact absurd (fun e=>e.elim h1 h2) h
theorem zm7{s:List UInt8}{i:Nat}(h:Ay s i=false):gD s i=(0,0):=by
 unfold Ay at h;unfold gD;cases hc:s[i]? with
 |none=>rfl
 |some c=>
  simp only[hc]at h;have h:=of_decide_eq_false h;simp only;rw[aS (Decidable.not_not.1 h)]
theorem zm6{s:List UInt8}{i:Nat}{c:UInt8}(hc:s[i]?=some c)(h1:¬c<48)(h2:¬57<c)(h:Ay s (i+1)=false):gD s i=(c.toNat-48,1):=by
 unfold Ay at h;unfold gD;simp only[hc];rw[aF (fun e=>e.elim h1 h2)];cases hd:s[i+1]? with
 |none=>rfl
 |some d=>
  simp only[hd]at h;have h:=of_decide_eq_false h;simp only;rw[aS (Decidable.not_not.1 h)]
theorem zm5{s:List UInt8}{i:Nat}{c d:UInt8}(hc:s[i]?=some c)(h1:¬c<48)(h2:¬57<c)(hd:s[i+1]?=some d)(h3:¬d<48)(h4:¬57<d):gD s i=(10*(c.toNat-48)+(d.toNat-48),2):=by
 unfold gD;simp only[hc,hd];rw[aF (fun e=>e.elim h1 h2),aF (fun e=>e.elim h3 h4)]
theorem zcK{ae:Nat}{H:aj}{r:Nat}{s:List UInt8}{i:Nat}(h:Rf H r s i)(hb:ae<=r)(hi:i<=100000):
  Rn ak SA.sp ae 111 [.ptr r 0] H=some (.ret (.int .i64 (qM (gD s i))),H.set r (some [.str s,ag (i+(gD s i).2),ag 0,ag 0])):=by
 have dU:=fA h;have h0:=z8 h;have hw:IntKind.i64.wrap ((i:Int)+1)=(i:Int)+1:=aM _ (by omega);have bY:IntKind.i64.wrap ((i:Int)+1+1)=(i:Int)+1+1:=aM _ (by omega);have w00:IntKind.i64.wrap 0=0:=by decide
 have w1:IntKind.i64.wrap 1=1:=by decide
 have w2:IntKind.i64.wrap 2=2:=by decide
 have hc0:=xR (ae:=ae) h;have h':=h;unfold Rf at h';refine l5.1 (jl rfl rfl rfl ?_);rw[zpV];simp[iO,a111,ziF,ziE];rw[bu a111l5.eq_1];cases hd0:Ay s i with
 |false=>
  have e:=zm7 hd0;rcases zeS hd0 with k|⟨k1,k2⟩
  ·simp[au,Em,I7,I6,I5,hc0,k,e,qM,jb,h0]
  ·simp[au,Em,I7,I6,I5,hc0,k1,k2,e,qM,jb,h0]
 |true=>
  obtain⟨c,hc,c1,c2,c3,c4⟩:=zeR hd0;rw[jJ hc]at hc0;have wa:IntKind.i64.wrap (c.toNat:Int)=(c.toNat:Int):=aM _ (by omega);have ws:IntKind.i64.wrap ((c.toNat:Int)-48)=(c.toNat:Int)-48:=aM _ (by omega);have hR:=h.set (i+1);have jB:ag (i+1)=.int .i64 ((i:Int)+1):=rfl;have jV:=xR (ae:=ae) hR;have gZ:=hR;unfold Rf at gZ;rw[jB]at gZ jV;simp[au,Em,zaO,zaN,hc0,c3,c4,wa,ws,w00,w1,h',hw,hb,dU,dB];rw[bu a111l5.eq_1];cases hd1:Ay s (i+1)with
  |false=>
   have e:=zm6 hc c1 c2 hd1;have e2:(((c.toNat-48:Nat)):Int)=(c.toNat:Int)-48:=by omega
   have hz:¬(50:Int)<(c.toNat:Int)-48:=by omega
   have hz2:c.toNat-48<=50:=by omega
   rcases zeS hd1 with k|⟨k1,k2⟩
   ·simp[au,Em,I7,I6,I5,jV,k,e,qM,jb,hz,hz2,e2];rfl
   ·simp[au,Em,I7,I6,I5,jV,k1,k2,e,qM,jb,hz,hz2,e2];rfl
  |true=>
   obtain⟨d,hd,d1,d2,d3,d4⟩:=zeR hd1;rw[jJ hd]at jV;have e:=zm5 hc c1 c2 hd d1 d2;have wm:IntKind.i64.wrap (((c.toNat:Int)-48)*10)=((c.toNat:Int)-48)*10:=aM _ (by omega);have wb:IntKind.i64.wrap (((c.toNat:Int)-48)*10+(d.toNat:Int))=((c.toNat:Int)-48)*10+(d.toNat:Int):=aM _ (by omega);have wc:IntKind.i64.wrap (((c.toNat:Int)-48)*10+(d.toNat:Int)-48)=((c.toNat:Int)-48)*10+(d.toNat:Int)-48:=aM _ (by omega);have e4:ag (i+2)=.int .i64 ((i:Int)+1+1):=by simp[ag];omega
   have cK:(H.set r (some [.str s,.int .i64 ((i:Int)+1),ag 0,ag 0])).set r (some [.str s,.int .i64 ((i:Int)+1+1),ag 0,ag 0])=H.set r (some [.str s,.int .i64 ((i:Int)+1+1),ag 0,ag 0]):=iP ..;simp[au,Em,zaO,zaN,jV,d3,d4,wm,wb,wc,w2,bY,hb,dU,dB];rw[bu a111l5.eq_1,e,e4];have e5:((10*(c.toNat-48)+(d.toNat-48):Nat):Int)=((c.toNat:Int)-48)*10+(d.toNat:Int)-48:=by omega
   by_cases hz:(50:Int)<((c.toNat:Int)-48)*10+(d.toNat:Int)-48
   ·have hz2:¬10*(c.toNat-48)+(d.toNat-48)<=50:=by omega
    have e6:qM (10*(c.toNat-48)+(d.toNat-48),2)= -1:=by simp[qM,jb,hz2]
    rw[e6];simp[au,Em,I7,I6,I5,hz]
   ·have hz2:10*(c.toNat-48)+(d.toNat-48)<=50:=by omega
    have e6:qM (10*(c.toNat-48)+(d.toNat-48),2)=((c.toNat:Int)-48)*10+(d.toNat:Int)-48:=by rw[←e5];simp[qM,jb,hz2]
    rw[e6];simp[au,Em,I7,I6,I5,hz]
end
section
abbrev Bu:AV:=.box [.int .i64 0,.int .u64 0,.int .u64 0,.int .u64 0,.int .u64 0,.int .i64 0,.int .i64 0,.nils]
def RR(s:List UInt8)(r:Nat)(H:aj)(m:Nat)(x:PR Re)(e:AExit)(t:EH):Prop:=
 match x with
 | .er a w=>e=.ret∧∃(y:Re)(v':Nat->AV)(z:Int),Tree m y∧t=(az 4874663954868102531948795 v',H.set r (some [.str s,.int .i64 z,ag a,ag w]))∧v' 4=.box y.av.cells
 | .ok y j=>e=.ret∧∃v',t=(az 4874663954868102531948795 v',H.set r (some [.str s,ag j,ag 0,ag 0]))∧v' 4=.box y.av.cells
theorem QH(s:List UInt8)(r:Nat)(H:aj)(m a w:Nat):RR s r H m (.er a w)=fun e t=>e=.ret∧∃(y:Re)(v':Nat->AV)(z:Int),Tree m y∧t=(az 4874663954868102531948795 v',H.set r (some [.str s,.int .i64 z,ag a,ag w]))∧v' 4=.box y.av.cells:=rfl
theorem rr_ok(s:List UInt8)(r:Nat)(H:aj)(m:Nat)(y:Re)(j:Nat):RR s r H m (.ok y j)=fun e t=>e=.ret∧∃v',t=(az 4874663954868102531948795 v',H.set r (some [.str s,ag j,ag 0,ag 0]))∧v' 4=.box y.av.cells:=rfl
theorem Wx{x:Nat×Nat}(h:jb x=true):qM x=x.1:=by simp[qM,h]
theorem zdq{x:Nat×Nat}(h:jb x=false):qM x= -1:=by simp[qM,h]
def J5(s:List UInt8)(a:Nat×Nat)(j:Nat):Option (Nat×Int×Nat):=
 if jb a=true∧s[j]?=some 44 then
  if s[j+1]?=some 125 then some (a.1, -1,j+2)else
   if jb (gD s (j+1))=true∧a.1<=(gD s (j+1)).1∧s[j+1+(gD s (j+1)).2]?=some 125 then some (a.1,((gD s (j+1)).1:Int),j+1+(gD s (j+1)).2+1)else none
 else if jb a=true∧s[j]?=some 125 then some (a.1,(a.1:Int),j+1)else none
theorem zjF(s:List UInt8)(i:Nat):qB s i=J5 s (gD s i) (i+(gD s i).2):=rfl
set_option maxHeartbeats 1000000 in
theorem zk0{s:List UInt8}(gz:s.length<=400){ae:Nat}{H:aj}{r m:Nat}(hr:r<H.length)(hb:ae<=r)(hm:1<=m):∀(n:Nat)(x:Re)(i:Nat)(v:Nat->AV),i<=s.length->s.length<n+i->Tree m x->v 0=.ptr r 0->v 4=Bu->v 3=.box x.av.cells->
  Wp (aP ak SA.sp ae (.loop a102l28) (az 4874663954868102531948795 v,H.set r (some [.str s,ag i,ag 0,ag 0]))) (RR s r H m (jq s n x i)):=by
 have hs:=SA.mono;intro n;induction n with
 |zero=>intro x i v h1 h2;omega
 |succ n ih=>
  intro x i v h1 h2 hx v0 v4 v3;have hR:Rf (H.set r (some [.str s,ag i,ag 0,ag 0])) r s i:=dB _ hr;have gZ:=hR;unfold Rf at gZ;obtain⟨c1,c2,c3,c4,c5,c6,aH⟩:=Re.av_eight hx.wide;rw[aH]at v3;simp only[AV.cells]at v3;have hiw:IntKind.i64.wrap ((i:Int)+1)=(i:Int)+1:=aM _ (by omega);have step:∀(mn:Nat)(mx:Int)(j:Nat)(w:Nat->AV),i<j->j<=s.length->mn<=50-> -1<=mx∧mx<=50->w 0=.ptr r 0->w 4=Bu->
    w 3=.box [.int .i64 6,.int .u64 0,.int .u64 0,.int .u64 0,.int .u64 0,ag mn,.int .i64 mx,.slc .ro [.agg [.int .i64 x.k,c1,c2,c3,c4,c5,c6,bT (Re.avs x.l)]]]->
    Wp (aP ak SA.sp ae (.loop a102l28) (az 4874663954868102531948795 w,H.set r (some [.str s,ag j,ag 0,ag 0]))) (RR s r H m (jq s n (mF mn mx x) j)):=fun mn mx j w hj hl a b w0 w4 w3=>
   ih (mF mn mx x) j w hl (by omega) (zbT hx hm a b) w0 w4 (by rw[w3,zcQ,aH];rfl)
  have hc:=xR (ae:=ae) hR;have fno:∀c:UInt8,¬s[i]?=some c->(dV s i==(c.toNat:Int))=false:=fun c h=>(mK c h).1;rw[bu a102l28.eq_1];by_cases k42:s[i]?=some 42
  ·rw[show dV s i=42 from jJ k42]at hc;have aB:=lT k42;unfold jq;rw[k42];simp only[fD];simp[au,vO,vD,ve,u7,u6,uZ,uY,uX,uW,vN,vM,vL,vK,vJ,vI,vH,vG,vF,vE,vC,vB,vz,vw,vv,vo,vk,vg,v0,v3,v4,gZ,hc,hiw,hb,hr,dB,eY];refine step 0 (-1) (i+1) _ (by omega) aB (by omega) (by omega) ?_ ?_ ?_
   ·simp[v0]
   ·simp[v4]
   ·simp
  have f42:(dV s i==42)=false:=fno 42 k42;by_cases k43:s[i]?=some 43
  ·rw[show dV s i=43 from jJ k43]at hc;have aB:=lT k43;unfold jq;rw[k43];simp only[show ¬((43:UInt8)=42) by decide,fD,ig];simp[au,vO,vD,ve,u7,u6,uZ,uY,uX,uW,vN,vM,vL,vK,vJ,vI,vH,vG,vF,vE,vC,vB,vz,vw,vv,vo,vk,vg,v0,v3,v4,gZ,hc,hiw,hb,hr,dB,eY];refine step 1 (-1) (i+1) _ (by omega) aB (by omega) (by omega) ?_ ?_ ?_
   ·simp[v0]
   ·simp[v4]
   ·simp
  have f43:(dV s i==43)=false:=fno 43 k43;by_cases k63:s[i]?=some 63
  ·rw[show dV s i=63 from jJ k63]at hc;have aB:=lT k63;unfold jq;rw[k63];simp only[show ¬((63:UInt8)=42) by decide,show ¬((63:UInt8)=43) by decide,fD,ig];simp[au,vO,vD,ve,u7,u6,uZ,uY,uX,uW,vN,vM,vL,vK,vJ,vI,vH,vG,vF,vE,vC,vB,vz,vw,vv,vo,vk,vg,v0,v3,v4,gZ,hc,hiw,hb,hr,dB,eY];refine step 0 1 (i+1) _ (by omega) aB (by omega) (by omega) ?_ ?_ ?_
   ·simp[v0]
   ·simp[v4]
   ·simp
  have f63:(dV s i==63)=false:=fno 63 k63;by_cases rM:s[i]?=some 123
  ·rw[show dV s i=123 from jJ rM]at hc;have aB:=lT rM;have e0:jq s (n+1) x i=match qB s (i+1)with
     |none=>.er i 50
     |some (mn,mx,j)=>jq s n (mF mn mx x) j:=by
    rw[jq,rM];rfl
   have hR1:Rf (H.set r (some [.str s,ag (i+1),ag 0,ag 0])) r s (i+1):=dB _ hr;have hn:=zcK (ae:=ae) hR1 hb (by omega);have hpa:=JD (s:=s) (i+1) (by omega);have dK:=fun mn mx j=>VK (s:=s) (i:=i+1) (by omega) (mn:=mn) (mx:=mx) (j:=j);have eT:=zjF s (i+1);generalize gD s (i+1)=a at hn hpa eT;obtain⟨j,hj⟩:∃j,j=i+1+a.2:=⟨_,rfl⟩
   rw[←hj]at hn hpa eT;rw[iP]at hn;replace hn:Rn ak SA.sp ae 111 [.ptr r 0] (H.set r (some [.str s,.int .i64 ((i:Int)+1),ag 0,ag 0]))=some (.ret (.int .i64 (qM a)),H.set r (some [.str s,ag j,ag 0,ag 0])):=hn;have hRj:Rf (H.set r (some [.str s,ag j,ag 0,ag 0])) r s j:=dB _ hr;have hcj:=xR (ae:=ae) hRj;have hbj:=EX (ae:=ae) (a:=i) (w:=50) hRj hb;rw[iP]at hbj;replace hbj:Rn ak SA.sp ae 107 [.ptr r 0,ag i,.int .i64 50] (H.set r (some [.str s,ag j,ag 0,ag 0]))=some (.ret (.tup []),H.set r (some [.str s,ag j,ag i,ag 50])):=hbj;have hRj':=hRj;unfold Rf at hRj';have hjw:IntKind.i64.wrap ((j:Int)+1)=(j:Int)+1:=aM _ (by omega);rw[e0];cases ha:jb a with
   |false=>
    rw[zdq ha]at hn;have eT:qB s (i+1)=none:=by rw[eT];simp[J5,ha]
    rw[eT];simp only;rw[QH];simp[au,vO,vD,ve,u7,u6,uZ,uY,uX,uW,vN,vM,vL,vK,vJ,vI,vH,vG,vF,vE,vC,vB,vz,vw,vv,vo,vk,vg,v0,v3,v4,gZ,hc,hiw,hb,hr,dB,hn,hbj];exact⟨x,hx,_,⟨rfl,j,rfl⟩,by simp[aH]⟩
   |true=>
    rw[Wx ha]at hn;have ha50:=QV ha;have jD:(0:Int)<=(a.1:Int):=by omega
    have hge2:¬(a.1:Int)<0:=by omega
    by_cases c44:s[j]?=some 44
    ·rw[show dV s j=44 from jJ c44]at hcj;have hjl:=lT c44;have hRk:Rf (H.set r (some [.str s,ag (j+1),ag 0,ag 0])) r s (j+1):=dB _ hr;have hck:=xR (ae:=ae) hRk;have hRk':=hRk;unfold Rf at hRk';replace hck:Rn ak SA.sp ae 93 [.ptr r 0] (H.set r (some [.str s,.int .i64 ((j:Int)+1),ag 0,ag 0]))=some (.ret (.int .i64 (dV s (j+1))),H.set r (some [.str s,.int .i64 ((j:Int)+1),ag 0,ag 0])):=hck;replace hRk':eB (H.set r (some [.str s,.int .i64 ((j:Int)+1),ag 0,ag 0])) r=some (some [.str s,.int .i64 ((j:Int)+1),ag 0,ag 0]):=hRk';have hkw:IntKind.i64.wrap ((j:Int)+1+1)=(j:Int)+1+1:=aM _ (by omega);by_cases d125:s[j+1]?=some 125
     ·rw[show dV s (j+1)=125 from jJ d125]at hck;have hj2:=lT d125;have eT:qB s (i+1)=some (a.1, -1,j+2):=by rw[eT];simp[J5,ha,c44,d125]
      have dK:=dK _ _ _ eT;rw[eT];simp only;simp[au,vO,vD,ve,u7,u6,uZ,uY,uX,uW,vN,vM,vL,vK,vJ,vI,vH,vG,vF,vE,vC,vB,vz,vw,vv,vo,vk,vg,v0,v3,v4,gZ,hc,hiw,hb,hr,dB,hn,jD,hge2,hRj',hcj,hjw,hRk',hck,hkw,eY];refine step a.1 (-1) (j+2) _ (by omega) dK.2.1 dK.2.2.1 dK.2.2.2 ?_ ?_ ?_
      ·simp[v0]
      ·simp[v4]
      ·simp
     ·have d125':(dV s (j+1)==125)=false:=(mK 125 d125).1;have iZ:=zcK (ae:=ae) hRk hb (by omega);have hpb:=JD (s:=s) (j+1) (by omega);have eT2:qB s (i+1)=if jb (gD s (j+1))=true∧a.1<=(gD s (j+1)).1∧s[j+1+(gD s (j+1)).2]?=some 125 then some (a.1,((gD s (j+1)).1:Int),j+1+(gD s (j+1)).2+1)else none:=by
       rw[eT];unfold J5;rw[aS ⟨ha,c44⟩,aF d125]
      clear eT;generalize gD s (j+1)=b at iZ hpb eT2;obtain⟨k,hk⟩:∃k,k=j+1+b.2:=⟨_,rfl⟩
      rw[←hk]at iZ hpb eT2;rw[iP]at iZ;replace iZ:Rn ak SA.sp ae 111 [.ptr r 0] (H.set r (some [.str s,.int .i64 ((j:Int)+1),ag 0,ag 0]))=some (.ret (.int .i64 (qM b)),H.set r (some [.str s,ag k,ag 0,ag 0])):=iZ;have hRm:Rf (H.set r (some [.str s,ag k,ag 0,ag 0])) r s k:=dB _ hr;have hcm:=xR (ae:=ae) hRm;have hRm':=hRm;unfold Rf at hRm';have hmw:IntKind.i64.wrap ((k:Int)+1)=(k:Int)+1:=aM _ (by omega);have hbm:=EX (ae:=ae) (a:=i) (w:=50) hRm hb;rw[iP]at hbm;replace hbm:Rn ak SA.sp ae 107 [.ptr r 0,ag i,.int .i64 50] (H.set r (some [.str s,ag k,ag 0,ag 0]))=some (.ret (.tup []),H.set r (some [.str s,ag k,ag i,ag 50])):=hbm;by_cases hbl:jb b=true∧a.1<=b.1
      ·obtain⟨hb1,jG⟩:=hbl;rw[Wx hb1]at iZ;have hlt2:¬(b.1:Int)<(a.1:Int):=by omega
       by_cases e125:s[k]?=some 125
       ·rw[show dV s k=125 from jJ e125]at hcm;have eT:qB s (i+1)=some (a.1,(b.1:Int),k+1):=by rw[eT2,aS ⟨hb1,jG,e125⟩]
        have dK:=dK _ _ _ eT;rw[eT];simp only;simp[au,vO,vD,ve,u7,u6,uZ,uY,uX,uW,vN,vM,vL,vK,vJ,vI,vH,vG,vF,vE,vC,vB,vz,vw,vv,vo,vk,vg,v0,v3,v4,gZ,hc,hiw,hb,hr,dB,hn,jD,hge2,hRj',hcj,hjw,hck,d125',iZ,hlt2,hRm',hcm,hmw,eY];refine step a.1 b.1 (k+1) _ (by omega) dK.2.1 dK.2.2.1 dK.2.2.2 ?_ ?_ ?_
        ·simp[v0]
        ·simp[v4]
        ·simp
       ·have e125':(dV s k != 125)=true:=(mK 125 e125).2;have eT:qB s (i+1)=none:=by rw[eT2,aF (fun h=>e125 h.2.2)]
        rw[eT];simp only;rw[QH];simp[au,vO,vD,ve,u7,u6,uZ,uY,uX,uW,vN,vM,vL,vK,vJ,vI,vH,vG,vF,vE,vC,vB,vz,vw,vv,vo,vk,vg,v0,v3,v4,gZ,hc,hiw,hb,hr,dB,hn,jD,hge2,hRj',hcj,hjw,hck,d125',iZ,hlt2,hRm',hcm,hmw,e125',hbm];exact⟨x,hx,_,⟨rfl,k,rfl⟩,by simp[aH]⟩
      ·have hlt2:qM b<(a.1:Int):=by
        cases hb1:jb b with
        |false=>rw[zdq hb1];omega
        |true=>
         rw[Wx hb1];have:¬a.1<=b.1:=fun h=>hbl ⟨hb1,h⟩;omega
       have eT:qB s (i+1)=none:=by rw[eT2,aF (fun h=>hbl ⟨h.1,h.2.1⟩)]
       rw[eT];simp only;rw[QH];simp[au,vO,vD,ve,u7,u6,uZ,uY,uX,uW,vN,vM,vL,vK,vJ,vI,vH,vG,vF,vE,vC,vB,vz,vw,vv,vo,vk,vg,v0,v3,v4,gZ,hc,hiw,hb,hr,dB,hn,jD,hge2,hRj',hcj,hjw,hck,d125',iZ,hlt2,hRm',hcm,hmw,hbm];exact⟨x,hx,_,⟨rfl,k,rfl⟩,by simp[aH]⟩
    ·have c44':(dV s j==44)=false:=(mK 44 c44).1;by_cases c125:s[j]?=some 125
     ·rw[show dV s j=125 from jJ c125]at hcj;have eT:qB s (i+1)=some (a.1,(a.1:Int),j+1):=by rw[eT];simp[J5,ha,c125]
      have dK:=dK _ _ _ eT;rw[eT];simp only;simp[au,vO,vD,ve,u7,u6,uZ,uY,uX,uW,vN,vM,vL,vK,vJ,vI,vH,vG,vF,vE,vC,vB,vz,vw,vv,vo,vk,vg,v0,v3,v4,gZ,hc,hiw,hb,hr,dB,hn,jD,hge2,hRj',hcj,hjw,eY];refine step a.1 a.1 (j+1) _ (by omega) dK.2.1 dK.2.2.1 dK.2.2.2 ?_ ?_ ?_
      ·simp[v0]
      ·simp[v4]
      ·simp
     ·have c125':(dV s j != 125)=true:=(mK 125 c125).2;have eT:qB s (i+1)=none:=by rw[eT];simp[J5,c44,c125]
      rw[eT];simp only;rw[QH];simp[au,vO,vD,ve,u7,u6,uZ,uY,uX,uW,vN,vM,vL,vK,vJ,vI,vH,vG,vF,vE,vC,vB,vz,vw,vv,vo,vk,vg,v0,v3,v4,gZ,hc,hiw,hb,hr,dB,hn,jD,hge2,hcj,c44',c125',hbj];exact⟨x,hx,_,⟨rfl,j,rfl⟩,by simp[aH]⟩
  have f123:(dV s i==123)=false:=fno 123 rM;have e0:=zcP n x k42 k43 k63 rM;rw[e0,rr_ok];simp[au,vO,vD,ve,u7,u6,uZ,uY,uX,uW,vN,vM,vL,vK,vJ,vI,vH,vG,vF,vE,vC,vB,vz,vw,vv,vo,vk,vg,v0,v3,v4,gZ,hc,f42,f43,f63,f123];refine⟨_,rfl,?_⟩;simp[aH]
end
section
def Lt(s:List UInt8)(r:Nat)(H:aj)(m:Nat)(x:PR Re)(o:Out)(K:aj):Prop:=
 match x with
 | .er a w=> ∃(y:Re)(z:Int),Tree m y∧o=.ret y.av∧K=H.set r (some [.str s,.int .i64 z,ag a,ag w])
 | .ok y j=>o=.ret y.av∧K=H.set r (some [.str s,ag j,ag 0,ag 0])
theorem wy(s:List UInt8)(r:Nat)(H:aj)(m a w:Nat):Lt s r H m (.er a w)=fun o K=> ∃(y:Re)(z:Int),Tree m y∧o=.ret y.av∧K=H.set r (some [.str s,.int .i64 z,ag a,ag w]):=rfl
theorem BI(s:List UInt8)(r:Nat)(H:aj)(m:Nat)(y:Re)(j:Nat):Lt s r H m (.ok y j)=fun o K=>o=.ret y.av∧K=H.set r (some [.str s,ag j,ag 0,ag 0]):=rfl
theorem zkZ{s:List UInt8}(gz:s.length<=400){ae:Nat}{H:aj}{r i m:Nat}{x:Re}(h:Rf H r s i)(hb:ae<=r)(hi:i<=s.length)(hm:1<=m)(hx:Tree m x):
  Wc (Rn ak SA.sp ae 102 [.ptr r 0,x.av] H) (Lt s r H m (jq s (s.length+1) x i)):=by
 have hs:=SA.mono;have dU:=fA h;have kJ:=z8 h;obtain⟨c1,c2,c3,c4,c5,c6,aH⟩:=Re.av_eight hx.wide;refine jl rfl rfl rfl ?_;rw[zeG,aH];simp[iO,zbn,a102];have dw:=zk0 gz (ae:=ae) (H:=H) dU hb hm (s.length+1) x i (st (st (st (st bK 0 (.ptr r 0)) 1 (.agg [.int .i64 x.k,c1,c2,c3,c4,c5,c6,bT (Re.avs x.l)])) 3 (.box [.int .i64 x.k,c1,c2,c3,c4,c5,c6,bT (Re.avs x.l)])) 4 Bu) hi (by omega) hx
  (by simp) (by simp) (by simp[aH])
 rw[kJ]at dw;refine dw.mono fun e t ht=>?_;have dK:=Jz (s:=s) (s.length+1) x i m hi (by omega) hm hx;cases hy:jq s (s.length+1) x i with
 |er a w=>
  rw[hy]at ht;obtain⟨rfl,y,v',z,hyt,rfl,k4⟩:=ht;obtain⟨d1,d2,d3,d4,d5,d6,jU⟩:=Re.av_eight hyt.wide;rw[jU]at k4;simp only[AV.cells]at k4;rw[wy];simp[k4];exact⟨y,hyt,by rw[jU],z,rfl⟩
 |ok y j=>
  rw[hy]at ht dK;obtain⟨rfl,v',rfl,k4⟩:=ht;obtain⟨d1,d2,d3,d4,d5,d6,jU⟩:=Re.av_eight dK.2.2.wide;rw[jU]at k4;simp only[AV.cells]at k4;rw[BI,jU];simp[k4]
theorem zk1{s:List UInt8}{ae:Nat}{H:aj}{r:Nat}{z:Int}{a w:Nat}{x:Re}(h:Bf H r s z a w)(hx:x.wide):
  Rn ak SA.sp ae 102 [.ptr r 0,x.av] H=some (.ret x.av,H):=by
 obtain⟨c1,c2,c3,c4,c5,c6,aH⟩:=Re.av_eight hx;have hc:=QM (ae:=ae) h;have h':=h.1;refine l5.1 (jl rfl rfl rfl ?_);rw[zeG,aH];simp[iO,zbn,a102];rw[bu a102l28.eq_1];simp[au,vO,vD,ve,u7,u6,uZ,uY,uX,uW,vN,vM,vL,vK,vJ,vI,vH,vG,vF,vE,vC,vB,vz,vw,vv,vo,vk,vg,h',hc]
theorem zlD{s:List UInt8}{ae:Nat}{H:aj}{r:Nat}{z:Int}{a w:Nat}{b u:Int}(h:Bf H r s z a w)(hb:ae<=r):Rn ak SA.sp ae 107 [.ptr r 0,.int .i64 b,.int .i64 u] H=some (.ret (.tup []),H):=by
 obtain⟨h,hw⟩:=h;have bY:((w:Int)==0)=false:=by simp;omega
 refine l5.1 (jl rfl rfl rfl ?_);rw[zeE];simp[Ez,a107,zbd,zbc,h,hw,bY]
def P6(s:List UInt8)(n:Nat):Prop:=∀(ae:Nat)(H:aj)(r i ay:Nat),Rf H r s i->ae<=r->i<=s.length->3*(s.length+1-i)<=n->n<=1300->ay<=20->
 Wc (Rn ak SA.sp ae 69 [.ptr r 0,ag ay] H) (Lt s r H (500*(n+1)) (EY s n i ay))
set_option maxHeartbeats 1000000 in
theorem zlE{s:List UInt8}{n:Nat}(gz:s.length<=400)(hC:P6 s n){ae:Nat}{H:aj}{r i ay:Nat}(h:Rf H r s i)(hb:ae<=r)(hi:i<s.length)(hf:3*(s.length+1-i)<=n+3)(hn:n<=1300)(hd:ay<=20):
  Wc (Rn ak SA.sp ae 101 [.ptr r 0,ag ay] H) (Lt s r H (500*(n+1)) (uE s (n+1) i ay)):=by
 have hs:=SA.mono;have dU:=fA h;obtain⟨c,hc⟩:∃c,s[i]?=some c:=⟨s[i],gG hi⟩
 have hp:=xR (ae:=ae) h;rw[jJ hc]at hp;have hte:Tree (500*(n+1)) emptyRe:=zbU _ (by omega);have hz:emptyRe.av=.agg [.int .i64 0,.int .u64 0,.int .u64 0,.int .u64 0,.int .u64 0,.int .i64 0,.int .i64 0,.nils]:=rfl;have f50:Rn ak SA.sp ae 107 [.ptr r 0,ag i,.int .i64 50] H=_:=EX (ae:=ae) (a:=i) (w:=50) h hb;have f4:Rn ak SA.sp ae 107 [.ptr r 0,ag i,.int .i64 4] H=_:=EX (ae:=ae) (a:=i) (w:=4) h hb;have hw:IntKind.i64.wrap ((i:Int)+1)=(i:Int)+1:=aM _ (by omega);have bY:IntKind.i64.wrap ((i:Int)+1+1)=(i:Int)+1+1:=aM _ (by omega);have jB:ag (i+1)=.int .i64 ((i:Int)+1):=rfl;have h':=h;unfold Rf at h';have kJ:=z8 h;refine jl rfl rfl rfl ?_;rw[zp1];unfold uE;rw[hc];simp only;by_cases c42:c=42
 ·subst c42;rw[aS (by simp),wy];simp[bR,lV,jy,jI,nC,nD,nA,nz,ny,nu,nk,ni,a101,h',hp,f50,dU];exact⟨emptyRe,hte,hz.symm,i,rfl⟩
 by_cases c43:c=43
 ·subst c43;rw[aS (by simp),wy];simp[bR,lV,jy,jI,nC,nD,nA,nz,ny,nu,nk,ni,nW,nV,o8,o7,o6,oZ,oW,oV,oU,oQ,oP,oO,oN,oM,oL,oK,oJ,oI,oH,oG,oF,oD,oC,oz,ou,oq,oo,om,ol,oh,og,nZ,nY,nX,a101,h',hp,dU,hb,hw,dB,f50];exact⟨emptyRe,hte,hz.symm,i,rfl⟩
 by_cases c63:c=63
 ·subst c63;rw[aS (by simp),wy];simp[bR,lV,jy,jI,nC,nD,nA,nz,ny,nu,nk,ni,nW,nV,o8,o7,o6,oZ,oW,oV,oU,oQ,oP,oO,oN,oM,oL,oK,oJ,oI,oH,oG,oF,oD,oC,oz,ou,oq,oo,om,ol,oh,og,nZ,nY,nX,a101,h',hp,dU,hb,hw,dB,f50];exact⟨emptyRe,hte,hz.symm,i,rfl⟩
 by_cases c123:c=123
 ·subst c123;rw[aS (by simp),wy];simp[bR,lV,jy,jI,nC,nD,nA,nz,ny,nu,nk,ni,nW,nV,o8,o7,o6,oZ,oW,oV,oU,oQ,oP,oO,oN,oM,oL,oK,oJ,oI,oH,oG,oF,oD,oC,oz,ou,oq,oo,om,ol,oh,og,nZ,nY,nX,a101,h',hp,dU,hb,hw,dB,f50];exact⟨emptyRe,hte,hz.symm,i,rfl⟩
 rw[aF (by simp[c42,c43,c63,c123])];have n42:((c.toNat:Int)==42)=false:=ko 42 c42;have n43:((c.toNat:Int)==43)=false:=ko 43 c43;have n63:((c.toNat:Int)==63)=false:=ko 63 c63;have n123:((c.toNat:Int)==123)=false:=ko 123 c123;by_cases c41:c=41
 ·subst c41;rw[aS rfl,wy];simp[bR,lV,jy,jI,nC,nD,nA,nz,ny,nu,nk,ni,nW,nV,o8,o7,o6,oZ,oW,oV,oU,oQ,oP,oO,oN,oM,oL,oK,oJ,oI,oH,oG,oF,oD,oC,oz,ou,oq,oo,om,ol,oh,og,nZ,nY,nX,a101,h',hp,dU,hb,hw,dB,f4];exact⟨emptyRe,hte,hz.symm,i,rfl⟩
 rw[aF c41];have n41:((c.toNat:Int)==41)=false:=ko 41 c41;by_cases c91:c=91
 ·subst c91;rw[aS rfl];have gL:=zlo (ae:=ae) (H:=H) (s:=s) (i:=i) (by omega) hc;have dK:=XD (s:=s) hi;cases hx:Cv s i with
  |er a w=>
   rw[hx]at gL dK;simp only[uC]at gL;have hz1:gN aO=.agg [u64 0,u64 0,u64 0,u64 0]:=rfl;rw[hz1]at gL;simp only;rw[wy];have fw:=EX (ae:=ae) (a:=i) (w:=w) h hb;have cK:(H.set r (some [.str s,ag i,ag i,ag w])).set r (some [.str s,ag 0,ag i,ag w])=H.set r (some [.str s,ag 0,ag i,ag w]):=iP ..;have hts:Tree (500*(n+1)) (sD aO):=L6 _ (by omega);have hzs:(sD aO).av=.agg [.int .i64 1,.int .u64 0,.int .u64 0,.int .u64 0,.int .u64 0,.int .i64 0,.int .i64 0,.nils]:=rfl;rcases dK with rfl|rfl|rfl;all_goals
    simp only[Jh,ag]at fw gL cK;simp[bR,lV,jy,jI,nC,nD,nA,nz,ny,nu,nk,ni,nW,nV,o8,o7,o6,oZ,oW,oV,oU,oQ,oP,oO,oN,oM,oL,oK,oJ,oI,oH,oG,oF,oD,oC,oz,ou,oq,oo,om,ol,oh,og,nZ,nY,nX,a101,h',hp,dU,hb,hw,dB,gL,fw,cK,mf];exact⟨sD aO,hts,hzs.symm,0,rfl⟩
  |ok p j=>
   rw[hx]at gL dK;simp only[uC,pz]at gL;simp only;rw[BI,wh];simp[bR,lV,jy,jI,nC,nD,nA,nz,ny,nu,nk,ni,nW,nV,o8,o7,o6,oZ,oW,oV,oU,oQ,oP,oO,oN,oM,oL,oK,oJ,oI,oH,oG,oF,oD,oC,oz,ou,oq,oo,om,ol,oh,og,nZ,nY,nX,a101,h',hp,dU,hb,hw,dB,gL,mf]
 rw[aF c91];have n91:((c.toNat:Int)==91)=false:=ko 91 c91;have hR:=h.set (i+1);have gZ:=hR;unfold Rf at gZ;rw[jB]at gZ;by_cases c40:c=40
 ·subst c40;rw[aS rfl];by_cases h20:20<=ay
  ·have h20':(20:Int)<=(ay:Int):=by omega
   rw[aS h20,wy];have f2:=EX (ae:=ae) (a:=i) (w:=2) hR hb;rw[iP]at f2;replace f2:Rn ak SA.sp ae 107 [.ptr r 0,ag i,.int .i64 2] (H.set r (some [.str s,.int .i64 ((i:Int)+1),ag 0,ag 0]))=some (.ret (.tup []),H.set r (some [.str s,.int .i64 ((i:Int)+1),ag i,ag 2])):=f2;simp[bR,lV,jy,jI,nC,nD,nA,nz,ny,nu,nk,ni,nW,nV,o8,o7,o6,oZ,oW,oV,oU,oQ,oP,oO,oN,oM,oL,oK,oJ,oI,oH,oG,oF,oD,oC,oz,ou,oq,oo,om,ol,oh,og,nZ,nY,nX,a101,h',hp,dU,hb,hw,dB,f2,h20'];exact⟨emptyRe,hte,hz.symm,i+1,rfl⟩
  ·have h20':¬(20:Int)<=(ay:Int):=by omega
   have hwd:IntKind.i64.wrap ((ay:Int)+1)=(ay:Int)+1:=aM _ (by omega);rw[aF h20];obtain⟨o,K,q1,q2⟩:=hC ae _ r (i+1) (ay+1) hR hb (by omega) (by omega) hn (by omega);have hdn:ag (ay+1)=.int .i64 ((ay:Int)+1):=rfl;rw[jB,hdn]at q1;unfold EY at q2;have hplc:=(sH (s:=s) gz n).1 (i+1) (ay+1) (by omega) (by omega);cases hx:sV s n (i+1) (ay+1)with
   |er a w=>
    rw[hx]at q2 hplc;obtain⟨y,z,hyt,rfl,rfl⟩:=q2;have hw0:w≠0:=by rcases hplc with⟨_,h|h|h|h|h⟩<;>omega
    simp only[iP]at q1;obtain⟨d1,d2,d3,d4,d5,d6,jU⟩:=Re.av_eight hyt.wide;rw[jU]at q1;have hB:Bf (H.set r (some [.str s,.int .i64 z,ag a,ag w])) r s z a w:=⟨dB _ dU,hw0⟩
    have hcb:=QM (ae:=ae) hB;have hbb:∀b:Nat,Rn ak SA.sp ae 107 [.ptr r 0,.int .i64 z,.int .i64 3] (H.set r (some [.str s,.int .i64 z,ag a,ag w]))=some (.ret (.tup []),H.set r (some [.str s,.int .i64 z,ag a,ag w])):=fun _=>zlD hB hb;have hB':=hB.1;simp only;rw[wy];simp[bR,lV,jy,jI,nC,nD,nA,nz,ny,nu,nk,ni,nW,nV,o8,o7,o6,oZ,oW,oV,oU,oQ,oP,oO,oN,oM,oL,oK,oJ,oI,oH,oG,oF,oD,oC,oz,ou,oq,oo,om,ol,oh,og,nZ,nY,nX,a101,h',hp,dU,hb,hw,dB,h20',hwd,q1,hcb,hbb 0,hB'];exact⟨y,hyt,by rw[jU],_,rfl⟩
   |ok ls j=>
    rw[hx]at q2 hplc;obtain⟨rfl,rfl⟩:=q2;obtain⟨b1,b2,b3,b4,b5,_⟩:=hplc;simp only[iP]at q1;have htree:Tree (j-(i+1)+1) (eX 5 ls):=su (.inr rfl) b3 b4 (by omega) (by omega);obtain⟨c1,c2,c3,c4,c5,c6,aH⟩:=Re.av_eight htree.wide;rw[aH]at q1;have hR2:=h.set j;have hR2':=hR2;unfold Rf at hR2';have hc2:=xR (ae:=ae) hR2;have hjw:IntKind.i64.wrap ((j:Int)+1)=(j:Int)+1:=aM _ (by omega);simp only;by_cases bM:s[j]?=some 41
    ·rw[show dV s j=41 from jJ bM]at hc2;rw[aS bM,BI,aH];simp[bR,lV,jy,jI,nC,nD,nA,nz,ny,nu,nk,ni,nW,nV,o8,o7,o6,oZ,oW,oV,oU,oQ,oP,oO,oN,oM,oL,oK,oJ,oI,oH,oG,oF,oD,oC,oz,ou,oq,oo,om,ol,oh,og,nZ,nY,nX,a101,h',hp,dU,hb,hw,dB,h20',hwd,q1,hc2,hR2',hjw];rfl
    ·have n41j:(dV s j != 41)=true:=(mK 41 bM).2;have fj:=EX (ae:=ae) (a:=j) (w:=3) hR2 hb;rw[iP]at fj;replace fj:Rn ak SA.sp ae 107 [.ptr r 0,ag j,.int .i64 3] (H.set r (some [.str s,ag j,ag 0,ag 0]))=some (.ret (.tup []),H.set r (some [.str s,ag j,ag j,ag 3])):=fj;have hB3:eB (H.set r (some [.str s,ag j,ag j,ag 3])) r=some (some [.str s,ag j,ag j,ag 3]):=dB _ dU;rw[aF bM,wy];simp[bR,lV,jy,jI,nC,nD,nA,nz,ny,nu,nk,ni,nW,nV,o8,o7,o6,oZ,oW,oV,oU,oQ,oP,oO,oN,oM,oL,oK,oJ,oI,oH,oG,oF,oD,oC,oz,ou,oq,oo,om,ol,oh,og,nZ,nY,nX,a101,h',hp,dU,hb,hw,dB,h20',hwd,q1,hc2,hR2',n41j,fj,hjw];exact⟨eX 5 ls,htree.mono (by omega),by rw[aH],_,rfl⟩
 rw[aF c40];have n40:((c.toNat:Int)==40)=false:=ko 40 c40;have hsmall:=c.toNat_lt;by_cases c46:c=46
 ·subst c46;have jg:=zrs (ae:=ae) (H:=H.set r (some [.str s,.int .i64 ((i:Int)+1),ag 0,ag 0]));rw[pz (qa aO)]at jg;rw[aS rfl,BI,wh];simp[bR,lV,jy,jI,nC,nD,nA,nz,ny,nu,nk,ni,nW,nV,o8,o7,o6,oZ,oW,oV,oU,oQ,oP,oO,oN,oM,oL,oK,oJ,oI,oH,oG,oF,oD,oC,oz,ou,oq,oo,om,ol,oh,og,nZ,nY,nX,a101,h',hp,dU,hb,hw,dB,jg,mf];rfl
 rw[aF c46];have n46:((c.toNat:Int)==46)=false:=ko 46 c46;by_cases c94:c=94
 ·subst c94;rw[aS rfl,BI,Q6];simp[bR,lV,jy,jI,nC,nD,nA,nz,ny,nu,nk,ni,nW,nV,o8,o7,o6,oZ,oW,oV,oU,oQ,oP,oO,oN,oM,oL,oK,oJ,oI,oH,oG,oF,oD,oC,oz,ou,oq,oo,om,ol,oh,og,nZ,nY,nX,a101,h',hp,dU,hb,hw,dB,mf];rfl
 rw[aF c94];have n94:((c.toNat:Int)==94)=false:=ko 94 c94;by_cases c36:c=36
 ·subst c36;rw[aS rfl,BI,Q6];simp[bR,lV,jy,jI,nC,nD,nA,nz,ny,nu,nk,ni,nW,nV,o8,o7,o6,oZ,oW,oV,oU,oQ,oP,oO,oN,oM,oL,oK,oJ,oI,oH,oG,oF,oD,oC,oz,ou,oq,oo,om,ol,oh,og,nZ,nY,nX,a101,h',hp,dU,hb,hw,dB,mf];rfl
 rw[aF c36];have n36:((c.toNat:Int)==36)=false:=ko 36 c36;by_cases c92:c=92
 ·subst c92;rw[aS rfl];have jV:=xR (ae:=ae) hR;rw[jB]at jV;cases hx:s[i+1]? with
  |none=>
   rw[Nn hx]at jV;have f3:=EX (ae:=ae) (a:=i+1) (w:=3) hR hb;rw[iP]at f3;replace f3:Rn ak SA.sp ae 107 [.ptr r 0,.int .i64 ((i:Int)+1),.int .i64 3] (H.set r (some [.str s,.int .i64 ((i:Int)+1),ag 0,ag 0]))=some (.ret (.tup []),H.set r (some [.str s,.int .i64 ((i:Int)+1),.int .i64 ((i:Int)+1),ag 3])):=f3;simp only;rw[wy];simp[bR,lV,jy,jI,nC,nD,nA,nz,ny,nu,nk,ni,nW,nV,o8,o7,o6,oZ,oW,oV,oU,oQ,oP,oO,oN,oM,oL,oK,oJ,oI,oH,oG,oF,oD,oC,oz,ou,oq,oo,om,ol,oh,og,nZ,nY,nX,a101,h',hp,dU,hb,hw,dB,jV,gZ,f3];exact⟨emptyRe,hte,hz.symm,_,rfl⟩
  |some d=>
   rw[jJ hx]at jV;have d0:¬(d.toNat:Int)<0:=by omega
   have fJ:=zdo (ae:=ae) (H:=H.set r (some [.str s,.int .i64 ((i:Int)+1+1),ag 0,ag 0])) (qC d);rw[wh]at fJ;simp only;rw[BI,wh];by_cases d110:d=110
   ·subst d110;replace fJ:Rn ak SA.sp ae 109 [.int .i64 10] _=_:=fJ;simp[bR,lV,jy,jI,nC,nD,nA,nz,ny,nu,nk,ni,nW,nV,o8,o7,o6,oZ,oW,oV,oU,oQ,oP,oO,oN,oM,oL,oK,oJ,oI,oH,oG,oF,oD,oC,oz,ou,oq,oo,om,ol,oh,og,nZ,nY,nX,a101,h',hp,dU,hb,hw,dB,jV,gZ,bY,fJ];rfl
   ·have e110:((d.toNat:Int)==110)=false:=ko 110 d110;by_cases d116:d=116
    ·subst d116;replace fJ:Rn ak SA.sp ae 109 [.int .i64 9] _=_:=fJ;simp[bR,lV,jy,jI,nC,nD,nA,nz,ny,nu,nk,ni,nW,nV,o8,o7,o6,oZ,oW,oV,oU,oQ,oP,oO,oN,oM,oL,oK,oJ,oI,oH,oG,oF,oD,oC,oz,ou,oq,oo,om,ol,oh,og,nZ,nY,nX,a101,h',hp,dU,hb,hw,dB,jV,gZ,bY,fJ];rfl
    ·have e116:((d.toNat:Int)==116)=false:=ko 116 d116;have es:qC d=d:=by simp[qC,d110,d116]
     rw[es]at fJ ⊢;simp[bR,lV,jy,jI,nC,nD,nA,nz,ny,nu,nk,ni,nW,nV,o8,o7,o6,oZ,oW,oV,oU,oQ,oP,oO,oN,oM,oL,oK,oJ,oI,oH,oG,oF,oD,oC,oz,ou,oq,oo,om,ol,oh,og,nZ,nY,nX,a101,h',hp,dU,hb,hw,dB,jV,gZ,bY,fJ,d0,e110,e116];rfl
 rw[aF c92];have n92:((c.toNat:Int)==92)=false:=ko 92 c92;have fJ:=zdo (ae:=ae) (H:=H.set r (some [.str s,.int .i64 ((i:Int)+1),ag 0,ag 0])) c;rw[wh]at fJ;rw[BI,wh];simp[bR,lV,jy,jI,nC,nD,nA,nz,ny,nu,nk,ni,nW,nV,o8,o7,o6,oZ,oW,oV,oU,oQ,oP,oO,oN,oM,oL,oK,oJ,oI,oH,oG,oF,oD,oC,oz,ou,oq,oo,om,ol,oh,og,nZ,nY,nX,a101,h',hp,dU,hb,hw,dB,n42,n43,n63,n123,n41,n91,n40,n46,n94,n36,n92,fJ];rfl
end
section
def Rough(k:Int)(m:Nat)(aW:List Re):Prop:=(∀x∈aW,Tree m x)∧(dS k aW).length<=m∧aW.length<=1000
theorem Rough.wide{k:Int}{m:Nat}{aW:List Re}(h:Rough k m aW):Re.wideL aW:=kz.2 fun x hx=>(h.1 x hx).wide
theorem Rough.joined{k:Int}{m:Nat}{aW:List Re}(h:Rough k m aW)(hm:m<=900000)(ae:Nat)(H:aj)(a:AV)(ha:EW a aW):Rn ak SA.sp ae 3 [.int .i64 k,a] H=some (.ret (eX k aW).av,H):=
 zsf ha h.wide (by have:=h.2.1;have:=h.2.2;omega) H
theorem Rough.tree{k:Int}{m:Nat}{aW:List Re}(h:Rough k m aW)(hk:k=4∨k=5)(hm:m<=900000)(h1:1<=m):Tree m (eX k aW):=su hk h.1 h.2.1 (by omega) h1
theorem Parts.rough{k:Int}{m n:Nat}{aW:List Re}(h:Parts k m aW)(hm:m<=1000)(hn:1000<=n):Rough k n aW:=⟨fun x hx=>(h.1 x hx).mono hn,by have:=h.2.1;omega,by have:=h.2.2;omega⟩
theorem Parts.snocR{k:Int}{m n M:Nat}{aW:List Re}{y:Re}(h:Parts k m aW)(hy:Tree n y)(hM:m+n<=M)(h1:1<=n)(hM2:1000<=M)(hm:m<1000):Rough k M (aW ++[y]):=by
 obtain⟨a1,a2,a3⟩:=h;refine⟨fun x hx=>?_,?_,?_⟩
 ·rcases qy.1 hx with h|h
  ·exact(a1 x h).mono hM2
  ·simp only[xE]at h;subst h;exact hy.mono (by omega)
 ·rw[JJ,iF];have:=hy.part k;simp only[dS,lq,List.flatMap_nil,ry]at this ⊢;simp only[dS]at a2;omega
 ·simp only[iF,fF,gW];omega
def BO(s:List UInt8)(r:Nat)(H:aj)(M:Nat)(aW:List Re)(v:Nat->AV)(x:PR (List Re))(e:AExit)(t:EH):Prop:=
 match x with
 | .er a w=>e=.exit 0∧∃(l:List Re)(v':Nat->AV)(z:Int),Rough 4 M l∧t=(az 33554547 v',H.set r (some [.str s,.int .i64 z,ag a,ag w]))∧v' 4=v 4∧v' 5=.slc .own (Re.avs l)
 | .ok l j=>e=.exit 0∧∃v',t=(az 33554547 v',H.set r (some [.str s,ag j,ag 0,ag 0]))∧v' 4=v 4∧v' 5=.slc .own (Re.avs (aW++l))∧Parts 4 j (aW++l)∧j<=s.length
theorem bO_er(s:List UInt8)(r:Nat)(H:aj)(M:Nat)(aW:List Re)(v:Nat->AV)(a w:Nat):BO s r H M aW v (.er a w)=fun e t=>e=.exit 0∧∃(l:List Re)(v':Nat->AV)(z:Int),Rough 4 M l∧t=(az 33554547 v',H.set r (some [.str s,.int .i64 z,ag a,ag w]))∧v' 4=v 4∧v' 5=.slc .own (Re.avs l):=rfl
theorem XT(s:List UInt8)(r:Nat)(H:aj)(M:Nat)(aW:List Re)(v:Nat->AV)(l:List Re)(j:Nat):BO s r H M aW v (.ok l j)=fun e t=>e=.exit 0∧∃v',t=(az 33554547 v',H.set r (some [.str s,ag j,ag 0,ag 0]))∧v' 4=v 4∧v' 5=.slc .own (Re.avs (aW++l))∧Parts 4 j (aW++l)∧j<=s.length:=rfl
theorem BO.of_eq{s:List UInt8}{r:Nat}{H:aj}{M:Nat}{aW:List Re}{v w:Nat->AV}{x:PR (List Re)}{e:AExit}{t:EH}(h:BO s r H M aW v x e t)(h4:v 4=w 4):BO s r H M aW w x e t:=by
 cases x with
 |er a b=>obtain⟨h1,l,v',z,h2,h3,k4,k5⟩:=h;exact⟨h1,l,v',z,h2,h3,k4.trans h4,k5⟩
 |ok l j=>obtain⟨h1,v',h2,k4,k5⟩:=h;exact⟨h1,v',h2,k4.trans h4,k5⟩
theorem zlB{s:List UInt8}{ae:Nat}{H:aj}{r a w:Nat}{z:Int}(hr:r<H.length)(hw:w≠0)(v:Nat->AV)(v0:v 0=.ptr r 0){l:List Re}(v5:v 5=.slc .own (Re.avs l)){M:Nat}(hl:Rough 4 M l){aW:List Re}{u:Nat->AV}(h4:v 4=u 4):
  Wp (aP ak SA.sp ae (.loop a92l6) (az 33554547 v,H.set r (some [.str s,.int .i64 z,ag a,ag w]))) (BO s r H M aW u (.er a w)):=by
 have hB:Bf (H.set r (some [.str s,.int .i64 z,ag a,ag w])) r s z a w:=⟨dB _ hr,hw⟩
 have hcb:=QM (ae:=ae) hB;rw[bu a92l6.eq_1,bO_er];simp[au,Fy,v0,hcb];exact⟨l,hl,_,⟨rfl,z,rfl⟩,by simp[h4],by simp[v5]⟩
set_option maxHeartbeats 1000000 in
theorem zlA{s:List UInt8}(gz:s.length<=400){N:Nat}(hN:N<=1300)(hC:∀m,m<N->P6 s m){ae:Nat}{H:aj}{r ay:Nat}(hr:r<H.length)(hb:ae<=r)(hd:ay<=20):
  ∀(n i:Nat)(aW:List Re)(v:Nat->AV),n<=N->i<=s.length->3*(s.length+1-i)<=n+1->Parts 4 i aW->v 0=.ptr r 0->v 1=ag ay->v 5=.slc .own (Re.avs aW)->
   Wp (aP ak SA.sp ae (.loop a92l6) (az 33554547 v,H.set r (some [.str s,ag i,ag 0,ag 0]))) (BO s r H (500*N+500) aW v (lY s n i ay)):=by
 have hs:=SA.mono;intro n;induction n with
 |zero=>intro i aW v hN h1 h2;omega
 |succ n ih=>
  intro i aW v hN' h1 h2 kK v0 v1 v5;have hR:Rf (H.set r (some [.str s,ag i,ag 0,ag 0])) r s i:=dB _ hr;have hp:=xR (ae:=ae) hR;have bF:=wD kK.rowWide;rw[bu a92l6.eq_1];have stop:stops s i ay=true->lY s (n+1) i ay=.ok [] i:=fun h=>by
   unfold lY;rw[aS h]
  have dl0:ay=0∨0<ay:=Je _;cases hc:s[i]? with
  |none=>
   rw[Nn hc]at hp;rw[stop (by simp[stops,hc]),XT];simp[au,Fy,v0,v1,hp];exact⟨_,rfl,by simp,by simp[v5],by simpa using kK,h1⟩
  |some c=>
   rw[jJ hc]at hp;have aB:=lT hc;have c0:(0:Int)<=(c.toNat:Int):=by omega
   by_cases c124:c=124
   ·subst c124;rw[stop (by simp[stops,hc]),XT];simp[au,Fy,v0,v1,hp];exact⟨_,rfl,by simp,by simp[v5],by simpa using kK,h1⟩
   have n124:((c.toNat:Int) != 124)=true:=by rw[bne,show((c.toNat:Int)==124)=false from ko 124 c124];rfl
   by_cases c41:c=41∧0<ay
   ·obtain⟨rfl,hdp⟩:=c41;have hdp':(0:Int)<(ay:Int):=by omega
    rw[stop (by simp[stops,hc,hdp]),XT];simp[au,Fy,v0,v1,hp,hdp,hdp'];exact⟨_,rfl,by simp,by simp[v5],by simpa using kK,h1⟩
   have eH:stops s i ay=false:=by
    simp only[stops,hc];by_cases e:c=41
    ·have:¬0<ay:=fun h=>c41 ⟨e,h⟩;simp[c124,this]
    ·simp[c124,e]
   obtain⟨k,rfl⟩:∃k,n=k+1:=⟨n-1,by omega⟩
   have e0:lY s (k+1+1) i ay=match uE s (k+1) i ay with
     | .er a w=>.er a w
     | .ok x j=>match jq s (s.length+1) x j with
      | .er a w=>.er a w
      | .ok y m=>match lY s (k+1) m ay with
       | .er a w=>.er a w
       | .ok ys z=>.ok (y::ys) z:=by
    rw[lY,eH];rfl
   rw[e0]
   -- the round's test
   have test:∀(X:ACode)(Q:AExit->EH->Prop),Wp (aP ak SA.sp ae X (az 33554547 (st (st v 25 (.bool true)) 25 .undef),H.set r (some [.str s,ag i,ag 0,ag 0]))) Q->
     Wp (aP ak SA.sp ae (.seq (.seq (.region Fy) (.cond true (.v 25) .skip (.exit 0))) X) (az 33554547 v,H.set r (some [.str s,ag i,ag 0,ag 0]))) Q:=fun X Q h=>by
    by_cases e:c=41
    ·have hd0:¬0<ay:=fun h=>c41 ⟨e,h⟩;subst e;have hd1:¬(0:Int)<(ay:Int):=by omega
     simp[au,Fy,v0,v1,hp,hd0,hd1];exact h
    ·have n41:((c.toNat:Int)==41)=false:=ko 41 e;simp[au,Fy,v0,v1,hp,c0,n124,n41];exact h
   refine test _ _ ?_;have k0:(st (st v 25 (.bool true)) 25 .undef) 0=.ptr r 0:=by simp[v0]
   have k1:(st (st v 25 (.bool true)) 25 .undef) 1=ag ay:=by simp[v1]
   have k5:(st (st v 25 (.bool true)) 25 .undef) 5=.slc .own (Re.avs aW):=by simp[v5]
   have k4:(st (st v 25 (.bool true)) 25 .undef) 4=v 4:=by simp
   generalize st (st v 25 (.bool true)) 25 .undef=u at k0 k1 k4 k5 ⊢;clear test;obtain⟨o,K,q1,q2⟩:=zlE (ae:=ae) gz (hC k (by omega)) hR hb aB (by omega) (by omega) hd;have dK:=(sH (s:=s) gz (k+1)).2.2 i ay aB (by omega);have hacc1:=kK.2.2;have cu:(aW.length+1)*8<=4294967296:=by omega
   -- behind an error
   have gone:∀(y:Re)(z:Int)(a w:Nat)(x:Nat->AV),w≠0->Tree (500*(k+1)) y->x 0=.ptr r 0->x 4=v 4->x 5=.slc .own (Re.avs (aW ++[y]))->
     Wp (aP ak SA.sp ae (.loop a92l6) (az 33554547 x,H.set r (some [.str s,.int .i64 z,ag a,ag w]))) (BO s r H (500*N+500) aW v (.er a w)):=fun y z a w x hw hy x0 x4 x5=>
    zlB hr hw x x0 x5 (kK.snocR hy (by omega) (by omega) (by omega) (by omega)) x4
   cases hx:uE s (k+1) i ay with
   |er a w=>
    rw[hx]at q2 dK;obtain⟨y,z,hy,rfl,rfl⟩:=q2;have hw0:w≠0:=by rcases dK with⟨_,h|h|h|h|h⟩<;>omega
    simp only[iP]at q1;obtain⟨d1,d2,d3,d4,d5,d6,jU⟩:=Re.av_eight hy.wide;have hB:Bf (H.set r (some [.str s,.int .i64 z,ag a,ag w])) r s z a w:=⟨dB _ hr,hw0⟩
    have hrb:=zk1 (ae:=ae) hB hy.wide;have hav:Re.avs (aW ++[y])=Re.avs aW ++[.agg [.int .i64 y.k,d1,d2,d3,d4,d5,d6,bT (Re.avs y.l)]]:=by
     rw[←ym];simp[Re.avs,jU]
    rw[jU]at q1 hrb;simp only;simp[au,RU,RQ,RP,k0,k1,k5,q1,hrb,eY,bF,ed,cu];refine gone y z a w _ hw0 hy ?_ ?_ ?_
    ·simp[k0]
    ·simp[k4]
    ·simp[hav]
   |ok x j=>
    rw[hx]at q2 dK;obtain⟨rfl,rfl⟩:=q2;obtain⟨p1,p2,p3⟩:=dK;simp only[iP]at q1;obtain⟨d1,d2,d3,d4,d5,d6,jU⟩:=Re.av_eight p3.wide;have hRj:Rf (H.set r (some [.str s,ag j,ag 0,ag 0])) r s j:=dB _ hr;obtain⟨o2,K2,w1,w2⟩:=zkZ (ae:=ae) gz hRj hb p2 (by omega) p3;have hpl2:=Jz (s:=s) (s.length+1) x j (j-i) p2 (by omega) (by omega) p3;rw[jU]at q1 w1;simp only;cases hy:jq s (s.length+1) x j with
    |er a w=>
     rw[hy]at w2 hpl2;obtain⟨y,z,hyt,rfl,rfl⟩:=w2;have hw0:w≠0:=by rcases hpl2 with⟨_,h|h|h|h|h⟩<;>omega
     simp only[iP]at w1;obtain⟨e1,e2,e3,e4,e5,e6,dz⟩:=Re.av_eight hyt.wide;have hav:Re.avs (aW ++[y])=Re.avs aW ++[.agg [.int .i64 y.k,e1,e2,e3,e4,e5,e6,bT (Re.avs y.l)]]:=by
      rw[←ym];simp[Re.avs,dz]
     rw[dz]at w1;simp only;simp[au,RU,RQ,RP,k0,k1,k5,q1,w1,eY,bF,ed,cu];refine gone y z a w _ hw0 (hyt.mono (by omega)) ?_ ?_ ?_
     ·simp[k0]
     ·simp[k4]
     ·simp[hav]
    |ok y m=>
     rw[hy]at w2 hpl2;obtain⟨rfl,rfl⟩:=w2;obtain⟨g1,g2,g3⟩:=hpl2;simp only[iP]at w1;obtain⟨e1,e2,e3,e4,e5,e6,dz⟩:=Re.av_eight g3.wide;have hav:Re.avs (aW ++[y])=Re.avs aW ++[.agg [.int .i64 y.k,e1,e2,e3,e4,e5,e6,bT (Re.avs y.l)]]:=by
      rw[←ym];simp[Re.avs,dz]
     rw[dz]at w1;have hacc2:Parts 4 m (aW ++[y]):=(kK.snoc g3 (by omega)).mono (by omega);have next:∀x:Nat->AV,x 0=.ptr r 0->x 1=ag ay->x 4=v 4->x 5=.slc .own (Re.avs (aW ++[y]))->
       Wp (aP ak SA.sp ae (.loop a92l6) (az 33554547 x,H.set r (some [.str s,ag m,ag 0,ag 0]))) (BO s r H (500*N+500) aW v (match lY s (k+1) m ay with|.er a w=>.er a w|.ok ys z=>.ok (y::ys) z)):=fun x x0 x1 x4 x5=>by
      refine(ih m (aW ++[y]) x (by omega) g2 (by omega) hacc2 x0 x1 x5).mono fun e t h=>?_;cases hb:lY s (k+1) m ay with
      |er a w=>rw[hb]at h;exact h.of_eq x4
      |ok ys z=>
       rw[hb]at h;obtain⟨h1,v',h2,k4,k5,h6,h7⟩:=h;simp only[zR,kg,gV]at k5 h6;exact⟨h1,v',h2,k4.trans x4,k5,h6,h7⟩
     simp only;simp[au,RU,RQ,RP,k0,k1,k5,q1,w1,eY,bF,ed,cu];refine next _ ?_ ?_ ?_ ?_
     ·simp[k0]
     ·simp[k1]
     ·simp[k4]
     ·simp[hav]
theorem zcZ{s:List UInt8}(gz:s.length<=400){N:Nat}(hN:N<=1300)(hC:∀m,m<N->P6 s m){ae:Nat}{H:aj}{r i ay n:Nat}(h:Rf H r s i)(hb:ae<=r)(hi:i<=s.length)(hn:n<=N)(hf:3*(s.length+1-i)<=n+1)(hd:ay<=20):
  Wc (Rn ak SA.sp ae 92 [.ptr r 0,ag ay] H) (Lt s r H (500*N+500) (qp s [] n i ay)):=by
 have hs:=SA.mono;have dU:=fA h;have kJ:=z8 h;refine jl rfl rfl rfl ?_;rw[env92];simp[iO,zfx,zfw,a92];have dw:=zlA gz hN hC (ae:=ae) (H:=H) dU hb hd n i [] (st (st (st (st bK 0 (.ptr r 0)) 1 (ag ay)) 4 Bu) 5 (.slc .own [])) hn hi hf ⟨by simp,by simp[dS],by simp⟩
  (by simp) (by simp) (by simp[Re.avs])
 rw[kJ]at dw;refine dw.mono fun e t ht=>?_;unfold qp;cases hx:lY s n i ay with
 |er a w=>
  rw[hx]at ht;obtain⟨rfl,l,v',z,hl,rfl,k4,k5⟩:=ht;simp at k4;have hj:=hl.joined (by omega) ae (H.set r (some [.str s,.int .i64 z,ag a,ag w])) (.slc .ro (Re.avs l)) (.inl rfl);have hjt:=hl.tree (.inl rfl) (by omega) (by omega);obtain⟨c1,c2,c3,c4,c5,c6,aH⟩:=Re.av_eight hjt.wide;rw[aH]at hj;have bF:=wD hl.wide;have bV:List.take l.length (Re.avs l)=Re.avs l:=ek (by simp[ed]);simp only;rw[wy];simp[dX,X8,k4,k5,hj,ed,bV,bF];exact⟨eX 4 l,hjt,by rw[aH],z,rfl⟩
 |ok l j=>
  rw[hx]at ht;obtain⟨rfl,v',rfl,k4,k5,hp,hj⟩:=ht;simp at k4;simp only[gV]at k5 hp ⊢;have hl:Rough 4 1000 l:=hp.rough (by omega) (aX _);have hj:=hl.joined (by omega) ae (H.set r (some [.str s,ag j,ag 0,ag 0])) (.slc .ro (Re.avs l)) (.inl rfl);have hjt:=hl.tree (.inl rfl) (by omega) (by omega);obtain⟨c1,c2,c3,c4,c5,c6,aH⟩:=Re.av_eight hjt.wide;rw[aH]at hj;have bF:=wD hl.wide;have bV:List.take l.length (Re.avs l)=Re.avs l:=ek (by simp[ed]);rw[BI,aH];simp[dX,X8,k4,k5,hj,ed,bV,bF]
end
section
def PO(s:List UInt8)(r:Nat)(H:aj)(M:Nat)(aW:List Re)(v:Nat->AV)(x:PR (List Re))(e:AExit)(t:EH):Prop:=
 match x with
 | .er a w=>e=.exit 0∧∃(l:List Re)(v':Nat->AV)(z:Int),Rough 5 M l∧t=(az 8307 v',H.set r (some [.str s,.int .i64 z,ag a,ag w]))∧v' 4=v 4∧v' 5=.slc .own (Re.avs l)
 | .ok ls j=>e=.exit 0∧∃v',t=(az 8307 v',H.set r (some [.str s,ag j,ag 0,ag 0]))∧v' 4=v 4∧v' 5=.slc .own (Re.avs (aW++ls))∧Parts 5 (j+1) (aW++ls)∧j<=s.length
theorem zdc(s:List UInt8)(r:Nat)(H:aj)(M:Nat)(aW:List Re)(v:Nat->AV)(a w:Nat):PO s r H M aW v (.er a w)=fun e t=>e=.exit 0∧∃(l:List Re)(v':Nat->AV)(z:Int),Rough 5 M l∧t=(az 8307 v',H.set r (some [.str s,.int .i64 z,ag a,ag w]))∧v' 4=v 4∧v' 5=.slc .own (Re.avs l):=rfl
theorem pO_ok(s:List UInt8)(r:Nat)(H:aj)(M:Nat)(aW:List Re)(v:Nat->AV)(ls:List Re)(j:Nat):PO s r H M aW v (.ok ls j)=fun e t=>e=.exit 0∧∃v',t=(az 8307 v',H.set r (some [.str s,ag j,ag 0,ag 0]))∧v' 4=v 4∧v' 5=.slc .own (Re.avs (aW++ls))∧Parts 5 (j+1) (aW++ls)∧j<=s.length:=rfl
theorem PO.of_eq{s:List UInt8}{r:Nat}{H:aj}{M:Nat}{aW:List Re}{v w:Nat->AV}{x:PR (List Re)}{e:AExit}{t:EH}(h:PO s r H M aW v x e t)(h4:v 4=w 4):PO s r H M aW w x e t:=by
 cases x with
 |er a b=>obtain⟨h1,l,v',z,h2,h3,k4,k5⟩:=h;exact⟨h1,l,v',z,h2,h3,k4.trans h4,k5⟩
 |ok l j=>obtain⟨h1,v',h2,k4,k5⟩:=h;exact⟨h1,v',h2,k4.trans h4,k5⟩
theorem zcF{s:List UInt8}{ae:Nat}{H:aj}{r a w:Nat}{z:Int}(hr:r<H.length)(hw:w≠0)(v:Nat->AV)(v0:v 0=.ptr r 0){l:List Re}(v5:v 5=.slc .own (Re.avs l)){M:Nat}(hl:Rough 5 M l){aW:List Re}{u:Nat->AV}(h4:v 4=u 4):
  Wp (aP ak SA.sp ae (.loop a69l6) (az 8307 v,H.set r (some [.str s,.int .i64 z,ag a,ag w]))) (PO s r H M aW u (.er a w)):=by
 have hB:Bf (H.set r (some [.str s,.int .i64 z,ag a,ag w])) r s z a w:=⟨dB _ hr,hw⟩
 have hcb:=QM (ae:=ae) hB;rw[bu a69l6.eq_1,zdc];simp[au,NC,v0,hcb];exact⟨l,hl,_,⟨rfl,z,rfl⟩,by simp[h4],by simp[v5]⟩
set_option maxHeartbeats 1000000 in
theorem zk3{s:List UInt8}(gz:s.length<=400){N:Nat}(hN:N<=1300)(hC:∀m,m<N->P6 s m){ae:Nat}{H:aj}{r ay:Nat}(hr:r<H.length)(hb:ae<=r)(hd:ay<=20):
  ∀(n j:Nat)(aW:List Re)(v:Nat->AV),n<=N->j<=s.length->3*(s.length-j)<=n->Parts 5 (j+1) aW->v 0=.ptr r 0->v 1=ag ay->v 5=.slc .own (Re.avs aW)->
   Wp (aP ak SA.sp ae (.loop a69l6) (az 8307 v,H.set r (some [.str s,ag j,ag 0,ag 0]))) (PO s r H (500*N+1000) aW v (wu s n j ay)):=by
 have hs:=SA.mono;intro n;induction n using Nat.strongRecOn with
 |ind n ih=>
 intro j aW v hN' h1 h2 kK v0 v1 v5;have hR:Rf (H.set r (some [.str s,ag j,ag 0,ag 0])) r s j:=dB _ hr;have hp:=xR (ae:=ae) hR;have gZ:=hR;unfold Rf at gZ;have bF:=wD kK.rowWide;have hjw:IntKind.i64.wrap ((j:Int)+1)=(j:Int)+1:=aM _ (by omega);rw[bu a69l6.eq_1];unfold wu;by_cases hc:s[j]?=some 124
 ·rw[aS hc];rw[show dV s j=124 from jJ hc]at hp;have aB:=lT hc;obtain⟨m,rfl⟩:∃m,n=m+1:=⟨n-1,by omega⟩
  have hR2:Rf (H.set r (some [.str s,ag (j+1),ag 0,ag 0])) r s (j+1):=dB _ hr;obtain⟨o,K,q1,q2⟩:=zcZ (ae:=ae) (n:=m) (ay:=ay) gz hN hC hR2 hb (by omega) (by omega) (by omega) hd;have jB:ag (j+1)=.int .i64 ((j:Int)+1):=rfl;rw[jB]at q1;have rT:=(sH (s:=s) gz m).2.1 (j+1) ay (by omega) (by omega);have bq:=kK.2.2;have cu:(aW.length+1)*8<=4294967296:=by omega
  rw[Rz];unfold qp at q2;simp only[gV]at q2;cases hx:lY s m (j+1) ay with
  |er a w=>
   rw[hx]at q2 rT;obtain⟨y,z,hyt,rfl,rfl⟩:=q2;have hw0:w≠0:=by rcases rT with⟨_,h|h|h|h|h⟩<;>omega
   simp only[iP]at q1;obtain⟨e1,e2,e3,e4,e5,e6,dz⟩:=Re.av_eight hyt.wide;have hav:Re.avs (aW ++[y])=Re.avs aW ++[.agg [.int .i64 y.k,e1,e2,e3,e4,e5,e6,bT (Re.avs y.l)]]:=by
    rw[←ym];simp[Re.avs,dz]
   rw[dz]at q1;simp only;simp[au,NC,YT,YS,YR,v0,v1,v5,hp,gZ,hjw,hb,hr,q1,eY,bF,ed,cu];refine zcF hr hw0 _ ?_ (l:=aW ++[y]) ?_ (kK.snocR hyt (by omega) (by omega) (by omega) (by omega)) ?_
   ·simp[v0]
   ·simp[hav]
   ·simp
  |ok l k=>
   rw[hx]at q2 rT;obtain⟨rfl,rfl⟩:=q2;obtain⟨b1,b2,b3,b4,b5⟩:=rT;simp only[iP]at q1;have ht:Tree (k-(j+1)+1) (eX 4 l):=su (.inl rfl) (fun x hx=>(b3 x hx).mono (by omega)) (by omega) (by omega) (by omega);obtain⟨d1,d2,d3,d4,d5,d6,jU⟩:=Re.av_eight ht.wide;rw[jU]at q1;have hacc2:Parts 5 (k+1) (aW ++[eX 4 l]):=(kK.snoc ht (by omega)).mono (by omega);have hav:Re.avs (aW ++[eX 4 l])=Re.avs aW ++[.agg [.int .i64 (eX 4 l).k,d1,d2,d3,d4,d5,d6,bT (Re.avs (eX 4 l).l)]]:=by
    rw[←ym];simp[Re.avs,jU]
   simp only;have next:∀w:Nat->AV,w 0=.ptr r 0->w 1=ag ay->w 4=v 4->w 5=.slc .own (Re.avs (aW ++[eX 4 l]))->
     Wp (aP ak SA.sp ae (.loop a69l6) (az 8307 w,H.set r (some [.str s,ag k,ag 0,ag 0]))) (PO s r H (500*N+1000) aW v (match wu s m k ay with|.er a w=>.er a w|.ok ls k=>.ok (eX 4 l::ls) k)):=fun w w0 w1 w4 w5=>by
    refine(ih m (by omega) k (aW ++[eX 4 l]) w (by omega) b2 (by omega) hacc2 w0 w1 w5).mono fun e t h=>?_;cases hy:wu s m k ay with
    |er a b=>rw[hy]at h;exact h.of_eq w4
    |ok ls z=>
     rw[hy]at h;obtain⟨h1,v',h2,h3,h4,h5,h6⟩:=h;simp only[zR,kg,gV]at h4 h5;exact⟨h1,v',h2,h3.trans w4,h4,h5,h6⟩
   simp[au,NC,YT,YS,YR,v0,v1,v5,hp,gZ,hjw,hb,hr,q1,eY,bF,ed,cu];refine next _ ?_ ?_ ?_ ?_
   ·simp[v0]
   ·simp[v1]
   ·simp
   ·simp[hav]
 ·rw[aF hc,pO_ok];have n124:(dV s j==124)=false:=(mK 124 hc).1;simp[au,NC,v0,hp,n124];exact⟨_,rfl,by simp,by simp[v5],by simpa using kK,h1⟩
theorem zk2{s:List UInt8}(gz:s.length<=400):∀n,P6 s n:=by
 have hs:=SA.mono;intro n;induction n using Nat.strongRecOn with
 |ind n ih=>
 intro ae H r i ay h hb hi hf hn hd;obtain⟨m,rfl⟩:∃m,n=m+1:=⟨n-1,by omega⟩
 have dU:=fA h;obtain⟨o,K,q1,q2⟩:=zcZ (ae:=ae) (N:=m) (n:=m) (ay:=ay) gz (by omega) (fun k hk=>ih k (by omega)) h hb hi (aX _) (by omega) hd;have rT:=(sH (s:=s) gz m).2.1 i ay hi (by omega);refine jl rfl rfl rfl ?_;rw[env69];unfold EY;rw[Rz];unfold qp at q2;simp only[gV]at q2
 -- the parts as one, whatever they are
 have ends:∀(l:List Re)(M:Nat)(K:aj)(v:Nat->AV)(Q:Out->aj->Prop),Rough 5 M l->M<=900000->1<=M->v 4=Bu->v 5=.slc .own (Re.avs l)->Q (.ret (eX 5 l).av) K->
   ul 0 (andThen (aP ak SA.sp ae (.seq (.region YQ) .ret)) (fin [.cell 4 (some 8)] Q)) (.exit 0) (az 8307 v,K):=fun l M K v Q hl hM hM1 k4 k5 hQ=>by
  have hj:=hl.joined hM ae K (.slc .ro (Re.avs l)) (.inl rfl);have hjt:=hl.tree (.inr rfl) hM hM1;obtain⟨c1,c2,c3,c4,c5,c6,aH⟩:=Re.av_eight hjt.wide;rw[aH]at hj hQ;have bF:=wD hl.wide;have bV:List.take l.length (Re.avs l)=Re.avs l:=ek (by simp[ed]);simp[dX,YQ,k4,k5,hj,ed,bV,bF];exact hQ
 cases hx:lY s m i ay with
 |er a w=>
  rw[hx]at q2 rT;obtain⟨y,z,hyt,rfl,rfl⟩:=q2;have hw0:w≠0:=by rcases rT with⟨_,h|h|h|h|h⟩<;>omega
  obtain⟨e1,e2,e3,e4,e5,e6,dz⟩:=Re.av_eight hyt.wide;rw[dz]at q1;have hl:Rough 5 (500*m+1000) [y]:=by
   have h0:Parts 5 0 []:=⟨by simp,by simp[dS],by simp⟩
   have:=h0.snocR hyt (M:=500*m+1000) (by omega) (by omega) (by omega) (by omega);simpa using this
  simp only;simp[iO,YV,YU,a69,q1,eY];refine(zcF (M:=500*m+1000) (aW:=[]) (u:=fun k=>if k=4 then Bu else .undef) dU hw0 _ ?_ (l:=[y]) ?_ hl ?_).mono fun e t ht=>?_
  ·simp
  ·simp[Re.avs,dz]
  ·simp
  ·rw[zdc]at ht;obtain⟨rfl,l',v',z',jN,rfl,k4,k5⟩:=ht;have k4:v' 4=Bu:=by rw[k4];simp
   exact ends l' _ _ v' _ jN (by omega) (by omega) k4 k5 ⟨eX 5 l',z',(jN.tree (.inr rfl) (by omega) (by omega)).mono (by omega),rfl,rfl⟩
 |ok l k=>
  rw[hx]at q2 rT;obtain⟨rfl,rfl⟩:=q2;obtain⟨b1,b2,b3,b4,b5⟩:=rT;have ht:Tree (k-i+1) (eX 4 l):=su (.inl rfl) (fun x hx=>(b3 x hx).mono (by omega)) (by omega) (by omega) (by omega);obtain⟨d1,d2,d3,d4,d5,d6,jU⟩:=Re.av_eight ht.wide;rw[jU]at q1;have kK:Parts 5 (k+1) [eX 4 l]:=by
   have h0:Parts 5 0 []:=⟨by simp,by simp[dS],by simp⟩
   have:=h0.snoc ht (by omega);simpa using this.mono (show 0+(k-i+1)<=k+1 by omega)
  simp only;simp[iO,YV,YU,a69,q1,eY];refine(zk3 gz (by omega) (fun k hk=>ih k (by omega)) (ae:=ae) (H:=H) dU hb hd m k [eX 4 l] _ (aX _) b2 (by omega) kK ?_ ?_ ?_).mono fun e t ht=>?_
  ·simp
  ·simp
  ·simp[Re.avs,jU]
  ·cases hy:wu s m k ay with
   |er a w=>
    rw[hy]at ht;obtain⟨rfl,l',v',z',jN,rfl,k4,k5⟩:=ht;have k4:v' 4=Bu:=by rw[k4];simp
    exact ends l' _ _ v' _ jN (by omega) (by omega) k4 k5 ⟨eX 5 l',z',(jN.tree (.inr rfl) (by omega) (by omega)).mono (by omega),rfl,rfl⟩
   |ok ls j=>
    rw[hy]at ht;obtain⟨rfl,v',rfl,k4,k5,hp,hj⟩:=ht;have k4:v' 4=Bu:=by rw[k4];simp
    simp only[kg,gV]at k5 hp;exact ends (eX 4 l::ls) 1000 _ v' _ (hp.rough (by omega) (aX _)) (by omega) (by omega) k4 k5 ⟨rfl,rfl⟩
theorem zln{ae:Nat}{H:aj}(s:List UInt8):Rn ak SA.sp ae 44 [.str s] H=some (.ret (p9 (uj s)),H):=by
 have hz:emptyRe.av=.agg [.int .i64 0,.int .u64 0,.int .u64 0,.int .u64 0,.int .u64 0,.int .i64 0,.int .i64 0,.nils]:=rfl;have frze:=x9 0;refine di rfl rfl rfl rfl ?_;rw[env44];by_cases hl:400<s.length
 ·have jN:(400:Int)<(s.length:Int):=by omega
  have:=frze [] emptyRe;rw[hz]at this;simp only[uj,aS hl,p9,hz];simp[dN,Tk,Tj,Ti,a44,jN,aN,bg]
 ·have jN:¬(400:Int)<(s.length:Int):=by omega
  have hR:Rf [some [.str s,ag 0,ag 0,ag 0]] 0 s 0:=rfl;obtain⟨o,K,q1,q2⟩:=zk2 (s:=s) (by omega) (qO s 0) 0 [some [.str s,ag 0,ag 0,ag 0]] 0 0 0 hR (aX _) (jK _) (by unfold qO;omega) (by unfold qO;omega) (jK _);have dK:=(sH (s:=s) (by omega) (qO s 0)).1 0 0 (by omega) (by unfold qO;omega);unfold EY at q2;simp only[uj,aF hl];cases hx:sV s (qO s 0) 0 0 with
  |er a w=>
   rw[hx]at q2 dK;obtain⟨y,z,hyt,rfl,rfl⟩:=q2;have hw0:w≠0:=by rcases dK with⟨_,h|h|h|h|h⟩<;>omega
   have bY:((w:Int) != 0)=true:=by simp[bne];omega
   obtain⟨d1,d2,d3,d4,d5,d6,jU⟩:=Re.av_eight hyt.wide;rw[jU]at q1;replace q1:Rn ak SA.sp 0 69 [.ptr 0 0,.int .i64 0] [some [.str s,.int .i64 0,.int .i64 0,.int .i64 0]]=_:=q1;simp only[p9,hz];simp[Ez,Tk,Tj,Ti,Za,Y9,Y8,Zb,Y7,a44,lV,jy,jI,jN,q1,hw0,bY,aN,bg]
  |ok ls j=>
   rw[hx]at q2 dK;obtain⟨rfl,rfl⟩:=q2;obtain⟨b1,b2,b3,b4,b5,_⟩:=dK;have ht:Tree (j-0+1) (eX 5 ls):=su (.inr rfl) b3 b4 (by omega) (by omega);obtain⟨c1,c2,c3,c4,c5,c6,aH⟩:=Re.av_eight ht.wide;have hft:∀H,aN 0 H (.tup [(eX 5 ls).av,.int .i64 0,.int .i64 0])=some (.tup [(eX 5 ls).av,.int .i64 0,.int .i64 0]):=fun H=>by
    have h1:=frze H (eX 5 ls);generalize(eX 5 ls).av=x at h1 ⊢;simp[aN,bg,h1]
   rw[aH]at q1 hft;replace q1:Rn ak SA.sp 0 69 [.ptr 0 0,.int .i64 0] [some [.str s,.int .i64 0,.int .i64 0,.int .i64 0]]=_:=q1;simp only[p9,aH];simp[dN,Tk,Tj,Ti,Za,Y9,Y8,Zb,Y7,a44,jN,q1,hft]
end
section
def iX(k:Int)(set:List Nat)(mn mx:Int)(len:Nat)(ay:Int):Bool:=
 decide (100<ay)||(decide (k<0)||(decide (6<k)||((decide (k≠1)&&decide (set≠dL))||((decide (k≠6)&&(decide (mn≠0)||decide (mx≠0)))||(decide (k<4)&&decide (0<len))))))
def lw(k dh:Int)(len:Nat):Bool:=(decide (k=0)&&decide (dh=4))||((decide (k=4)||decide (k=5))&&(decide (k=dh)||decide (len<2)))
def kN(k mn mx:Int)(len:Nat):Bool:=decide (k=6)&&(decide (len≠1)||(decide (mn<0)||(decide (50<mn)||(decide (50<mx)||(decide (mx<mn)&&decide (mx ≠ -1))))))
theorem zff(k:Int)(set:List Nat)(mn mx:Int)(l:List Re)(dh ay:Int):(Re.mk k set mn mx l).can dh ay=
  if iX k set mn mx l.length ay then false else if lw k dh l.length then false else if kN k mn mx l.length then false else Re.canL l k ay:=by
 unfold Re.can;by_cases hb:kV k set mn mx ay=true
 ·rw[aS hb];have:iX k set mn mx l.length ay=true:=by
   simp only[kV,nG]at hb;simp only[iX,nG];rcases hb with(hb|hb)|hb
   ·exact .inl hb
   ·exact .inr (.inr (.inr (.inl hb)))
   ·exact .inr (.inr (.inr (.inr (.inl (by simpa using hb)))))
  rw[aS this]
 ·rw[aF hb];simp only[kV,nG,not_or,Bool.not_eq_true]at hb;obtain⟨⟨hb1,jG⟩,hb3⟩:=hb;have hh:iX k set mn mx l.length ay=(decide (k<0)||(decide (6<k)||(decide (k<4)&&decide (0<l.length)))):=by
   simp only[iX,hb1,jG,hb3,xJ]
  rw[hh];by_cases e0:k=0
  ·subst e0;by_cases hl:l.length=0
   ·have:l=[]:=mi hl;subst this;by_cases h4:dh=4<;>simp[lw,kN,Re.canL,h4]
   ·have:0<l.length:=by omega
    simp[hl,this]
  by_cases e123:k=1∨k=2∨k=3
  ·rw[aF e0,aS e123];by_cases hl:l.length=0
   ·have:l=[]:=mi hl;subst this;rcases e123 with rfl|rfl|rfl<;>simp[lw,kN,Re.canL]
   ·have:0<l.length:=by omega
    rcases e123 with rfl|rfl|rfl<;>simp[hl,this]
  rw[aF e0,aF e123];by_cases e45:k=4∨k=5
  ·rw[aS e45];by_cases hw:dh=k
   ·subst hw;rcases e45 with rfl|rfl<;>simp[lw]
   ·have hw':¬k=dh:=fun e=>hw e.symm;by_cases h2:l.length<2
    ·rcases e45 with rfl|rfl<;>simp[lw,h2]
    ·rcases e45 with rfl|rfl<;>simp[lw,kN,h2,hw,hw']
  rw[aF e45];by_cases e6:k=6
  ·subst e6;rw[aS rfl];have hr:kN 6 mn mx l.length=lQ l.length mn mx:=by
    rw[Bool.eq_iff_iff];simp only[kN,lQ,nG,aU,ik,Bj];omega
   have hk:lw 6 dh l.length=false:=by simp[lw]
   rw[hk,hr];simp
  ·rw[aF e6];have:(decide (k<0)||(decide (6<k)||(decide (k<4)&&decide (0<l.length))))=true:=by
    simp only[nG,aU,ik];omega
   rw[aS this]
theorem zlz{ae:Nat}{k mn mx ay:Int}{a b c d:Nat}{l:List Re}{v:Nat->AV}{H:aj}{Q:AExit->EH->Prop}(v2:v 2=.int .i64 ay)(v7:v 7=.int .i64 k)
  (v3:v 3=.box [.int .i64 k,u64 a,u64 b,u64 c,u64 d,.int .i64 mn,.int .i64 mx,bT (Re.avs l)])
  (hQ:Q .norm (az 2722944318552834909416890706682699579855 (st v 54 (.bool (iX k [a,b,c,d] mn mx l.length ay))),H)):Ws (jP (Rn ak SA.sp ae) ae qZ ⟨az 2722944318552834909416890706682699579855 v,[],[],H⟩) Q:=by
 have hz:=zbA a b c d;by_cases c1:100<ay
 ·have hb:iX k [a,b,c,d] mn mx l.length ay=true:=by simp[iX,c1]
  rw[hb]at hQ;simp[qZ,v2,v3,v7,c1,hQ]
 by_cases c2:k<0
 ·have hb:iX k [a,b,c,d] mn mx l.length ay=true:=by simp[iX,c2]
  rw[hb]at hQ;simp[qZ,v2,v3,v7,c1,c2,hQ]
 by_cases c3:6<k
 ·have hb:iX k [a,b,c,d] mn mx l.length ay=true:=by simp[iX,c3]
  rw[hb]at hQ;simp[qZ,v2,v3,v7,c1,c2,c3,hQ]
 have bz:(l=[]∧bT (Re.avs l)=.nils)∨(0<l.length∧bT (Re.avs l)=.slc .ro (Re.avs l)):=by
  cases l with
  |nil=>exact .inl ⟨rfl,rfl⟩
  |cons x l=>exact .inr ⟨by simp,rfl⟩
 by_cases c4:k=1
 ·subst c4;by_cases c5:mn=0
  ·subst c5;by_cases c6:mx=0
   ·subst c6;rcases bz with⟨rfl,bz⟩|⟨hl,bz⟩
    ·have hb:iX 1 [a,b,c,d] 0 0 ([]:List Re).length ay=false:=by simp[iX,c1]
     rw[hb]at hQ;simp[qZ,v2,v3,v7,c1,c2,c3,bz,hQ]
    ·have hb:iX 1 [a,b,c,d] 0 0 l.length ay=true:=by simp[iX,hl]
     rw[hb]at hQ;have jN:(0:Int)<(l.length:Int):=by omega
     simp[qZ,v2,v3,v7,c1,c2,c3,bz,ed,hl,jN,hQ]
   ·have hb:iX 1 [a,b,c,d] 0 mx l.length ay=true:=by simp[iX,c6]
    rw[hb]at hQ;have c6':(mx != 0)=true:=by simpa using c6
    simp[qZ,v2,v3,v7,c1,c2,c3,c6',hQ]
  ·have hb:iX 1 [a,b,c,d] mn mx l.length ay=true:=by simp[iX,c5]
   rw[hb]at hQ;have c5':(mn != 0)=true:=by simpa using c5
   simp[qZ,v2,v3,v7,c1,c2,c3,c5',hQ]
 have c4':(k != 1)=true:=by simpa using c4
 cases hzz:((a:Int)==0&&((b:Int)==0&&((c:Int)==0&&(d:Int)==0)))with
 |false=>
  have hb:iX k [a,b,c,d] mn mx l.length ay=true:=by simp only[iX,hz,hzz];simp[c4]
  rw[hb]at hQ;simp[qZ,v2,v3,v7,c1,c2,c3,c4',tY,hzz,hQ]
 |true=>
  have hzd:decide ([a,b,c,d]≠dL)=false:=by rw[hz,hzz];rfl
  by_cases c7:k=6
  ·subst c7;have hb:iX 6 [a,b,c,d] mn mx l.length ay=false:=by simp only[iX,hzd];simp[c1]
   rw[hb]at hQ;simp[qZ,v2,v3,v7,c1,c2,c3,tY,hzz,hQ]
  have c7':(k != 6)=true:=by simpa using c7
  by_cases c5:mn=0
  ·subst c5;by_cases c6:mx=0
   ·subst c6;by_cases c8:k<4
    ·rcases bz with⟨rfl,bz⟩|⟨hl,bz⟩
     ·have hb:iX k [a,b,c,d] 0 0 ([]:List Re).length ay=false:=by simp only[iX,hzd];simp[c1];omega
      rw[hb]at hQ;simp[qZ,v2,v3,v7,c1,c2,c3,c4',c7',c8,tY,hzz,bz,hQ]
     ·have hb:iX k [a,b,c,d] 0 0 l.length ay=true:=by simp[iX,hl,c8]
      rw[hb]at hQ;have jN:(0:Int)<(l.length:Int):=by omega
      simp[qZ,v2,v3,v7,c1,c2,c3,c4',c7',c8,tY,hzz,bz,ed,hl,jN,hQ]
    ·have hb:iX k [a,b,c,d] 0 0 l.length ay=false:=by simp only[iX,hzd];simp[c1];omega
     rw[hb]at hQ;simp[qZ,v2,v3,v7,c1,c2,c3,c4',c7',c8,tY,hzz,hQ]
   ·have hb:iX k [a,b,c,d] 0 mx l.length ay=true:=by simp[iX,c6,c7]
    rw[hb]at hQ;have c6':(mx != 0)=true:=by simpa using c6
    simp[qZ,v2,v3,v7,c1,c2,c3,c4',c7',c6',tY,hzz,hQ]
  ·have hb:iX k [a,b,c,d] mn mx l.length ay=true:=by simp[iX,c5,c7]
   rw[hb]at hQ;have c5':(mn != 0)=true:=by simpa using c5
   simp[qZ,v2,v3,v7,c1,c2,c3,c4',c7',c5',tY,hzz,hQ]
theorem zly{ae:Nat}{k dh:Int}{l:List Re}{v:Nat->AV}{H:aj}{Q:AExit->EH->Prop}(v1:v 1=.int .i64 dh)(v7:v 7=.int .i64 k)
  {a b c d:Nat} {mn mx:Int} (v3:v 3=.box [.int .i64 k,u64 a,u64 b,u64 c,u64 d,.int .i64 mn,.int .i64 mx,bT (Re.avs l)])
  (hQ:Q .norm (az 2722944318552834909416890706682699579855 (st v 79 (.bool (lw k dh l.length))),H)):Ws (jP (Rn ak SA.sp ae) ae CO ⟨az 2722944318552834909416890706682699579855 v,[],[],H⟩) Q:=by
 have bz:(l=[]∧bT (Re.avs l)=.nils)∨(l ≠ []∧bT (Re.avs l)=.slc .ro (Re.avs l)):=by
  cases l with
  |nil=>exact .inl ⟨rfl,rfl⟩
  |cons x l=>exact .inr ⟨by simp,rfl⟩
 by_cases e0:k=0
 ·subst e0;by_cases ew:dh=4
  ·have hb:lw 0 dh l.length=true:=by simp[lw,ew]
   rw[hb]at hQ;simp[CO,v1,v3,v7,ew,hQ]
  ·have hb:lw 0 dh l.length=false:=by simp[lw,ew]
   rw[hb]at hQ;have ew':(dh==4)=false:=by simpa using ew
   simp[CO,v1,v3,v7,ew',hQ]
 have e0':(k==0)=false:=by simpa using e0
 by_cases e45:k=4∨k=5
 ·by_cases ew:dh=k
  ·have hb:lw k dh l.length=true:=by subst ew;rcases e45 with rfl|rfl<;>simp[lw]
   rw[hb]at hQ;subst ew;rcases e45 with rfl|rfl<;>simp[CO,v1,v3,v7,hQ]
  ·have ew':¬k=dh:=fun e=>ew e.symm;have ew2:(k==dh)=false:=by simpa using ew'
   rcases bz with⟨rfl,bz⟩|⟨hl,bz⟩
   ·have hb:lw k dh ([]:List Re).length=true:=by rcases e45 with rfl|rfl<;>simp[lw]
    rw[hb]at hQ;rcases e45 with rfl|rfl<;>simp[CO,v1,v3,v7,ew2,bz,hQ]
   ·by_cases e2:l.length<2
    ·have hb:lw k dh l.length=true:=by rcases e45 with rfl|rfl<;>simp[lw,e2]
     rw[hb]at hQ;have e2':(l.length:Int)<2:=by omega
     rcases e45 with rfl|rfl<;>simp[CO,v1,v3,v7,ew2,bz,ed,e2,e2',hQ]
    ·have hb:lw k dh l.length=false:=by rcases e45 with rfl|rfl<;>simp[lw,e2,ew']
     rw[hb]at hQ;have e2':¬(l.length:Int)<2:=by omega
     rcases e45 with rfl|rfl<;>simp[CO,v1,v3,v7,ew2,bz,ed,e2,e2',hQ]
 ·have hb:lw k dh l.length=false:=by simp[lw,e0];omega
  rw[hb]at hQ;have e4:(k==4)=false:=by simp;omega
  have e5:(k==5)=false:=by simp;omega
  simp[CO,v1,v3,v7,e0',e4,e5,hQ]
theorem zlv{ae:Nat}{k mn mx:Int}{a b c d:Nat}{l:List Re}{v:Nat->AV}{H:aj}{Q:AExit->EH->Prop}(v7:v 7=.int .i64 k)
  (v3:v 3=.box [.int .i64 k,u64 a,u64 b,u64 c,u64 d,.int .i64 mn,.int .i64 mx,bT (Re.avs l)])
  (hQ:Q .norm (az 2722944318552834909416890706682699579855 (st v 114 (.bool (kN k mn mx l.length))),H)):Ws (jP (Rn ak SA.sp ae) ae yJ ⟨az 2722944318552834909416890706682699579855 v,[],[],H⟩) Q:=by
 by_cases e6:k=6
 ·subst e6;match l,v3,hQ with
  | [],v3,hQ=>
   have hb:kN 6 mn mx ([]:List Re).length=true:=by simp[kN]
   rw[hb]at hQ;simp[yJ,v3,v7,hQ,bT,Re.avs]
  |x::y::l,v3,hQ=>
   have hb:kN 6 mn mx (x::y::l).length=true:=by simp[kN]
   rw[hb]at hQ;have bq:((((Re.avs l).length:Int)+1+1) != 1)=true:=by simp;omega
   simp[yJ,v3,v7,hQ,bT,Re.avs,bq]
  | [x],v3,hQ=>
   by_cases c1:mn<0
   ·have hb:kN 6 mn mx [x].length=true:=by simp[kN,c1]
    rw[hb]at hQ;simp[yJ,v3,v7,hQ,bT,Re.avs,c1]
   by_cases c2:50<mn
   ·have hb:kN 6 mn mx [x].length=true:=by simp[kN,c2]
    rw[hb]at hQ;simp[yJ,v3,v7,hQ,bT,Re.avs,c1,c2]
   by_cases c3:50<mx
   ·have hb:kN 6 mn mx [x].length=true:=by simp[kN,c3]
    rw[hb]at hQ;simp[yJ,v3,v7,hQ,bT,Re.avs,c1,c2,c3]
   by_cases c4:mx<mn
   ·by_cases c5:mx= -1
    ·have hb:kN 6 mn mx [x].length=false:=by simp[kN,c1,c2,c3,c5]
     rw[hb]at hQ;simp[yJ,v3,v7,hQ,bT,Re.avs,c1,c2,c3,c4];simpa[c5]using hQ
    ·have hb:kN 6 mn mx [x].length=true:=by simp[kN,c4,c5]
     rw[hb]at hQ;have c5':(mx != -1)=true:=by simpa using c5
     simp[yJ,v3,v7,hQ,bT,Re.avs,c1,c2,c3,c4,c5']
   ·have hb:kN 6 mn mx [x].length=false:=by simp[kN,c1,c2,c3,c4]
    rw[hb]at hQ;simp[yJ,v3,v7,hQ,bT,Re.avs,c1,c2,c3,c4]
 ·have hb:kN k mn mx l.length=false:=by simp[kN,e6]
  rw[hb]at hQ;have e6':(k==6)=false:=by simpa using e6
  simp[yJ,v7,e6',hQ]
end
section
theorem zlx{ae:Nat}{l:List Re}{k ay:Int}{H:aj}{cs:List AV}(hc7:cs.length=7)(hw:Re.wideL l)(bq:l.length<1000000)(hd:0<=ay∧ay<=1000)
  (ih:∀x∈l,Rn ak SA.sp ae 70 [x.av,.int .i64 k,.int .i64 (ay+1)] H=some (.ret (.bool (x.can k (ay+1))),H)) :
  ∀(aY:List Re)(i:Nat)(v:Nat->AV),i<=l.length->l.drop i=aY->v 2=.int .i64 ay->v 7=.int .i64 k->v 3=.box (cs ++[bT (Re.avs l)])->v 8=ag i->
   Wp (aP ak SA.sp ae (.loop a70l13) (az 2722944318552834909416890706682699579855 v,H)) (fun e t=>(Re.canL aY k ay=true∧e=.exit 0∧∃v',t=(az 2722944318552834909416890706682699579855 v',H))∨(Re.canL aY k ay=false∧e=.ret∧∃v',t=(az 2722944318552834909416890706682699579855 v',H)∧v' 6=.bool false)):=by
 obtain⟨c0,c1,c2,c3,c4,c5,c6,rfl⟩:∃c0 c1 c2 c3 c4 c5 c6,cs=[c0,c1,c2,c3,c4,c5,c6]:=by
  match cs,hc7 with
  | [c0,c1,c2,c3,c4,c5,c6],_=>exact⟨c0,c1,c2,c3,c4,c5,c6,rfl⟩
 intro aY;induction aY with
 |nil=>
  intro i v hi hr v2 v7 v3 v8;have aK:i=l.length:=by
   have:=dF List.length hr;rw[kZ]at this;simp at this;omega
  subst aK;have bz:(l=[]∧bT (Re.avs l)=.nils)∨bT (Re.avs l)=.slc .ro (Re.avs l):=by
   cases l with
   |nil=>exact .inl ⟨rfl,rfl⟩
   |cons x l=>exact .inr rfl
  rw[bu a70l13.eq_1];rcases bz with⟨rfl,bz⟩|bz;all_goals
   rw[bz]at v3;simp only[kg,gV]at v3;simp[au,Sy,v3,v8,ed];exact⟨rfl,_,rfl⟩
 |cons x aY ihr=>
  intro i v hi hr v2 v7 v3 v8;have aK:i<l.length:=by
   have:=dF List.length hr;rw[kZ]at this;simp at this;omega
  have jE:=iJ aK;rw[hr]at jE;obtain⟨hx,gF⟩:=zQ jE;have jC:x∈l:=hx▸mO aK;obtain⟨d,aH,bM⟩:=Re.av_agg (kz.1 hw x jC);have fQ:8<=d.length:=by omega
  have bV:List.take 8 d=d:=ek (by omega);have hg:(Re.avs l)[i]?=some (.agg d):=by rw[sZ aK,←hx,aH]
  have aR:Re.avs l ≠ []:=by rw[Re.avs_map];simp;intro e;subst e;simp at aK
  have bf:=ih x jC;rw[aH]at bf;have v3':=v3;rw[kM aR]at v3';simp only[kg,gV]at v3';have aT:IntKind.i64.wrap ((i:Int)+1)=(i:Int)+1:=aM _ (by omega);have hwd:IntKind.i64.wrap (ay+1)=ay+1:=aM _ (by omega);rw[bu a70l13.eq_1];cases hcx:x.can k (ay+1)with
  |false=>
   rw[hcx]at bf;have hu:Re.canL (x::aY) k ay=false:=by simp[Re.canL,hcx]
   rw[hu];simp[au,Sy,YP,YO,YN,v2,v3',v7,v8,ed,aK,hg,bM,fQ,bV,bf,aT,hwd];exact⟨_,rfl,by simp⟩
  |true=>
   rw[hcx]at bf;have hu:Re.canL (x::aY) k ay=Re.canL aY k ay:=by simp[Re.canL,hcx]
   rw[hu];simp[au,Sy,YP,YO,YN,v2,v3',v7,v8,ed,aK,hg,bM,fQ,bV,bf,aT,hwd];refine(ihr (i+1) _ (by omega) gF.symm ?_ ?_ ?_ ?_).mono fun e t h=>by simpa using h
   ·simp[v2]
   ·simp[v7]
   ·simp[v3',kM aR]
   ·simp
theorem zlw{k:Int}{set:List Nat}{mn mx:Int}{l:List Re}{dh ay:Int}(hw:(Re.mk k set mn mx l).wide)(hd:0<=ay∧ay<=1000)
  (ih:∀x∈l,∀w d,0<=d->d<=1000->∀ae H,Rn ak SA.sp ae 70 [x.av,.int .i64 w,.int .i64 d] H=some (.ret (.bool (x.can w d)),H)) (ae:Nat) (H:aj) :
  Rn ak SA.sp ae 70 [(Re.mk k set mn mx l).av,.int .i64 dh,.int .i64 ay] H=some (.ret (.bool ((Re.mk k set mn mx l).can dh ay)),H):=by
 unfold Re.wide at hw;obtain⟨h4,bq,hm,hwl⟩:=hw;obtain⟨a,b,c,d,rfl⟩:=four h4;refine di rfl rfl (by simp only[dG,qU,gq];rfl) rfl ?_;rw[env70,zff];simp[dX,a70,zgu,zgt,Re.av];refine zlz (k:=k) (mn:=mn) (mx:=mx) (ay:=ay) (a:=a) (b:=b) (c:=c) (d:=d) (l:=l) ?_ ?_ ?_ ?_
 ·simp
 ·simp
 ·simp
 cases hb:iX k [a,b,c,d] mn mx l.length ay with
 |true=>simp[dN,zgr]
 |false=>
  have hd1:ay<=100:=by
   simp only[iX,Bool.or_eq_false_iff,P9]at hb;omega
  simp[dN];refine zly (k:=k) (dh:=dh) (mn:=mn) (mx:=mx) (a:=a) (b:=b) (c:=c) (d:=d) (l:=l) ?_ ?_ ?_ ?_
  ·simp
  ·simp
  ·simp
  cases hk:lw k dh l.length with
  |true=>simp[dN,zgq]
  |false=>
   simp[dN];refine zlv (k:=k) (mn:=mn) (mx:=mx) (a:=a) (b:=b) (c:=c) (d:=d) (l:=l) ?_ ?_ ?_
   ·simp
   ·simp
   cases hr:kN k mn mx l.length with
   |true=>simp[dN,zgp]
   |false=>
    simp[au,zgo];refine(zlx (cs:=[.int .i64 k,u64 a,u64 b,u64 c,u64 d,.int .i64 mn,.int .i64 mx]) (ae:=0) (H:=[]) rfl hwl bq hd (fun x hx=>ih x hx k (ay+1) (by omega) (by omega) 0 []) l 0 _ (jK _) rfl ?_ ?_ ?_ ?_).mono fun e t h=>?_
    ·simp
    ·simp
    ·simp
    ·simp
    ·rcases h with⟨h1,rfl,v',rfl⟩|⟨h1,rfl,v',rfl,h2⟩
     ·simp[dX,zgs,h1]
     ·simp[h1,h2]
mutual
theorem zcY:∀(r:Re),r.wide->∀(dh ay:Int),0<=ay->ay<=1000->∀(ae:Nat)(H:aj),Rn ak SA.sp ae 70 [r.av,.int .i64 dh,.int .i64 ay] H=some (.ret (.bool (r.can dh ay)),H)
 | .mk k set mn mx l,hw,dh,ay,h0,h1,ae,H=>zlw hw ⟨h0,h1⟩ (fun x hx w d d0 d1 ae H=>zcX l (by unfold Re.wide at hw;exact hw.2.2.2) x hx w d d0 d1 ae H) ae H
theorem zcX:∀(l:List Re),Re.wideL l->∀x∈l,∀(dh ay:Int),0<=ay->ay<=1000->∀(ae:Nat)(H:aj),Rn ak SA.sp ae 70 [x.av,.int .i64 dh,.int .i64 ay] H=some (.ret (.bool (x.can dh ay)),H)
 | [],_=>fun x hx=>by cases hx
 |y::l,hw=>fun x hx w d d0 d1 ae H=>by
  unfold Re.wideL at hw;rcases il.1 hx with e|h
  ·rw[e];exact zcY y hw.1 w d d0 d1 ae H
  ·exact zcX l hw.2 x h w d d0 d1 ae H
end
end
section
theorem J4{k:Int}{set:List Nat}{mn mx:Int}{l:List Re}{dh ay:Int}(h:(Re.mk k set mn mx l).can dh ay=true):
  ay<=100∧(k<4->l=[])∧0<=k∧k<=6∧(k=5->2<=l.length)∧(k=6->l.length=1∧0<=mn∧mn<=50∧mx<=50∧(mn<=mx∨mx= -1))∧Re.canL l k ay=true:=by
 rw[zff]at h;split at h
 ·cases h
 rename_i h1;split at h
 ·cases h
 rename_i h2;split at h
 ·cases h
 rename_i h3;simp only[iX,nG,aU,ik,not_or,not_and]at h1;simp only[lw,nG,aU,ik,not_or,not_and]at h2;simp only[kN,nG,aU,ik,not_or,not_and]at h3;obtain⟨a1,a2,a3,a4,a5,a6⟩:=h1;refine⟨by omega,fun e=>?_,by omega,by omega,fun e=>?_,fun e=>?_,h⟩
 ·have:=a6 e;exact mi (by omega)
 ·have:=h2.2 (.inr e);omega
 ·have:=h3 e;omega
def Re.rcap(r:Re):Nat:=if r.cap<=500 then r.cap else 1000
theorem zlt{ae:Nat}{l:List Re}{cs:List AV}{H:aj}(hc7:cs.length=7)(hw:Re.wideL l)(bq:l.length<1000000)
  (ih:∀x∈l,Rn ak SA.sp ae 71 [x.av] H=some (.ret (ag x.rcap),H)) :
  ∀(aY:List Re)(i n:Nat)(v:Nat->AV),i<=l.length->l.drop i=aY->n<=500->v 1=.box (cs ++[bT (Re.avs l)])->v 3=ag n->v 4=ag i->
   Wp (aP ak SA.sp ae (.loop a71l10) (az 2361255369402436685855 v,H)) (fun e t=>(Re.capL n aY<=500∧e=.exit 0∧∃v',t=(az 2361255369402436685855 v',H)∧v' 1=v 1∧v' 3=ag (Re.capL n aY))∨(¬Re.capL n aY<=500∧e=.ret∧∃v',t=(az 2361255369402436685855 v',H)∧v' 2=.int .i64 1000)):=by
 obtain⟨c0,c1,c2,c3,c4,c5,c6,rfl⟩:∃c0 c1 c2 c3 c4 c5 c6,cs=[c0,c1,c2,c3,c4,c5,c6]:=by
  match cs,hc7 with
  | [c0,c1,c2,c3,c4,c5,c6],_=>exact⟨c0,c1,c2,c3,c4,c5,c6,rfl⟩
 intro aY;induction aY with
 |nil=>
  intro i n v hi hr hn v1 v3 v4;have aK:i=l.length:=by
   have:=dF List.length hr;rw[kZ]at this;simp at this;omega
  subst aK;have bz:(l=[]∧bT (Re.avs l)=.nils)∨bT (Re.avs l)=.slc .ro (Re.avs l):=by
   cases l with
   |nil=>exact .inl ⟨rfl,rfl⟩
   |cons x l=>exact .inr rfl
  have bM:Re.capL n []=n:=rfl;rw[bu a71l10.eq_1,bM];rcases bz with⟨rfl,bz⟩|bz;all_goals
   have v1':=v1;rw[bz]at v1';simp only[kg,gV]at v1';simp[au,Sr,v1',v4,ed];exact⟨hn,_,rfl,by simp[v1'],by simp[v3]⟩
 |cons x aY ihr=>
  intro i n v hi hr hn v1 v3 v4;have aK:i<l.length:=by
   have:=dF List.length hr;rw[kZ]at this;simp at this;omega
  have jE:=iJ aK;rw[hr]at jE;obtain⟨hx,gF⟩:=zQ jE;have jC:x∈l:=hx▸mO aK;obtain⟨d,aH,bM⟩:=Re.av_agg (kz.1 hw x jC);have fQ:8<=d.length:=by omega
  have bV:List.take 8 d=d:=ek (by omega);have hg:(Re.avs l)[i]?=some (.agg d):=by rw[sZ aK,←hx,aH]
  have aR:Re.avs l ≠ []:=by rw[Re.avs_map];simp;intro e;subst e;simp at aK
  have bf:=ih x jC;rw[aH]at bf;have v1':=v1;rw[kM aR]at v1';simp only[kg,gV]at v1';have aT:IntKind.i64.wrap ((i:Int)+1)=(i:Int)+1:=aM _ (by omega);have hrc:x.rcap<=1000:=by unfold Re.rcap;split<;>omega
  have bY:IntKind.i64.wrap ((n:Int)+(x.rcap:Int))=(n:Int)+(x.rcap:Int):=aM _ (by omega);rw[bu a71l10.eq_1];by_cases hb:n+x.cap>500
  ·have hu:Re.capL n (x::aY)=n+x.cap:=by simp[Re.capL,hb]
   have hx5:(500:Int)<(n:Int)+(x.rcap:Int):=by unfold Re.rcap;split<;>omega
   rw[hu];simp[au,Sr,YM,YL,YK,YJ,v1',v3,v4,ed,aK,hg,bM,fQ,bV,bf,aT,bY,hx5];exact⟨by omega,_,rfl,by simp⟩
  ·have hu:Re.capL n (x::aY)=Re.capL (n+x.cap) aY:=by simp[Re.capL,hb]
   have hxc:x.rcap=x.cap:=by unfold Re.rcap;rw[aS (by omega)]
   rw[hxc]at bf bY;have hx5:¬(500:Int)<(n:Int)+(x.cap:Int):=by omega
   rw[hu];simp[au,Sr,YM,YL,YK,YJ,v1',v3,v4,ed,aK,hg,bM,fQ,bV,bf,aT,bY,hx5];refine(ihr (i+1) (n+x.cap) _ (by omega) gF.symm (by omega) ?_ ?_ ?_).mono fun e t h=>?_
   ·simp[v1',kM aR]
   ·simp
   ·simp
   ·rcases h with⟨e1,e2,v',e3,e4,e5⟩|⟨e1,e2,v',e3,e4⟩
    ·exact .inl ⟨e1,e2,v',e3,by rw[e4];simp[v1'],e5⟩
    ·exact .inr ⟨by omega,e2,v',e3,e4⟩
theorem zls{k:Int}{set:List Nat}{mn mx:Int}{l:List Re}{dh ay:Int}(hc:(Re.mk k set mn mx l).can dh ay=true)(hw:(Re.mk k set mn mx l).wide)
  (ih:∀x∈l,Rn ak SA.sp 0 71 [x.av] []=some (.ret (ag x.rcap),[])) (ae:Nat) (H:aj):Rn ak SA.sp ae 71 [(Re.mk k set mn mx l).av] H=some (.ret (ag (Re.mk k set mn mx l).rcap),H):=by
 obtain⟨r1,r2,r3,r4,r5,r6,r7⟩:=J4 hc;unfold Re.wide at hw;obtain⟨h4,bq,⟨m1,m2,m3,m4⟩,hwl⟩:=hw;obtain⟨a,b,c,d,rfl⟩:=four h4;refine di rfl rfl (by simp only[dG,qU];rfl) rfl ?_;rw[env71];by_cases e13:k=1∨k=2∨k=3
 ·have hl:=r2 (by omega);subst hl;have hcp:(Re.mk k [a,b,c,d] mn mx []).rcap=1:=by
   unfold Re.rcap;have:(Re.mk k [a,b,c,d] mn mx []).cap=1:=by unfold Re.cap;rw[aF (by simp[Re.capL]),aS e13]
   rw[this];rfl
  rw[hcp];have k1:1<=k:=by omega
  have k3:k<=3:=by omega
  simp[dN,a71,NB,NA,Ns,Re.av,k1,k3]
 have hin:=fun v=>zlt (cs:=[.int .i64 k,u64 a,u64 b,u64 c,u64 d,.int .i64 mn,.int .i64 mx]) (ae:=0) (H:=[]) rfl hwl bq ih l 0 0 v (jK _) rfl (by omega);have test:∀(X:ACode)(Q:AExit->EH->Prop),Wp (aP ak SA.sp 0 X (az 2361255369402436685855 (st (st (st (st (st bK 0 (Re.mk k [a,b,c,d] mn mx l).av) 1 (.box [.int .i64 k,u64 a,u64 b,u64 c,u64 d,.int .i64 mn,.int .i64 mx,bT (Re.avs l)])) 2 (.int .i64 0)) 12 (.bool false)) 12 .undef),[])) Q->
   Wp (aP ak SA.sp 0 (.seq (.region NB) (.seq (.seq (.region NA) (.cond true (.v 12) (.seq (.region Ns) .ret) .skip)) X)) (az 2361255369402436685855 (st bK 0 (Re.mk k [a,b,c,d] mn mx l).av),[])) Q:=fun X Q h=>by
  by_cases k1:1<=k
  ·have k3:¬k<=3:=by omega
   simp[dN,NB,NA,Ns,Re.av,k1,k3];simpa[Re.av]using h
  ·simp[dN,NB,NA,Ns,Re.av,k1];simpa[Re.av]using h
 unfold a71;simp only;refine test _ _ ?_;simp[au,zgn,zgm];refine(hin _ ?_ ?_ ?_).mono fun e t h=>?_
 ·simp
 ·simp
 ·simp
 rcases h with⟨h5,rfl,v',rfl,q1,q3⟩|⟨h5,rfl,v',rfl,q2⟩
 ·simp at q1;generalize hC:Re.capL 0 l=C at h5 q3;have done:∀(m:Nat)(w:Nat->AV),w 3=ag m->(Re.mk k [a,b,c,d] mn mx l).cap=m->
    Wp (aP ak SA.sp 0 (.seq (.seq (.region Sw) (.cond true (.v 71) (.seq (.region Sv) .ret) .skip)) (.seq (.region Su) .ret)) (az 2361255369402436685855 w,[])) (fin [.tmp 2] (thaw 0 (· =.ret (ag (Re.mk k [a,b,c,d] mn mx l).rcap)))):=fun m w w3 hm=>by
   by_cases h:m<=500
   ·have hm':¬(500:Int)<(m:Int):=by omega
    have hcp:(Re.mk k [a,b,c,d] mn mx l).rcap=m:=by unfold Re.rcap;rw[hm,aS h]
    rw[hcp];simp[dN,Sw,Sv,Su,w3,hm']
   ·have hm':(500:Int)<(m:Int):=by omega
    have hcp:(Re.mk k [a,b,c,d] mn mx l).rcap=1000:=by unfold Re.rcap;rw[hm,aF h]
    rw[hcp];simp[dN,Sw,Sv,Su,w3,hm']
  have hcap0:(Re.mk k [a,b,c,d] mn mx l).cap=if k=5 then C+l.length-1 else if k=6 then(if mx<0 then mn.toNat*C+C+1 else mn.toNat*C+(mx-mn).toNat*(C+1))else C:=by
   unfold Re.cap;rw[hC,aF (by omega),aF e13]
  have done':=done;simp only[dX]at done';by_cases e5:k=5
  ·subst e5;have hl2:=r5 rfl;have aR:Re.avs l ≠ []:=by rw[Re.avs_map];simp;intro e;subst e;simp at hl2
   have bz:=kM aR;rw[bz]at q1;rw[aS rfl]at hcap0;have aT:IntKind.i64.wrap ((C:Int)+(l.length:Int))=(C:Int)+(l.length:Int):=aM _ (by omega);have bY:IntKind.i64.wrap ((C:Int)+(l.length:Int)-1)=(C:Int)+(l.length:Int)-1:=aM _ (by omega);have hm:ag (C+l.length-1)=.int .i64 ((C:Int)+(l.length:Int)-1):=by simp only[ag,AV.int.injEq,Bj];omega
   simp[dN,Nz,Ny,Nw,Nv,Nu,Nt,q1,q3,ed,aT,bY];refine done' (C+l.length-1) _ ?_ hcap0;rw[hm];simp
  have e5':(k==5)=false:=by simpa using e5
  rw[aF e5]at hcap0;by_cases e6:k=6
  ·subst e6;obtain⟨s1,s2,s3,s4,s5⟩:=r6 rfl;have hcap1:=hcap0;rw[aS rfl]at hcap1;obtain⟨N,rfl⟩:∃N:Nat,mn=(N:Int):=⟨mn.toNat,by omega⟩
   have hN:N<=50:=by omega
   have e1:=zN hN h5;obtain⟨D,hD⟩:∃D,N*C=D:=⟨_,rfl⟩
   rw[hD]at e1;have hDI:(N:Int)*(C:Int)=(D:Int):=by rw[←hD];push_cast;rfl
   have hwD:IntKind.i64.wrap (D:Int)=(D:Int):=aM _ (by omega);by_cases hmx:mx<0
   ·rw[aS hmx]at hcap1;have bY:IntKind.i64.wrap ((D:Int)+(C:Int))=(D:Int)+C:=aM _ (by omega);have hw3:IntKind.i64.wrap ((D:Int)+(C:Int)+1)=(D:Int)+C+1:=aM _ (by omega);simp[dN,Nz,Ny,Nw,Nv,Nu,Nt,q1,q3,hmx,hDI,hwD,bY,hw3];refine done' (D+C+1) _ ?_ (by rw[hcap1];simp[hD]);simp
   ·rw[aF hmx]at hcap1;obtain⟨M,rfl⟩:∃M:Nat,mx=(M:Int):=⟨mx.toNat,by omega⟩
    have hNM:N<=M:=by omega
    obtain⟨E,hE⟩:∃E,(M-N)*(C+1)=E:=⟨_,rfl⟩
    have e2:=zN (show M-N<=50 by omega) (show C+1<=501 by omega);rw[hE]at e2;have hEI:((M-N:Nat):Int)*((C:Int)+1)=(E:Int):=by rw[←hE];push_cast;rfl
    have hw0:IntKind.i64.wrap ((M:Int)-(N:Int))=((M-N:Nat):Int):=by rw[aM _ (by omega)];omega
    have bY:IntKind.i64.wrap ((C:Int)+1)=(C:Int)+1:=aM _ (by omega);have hwE:IntKind.i64.wrap (E:Int)=(E:Int):=aM _ (by omega);have hw4:IntKind.i64.wrap ((D:Int)+(E:Int))=(D:Int)+E:=aM _ (by omega);have hmx':¬(M:Int)<0:=by omega
    have hMN:((M:Int)-(N:Int)).toNat=M-N:=by omega
    simp[dN,Nz,Ny,Nw,Nv,Nu,Nt,q1,q3,hmx',hDI,hEI,hwD,hwE,hw0,bY,hw4];refine done' (D+E) _ ?_ (by rw[hcap1,hMN];simp[hD,hE]);simp
  ·have e6':(k==6)=false:=by simpa using e6
   rw[aF e6]at hcap0;simp[dN,Nz,Ny,Nw,Nv,Nu,Nt,q1,q3,e5',e6'];refine done' C _ ?_ hcap0;simp[q3]
 ·have hcp:(Re.mk k [a,b,c,d] mn mx l).rcap=1000:=by
   have h:(Re.mk k [a,b,c,d] mn mx l).cap=Re.capL 0 l:=by unfold Re.cap;rw[aS (by omega)]
   unfold Re.rcap;rw[h,aF h5]
  rw[hcp];simp[q2]
mutual
theorem zcW:∀(r:Re)(dh ay:Int),r.can dh ay=true->r.wide->∀(ae:Nat)(H:aj),Rn ak SA.sp ae 71 [r.av] H=some (.ret (ag r.rcap),H)
 | .mk k set mn mx l,dh,ay,hc,hw,ae,H=>zls hc hw (fun x hx=>zcV l k ay (J4 hc).2.2.2.2.2.2 (by unfold Re.wide at hw;exact hw.2.2.2) x hx) ae H
theorem zcV:∀(l:List Re)(k ay:Int),Re.canL l k ay=true->Re.wideL l->∀x∈l,Rn ak SA.sp 0 71 [x.av] []=some (.ret (ag x.rcap),[])
 | [],_,_,_,_=>fun x hx=>by cases hx
 |y::l,k,ay,hc,hw=>fun x hx=>by
  unfold Re.wideL at hw;simp only[Re.canL,aU]at hc;rcases il.1 hx with e|h
  ·rw[e];exact zcW y k (ay+1) hc.1 hw.1 0 []
  ·exact zcV l k ay hc.2 hw.2 x h
end
theorem zcD{ae:Nat}{r:Re}(hw:r.wide)(H:aj):Rn ak SA.sp ae 45 [r.av] H=some (.ret (ag r.states),H):=by
 have hC:=zcY r hw (-1) 1 (by omega) (by omega) 0 [];have qi:=fun h=>zcW r (-1) 1 h hw 0 [];obtain⟨c,aH,bM⟩:=Re.av_agg hw;refine di rfl rfl (by simp only[dG,qU];rfl) rfl ?_;rw[env45];rw[aH]at hC qi ⊢;have fQ:8<=c.length:=by omega
 have bV:List.take 8 c=c:=ek (by omega);unfold Re.states;cases hcan:r.can (-1) 1 with
 |false=>
  rw[hcan]at hC;simp[dN,a45,Tg,Tf,Te,Td,Tc,Ta,S9,bM,fQ,bV,hC]
 |true=>
  rw[hcan]at hC;have qi:=qi hcan;unfold Re.rcap at qi;by_cases h5:r.cap<=500
  ·rw[aS h5]at qi;have jh:¬(500:Int)<(r.cap:Int):=by omega
   have aT:IntKind.i64.wrap ((r.cap:Int)+1)=(r.cap:Int)+1:=aM _ (by omega);have hm:min r.cap 500=r.cap:=by omega
   simp[dN,a45,Tg,Tf,Te,Td,Tc,Ta,S9,bM,fQ,bV,hC,qi,jh,aT,hm]
  ·rw[aF h5]at qi;have hm:min r.cap 500=500:=by omega
   have h1000:(ag 1000)=.int .i64 1000:=rfl;rw[h1000]at qi;have aT:IntKind.i64.wrap 501=501:=by decide
   simp[dN,a45,Tg,Tf,Te,Td,Tc,Ta,S9,bM,fQ,bV,hC,qi,aT,hm]
end
section
theorem zk5{ae:Nat}{l:List Re}{cs:List AV}{H:aj}(hc7:cs.length=7)(hw:Re.wideL l)(bq:l.length<1000000)
  (ih:∀x∈l,∀d m:Int,∃n:Int,Rn ak SA.sp ae 85 [x.av,.int .i64 d,.int .i64 m] H=some (.ret (.int .i64 n),H)) (ay most:Int) :
  ∀(k i:Nat)(n:Int)(v:Nat->AV),i+k=l.length->v 1=.int .i64 ay->v 2=.int .i64 most->v 3=.box (cs ++[bT (Re.avs l)])->v 7=.int .i64 n->v 8=ag i->
   Wp (aP ak SA.sp ae (.loop a85l6) (az 549760008655 v,H)) (fun e t=>e=.exit 0∧∃v',t=(az 549760008655 v',H)∧v' 1=v 1∧v' 2=v 2∧∃n':Int,v' 7=.int .i64 n'):=by
 obtain⟨c0,c1,c2,c3,c4,c5,c6,rfl⟩:∃c0 c1 c2 c3 c4 c5 c6,cs=[c0,c1,c2,c3,c4,c5,c6]:=by
  match cs,hc7 with
  | [c0,c1,c2,c3,c4,c5,c6],_=>exact⟨c0,c1,c2,c3,c4,c5,c6,rfl⟩
 intro k;induction k with
 |zero=>
  intro i n v hi v1 v2 v3 v7 v8;have aK:i=l.length:=by omega
  subst aK;have bz:(l=[]∧bT (Re.avs l)=.nils)∨bT (Re.avs l)=.slc .ro (Re.avs l):=by
   cases l with
   |nil=>exact .inl ⟨rfl,rfl⟩
   |cons x l=>exact .inr rfl
  rw[bu a85l6.eq_1];rcases bz with⟨rfl,bz⟩|bz;all_goals
   rw[bz]at v3;simp only[kg,gV]at v3;simp[au,Nr,v1,v2,v3,v7,v8,ed];exact⟨_,rfl,by simp[v1],by simp[v2],n,by simp[v7]⟩
 |succ k ihr=>
  intro i n v hi v1 v2 v3 v7 v8;have aK:i<l.length:=by omega
  have jC:l[i]∈l:=mO aK;obtain⟨d,aH,bM⟩:=Re.av_agg (kz.1 hw l[i] jC);have fQ:8<=d.length:=by omega
  have bV:List.take 8 d=d:=ek (by omega);have hg:(Re.avs l)[i]?=some (.agg d):=by rw[sZ aK,aH]
  have aR:Re.avs l ≠ []:=by rw[Re.avs_map];simp;intro e;subst e;simp at aK
  obtain⟨m,bf⟩:=ih l[i] jC (IntKind.i64.wrap (ay-1)) (IntKind.i64.wrap (most-n));rw[aH]at bf;have v3':=v3;rw[kM aR]at v3';simp only[kg,gV]at v3';have aT:IntKind.i64.wrap ((i:Int)+1)=(i:Int)+1:=aM _ (by omega);rw[bu a85l6.eq_1];by_cases h1:n<=most
  ·by_cases h2:0<ay
   ·simp[au,Nr,Sg,Sd,v1,v2,v3',v7,v8,ed,aK,h1,h2,hg,bM,fQ,bV,bf,aT];refine(ihr (i+1) (IntKind.i64.wrap (n+m)) _ (by omega) ?_ ?_ ?_ ?_ ?_).mono fun e t h=>?_
    ·simp[v1]
    ·simp[v2]
    ·simp[v3',kM aR]
    ·simp
    ·simp
    ·obtain⟨e1,v',e2,e3,e4,e5⟩:=h;exact⟨e1,v',e2,by rw[e3];simp[v1],by rw[e4];simp[v2],e5⟩
   ·simp[au,Nr,Sg,Sd,v1,v2,v3',v7,v8,ed,aK,h1,h2];exact⟨_,rfl,by simp[v1],by simp[v2],n,by simp[v7]⟩
  ·simp[au,Nr,Sg,Sd,v1,v2,v3',v7,v8,ed,aK,h1];exact⟨_,rfl,by simp[v1],by simp[v2],n,by simp[v7]⟩
theorem zk4{k:Int}{set:List Nat}{mn mx:Int}{l:List Re}(hw:(Re.mk k set mn mx l).wide)
  (ih:∀x∈l,∀d m:Int,∃n:Int,Rn ak SA.sp 0 85 [x.av,.int .i64 d,.int .i64 m] []=some (.ret (.int .i64 n),[])) (ay most:Int) :
  ∃n:Int,∀(ae:Nat)(H:aj),Rn ak SA.sp ae 85 [(Re.mk k set mn mx l).av,.int .i64 ay,.int .i64 most] H=some (.ret (.int .i64 n),H):=by
 have hs:=SA.mono;unfold Re.wide at hw;obtain⟨h4,bq,hm,hwl⟩:=hw;obtain⟨a,b,c,d,rfl⟩:=four h4;have hin:=fun v=>zk5 (cs:=[.int .i64 k,u64 a,u64 b,u64 c,u64 d,.int .i64 mn,.int .i64 mx]) (ae:=0) (H:=[]) rfl hwl bq ih ay most l.length 0 1 v (by omega);have dw:Wp (aP ak SA.sp 0 a85.body (bC a85.vars [(Re.mk k [a,b,c,d] mn mx l).av,.int .i64 ay,.int .i64 most],[])) (fin a85.res (thaw 0 (fun o=> ∃n:Int,o=.ret (.int .i64 n)))):=by
  rw[env85];simp[iO,a85,zfJ,zfI,zfH,Re.av];refine(hin _ ?_ ?_ ?_ ?_ ?_).mono fun e t h=>?_
  ·simp
  ·simp
  ·simp
  ·simp
  ·simp
  obtain⟨rfl,v',rfl,q1,q2,n',q7⟩:=h;simp at q1 q2;by_cases h:ay<=0
  ·simp[dN,Yj,Yi,Yh,q1,q2,h]
  ·simp[dN,Yj,Yi,Yh,q1,q7,h]
 have hc:dG [(Re.mk k [a,b,c,d] mn mx l).av,.int .i64 ay,.int .i64 most]=true:=by simp only[dG,qU,gq];rfl
 obtain⟨o,K,q,⟨n,rfl⟩,rfl⟩:=ziY (f:=85) (ae:=0) (H:=[]) hs rfl rfl hc rfl dw;obtain⟨m,hm⟩:=(zr2).1 q;exact⟨n,fun ae H=>zc5 hs rfl rfl hc hm ae H⟩
mutual
theorem zcH:∀(r:Re),r.wide->∀ay most:Int,∃n:Int,∀(ae:Nat)(H:aj),Rn ak SA.sp ae 85 [r.av,.int .i64 ay,.int .i64 most] H=some (.ret (.int .i64 n),H)
 | .mk k set mn mx l,hw,ay,most=>zk4 hw (fun x hx d m=>zcG l (by unfold Re.wide at hw;exact hw.2.2.2) x hx d m) ay most
theorem zcG:∀(l:List Re),Re.wideL l->∀x∈l,∀d m:Int,∃n:Int,Rn ak SA.sp 0 85 [x.av,.int .i64 d,.int .i64 m] []=some (.ret (.int .i64 n),[])
 | [],_=>fun x hx=>by cases hx
 |y::l,hw=>fun x hx d m=>by
  unfold Re.wideL at hw;rcases il.1 hx with e|h
  ·rw[e];obtain⟨n,h⟩:=zcH y hw.1 d m;exact⟨n,h 0 []⟩
  ·exact zcG l hw.2 x h d m
end
theorem zkW{r:Re}(hw:r.wide):∃b:Bool,∀(ae:Nat)(H:aj),Rn ak SA.sp ae 63 [r.av] H=some (.ret (.bool b),H):=by
 obtain⟨n,hn⟩:=zcH r hw 150 400;have hn:=hn 0 [];refine⟨decide (n<=400),fun ae H=>?_⟩;obtain⟨c,aH,bM⟩:=Re.av_agg hw;refine di rfl rfl (by simp only[dG,qU];rfl) rfl ?_;rw[env63];rw[aH]at hn ⊢;have fQ:8<=c.length:=by omega
 have bV:List.take 8 c=c:=ek (by omega);simp[dN,a63,zgG,zgF,bM,fQ,bV,hn]
theorem zk7{r:Re}(hw:r.wide):∃b:Bool,∀(ae:Nat)(H:aj),Rn ak SA.sp ae 38 [r.av] H=some (.ret (.bool b),H):=by
 obtain⟨b,hb⟩:=zkW hw;have hb:=hb 0 [];have dx:=zcD (ae:=0) hw [];obtain⟨c,aH,bM⟩:=Re.av_agg hw;refine⟨b&&decide (r.states<=300),fun ae H=>?_⟩;refine di rfl rfl (by simp only[dG,qU];rfl) rfl ?_;rw[env38];rw[aH]at hb dx ⊢;have fQ:8<=c.length:=by omega
 have bV:List.take 8 c=c:=ek (by omega);cases b with
 |false=>simp[dN,a38,Tv,Tu,bM,fQ,bV,hb]
 |true=>
  by_cases h:r.states<=300
  ·have h':(r.states:Int)<=300:=by omega
   simp[dN,a38,Tv,Tu,bM,fQ,bV,hb,dx,h,h']
  ·have h':¬(r.states:Int)<=300:=by omega
   simp[dN,a38,Tv,Tu,bM,fQ,bV,hb,dx,h,h']
def rG(s:List UInt8):PR Re:=match uj s with
 | .er a w=>.er a w
 | .ok y j=>if y.states=0 then .er 0 1 else if 500<y.states then .er 0 2 else .ok y j
theorem Wl{s:List UInt8}{y:Re}{j:Nat}(h:uj s=.ok y j):y.wide:=by
 unfold uj at h;split at h
 ·cases h
 rename_i hl;have dK:=(sH (s:=s) (by omega) (qO s 0)).1 0 0 (by omega) (by unfold qO;omega);split at h
 ·cases h
 ·rename_i ls k hx;rw[hx]at dK;obtain⟨b1,b2,b3,b4,b5,_⟩:=dK;simp only[PR.ok.injEq]at h;obtain⟨rfl,rfl⟩:=h;exact(su (m:=k-0+1) (.inr rfl) b3 b4 (by omega) (by omega)).wide
theorem Wm{s:List UInt8}{a w:Nat}(h:uj s=.er a w):w≠0:=by
 unfold uj at h;split at h
 ·simp only[PR.er.injEq]at h;omega
 rename_i hl;have dK:=(sH (s:=s) (by omega) (qO s 0)).1 0 0 (by omega) (by unfold qO;omega);split at h
 ·rename_i a' w' hx;rw[hx]at dK;simp only[PR.er.injEq]at h;obtain⟨rfl,rfl⟩:=h;rcases dK with⟨_,h|h|h|h|h⟩<;>omega
 ·cases h
theorem zdu{s:List UInt8}{y:Re}{j:Nat}(h:rG s=.ok y j):y.wide:=by
 unfold rG at h;split at h
 ·cases h
 rename_i z k hx;split at h
 ·cases h
 split at h
 ·cases h
 simp only[PR.ok.injEq]at h;obtain⟨rfl,rfl⟩:=h;exact Wl hx
theorem Wy{s:List UInt8}{a w:Nat}(h:rG s=.er a w):w≠0:=by
 unfold rG at h;split at h
 ·rename_i a' w' hx;simp only[PR.er.injEq]at h;obtain⟨rfl,rfl⟩:=h;exact Wm hx
 split at h
 ·simp only[PR.er.injEq]at h;omega
 split at h
 ·simp only[PR.er.injEq]at h;omega
 cases h
theorem zcR{ae:Nat}{H:aj}(s:List UInt8):Rn ak SA.sp ae 14 [.str s] H=some (.ret (p9 (rG s)),H):=by
 have hp:=zln (ae:=0) (H:=[]) s;have hz:emptyRe.av=.agg [.int .i64 0,.int .u64 0,.int .u64 0,.int .u64 0,.int .u64 0,.int .i64 0,.int .i64 0,.nils]:=rfl;refine di rfl rfl rfl rfl ?_;rw[env14];unfold rG;cases hx:uj s with
 |er a w=>
  have hw:=Wm hx;have bY:((w:Int)==0)=false:=by simp;omega
  rw[hx]at hp;simp only[p9,hz]at hp ⊢;simp[dN,a14,OX,OW,OV,OU,OT,OQ,OP,hp,hw,bY,aN,bg]
 |ok y j=>
  have hyw:=Wl hx;have dx:=zcD (ae:=0) hyw [];have jT:=fun H=>x9 0 H y;rw[hx]at hp;obtain⟨c1,c2,c3,c4,c5,c6,aH⟩:=Re.av_eight hyw;have hft:∀H,aN 0 H (.tup [y.av,.int .i64 0,.int .i64 0])=some (.tup [y.av,.int .i64 0,.int .i64 0]):=fun H=>by
   have h1:=jT H;generalize y.av=x at h1 ⊢;simp[aN,bg,h1]
  simp only[p9]at hp ⊢;rw[aH]at hp dx hft;replace hp:Rn ak SA.sp 0 44 [.str s] []=some (.ret (.tup [.agg [.int .i64 y.k,c1,c2,c3,c4,c5,c6,bT (Re.avs y.l)],.int .i64 0,.int .i64 0]),[]):=hp;by_cases h0:y.states=0
  ·rw[aS h0];rw[h0]at dx;simp only[hz];simp[dN,a14,OX,OW,OV,OU,OT,OQ,OP,hp,dx,aN,bg]
  ·have jd:((y.states:Int)==0)=false:=by simp;omega
   rw[aF h0];by_cases h5:500<y.states
   ·have jh:(500:Int)<(y.states:Int):=by omega
    rw[aS h5];simp only[hz];simp[dN,a14,OX,OW,OV,OU,OT,OQ,OP,hp,dx,h0,jd,jh,aN,bg]
   ·have jh:¬(500:Int)<(y.states:Int):=by omega
    rw[aF h5];simp only[aH];simp[dN,a14,OX,OW,OV,OU,OT,OQ,OP,hp,dx,h0,jd,jh,hft]
theorem znO(s:List UInt8):∃b:Bool,∀(ae:Nat)(H:aj),Rn ak SA.sp ae 8 [.str s] H=some (.ret (.bool b),H):=by
 have hp:=zcR (ae:=0) (H:=[]) s;have hz:emptyRe.av=.agg [.int .i64 0,.int .u64 0,.int .u64 0,.int .u64 0,.int .u64 0,.int .i64 0,.int .i64 0,.nils]:=rfl;cases hx:rG s with
 |er a w=>
  have hw:=Wy hx;have bY:((w:Int) != 0)=true:=by simp[bne];omega
  rw[hx]at hp;simp only[p9,hz]at hp;refine⟨true,fun ae H=>di rfl rfl rfl rfl ?_⟩;rw[env8];simp[dN,a8,Yb,Ya,X9,hp,hw,bY]
 |ok y j=>
  have hyw:=zdu hx;rw[hx]at hp;obtain⟨b,hb⟩:=zk7 hyw;have hb:=hb 0 [];obtain⟨c1,c2,c3,c4,c5,c6,aH⟩:=Re.av_eight hyw;simp only[p9]at hp;rw[aH]at hp hb;replace hp:Rn ak SA.sp 0 14 [.str s] []=some (.ret (.tup [.agg [.int .i64 y.k,c1,c2,c3,c4,c5,c6,bT (Re.avs y.l)],.int .i64 0,.int .i64 0]),[]):=hp;refine⟨b,fun ae H=>di rfl rfl rfl rfl ?_⟩;rw[env8];simp[dN,a8,Yb,Ya,X9,hp,hb]
end
end Go.Ak
