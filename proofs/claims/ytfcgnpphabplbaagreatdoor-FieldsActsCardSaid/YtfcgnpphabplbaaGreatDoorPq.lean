/- Decimal numbers read and written, in the program and in the document; Trim, Words; records. -/
import Derived.Test.YtfcgnpphabplbaaGreatDoorPp
import Derived.Test.YtfcgnpphabplbaaGreatDoorPd
set_option linter.unusedVariables false
set_option linter.unusedSimpArgs false
namespace Go.Ak
attribute [local simp] Av EA EC EB mM zK wH Cy CB Cz BP BM BN Ac Cs Cq Cr Bz BA
 jP kr wanted cB dZ l8 live BR zU Aj Bw xN put vZ esc sS yn args drop1 jv xV xU yj qX rd wr kW sub AV.cells pack one setCells nJ qI qJ roOf gT qF jI jy mf eY newRow newObj step Ce Cf qR take cz bB lim mG bound uh ww uu nO yf fO
 Cm Ck Ch Ci Cj
 pY ru Ap rR BZ Ca BX
attribute [local simp] sR sT cV bL kA kB kC af aQ aJ gK ah aC dC aA eQ iY fI bH eO bD bN gQ rU bI rF aL dI eZ fK gp lX bW iQ df cO jc dP dM gm mJ fH gH iq iR lc ku fB jX iH iI
attribute [-simp] getElem?_pos
section
theorem uB(c:UInt8)(n:Nat)(hn:n<256):((c.toNat:Int)==(n:Int))=decide (c=UInt8.ofNat n):=by
 by_cases h:c=UInt8.ofNat n
 ·subst h;simp[EG hn]
 ·have:¬c.toNat=n:=fun e=>h (si.1 (by rw[e];simp[EG hn]));simp[h];omega
theorem znx{ae:Nat}{H:aj}{a:Nat}(ha:a<18446744073709551616):Rn ak SA.sp ae 214 [.int .u64 (a:Int),.int .u64 10] H=some (.ret (.tup [.int .u64 ((a*10/18446744073709551616:Nat):Int),.int .u64 ((a*10%18446744073709551616:Nat):Int)]),H):=by
 rw[zr0];show Jr [.int .u64 (.ofNat a),.int .u64 (.ofNat 10)] H=_;have h1:Nat.blt a 18446744073709551616=true:=by rw[Bn];exact ha
 have h2:Nat.blt 10 18446744073709551616=true:=rfl;simp only[Jr,h1,h2,Bool.and_self,bA];rfl
theorem zdt{ae k n:Nat}{o:Bool}{c:UInt8}(hb:ae=0)(hc:nP c=true)(hk:k<=1000000)(hn:n<18446744073709551616):
  Rn ak SA.sp ae 215 [.ptr 0 0,.int .u8 c.toNat,.int .u64 (k:Int)] [some [.int .u64 (n:Int),.bool o]]=some (.ret (.tup []),[some [.int .u64 (((n+(c.toNat-48)*k)%18446744073709551616:Nat):Int),.bool (o||decide (0<(n+(c.toNat-48)*k)/18446744073709551616))]]):=by
 subst hb;rw[zrZ];show Jq 0 [.ptr 0 0,.int .u8 (.ofNat c.toNat),.int .u64 (.ofNat k)] [some [.int .u64 (.ofNat n),.bool o]]=_;simp only[nP,aU,ik]at hc;have h1:Nat.ble 48 c.toNat=true:=xC hc.1;have h2:Nat.ble c.toNat 57=true:=xC hc.2;have h3:Nat.ble k 1000000=true:=xC hk;have h4:Nat.blt n 18446744073709551616=true:=by rw[Bn];exact hn
 have h5:Nat.ble 0 0=true:=rfl;simp only[Jq,h1,h2,h3,h4,h5,Bool.and_self,bA,pY,ru,List.set_cons_zero,Vy];rfl
theorem M6{ae:Nat}{H:aj}{s:List UInt8}{i:Nat}:Rn ak SA.sp ae 213 [.str s,ag i] H=some (.ret (.bool (mg s i)),H):=by
 refine di rfl rfl rfl rfl ?_;rw[zo6];unfold mg;by_cases h:i<s.length
 ·have hI:(i:Int)<(s.length:Int):=by omega
  have hc:s[i]?=some s[i]:=gG h;generalize s[i]=c at hc;rw[hc];simp only[nP];by_cases h1:48<=c.toNat
  ·have h1':(48:Int)<=(c.toNat:Int):=by omega
   by_cases h2:c.toNat<=57
   ·have h2':(c.toNat:Int)<=57:=by omega
    simp[dN,a213,NZ,NY,h,hI,hc,h1,h2,h1',h2',aN,bg]
   ·have h2':¬(c.toNat:Int)<=57:=by omega
    simp[dN,a213,NZ,NY,h,hI,hc,h1,h2,h1',h2',aN,bg]
  ·have h1':¬(48:Int)<=(c.toNat:Int):=by omega
   simp[dN,a213,NZ,NY,h,hI,hc,h1,h1',aN,bg]
 ·have hI:¬(i:Int)<(s.length:Int):=by omega
  have hc:s[i]?=none:=pq (by omega);rw[hc];simp[dN,a213,NZ,NY,h,hI,aN,bg]
theorem zrb{ae:Nat}{H:aj}{s:List UInt8}(hl:s.length<=1000000):∀(m i:Nat)(v:Nat->AV),i+m=s.length->v 0=.str s->v 5=ag i->
  Wp (aP ak SA.sp ae (.loop a204l4) (az 349129794133781029338228097773851226701821 v,H)) (fun e t=>e=.exit 0∧∃v',t=(az 349129794133781029338228097773851226701821 v',H)∧v' 0=.str s∧v' 5=ag (i+jQ (s.drop i))):=by
 intro m;induction m with
 |zero=>
  intro i v hi v0 v5;have aK:i=s.length:=by omega
  subst aK;rw[Qg];rw[bu a204l4.eq_1];simp[au,Oa,N7,v0,v5];exact⟨_,rfl,by simp[v0],by simp[v5,jQ]⟩
 |succ m ih=>
  intro i v hi v0 v5;have fe:i<s.length:=by omega
  have hI:(i:Int)<(s.length:Int):=by omega
  have hc:s[i]?=some s[i]:=gG fe;have hd:s.drop i=s[i]::s.drop (i+1):=iJ fe;have aT:IntKind.i64.wrap ((i:Int)+1)=((i+1:Nat):Int):=aM _ (by omega);rw[hd];generalize s[i]=c at hc;have q1:=uB c 32 (by omega);have q2:=uB c 9 (by omega);have q3:=uB c 10 (by omega);simp only[show((32:Nat):Int)=32 from rfl,show((9:Nat):Int)=9 from rfl,show((10:Nat):Int)=10 from rfl]at q1 q2 q3;rw[bu a204l4.eq_1];unfold jQ;by_cases hb:jk c=true
  ·rw[aS hb];have next:∀w:Nat->AV,w 0=.str s->w 5=ag (i+1)->Wp (aP ak SA.sp ae (.loop a204l4) (az 349129794133781029338228097773851226701821 w,H)) (fun e t=>e=.exit 0∧∃v',t=(az 349129794133781029338228097773851226701821 v',H)∧v' 0=.str s∧v' 5=ag (i+(jQ (s.drop (i+1))+1))):=fun w w0 w5=>by
    rw[show i+(jQ (s.drop (i+1))+1)=i+1+jQ (s.drop (i+1)) by omega];exact ih (i+1) w (by omega) w0 w5
   have aH:c=32∨c=9∨c=10:=by simpa[jk,or_assoc]using hb
   have aH:(((c.toNat:Int)==32)=true∧True∧True)∨(((c.toNat:Int)==32)=false∧((c.toNat:Int)==9)=true∧True)∨(((c.toNat:Int)==32)=false∧((c.toNat:Int)==9)=false∧((c.toNat:Int)==10)=true):=by
    rw[q1,q2,q3];rcases aH with rfl|rfl|rfl
    ·exact .inl ⟨rfl,trivial,trivial⟩
    ·exact .inr (.inl ⟨rfl,rfl,trivial⟩)
    ·exact .inr (.inr ⟨rfl,rfl,rfl⟩)
   clear q1 q2 q3;rcases aH with⟨r1,r2,r3⟩|⟨r1,r2,r3⟩|⟨r1,r2,r3⟩
   all_goals
    simp[au,Oa,N7,v0,v5,hI,fe,hc,aT,r1,r2,r3];refine(next _ ?_ ?_).mono fun e t h=>by simpa using h
    ·simp[v0]
    ·simp
  ·rw[aF hb];have aH:¬c=32∧¬c=9∧¬c=10:=by simpa[jk,or_assoc]using hb
   have r1:((c.toNat:Int)==32)=false:=by rw[q1];simpa using aH.1
   have r2:((c.toNat:Int)==9)=false:=by rw[q2];simpa using aH.2.1
   have r3:((c.toNat:Int)==10)=false:=by rw[q3];simpa using aH.2.2
   simp[au,Oa,N7,v0,v5,hI,fe,hc,aT,r1,r2,r3];exact⟨_,rfl,by simp[v0],by simp[v5]⟩
def wz(n:Nat)(o:Bool):aj:=[some [.int .u64 (n:Int),.bool o]]
def zbt(s:List UInt8)(i V:Nat)(v:Nat->AV)(e:AExit)(t:EH):Prop:=e=.exit 2∧∃v' n' o',t=(az 349129794133781029338228097773851226701821 v',wz n' o')∧zY (jM (s.drop i) V).1 n' o'∧v' 0=.str s∧v' 5=ag (i+(jM (s.drop i) V).2)∧v' 6=v 6∧v' 7=.ptr 0 0∧v' 8=v 8
def zbv(s:List UInt8)(i k w V:Nat)(v:Nat->AV)(e:AExit)(t:EH):Prop:=e=.exit 4∧∃v' n' o',t=(az 349129794133781029338228097773851226701821 v',wz n' o')∧zY (ib (s.drop i) w V).1 n' o'∧v' 0=.str s∧v' 5=ag (i+(ib (s.drop i) w V).2)∧v' 6=v 6∧v' 7=.ptr 0 0∧v' 11=ag (k+(ib (s.drop i) w V).2)
theorem zn8{s:List UInt8}(hl:s.length<=1000000):∀(m i V n:Nat)(o:Bool)(v:Nat->AV),i+m=s.length->zY V n o->v 0=.str s->v 5=ag i->v 7=.ptr 0 0->
  Wp (aP ak SA.sp 0 (.loop a204l15) (az 349129794133781029338228097773851226701821 v,wz n o)) (zbt s i V v):=by
 intro m;induction m with
 |zero=>
  intro i V n o v hi dx v0 v5 v7;have hc:s[i]?=none:=pq (by omega);have hd:=fun H=>M6 (ae:=0) (H:=H) (s:=s) (i:=i);have hda:mg s i=false:=by unfold mg;rw[hc]
  rw[hda]at hd;have hdr:s.drop i=[]:=pu (by omega);rw[bu a204l15.eq_1];simp[au,Ud,Uc,Ub,Ua,T9,v0,v5,hd];refine⟨rfl,_,n,o,rfl,?_,?_,?_,?_,?_,?_⟩;all_goals try rw[hdr]
  all_goals simp[v0,v5,v7,jM,dx]
 |succ m ih=>
  intro i V n o v hi dx v0 v5 v7;have fe:i<s.length:=by omega
  have hc:s[i]?=some s[i]:=gG fe;have hdr:s.drop i=s[i]::s.drop (i+1):=iJ fe;have hd:=fun H=>M6 (ae:=0) (H:=H) (s:=s) (i:=i);have aT:IntKind.i64.wrap ((i:Int)+1)=((i+1:Nat):Int):=aM _ (by omega);generalize s[i]=c at hc hdr;have hda:mg s i=nP c:=by unfold mg;rw[hc]
  rw[hda]at hd;rw[bu a204l15.eq_1];cases hb:nP c with
  |false=>
   rw[hb]at hd;simp[au,Ud,Uc,Ub,Ua,T9,v0,v5,hd];have e:jM (s.drop i) V=(V,0):=by rw[hdr,jM,aF (by rw[hb];simp)]
   refine⟨rfl,_,n,o,rfl,?_,?_,?_,?_,?_,?_⟩;all_goals try rw[e]
   all_goals simp[v0,v5,v7,dx]
  |true=>
   rw[hb]at hd;have aB:=Qy dx;have hm:=fun H=>znx (ae:=0) (H:=H) aB;have hst2:=zjX dx;have hlt2:=Qy hst2;have hn:=zdt (ae:=0) (k:=1000000) (o:=o||decide (0<n*10/18446744073709551616)) rfl hb (aX _) hlt2;have hst3:=zb8 hst2 ((c.toNat-48)*1000000);have next:=fun w=>ih (i+1) _ _ _ w (by omega) hst3
   generalize n*10%18446744073709551616=n2 at *;generalize n*10/18446744073709551616=h2 at *;generalize(n2+(c.toNat-48)*1000000)%18446744073709551616=n3 at *;generalize(o||decide (0<h2)||decide (0<(n2+(c.toNat-48)*1000000)/18446744073709551616))=o3 at *;simp only[wz];have e:jM (s.drop i) V=((jM (s.drop (i+1)) (10*V+(c.toNat-48)*1000000)).1,(jM (s.drop (i+1)) (10*V+(c.toNat-48)*1000000)).2+1):=by rw[hdr,jM,aS hb]
   have turn:∀(w:Nat->AV) e t,w 6=v 6->w 8=v 8->zbt s (i+1) (10*V+(c.toNat-48)*1000000) w e t->zbt s i V v e t:=fun w x t w6 w8 ⟨h1,v',n',o',h2,h3,h4,h5,h6,h7,h8⟩=>by
    refine⟨h1,v',n',o',h2,?_,h4,?_,h6.trans w6,h7,h8.trans w8⟩
    ·rw[e];exact h3
    ·rw[e,h5];simp only;congr 1;omega
   simp only[wz]at next ⊢
   have hn:Rn ak SA.sp 0 215 [.ptr 0 0,.int .u8 c.toNat,.int .u64 1000000] [some [.int .u64 (n2:Int),.bool (o||decide (0<h2))]]=some (.ret (.tup []),[some [.int .u64 (n3:Int),.bool o3]]):=hn;cases o;all_goals
    simp only[xJ,Gg]at hn;simp[au,Ud,Uc,Ub,Ua,T9,v0,v5,v7,hd,hm,hn,fe,hc,aT];refine(next _ ?_ ?_ ?_).mono fun e t h=>turn _ e t ?_ ?_ h;all_goals simp[v0,v7]
theorem zoH{s:List UInt8}(hl:s.length<=1000000):∀(m i k w V n:Nat)(o:Bool)(v:Nat->AV),i+m=s.length->k<=i->w<=1000000->zY V n o->v 0=.str s->v 5=ag i->v 7=.ptr 0 0->v 11=ag k->v 12=.int .u64 (w:Int)->
  Wp (aP ak SA.sp 0 (.loop a204l25) (az 349129794133781029338228097773851226701821 v,wz n o)) (zbv s i k w V v):=by
 intro m;induction m with
 |zero=>
  intro i k w V n o v hi hk hw dx v0 v5 v7 v11 v12;have hc:s[i]?=none:=pq (by omega);have hd:=fun H=>M6 (ae:=0) (H:=H) (s:=s) (i:=i);have hda:mg s i=false:=by unfold mg;rw[hc]
  rw[hda]at hd;have hdr:s.drop i=[]:=pu (by omega);rw[bu a204l25.eq_1];simp[au,TZ,TY,TW,TV,TU,v0,v5,hd];refine⟨rfl,_,n,o,rfl,?_,?_,?_,?_,?_,?_⟩;all_goals try rw[hdr]
  all_goals simp[v0,v5,v7,v11,ib,dx]
 |succ m ih=>
  intro i k w V n o v hi hk hw dx v0 v5 v7 v11 v12;have fe:i<s.length:=by omega
  have hc:s[i]?=some s[i]:=gG fe;have hdr:s.drop i=s[i]::s.drop (i+1):=iJ fe;have hd:=fun H=>M6 (ae:=0) (H:=H) (s:=s) (i:=i);have aT:IntKind.i64.wrap ((i:Int)+1)=((i+1:Nat):Int):=aM _ (by omega);have hk1:IntKind.i64.wrap ((k:Int)+1)=((k+1:Nat):Int):=aM _ (by omega);generalize s[i]=c at hc hdr;have hda:mg s i=nP c:=by unfold mg;rw[hc]
  rw[hda]at hd;rw[bu a204l25.eq_1];cases hb:nP c with
  |false=>
   rw[hb]at hd;simp[au,TZ,TY,TW,TV,TU,v0,v5,hd];have e:ib (s.drop i) w V=(V,0):=by rw[hdr,ib,aF (by rw[hb];simp)]
   refine⟨rfl,_,n,o,rfl,?_,?_,?_,?_,?_,?_⟩;all_goals try rw[e]
   all_goals simp[v0,v5,v7,v11,dx]
  |true=>
   rw[hb]at hd;have aB:=Qy dx;have hn:=zdt (ae:=0) (k:=w/10) (o:=o) rfl hb (by omega) aB;have hst3:=zb8 dx ((c.toNat-48)*(w/10));have next:=fun x=>ih (i+1) (k+1) (w/10) _ _ _ x (by omega) (by omega) (by omega) hst3
   generalize(n+(c.toNat-48)*(w/10))%18446744073709551616=n3 at *;generalize(o||decide (0<(n+(c.toNat-48)*(w/10))/18446744073709551616))=o3 at *;have e:ib (s.drop i) w V=((ib (s.drop (i+1)) (w/10) (V+(c.toNat-48)*(w/10))).1,(ib (s.drop (i+1)) (w/10) (V+(c.toNat-48)*(w/10))).2+1):=by rw[hdr,ib,aS hb]
   have turn:∀(x:Nat->AV) y t,x 6=v 6->zbv s (i+1) (k+1) (w/10) (V+(c.toNat-48)*(w/10)) x y t->zbv s i k w V v y t:=fun x y t x6 ⟨h1,v',n',o',h2,h3,h4,h5,h6,h7,h8⟩=>by
    refine⟨h1,v',n',o',h2,?_,h4,?_,h6.trans x6,h7,?_⟩
    ·rw[e];exact h3
    ·rw[e,h5];simp only;congr 1;omega
    ·rw[e,h8];simp only;congr 1;omega
   simp only[wz]at next ⊢
   have hw10:IntKind.u64.wrap ((w:Int)/10)=(w:Int)/10:=by simp[IntKind.wrap,IntKind.bits,IntKind.signed];omega
   rw[show((w/10:Nat):Int)=(w:Int)/10 from by omega]at hn;simp[au,TZ,TY,TW,TV,TU,v0,v5,v7,v11,v12,hd,fe,hc,aT,hk1,hw10,hn];refine(next _ ?_ ?_ ?_ ?_ ?_).mono fun e t h=>turn _ e t ?_ h;all_goals simp[v0,v7]
theorem zkx{ae:Nat}{H:aj}{n p:Nat}{m:Bool}(hn:n<18446744073709551616):Rn ak SA.sp ae 216 [.int .u64 (n:Int),.bool m] H=some (.ret (.tup [.int .i64 (ll m n p).1,ag (ll m n p).2.2]),H):=by
 refine di rfl rfl rfl rfl ?_;rw[zo5];unfold ll;cases m with
 |false=>
  simp only[fq];by_cases h:9223372036854775808<=n
  ·have hI:(9223372036854775807:Int)<(n:Int):=by omega
   rw[aS (by simpa using h)];simp[au,a216,NW,NV,NU,NT,NR,NQ,hI,aN,bg]
  ·have hI:¬(9223372036854775807:Int)<(n:Int):=by omega
   have hI2:¬(9223372036854775808:Int)<(n:Int):=by omega
   have hw:IntKind.i64.wrap (n:Int)=n:=aM _ (by omega);rw[aF (by simpa using h)];simp[au,a216,NW,NV,NU,NT,NR,NQ,hI,hI2,hw,aN,bg]
 |true=>
  simp only[bA];by_cases h:9223372036854775808<n
  ·have hI:(9223372036854775808:Int)<(n:Int):=by omega
   rw[aS (by simpa using h)];simp[au,a216,NW,NV,NU,NT,NR,NQ,hI,aN,bg]
  ·have hI:¬(9223372036854775808:Int)<(n:Int):=by omega
   have hw:IntKind.i64.wrap (IntKind.u64.wrap (-(n:Int)))= -(n:Int):=by
    simp[IntKind.wrap,IntKind.bits,IntKind.signed];omega
   rw[aF (by simpa using h)];simp[au,a216,NW,NV,NU,NT,NR,NQ,hI,hw,aN,bg]
end
section
def trimF(s:List UInt8):List UInt8:=Lib.trimS s [32,9,10]
theorem zbQ(s:List UInt8):(trimF s).length<=s.length:=by
 unfold trimF Lib.trimS Lib.trimLeftS Lib.trimRightS;refine fT (Qi _).length_le ?_;rw[VA];refine fT (Qi _).length_le ?_;rw[VA];exact aX _
theorem zjw{ae:Nat}{H:aj}{s:List UInt8}(hl:s.length<=1000000):Rn ak SA.sp ae 203 [.str s] H=some (.ret (.str (trimF s)),H):=by
 have ht:∀H,Rn ak SA.sp 0 212 [.str s,.str [32,9,10]] H=some (.ret (.str (trimF s)),H):=fun H=>by
  rw[zrU];have h1:Nat.ble s.length 4294967296=true:=xC (by omega);have h2:(Nat.ble ([32,9,10]:List UInt8).length 4294967280&&([32,9,10]:List UInt8).all (fun b=>Nat.blt b.toNat 128))=true:=by decide
  simp only[Mf,h1,Gi,h2,bA];rfl
 refine di rfl rfl rfl rfl ?_;rw[zpb];simp[dX,a203,zhk,zhj,ht,aN,bg]
def qK(x:Int×Nat×Nat):AV:=.tup [.int .i64 x.1,ag x.2.1,ag x.2.2]
theorem JK{s:List UInt8}{i:Nat}{c d:UInt8}(h:s[i]?=some c):mX s i d=decide (c=d):=by
 unfold mX;rw[h];by_cases e:c=d
 ·simp[e]
 ·simp[e]
theorem Fe{s:List UInt8}{i:Nat}{d:UInt8}(h:s[i]?=none):mX s i d=false:=by
 unfold mX;rw[h];rfl
def M7:ACode:=.seq (.seq (.region N9) (.cond true (.v 129) (.seq (.region N8) .ret) .skip)) (.seq (.region TT) (.seq (.seq (.region TS) (.cond true (.v 138) (.region TR) .skip)) (.seq (.region TQ) .ret)))
def Xn:ACode:=.seq (.region Zr) (.seq (.region Zq) (.seq (.block 2 (.loop a204l15)) (.seq (.region H6) (.seq (.seq (.region H5) (.cond true (.v 111) (.seq (.region HZ) (.seq (.region HY) (.block 4 (.loop a204l25)))) .skip)) M7))))
theorem zrD:a204.body=.seq (.region Zu) (.seq (.region Zt) (.seq (.block 0 (.loop a204l4)) (.seq (.region Kw) (.seq (.seq (.region Kv) (.cond true (.v 61) (.region Ku) .skip)) Xn)))):=rfl
theorem zeU{V n p k:Nat}{o m:Bool}(dx:zY V n o)(v:Nat->AV)(v5:v 5=ag p)(v6:v 6=.bool m)(v7:v 7=.ptr 0 0)(v11:v 11=ag k):
  Wp (aP ak SA.sp 0 M7 (az 349129794133781029338228097773851226701821 v,wz n o)) (fin [.tmp 2,.tmp 3,.tmp 4] (thaw 0 (· =.ret (qK (if k=0 then(0,0,0)else ll m V p))))):=by
 unfold M7 wz qK;by_cases hk:k=0
 ·subst hk;simp[au,N9,N8,v5,v6,v7,v11,aN,bg]
 ·have hk2:((k:Int)==0)=false:=by simp;omega
  rw[aF hk];have hsg:=fun H=>zkx (ae:=0) (H:=H) (p:=p) (m:=m) (Qy dx);rcases dx with⟨rfl,rfl,h⟩|⟨rfl,h1,h2⟩
  ·have hp:(ll m n p).2.1=p:=by unfold ll;split<;>rfl
   rw[hp];generalize(ll m n p).1=x at *;generalize(ll m n p).2.2=e at *;simp[au,N9,N8,TT,TS,TR,TQ,v5,v6,v7,v11,hk2,hsg,aN,bg]
  ·have hp:ll m V p=(0,p,10):=by
    unfold ll;rw[aS];cases m<;>simp<;>omega
   rw[hp];generalize(ll m n p).1=x at *;generalize(ll m n p).2.2=e at *;simp[au,N9,N8,TT,TS,TR,TQ,v5,v6,v7,v11,hk2,hsg,aN,bg]
def zX(s:List UInt8)(m:Bool)(a:Nat):Int×Nat×Nat:=
 let p:=a+(jM (s.drop a) 0).2
 let v:=(jM (s.drop a) 0).1
 if mX s p 46&&(decide (0<(jM (s.drop a) 0).2)||mg s (p+1))then
  ll m (ib (s.drop (p+1)) 1000000 v).1 (p+1+(ib (s.drop (p+1)) 1000000 v).2)
 else if(jM (s.drop a) 0).2=0 then(0,0,0)else ll m v p
theorem zd8{s:List UInt8}{i w v:Nat}(h:mg s i=true):0<(ib (s.drop i) w v).2:=by
 unfold mg at h;cases hc:s[i]? with
 |none=>rw[hc]at h;cases h
 |some c=>
  rw[hc]at h;have fe:=(eD.1 hc).1;have hd:s.drop i=s[i]::s.drop (i+1):=iJ fe;have he:s[i]=c:=by rw[gG fe]at hc;exact Bl hc
  rw[hd,he];unfold ib;rw[aS h];omega
theorem zqo{s:List UInt8}(hl:s.length<=1000000){a:Nat}(ha:a<=s.length){m:Bool}(v:Nat->AV)(v0:v 0=.str s)(v5:v 5=ag a)(v6:v 6=.bool m):
  Wp (aP ak SA.sp 0 Xn (az 349129794133781029338228097773851226701821 v,[])) (fin [.tmp 2,.tmp 3,.tmp 4] (thaw 0 (· =.ret (qK (zX s m a))))):=by
 unfold Xn;have gy:=fun w=>zn8 (s:=s) hl (s.length-a) a 0 0 false w (by omega) (.inl ⟨rfl,rfl,by omega⟩);have hk:=WM (s.drop a) 0;rw[kZ]at hk;obtain⟨R,hR⟩:∃R,R=qK (zX s m a):=⟨_,rfl⟩
 rw[←hR];unfold zX at hR;simp only[wz]at gy;simp[iO,Zr,Zq,v0,v5,v6];refine(gy _ ?_ ?_ ?_).mono fun e t h=>?_
 ·simp[v0]
 ·simp[v5]
 ·simp
 obtain⟨rfl,v1,n1,o1,rfl,dx,k0,k5,k6,k7,k8⟩:=h;simp[v5,v6]at k6 k8;clear gy;generalize(jM (s.drop a) 0).1=V at *;generalize(jM (s.drop a) 0).2=k at *;have hw:IntKind.i64.wrap ((a:Int)+(k:Int)-(a:Int))=(k:Int):=by rw[aM _ (by omega)];omega
 have aT:IntKind.i64.wrap ((a:Int)+(k:Int)+1)=((a+k+1:Nat):Int):=aM _ (by omega);have hd:=fun H=>M6 (ae:=0) (H:=H) (s:=s) (i:=a+k+1);rw[show ag (a+k+1)=AV.int .i64 ((a:Int)+(k:Int)+1)from dF (AV.int .i64) (by omega)]at hd
 -- behind the point
 have goes:a+k<s.length->0<k+(ib (s.drop (a+k+1)) 1000000 V).2->R=qK (ll m (ib (s.drop (a+k+1)) 1000000 V).1 (a+k+1+(ib (s.drop (a+k+1)) 1000000 V).2))->∀w:Nat->AV,w 0=.str s->w 5=ag (a+k+1)->w 6=.bool m->w 7=.ptr 0 0->w 11=ag k->w 12=.int .u64 1000000->
   Wp (aP ak SA.sp 0 (.loop a204l25) (az 349129794133781029338228097773851226701821 w,wz n1 o1)) (ul 4 (andThen (aP ak SA.sp 0 M7) (fin [.tmp 2,.tmp 3,.tmp 4] (thaw 0 (· =.ret R))))):=fun aB hp hq w w0 w5 w6 w7 w11 w12=>by
  have hl2:=fun w=>zoH (s:=s) hl (s.length-(a+k+1)) (a+k+1) k 1000000 V n1 o1 w (by omega) (by omega) (aX _) dx;refine(hl2 w w0 w5 w7 w11 w12).mono fun e t h=>?_;obtain⟨rfl,v2,n2,o2,rfl,hst2,j0,j5,j6,j7,j11⟩:=h;rw[w6]at j6;have qg:=zeU hst2 v2 j5 j6 j7 j11;rw[aF (by omega),←hq]at qg;simpa using qg
 have stay:R=qK (if k=0 then(0,0,0)else ll m V (a+k))->∀w:Nat->AV,w 5=ag (a+k)->w 6=.bool m->w 7=.ptr 0 0->w 11=ag k->
   Wp (aP ak SA.sp 0 M7 (az 349129794133781029338228097773851226701821 w,wz n1 o1)) (fin [.tmp 2,.tmp 3,.tmp 4] (thaw 0 (· =.ret R))):=fun hq w w5 w6 w7 w11=>by rw[hq];exact zeU dx w w5 w6 w7 w11
 cases hc:s[a+k]? with
 |none=>
  have hI:¬(a:Int)+(k:Int)<(s.length:Int):=by have:=rq.1 hc;omega
  simp only[Fe hc,Bool.false_and,mQ,ig]at hR;simp[au,H6,H5,HZ,HY,k0,k5,k6,k7,k8,hw,hI];refine stay hR _ ?_ ?_ ?_ ?_;all_goals simp[k5,k6,k7]
 |some c=>
  have fe:=(eD.1 hc).1;have hI:(a:Int)+(k:Int)<(s.length:Int):=by omega
  have q1:=uB c 46 (by omega);simp only[show((46:Nat):Int)=46 from rfl]at q1;have sP:(0:Int)<=(a:Int)+(k:Int):=by omega
  have htn:((a:Int)+(k:Int)).toNat=a+k:=by omega
  by_cases h1:c=46
  ·have e1:((c.toNat:Int)==46)=true:=by rw[q1];simpa using h1
   have d1:decide (c=46)=true:=by simpa using h1
   simp only[JK hc,d1,Gi]at hR;by_cases hk0:0<k
   ·have hkI2:(0:Int)<(k:Int):=by omega
    rw[LB hk0,Gg,aS rfl]at hR;simp[au,H6,H5,HZ,HY,k0,k5,k6,k7,k8,hw,aT,hI,fe,hc,sP,htn,e1,hkI2,hk0];refine goes fe (by omega) hR _ ?_ ?_ ?_ ?_ ?_ ?_;all_goals simp[k0,k6,k7]
   ·have hkI2:¬(0:Int)<(k:Int):=by omega
    rw[decide_eq_false hk0,xJ]at hR;cases hda:mg s (a+k+1)with
    |true=>
     rw[hda]at hd;have hp:=zd8 (w:=1000000) (v:=V) hda;rw[hda,aS rfl]at hR;simp[au,H6,H5,HZ,HY,k0,k5,k6,k7,k8,hw,aT,hI,fe,hc,sP,htn,e1,hkI2,hk0,hd];refine goes fe (by omega) hR _ ?_ ?_ ?_ ?_ ?_ ?_;all_goals simp[k0,k6,k7]
    |false=>
     rw[hda]at hd;rw[hda]at hR;simp only[mQ,ig]at hR;simp[au,H6,H5,HZ,HY,k0,k5,k6,k7,k8,hw,aT,hI,fe,hc,sP,htn,e1,hkI2,hk0,hd];refine stay hR _ ?_ ?_ ?_ ?_;all_goals simp[k5,k6,k7]
  ·have e1:((c.toNat:Int)==46)=false:=by rw[q1];simpa using h1
   have d1:decide (c=46)=false:=by simpa using h1
   simp only[JK hc,d1,Bool.false_and,mQ,ig]at hR;simp[au,H6,H5,HZ,HY,k0,k5,k6,k7,k8,hw,hI,fe,hc,sP,htn,e1];refine stay hR _ ?_ ?_ ?_ ?_;all_goals simp[k5,k6,k7]
theorem zqp{ae:Nat}{H:aj}{s:List UInt8}(hl:s.length<=1000000):Rn ak SA.sp ae 204 [.str s] H=some (.ret (qK (uy s)),H):=by
 refine di rfl rfl rfl rfl ?_;rw[zpa,zrD];have gy:=fun v=>zrb (ae:=0) (H:=[]) hl s.length 0 v (by omega);simp[iO,Zu,Zt,Oa,N7];refine(gy _ ?_ ?_).mono fun e t h=>?_
 ·simp
 ·simp
 obtain⟨rfl,v1,rfl,k0,k5⟩:=h;simp only[xI,jZ]at k5;have hb:=XL s;have hF:uy s=zX s (mX s (jQ s) 45) (xO s):=rfl;have jw:xO s<=s.length:=by
  unfold xO;split
  ·rename_i h;cases hc:s[jQ s]? with
   |none=>rw[Fe hc,Fe hc]at h;cases h
   |some c=>have:=(eD.1 hc).1;omega
  ·exact hb
 have tail:=fun w=>zqo hl jw (m:=mX s (jQ s) 45) w;rw[hF];generalize qK (zX s (mX s (jQ s) 45) (xO s))=R at *;unfold xO at tail;generalize jQ s=b at *;cases hc:s[b]? with
 |none=>
  have hI:¬(b:Int)<(s.length:Int):=by have:=rq.1 hc;omega
  simp only[Fe hc]at tail;simp[au,Kw,Kv,Ku,k0,k5,hI];refine tail _ ?_ ?_ ?_;all_goals simp[k0,k5]
 |some c=>
  have hbl:=(eD.1 hc).1;have hI:(b:Int)<(s.length:Int):=by omega
  have hw:IntKind.i64.wrap ((b:Int)+1)=((b+1:Nat):Int):=aM _ (by omega);simp only[JK hc]at tail;have q1:=uB c 45 (by omega);have q2:=uB c 43 (by omega);simp only[show((45:Nat):Int)=45 from rfl,show((43:Nat):Int)=43 from rfl]at q1 q2;by_cases h1:c=45
  ·have e1:((c.toNat:Int)==45)=true:=by rw[q1];simpa using h1
   simp only[h1,decide_true,Gg,fD]at tail;simp[au,Kw,Kv,Ku,k0,k5,hI,hbl,hc,hw,e1];refine tail _ ?_ ?_ ?_;all_goals simp[k0]
  ·have e1:((c.toNat:Int)==45)=false:=by rw[q1];simpa using h1
   have d1:decide (c=45)=false:=by simpa using h1
   by_cases h2:c=43
   ·have e2:((c.toNat:Int)==43)=true:=by rw[q2];simpa using h2
    have d2:decide (c=43)=true:=by simpa using h2
    simp only[d1,d2,Bool.or_true,fD]at tail;simp[au,Kw,Kv,Ku,k0,k5,hI,hbl,hc,hw,e1,e2];refine tail _ ?_ ?_ ?_;all_goals simp[k0]
   ·have e2:((c.toNat:Int)==43)=false:=by rw[q2];simpa using h2
    have d2:decide (c=43)=false:=by simpa using h2
    simp only[d1,d2,Bool.or_false,mQ,ig]at tail;simp[au,Kw,Kv,Ku,k0,k5,hI,hbl,hc,hw,e1,e2];refine tail _ ?_ ?_ ?_;all_goals simp[k0,k5]
end
section
theorem Aw(l:List Nat):(dE l).length=l.length:=by simp[dE]
theorem Xl{l:List Nat}{i d:Nat}(h:l[i]?=some d):(dE l)[i]?=some (ag d):=by
 unfold dE;rw[xH,h];rfl
theorem MS(l:List Nat):jF 0 (dE l)=true:=by
 cases l with
 |nil=>rfl
 |cons x l=>rfl
theorem ze2(l:List Nat):dG (dE l)=true:=by
 unfold dE;induction l with
 |nil=>rfl
 |cons x l ih=>simp[dG,gq,ih]
theorem zov(n:Nat)(H:aj)(p:Perm)(l:List Nat):aN n H (.slc p (dE l))=some (.slc p (dE l)):=by
 have:bg n H (dE l)=some (dE l):=by
  unfold dE;induction l with
  |nil=>rfl
  |cons x l ih=>simp[bg,aN,ih]
 simp only[aN,this]
theorem zqn(l:List Nat)(n:Nat):(dE l).take n=dE (l.take n):=by simp[dE,List.map_take]
theorem Ru(p:Perm)(l:List Nat)(r:List AV)(h:dG r=true):dG (.slc p (dE l)::r)=true:=by
 have:=ze2 l;simp only[dG,gq,this,h];rfl
theorem zcT{ae:Nat}{H:aj}{l:List Nat}{i:Nat}:Rn ak SA.sp ae 228 [.slc .ro (dE l),ag i] H=some (.ret (ag (mo l i)),H):=by
 refine di rfl rfl (Ru _ _ _ rfl) rfl ?_;rw[zo3];have hX:=Aw l;unfold mo;cases h:l[i]? with
 |none=>
  have hI:¬(i:Int)<(l.length:Int):=by have:=rq.1 h;omega
  generalize dE l=X at *;simp[dN,a228,Zo,Zn,Zm,Zl,hX,hI,aN,bg]
 |some d=>
  have aB:=(eD.1 h).1;have hI:(i:Int)<(l.length:Int):=by omega
  have hg:=Xl h;generalize dE l=X at *;simp[dN,a228,Zo,Zn,Zm,Zl,hX,hI,hg,aN,bg]
theorem znQ{ae:Nat}{H:aj}{a b:List Nat}(ha:lW a)(hb:lW b)(hl:a.length+b.length<=1000000000):∀(n:Nat)(v:Nat->AV),n<=a.length+b.length+1->d9 (a.drop n)=d9 (b.drop n)->v 0=.slc .ro (dE a)->v 1=.slc .ro (dE b)->v 5=.int .i64 ((n:Int)-1)->
  Wp (aP ak SA.sp ae (.loop a227l6) (az 2101299 v,H)) (fun e t=>(e=.exit 0∧d9 a=d9 b∧∃v',t=(az 2101299 v',H))∨(e=.ret∧∃v',t=(az 2101299 v',H)∧v' 4=.bool (decide (d9 a<d9 b)))):=by
 intro n;induction n with
 |zero=>
  intro v hn he v0 v1 v5;have aB:¬(0:Int)<= -1:=by omega
  rw[bu a227l6.eq_1];simp[au,TF,TE,TD,TC,v5];exact⟨by simpa using he,_,rfl⟩
 |succ n ih=>
  intro v hn he v0 v1 v5;have h5:v 5=ag n:=by rw[v5];congr 1;omega
  have jD:(0:Int)<=(n:Int):=by omega
  have d1:=fun H=>zcT (ae:=ae) (H:=H) (l:=a) (i:=n);have d2:=fun H=>zcT (ae:=ae) (H:=H) (l:=b) (i:=n);have hw:IntKind.i64.wrap ((n:Int)-1)=(n:Int)-1:=aM _ (by omega);rw[bu a227l6.eq_1];by_cases h:mo a n=mo b n
  ·have e1:=M5 a n;have e2:=M5 b n;have he2:d9 (a.drop n)=d9 (b.drop n):=by omega
   have hI:((mo a n:Int) != (mo b n:Int))=false:=by simp[h]
   have next:=fun w=>ih w (by omega) he2
   generalize dE a=X at *;generalize dE b=Y at *;simp[au,TF,TE,TD,TC,v0,v1,h5,d1,d2,hI,hw];refine(next _ ?_ ?_ ?_).mono fun e t h=>h;all_goals simp[v0,v1]
  ·have hI:((mo a n:Int) != (mo b n:Int))=true:=by simp[bne];omega
   have hless:=znR ha hb he h;have hdec:decide (d9 a<d9 b)=decide (mo a n<mo b n):=F7.2 hless;rw[hdec];generalize dE a=X at *;generalize dE b=Y at *;simp[au,TF,TE,TD,TC,v0,v1,h5,d1,d2,hI];exact⟨_,rfl,by simp⟩
theorem zdD{ae:Nat}{H:aj}{a b:List Nat}(ha:lW a)(hb:lW b)(hl:a.length+b.length<=1000000000):Rn ak SA.sp ae 227 [.slc .ro (dE a),.slc .ro (dE b)] H=some (.ret (.bool (decide (d9 a<d9 b))),H):=by
 refine di rfl rfl (Ru _ _ _ (Ru _ _ _ rfl)) rfl ?_;rw[zo4];have hX:=Aw a;have hY:=Aw b;have gy:=fun v=>znQ (ae:=0) (H:=[]) ha hb hl (a.length+b.length+1) v (aX _) (by rw[pu (by omega),pu (by omega)]);have hw:IntKind.i64.wrap ((a.length:Int)+(b.length:Int))=(a.length:Int)+(b.length:Int):=aM _ (by omega);generalize dE a=X at *;generalize dE b=Y at *;simp[iO,zhg,zhf,a227,hX,hY,hw];refine(gy _ ?_ ?_ ?_).mono fun e t h=>?_
 ·simp
 ·simp
 ·simp
 rcases h with⟨rfl,he,v',rfl⟩|⟨rfl,v',rfl,k4⟩
 ·have:decide (d9 a<d9 b)=false:=by simp;omega
  rw[this];simp[dX,zhe,aN,bg]
 ·simp[k4,aN,bg]
theorem zkR{ae:Nat}{H:aj}:∀(n:Nat)(l:List Nat)(v:Nat->AV),l.length=n->n<=1000000000->v 0=.slc .ro (dE l)->
  Wp (aP ak SA.sp ae (.loop a206l3) (az 16389 v,H)) (fun e t=>e=.exit 0∧∃v',t=(az 16389 v',H)∧v' 0=.slc .ro (dE (qA l))):=by
 intro n;induction n with
 |zero=>
  intro l v hn _ v0;have:l=[]:=mi hn;subst this;rw[bu a206l3.eq_1];simp[au,TM,TL,v0,dE];exact⟨_,rfl,by simp[v0,dE,qA]⟩
 |succ n ih=>
  intro l v hn hb v0;obtain⟨m,d,rfl⟩:∃m d,l=m ++[d]:=by
   have aR:l ≠ []:=fun e=>by subst e;cases hn
   exact⟨l.dropLast,l.getLast aR,(zbz aR).symm⟩
  have hm:m.length=n:=by simpa using hn
  have hX:=Aw (m ++[d]);rw[hn]at hX;have hg:(dE (m ++[d]))[n]?=some (ag d):=Xl (by rw[←hm,Gd (aX _),Nat.sub_self];rfl);have bV:(dE (m ++[d])).take n=dE m:=by rw[zqn,←hm];simp
  have gJ:(0:Int)<((n+1:Nat):Int):=by omega
  have hw:IntKind.i64.wrap (((n+1:Nat):Int)-1)=(n:Int):=by rw[aM _ (by omega)];omega
  have bY:IntKind.i64.wrap ((n:Int)+1-1)=(n:Int):=by rw[aM _ (by omega)];omega
  have hw3:IntKind.i64.wrap (n:Int)=(n:Int):=aM _ (by omega);rw[bu a206l3.eq_1,zbS];have kw:n<=(dE (m ++[d])).length:=by omega
  have hnl2:n<(dE (m ++[d])).length:=by omega
  by_cases h0:d=0
  ·rw[aS h0];subst h0;have next:=fun w=>ih m w hm (by omega)
   have bF:=MS (m ++[0]);generalize dE (m ++[0])=X at *;generalize dE m=Y at *;generalize dE (qA m)=Z at *;simp[au,TM,TL,v0,hX,hg,gJ,hw,bY,hw3,kw,hnl2,bV,bF];refine(next _ ?_).mono fun e t h=>by simpa using h
   simp
  ·rw[aF h0];have hI:((d:Int)==0)=false:=by simp;omega
   generalize dE (m ++[d])=X at *;simp[au,TM,TL,v0,hX,hg,gJ,hw,bY,hw3,kw,hnl2,hI];exact⟨_,rfl,by simp[v0]⟩
theorem zkQ{ae:Nat}{H:aj}{l:List Nat}(hl:l.length<=1000000000):Rn ak SA.sp ae 206 [.slc .ro (dE l)] H=some (.ret (.slc .ro (dE (qA l))),H):=by
 refine di rfl rfl (Ru _ _ _ rfl) rfl ?_;rw[zo8];have hf:=zov 0 [] .ro (qA l);have gy:=fun v=>zkR (ae:=0) (H:=[]) l.length l v rfl hl;generalize dE l=X at *;generalize dE (qA l)=Y at *;simp[iO,zhi,a206];refine(gy _ ?_).mono fun e t h=>?_
 ·simp
 obtain⟨rfl,v',rfl,k0⟩:=h;simp[dX,zhh,k0,hf]
end
section
theorem zny:d9 mostD=9223372036854775808:=by decide
theorem zdw:lW mostD:=fun d hd=>by
 simp[mostD]at hd;omega
theorem zm1(ae:Nat)(H:aj):Rn ak SA.sp ae 217 [.int .i64 (-9223372036854775808)] H=some (.ret (.agg [.bool true,.slc .ro (dE mostD)]),H):=by
 rw[Rn_of];rfl
def EP(m:Bool)(n:Nat):Int:=if m then -(n:Int)else n
theorem zrk{D:List Nat}(hD:lW D)(hl:D.length<=1000000000){m:Bool}(hV:if m then d9 D<=9223372036854775808 else d9 D<9223372036854775808):∀(n:Nat)(v:Nat->AV),n<=D.length->v 1=.box [.bool m,.slc .ro (dE D)]->v 3=ag 0->v 5=.int .i64 (EP m (d9 (D.drop n)))->v 6=.int .i64 ((n:Int)-1)->
  Wp (aP ak SA.sp 0 (.loop a207l11) (az 18270388351 v,[])) (fun e t=>e=.exit 0∧∃v',t=(az 18270388351 v',[])∧v' 5=.int .i64 (EP m (d9 D))):=by
 intro n;induction n with
 |zero=>
  intro v hn v1 v3 v5 v6;rw[xI]at v5;rw[bu a207l11.eq_1];simp[au,TJ,TI,TH,TG,TK,v6];exact⟨_,rfl,by simp[v5]⟩
 |succ n ih=>
  intro v hn v1 v3 v5 v6;have h6:v 6=ag n:=by rw[v6];congr 1;omega
  have jD:(0:Int)<=(n:Int):=by omega
  have aB:n<D.length:=by omega
  obtain⟨d,hd⟩:∃d,D[n]?=some d:=⟨_,gG aB⟩
  have hg:=Xl hd;have hdv:=M5 D n;have hdd:mo D n=d:=by unfold mo;rw[hd]
  rw[hdd]at hdv;have cu:d9 (D.drop n)<=d9 D:=by
   have:=Xo D n;have h1:1*d9 (D.drop n)<=10^n*d9 (D.drop n):=zM _ (Nat.pow_pos (by omega));omega
  have hw6:IntKind.i64.wrap ((n:Int)-1)=(n:Int)-1:=aM _ (by omega);have next:=fun w=>ih w (by omega)
  rw[hdv]at next
  have hX:=Aw D;generalize d9 (D.drop (n+1))=a at *;generalize d9 (D.drop n)=b at *;generalize d9 D=V at *;generalize dE D=X at *;rw[bu a207l11.eq_1];cases m with
  |false=>
   simp only[EP,mQ,ig]at *;have aT:IntKind.i64.wrap ((a:Int)*10)=(a:Int)*10:=aM _ (by omega);have bY:IntKind.i64.wrap ((a:Int)*10+(d:Int))=((d+10*a:Nat):Int):=by rw[aM _ (by omega)];omega
   simp[au,TJ,TI,TH,TG,TK,v1,v5,h6,hg,aT,bY,hw6];refine(next _ ?_ ?_ ?_ ?_).mono fun e t h=>by simpa using h
   all_goals simp[v1,v3]
  |true=>
   simp only[EP,fD]at *;have aT:IntKind.i64.wrap (-(a:Int)*10)= -(a:Int)*10:=aM _ (by omega);have bY:IntKind.i64.wrap (-(a:Int)*10-(d:Int))= -((d+10*a:Nat):Int):=by rw[aM _ (by omega)];omega
   simp[au,TJ,TI,TH,TG,TK,v1,v5,h6,hg,aT,bY,hw6];refine(next _ ?_ ?_ ?_ ?_).mono fun e t h=>by simpa using h
   all_goals simp[v1,v3]
theorem zrj{ae:Nat}{H:aj}{D:List Nat}(hD:lW D)(hl:D.length<=100000000){m:Bool}(p:Nat):
  Rn ak SA.sp ae 207 [.agg [.bool m,.slc .ro (dE D)]] H=some (.ret (.tup [.int .i64 (ll m (d9 D) p).1,ag (ll m (d9 D) p).2.2]),H):=by
 have qj:dG [AV.agg [.bool m,.slc .ro (dE D)]]=true:=by
  have:=ze2 D;simp only[dG,gq,this];rfl
 have h1:=fun H=>zdD (ae:=0) (H:=H) zdw hD (by simp[mostD];omega);have h2:=fun H=>zdD (ae:=0) (H:=H) hD zdw (by simp[mostD];omega);rw[zny]at h1 h2;have hof:=zm1 0;refine di rfl rfl qj rfl ?_;rw[zo7];unfold ll;have hX:=Aw D;have gy:=fun hV v=>zrk hD (by omega) (m:=m) hV D.length v (aX _);rw[pu (aX _)]at gy;have hw:IntKind.i64.wrap ((D.length:Int)-1)=(D.length:Int)-1:=aM _ (by omega);generalize d9 D=V at *;generalize dE D=X at *;generalize dE mostD=Y at *;cases m with
 |false=>
  simp only[fq];by_cases h:9223372036854775808<=V
  ·rw[aS (by simpa using h)];by_cases h3:9223372036854775808<V
   ·have e1:decide (9223372036854775808<V)=true:=by simpa using h3
    rw[e1]at h1;simp[au,Kt,Kr,Kq,Ko,Kn,Km,a207,hof,h1,aN,bg]
   ·have e1:decide (9223372036854775808<V)=false:=by simpa using h3
    have e2:decide (V<9223372036854775808)=false:=by simp;omega
    rw[e1]at h1;rw[e2]at h2;simp[au,Kt,Kr,Kq,Ko,Kn,Km,a207,hof,h1,h2,aN,bg]
  ·rw[aF (by simpa using h)];have e1:decide (9223372036854775808<V)=false:=by simp;omega
   have e2:decide (V<9223372036854775808)=true:=by simp;omega
   rw[e1]at h1;rw[e2]at h2;have hl2:=gy (by simp;omega);simp[au,Kt,Kr,Kq,Ko,Kn,Km,a207,hof,h1,h2,hX,hw];refine(hl2 _ ?_ ?_ ?_ ?_).mono fun e t h=>?_
   ·simp
   ·simp
   ·simp[EP,d9]
   ·simp
   obtain⟨rfl,v',rfl,k5⟩:=h;simp only[EP,mQ,ig]at k5;simp[dX,Zp,k5,aN,bg]
 |true=>
  simp only[bA];by_cases h:9223372036854775808<V
  ·rw[aS (by simpa using h)];have e1:decide (9223372036854775808<V)=true:=by simpa using h
   rw[e1]at h1;simp[au,Kt,Kr,Kq,Ko,Kn,Km,a207,hof,h1,aN,bg]
  ·rw[aF (by simpa using h)];have e1:decide (9223372036854775808<V)=false:=by simpa using h
   rw[e1]at h1;have hl2:=gy (by simp;omega);simp[au,Kt,Kr,Kq,Ko,Kn,Km,a207,hof,h1,hX,hw];refine(hl2 _ ?_ ?_ ?_ ?_).mono fun e t h=>?_
   ·simp
   ·simp
   ·simp[EP,d9]
   ·simp
   obtain⟨rfl,v',rfl,k5⟩:=h;simp only[EP,fD]at k5;simp[dX,Zp,k5,aN,bg]
end
section
theorem WL{ae:Nat}{H:aj}{c:UInt8}:Rn ak SA.sp ae 205 [.int .u8 c.toNat] H=some (.ret (.bool (nP c)),H):=by
 refine di rfl rfl rfl rfl ?_;rw[zo9];unfold nP;by_cases h1:48<=c.toNat
 ·have h1':(48:Int)<=(c.toNat:Int):=by omega
  by_cases h2:c.toNat<=57
  ·have h2':(c.toNat:Int)<=57:=by omega
   simp[dX,a205,TP,TN,h1,h2,h1',h2',aN,bg]
  ·have h2':¬(c.toNat:Int)<=57:=by omega
   simp[dX,a205,TP,TN,h1,h2,h1',h2',aN,bg]
 ·have h1':¬(48:Int)<=(c.toNat:Int):=by omega
  simp[dX,a205,TP,TN,h1,h1',aN,bg]
theorem zlC{ae:Nat}{H:aj}{s:List UInt8}(hl:s.length<=1000000):∀(m i:Nat)(v:Nat->AV),i+m=s.length->v 0=.str s->v 5=ag i->
  Wp (aP ak SA.sp ae (.loop a197l4) (az 353616228353796860312178525197301714941 v,H)) (fun e t=>e=.exit 0∧∃v',t=(az 353616228353796860312178525197301714941 v',H)∧v' 0=.str s∧v' 5=ag (i+jQ (s.drop i))):=by
 intro m;induction m with
 |zero=>
  intro i v hi v0 v5;have aK:i=s.length:=by omega
  subst aK;rw[Qg];rw[bu a197l4.eq_1];simp[au,Um,Ue,v0,v5];exact⟨_,rfl,by simp[v0],by simp[v5,jQ]⟩
 |succ m ih=>
  intro i v hi v0 v5;have fe:i<s.length:=by omega
  have hI:(i:Int)<(s.length:Int):=by omega
  have hc:s[i]?=some s[i]:=gG fe;have hd:s.drop i=s[i]::s.drop (i+1):=iJ fe;have aT:IntKind.i64.wrap ((i:Int)+1)=((i+1:Nat):Int):=aM _ (by omega);rw[hd];generalize s[i]=c at hc;have q1:=uB c 32 (by omega);have q2:=uB c 9 (by omega);have q3:=uB c 10 (by omega);simp only[show((32:Nat):Int)=32 from rfl,show((9:Nat):Int)=9 from rfl,show((10:Nat):Int)=10 from rfl]at q1 q2 q3;rw[bu a197l4.eq_1];unfold jQ;by_cases hb:jk c=true
  ·rw[aS hb];have next:∀w:Nat->AV,w 0=.str s->w 5=ag (i+1)->Wp (aP ak SA.sp ae (.loop a197l4) (az 353616228353796860312178525197301714941 w,H)) (fun e t=>e=.exit 0∧∃v',t=(az 353616228353796860312178525197301714941 v',H)∧v' 0=.str s∧v' 5=ag (i+(jQ (s.drop (i+1))+1))):=fun w w0 w5=>by
    rw[show i+(jQ (s.drop (i+1))+1)=i+1+jQ (s.drop (i+1)) by omega];exact ih (i+1) w (by omega) w0 w5
   have aH:c=32∨c=9∨c=10:=by simpa[jk,or_assoc]using hb
   have aH:(((c.toNat:Int)==32)=true∧True∧True)∨(((c.toNat:Int)==32)=false∧((c.toNat:Int)==9)=true∧True)∨(((c.toNat:Int)==32)=false∧((c.toNat:Int)==9)=false∧((c.toNat:Int)==10)=true):=by
    rw[q1,q2,q3];rcases aH with rfl|rfl|rfl
    ·exact .inl ⟨rfl,trivial,trivial⟩
    ·exact .inr (.inl ⟨rfl,rfl,trivial⟩)
    ·exact .inr (.inr ⟨rfl,rfl,rfl⟩)
   clear q1 q2 q3;rcases aH with⟨r1,r2,r3⟩|⟨r1,r2,r3⟩|⟨r1,r2,r3⟩
   all_goals
    simp[au,Um,Ue,v0,v5,hI,fe,hc,aT,r1,r2,r3];refine(next _ ?_ ?_).mono fun e t h=>by simpa using h
    ·simp[v0]
    ·simp
  ·rw[aF hb];have aH:¬c=32∧¬c=9∧¬c=10:=by simpa[jk,or_assoc]using hb
   have r1:((c.toNat:Int)==32)=false:=by rw[q1];simpa using aH.1
   have r2:((c.toNat:Int)==9)=false:=by rw[q2];simpa using aH.2.1
   have r3:((c.toNat:Int)==10)=false:=by rw[q3];simpa using aH.2.2
   simp[au,Um,Ue,v0,v5,hI,fe,hc,aT,r1,r2,r3];exact⟨_,rfl,by simp[v0],by simp[v5]⟩
def ED(p w V:Nat)(D:List Nat):Prop:=(p<=6∧w=10^(6-p)∧d9 D*w=V)∨(6<p∧w=0∧d9 D=V)
theorem zi5{p w V:Nat}{D:List Nat}(h:ED p w V D)(d:Nat):ED (p+1) (w/10) (V+d*(w/10)) (if p<6 then d::D else D):=by
 rcases h with⟨h1,rfl,h3⟩|⟨h1,rfl,h3⟩
 ·by_cases hp:p<6
  ·rw[aS hp];left;have e:10^(6-p)=10*10^(6-(p+1)):=by
    rw[show 6-p=(6-(p+1))+1 by omega,EF,Ga]
   have hw:10^(6-p)/10=10^(6-(p+1)):=by rw[e];exact Nat.mul_div_cancel_left _ (by omega)
   refine⟨by omega,hw,?_⟩;rw[hw,←h3,e];generalize 10^(6-(p+1))=q;rw[d9,tV,Ga 10 (d9 D),LD];omega
  ·rw[aF hp];have:p=6:=by omega
   subst this;right;refine⟨by omega,rfl,?_⟩;simp at h3 ⊢;exact h3
 ·rw[aF (by omega)];right;exact⟨by omega,rfl,by simpa using h3⟩
def Vq(s:List UInt8)(i fV w V p:Nat)(v:Nat->AV)(e:AExit)(t:EH):Prop:=e=.exit 2∧∃v' D',t=(az 353616228353796860312178525197301714941 v',[])∧v' 0=.str s∧v' 6=v 6∧v' 5=ag (i+(ib (s.drop i) w V).2)∧v' 7=.slc .own (dE D')∧v' 8=ag (p+(ib (s.drop i) w V).2)∧v' 9=ag (fV+(ib (s.drop i) w V).2)∧
 lW D'∧D'.length<=i+(ib (s.drop i) w V).2∧∃w',ED (p+(ib (s.drop i) w V).2) w' (ib (s.drop i) w V).1 D'
theorem Xm{c:UInt8}(h:nP c=true):48<=c.toNat∧c.toNat-48<=9:=by
 simp only[nP,aU,ik]at h;omega
theorem Rq{d:Nat}{D:List Nat}(h:lW D)(hd:d<=9):lW (d::D):=fun x hx=>by
 rcases il.1 hx with rfl|hx
 ·exact hd
 ·exact h x hx
theorem zeQ{c:UInt8}(h:nP c=true):IntKind.i64.wrap (IntKind.u8.wrap ((c.toNat:Int)-48))=((c.toNat-48:Nat):Int):=by
 have:=Xm h;have e:((c.toNat:Int)-48)=((c.toNat-48:Nat):Int):=by omega
 have e2:IntKind.u8.wrap ((c.toNat-48:Nat):Int)=((c.toNat-48:Nat):Int):=by simp[IntKind.wrap,IntKind.bits,IntKind.signed];omega
 rw[e,e2,aM _ (by omega)]
theorem zlb{s:List UInt8}(hl:s.length<=1000000):∀(m i fV w V p:Nat)(D:List Nat)(v:Nat->AV),i+m=s.length->fV<=i->p<=i->D.length<=i->lW D->ED p w V D->v 0=.str s->v 5=ag i->v 7=.slc .own (dE D)->v 8=ag p->v 9=ag fV->
  Wp (aP ak SA.sp 0 (.loop a197l21) (az 353616228353796860312178525197301714941 v,[])) (Vq s i fV w V p v):=by
 intro m;induction m with
 |zero=>
  intro i fV w V p D v hi hm hp hDl hD hR v0 v5 v7 v8 v9;have hdr:s.drop i=[]:=pu (by omega);have hI:¬(i:Int)<(s.length:Int):=by omega
  rw[bu a197l21.eq_1];simp[au,uQ,uP,uO,uN,uM,uL,uK,uJ,uI,uH,uG,v0,v5,hI];refine⟨rfl,_,D,rfl,?_,?_,?_,?_,?_,?_,hD,?_,w,?_⟩;all_goals try rw[hdr]
  all_goals simp[v0,v5,v7,v8,v9,ib,hDl,hR]
 |succ m ih=>
  intro i fV w V p D v hi hm hp hDl hD hR v0 v5 v7 v8 v9;have fe:i<s.length:=by omega
  have hI:(i:Int)<(s.length:Int):=by omega
  have hc:s[i]?=some s[i]:=gG fe;have hdr:s.drop i=s[i]::s.drop (i+1):=iJ fe;generalize s[i]=c at hc hdr;have hn:=fun H=>WL (ae:=0) (H:=H) (c:=c);have hpn:¬(p:Int)<0:=by omega
  have q1:=uB c 46 (by omega);simp only[show((46:Nat):Int)=46 from rfl]at q1;rw[bu a197l21.eq_1];cases hb:nP c with
  |false=>
   rw[hb]at hn;have e:ib (s.drop i) w V=(V,0):=by rw[hdr,ib,aF (by rw[hb];simp)]
   have fin:∀v',v' 0=.str s->v' 6=v 6->v' 5=ag i->v' 7=.slc .own (dE D)->v' 8=ag p->v' 9=ag fV->Vq s i fV w V p v (.exit 2) (az 353616228353796860312178525197301714941 v',[]):=fun v' k0 k6 k5 k7 k8 k9=>by
    refine⟨rfl,v',D,rfl,k0,k6,?_,k7,?_,?_,hD,?_,w,?_⟩;all_goals rw[e]
    all_goals simp[k5,k8,k9,hDl,hR]
   by_cases h46:c=46
   ·have e46:((c.toNat:Int)==46)=true:=by rw[q1];simpa using h46
    simp[au,uQ,uP,uO,uN,uM,uL,uK,uJ,uI,uH,uG,v0,v5,v8,hI,fe,hc,hn,e46,hpn];refine fin _ ?_ ?_ ?_ ?_ ?_ ?_;all_goals simp[v0,v5,v7,v8,v9]
   ·have e46:((c.toNat:Int)==46)=false:=by rw[q1];simpa using h46
    simp[au,uQ,uP,uO,uN,uM,uL,uK,uJ,uI,uH,uG,v0,v5,v8,hI,fe,hc,hn,e46];refine fin _ ?_ ?_ ?_ ?_ ?_ ?_;all_goals simp[v0,v5,v7,v8,v9]
  |true=>
   rw[hb]at hn;have hdg:=Xm hb;have e46:((c.toNat:Int)==46)=false:=by simp;omega
   have hwd:=zeQ hb;have hw5:IntKind.i64.wrap ((i:Int)+1)=((i+1:Nat):Int):=aM _ (by omega);have hw8:IntKind.i64.wrap ((p:Int)+1)=((p+1:Nat):Int):=aM _ (by omega);have hw9:IntKind.i64.wrap ((fV:Int)+1)=((fV+1:Nat):Int):=aM _ (by omega);have hR2:=zi5 hR (c.toNat-48);have e:ib (s.drop i) w V=((ib (s.drop (i+1)) (w/10) (V+(c.toNat-48)*(w/10))).1,(ib (s.drop (i+1)) (w/10) (V+(c.toNat-48)*(w/10))).2+1):=by rw[hdr,ib,aS hb]
   have turn:∀(x:Nat->AV) y t,x 6=v 6->Vq s (i+1) (fV+1) (w/10) (V+(c.toNat-48)*(w/10)) (p+1) x y t->Vq s i fV w V p v y t:=fun x y t x6 ⟨h1,v',D',h2,h3,h4,h5,h6,h7,h8,h9,h10,w',h11⟩=>by
    refine⟨h1,v',D',h2,h3,h4.trans x6,?_,h6,?_,?_,h9,?_,w',?_⟩
    ·rw[e,h5];simp only;congr 1;omega
    ·rw[e,h7];simp only;congr 1;omega
    ·rw[e,h8];simp only;congr 1;omega
    ·rw[e];simp only;omega
    ·rw[e];simp only;rw[show p+((ib (s.drop (i+1)) (w/10) (V+(c.toNat-48)*(w/10))).2+1)=p+1+(ib (s.drop (i+1)) (w/10) (V+(c.toNat-48)*(w/10))).2 by omega];exact h11
   by_cases h6:p<6
   ·have h6I:(p:Int)<6:=by omega
    rw[aS h6]at hR2;have bF:=MS D;have bq:1+(dE D).length<=4294967296:=by rw[Aw];omega
    have hcat:dE ((c.toNat-48)::D)=ag (c.toNat-48)::dE D:=rfl;have next:=fun x=>ih (i+1) (fV+1) (w/10) (V+(c.toNat-48)*(w/10)) (p+1) ((c.toNat-48)::D) x (by omega) (by omega) (by omega) (by simp;omega) (Rq hD hdg.2) hR2
    rw[hcat]at next
    generalize dE D=X at *;simp[au,uQ,uP,uO,uN,uM,uL,uK,uJ,uI,uH,uG,v0,v5,v7,v8,v9,hI,fe,hc,hn,e46,h6I,h6,hwd,hw5,hw8,hw9,eY,bF,bq];refine(next _ ?_ ?_ ?_ ?_ ?_).mono fun e t h=>turn _ e t ?_ h;all_goals simp[v0]
   ·have h6I:¬(p:Int)<6:=by omega
    rw[aF h6]at hR2;have next:=fun x=>ih (i+1) (fV+1) (w/10) (V+(c.toNat-48)*(w/10)) (p+1) D x (by omega) (by omega) (by omega) (by omega) hD hR2
    generalize dE D=X at *;simp[au,uQ,uP,uO,uN,uM,uL,uK,uJ,uI,uH,uG,v0,v5,v7,v8,v9,hI,fe,hc,hn,e46,h6I,h6,hw5,hw8,hw9];refine(next _ ?_ ?_ ?_ ?_ ?_).mono fun e t h=>turn _ e t ?_ h;all_goals simp[v0,v7]
end
section
def Gl(s:List UInt8)(i fV:Nat)(x:Nat×Nat):Option (Nat×Nat×Nat):=
 if mX s (i+x.2) 46=true then
  (if(decide (0<fV+x.2)||mg s (i+x.2+1))=true then some ((ib (s.drop (i+x.2+1)) 1000000 x.1).1,i+x.2+1+(ib (s.drop (i+x.2+1)) 1000000 x.1).2,fV+x.2+(ib (s.drop (i+x.2+1)) 1000000 x.1).2)
  else none)
 else some (x.1,i+x.2,fV+x.2)
def rD(s:List UInt8)(i V fV:Nat):Option (Nat×Nat×Nat):=Gl s i fV (jM (s.drop i) V)
def fits(pt:Int)(D:List Nat)(W:Nat):Prop:=(pt= -1∧d9 D*1000000=W)∨∃p:Nat,pt=p∧∃w,ED p w W D
def Lv(s:List UInt8)(i fV V:Nat)(v:Nat->AV)(e:AExit)(t:EH):Prop:=∃v',t=(az 353616228353796860312178525197301714941 v',[])∧match rD s i V fV with
 |none=>e=.ret∧v' 2=ag 0∧v' 3=ag 0∧v' 4=ag 0
 |some (W,q,n)=>e=.exit 2∧v' 0=.str s∧v' 6=v 6∧v' 5=ag q∧v' 9=ag n∧∃D' pt,v' 7=.slc .own (dE D')∧v' 8=.int .i64 pt∧lW D'∧D'.length<=q∧pt<=(q:Int)∧fits pt D' W
theorem zjl(d:Nat)(D:List Nat):d9 (d::D)*1000000=10*(d9 D*1000000)+d*1000000:=by
 generalize 1000000=k;rw[d9,tV,LD,Bo]
theorem zla{s:List UInt8}(hl:s.length<=1000000):∀(m i fV V:Nat)(D:List Nat)(v:Nat->AV),i+m=s.length->fV<=i->D.length<=i->lW D->d9 D*1000000=V->v 0=.str s->v 5=ag i->v 7=.slc .own (dE D)->v 8=.int .i64 (-1)->v 9=ag fV->
  Wp (aP ak SA.sp 0 (.loop a197l21) (az 353616228353796860312178525197301714941 v,[])) (Lv s i fV V v):=by
 intro m;induction m with
 |zero=>
  intro i fV V D v hi hm hDl hD hV v0 v5 v7 v8 v9;have hdr:s.drop i=[]:=pu (by omega);have hI:¬(i:Int)<(s.length:Int):=by omega
  have sM:rD s i V fV=some (V,i,fV):=by
   have h46:=Fe (s:=s) (i:=i) (d:=46) (pq (by omega));unfold rD;rw[hdr];simp[jM,Gl,h46]
  rw[bu a197l21.eq_1];simp[au,uQ,uP,uO,uN,uM,uL,uK,uJ,uI,uH,uG,v0,v5,hI];refine⟨_,rfl,?_⟩;rw[sM];exact⟨rfl,by simp[v0],by simp,by simp[v5],by simp[v9],D, -1,by simp[v7],by simp[v8],hD,hDl,by omega,.inl ⟨rfl,hV⟩⟩
 |succ m ih=>
  intro i fV V D v hi hm hDl hD hV v0 v5 v7 v8 v9;have fe:i<s.length:=by omega
  have hI:(i:Int)<(s.length:Int):=by omega
  have hc:s[i]?=some s[i]:=gG fe;have hdr:s.drop i=s[i]::s.drop (i+1):=iJ fe;generalize s[i]=c at hc hdr;have hn:=fun H=>WL (ae:=0) (H:=H) (c:=c);have q1:=uB c 46 (by omega);simp only[show((46:Nat):Int)=46 from rfl]at q1;have hw5:IntKind.i64.wrap ((i:Int)+1)=((i+1:Nat):Int):=aM _ (by omega);have hw9:IntKind.i64.wrap ((fV:Int)+1)=((fV+1:Nat):Int):=aM _ (by omega);rw[bu a197l21.eq_1];cases hb:nP c with
  |true=>
   rw[hb]at hn;have hdg:=Xm hb;have e46:((c.toNat:Int)==46)=false:=by simp;omega
   have hwd:=zeQ hb;have sM:rD s i V fV=rD s (i+1) (10*V+(c.toNat-48)*1000000) (fV+1):=by
    unfold rD;rw[hdr,jM,aS hb];generalize jM (s.drop (i+1)) (10*V+(c.toNat-48)*1000000)=x;obtain⟨W,k⟩:=x;unfold Gl;simp only;rw[show i+(k+1)=i+1+k by omega,show fV+(k+1)=fV+1+k by omega]
   have bF:=MS D;have bq:1+(dE D).length<=4294967296:=by rw[Aw];omega
   have hcat:dE ((c.toNat-48)::D)=ag (c.toNat-48)::dE D:=rfl;have hlen1:((c.toNat-48)::D).length<=i+1:=by simp;omega
   have hV1:d9 ((c.toNat-48)::D)*1000000=10*V+(c.toNat-48)*1000000:=by
    rw[←hV];exact zjl _ _
   have next:=fun x=>ih (i+1) (fV+1) (10*V+(c.toNat-48)*1000000) ((c.toNat-48)::D) x (by omega) (by omega) hlen1 (Rq hD hdg.2) hV1
   rw[hcat]at next
   have turn:∀(x:Nat->AV) y t,x 6=v 6->Lv s (i+1) (fV+1) (10*V+(c.toNat-48)*1000000) x y t->Lv s i fV V v y t:=fun x y t x6 h=>by
    unfold Lv at *;rw[sM,←x6];exact h
   generalize dE D=X at *;simp[au,uQ,uP,uO,uN,uM,uL,uK,uJ,uI,uH,uG,v0,v5,v7,v8,v9,hI,fe,hc,hn,e46,hwd,hw5,hw9,eY,bF,bq];refine(next _ ?_ ?_ ?_ ?_ ?_).mono fun e t h=>turn _ e t ?_ h;all_goals simp[v0,v8]
  |false=>
   rw[hb]at hn;have e:jM (s.drop i) V=(V,0):=by rw[hdr,jM,aF (by rw[hb];simp)]
   by_cases h46:c=46
   ·have e46:((c.toNat:Int)==46)=true:=by rw[q1];simpa using h46
    have d46:mX s i 46=true:=by rw[JK hc];simpa using h46
    have sM:rD s i V fV=if(decide (0<fV)||mg s (i+1))=true then some ((ib (s.drop (i+1)) 1000000 V).1,i+1+(ib (s.drop (i+1)) 1000000 V).2,fV+(ib (s.drop (i+1)) 1000000 V).2)else none:=by
     unfold rD;rw[e];simp[Gl,d46]
    -- on behind the point
    have goes:(0<fV∨mg s (i+1)=true)->∀w:Nat->AV,w 0=.str s->w 6=v 6->w 5=ag (i+1)->w 7=.slc .own (dE D)->w 8=ag 0->w 9=ag fV->Wp (aP ak SA.sp 0 (.loop a197l21) (az 353616228353796860312178525197301714941 w,[])) (Lv s i fV V v):=fun eH w w0 w6 w5 w7 w8 w9=>by
     refine(zlb hl (s.length-(i+1)) (i+1) fV 1000000 V 0 D w (by omega) (by omega) (by omega) (by omega) hD (.inl ⟨by omega,rfl,hV⟩) w0 w5 w7 w8 w9).mono fun e t h=>?_;obtain⟨rfl,v',D',rfl,k0,k6,k5,k7,k8,k9,kD,kl,w',kR⟩:=h;refine⟨v',rfl,?_⟩;rw[sM,aS (by rcases eH with h|h<;>simp[h])];exact⟨rfl,k0,k6.trans w6,k5,k9,D',_,k7,k8,kD,kl,by omega,.inr ⟨_,rfl,w',kR⟩⟩
    by_cases hm0:fV=0
    ·subst hm0;have hw51:IntKind.i64.wrap ((i:Int)+1)=(i:Int)+1:=aM _ (by omega);cases hc2:s[i+1]? with
     |none=>
      have jD:=rq.1 hc2;have hgeI:(s.length:Int)<=(i:Int)+1:=by omega
      have hda:mg s (i+1)=false:=by unfold mg;rw[hc2]
      rw[hda]at sM;simp[au,uQ,uP,uO,uN,uM,uL,uK,uJ,uI,uH,uG,v0,v5,v7,v8,v9,hI,fe,hc,hn,e46,hw51,hgeI];refine⟨_,rfl,?_⟩;rw[sM];exact⟨rfl,by simp,by simp,by simp⟩
     |some c2=>
      have hlt2:=(eD.1 hc2).1;have rQ:¬(s.length:Int)<=(i:Int)+1:=by omega
      have iZ:=fun H=>WL (ae:=0) (H:=H) (c:=c2);have hda:mg s (i+1)=nP c2:=by unfold mg;rw[hc2]
      have h0i:(0:Int)<=(i:Int)+1:=by omega
      have htn:((i:Int)+1).toNat=i+1:=by omega
      cases jG:nP c2 with
      |true=>
       rw[jG]at iZ hda;simp[au,uQ,uP,uO,uN,uM,uL,uK,uJ,uI,uH,uG,v0,v5,v7,v8,v9,hI,fe,hc,hn,e46,hw51,rQ,h0i,htn,hc2,iZ];refine(goes (.inr hda) _ ?_ ?_ ?_ ?_ ?_ ?_).mono fun e t h=>h;all_goals simp[v0,v7,v9]
      |false=>
       rw[jG]at iZ hda;rw[hda]at sM;simp[au,uQ,uP,uO,uN,uM,uL,uK,uJ,uI,uH,uG,v0,v5,v7,v8,v9,hI,fe,hc,hn,e46,hw51,rQ,h0i,htn,hc2,iZ];refine⟨_,rfl,?_⟩;rw[sM];exact⟨rfl,by simp,by simp,by simp⟩
    ·have hmI:((fV:Int)==0)=false:=by simp;omega
     simp[au,uQ,uP,uO,uN,uM,uL,uK,uJ,uI,uH,uG,v0,v5,v7,v8,v9,hI,fe,hc,hn,e46,hmI,hw5];refine(goes (.inl (by omega)) _ ?_ ?_ ?_ ?_ ?_ ?_).mono fun e t h=>h;all_goals simp[v0,v7,v9]
   ·have e46:((c.toNat:Int)==46)=false:=by rw[q1];simpa using h46
    have d46:mX s i 46=false:=by rw[JK hc];simpa using h46
    have sM:rD s i V fV=some (V,i,fV):=by
     unfold rD;rw[e];simp[Gl,d46]
    simp[au,uQ,uP,uO,uN,uM,uL,uK,uJ,uI,uH,uG,v0,v5,v8,hI,fe,hc,hn,e46];refine⟨_,rfl,?_⟩;rw[sM];exact⟨rfl,by simp[v0],by simp,by simp[v5],by simp[v9],D, -1,by simp[v7],by simp[v8],hD,hDl,by omega,.inl ⟨rfl,hV⟩⟩
theorem zi6{p w W:Nat}{D:List Nat}(h:ED p w W D)(hp:p<6):∃w',ED (p+1) w' W (0::D):=by
 have:=zi5 h 0;rw[aS hp,Nat.zero_mul,qx]at this;exact⟨_,this⟩
theorem zsi{p w W:Nat}{D:List Nat}(h:ED p w W D)(hp:¬p<6):d9 D=W:=by
 rcases h with⟨h1,h2,h3⟩|⟨h1,h2,h3⟩
 ·have:p=6:=by omega
  subst this;subst h2;simpa using h3
 ·exact h3
def Lu(q W:Nat)(v:Nat->AV)(e:AExit)(t:EH):Prop:=e=.exit 4∧∃v' D',t=(az 353616228353796860312178525197301714941 v',[])∧v' 6=v 6∧v' 5=v 5∧v' 7=.slc .own (dE D')∧lW D'∧D'.length<=q+7∧d9 D'=W
theorem Wq{q W:Nat}(hq:q<=1000000):∀(n p w:Nat)(D:List Nat)(v:Nat->AV),p+n=6∨(n=0∧6<=p)->D.length<=q+p->D.length+n<=q+6->p<=1000000->lW D->ED p w W D->v 7=.slc .own (dE D)->v 8=ag p->
  Wp (aP ak SA.sp 0 (.loop a197l29) (az 353616228353796860312178525197301714941 v,[])) (Lu q W v):=by
 intro n;induction n with
 |zero=>
  intro p w D v hp hDl hDn hpb hD hR v7 v8;have h6:¬p<6:=by omega
  have h6I:¬(p:Int)<6:=by omega
  rw[bu a197l29.eq_1];simp[au,Uj,Ui,Uh,Ug,Uf,v8,h6,h6I];exact⟨rfl,_,D,rfl,by simp,by simp,by simp[v7],hD,by omega,zsi hR h6⟩
 |succ n ih=>
  intro p w D v hp hDl hDn hpb hD hR v7 v8;have h6:p<6:=by omega
  have h6I:(p:Int)<6:=by omega
  have hpn:¬(p:Int)<0:=by omega
  obtain⟨w',hR2⟩:=zi6 hR h6;have bF:=MS D;have bq:1+(dE D).length<=4294967296:=by rw[Aw];omega
  have hcat:dE (0::D)=ag 0::dE D:=rfl;have hw8:IntKind.i64.wrap ((p:Int)+1)=((p+1:Nat):Int):=aM _ (by omega);have next:=fun x=>ih (p+1) w' (0::D) x (by omega) (by simp;omega) (by simp;omega) (by omega) (Rq hD (by omega)) hR2
  rw[hcat]at next
  have turn:∀(x:Nat->AV) y t,x 6=v 6->x 5=v 5->Lu q W x y t->Lu q W v y t:=fun x y t x6 x5 ⟨h1,v',D',h2,h3,h4,h5⟩=>⟨h1,v',D',h2,h3.trans x6,h4.trans x5,h5⟩
  generalize dE D=X at *;rw[bu a197l29.eq_1];simp[au,Uj,Ui,Uh,Ug,Uf,v7,v8,h6,h6I,hpn,hw8,eY,bF,bq];refine(next _ ?_ ?_).mono fun e t h=>turn _ e t ?_ ?_ h;all_goals simp
end
section
def Cu(s:List UInt8):AV:=
 if trimF s=[]∨(uy (trimF s)).2.1≠(trimF s).length∨(uy (trimF s)).2.2≠0 then .agg [.int .i64 2,.int .i64 0,.str s]else .agg [.int .i64 3,.int .i64 (uy (trimF s)).1,.str s]
theorem GV(s:List UInt8):∃k n,Cu s=.agg [.int .i64 k,.int .i64 n,.str s]:=by
 unfold Cu;split
 ·exact⟨2,0,rfl⟩
 ·exact⟨3,_,rfl⟩
theorem zn9{ae:Nat}{H:aj}{s:List UInt8}(hl:s.length<=1000000):Rn ak SA.sp ae 195 [.str s] H=some (.ret (Cu s),H):=by
 have ht:=fun H=>zjw (ae:=0) (H:=H) hl;have hd:=fun H=>zqp (ae:=0) (H:=H) (s:=trimF s) (fT (zbQ s) hl);refine di rfl rfl rfl rfl ?_;rw[zpe];unfold Cu;simp only[qK]at hd;generalize trimF s=t at *;generalize(uy t).1=n at *;generalize(uy t).2.1=u at *;generalize(uy t).2.2=e at *;cases t with
 |nil=>simp[dN,a195,Oh,Og,Oe,Od,Oc,Ob,ht,hd,iw,ic,aN,bg]
 |cons c l=>
  have hb:ic (c::l) []=false:=rfl;have aR:¬(c::l)=[]:=by simp
  generalize c::l=t at *;by_cases h1:u=t.length
  ·have h1I:((u:Int) != (t.length:Int))=false:=by simp[h1]
   by_cases h2:e=0
   ·subst h2;simp[dN,a195,Oh,Og,Oe,Od,Oc,Ob,ht,hd,iw,hb,aR,h1,h1I,aN,bg]
   ·have h2I:((e:Int) != 0)=true:=by simp[bne];omega
    simp[dN,a195,Oh,Og,Oe,Od,Oc,Ob,ht,hd,iw,hb,aR,h1,h1I,h2,h2I,aN,bg]
  ·have h1I:((u:Int) != (t.length:Int))=true:=by simp[bne];omega
   simp[dN,a195,Oh,Og,Oe,Od,Oc,Ob,ht,hd,iw,hb,aR,h1,h1I,aN,bg]
theorem zi3{ae:Nat}{H:aj}{s:List UInt8}(hl:s.length<=1000000):Rn ak SA.sp ae 185 [.str s] H=some (.ret (Cu s),H):=by
 have hi:=fun H=>zn9 (ae:=0) (H:=H) hl;obtain⟨k,n,hc⟩:=GV s;rw[hc]at hi ⊢;refine di rfl rfl rfl rfl ?_;rw[zpk];simp[dX,a185,zht,zhs,hi,aN,bg]
def Rc(H:aj)(p:Nat)(T:List UInt8)(L:List (List UInt8))(A:AV):Prop:=eB H p=some (some [.str T,A])∧BH L A
theorem znc{ae:Nat}{H:aj}(hb:ae<=H.length):Rn ak SA.sp ae 165 [] H=some (.ret (.ptr H.length 0),H ++[some [.str [],.nils]]):=by
 refine l5.1 (jl rfl rfl rfl ?_);rw[zpv];simp[dX,a165,zhO,zhN]
theorem znC{ae:Nat}{H:aj}{p:Nat}{T:List UInt8}{L:List (List UInt8)}{A:AV}(h:Rc H p T L A):Rn ak SA.sp ae 169 [.ptr p 0] H=some (.ret (ag L.length),H):=by
 obtain⟨hp,hA⟩:=h;refine xS rfl rfl rfl rfl ?_;rw[zpt];rcases hA with rfl|⟨rfl,rfl⟩
 ·have iV:=jo L;generalize aV L=X at *;simp[dX,a169,ZY,ZX,hp,iV]
 ·simp[dX,a169,ZY,ZX,hp]
theorem zjK{ae:Nat}{H:aj}{p:Nat}{T:List UInt8}{L:List (List UInt8)}{A:AV}(h:Rc H p T L A):Rn ak SA.sp ae 172 [.ptr p 0] H=some (.ret (.str T),H):=by
 obtain⟨hp,hA⟩:=h;refine xS rfl rfl rfl rfl ?_;rw[zpq];rcases hA with rfl|⟨rfl,rfl⟩
 ·generalize aV L=X at *;simp[dX,a172,ZW,ZV,hp]
 ·simp[dX,a172,ZW,ZV,hp]
def zW(s fs:List UInt8):Nat:=if(iL s fs).2.2≠0 then(iL s fs).2.2 else if 100<(iL s fs).1.length then 2 else 0
theorem zrR{H:aj}{p:Nat}{T:List UInt8}{L:List (List UInt8)}{A:AV}(h:Rc H p T L A){s fs:List UInt8}(hl:s.length<=900):
  ∃A',BH (iL s fs).1 A'∧Rn ak SA.sp 0 167 [.ptr p 0,.str s,.str fs] H=some (.ret (ag (zW s fs)),if zW s fs=0 then H.set p (some [.str s,A'])else H):=by
 obtain⟨hp,hA⟩:=h;obtain⟨A',hA',dQ⟩:=zsm (s:=s) (bU:=fs) hl;have dQ:=dQ 0;have dK:=fA hp;refine⟨A',hA',l5.1 (jl rfl rfl rfl ?_)⟩;rw[zpu];unfold zW;have iV:∀X,X=aV (iL s fs).1->X.length=(iL s fs).1.length:=fun X e=>by rw[e,jo]
 have cK:=fun x=>dB (H:=H) (i:=p) x dK;have hss:∀x y:Option (List AV),(H.set p x).set p y=H.set p y:=fun x y=>iP ..;generalize(iL s fs).2.1=q at *;generalize(iL s fs).2.2=e at *;by_cases h1:e=0
 ·subst h1;by_cases h2:100<(iL s fs).1.length
  ·have h2I:(100:Int)<((iL s fs).1.length:Int):=by omega
   rcases hA' with rfl|⟨hn,rfl⟩
   ·have hX:=iV _ rfl;generalize aV (iL s fs).1=X at *;simp[au,a167,KZ,KY,KX,KW,KV,KU,KT,KS,dQ,hX,h2,h2I]
   ·rw[hn]at h2;simp at h2
  ·have h2I:¬(100:Int)<((iL s fs).1.length:Int):=by omega
   rcases hA' with rfl|⟨hn,rfl⟩
   ·have hX:=iV _ rfl;generalize aV (iL s fs).1=X at *;simp[au,a167,KZ,KY,KX,KW,KV,KU,KT,KS,dQ,hX,h2,h2I,hp,cK,hss]
   ·simp[au,a167,KZ,KY,KX,KW,KV,KU,KT,KS,dQ,hn,hp,cK,hss]
 ·have h1I:((e:Int) != 0)=true:=by simp[bne];omega
  rcases hA' with rfl|⟨hn,rfl⟩
  ·generalize aV (iL s fs).1=X at *;simp[au,a167,KZ,KY,KX,KW,KV,KU,KT,KS,dQ,h1,h1I]
  ·simp[au,a167,KZ,KY,KX,KW,KV,KU,KT,KS,dQ,h1,h1I]
end
section
theorem zl7{q W:Nat}(hq:q<=1000000){D:List Nat}{pt:Int}(hf:fits pt D W)(hD:lW D)(hDl:D.length<=q)(hpt:pt<=1000000)(v:Nat->AV)(v7:v 7=.slc .own (dE D))(v8:v 8=.int .i64 pt):
  Wp (aP ak SA.sp 0 (.loop a197l29) (az 353616228353796860312178525197301714941 v,[])) (Lu q W v):=by
 rcases hf with⟨rfl,hV⟩|⟨p,rfl,w,hR⟩
 ·obtain⟨w',hR2⟩:=zi6 (p:=0) (w:=1000000) (W:=W) (D:=D) (.inl ⟨by omega,rfl,hV⟩) (by omega);have bF:=MS D;have bq:1+(dE D).length<=4294967296:=by rw[Aw];omega
  have hcat:dE (0::D)=ag 0::dE D:=rfl;have next:=fun x=>Wq hq 5 1 w' (0::D) x (.inl rfl) (by simp;omega) (by simp;omega) (by omega) (Rq hD (by omega)) hR2
  rw[hcat]at next
  have turn:∀(x:Nat->AV) y t,x 6=v 6->x 5=v 5->Lu q W x y t->Lu q W v y t:=fun x y t x6 x5 ⟨h1,v',D',h2,h3,h4,h5⟩=>⟨h1,v',D',h2,h3.trans x6,h4.trans x5,h5⟩
  have hw:IntKind.i64.wrap 1=1:=rfl;generalize dE D=X at *;rw[bu a197l29.eq_1];simp[au,Uj,Ui,Uh,Ug,Uf,v7,v8,hw,eY,bF,bq];refine(next _ ?_ ?_).mono fun e t h=>turn _ e t ?_ ?_ h;all_goals simp
 ·by_cases h6:p<6
  ·exact Wq hq (6-p) p w D v (by omega) (by omega) (by omega) (by omega) hD hR v7 v8
  ·exact Wq hq 0 p w D v (.inr ⟨rfl,by omega⟩) (by omega) (by omega) (by omega) hD hR v7 v8
theorem zjM(s:List UInt8)(m:Bool)(a:Nat):zX s m a=match rD s a 0 0 with
  |none=>(0,0,0)
  |some (W,q,n)=>if n=0 then(0,0,0)else ll m W q:=by
 unfold zX rD;generalize jM (s.drop a) 0=x;obtain⟨V,k⟩:=x;unfold Gl;simp only[jZ];cases h46:mX s (a+k) 46 with
 |false=>simp
 |true=>
  simp only[Gi,fD];by_cases hk:0<k
  ·simp only[LB hk,Gg,fD];rw[aF (by omega)]
  ·have hk0:k=0:=by omega
   subst hk0;cases hd:mg s (a+0+1)with
   |true=>
    have hp:=zd8 (w:=1000000) (v:=V) hd;simp only[Bool.or_true,fD];rw[aF (by omega)]
   |false=>simp
theorem zjP{s:List UInt8}{a W q n:Nat}(ha:a<=s.length)(h:rD s a 0 0=some (W,q,n)):q<=s.length+1:=by
 unfold rD at h;have h1:=WM (s.drop a) 0;rw[kZ]at h1;generalize jM (s.drop a) 0=x at *;obtain⟨V,k⟩:=x;unfold Gl at h;simp only at h h1;split at h
 ·split at h
  ·simp only[aD,eU]at h;have h2:=zd9 (s.drop (a+k+1)) 1000000 V;rw[kZ]at h2;omega
  ·cases h
 ·simp only[aD,eU]at h;omega
def We:ACode:=.seq (.region Zv) (.seq (.block 2 (.loop a197l21)) (.seq (.seq (.region Ul) (.cond true (.v 121) (.seq (.region Uk) .ret) .skip)) (.seq (.block 4 (.loop a197l29)) (.seq (.region Zy) (.seq (.region Zx) (.seq (.region Zw) .ret))))))
theorem zrG:a197.body=.seq (.region ZA) (.seq (.region Zz) (.seq (.block 0 (.loop a197l4)) (.seq (.region KC) (.seq (.seq (.region KA) (.cond true (.v 52) (.seq (.region Kz) (.region Ky)) .skip)) We)))):=rfl
theorem zlq{s:List UInt8}(hl:s.length<=100000){a:Nat}(ha:a<=s.length){m:Bool}(v:Nat->AV)(v0:v 0=.str s)(v5:v 5=ag a)(v6:v 6=.box [.bool m,.nils]):
  Wp (aP ak SA.sp 0 We (az 353616228353796860312178525197301714941 v,[])) (fin [.tmp 2,.tmp 3,.tmp 4] (thaw 0 (· =.ret (qK (zX s m a))))):=by
 unfold We;rw[zjM];have gy:=fun w=>zla (s:=s) (by omega) (s.length-a) a 0 0 [] w (by omega) (by omega) (by simp) (fun d hd=>by cases hd) rfl;have hq:=fun W q n h=>zjP (s:=s) (a:=a) (W:=W) (q:=q) (n:=n) ha h;unfold Lv at gy;generalize rD s a 0 0=S at *;simp[iO,Zv,v0,v5,v6];refine(gy _ ?_ ?_ ?_ ?_ ?_).mono fun e t h=>?_
 ·simp[v0]
 ·simp[v5]
 ·simp[dE]
 ·simp
 ·simp
 obtain⟨v1,rfl,h⟩:=h;cases S with
 |none=>
  obtain⟨rfl,k2,k3,k4⟩:=h;simp[k2,k3,k4,qK,aN,bg]
 |some x=>
  obtain⟨W,q,n⟩:=x;obtain⟨rfl,k0,k6,k5,k9,D,pt,k7,k8,hD,hDl,hptq,hf⟩:=h;have hql:=hq W q n rfl;simp[v6]at k6;simp only;by_cases hn:n=0
  ·subst hn;simp[au,Ul,Uk,k9,qK,aN,bg]
  ·have hnI:((n:Int)==0)=false:=by simp;omega
   rw[aF hn];have hpt:pt<=1000000:=by omega
   have hpad:=fun v=>zl7 (q:=q) (W:=W) (by omega) hf hD hDl hpt v;simp[au,Ul,Uk,k9,hnI];refine(hpad _ ?_ ?_).mono fun e t h=>?_
   ·simp[k7]
   ·simp[k8]
   obtain⟨rfl,v2',D2,rfl,j6,j5,j7,hD2,hDl2,hV2⟩:=h;simp[k6]at j6;simp[k5]at j5;have hrt:=fun H=>zkQ (ae:=0) (H:=H) (l:=D2) (by omega);have hbk:=fun H=>zrj (ae:=0) (H:=H) (D:=qA D2) (zjA hD2) (fT (zjB D2) (by omega)) (m:=m) q;rw[zbR _ D2 rfl,hV2]at hbk;have hp:(ll m W q).2.1=q:=by unfold ll;split<;>rfl
   unfold qK;rw[hp];generalize(ll m W q).1=x at *;generalize(ll m W q).2.2=y at *;generalize dE D2=X at *;generalize dE (qA D2)=Y at *;simp[iO,Zy,Zx,Zw,j5,j6,j7,hrt,hbk,aN,bg]
theorem zlr{ae:Nat}{H:aj}{s:List UInt8}(hl:s.length<=100000):Rn ak SA.sp ae 197 [.str s] H=some (.ret (qK (uy s)),H):=by
 refine di rfl rfl rfl rfl ?_;rw[zpc,zrG];have gy:=fun v=>zlC (ae:=0) (H:=[]) (s:=s) (by omega) s.length 0 v (by omega);simp[iO,ZA,Zz];refine(gy _ ?_ ?_).mono fun e t h=>?_
 ·simp
 ·simp
 obtain⟨rfl,v1,rfl,k0,k5⟩:=h;simp only[xI,jZ]at k5;have hb:=XL s;have hF:uy s=zX s (mX s (jQ s) 45) (xO s):=rfl;have jw:xO s<=s.length:=by
  unfold xO;split
  ·rename_i h;cases hc:s[jQ s]? with
   |none=>rw[Fe hc,Fe hc]at h;cases h
   |some c=>have:=(eD.1 hc).1;omega
  ·exact hb
 have tail:=fun w=>zlq hl jw (m:=mX s (jQ s) 45) w;rw[hF];generalize qK (zX s (mX s (jQ s) 45) (xO s))=R at *;unfold xO at tail;generalize jQ s=b at *;cases hc:s[b]? with
 |none=>
  have hI:¬(b:Int)<(s.length:Int):=by have:=rq.1 hc;omega
  simp only[Fe hc]at tail;simp[au,KC,KA,Kz,Ky,k0,k5,hI];refine tail _ ?_ ?_ ?_;all_goals simp[k0,k5]
 |some c=>
  have hbl:=(eD.1 hc).1;have hI:(b:Int)<(s.length:Int):=by omega
  have hw:IntKind.i64.wrap ((b:Int)+1)=((b+1:Nat):Int):=aM _ (by omega);simp only[JK hc]at tail;have q1:=uB c 45 (by omega);have q2:=uB c 43 (by omega);simp only[show((45:Nat):Int)=45 from rfl,show((43:Nat):Int)=43 from rfl]at q1 q2;by_cases h1:c=45
  ·have e1:((c.toNat:Int)==45)=true:=by rw[q1];simpa using h1
   simp only[h1,decide_true,Gg,fD]at tail;simp[au,KC,KA,Kz,Ky,k0,k5,hI,hbl,hc,hw,e1];refine tail _ ?_ ?_ ?_;all_goals simp[k0]
  ·have e1:((c.toNat:Int)==45)=false:=by rw[q1];simpa using h1
   have d1:decide (c=45)=false:=by simpa using h1
   by_cases h2:c=43
   ·have e2:((c.toNat:Int)==43)=true:=by rw[q2];simpa using h2
    have d2:decide (c=43)=true:=by simpa using h2
    simp only[d1,d2,Bool.or_true,fD]at tail;simp[au,KC,KA,Kz,Ky,k0,k5,hI,hbl,hc,hw,e1,e2];refine tail _ ?_ ?_ ?_;all_goals simp[k0]
   ·have e2:((c.toNat:Int)==43)=false:=by rw[q2];simpa using h2
    have d2:decide (c=43)=false:=by simpa using h2
    simp only[d1,d2,Bool.or_false,mQ,ig]at tail;simp[au,KC,KA,Kz,Ky,k0,k5,hI,hbl,hc,hw,e1,e2];refine tail _ ?_ ?_ ?_;all_goals simp[k0,k5]
theorem zjy{ae:Nat}{H:aj}:∀(s:List UInt8)(v:Nat->AV),s.length<=1000000->v 0=.str s->
  Wp (aP ak SA.sp ae (.loop a196l3) (az 8389637 v,H)) (fun e t=>e=.exit 0∧∃v',t=(az 8389637 v',H)∧v' 0=.str (mU jk s)):=by
 intro s;induction s with
 |nil=>
  intro v _ v0;rw[bu a196l3.eq_1];simp[au,Ur,Uq,v0];exact⟨_,rfl,by simp[v0,mU]⟩
 |cons c l ih=>
  intro v hl v0;have hb:=fun H=>XM (ae:=ae) (H:=H) (c:=c);have gJ:0<(c::l).length:=by simp
  have cu:1<=(c::l).length:=by simp
  have hg:(c::l)[0]?=some c:=rfl;have hdr:(c::l).tail.take ((c::l).length-1)=l:=by simp
  have iV:l.length<=1000000:=by simp at hl;omega
  rw[bu a196l3.eq_1];cases hbl:jk c with
  |true=>
   rw[hbl]at hb;have e:mU jk (c::l)=mU jk l:=by simp[mU,hbl]
   rw[e];have next:=fun w=>ih w iV
   generalize c::l=L at *;simp[au,Ur,Uq,v0,gJ,hg,hb,cu,hdr];refine(next _ ?_).mono fun e t h=>by simpa using h
   simp
  |false=>
   rw[hbl]at hb;have e:mU jk (c::l)=c::l:=by simp[mU,hbl]
   rw[e];generalize c::l=L at *;simp[au,Ur,Uq,v0,gJ,hg,hb];exact⟨_,rfl,by simp[v0]⟩
theorem zjx{ae:Nat}{H:aj}:∀(n:Nat)(s:List UInt8)(v:Nat->AV),s.length=n->n<=1000000->v 0=.str s->
  Wp (aP ak SA.sp ae (.loop a196l6) (az 8389637 v,H)) (fun e t=>e=.exit 2∧∃v',t=(az 8389637 v',H)∧v' 0=.str (qD jk s)):=by
 intro n;induction n with
 |zero=>
  intro s v hn _ v0;have:s=[]:=mi hn;subst this;rw[bu a196l6.eq_1];simp[au,Uo,Un,v0];exact⟨_,rfl,by simp[v0,qD]⟩
 |succ n ih=>
  intro s v hn hb v0;obtain⟨l,c,rfl⟩:∃m d,s=m ++[d]:=by
   have aR:s ≠ []:=fun e=>by subst e;cases hn
   exact⟨s.dropLast,s.getLast aR,(zbz aR).symm⟩
  have hln:l.length=n:=by simpa using hn
  have gL:=fun H=>XM (ae:=ae) (H:=H) (c:=c);have hg:(l ++[c])[n]?=some c:=by rw[←hln,Gd (aX _),Nat.sub_self];rfl
  have gJ:(0:Int)<((n:Int)+1):=by omega
  have hw:IntKind.i64.wrap ((n:Int)+1-1)=(n:Int):=by rw[aM _ (by omega)];omega
  have bY:IntKind.i64.wrap (n:Int)=(n:Int):=aM _ (by omega);have bV:(l ++[c]).take n=l:=by rw[←hln];simp
  have cu:n<=(l ++[c]).length:=by rw[hn];omega
  rw[bu a196l6.eq_1];cases hbl:jk c with
  |true=>
   rw[hbl]at gL;have e:qD jk (l ++[c])=qD jk l:=by simp[qD,hbl]
   rw[e];have next:=fun w=>ih l w hln (by omega)
   generalize l ++[c]=L at *;simp[au,Uo,Un,v0,hn,gJ,hg,gL,cu,hw,bY,bV];refine(next _ ?_).mono fun e t h=>by simpa using h
   simp
  |false=>
   rw[hbl]at gL;have e:qD jk (l ++[c])=l ++[c]:=by simp[qD,hbl]
   rw[e];generalize l ++[c]=L at *;simp[au,Uo,Un,v0,hn,gJ,hg,gL,hw,bY];exact⟨_,rfl,by simp[v0]⟩
theorem zrd(c:UInt8):([32,9,10]:List UInt8).contains c=jk c:=by
 unfold jk;by_cases h1:c=32
 ·subst h1;rfl
 ·by_cases h2:c=9
  ·subst h2;rfl
  ·by_cases h3:c=10
   ·subst h3;rfl
   ·simp[h1,h2,h3]
theorem zjz(s:List UInt8):trimF s=qD jk (mU jk s):=by
 rw[zb0];unfold trimF Lib.trimS Lib.trimLeftS Lib.trimRightS mU qD;have e:(fun x:UInt8=>([32,9,10]:List UInt8).contains x)=jk:=funext zrd;rw[e]
theorem zkS{ae:Nat}{H:aj}{s:List UInt8}(hl:s.length<=1000000):Rn ak SA.sp ae 196 [.str s] H=some (.ret (.str (trimF s)),H):=by
 have h1:=fun v=>zjy (ae:=0) (H:=[]) s v hl;have iV:(mU jk s).length<=1000000:=fT (Qi _).length_le hl;have h2:=fun v=>zjx (ae:=0) (H:=[]) _ (mU jk s) v rfl iV;rw[zjz];refine di rfl rfl rfl rfl ?_;rw[zpd];simp[iO,zhm,a196];refine(h1 _ ?_).mono fun e t h=>?_
 ·simp
 obtain⟨rfl,v',rfl,k0⟩:=h;simp[iO];refine(h2 _ k0).mono fun e t h=>?_;obtain⟨rfl,v2,rfl,j0⟩:=h;simp[dX,zhl,j0,aN,bg]
theorem zc3{ae:Nat}{H:aj}{s:List UInt8}(hl:s.length<=100000):Rn ak SA.sp ae 189 [.str s] H=some (.ret (Cu s),H):=by
 have ht:=fun H=>zkS (ae:=0) (H:=H) (s:=s) (by omega);have hd:=fun H=>zlr (ae:=0) (H:=H) (s:=trimF s) (fT (zbQ s) hl);refine di rfl rfl rfl rfl ?_;rw[zph];unfold Cu;simp only[qK]at hd;generalize trimF s=t at *;generalize(uy t).1=n at *;generalize(uy t).2.1=u at *;generalize(uy t).2.2=e at *;cases t with
 |nil=>simp[dN,a189,Ou,Ot,Oq,Oo,Om,Ol,ht,hd,aN,bg]
 |cons c l=>
  have gJ:0<(c::l).length:=by simp
  have aR:¬(c::l)=[]:=by simp
  generalize c::l=t at *;by_cases h1:u=t.length
  ·have h1I:((u:Int)==(t.length:Int))=true:=by simp[h1]
   by_cases h2:e=0
   ·subst h2;simp[dN,a189,Ou,Ot,Oq,Oo,Om,Ol,ht,hd,gJ,aR,h1,h1I,aN,bg]
   ·have h2I:((e:Int)==0)=false:=by simp;omega
    simp[dN,a189,Ou,Ot,Oq,Oo,Om,Ol,ht,hd,gJ,aR,h1,h1I,h2,h2I,aN,bg]
  ·have h1I:((u:Int)==(t.length:Int))=false:=by simp;omega
   simp[dN,a189,Ou,Ot,Oq,Oo,Om,Ol,ht,hd,gJ,aR,h1,h1I,aN,bg]
end
section
def Af:AV:=.agg [.int .i64 0,.int .i64 0,.str []]
def Fg(T:List UInt8)(L:List (List UInt8))(i:Int):AV×Nat:=
 if i<0∨100<i then(Af,90)else if i=0 then(Cu T,0)else match L[i.toNat-1]? with
  |some x=>(Cu x,0)
  |none=>(Af,0)
theorem zi4{ae:Nat}{H:aj}{p:Nat}{T:List UInt8}{L:List (List UInt8)}{A:AV}(h:Rc H p T L A)(hT:T.length<=1000000)(hL:∀x∈L,x.length<=1000000)(hn:L.length<=1000)(i:Int):
  Rn ak SA.sp ae 170 [.ptr p 0,.int .i64 i] H=some (.ret (.tup [(Fg T L i).1,ag (Fg T L i).2]),H):=by
 obtain⟨hp,hA⟩:=h;refine xS rfl rfl rfl rfl ?_;rw[zps];unfold Fg;by_cases h0:i<0
 ·rw[aS (.inl h0)];simp[au,a170,FW,FV,FU,FT,FR,FQ,FP,FO,Af,h0,aN,bg]
 by_cases h1:100<i
 ·rw[aS (.inr h1)];simp[au,a170,FW,FV,FU,FT,FR,FQ,FP,FO,Af,h0,h1,aN,bg]
 rw[aF (by omega)];by_cases h2:i=0
 ·subst h2;have hi:=fun H ae=>zi3 (ae:=ae) (H:=H) hT;obtain⟨k,m,hc⟩:=GV T;rw[hc]at hi;rw[aS rfl,hc];rcases hA with rfl|⟨rfl,rfl⟩
  ·generalize aV L=X at *;simp[au,a170,FW,FV,FU,FT,FR,FQ,FP,FO,hp,hi,aN,bg]
  ·simp[au,a170,FW,FV,FU,FT,FR,FQ,FP,FO,hp,hi,aN,bg]
 rw[aF h2];have h2b:(i==0)=false:=by simpa using h2
 obtain⟨n,rfl⟩:∃n:Nat,i=(n:Int)+1:=⟨(i-1).toNat,by omega⟩
 have ht:((n:Int)+1).toNat-1=n:=by omega
 rw[ht];have hw:IntKind.i64.wrap (n:Int)=(n:Int):=aM _ (by omega);cases hx:L[n]? with
 |none=>
  have bq:=rq.1 hx;have hI:(L.length:Int)<(n:Int)+1:=by omega
  rcases hA with rfl|⟨rfl,rfl⟩
  ·have hXl:=jo L;generalize aV L=X at *;simp[au,a170,FW,FV,FU,FT,FR,FQ,FP,FO,Af,hp,h0,h1,h2b,hXl,hI,aN,bg]
  ·have hI:(0:Int)<(n:Int)+1:=by omega
   simp[au,a170,FW,FV,FU,FT,FR,FQ,FP,FO,Af,hp,h0,h1,h2b,hI,aN,bg]
 |some x=>
  have aB:=(eD.1 hx).1;have hI:¬(L.length:Int)<(n:Int)+1:=by omega
  have hi:=fun H ae=>zi3 (ae:=ae) (H:=H) (hL x (jm hx));obtain⟨k,m,hc⟩:=GV x;rw[hc]at hi;simp only[hc];rcases hA with rfl|⟨rfl,rfl⟩
  ·have hXl:=jo L;have hg:=Gm hx;generalize aV L=X at *;simp[au,a170,FW,FV,FU,FT,FR,FQ,FP,FO,hp,h0,h1,h2b,hXl,hI,hw,hg,hi,aN,bg]
  ·cases hx
theorem zcN{H:aj}{p:Nat}{T:List UInt8}{L:List (List UInt8)}{A:AV}(h:Rc H p T L A){n:Nat}(hn:n<=1000000):
  Rn ak SA.sp 0 187 [.ptr p 0,ag n] H=some (.ret (.slc .own (aV (fo L n))),H):=by
 obtain⟨hp,hA⟩:=h;rw[zrW];have h1:(decide ((0:Int)<=(n:Int))&&decide ((n:Int)<=1000000))=true:=by simp;omega
 have h2:((n:Int)).toNat=n:=by omega
 rw[←Ap]at hp;rcases hA with rfl|⟨rfl,rfl⟩
 ·have:=VM L;have ht:xL (aV L)=some L:=this;simp only[Jp,h1,bA,hp,ru,pY,jZ,ht,h2];rfl
 ·simp only[Jp,h1,bA,hp,ru,pY,jZ,h2];rfl
theorem zsg{ae:Nat}{H:aj}{l:List (List UInt8)}{t:List UInt8}(h1:l.length<=1000000)(h2:(Lib.join l t).length<=1000000000):
  Rn ak SA.sp ae 194 [.slc .ro (aV l),.str t] H=some (.ret (.str (Lib.join l t)),H):=by
 have hj:∀H,Rn ak SA.sp 0 202 [.slc .ro (aV l),.str t] H=some (.ret (.str (Lib.join l t)),H):=fun H=>by
  rw[zr1];have e1:Nat.ble l.length 1000000=true:=xC h1;have e2:Nat.ble (Lib.join l t).length 1000000000=true:=xC h2;have ht:xL (aV l)=some l:=VM l;simp only[Mi,ht,e1,e2,Bool.and_self,bA]
 have qj:dG [AV.slc .ro (aV l),AV.str t]=true:=by
  have:=ze1 l;simp only[dG,gq,this];rfl
 refine di rfl rfl qj rfl ?_;rw[zpf];generalize aV l=X at *;simp[dX,a194,zho,zhn,hj,aN,bg]
theorem zdQ{H:aj}{p:Nat}{T:List UInt8}{L:List (List UInt8)}{A:AV}(h:Rc H p T L A){l:List (List UInt8)}{t:List UInt8}(h1:l.length<=1000000)(h2:(Lib.join l t).length<=1000000000):
  Rn ak SA.sp 0 188 [.ptr p 0,.slc .ro (aV l),.str t] H=some (.ret (ag (if 65536<(Lib.join l t).length then 2 else 0)),if 65536<(Lib.join l t).length then H else H.set p (some [.str (Lib.join l t),.slc .ro (aV l)])):=by
 obtain⟨hp,hA⟩:=h;have hj:=fun H=>zsg (ae:=0) (H:=H) h1 h2;have dK:=fA hp;have cK:=fun x=>dB (H:=H) (i:=p) x dK;have hss:∀x y:Option (List AV),(H.set p x).set p y=H.set p y:=fun x y=>iP ..;refine l5.1 (jl rfl rfl rfl ?_);rw[zpi];generalize Lib.join l t=J at *;generalize aV l=X at *;by_cases hb:65536<J.length
 ·have hbI:(65536:Int)<(J.length:Int):=by omega
  simp[dN,a188,ZH,ZG,ZF,ZE,ZC,ZB,hj,hb,hbI]
 ·have hbI:¬(65536:Int)<(J.length:Int):=by omega
  simp[dN,a188,ZH,ZG,ZF,ZE,ZC,ZB,hj,hb,hbI,hp,cK,hss]
def kG(L:List (List UInt8))(i:Nat)(s:List UInt8):List (List UInt8):=(fo L (max i L.length)).set (i-1) s
theorem zr8{H:aj}{p:Nat}{T:List UInt8}{L:List (List UInt8)}{A:AV}(h:Rc H p T L A)(hn:L.length<=1000){i:Nat}(h1:1<=i)(h2:i<=100){s t:List UInt8}(hj:(Lib.join (kG L i s) t).length<=1000000000):
  Rn ak SA.sp 0 168 [.ptr p 0,ag i,.str s,.str t] H=some (.ret (ag (if 65536<(Lib.join (kG L i s) t).length then 2 else 0)),if 65536<(Lib.join (kG L i s) t).length then H else H.set p (some [.str (Lib.join (kG L i s) t),.slc .ro (aV (kG L i s))])):=by
 have hr:=zcN h (n:=max i L.length) (by omega);have hjr:=zdQ h (l:=kG L i s) (t:=t) (by simp[kG,fo];omega) hj;obtain⟨hp,hA⟩:=h;refine l5.1 (jl rfl rfl rfl ?_);rw[zeC];have aB:¬(i:Int)<1:=by omega
 have gJ:¬(100:Int)<(i:Int):=by omega
 have hw:IntKind.i64.wrap ((i:Int)-1)=((i-1:Nat):Int):=by rw[aM _ (by omega)];omega
 have cK:aV (kG L i s)=(aV (fo L (max i L.length))).set (i-1) (.str s):=by
  unfold kG aV;rw[List.map_set]
 have bq:i-1<(aV (fo L (max i L.length))).length:=by rw[jo];simp[fo];omega
 have hLX:∀X,X=aV L->X.length=L.length:=fun X e=>by rw[e,jo]
 rw[cK]at hjr ⊢;obtain⟨N,hN⟩:∃N,N=max i L.length:=⟨_,rfl⟩
 rw[←hN]at hr hjr bq ⊢;obtain⟨y,hy⟩:∃y,(fo L N)[i-1]?=some y:=⟨_,gG (by rw[jo]at bq;exact bq)⟩
 have hg:=Gm hy;generalize aV (fo L N)=X at *;have bV:List.take X.length (X.set (i-1) (.str s))=X.set (i-1) (.str s):=ek (by simp);generalize Lib.join (kG L i s) t=J at *;generalize(if 65536<J.length then H else H.set p (some [.str J,.slc .ro (X.set (i-1) (.str s))]))=H2 at *;generalize(if 65536<J.length then 2 else 0:Nat)=e at *;rcases hA with rfl|⟨rfl,rfl⟩
 ·have hY:=hLX _ rfl;generalize aV L=Y at *;by_cases hc:i<L.length
  ·rw[show N=L.length from by omega]at hr;simp[dN,a168,KR,KQ,KP,KO,KN,KM,hp,aB,gJ,hY,hc,hr,hw,bq,hg,bV,hjr]
  ·rw[show N=i from by omega]at hr;simp[dN,a168,KR,KQ,KP,KO,KN,KM,hp,aB,gJ,hY,hc,hr,hw,bq,hg,bV,hjr]
 ·rw[show N=i from by simpa using hN]at hr;have jD:¬(i:Int)<0:=by omega
  simp[dN,a168,KR,KQ,KP,KO,KN,KM,hp,aB,gJ,jD,hr,hw,bq,hg,bV,hjr]
end
section
theorem XP{a b:List UInt8}(h:a.length+b.length<=4611686018427387904):iw .add a b=some (.str (a++b)):=by
 have:Nat.ble (a.length+b.length) 4611686018427387904=true:=xC h;simp only[iw,this,bA]
theorem zdP(l:List (List UInt8))(x bU:List UInt8):Lib.join (l ++[x]) bU=if l=[]then x else Lib.join l bU++bU++x:=by
 cases l with
 |nil=>simp[Lib.join_one]
 |cons y r=>
  rw[kg,Lib.join_cons,Lib.join_cons,aF (by simp)];simp[Lib.joinTail]
theorem zdS{bU:List UInt8}{a b:Nat}(hb:bU.length<=b):∀(l:List (List UInt8)),(∀x∈l,x.length<=a)->(Lib.joinTail bU l).length<=l.length*(a+b)
 | [],_=>by simp[Lib.joinTail]
 |y::r,h=>by
  have ih:=zdS hb r fun x hx=>h x (EM _ hx);have hy:=h y Qe;have e:Lib.joinTail bU (y::r)=bU++y++Lib.joinTail bU r:=by simp[Lib.joinTail]
  rw[e,iF,iF,fF,tV];omega
theorem Q8{bU:List UInt8}{a b:Nat}(hb:bU.length<=b){l:List (List UInt8)}(h:∀x∈l,x.length<=a):(Lib.join l bU).length<=l.length*(a+b):=by
 cases l with
 |nil=>simp[Lib.join_nil]
 |cons y r=>
  have ih:=zdS hb r fun x hx=>h x (EM _ hx);have hy:=h y Qe;rw[Lib.join_cons,iF,fF,tV];omega
theorem zbX{l:List (List UInt8)}{i a:Nat}(h:∀x∈l,x.length<=a):∀x∈l.take i,x.length<=a:=fun x hx=>h x (vU hx)
theorem zk9{ae:Nat}{H:aj}{L:List (List UInt8)}{bU:List UInt8}(hl:L.length<=1000000)(hL:∀x∈L,x.length<=1000000)(hsep:bU.length<=1000000):∀(m i:Nat)(v:Nat->AV),i+m=L.length->v 0=.slc .ro (aV L)->v 1=.str bU->v 5=.str (Lib.join (L.take i) bU)->v 6=ag i->
  Wp (aP ak SA.sp ae (.loop a171l8) (az 17523 v,H)) (fun e t=>e=.exit 0∧∃v',t=(az 17523 v',H)∧v' 5=.str (Lib.join L bU)):=by
 intro m;induction m with
 |zero=>
  intro i v hi v0 v1 v5 v6;have aK:i=L.length:=by omega
  subst aK;rw[List.take_length]at v5;have hXl:=jo L;generalize aV L=X at *;rw[bu a171l8.eq_1];simp[au,UO,UN,UM,UL,UK,v0,v6,hXl];exact⟨_,rfl,by simp[v5]⟩
 |succ m ih=>
  intro i v hi v0 v1 v5 v6;have fe:i<L.length:=by omega
  have hI:(i:Int)<(L.length:Int):=by omega
  obtain⟨x,hx⟩:∃x,L[i]?=some x:=⟨_,gG fe⟩
  have hg:=Gm hx;have bV:L.take (i+1)=L.take i ++[x]:=by rw[LH,hx];rfl
  have aT:IntKind.i64.wrap ((i:Int)+1)=((i+1:Nat):Int):=aM _ (by omega);have hb1:=Q8 hsep (zbX (i:=i) hL);have jG:=hL x (jm hx);have hti:(L.take i).length<=1000000:=by simp;omega
  have hb3:(Lib.join (L.take i) bU).length<=1000000*2000000:=fT hb1 (zN hti (aX _));have Am:=zdP (L.take i) x bU;rw[←bV]at Am;have next:=fun w=>ih (i+1) w (by omega)
  rw[Am]at next
  have hXl:=jo L;generalize aV L=X at *;have hiX:i<X.length:=by omega
  rw[bu a171l8.eq_1];by_cases h0:i=0
  ·subst h0;have hw01:IntKind.i64.wrap 1=1:=rfl;have jV:=XP (a:=[]) (b:=x) (by simp;omega);rw[xD,Lib.join_nil]at v5;rw[aS (by simp)]at next
   rw[gV]at jV;simp[au,UO,UN,UM,UL,UK,v0,v1,v5,v6,hXl,fe,hg,jV,hw01];refine(next _ ?_ ?_ ?_ ?_).mono fun e t h=>by simpa using h
   all_goals simp[v0,v1]
  ·have gJ:(0:Int)<(i:Int):=by omega
   have hgt2:0<i:=by omega
   have jV:=XP (a:=Lib.join (L.take i) bU) (b:=bU) (by omega);have hc2:=XP (a:=Lib.join (L.take i) bU++bU) (b:=x) (by rw[iF];omega);have aR:¬L.take i=[]:=fun e=>by
    have h2:=dF List.length e;rw[Bq,gW]at h2;omega
   rw[aF aR]at next
   generalize Lib.join (L.take i) bU=J at *;simp[au,UO,UN,UM,UL,UK,v0,v1,v5,v6,hXl,hI,fe,gJ,hgt2,hg,jV,hc2,aT];refine(next _ ?_ ?_ ?_ ?_).mono fun e t h=>by simpa using h
   all_goals simp[v0,v1]
theorem zk8{ae:Nat}{H:aj}{L:List (List UInt8)}{bU:List UInt8}(hl:L.length<=1000000)(hL:∀x∈L,x.length<=1000000)(hsep:bU.length<=1000000):
  Rn ak SA.sp ae 171 [.slc .ro (aV L),.str bU] H=some (.ret (.str (Lib.join L bU)),H):=by
 have qj:dG [AV.slc .ro (aV L),AV.str bU]=true:=by
  have:=ze1 L;simp only[dG,gq,this];rfl
 have gy:=fun v=>zk9 (ae:=0) (H:=[]) hl hL hsep L.length 0 v (by omega);refine di rfl rfl qj rfl ?_;rw[zpr];generalize aV L=X at *;simp[iO,zhM,zhL,zhK,a171];refine(gy _ ?_ ?_ ?_ ?_).mono fun e t h=>?_
 ·simp
 ·simp
 ·simp[Lib.join_nil]
 ·simp
 obtain⟨rfl,v',rfl,k5⟩:=h;simp[dX,zhJ,k5,aN,bg]
theorem zj0:∀(l:List (Nat×Nat))(s:List UInt8)(a:Nat)(x:List UInt8),x∈kF s a l->x.length<=s.length:=fun l s=>by
 induction l with
 |nil=>intro a x hx;simp[kF]at hx;subst hx;simp
 |cons y l ih=>
  obtain⟨f,t⟩:=y;intro a x hx;rw[kF]at hx;split at hx
  ·rcases il.1 hx with rfl|hx
   ·simp;omega
   ·exact ih t x hx
  ·exact ih a x hx
theorem zc8(c:UInt8):∀(s x:List UInt8),x∈iT c s->x.length<=s.length
 | [],x,hx=>by simp[iT]at hx;subst hx;simp
 |b::l,x,hx=>by
  have ih:=zc8 c l;unfold iT at hx;split at hx
  ·rcases il.1 hx with rfl|hx
   ·simp
   ·have:=ih x hx;simp;omega
  ·cases hp:iT c l with
   |nil=>exact absurd hp (Wj c l)
   |cons y r=>
    rw[hp]at hx ih;rcases il.1 hx with rfl|hx
    ·have:=ih y Qe;simp;omega
    ·have:=ih x (EM _ hx);simp;omega
theorem zlY{s bU x:List UInt8}(h:x∈(iL s bU).1):x.length<=s.length:=by
 unfold iL at h;split at h
 ·simp only[lM]at h;obtain⟨y,_,rfl⟩:=pg.1 h;simp;omega
 ·split at h
  ·exact zqI h
  ·split at h
   ·cases hn:rG bU with
    |er p w=>rw[hn]at h;cases h
    |ok r j=>
     rw[hn]at h;simp only at h;split at h
     ·cases h
     ·exact zj0 _ _ _ _ h
   ·cases bU with
    |nil=>cases h
    |cons c l=>
     simp only at h;split at h
     ·cases h
     ·exact zc8 c s x h
theorem Wt{l:List (List UInt8)}{n a:Nat}(h:∀x∈l,x.length<=a):∀x∈fo l n,x.length<=a:=fun x hx=>by
 unfold fo at hx;rcases qy.1 hx with hx|hx
 ·exact h x (vU hx)
 ·rw[LP hx];simp
theorem zck{l:List (List UInt8)}{i a:Nat}{s:List UInt8}(h:∀x∈l,x.length<=a)(hs:s.length<=a):∀x∈kG l i s,x.length<=a:=fun x hx=>by
 unfold kG at hx;rcases Gc hx with hx|rfl
 ·exact Wt h x hx
 ·exact hs
theorem zcj{l:List (List UInt8)}{i:Nat}{s:List UInt8}:(kG l i s).length=max i l.length:=by
 simp[kG,fo];omega
end
end Go.Ak
