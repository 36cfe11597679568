/- The document's sets and named classes; what its class reader computes. -/
import Derived.Test.YtfcgnpphabplbaaGreatDoorPl
set_option linter.unusedVariables false
set_option linter.unusedSimpArgs false
namespace Go.Ak
attribute [local simp] Av EA EC EB mM zK wH Cy CB Cz BP BM BN Ac Cs Cq Cr Bz BA
 jP kr wanted cB dZ l8 live BR zU Aj Bw xN put vZ esc sS yn args drop1 jv xV xU yj qX rd wr kW sub AV.cells pack one setCells nJ qI qJ roOf gT qF jI jy mf eY newRow newObj step Ce Cf qR take cz bB lim mG bound uh ww uu nO yf fO
 Cm Ck Ch Ci Cj
 pY ru Ap rR BZ Ca BX
attribute [local simp] sR sT cV bL kA kB kC af aQ aJ gK ah aC dC aA eQ iY fI bH eO bD bN gQ rU bI rF aL dI eZ fK gp lX bW iQ df cO jc dP dM gm mJ fH gH iq iR lc ku fB jX iH iI
attribute [-simp] getElem?_pos
section
def fM(p:Nat->Bool):List AV:=(List.range 256).map fun i=>.bool (p i)
theorem mr(p:Nat->Bool):(fM p).length=256:=by simp[fM]
theorem XG(p:Nat->Bool){i:Nat}(h:i<256):((fM p).drop i).take 1=[.bool (p i)]:=by
 have hl:i<(fM p).length:=by rw[mr];exact h
 rw[iJ hl];simp only[EJ,xD,LQ,nE];simp[fM]
theorem Nj(p:Nat->Bool)(i:Nat)(b:Bool):(fM p).set i (.bool b)=fM (fun x=>if x=i then b else p x):=by
 apply Br;intro j;rw[EN];by_cases hj:j<256
 ·have hl:∀q:Nat->Bool,(fM q)[j]?=some (.bool (q j)):=fun q=>by
   unfold fM;rw[xH,LM hj];rfl
  rw[hl,hl];by_cases e:i=j
  ·subst e;simp[mr,hj]
  ·have:¬j=i:=fun h=>e h.symm;simp[e,this]
 ·have h1:∀q:Nat->Bool,(fM q)[j]?=none:=fun q=>pq (by rw[mr];omega);rw[h1,h1];by_cases e:i=j
  ·subst e;simp[mr,hj]
  ·simp[e]
theorem XF:List.replicate 256 (AV.bool false)=fM aO:=by
 have h:∀n:Nat,List.replicate n (AV.bool false)=(List.range n).map fun i=>.bool (aO i):=fun n=>by
  induction n with
  |zero=>rfl
  |succ n ih=>rw[Vz,ih,LJ,LK];rfl
 exact h 256
theorem zcn:∀(xs ys:List AV)(zs:List AV),xs.length=ys.length->setCells (zs++xs) zs.length ys=zs++ys
 | [],[],zs,_=>by simp[setCells]
 | [],_::_,_,h=>by simp at h
 |_::_,[],_,h=>by simp at h
 |x::xs,y::ys,zs,h=>by
  simp only[setCells];have e:(zs++x::xs).set zs.length y=(zs ++[y])++xs:=by
   rw[List.set_append_right _ _ (aX _)];simp
  rw[e];have:=zcn xs ys (zs ++[y]) (by simpa using h);simp only[iF,fF,gW,jZ]at this;rw[this];simp
theorem Nk(p q:Nat->Bool):setCells (fM p) 0 (fM q)=fM q:=by
 have:=zcn (fM p) (fM q) [] (by rw[mr,mr]);simpa using this
theorem GX(p:Nat->Bool):List.take 256 (fM p)=fM p:=ek (by rw[mr];omega)
def jA(p:Nat->Bool)(n q:Nat):Nat:=dR p q 64 >>> (n-64*q)
def qz(p:Nat->Bool)(n:Nat):List AV:=[u64 (jA p n 0),u64 (jA p n 1),u64 (jA p n 2),u64 (jA p n 3)]
theorem LY(p:Nat->Bool)(n:Nat):(qz p n).length=4:=rfl
theorem zjd(p:Nat->Bool)(n:Nat){q:Nat}(h:q<4):((qz p n).drop q).take 1=[u64 (jA p n q)]:=by
 rcases q with _|_|_|_|q
 ·rfl
 ·rfl
 ·rfl
 ·rfl
 ·omega
theorem Jj{p:Nat->Bool}{n q:Nat}(h:64*(q+1)<=n):jA p n q=0:=by
 unfold jA;rw[Vx];refine Nat.div_eq_of_lt (EI (Bv p q 64) (Nat.pow_le_pow_right (by omega) (by omega)))
theorem zja{p:Nat->Bool}{n q:Nat}(h:q≠n/64):jA p (n+1) q=jA p n q:=by
 by_cases h1:q<n/64
 ·rw[Jj (by omega),Jj (by omega)]
 ·unfold jA;rw[show n+1-64*q=0 by omega,show n-64*q=0 by omega]
theorem zbH(p:Nat->Bool)(n:Nat):jA p n (n/64)=jA p (n+1) (n/64)*2+(bif p n then 1 else 0):=by
 unfold jA;have e1:n-64*(n/64)=n%64:=by omega
 have e2:n+1-64*(n/64)=n%64+1:=by omega
 rw[e1,e2,Nat.shiftRight_succ];have hb:Nat.testBit (dR p (n/64) 64) (n%64)=p n:=by
  rw[vY];have h1:n%64<64:=Nat.mod_lt _ (by omega);have h2:64*(n/64)+n%64=n:=Nat.div_add_mod _ _;simp[h1,h2]
 have hm:(dR p (n/64) 64 >>> (n%64))%2=(bif p n then 1 else 0):=by
  rw[←hb,Nat.testBit,Nat.and_comm];have:=Nat.and_one_is_mod (dR p (n/64) 64 >>> (n%64));rw[this];rcases Nat.mod_two_eq_zero_or_one (dR p (n/64) 64 >>> (n%64))with h|h<;>simp[h]
 omega
theorem zjc(p:Nat->Bool){n:Nat}(hn:n<256):(qz p (n+1)).set (n/64) (u64 (jA p n (n/64)))=qz p n:=by
 have hq:n/64<4:=by omega
 apply Br;intro j;rw[EN];by_cases hj:j<4
 ·have hl:∀m,(qz p m)[j]?=some (u64 (jA p m j)):=fun m=>by
   rcases j with _|_|_|_|j
   ·rfl
   ·rfl
   ·rfl
   ·rfl
   ·omega
  rw[hl,hl];by_cases e:n/64=j
  ·subst e;simp[LY,hq]
  ·rw[aF e,zja (fun h=>e h.symm)]
 ·have h1:∀m,(qz p m)[j]?=none:=fun m=>pq (by rw[LY];omega);rw[h1,h1];have e:¬n/64=j:=by omega
  simp[e]
theorem zje(p:Nat->Bool):qz p 256=[.int .u64 0,.int .u64 0,.int .u64 0,.int .u64 0]:=by
 unfold qz;rw[Jj (by omega),Jj (by omega),Jj (by omega),Jj (by omega)];rfl
theorem zjf(p:Nat->Bool):qz p 0=dJ p:=by
 unfold qz jA;simp only[Nat.zero_sub,Nat.shiftRight_zero];rfl
theorem zjb(p:Nat->Bool){n:Nat}(hn:n<256):jA p (n+1) (n/64)<2^63:=by
 have h:=zbH p n;have h1:jA p n (n/64)<2^64:=by
  unfold jA;rw[Vx];exact Nat.lt_of_le_of_lt (Nat.div_le_self _ _) (Bv _ _ _)
 have h2:2^64=2^63*2:=by decide
 omega
theorem zky{ae:Nat}{H:aj}(p:Nat->Bool):∀(n:Nat)(v:Nat->AV),n<=256->v 1=.box (fM p)->v 3=.box (qz p n)->v 4=.int .i64 ((n:Int)-1)->
  Wp (aP ak SA.sp ae (.loop a122l8) (az 1048735 v,H)) (fun e t=>e=.exit 0∧∃v',t=(az 1048735 v',H)∧v' 3=.box (dJ p)∧v' 2=v 2):=by
 intro n;induction n with
 |zero=>
  intro v hn v1 v3 v4;rw[bu a122l8.eq_1];simp[au,U9,v4];exact⟨_,rfl,by simp[v3,zjf],by simp⟩
 |succ n ih=>
  intro v hn v1 v3 v4;have v4':v 4=ag n:=by rw[v4];simp
  have hq2:IntKind.i64.wrap ((n:Int)/64)=(n:Int)/64:=aM _ (by omega);have hq0:0<=(n:Int)/64:=by omega
  have hqt:((n:Int)/64).toNat=n/64:=by omega
  have hq4:n/64<4:=by omega
  have hq5:n/64+1<=4:=by omega
  have iZ:n<256:=hn;have hn3:n+1<=256:=hn;have dQ:=zjd p (n+1) hq4;have hb:=XG p iZ;have hhalf:=zjb p iZ;have hthis:=zbH p n;have cK:=zjc p iZ;have bY:IntKind.u64.wrap ((jA p (n+1) (n/64):Int)*2)=((jA p (n+1) (n/64)*2:Nat):Int):=by
   have:(jA p (n+1) (n/64):Int)*2=((jA p (n+1) (n/64)*2:Nat):Int):=by simp
   rw[this];exact Jm (by have h0:2^64=2^63*2:=(by decide);omega)
  have hwm:IntKind.i64.wrap ((n:Int)-1)=(n:Int)-1:=aM _ (by omega);have next:∀w:Nat->AV,w 1=.box (fM p)->w 3=.box (qz p n)->w 4=.int .i64 ((n:Int)-1)->w 2=v 2->
    Wp (aP ak SA.sp ae (.loop a122l8) (az 1048735 w,H)) (fun e t=>e=.exit 0∧∃v',t=(az 1048735 v',H)∧v' 3=.box (dJ p)∧v' 2=v 2):=fun w w1 w3 w4 w2=>by
   rw[←w2];exact ih w (by omega) w1 w3 w4
  have hat2:∀X,(((qz p (n+1)).set (n/64) X).drop (n/64)).take 1=[X]:=fun X=>by
   have hl:n/64<((qz p (n+1)).set (n/64) X).length:=by simp[LY,hq4]
   rw[iJ hl];simp
  rw[bu a122l8.eq_1];cases hp:p n with
  |true=>
   rw[hp]at hb hthis;simp only[bA]at hthis;have hw3:IntKind.u64.wrap (((jA p (n+1) (n/64)*2:Nat):Int)+1)=((jA p n (n/64):Nat):Int):=by
    have:((jA p (n+1) (n/64)*2:Nat):Int)+1=((jA p n (n/64):Nat):Int):=by rw[hthis];simp
    rw[this];exact Jm (by have h0:2^64=2^63*2:=(by decide);omega)
   have hw3':IntKind.u64.wrap ((jA p (n+1) (n/64):Int)*2+1)=((jA p n (n/64):Nat):Int):=by
    rw[←hw3];simp
   simp[au,U9,zaw,zav,zau,zat,v1,v3,v4',hq2,hq0,hqt,hq4,hq5,iZ,hn3,dQ,hat2,hb,bY,hw3,hw3',hwm,LY,mr,cK];refine next _ ?_ ?_ ?_ ?_
   all_goals simp[v1]
  |false=>
   rw[hp]at hb hthis;simp only[fq,qx]at hthis;have hset':(qz p (n+1)).set (n/64) (u64 (jA p (n+1) (n/64)*2))=qz p n:=by rw[←hthis];exact cK
   simp[au,U9,zaw,zav,zau,zat,v1,v3,v4',hq2,hq0,hqt,hq4,hq5,iZ,hn3,dQ,hb,bY,hwm,LY,mr];refine next _ ?_ ?_ ?_ ?_
   ·simp[v1]
   ·have:(.int .u64 ((jA p (n+1) (n/64):Int)*2):AV)=u64 (jA p (n+1) (n/64)*2):=by simp
    simp[this,hset']
   ·simp
   ·simp
theorem ziZ{ae:Nat}{H:aj}(p:Nat->Bool):Rn ak SA.sp ae 122 [.agg (fM p)] H=some (.ret (gN p),H):=by
 have hc:dG [AV.agg (fM p)]=true:=by
  have:∀l:List Nat,dG (l.map fun i=>AV.bool (p i))=true:=fun l=>by
   induction l with
   |nil=>rfl
   |cons x l ih=>simp[dG,gq,ih]
  simp only[dG,gq,Bool.and_true];exact this _
 refine di rfl rfl hc rfl ?_;rw[zpM];simp[iO,a122,ziw,ziv,ziu];refine(zky (ae:=0) (H:=[]) p 256 _ (aX _) ?_ ?_ ?_).mono fun e t h=>?_
 ·simp
 ·simp[zje]
 ·simp
 ·obtain⟨rfl,v',rfl,k3,k2⟩:=h;simp at k2;have h4:List.take 4 (dJ p)=dJ p:=rfl;have c1:setCells [.int .u64 0,.int .u64 0,.int .u64 0,.int .u64 0] 0 (dJ p)=dJ p:=rfl;have hz:=zot 0 [] p;unfold gN at hz ⊢;simp[dX,zit,k2,k3,nI,h4,c1];exact hz
end
section
attribute [local simp] a120 El Ej D8 DU DT DR DN DL DK DJ Ei Eh Eg Ef Ee Ed Ec Eb Ea D9 D7 D6 D5 DZ DY DX DW DV mD aN bg
theorem znu{ae:Nat}{H:aj}{c:Nat}(hc:c<256):Rn ak SA.sp ae 120 [.str [97,108,112,104,97],ag c] H=some (.ret (.tup [.bool (aG [65,90,97,122] c),.bool true]),H):=by
 have hp:(c<48)∨(48<=c∧c<58)∨(58<=c∧c<65)∨(65<=c∧c<91)∨(91<=c∧c<97)∨(97<=c∧c<123)∨(123<=c∧c<256):=by omega
 refine di rfl rfl rfl rfl ?_;rw[uw];rcases hp with h|h|h|h|h|h|h
 ·have hv:aG [65,90,97,122] c=false:=by simp[aG,bi,aO,bv];omega
  have f:¬((65:Int)<=(c:Int))∧(c:Int)<=90∧¬((97:Int)<=(c:Int))∧(c:Int)<=122∧¬((48:Int)<=(c:Int))∧(c:Int)<=57:=by omega
  rw[hv];simp[au,f]
 ·have hv:aG [65,90,97,122] c=false:=by simp[aG,bi,aO,bv];omega
  have f:¬((65:Int)<=(c:Int))∧(c:Int)<=90∧¬((97:Int)<=(c:Int))∧(c:Int)<=122∧(48:Int)<=(c:Int)∧(c:Int)<=57:=by omega
  rw[hv];simp[au,f]
 ·have hv:aG [65,90,97,122] c=false:=by simp[aG,bi,aO,bv];omega
  have f:¬((65:Int)<=(c:Int))∧(c:Int)<=90∧¬((97:Int)<=(c:Int))∧(c:Int)<=122∧(48:Int)<=(c:Int)∧¬((c:Int)<=57):=by omega
  rw[hv];simp[au,f]
 ·have hv:aG [65,90,97,122] c=true:=by simp[aG,bi,aO,bv];omega
  have f:(65:Int)<=(c:Int)∧(c:Int)<=90∧¬((97:Int)<=(c:Int))∧(c:Int)<=122∧(48:Int)<=(c:Int)∧¬((c:Int)<=57):=by omega
  rw[hv];simp[au,f]
 ·have hv:aG [65,90,97,122] c=false:=by simp[aG,bi,aO,bv];omega
  have f:(65:Int)<=(c:Int)∧¬((c:Int)<=90)∧¬((97:Int)<=(c:Int))∧(c:Int)<=122∧(48:Int)<=(c:Int)∧¬((c:Int)<=57):=by omega
  rw[hv];simp[au,f]
 ·have hv:aG [65,90,97,122] c=true:=by simp[aG,bi,aO,bv];omega
  have f:(65:Int)<=(c:Int)∧¬((c:Int)<=90)∧(97:Int)<=(c:Int)∧(c:Int)<=122∧(48:Int)<=(c:Int)∧¬((c:Int)<=57):=by omega
  rw[hv];simp[au,f]
 ·have hv:aG [65,90,97,122] c=false:=by simp[aG,bi,aO,bv];omega
  have f:(65:Int)<=(c:Int)∧¬((c:Int)<=90)∧(97:Int)<=(c:Int)∧¬((c:Int)<=122)∧(48:Int)<=(c:Int)∧¬((c:Int)<=57):=by omega
  rw[hv];simp[au,f]
theorem znr{ae:Nat}{H:aj}{c:Nat}(hc:c<256):Rn ak SA.sp ae 120 [.str [100,105,103,105,116],ag c] H=some (.ret (.tup [.bool (aG [48,57] c),.bool true]),H):=by
 have hp:(c<48)∨(48<=c∧c<58)∨(58<=c∧c<65)∨(65<=c∧c<91)∨(91<=c∧c<97)∨(97<=c∧c<123)∨(123<=c∧c<256):=by omega
 refine di rfl rfl rfl rfl ?_;rw[uw];rcases hp with h|h|h|h|h|h|h
 ·have hv:aG [48,57] c=false:=by simp[aG,bi,aO,bv];omega
  have f:¬((65:Int)<=(c:Int))∧(c:Int)<=90∧¬((97:Int)<=(c:Int))∧(c:Int)<=122∧¬((48:Int)<=(c:Int))∧(c:Int)<=57:=by omega
  rw[hv];simp[au,f]
 ·have hv:aG [48,57] c=true:=by simp[aG,bi,aO,bv];omega
  have f:¬((65:Int)<=(c:Int))∧(c:Int)<=90∧¬((97:Int)<=(c:Int))∧(c:Int)<=122∧(48:Int)<=(c:Int)∧(c:Int)<=57:=by omega
  rw[hv];simp[au,f]
 ·have hv:aG [48,57] c=false:=by simp[aG,bi,aO,bv];omega
  have f:¬((65:Int)<=(c:Int))∧(c:Int)<=90∧¬((97:Int)<=(c:Int))∧(c:Int)<=122∧(48:Int)<=(c:Int)∧¬((c:Int)<=57):=by omega
  rw[hv];simp[au,f]
 ·have hv:aG [48,57] c=false:=by simp[aG,bi,aO,bv];omega
  have f:(65:Int)<=(c:Int)∧(c:Int)<=90∧¬((97:Int)<=(c:Int))∧(c:Int)<=122∧(48:Int)<=(c:Int)∧¬((c:Int)<=57):=by omega
  rw[hv];simp[au,f]
 ·have hv:aG [48,57] c=false:=by simp[aG,bi,aO,bv];omega
  have f:(65:Int)<=(c:Int)∧¬((c:Int)<=90)∧¬((97:Int)<=(c:Int))∧(c:Int)<=122∧(48:Int)<=(c:Int)∧¬((c:Int)<=57):=by omega
  rw[hv];simp[au,f]
 ·have hv:aG [48,57] c=false:=by simp[aG,bi,aO,bv];omega
  have f:(65:Int)<=(c:Int)∧¬((c:Int)<=90)∧(97:Int)<=(c:Int)∧(c:Int)<=122∧(48:Int)<=(c:Int)∧¬((c:Int)<=57):=by omega
  rw[hv];simp[au,f]
 ·have hv:aG [48,57] c=false:=by simp[aG,bi,aO,bv];omega
  have f:(65:Int)<=(c:Int)∧¬((c:Int)<=90)∧(97:Int)<=(c:Int)∧¬((c:Int)<=122)∧(48:Int)<=(c:Int)∧¬((c:Int)<=57):=by omega
  rw[hv];simp[au,f]
theorem znv{ae:Nat}{H:aj}{c:Nat}(hc:c<256):Rn ak SA.sp ae 120 [.str [97,108,110,117,109],ag c] H=some (.ret (.tup [.bool (aG [48,57,65,90,97,122] c),.bool true]),H):=by
 have hp:(c<48)∨(48<=c∧c<58)∨(58<=c∧c<65)∨(65<=c∧c<91)∨(91<=c∧c<97)∨(97<=c∧c<123)∨(123<=c∧c<256):=by omega
 refine di rfl rfl rfl rfl ?_;rw[uw];rcases hp with h|h|h|h|h|h|h
 ·have hv:aG [48,57,65,90,97,122] c=false:=by simp[aG,bi,aO,bv];omega
  have f:¬((65:Int)<=(c:Int))∧(c:Int)<=90∧¬((97:Int)<=(c:Int))∧(c:Int)<=122∧¬((48:Int)<=(c:Int))∧(c:Int)<=57:=by omega
  rw[hv];simp[au,f]
 ·have hv:aG [48,57,65,90,97,122] c=true:=by simp[aG,bi,aO,bv];omega
  have f:¬((65:Int)<=(c:Int))∧(c:Int)<=90∧¬((97:Int)<=(c:Int))∧(c:Int)<=122∧(48:Int)<=(c:Int)∧(c:Int)<=57:=by omega
  rw[hv];simp[au,f]
 ·have hv:aG [48,57,65,90,97,122] c=false:=by simp[aG,bi,aO,bv];omega
  have f:¬((65:Int)<=(c:Int))∧(c:Int)<=90∧¬((97:Int)<=(c:Int))∧(c:Int)<=122∧(48:Int)<=(c:Int)∧¬((c:Int)<=57):=by omega
  rw[hv];simp[au,f]
 ·have hv:aG [48,57,65,90,97,122] c=true:=by simp[aG,bi,aO,bv];omega
  have f:(65:Int)<=(c:Int)∧(c:Int)<=90∧¬((97:Int)<=(c:Int))∧(c:Int)<=122∧(48:Int)<=(c:Int)∧¬((c:Int)<=57):=by omega
  rw[hv];simp[au,f]
 ·have hv:aG [48,57,65,90,97,122] c=false:=by simp[aG,bi,aO,bv];omega
  have f:(65:Int)<=(c:Int)∧¬((c:Int)<=90)∧¬((97:Int)<=(c:Int))∧(c:Int)<=122∧(48:Int)<=(c:Int)∧¬((c:Int)<=57):=by omega
  rw[hv];simp[au,f]
 ·have hv:aG [48,57,65,90,97,122] c=true:=by simp[aG,bi,aO,bv];omega
  have f:(65:Int)<=(c:Int)∧¬((c:Int)<=90)∧(97:Int)<=(c:Int)∧(c:Int)<=122∧(48:Int)<=(c:Int)∧¬((c:Int)<=57):=by omega
  rw[hv];simp[au,f]
 ·have hv:aG [48,57,65,90,97,122] c=false:=by simp[aG,bi,aO,bv];omega
  have f:(65:Int)<=(c:Int)∧¬((c:Int)<=90)∧(97:Int)<=(c:Int)∧¬((c:Int)<=122)∧(48:Int)<=(c:Int)∧¬((c:Int)<=57):=by omega
  rw[hv];simp[au,f]
theorem zni{ae:Nat}{H:aj}{c:Nat}(hc:c<256):Rn ak SA.sp ae 120 [.str [117,112,112,101,114],ag c] H=some (.ret (.tup [.bool (aG [65,90] c),.bool true]),H):=by
 have hp:(c<48)∨(48<=c∧c<58)∨(58<=c∧c<65)∨(65<=c∧c<91)∨(91<=c∧c<97)∨(97<=c∧c<123)∨(123<=c∧c<256):=by omega
 refine di rfl rfl rfl rfl ?_;rw[uw];rcases hp with h|h|h|h|h|h|h
 ·have hv:aG [65,90] c=false:=by simp[aG,bi,aO,bv];omega
  have f:¬((65:Int)<=(c:Int))∧(c:Int)<=90∧¬((97:Int)<=(c:Int))∧(c:Int)<=122∧¬((48:Int)<=(c:Int))∧(c:Int)<=57:=by omega
  rw[hv];simp[au,f]
 ·have hv:aG [65,90] c=false:=by simp[aG,bi,aO,bv];omega
  have f:¬((65:Int)<=(c:Int))∧(c:Int)<=90∧¬((97:Int)<=(c:Int))∧(c:Int)<=122∧(48:Int)<=(c:Int)∧(c:Int)<=57:=by omega
  rw[hv];simp[au,f]
 ·have hv:aG [65,90] c=false:=by simp[aG,bi,aO,bv];omega
  have f:¬((65:Int)<=(c:Int))∧(c:Int)<=90∧¬((97:Int)<=(c:Int))∧(c:Int)<=122∧(48:Int)<=(c:Int)∧¬((c:Int)<=57):=by omega
  rw[hv];simp[au,f]
 ·have hv:aG [65,90] c=true:=by simp[aG,bi,aO,bv];omega
  have f:(65:Int)<=(c:Int)∧(c:Int)<=90∧¬((97:Int)<=(c:Int))∧(c:Int)<=122∧(48:Int)<=(c:Int)∧¬((c:Int)<=57):=by omega
  rw[hv];simp[au,f]
 ·have hv:aG [65,90] c=false:=by simp[aG,bi,aO,bv];omega
  have f:(65:Int)<=(c:Int)∧¬((c:Int)<=90)∧¬((97:Int)<=(c:Int))∧(c:Int)<=122∧(48:Int)<=(c:Int)∧¬((c:Int)<=57):=by omega
  rw[hv];simp[au,f]
 ·have hv:aG [65,90] c=false:=by simp[aG,bi,aO,bv];omega
  have f:(65:Int)<=(c:Int)∧¬((c:Int)<=90)∧(97:Int)<=(c:Int)∧(c:Int)<=122∧(48:Int)<=(c:Int)∧¬((c:Int)<=57):=by omega
  rw[hv];simp[au,f]
 ·have hv:aG [65,90] c=false:=by simp[aG,bi,aO,bv];omega
  have f:(65:Int)<=(c:Int)∧¬((c:Int)<=90)∧(97:Int)<=(c:Int)∧¬((c:Int)<=122)∧(48:Int)<=(c:Int)∧¬((c:Int)<=57):=by omega
  rw[hv];simp[au,f]
theorem zno{ae:Nat}{H:aj}{c:Nat}(hc:c<256):Rn ak SA.sp ae 120 [.str [108,111,119,101,114],ag c] H=some (.ret (.tup [.bool (aG [97,122] c),.bool true]),H):=by
 have hp:(c<48)∨(48<=c∧c<58)∨(58<=c∧c<65)∨(65<=c∧c<91)∨(91<=c∧c<97)∨(97<=c∧c<123)∨(123<=c∧c<256):=by omega
 refine di rfl rfl rfl rfl ?_;rw[uw];rcases hp with h|h|h|h|h|h|h
 ·have hv:aG [97,122] c=false:=by simp[aG,bi,aO,bv];omega
  have f:¬((65:Int)<=(c:Int))∧(c:Int)<=90∧¬((97:Int)<=(c:Int))∧(c:Int)<=122∧¬((48:Int)<=(c:Int))∧(c:Int)<=57:=by omega
  rw[hv];simp[au,f]
 ·have hv:aG [97,122] c=false:=by simp[aG,bi,aO,bv];omega
  have f:¬((65:Int)<=(c:Int))∧(c:Int)<=90∧¬((97:Int)<=(c:Int))∧(c:Int)<=122∧(48:Int)<=(c:Int)∧(c:Int)<=57:=by omega
  rw[hv];simp[au,f]
 ·have hv:aG [97,122] c=false:=by simp[aG,bi,aO,bv];omega
  have f:¬((65:Int)<=(c:Int))∧(c:Int)<=90∧¬((97:Int)<=(c:Int))∧(c:Int)<=122∧(48:Int)<=(c:Int)∧¬((c:Int)<=57):=by omega
  rw[hv];simp[au,f]
 ·have hv:aG [97,122] c=false:=by simp[aG,bi,aO,bv];omega
  have f:(65:Int)<=(c:Int)∧(c:Int)<=90∧¬((97:Int)<=(c:Int))∧(c:Int)<=122∧(48:Int)<=(c:Int)∧¬((c:Int)<=57):=by omega
  rw[hv];simp[au,f]
 ·have hv:aG [97,122] c=false:=by simp[aG,bi,aO,bv];omega
  have f:(65:Int)<=(c:Int)∧¬((c:Int)<=90)∧¬((97:Int)<=(c:Int))∧(c:Int)<=122∧(48:Int)<=(c:Int)∧¬((c:Int)<=57):=by omega
  rw[hv];simp[au,f]
 ·have hv:aG [97,122] c=true:=by simp[aG,bi,aO,bv];omega
  have f:(65:Int)<=(c:Int)∧¬((c:Int)<=90)∧(97:Int)<=(c:Int)∧(c:Int)<=122∧(48:Int)<=(c:Int)∧¬((c:Int)<=57):=by omega
  rw[hv];simp[au,f]
 ·have hv:aG [97,122] c=false:=by simp[aG,bi,aO,bv];omega
  have f:(65:Int)<=(c:Int)∧¬((c:Int)<=90)∧(97:Int)<=(c:Int)∧¬((c:Int)<=122)∧(48:Int)<=(c:Int)∧¬((c:Int)<=57):=by omega
  rw[hv];simp[au,f]
theorem znk{ae:Nat}{H:aj}{c:Nat}(hc:c<256):Rn ak SA.sp ae 120 [.str [115,112,97,99,101],ag c] H=some (.ret (.tup [.bool (aG [9,13,32,32] c),.bool true]),H):=by
 have hp:(c<9)∨(9<=c∧c<14)∨(14<=c∧c<32)∨(32<=c∧c<33)∨(33<=c∧c<48)∨(48<=c∧c<58)∨(58<=c∧c<65)∨(65<=c∧c<91)∨(91<=c∧c<97)∨(97<=c∧c<123)∨(123<=c∧c<256):=by omega
 refine di rfl rfl rfl rfl ?_;rw[uw];rcases hp with h|h|h|h|h|h|h|h|h|h|h
 ·have hv:aG [9,13,32,32] c=false:=by simp[aG,bi,aO,bv];omega
  have e0:((c:Int)==32)=false:=by simp;omega
  have f:¬((65:Int)<=(c:Int))∧(c:Int)<=90∧¬((97:Int)<=(c:Int))∧(c:Int)<=122∧¬((48:Int)<=(c:Int))∧(c:Int)<=57∧¬((9:Int)<=(c:Int))∧(c:Int)<=13:=by omega
  rw[hv];simp[au,f,e0]
 ·have hv:aG [9,13,32,32] c=true:=by simp[aG,bi,aO,bv];omega
  have e0:((c:Int)==32)=false:=by simp;omega
  have f:¬((65:Int)<=(c:Int))∧(c:Int)<=90∧¬((97:Int)<=(c:Int))∧(c:Int)<=122∧¬((48:Int)<=(c:Int))∧(c:Int)<=57∧(9:Int)<=(c:Int)∧(c:Int)<=13:=by omega
  rw[hv];simp[au,f,e0]
 ·have hv:aG [9,13,32,32] c=false:=by simp[aG,bi,aO,bv];omega
  have e0:((c:Int)==32)=false:=by simp;omega
  have f:¬((65:Int)<=(c:Int))∧(c:Int)<=90∧¬((97:Int)<=(c:Int))∧(c:Int)<=122∧¬((48:Int)<=(c:Int))∧(c:Int)<=57∧(9:Int)<=(c:Int)∧¬((c:Int)<=13):=by omega
  rw[hv];simp[au,f,e0]
 ·have hv:aG [9,13,32,32] c=true:=by simp[aG,bi,aO,bv];omega
  have e0:((c:Int)==32)=true:=by simp;omega
  have f:¬((65:Int)<=(c:Int))∧(c:Int)<=90∧¬((97:Int)<=(c:Int))∧(c:Int)<=122∧¬((48:Int)<=(c:Int))∧(c:Int)<=57∧(9:Int)<=(c:Int)∧¬((c:Int)<=13):=by omega
  rw[hv];simp[au,f,e0]
 ·have hv:aG [9,13,32,32] c=false:=by simp[aG,bi,aO,bv];omega
  have e0:((c:Int)==32)=false:=by simp;omega
  have f:¬((65:Int)<=(c:Int))∧(c:Int)<=90∧¬((97:Int)<=(c:Int))∧(c:Int)<=122∧¬((48:Int)<=(c:Int))∧(c:Int)<=57∧(9:Int)<=(c:Int)∧¬((c:Int)<=13):=by omega
  rw[hv];simp[au,f,e0]
 ·have hv:aG [9,13,32,32] c=false:=by simp[aG,bi,aO,bv];omega
  have e0:((c:Int)==32)=false:=by simp;omega
  have f:¬((65:Int)<=(c:Int))∧(c:Int)<=90∧¬((97:Int)<=(c:Int))∧(c:Int)<=122∧(48:Int)<=(c:Int)∧(c:Int)<=57∧(9:Int)<=(c:Int)∧¬((c:Int)<=13):=by omega
  rw[hv];simp[au,f,e0]
 ·have hv:aG [9,13,32,32] c=false:=by simp[aG,bi,aO,bv];omega
  have e0:((c:Int)==32)=false:=by simp;omega
  have f:¬((65:Int)<=(c:Int))∧(c:Int)<=90∧¬((97:Int)<=(c:Int))∧(c:Int)<=122∧(48:Int)<=(c:Int)∧¬((c:Int)<=57)∧(9:Int)<=(c:Int)∧¬((c:Int)<=13):=by omega
  rw[hv];simp[au,f,e0]
 ·have hv:aG [9,13,32,32] c=false:=by simp[aG,bi,aO,bv];omega
  have e0:((c:Int)==32)=false:=by simp;omega
  have f:(65:Int)<=(c:Int)∧(c:Int)<=90∧¬((97:Int)<=(c:Int))∧(c:Int)<=122∧(48:Int)<=(c:Int)∧¬((c:Int)<=57)∧(9:Int)<=(c:Int)∧¬((c:Int)<=13):=by omega
  rw[hv];simp[au,f,e0]
 ·have hv:aG [9,13,32,32] c=false:=by simp[aG,bi,aO,bv];omega
  have e0:((c:Int)==32)=false:=by simp;omega
  have f:(65:Int)<=(c:Int)∧¬((c:Int)<=90)∧¬((97:Int)<=(c:Int))∧(c:Int)<=122∧(48:Int)<=(c:Int)∧¬((c:Int)<=57)∧(9:Int)<=(c:Int)∧¬((c:Int)<=13):=by omega
  rw[hv];simp[au,f,e0]
 ·have hv:aG [9,13,32,32] c=false:=by simp[aG,bi,aO,bv];omega
  have e0:((c:Int)==32)=false:=by simp;omega
  have f:(65:Int)<=(c:Int)∧¬((c:Int)<=90)∧(97:Int)<=(c:Int)∧(c:Int)<=122∧(48:Int)<=(c:Int)∧¬((c:Int)<=57)∧(9:Int)<=(c:Int)∧¬((c:Int)<=13):=by omega
  rw[hv];simp[au,f,e0]
 ·have hv:aG [9,13,32,32] c=false:=by simp[aG,bi,aO,bv];omega
  have e0:((c:Int)==32)=false:=by simp;omega
  have f:(65:Int)<=(c:Int)∧¬((c:Int)<=90)∧(97:Int)<=(c:Int)∧¬((c:Int)<=122)∧(48:Int)<=(c:Int)∧¬((c:Int)<=57)∧(9:Int)<=(c:Int)∧¬((c:Int)<=13):=by omega
  rw[hv];simp[au,f,e0]
theorem znt{ae:Nat}{H:aj}{c:Nat}(hc:c<256):Rn ak SA.sp ae 120 [.str [98,108,97,110,107],ag c] H=some (.ret (.tup [.bool (aG [9,9,32,32] c),.bool true]),H):=by
 have hp:(c<9)∨(9<=c∧c<10)∨(10<=c∧c<32)∨(32<=c∧c<33)∨(33<=c∧c<48)∨(48<=c∧c<58)∨(58<=c∧c<65)∨(65<=c∧c<91)∨(91<=c∧c<97)∨(97<=c∧c<123)∨(123<=c∧c<256):=by omega
 refine di rfl rfl rfl rfl ?_;rw[uw];rcases hp with h|h|h|h|h|h|h|h|h|h|h
 ·have hv:aG [9,9,32,32] c=false:=by simp[aG,bi,aO,bv];omega
  have e0:((c:Int)==32)=false:=by simp;omega
  have e1:((c:Int)==9)=false:=by simp;omega
  have f:¬((65:Int)<=(c:Int))∧(c:Int)<=90∧¬((97:Int)<=(c:Int))∧(c:Int)<=122∧¬((48:Int)<=(c:Int))∧(c:Int)<=57:=by omega
  rw[hv];simp[au,f,e0,e1]
 ·have hv:aG [9,9,32,32] c=true:=by simp[aG,bi,aO,bv];omega
  have e0:((c:Int)==32)=false:=by simp;omega
  have e1:((c:Int)==9)=true:=by simp;omega
  have f:¬((65:Int)<=(c:Int))∧(c:Int)<=90∧¬((97:Int)<=(c:Int))∧(c:Int)<=122∧¬((48:Int)<=(c:Int))∧(c:Int)<=57:=by omega
  rw[hv];simp[au,f,e0,e1]
 ·have hv:aG [9,9,32,32] c=false:=by simp[aG,bi,aO,bv];omega
  have e0:((c:Int)==32)=false:=by simp;omega
  have e1:((c:Int)==9)=false:=by simp;omega
  have f:¬((65:Int)<=(c:Int))∧(c:Int)<=90∧¬((97:Int)<=(c:Int))∧(c:Int)<=122∧¬((48:Int)<=(c:Int))∧(c:Int)<=57:=by omega
  rw[hv];simp[au,f,e0,e1]
 ·have hv:aG [9,9,32,32] c=true:=by simp[aG,bi,aO,bv];omega
  have e0:((c:Int)==32)=true:=by simp;omega
  have e1:((c:Int)==9)=false:=by simp;omega
  have f:¬((65:Int)<=(c:Int))∧(c:Int)<=90∧¬((97:Int)<=(c:Int))∧(c:Int)<=122∧¬((48:Int)<=(c:Int))∧(c:Int)<=57:=by omega
  rw[hv];simp[au,f,e0,e1]
 ·have hv:aG [9,9,32,32] c=false:=by simp[aG,bi,aO,bv];omega
  have e0:((c:Int)==32)=false:=by simp;omega
  have e1:((c:Int)==9)=false:=by simp;omega
  have f:¬((65:Int)<=(c:Int))∧(c:Int)<=90∧¬((97:Int)<=(c:Int))∧(c:Int)<=122∧¬((48:Int)<=(c:Int))∧(c:Int)<=57:=by omega
  rw[hv];simp[au,f,e0,e1]
 ·have hv:aG [9,9,32,32] c=false:=by simp[aG,bi,aO,bv];omega
  have e0:((c:Int)==32)=false:=by simp;omega
  have e1:((c:Int)==9)=false:=by simp;omega
  have f:¬((65:Int)<=(c:Int))∧(c:Int)<=90∧¬((97:Int)<=(c:Int))∧(c:Int)<=122∧(48:Int)<=(c:Int)∧(c:Int)<=57:=by omega
  rw[hv];simp[au,f,e0,e1]
 ·have hv:aG [9,9,32,32] c=false:=by simp[aG,bi,aO,bv];omega
  have e0:((c:Int)==32)=false:=by simp;omega
  have e1:((c:Int)==9)=false:=by simp;omega
  have f:¬((65:Int)<=(c:Int))∧(c:Int)<=90∧¬((97:Int)<=(c:Int))∧(c:Int)<=122∧(48:Int)<=(c:Int)∧¬((c:Int)<=57):=by omega
  rw[hv];simp[au,f,e0,e1]
 ·have hv:aG [9,9,32,32] c=false:=by simp[aG,bi,aO,bv];omega
  have e0:((c:Int)==32)=false:=by simp;omega
  have e1:((c:Int)==9)=false:=by simp;omega
  have f:(65:Int)<=(c:Int)∧(c:Int)<=90∧¬((97:Int)<=(c:Int))∧(c:Int)<=122∧(48:Int)<=(c:Int)∧¬((c:Int)<=57):=by omega
  rw[hv];simp[au,f,e0,e1]
 ·have hv:aG [9,9,32,32] c=false:=by simp[aG,bi,aO,bv];omega
  have e0:((c:Int)==32)=false:=by simp;omega
  have e1:((c:Int)==9)=false:=by simp;omega
  have f:(65:Int)<=(c:Int)∧¬((c:Int)<=90)∧¬((97:Int)<=(c:Int))∧(c:Int)<=122∧(48:Int)<=(c:Int)∧¬((c:Int)<=57):=by omega
  rw[hv];simp[au,f,e0,e1]
 ·have hv:aG [9,9,32,32] c=false:=by simp[aG,bi,aO,bv];omega
  have e0:((c:Int)==32)=false:=by simp;omega
  have e1:((c:Int)==9)=false:=by simp;omega
  have f:(65:Int)<=(c:Int)∧¬((c:Int)<=90)∧(97:Int)<=(c:Int)∧(c:Int)<=122∧(48:Int)<=(c:Int)∧¬((c:Int)<=57):=by omega
  rw[hv];simp[au,f,e0,e1]
 ·have hv:aG [9,9,32,32] c=false:=by simp[aG,bi,aO,bv];omega
  have e0:((c:Int)==32)=false:=by simp;omega
  have e1:((c:Int)==9)=false:=by simp;omega
  have f:(65:Int)<=(c:Int)∧¬((c:Int)<=90)∧(97:Int)<=(c:Int)∧¬((c:Int)<=122)∧(48:Int)<=(c:Int)∧¬((c:Int)<=57):=by omega
  rw[hv];simp[au,f,e0,e1]
theorem znm{ae:Nat}{H:aj}{c:Nat}(hc:c<256):Rn ak SA.sp ae 120 [.str [112,117,110,99,116],ag c] H=some (.ret (.tup [.bool (aG [33,47,58,64,91,96,123,126] c),.bool true]),H):=by
 have hp:(c<33)∨(33<=c∧c<48)∨(48<=c∧c<58)∨(58<=c∧c<65)∨(65<=c∧c<91)∨(91<=c∧c<97)∨(97<=c∧c<123)∨(123<=c∧c<127)∨(127<=c∧c<256):=by omega
 refine di rfl rfl rfl rfl ?_;rw[uw];rcases hp with h|h|h|h|h|h|h|h|h
 ·have hv:aG [33,47,58,64,91,96,123,126] c=false:=by simp[aG,bi,aO,bv];omega
  have f:¬((65:Int)<=(c:Int))∧(c:Int)<=90∧¬((97:Int)<=(c:Int))∧(c:Int)<=122∧¬((48:Int)<=(c:Int))∧(c:Int)<=57∧¬((32:Int)<(c:Int))∧(c:Int)<127:=by omega
  rw[hv];simp[au,f]
 ·have hv:aG [33,47,58,64,91,96,123,126] c=true:=by simp[aG,bi,aO,bv];omega
  have f:¬((65:Int)<=(c:Int))∧(c:Int)<=90∧¬((97:Int)<=(c:Int))∧(c:Int)<=122∧¬((48:Int)<=(c:Int))∧(c:Int)<=57∧(32:Int)<(c:Int)∧(c:Int)<127:=by omega
  rw[hv];simp[au,f]
 ·have hv:aG [33,47,58,64,91,96,123,126] c=false:=by simp[aG,bi,aO,bv];omega
  have f:¬((65:Int)<=(c:Int))∧(c:Int)<=90∧¬((97:Int)<=(c:Int))∧(c:Int)<=122∧(48:Int)<=(c:Int)∧(c:Int)<=57∧(32:Int)<(c:Int)∧(c:Int)<127:=by omega
  rw[hv];simp[au,f]
 ·have hv:aG [33,47,58,64,91,96,123,126] c=true:=by simp[aG,bi,aO,bv];omega
  have f:¬((65:Int)<=(c:Int))∧(c:Int)<=90∧¬((97:Int)<=(c:Int))∧(c:Int)<=122∧(48:Int)<=(c:Int)∧¬((c:Int)<=57)∧(32:Int)<(c:Int)∧(c:Int)<127:=by omega
  rw[hv];simp[au,f]
 ·have hv:aG [33,47,58,64,91,96,123,126] c=false:=by simp[aG,bi,aO,bv];omega
  have f:(65:Int)<=(c:Int)∧(c:Int)<=90∧¬((97:Int)<=(c:Int))∧(c:Int)<=122∧(48:Int)<=(c:Int)∧¬((c:Int)<=57)∧(32:Int)<(c:Int)∧(c:Int)<127:=by omega
  rw[hv];simp[au,f]
 ·have hv:aG [33,47,58,64,91,96,123,126] c=true:=by simp[aG,bi,aO,bv];omega
  have f:(65:Int)<=(c:Int)∧¬((c:Int)<=90)∧¬((97:Int)<=(c:Int))∧(c:Int)<=122∧(48:Int)<=(c:Int)∧¬((c:Int)<=57)∧(32:Int)<(c:Int)∧(c:Int)<127:=by omega
  rw[hv];simp[au,f]
 ·have hv:aG [33,47,58,64,91,96,123,126] c=false:=by simp[aG,bi,aO,bv];omega
  have f:(65:Int)<=(c:Int)∧¬((c:Int)<=90)∧(97:Int)<=(c:Int)∧(c:Int)<=122∧(48:Int)<=(c:Int)∧¬((c:Int)<=57)∧(32:Int)<(c:Int)∧(c:Int)<127:=by omega
  rw[hv];simp[au,f]
 ·have hv:aG [33,47,58,64,91,96,123,126] c=true:=by simp[aG,bi,aO,bv];omega
  have f:(65:Int)<=(c:Int)∧¬((c:Int)<=90)∧(97:Int)<=(c:Int)∧¬((c:Int)<=122)∧(48:Int)<=(c:Int)∧¬((c:Int)<=57)∧(32:Int)<(c:Int)∧(c:Int)<127:=by omega
  rw[hv];simp[au,f]
 ·have hv:aG [33,47,58,64,91,96,123,126] c=false:=by simp[aG,bi,aO,bv];omega
  have f:(65:Int)<=(c:Int)∧¬((c:Int)<=90)∧(97:Int)<=(c:Int)∧¬((c:Int)<=122)∧(48:Int)<=(c:Int)∧¬((c:Int)<=57)∧(32:Int)<(c:Int)∧¬((c:Int)<127):=by omega
  rw[hv];simp[au,f]
theorem znn{ae:Nat}{H:aj}{c:Nat}(hc:c<256):Rn ak SA.sp ae 120 [.str [112,114,105,110,116],ag c] H=some (.ret (.tup [.bool (aG [32,126] c),.bool true]),H):=by
 have hp:(c<32)∨(32<=c∧c<48)∨(48<=c∧c<58)∨(58<=c∧c<65)∨(65<=c∧c<91)∨(91<=c∧c<97)∨(97<=c∧c<123)∨(123<=c∧c<127)∨(127<=c∧c<256):=by omega
 refine di rfl rfl rfl rfl ?_;rw[uw];rcases hp with h|h|h|h|h|h|h|h|h
 ·have hv:aG [32,126] c=false:=by simp[aG,bi,aO,bv];omega
  have f:¬((65:Int)<=(c:Int))∧(c:Int)<=90∧¬((97:Int)<=(c:Int))∧(c:Int)<=122∧¬((48:Int)<=(c:Int))∧(c:Int)<=57∧¬((32:Int)<=(c:Int))∧(c:Int)<127:=by omega
  rw[hv];simp[au,f]
 ·have hv:aG [32,126] c=true:=by simp[aG,bi,aO,bv];omega
  have f:¬((65:Int)<=(c:Int))∧(c:Int)<=90∧¬((97:Int)<=(c:Int))∧(c:Int)<=122∧¬((48:Int)<=(c:Int))∧(c:Int)<=57∧(32:Int)<=(c:Int)∧(c:Int)<127:=by omega
  rw[hv];simp[au,f]
 ·have hv:aG [32,126] c=true:=by simp[aG,bi,aO,bv];omega
  have f:¬((65:Int)<=(c:Int))∧(c:Int)<=90∧¬((97:Int)<=(c:Int))∧(c:Int)<=122∧(48:Int)<=(c:Int)∧(c:Int)<=57∧(32:Int)<=(c:Int)∧(c:Int)<127:=by omega
  rw[hv];simp[au,f]
 ·have hv:aG [32,126] c=true:=by simp[aG,bi,aO,bv];omega
  have f:¬((65:Int)<=(c:Int))∧(c:Int)<=90∧¬((97:Int)<=(c:Int))∧(c:Int)<=122∧(48:Int)<=(c:Int)∧¬((c:Int)<=57)∧(32:Int)<=(c:Int)∧(c:Int)<127:=by omega
  rw[hv];simp[au,f]
 ·have hv:aG [32,126] c=true:=by simp[aG,bi,aO,bv];omega
  have f:(65:Int)<=(c:Int)∧(c:Int)<=90∧¬((97:Int)<=(c:Int))∧(c:Int)<=122∧(48:Int)<=(c:Int)∧¬((c:Int)<=57)∧(32:Int)<=(c:Int)∧(c:Int)<127:=by omega
  rw[hv];simp[au,f]
 ·have hv:aG [32,126] c=true:=by simp[aG,bi,aO,bv];omega
  have f:(65:Int)<=(c:Int)∧¬((c:Int)<=90)∧¬((97:Int)<=(c:Int))∧(c:Int)<=122∧(48:Int)<=(c:Int)∧¬((c:Int)<=57)∧(32:Int)<=(c:Int)∧(c:Int)<127:=by omega
  rw[hv];simp[au,f]
 ·have hv:aG [32,126] c=true:=by simp[aG,bi,aO,bv];omega
  have f:(65:Int)<=(c:Int)∧¬((c:Int)<=90)∧(97:Int)<=(c:Int)∧(c:Int)<=122∧(48:Int)<=(c:Int)∧¬((c:Int)<=57)∧(32:Int)<=(c:Int)∧(c:Int)<127:=by omega
  rw[hv];simp[au,f]
 ·have hv:aG [32,126] c=true:=by simp[aG,bi,aO,bv];omega
  have f:(65:Int)<=(c:Int)∧¬((c:Int)<=90)∧(97:Int)<=(c:Int)∧¬((c:Int)<=122)∧(48:Int)<=(c:Int)∧¬((c:Int)<=57)∧(32:Int)<=(c:Int)∧(c:Int)<127:=by omega
  rw[hv];simp[au,f]
 ·have hv:aG [32,126] c=false:=by simp[aG,bi,aO,bv];omega
  have f:(65:Int)<=(c:Int)∧¬((c:Int)<=90)∧(97:Int)<=(c:Int)∧¬((c:Int)<=122)∧(48:Int)<=(c:Int)∧¬((c:Int)<=57)∧(32:Int)<=(c:Int)∧¬((c:Int)<127):=by omega
  rw[hv];simp[au,f]
theorem znq{ae:Nat}{H:aj}{c:Nat}(hc:c<256):Rn ak SA.sp ae 120 [.str [103,114,97,112,104],ag c] H=some (.ret (.tup [.bool (aG [33,126] c),.bool true]),H):=by
 have hp:(c<33)∨(33<=c∧c<48)∨(48<=c∧c<58)∨(58<=c∧c<65)∨(65<=c∧c<91)∨(91<=c∧c<97)∨(97<=c∧c<123)∨(123<=c∧c<127)∨(127<=c∧c<256):=by omega
 refine di rfl rfl rfl rfl ?_;rw[uw];rcases hp with h|h|h|h|h|h|h|h|h
 ·have hv:aG [33,126] c=false:=by simp[aG,bi,aO,bv];omega
  have f:¬((65:Int)<=(c:Int))∧(c:Int)<=90∧¬((97:Int)<=(c:Int))∧(c:Int)<=122∧¬((48:Int)<=(c:Int))∧(c:Int)<=57∧¬((32:Int)<(c:Int))∧(c:Int)<127:=by omega
  rw[hv];simp[au,f]
 ·have hv:aG [33,126] c=true:=by simp[aG,bi,aO,bv];omega
  have f:¬((65:Int)<=(c:Int))∧(c:Int)<=90∧¬((97:Int)<=(c:Int))∧(c:Int)<=122∧¬((48:Int)<=(c:Int))∧(c:Int)<=57∧(32:Int)<(c:Int)∧(c:Int)<127:=by omega
  rw[hv];simp[au,f]
 ·have hv:aG [33,126] c=true:=by simp[aG,bi,aO,bv];omega
  have f:¬((65:Int)<=(c:Int))∧(c:Int)<=90∧¬((97:Int)<=(c:Int))∧(c:Int)<=122∧(48:Int)<=(c:Int)∧(c:Int)<=57∧(32:Int)<(c:Int)∧(c:Int)<127:=by omega
  rw[hv];simp[au,f]
 ·have hv:aG [33,126] c=true:=by simp[aG,bi,aO,bv];omega
  have f:¬((65:Int)<=(c:Int))∧(c:Int)<=90∧¬((97:Int)<=(c:Int))∧(c:Int)<=122∧(48:Int)<=(c:Int)∧¬((c:Int)<=57)∧(32:Int)<(c:Int)∧(c:Int)<127:=by omega
  rw[hv];simp[au,f]
 ·have hv:aG [33,126] c=true:=by simp[aG,bi,aO,bv];omega
  have f:(65:Int)<=(c:Int)∧(c:Int)<=90∧¬((97:Int)<=(c:Int))∧(c:Int)<=122∧(48:Int)<=(c:Int)∧¬((c:Int)<=57)∧(32:Int)<(c:Int)∧(c:Int)<127:=by omega
  rw[hv];simp[au,f]
 ·have hv:aG [33,126] c=true:=by simp[aG,bi,aO,bv];omega
  have f:(65:Int)<=(c:Int)∧¬((c:Int)<=90)∧¬((97:Int)<=(c:Int))∧(c:Int)<=122∧(48:Int)<=(c:Int)∧¬((c:Int)<=57)∧(32:Int)<(c:Int)∧(c:Int)<127:=by omega
  rw[hv];simp[au,f]
 ·have hv:aG [33,126] c=true:=by simp[aG,bi,aO,bv];omega
  have f:(65:Int)<=(c:Int)∧¬((c:Int)<=90)∧(97:Int)<=(c:Int)∧(c:Int)<=122∧(48:Int)<=(c:Int)∧¬((c:Int)<=57)∧(32:Int)<(c:Int)∧(c:Int)<127:=by omega
  rw[hv];simp[au,f]
 ·have hv:aG [33,126] c=true:=by simp[aG,bi,aO,bv];omega
  have f:(65:Int)<=(c:Int)∧¬((c:Int)<=90)∧(97:Int)<=(c:Int)∧¬((c:Int)<=122)∧(48:Int)<=(c:Int)∧¬((c:Int)<=57)∧(32:Int)<(c:Int)∧(c:Int)<127:=by omega
  rw[hv];simp[au,f]
 ·have hv:aG [33,126] c=false:=by simp[aG,bi,aO,bv];omega
  have f:(65:Int)<=(c:Int)∧¬((c:Int)<=90)∧(97:Int)<=(c:Int)∧¬((c:Int)<=122)∧(48:Int)<=(c:Int)∧¬((c:Int)<=57)∧(32:Int)<(c:Int)∧¬((c:Int)<127):=by omega
  rw[hv];simp[au,f]
theorem zns{ae:Nat}{H:aj}{c:Nat}(hc:c<256):Rn ak SA.sp ae 120 [.str [99,110,116,114,108],ag c] H=some (.ret (.tup [.bool (aG [0,31,127,127] c),.bool true]),H):=by
 have hp:(c<32)∨(32<=c∧c<48)∨(48<=c∧c<58)∨(58<=c∧c<65)∨(65<=c∧c<91)∨(91<=c∧c<97)∨(97<=c∧c<123)∨(123<=c∧c<127)∨(127<=c∧c<128)∨(128<=c∧c<256):=by omega
 refine di rfl rfl rfl rfl ?_;rw[uw];rcases hp with h|h|h|h|h|h|h|h|h|h
 ·have hv:aG [0,31,127,127] c=true:=by simp[aG,bi,aO,bv];omega
  have e0:((c:Int)==127)=false:=by simp;omega
  have f:¬((65:Int)<=(c:Int))∧(c:Int)<=90∧¬((97:Int)<=(c:Int))∧(c:Int)<=122∧¬((48:Int)<=(c:Int))∧(c:Int)<=57∧(c:Int)<32:=by omega
  rw[hv];simp[au,f,e0]
 ·have hv:aG [0,31,127,127] c=false:=by simp[aG,bi,aO,bv];omega
  have e0:((c:Int)==127)=false:=by simp;omega
  have f:¬((65:Int)<=(c:Int))∧(c:Int)<=90∧¬((97:Int)<=(c:Int))∧(c:Int)<=122∧¬((48:Int)<=(c:Int))∧(c:Int)<=57∧¬((c:Int)<32):=by omega
  rw[hv];simp[au,f,e0]
 ·have hv:aG [0,31,127,127] c=false:=by simp[aG,bi,aO,bv];omega
  have e0:((c:Int)==127)=false:=by simp;omega
  have f:¬((65:Int)<=(c:Int))∧(c:Int)<=90∧¬((97:Int)<=(c:Int))∧(c:Int)<=122∧(48:Int)<=(c:Int)∧(c:Int)<=57∧¬((c:Int)<32):=by omega
  rw[hv];simp[au,f,e0]
 ·have hv:aG [0,31,127,127] c=false:=by simp[aG,bi,aO,bv];omega
  have e0:((c:Int)==127)=false:=by simp;omega
  have f:¬((65:Int)<=(c:Int))∧(c:Int)<=90∧¬((97:Int)<=(c:Int))∧(c:Int)<=122∧(48:Int)<=(c:Int)∧¬((c:Int)<=57)∧¬((c:Int)<32):=by omega
  rw[hv];simp[au,f,e0]
 ·have hv:aG [0,31,127,127] c=false:=by simp[aG,bi,aO,bv];omega
  have e0:((c:Int)==127)=false:=by simp;omega
  have f:(65:Int)<=(c:Int)∧(c:Int)<=90∧¬((97:Int)<=(c:Int))∧(c:Int)<=122∧(48:Int)<=(c:Int)∧¬((c:Int)<=57)∧¬((c:Int)<32):=by omega
  rw[hv];simp[au,f,e0]
 ·have hv:aG [0,31,127,127] c=false:=by simp[aG,bi,aO,bv];omega
  have e0:((c:Int)==127)=false:=by simp;omega
  have f:(65:Int)<=(c:Int)∧¬((c:Int)<=90)∧¬((97:Int)<=(c:Int))∧(c:Int)<=122∧(48:Int)<=(c:Int)∧¬((c:Int)<=57)∧¬((c:Int)<32):=by omega
  rw[hv];simp[au,f,e0]
 ·have hv:aG [0,31,127,127] c=false:=by simp[aG,bi,aO,bv];omega
  have e0:((c:Int)==127)=false:=by simp;omega
  have f:(65:Int)<=(c:Int)∧¬((c:Int)<=90)∧(97:Int)<=(c:Int)∧(c:Int)<=122∧(48:Int)<=(c:Int)∧¬((c:Int)<=57)∧¬((c:Int)<32):=by omega
  rw[hv];simp[au,f,e0]
 ·have hv:aG [0,31,127,127] c=false:=by simp[aG,bi,aO,bv];omega
  have e0:((c:Int)==127)=false:=by simp;omega
  have f:(65:Int)<=(c:Int)∧¬((c:Int)<=90)∧(97:Int)<=(c:Int)∧¬((c:Int)<=122)∧(48:Int)<=(c:Int)∧¬((c:Int)<=57)∧¬((c:Int)<32):=by omega
  rw[hv];simp[au,f,e0]
 ·have hv:aG [0,31,127,127] c=true:=by simp[aG,bi,aO,bv];omega
  have e0:((c:Int)==127)=true:=by simp;omega
  have f:(65:Int)<=(c:Int)∧¬((c:Int)<=90)∧(97:Int)<=(c:Int)∧¬((c:Int)<=122)∧(48:Int)<=(c:Int)∧¬((c:Int)<=57)∧¬((c:Int)<32):=by omega
  rw[hv];simp[au,f,e0]
 ·have hv:aG [0,31,127,127] c=false:=by simp[aG,bi,aO,bv];omega
  have e0:((c:Int)==127)=false:=by simp;omega
  have f:(65:Int)<=(c:Int)∧¬((c:Int)<=90)∧(97:Int)<=(c:Int)∧¬((c:Int)<=122)∧(48:Int)<=(c:Int)∧¬((c:Int)<=57)∧¬((c:Int)<32):=by omega
  rw[hv];simp[au,f,e0]
theorem znh{ae:Nat}{H:aj}{c:Nat}(hc:c<256):Rn ak SA.sp ae 120 [.str [120,100,105,103,105,116],ag c] H=some (.ret (.tup [.bool (aG [48,57,65,70,97,102] c),.bool true]),H):=by
 have hp:(c<48)∨(48<=c∧c<58)∨(58<=c∧c<65)∨(65<=c∧c<71)∨(71<=c∧c<91)∨(91<=c∧c<97)∨(97<=c∧c<103)∨(103<=c∧c<123)∨(123<=c∧c<256):=by omega
 refine di rfl rfl rfl rfl ?_;rw[uw];rcases hp with h|h|h|h|h|h|h|h|h
 ·have hv:aG [48,57,65,70,97,102] c=false:=by simp[aG,bi,aO,bv];omega
  have f:¬((65:Int)<=(c:Int))∧(c:Int)<=90∧¬((97:Int)<=(c:Int))∧(c:Int)<=122∧¬((48:Int)<=(c:Int))∧(c:Int)<=57∧(c:Int)<=70∧(c:Int)<=102:=by omega
  rw[hv];simp[au,f]
 ·have hv:aG [48,57,65,70,97,102] c=true:=by simp[aG,bi,aO,bv];omega
  have f:¬((65:Int)<=(c:Int))∧(c:Int)<=90∧¬((97:Int)<=(c:Int))∧(c:Int)<=122∧(48:Int)<=(c:Int)∧(c:Int)<=57∧(c:Int)<=70∧(c:Int)<=102:=by omega
  rw[hv];simp[au,f]
 ·have hv:aG [48,57,65,70,97,102] c=false:=by simp[aG,bi,aO,bv];omega
  have f:¬((65:Int)<=(c:Int))∧(c:Int)<=90∧¬((97:Int)<=(c:Int))∧(c:Int)<=122∧(48:Int)<=(c:Int)∧¬((c:Int)<=57)∧(c:Int)<=70∧(c:Int)<=102:=by omega
  rw[hv];simp[au,f]
 ·have hv:aG [48,57,65,70,97,102] c=true:=by simp[aG,bi,aO,bv];omega
  have f:(65:Int)<=(c:Int)∧(c:Int)<=90∧¬((97:Int)<=(c:Int))∧(c:Int)<=122∧(48:Int)<=(c:Int)∧¬((c:Int)<=57)∧(c:Int)<=70∧(c:Int)<=102:=by omega
  rw[hv];simp[au,f]
 ·have hv:aG [48,57,65,70,97,102] c=false:=by simp[aG,bi,aO,bv];omega
  have f:(65:Int)<=(c:Int)∧(c:Int)<=90∧¬((97:Int)<=(c:Int))∧(c:Int)<=122∧(48:Int)<=(c:Int)∧¬((c:Int)<=57)∧¬((c:Int)<=70)∧(c:Int)<=102:=by omega
  rw[hv];simp[au,f]
 ·have hv:aG [48,57,65,70,97,102] c=false:=by simp[aG,bi,aO,bv];omega
  have f:(65:Int)<=(c:Int)∧¬((c:Int)<=90)∧¬((97:Int)<=(c:Int))∧(c:Int)<=122∧(48:Int)<=(c:Int)∧¬((c:Int)<=57)∧¬((c:Int)<=70)∧(c:Int)<=102:=by omega
  rw[hv];simp[au,f]
 ·have hv:aG [48,57,65,70,97,102] c=true:=by simp[aG,bi,aO,bv];omega
  have f:(65:Int)<=(c:Int)∧¬((c:Int)<=90)∧(97:Int)<=(c:Int)∧(c:Int)<=122∧(48:Int)<=(c:Int)∧¬((c:Int)<=57)∧¬((c:Int)<=70)∧(c:Int)<=102:=by omega
  rw[hv];simp[au,f]
 ·have hv:aG [48,57,65,70,97,102] c=false:=by simp[aG,bi,aO,bv];omega
  have f:(65:Int)<=(c:Int)∧¬((c:Int)<=90)∧(97:Int)<=(c:Int)∧(c:Int)<=122∧(48:Int)<=(c:Int)∧¬((c:Int)<=57)∧¬((c:Int)<=70)∧¬((c:Int)<=102):=by omega
  rw[hv];simp[au,f]
 ·have hv:aG [48,57,65,70,97,102] c=false:=by simp[aG,bi,aO,bv];omega
  have f:(65:Int)<=(c:Int)∧¬((c:Int)<=90)∧(97:Int)<=(c:Int)∧¬((c:Int)<=122)∧(48:Int)<=(c:Int)∧¬((c:Int)<=57)∧¬((c:Int)<=70)∧¬((c:Int)<=102):=by omega
  rw[hv];simp[au,f]
theorem znw{name:List UInt8}(h:jS name ≠ []){c:Nat}(hc:c<256)(ae:Nat)(H:aj):Rn ak SA.sp ae 120 [.str name,ag c] H=some (.ret (.tup [.bool (aG (jS name) c),.bool true]),H):=by
 rw[Wh]at h ⊢;by_cases h0:name=[97,108,112,104,97]
 ·rw[h0];exact znu hc
 rw[aF h0]at h ⊢;by_cases h1:name=[100,105,103,105,116]
 ·rw[h1];exact znr hc
 rw[aF h1]at h ⊢;by_cases h2:name=[97,108,110,117,109]
 ·rw[h2];exact znv hc
 rw[aF h2]at h ⊢;by_cases h3:name=[117,112,112,101,114]
 ·rw[h3];exact zni hc
 rw[aF h3]at h ⊢;by_cases h4:name=[108,111,119,101,114]
 ·rw[h4];exact zno hc
 rw[aF h4]at h ⊢;by_cases h5:name=[115,112,97,99,101]
 ·rw[h5];exact znk hc
 rw[aF h5]at h ⊢;by_cases h6:name=[98,108,97,110,107]
 ·rw[h6];exact znt hc
 rw[aF h6]at h ⊢;by_cases h7:name=[112,117,110,99,116]
 ·rw[h7];exact znm hc
 rw[aF h7]at h ⊢;by_cases h8:name=[112,114,105,110,116]
 ·rw[h8];exact znn hc
 rw[aF h8]at h ⊢;by_cases h9:name=[103,114,97,112,104]
 ·rw[h9];exact znq hc
 rw[aF h9]at h ⊢;by_cases h10:name=[99,110,116,114,108]
 ·rw[h10];exact zns hc
 rw[aF h10]at h ⊢;by_cases h11:name=[120,100,105,103,105,116]
 ·rw[h11];exact znh hc
 rw[aF h11]at h ⊢;exact absurd rfl h
end
section
def dV(s:List UInt8)(i:Nat):Int:=match s[i]? with|some c=>c.toNat|none=> -1
theorem jJ{s:List UInt8}{i:Nat}{c:UInt8}(h:s[i]?=some c):dV s i=c.toNat:=by simp[dV,h]
theorem Nn{s:List UInt8}{i:Nat}(h:s[i]?=none):dV s i= -1:=by simp[dV,h]
theorem mK{s:List UInt8}{i:Nat}(d:UInt8)(h:¬s[i]?=some d):(dV s i==(d.toNat:Int))=false∧(dV s i != (d.toNat:Int))=true:=by
 have:¬dV s i=(d.toNat:Int):=by
  unfold dV;cases q:s[i]? with
  |none=>simp only;omega
  |some c=>
   simp only;intro e;exact h (by rw[q,si.1 (Int.ofNat.inj e)])
 have e:(dV s i==(d.toNat:Int))=false:=by simpa using this
 exact⟨e,by simp[bne,e]⟩
theorem Nl{ae:Nat}{H:aj}(s:List UInt8)(i:Nat):Rn ak SA.sp ae 119 [.str s,ag i] H=some (.ret (.int .i64 (dV s i)),H):=by
 refine di rfl rfl rfl rfl ?_;rw[zpO];cases h:s[i]? with
 |none=>
  have h1:¬i<s.length:=by have:=rq.1 h;omega
  rw[Nn h];simp[dN,a119,zaA,zaz,zay,zax,h1]
 |some c=>
  have h1:=(eD.1 h).1;have hw:IntKind.i64.wrap (c.toNat:Int)=(c.toNat:Int):=aM _ (by have:=c.toNat_lt;omega);rw[jJ h];simp[dN,a119,zaA,zaz,zay,zax,h1,h,hw]
def mV(s:List UInt8)(i:Nat):AV:=match lu s i with
 |some (c,j)=>.tup [.int .i64 c.toNat,ag j]
 |none=>.tup [.int .i64 (-1),ag (match s[i]? with|some _=>i+2|none=>i+1)]
theorem zmR{ae:Nat}{H:aj}(s:List UInt8){i:Nat}(hi:i<=100000):Rn ak SA.sp ae 121 [.str s,ag i] H=some (.ret (mV s i),H):=by
 have dQ:=fun i=>Nl (ae:=0) (H:=[]) s i;have hw:IntKind.i64.wrap ((i:Int)+1)=(i:Int)+1:=aM _ (by omega);have bY:IntKind.i64.wrap ((i:Int)+2)=(i:Int)+2:=aM _ (by omega);have lI:Rn ak SA.sp 0 119 [.str s,.int .i64 ((i:Int)+1)] []=some (.ret (.int .i64 (dV s (i+1))),[]):=by
  rw[show(AV.int .i64 ((i:Int)+1))=ag (i+1) by simp[ag]];exact dQ (i+1)
 refine di rfl rfl rfl rfl ?_;rw[zpN];by_cases hc:s[i]?=some 92
 ·have h92:dV s i=92:=jJ hc;by_cases c1:s[i+1]?=some 110
  ·have e:mV s i=.tup [ag 10,ag (i+2)]:=by simp[mV,lu,hc,c1,qC]
   have h110:dV s (i+1)=110:=jJ c1;rw[e];simp[dN,a121,Pd,Pb,O9,O8,O7,O6,O5,O4,O3,dQ,lI,hw,bY,h92,h110,aN,bg]
  ·obtain⟨h110,h110'⟩:=mK 110 c1;have h110:(dV s (i+1)==110)=false:=h110;by_cases c2:s[i+1]?=some 116
   ·have e:mV s i=.tup [ag 9,ag (i+2)]:=by simp[mV,lu,hc,c2,qC]
    have h116:dV s (i+1)=116:=jJ c2;rw[e];simp[dN,a121,Pd,Pb,O9,O8,O7,O6,O5,O4,O3,dQ,lI,hw,bY,h92,h116,aN,bg]
   ·obtain⟨h116,h116'⟩:=mK 116 c2;have h116:(dV s (i+1)==116)=false:=h116;have e:mV s i=.tup [.int .i64 (dV s (i+1)),ag (i+2)]:=by
     cases q:s[i+1]? with
     |none=>simp[mV,lu,hc,q,dV]
     |some d=>
      have d1:d≠110:=fun e=>c1 (e▸q);have d2:d≠116:=fun e=>c2 (e▸q);simp[mV,lu,hc,q,dV,qC,d1,d2]
    rw[e];simp[dN,a121,Pd,Pb,O9,O8,O7,O6,O5,O4,O3,dQ,lI,hw,bY,h92,h110,h116,aN,bg]
 ·obtain⟨h92,h92'⟩:=mK 92 hc;have h92':(dV s i != 92)=true:=h92';have e:mV s i=.tup [.int .i64 (dV s i),ag (i+1)]:=by
   cases q:s[i]? with
   |none=>simp[mV,lu,q,dV]
   |some d=>
    have d1:d≠92:=fun e=>hc (e▸q);simp[mV,lu,q,dV,d1]
  rw[e];simp[dN,a121,Pd,Pb,O9,O8,O7,O6,O5,O4,O3,dQ,lI,hw,bY,h92',aN,bg]
theorem zqY{c:Nat}(hc:c<256):c<48∨(48<=c∧c<=57)∨(58<=c∧c<65)∨(65<=c∧c<=90)∨(91<=c∧c<97)∨(97<=c∧c<=122)∨123<=c:=by omega
theorem znj{ae:Nat}{H:aj}{name:List UInt8}(h:jS name=[]){c:Nat}(hc:c<256):Rn ak SA.sp ae 120 [.str name,ag c] H=some (.ret (.tup [.bool false,.bool false]),H):=by
 have hn:∀t:List UInt8,jS t ≠ []->¬name=t:=fun t ht e=>by rw[e]at h;exact ht h
 have n1:=hn [97,108,112,104,97] (by decide);have n2:=hn [100,105,103,105,116] (by decide);have n3:=hn [97,108,110,117,109] (by decide);have n4:=hn [117,112,112,101,114] (by decide);have n5:=hn [108,111,119,101,114] (by decide);have n6:=hn [115,112,97,99,101] (by decide);have n7:=hn [98,108,97,110,107] (by decide);have n8:=hn [112,117,110,99,116] (by decide);have n9:=hn [112,114,105,110,116] (by decide);have n10:=hn [103,114,97,112,104] (by decide);have n11:=hn [99,110,116,114,108] (by decide);have n12:=hn [120,100,105,103,105,116] (by decide);refine di rfl rfl rfl rfl ?_;rw[uw];rcases zqY hc with h|h|h|h|h|h|h
 ·have a0:¬(65:Int)<=(c:Int):=by omega
  have a2:¬(97:Int)<=(c:Int):=by omega
  have a4:¬(48:Int)<=(c:Int):=by omega
  simp[au,a120,El,Ej,D8,DU,DT,DR,DN,DL,DK,DJ,Ei,Eh,Eg,Ef,Ee,Ed,Ec,Eb,Ea,D9,D7,D6,D5,DZ,DY,DX,DW,DV,a0,a2,a4,mD,n1,n2,n3,n4,n5,n6,n7,n8,n9,n10,n11,n12,aN,bg]
 ·have a0:¬(65:Int)<=(c:Int):=by omega
  have a2:¬(97:Int)<=(c:Int):=by omega
  have a4:(48:Int)<=(c:Int):=by omega
  have a5:(c:Int)<=57:=by omega
  simp[au,a120,El,Ej,D8,DU,DT,DR,DN,DL,DK,DJ,Ei,Eh,Eg,Ef,Ee,Ed,Ec,Eb,Ea,D9,D7,D6,D5,DZ,DY,DX,DW,DV,a0,a2,a4,a5,mD,n1,n2,n3,n4,n5,n6,n7,n8,n9,n10,n11,n12,aN,bg]
 ·have a0:¬(65:Int)<=(c:Int):=by omega
  have a2:¬(97:Int)<=(c:Int):=by omega
  have a4:(48:Int)<=(c:Int):=by omega
  have a5:¬(c:Int)<=57:=by omega
  simp[au,a120,El,Ej,D8,DU,DT,DR,DN,DL,DK,DJ,Ei,Eh,Eg,Ef,Ee,Ed,Ec,Eb,Ea,D9,D7,D6,D5,DZ,DY,DX,DW,DV,a0,a2,a4,a5,mD,n1,n2,n3,n4,n5,n6,n7,n8,n9,n10,n11,n12,aN,bg]
 ·have a0:(65:Int)<=(c:Int):=by omega
  have a1:(c:Int)<=90:=by omega
  have a2:¬(97:Int)<=(c:Int):=by omega
  have a4:(48:Int)<=(c:Int):=by omega
  have a5:¬(c:Int)<=57:=by omega
  simp[au,a120,El,Ej,D8,DU,DT,DR,DN,DL,DK,DJ,Ei,Eh,Eg,Ef,Ee,Ed,Ec,Eb,Ea,D9,D7,D6,D5,DZ,DY,DX,DW,DV,a0,a1,a2,a4,a5,mD,n1,n2,n3,n4,n5,n6,n7,n8,n9,n10,n11,n12,aN,bg]
 ·have a0:(65:Int)<=(c:Int):=by omega
  have a1:¬(c:Int)<=90:=by omega
  have a2:¬(97:Int)<=(c:Int):=by omega
  have a4:(48:Int)<=(c:Int):=by omega
  have a5:¬(c:Int)<=57:=by omega
  simp[au,a120,El,Ej,D8,DU,DT,DR,DN,DL,DK,DJ,Ei,Eh,Eg,Ef,Ee,Ed,Ec,Eb,Ea,D9,D7,D6,D5,DZ,DY,DX,DW,DV,a0,a1,a2,a4,a5,mD,n1,n2,n3,n4,n5,n6,n7,n8,n9,n10,n11,n12,aN,bg]
 ·have a0:(65:Int)<=(c:Int):=by omega
  have a1:¬(c:Int)<=90:=by omega
  have a2:(97:Int)<=(c:Int):=by omega
  have a3:(c:Int)<=122:=by omega
  have a4:(48:Int)<=(c:Int):=by omega
  have a5:¬(c:Int)<=57:=by omega
  simp[au,a120,El,Ej,D8,DU,DT,DR,DN,DL,DK,DJ,Ei,Eh,Eg,Ef,Ee,Ed,Ec,Eb,Ea,D9,D7,D6,D5,DZ,DY,DX,DW,DV,a0,a1,a2,a3,a4,a5,mD,n1,n2,n3,n4,n5,n6,n7,n8,n9,n10,n11,n12,aN,bg]
 ·have a0:(65:Int)<=(c:Int):=by omega
  have a1:¬(c:Int)<=90:=by omega
  have a2:(97:Int)<=(c:Int):=by omega
  have a3:¬(c:Int)<=122:=by omega
  have a4:(48:Int)<=(c:Int):=by omega
  have a5:¬(c:Int)<=57:=by omega
  simp[au,a120,El,Ej,D8,DU,DT,DR,DN,DL,DK,DJ,Ei,Eh,Eg,Ef,Ee,Ed,Ec,Eb,Ea,D9,D7,D6,D5,DZ,DY,DX,DW,DV,a0,a1,a2,a3,a4,a5,mD,n1,n2,n3,n4,n5,n6,n7,n8,n9,n10,n11,n12,aN,bg]
end
section
def Kept(v v':Nat->AV):Prop:=v' 0=v 0∧v' 1=v 1∧v' 4=v 4∧v' 7=v 7∧v' 9=v 9
theorem zeZ{s:List UInt8}{t:Nat}(h:t<s.length):nQ (s.drop t)=if s[t]?=some 58∧s[t+1]?=some 93 then some 0 else(nQ (s.drop (t+1))).map (· + 1):=by
 rw[iJ h,nQ];have e:((s[t]::s.drop (t+1)).take 2=[58,93])↔(s[t]?=some 58∧s[t+1]?=some 93):=by
  rw[EJ,gG h];by_cases h1:t+1<s.length
  ·rw[iJ h1,EJ,xD,gG h1];simp only[LQ,nE,aD]
  ·rw[pu (by omega),pq (by omega)];simp
 simp only[e]
def uz(s:List UInt8)(t:Nat):Nat:=match nQ (s.drop t)with|some n=>t+n|none=>s.length
theorem zqA{s:List UInt8}{t:Nat}(h:s[t]?=some 58)(h2:s[t+1]?=some 93):uz s t=t:=by
 have:=(eD.1 h).1;unfold uz;rw[zeZ this,aS ⟨h,h2⟩];rfl
theorem zqB{s:List UInt8}{t:Nat}(h:t<s.length)(h2:¬(s[t]?=some 58∧s[t+1]?=some 93)):uz s t=uz s (t+1):=by
 unfold uz;rw[zeZ h,aF h2];cases nQ (s.drop (t+1))with
 |none=>rfl
 |some n=>simp only[Qa];omega
theorem zqz{ae:Nat}{s:List UInt8}(hl:s.length<=10000):∀(n t:Nat)(v:Nat->AV),t<=s.length->s.length=n+t->v 0=.str s->v 10=ag t->
  Wp (aP ak SA.sp ae (.loop a108l14) (az 240225565480938577807985484469345695599948758954541043 v,[])) (fun e t'=>e=.exit 2∧∃v',t'=(az 240225565480938577807985484469345695599948758954541043 v',[])∧v' 10=ag (uz s t)∧v' 8=v 8∧Kept v v'):=by
 intro n;induction n with
 |zero=>
  intro t v h1 h2 v0 fP;have e:t=s.length:=by omega
  subst e;have e2:uz s s.length=s.length:=by unfold uz;simp[nQ]
  rw[bu a108l14.eq_1];simp[au,PT,PS,v0,fP];exact⟨_,rfl,by simp[fP,e2],by simp,by simp,by simp,by simp,by simp,by simp⟩
 |succ n ih=>
  intro t v h1 h2 v0 fP;have aB:t<s.length:=by omega
  have dQ:=fun i=>Nl (ae:=ae) (H:=[]) s i;have lI:Rn ak SA.sp ae 119 [.str s,.int .i64 ((t:Int)+1)] []=some (.ret (.int .i64 (dV s (t+1))),[]):=by
   rw[show(AV.int .i64 ((t:Int)+1))=ag (t+1) by simp[ag]];exact dQ (t+1)
  have hw:IntKind.i64.wrap ((t:Int)+1)=(t:Int)+1:=aM _ (by omega);have next:∀w:Nat->AV,w 0=.str s->w 10=ag (t+1)->w 8=v 8->Kept v w->¬(s[t]?=some 58∧s[t+1]?=some 93)->
    Wp (aP ak SA.sp ae (.loop a108l14) (az 240225565480938577807985484469345695599948758954541043 w,[])) (fun e t'=>e=.exit 2∧∃v',t'=(az 240225565480938577807985484469345695599948758954541043 v',[])∧v' 10=ag (uz s t)∧v' 8=v 8∧Kept v v'):=fun w w0 w10 w8 wk hno=>by
   rw[zqB aB hno];refine(ih (t+1) w (by omega) (by omega) w0 w10).mono fun e q h=>?_;obtain⟨r1,v',r2,r3,r4,r5⟩:=h;exact⟨r1,v',r2,r3,r4.trans w8,r5.1.trans wk.1,r5.2.1.trans wk.2.1,r5.2.2.1.trans wk.2.2.1,r5.2.2.2.1.trans wk.2.2.2.1,r5.2.2.2.2.trans wk.2.2.2.2⟩
  rw[bu a108l14.eq_1];by_cases c1:s[t]?=some 58
  ·have h58:dV s t=58:=jJ c1;by_cases c2:s[t+1]?=some 93
   ·have h93:dV s (t+1)=93:=jJ c2;simp[au,PT,PS,v0,fP,aB,dQ,lI,h58,h93,hw];exact⟨_,rfl,by simp[fP,zqA c1 c2],by simp,by simp,by simp,by simp,by simp,by simp⟩
   ·have h93:(dV s (t+1)==93)=false:=(mK 93 c2).1;simp[au,PT,PS,v0,fP,aB,dQ,lI,h58,h93,hw];refine next _ ?_ ?_ ?_ ⟨?_,?_,?_,?_,?_⟩ (by simp[c2])
    all_goals simp[v0]
  ·have h58:(dV s t==58)=false:=(mK 58 c1).1;simp[au,PT,PS,v0,fP,aB,dQ,lI,h58,hw];refine next _ ?_ ?_ ?_ ⟨?_,?_,?_,?_,?_⟩ (by simp[c1])
   all_goals simp[v0]
def iG(p q:Nat->Bool)(c:Nat):Nat->Bool:=fun x=>p x||(decide (x<c)&&q x)
theorem Qq(p q:Nat->Bool)(c:Nat):(fun x=>if x=c then iG p q c c||q c else iG p q c x)=iG p q (c+1):=by
 funext x;unfold iG;by_cases h:x=c
 ·subst h;simp
 ·have:decide (x<c)=decide (x<c+1):=by rw[F7];omega
  simp[h,this]
theorem zfl{p q:Nat->Bool}(h:∀i,i<256->p i=q i):fM p=fM q:=by
 unfold fM;apply Bp;intro i hi;rw[h i (EK.1 hi)]
theorem zbP(p q:Nat->Bool):fM (iG p q 256)=fM (bi p q):=zfl fun i hi=>by simp[iG,bi,hi]
theorem LZ(p q:Nat->Bool):iG p q 0=p:=by funext x;simp[iG]
theorem zqC{ae:Nat}{s:List UInt8}{i t:Nat}(hi:i+2<=t)(ht:t<=s.length)(hl:s.length<=10000)(h:jS ((s.drop (i+2)).take (t-(i+2)))=[])(v:Nat->AV)(v0:v 0=.str s)(v1:v 1=ag i)(fP:v 10=ag t)(v11:v 11=ag 0)(v4:v 4=.box (dJ aO)):
  Wp (aP ak SA.sp ae (.loop a108l24) (az 240225565480938577807985484469345695599948758954541043 v,[])) (fun e t'=>e=.ret∧∃v',t'=(az 240225565480938577807985484469345695599948758954541043 v',[])∧v' 4=.box (dJ aO)∧v' 5=ag 0∧v' 6=ag 40):=by
 have hw:IntKind.i64.wrap ((i:Int)+2)=(i:Int)+2:=aM _ (by omega);have h0:(0:Int)<=(i:Int)+2:=by omega
 have hx:((i:Int)+2).toNat=i+2:=by omega
 have cu:(i:Int)+2<=(t:Int):=by omega
 have hn:=znj (ae:=ae) (H:=[]) h (c:=0) (by decide);rw[bu a108l24.eq_1];simp[bR,PQ,PP,PN,PL,PK,PI,v0,v1,fP,v11,v4,hw,h0,hx,hi,cu,ht,hn,nI];exact⟨_,rfl,by simp;rfl,by simp,by simp⟩
theorem zqD{ae:Nat}{s:List UInt8}{i t:Nat}(hi:i+2<=t)(ht:t<=s.length)(hl:s.length<=10000)(h:jS ((s.drop (i+2)).take (t-(i+2))) ≠ [])(p:Nat->Bool):∀(n c:Nat)(v:Nat->AV),n+c=256->v 0=.str s->v 1=ag i->v 10=ag t->v 11=ag c->v 8=.box (fM (iG p (aG (jS ((s.drop (i+2)).take (t-(i+2))))) c))->
  Wp (aP ak SA.sp ae (.loop a108l24) (az 240225565480938577807985484469345695599948758954541043 v,[])) (fun e t'=>e=.exit 4∧∃v',t'=(az 240225565480938577807985484469345695599948758954541043 v',[])∧v' 8=.box (fM (bi p (aG (jS ((s.drop (i+2)).take (t-(i+2)))))))∧v' 10=ag t∧Kept v v'):=by
 have hw:IntKind.i64.wrap ((i:Int)+2)=(i:Int)+2:=aM _ (by omega);have h0:(0:Int)<=(i:Int)+2:=by omega
 have hx:((i:Int)+2).toNat=i+2:=by omega
 have cu:(i:Int)+2<=(t:Int):=by omega
 have hn:=fun c (hc:c<256)=>znw h hc ae [];generalize hnm:(s.drop (i+2)).take (t-(i+2))=nm at h hn ⊢;generalize aG (jS nm)=q at hn ⊢;intro n;induction n with
 |zero=>
  intro c v hc v0 v1 fP v11 v8;have e:c=256:=by omega
  subst e;rw[bu a108l24.eq_1];simp[bR,PQ,PP,PN,PL,PK,PI,v11];exact⟨_,rfl,by simp[v8,zbP],by simp[fP],by simp,by simp,by simp,by simp,by simp⟩
 |succ n ih=>
  intro c v hc v0 v1 fP v11 v8;have hc2:c<256:=by omega
  have hc3:c+1<=256:=by omega
  have hcI:(c:Int)<256:=by omega
  have iZ:=hn c hc2;have hb:=XG (iG p q c) hc2;have hwc:IntKind.i64.wrap ((c:Int)+1)=(c:Int)+1:=aM _ (by omega);have cK:=Nj (iG p q c) c (iG p q c c||q c);rw[Qq]at cK;have next:∀w:Nat->AV,w 0=.str s->w 1=ag i->w 10=ag t->w 11=ag (c+1)->w 8=.box (fM (iG p q (c+1)))->Kept v w->
    Wp (aP ak SA.sp ae (.loop a108l24) (az 240225565480938577807985484469345695599948758954541043 w,[])) (fun e t'=>e=.exit 4∧∃v',t'=(az 240225565480938577807985484469345695599948758954541043 v',[])∧v' 8=.box (fM (bi p q))∧v' 10=ag t∧Kept v v'):=fun w w0 w1 w10 w11 w8 wk=>by
   refine(ih (c+1) w (by omega) w0 w1 w10 w11 w8).mono fun e q h=>?_;obtain⟨r1,v',r2,r3,r4,r5⟩:=h;exact⟨r1,v',r2,r3,r4,r5.1.trans wk.1,r5.2.1.trans wk.2.1,r5.2.2.1.trans wk.2.2.1,r5.2.2.2.1.trans wk.2.2.2.1,r5.2.2.2.2.trans wk.2.2.2.2⟩
  rw[bu a108l24.eq_1];cases hu:iG p q c c with
  |true=>
   rw[hu]at hb cK;simp only[Gg]at cK;simp[bR,PQ,PP,PN,PL,PK,PI,v0,v1,fP,v11,v8,hw,h0,hx,hi,cu,ht,hnm,iZ,hc2,hc3,hcI,hb,cK,hwc,mr];refine next _ ?_ ?_ ?_ ?_ ?_ ⟨?_,?_,?_,?_,?_⟩
   all_goals simp[v0,v1,fP,cK]
  |false=>
   rw[hu]at hb cK;simp only[xJ]at cK;simp[bR,PQ,PP,PN,PL,PK,PI,v0,v1,fP,v11,v8,hw,h0,hx,hi,cu,ht,hnm,iZ,hc2,hc3,hcI,hb,cK,hwc,mr];refine next _ ?_ ?_ ?_ ?_ ?_ ⟨?_,?_,?_,?_,?_⟩
   all_goals simp[v0,v1,fP,cK]
end
section
theorem Kept.trans{u v w:Nat->AV}(h:Kept u v)(k:Kept v w):Kept u w:=
 ⟨k.1.trans h.1,k.2.1.trans h.2.1,k.2.2.1.trans h.2.2.1,k.2.2.2.1.trans h.2.2.2.1,k.2.2.2.2.trans h.2.2.2.2⟩
def Ar(p:Nat->Bool)(a c:Nat):Nat->Bool:=fun x=>p x||(decide (a<=x)&&decide (x<c))
theorem zoC(p:Nat->Bool){a c:Nat}(h:a<=c):(fun x=>if x=c then true else Ar p a c x)=Ar p a (c+1):=by
 funext x;unfold Ar;by_cases e:x=c
 ·subst e;simp[h]
 ·have:decide (x<c)=decide (x<c+1):=by rw[F7];omega
  simp[e,this]
theorem zoB(p:Nat->Bool)(a:Nat):Ar p a a=p:=by
 funext x;have:(decide (a<=x)&&decide (x<a))=false:=by
  rw[LV];by_cases h:a<=x
  ·exact .inr (by simp;omega)
  ·exact .inl (by simp;omega)
 unfold Ar;rw[this,Bool.or_false]
theorem zoD(p:Nat->Bool)(a b:UInt8):Ar p a.toNat (b.toNat+1)=bi p (bv a b):=by
 funext x;have:decide (x<b.toNat+1)=decide (x<=b.toNat):=by rw[F7];omega
 simp only[Ar,bi,bv,this]
theorem zlJ{ae:Nat}(p:Nat->Bool)(a b:UInt8):∀(n c:Nat)(v:Nat->AV),n+c=b.toNat+1->a.toNat<=c->v 16=ag b.toNat->v 17=ag c->v 8=.box (fM (Ar p a.toNat c))->
  Wp (aP ak SA.sp ae (.loop a108l40) (az 240225565480938577807985484469345695599948758954541043 v,[])) (fun e t'=>e=.exit 6∧∃v',t'=(az 240225565480938577807985484469345695599948758954541043 v',[])∧v' 8=.box (fM (bi p (bv a b)))∧v' 15=v 15∧Kept v v'):=by
 have hb256:=b.toNat_lt;intro n;induction n with
 |zero=>
  intro c v hc ha v16 v17 v8;have e:c=b.toNat+1:=by omega
  subst e;have hx:¬(b.toNat:Int)+1<=(b.toNat:Int):=by omega
  rw[bu a108l40.eq_1];simp[bR,za0,zaZ,zaY,v16,v17,hx];exact⟨_,rfl,by simp[v8,zoD],by simp,by simp,by simp,by simp,by simp,by simp⟩
 |succ n ih=>
  intro c v hc ha v16 v17 v8;have jV:c<=b.toNat:=by omega
  have hc1I:(c:Int)<=(b.toNat:Int):=by omega
  have hc2:c<256:=by omega
  have hc3:c+1<=256:=by omega
  have hcI:(c:Int)<256:=by omega
  have hwc:IntKind.i64.wrap ((c:Int)+1)=(c:Int)+1:=aM _ (by omega);have cK:=Nj (Ar p a.toNat c) c true;rw[zoC p ha]at cK;have next:∀w:Nat->AV,w 16=ag b.toNat->w 17=ag (c+1)->w 8=.box (fM (Ar p a.toNat (c+1)))->w 15=v 15->Kept v w->
    Wp (aP ak SA.sp ae (.loop a108l40) (az 240225565480938577807985484469345695599948758954541043 w,[])) (fun e t'=>e=.exit 6∧∃v',t'=(az 240225565480938577807985484469345695599948758954541043 v',[])∧v' 8=.box (fM (bi p (bv a b)))∧v' 15=v 15∧Kept v v'):=fun w w16 w17 w8 w15 wk=>by
   refine(ih (c+1) w (by omega) (by omega) w16 w17 w8).mono fun e q h=>?_;obtain⟨r1,v',r2,r3,r4,r5⟩:=h;exact⟨r1,v',r2,r3,r4.trans w15,wk.trans r5⟩
  rw[bu a108l40.eq_1];simp[bR,za0,zaZ,zaY,v16,v17,v8,jV,hc1I,hc2,hc3,hcI,cK,hwc,mr];refine next _ ?_ ?_ ?_ ?_ ⟨?_,?_,?_,?_,?_⟩
  all_goals simp[v16,cK]
def uf(p:Nat->Bool)(c:Nat):Nat->Bool:=fun x=>if x<c then !p x else p x
theorem zjt(p:Nat->Bool)(c:Nat):(fun x=>if x=c then !uf p c c else uf p c x)=uf p (c+1):=by
 funext x;unfold uf;by_cases e:x=c
 ·subst e;simp
 ·by_cases h:x<c
  ·have:x<c+1:=by omega
   simp[e,h,this]
  ·have:¬x<c+1:=by omega
   simp[e,h,this]
theorem zju(p:Nat->Bool):fM (uf p 256)=fM (qa p):=zfl fun i hi=>by simp[uf,qa,hi]
theorem zjs(p:Nat->Bool):uf p 0=p:=by funext x;simp[uf]
theorem zm8{ae:Nat}(p:Nat->Bool):∀(n c:Nat)(v:Nat->AV),n+c=256->v 18=ag c->v 8=.box (fM (uf p c))->
  Wp (aP ak SA.sp ae (.loop a108l49) (az 240225565480938577807985484469345695599948758954541043 v,[])) (fun e t'=>e=.exit 8∧∃v',t'=(az 240225565480938577807985484469345695599948758954541043 v',[])∧v' 8=.box (fM (qa p))∧Kept v v'):=by
 intro n;induction n with
 |zero=>
  intro c v hc v18 v8;have e:c=256:=by omega
  subst e;rw[bu a108l49.eq_1];simp[bR,zaV,zaU,zaT,v18];exact⟨_,rfl,by simp[v8,zju],by simp,by simp,by simp,by simp,by simp⟩
 |succ n ih=>
  intro c v hc v18 v8;have hc2:c<256:=by omega
  have hc3:c+1<=256:=by omega
  have hcI:(c:Int)<256:=by omega
  have hb:=XG (uf p c) hc2;have hwc:IntKind.i64.wrap ((c:Int)+1)=(c:Int)+1:=aM _ (by omega);have cK:=Nj (uf p c) c (!uf p c c);rw[zjt p c]at cK;have next:∀w:Nat->AV,w 18=ag (c+1)->w 8=.box (fM (uf p (c+1)))->Kept v w->
    Wp (aP ak SA.sp ae (.loop a108l49) (az 240225565480938577807985484469345695599948758954541043 w,[])) (fun e t'=>e=.exit 8∧∃v',t'=(az 240225565480938577807985484469345695599948758954541043 v',[])∧v' 8=.box (fM (qa p))∧Kept v v'):=fun w w18 w8 wk=>by
   refine(ih (c+1) w (by omega) w18 w8).mono fun e q h=>?_;obtain⟨r1,v',r2,r3,r5⟩:=h;exact⟨r1,v',r2,r3,wk.trans r5⟩
  rw[bu a108l49.eq_1];simp[bR,zaV,zaU,zaT,v18,v8,hc2,hc3,hcI,hb,cK,hwc,mr];refine next _ ?_ ?_ ⟨?_,?_,?_,?_,?_⟩
  all_goals simp[cK]
end
section
theorem L9{s:List UInt8}{i k:Nat}{a:UInt8}{t:List UInt8}:(s.drop i).take (k+1)=a::t↔s[i]?=some a∧(s.drop (i+1)).take k=t:=by
 by_cases h:i<s.length
 ·rw[iJ h,gG h,EJ,LQ,aD]
 ·rw[pu (by omega),pq (by omega)];simp
theorem Rt{s:List UInt8}{i:Nat}(a b:UInt8):gU s i [a,b]=decide (s[i]?=some a∧s[i+1]?=some b):=by
 have h:(s.drop i).take (1+1)=[a,b]↔s[i]?=some a∧s[i+1]?=some b:=by
  rw[L9,show(1:Nat)=0+1 from rfl,L9];simp
 exact F7.2 h
theorem zqx{s:List UInt8}{i:Nat}(a b c:UInt8):gU s i [a,b,c]=decide (s[i]?=some a∧s[i+1]?=some b∧s[i+2]?=some c):=by
 have h:(s.drop i).take (2+1)=[a,b,c]↔s[i]?=some a∧s[i+1]?=some b∧s[i+2]?=some c:=by
  rw[L9,show(2:Nat)=1+1 from rfl,L9,show(1:Nat)=0+1 from rfl,L9];simp
 exact F7.2 h
def P5(s:List UInt8)(ng:Bool)(x:PR (Nat->Bool))(e:AExit)(t:EH):Prop:=
 match x with
 | .er _ w=>e=.ret∧∃v',t=(az 240225565480938577807985484469345695599948758954541043 v',[])∧v' 4=.box (dJ aO)∧v' 5=ag 0∧v' 6=ag w
 | .ok p j=>e=.exit 0∧∃v',t=(az 240225565480938577807985484469345695599948758954541043 v',[])∧v' 8=.box (fM p)∧v' 1=ag j∧v' 4=.box (dJ aO)∧v' 7=.bool ng
theorem MC(s:List UInt8)(ng:Bool)(a w:Nat):P5 s ng (.er a w)=fun e t=>e=.ret∧∃v',t=(az 240225565480938577807985484469345695599948758954541043 v',[])∧v' 4=.box (dJ aO)∧v' 5=ag 0∧v' 6=ag w:=rfl
theorem zlp(s:List UInt8)(ng:Bool)(p:Nat->Bool)(j:Nat):P5 s ng (.ok p j)=fun e t=>e=.exit 0∧∃v',t=(az 240225565480938577807985484469345695599948758954541043 v',[])∧v' 8=.box (fM p)∧v' 1=ag j∧v' 4=.box (dJ aO)∧v' 7=.bool ng:=rfl
theorem zlI{s:List UInt8}{j:Nat}(hj:j<=20000)(w:Nat->AV)(w0:w 0=.str s)(w15:w 15=ag j)(Y:ACode)(Q:AExit->EH->Prop)
  (h:Wp (aP ak SA.sp 0 (bif gU s j [45] && !gU s j [45,93] && !gU s j [45,91,58]then Y else .skip) (az 240225565480938577807985484469345695599948758954541043 (st (st w 151 (.bool (gU s j [45] && !gU s j [45,93] && !gU s j [45,91,58]))) 151 .undef),[])) Q) :
  Wp (aP ak SA.sp 0 (.seq (.region I8) (.cond true (.v 151) Y .skip)) (az 240225565480938577807985484469345695599948758954541043 w,[])) Q:=by
 have dQ:=fun i=>Nl (ae:=0) (H:=[]) s i;have lI:Rn ak SA.sp 0 119 [.str s,.int .i64 ((j:Int)+1)] []=some (.ret (.int .i64 (dV s (j+1))),[]):=by
  rw[show(AV.int .i64 ((j:Int)+1))=ag (j+1) by simp[ag]];exact dQ (j+1)
 have hat2:Rn ak SA.sp 0 119 [.str s,.int .i64 ((j:Int)+2)] []=some (.ret (.int .i64 (dV s (j+2))),[]):=by
  rw[show(AV.int .i64 ((j:Int)+2))=ag (j+2) by simp[ag]];exact dQ (j+2)
 have hw:IntKind.i64.wrap ((j:Int)+1)=(j:Int)+1:=aM _ (by omega);have bY:IntKind.i64.wrap ((j:Int)+2)=(j:Int)+2:=aM _ (by omega);rw[M9,Rt,zqx]at h;by_cases c1:s[j]?=some 45
 ·have f1:dV s j=45:=jJ c1;by_cases c2:s[j+1]?=some 93
  ·have f2:dV s (j+1)=93:=jJ c2;simp[c1,c2]at h;simp[au,I8,w0,w15,dQ,lI,hat2,hw,bY,f1,f2];exact h
  ·have f2:(dV s (j+1) != 93)=true:=(mK 93 c2).2;by_cases c3:s[j+1]?=some 91
   ·have f3:dV s (j+1)=91:=jJ c3;by_cases c4:s[j+2]?=some 58
    ·have f4:dV s (j+2)=58:=jJ c4;simp[c1,c3,c4]at h;simp[au,I8,w0,w15,dQ,lI,hat2,hw,bY,f1,f3,f4];exact h
    ·have f4:(dV s (j+2)==58)=false:=(mK 58 c4).1;simp[c1,c3,c4]at h;simp[au,I8,w0,w15,dQ,lI,hat2,hw,bY,f1,f3,f4];exact h
   ·have f3:(dV s (j+1)==91)=false:=(mK 91 c3).1;simp[c1,c2,c3]at h;simp[au,I8,w0,w15,dQ,lI,hat2,hw,bY,f1,f2,f3];exact h
 ·have f1:(dV s j==45)=false:=(mK 45 c1).1;simp[c1]at h;simp[au,I8,w0,w15,dQ,lI,hat2,hw,bY,f1];exact h
theorem zcS{s:List UInt8}(hl:s.length<=10000)(ng:Bool):∀(n i:Nat)(first:Bool)(p:Nat->Bool)(v:Nat->AV),i<=s.length->s.length<n+i->v 0=.str s->v 1=ag i->v 4=.box (dJ aO)->v 7=.bool ng->v 8=.box (fM p)->v 9=.bool first->
  Wp (aP ak SA.sp 0 (.loop a108l43) (az 240225565480938577807985484469345695599948758954541043 v,[])) (P5 s ng (nL s n first p i)):=by
 intro n;induction n with
 |zero=>intro i first p v h1 h2;omega
 |succ n ih=>
  intro i first p v h1 h2 v0 v1 v4 v7 v8 v9
  have dQ:=fun i=>Nl (ae:=0) (H:=[]) s i;have lI:∀j:Nat,Rn ak SA.sp 0 119 [.str s,.int .i64 ((j:Int)+1)] []=some (.ret (.int .i64 (dV s (j+1))),[]):=fun j=>by
   rw[show(AV.int .i64 ((j:Int)+1))=ag (j+1) by simp[ag]];exact dQ (j+1)
  have hat2:∀j:Nat,Rn ak SA.sp 0 119 [.str s,.int .i64 ((j:Int)+2)] []=some (.ret (.int .i64 (dV s (j+2))),[]):=fun j=>by
   rw[show(AV.int .i64 ((j:Int)+2))=ag (j+2) by simp[ag]];exact dQ (j+2)
  have hw:∀j:Nat,j<=20000->IntKind.i64.wrap ((j:Int)+1)=(j:Int)+1:=fun j h=>aM _ (by omega);have bY:∀j:Nat,j<=20000->IntKind.i64.wrap ((j:Int)+2)=(j:Int)+2:=fun j h=>aM _ (by omega);have hiw:=hw i (by omega);have hiw2:=bY i (by omega);rw[bu a108l43.eq_1];by_cases hend:first=false∧gU s i [93]=true
  ·obtain⟨rfl,he⟩:=hend;have e1:nL s (n+1) false p i=.ok p i:=by simp[nL,he]
   rw[M9]at he;have h93:dV s i=93:=jJ (by simpa using he);rw[e1,zlp];simp[au,PG,v0,v1,v9,dQ,h93];exact⟨_,rfl,by simp[v8],by simp[v1],by simp[v4],by simp[v7]⟩
  ·have e0:nL s (n+1) first p i=match iU s i with
     | .er a w=>.er a w
     | .ok q j=>nL s n false (bi p q) j:=by
    rw[nL,aF (by simpa using hend)];cases iU s i<;>rfl
   have hp:=WK (s:=s) i;rw[e0]
   -- the round's test
   have test:∀(X:ACode)(Q:AExit->EH->Prop),Wp (aP ak SA.sp 0 X (az 240225565480938577807985484469345695599948758954541043 (st (st v 50 (.bool true)) 50 .undef),[])) Q->
     Wp (aP ak SA.sp 0 (.seq (.seq (.region PG) (.cond true (.v 50) .skip (.exit 0))) X) (az 240225565480938577807985484469345695599948758954541043 v,[])) Q:=fun X Q h=>by
    cases first with
    |true=>
     simp[au,PG,v0,v1,v9,dQ];exact h
    |false=>
     have he:¬s[i]?=some 93:=by
      have:¬gU s i [93]=true:=fun e=>hend ⟨rfl,e⟩;rw[M9]at this;simpa using this
     have h93:(dV s i != 93)=true:=(mK 93 he).2;have h93':(dV s i==93)=false:=(mK 93 he).1;simp[au,PG,v0,v1,v9,dQ,h93];exact h
   refine test _ _ ?_;have k0:(st (st v 50 (.bool true)) 50 .undef) 0=.str s:=by simp[v0]
   have k1:(st (st v 50 (.bool true)) 50 .undef) 1=ag i:=by simp[v1]
   have k4:(st (st v 50 (.bool true)) 50 .undef) 4=.box (dJ aO):=by simp[v4]
   have k7:(st (st v 50 (.bool true)) 50 .undef) 7=.bool ng:=by simp[v7]
   have k8:(st (st v 50 (.bool true)) 50 .undef) 8=.box (fM p):=by simp[v8]
   generalize st (st v 50 (.bool true)) 50 .undef=u at k0 k1 k4 k7 k8 ⊢;clear v0 v1 v4 v7 v8 v9 test;by_cases bM:gU s i [91,58]=true
   · -- a class
    have bq:=Na bM (by simp);simp only[fF,gW]at bq;rw[Rt]at bM;have hcl':=Jd bM;have h91:dV s i=91:=jJ hcl'.1;have h58:dV s (i+1)=58:=jJ hcl'.2;rw[←Rt]at bM;simp[au,PU,ziR,k0,k1,dQ,lI,hiw,hiw2,h91,h58];refine(zqz hl (s.length-(i+2)) (i+2) _ (by omega) (by omega) ?_ ?_).mono fun e t h=>?_
    ·simp[k0]
    ·simp
    obtain⟨rfl,u1,rfl,r10,r8,rk⟩:=h;obtain⟨m0,m1,m4,m7,m9⟩:=rk;simp at r8 m0 m1 m4 m7 m9;rw[k0]at m0;rw[k1]at m1;rw[k4]at m4;rw[k7]at m7;rw[k8]at r8;cases hcf:nQ (s.drop (i+2))with
    |none=>
     have e2:iU s i=.er 0 3:=by simp[iU,bM,hcf]
     have e3:uz s (i+2)=s.length:=by simp[uz,hcf]
     rw[e3]at r10;rw[e2];simp only[MC];simp[au,za9,za8,r10,m0,m1,m4,nI];exact⟨_,rfl,by simp;rfl,by simp,by simp⟩
    |some k=>
     have dK:=Nb hcf;simp only[kZ]at dK;have e3:uz s (i+2)=i+2+k:=by simp[uz,hcf]
     rw[e3]at r10;have hnk:i+2+k-(i+2)=k:=by omega
     have jD:¬s.length<=i+2+k:=by omega
     have hgeI:¬(s.length:Int)<=(i:Int)+2+(k:Int):=by omega
     have hwk:IntKind.i64.wrap ((i:Int)+2+(k:Int)+2)=(i:Int)+2+(k:Int)+2:=aM _ (by omega);simp[au,za9,za8,ziQ,r10,m0,m1,m4,hgeI];by_cases hr:jS ((s.drop (i+2)).take k)=[]
     ·have e2:iU s i=.er 0 40:=by simp[iU,bM,hcf,hr]
      rw[e2];simp only[MC];refine(zqC (i:=i) (t:=i+2+k) (by omega) (by omega) hl (by rw[hnk];exact hr) _ ?_ ?_ ?_ ?_ ?_).mono fun e t h=>?_
      ·simp[m0]
      ·simp[m1]
      ·simp[r10]
      ·simp
      ·simp[m4]
      obtain⟨rfl,u2,rfl,q4,q5,q6⟩:=h;simp;exact⟨_,rfl,q4,q5,q6⟩
     ·have e2:iU s i=.ok (aG (jS ((s.drop (i+2)).take k))) (i+k+4):=by simp[iU,bM,hcf,hr]
      rw[e2]at hp ⊢;simp only;simp only[PR.sat]at hp;refine(zqD (i:=i) (t:=i+2+k) (by omega) (by omega) hl (by rw[hnk];exact hr) p 256 0 _ (by omega) ?_ ?_ ?_ ?_ ?_).mono fun e t h=>?_
      ·simp[m0]
      ·simp[m1]
      ·simp[r10]
      ·simp
      ·rw[LZ];simp[r8]
      obtain⟨rfl,u2,rfl,q8,q10,q0,q1,q4,q7,q9⟩:=h;rw[hnk]at q8;simp at q0 q1 q4 q7 q9;rw[m0]at q0;rw[m1]at q1;rw[m4]at q4;rw[m7]at q7;have ej:ag (i+k+4)=.int .i64 ((i:Int)+2+(k:Int)+2):=by simp[ag];omega
      simp[au,ziP,Vh,q10,q1,hwk];refine ih (i+k+4) false _ _ (by omega) (by omega) ?_ ?_ ?_ ?_ ?_ ?_
      ·simp[q0]
      ·simp[ej]
      ·simp[q4]
      ·simp[q7]
      ·simp[q8]
      ·simp
   ·have hcl0:gU s i [91,58]=false:=by simpa using bM
    -- no class
    have skip10:∀(Y:ACode)(Q:AExit->EH->Prop),Wp (aP ak SA.sp 0 .skip (az 240225565480938577807985484469345695599948758954541043 (st (st u 61 (.bool false)) 61 .undef),[])) Q->
      Wp (aP ak SA.sp 0 (.seq (.region PU) (.cond true (.v 61) Y .skip)) (az 240225565480938577807985484469345695599948758954541043 u,[])) Q:=fun Y Q h=>by
     rw[Rt]at hcl0;by_cases c1:s[i]?=some 91
     ·have f1:dV s i=91:=jJ c1;have c2:¬s[i+1]?=some 58:=fun e=>by simp[c1,e]at hcl0
      have f2:(dV s (i+1)==58)=false:=(mK 58 c2).1;simp[au,PU,k0,k1,dQ,lI,hiw,f1,f2];simpa using h
     ·have f1:(dV s i==91)=false:=(mK 91 c1).1;simp[au,PU,k0,k1,dQ,lI,hiw,f1];simpa using h
    have fJ:=fun j (h:j<=100000)=>zmR (ae:=0) (H:=[]) s h;rw[PZ,zrQ,PZ];refine skip10 _ _ ?_;have j0:(st (st u 61 (.bool false)) 61 .undef) 0=.str s:=by simp[k0]
    have j1:(st (st u 61 (.bool false)) 61 .undef) 1=ag i:=by simp[k1]
    have j4:(st (st u 61 (.bool false)) 61 .undef) 4=.box (dJ aO):=by simp[k4]
    have j7:(st (st u 61 (.bool false)) 61 .undef) 7=.bool ng:=by simp[k7]
    have j8:(st (st u 61 (.bool false)) 61 .undef) 8=.box (fM p):=by simp[k8]
    generalize st (st u 61 (.bool false)) 61 .undef=w at j0 j1 j4 j7 j8 ⊢;clear k0 k1 k4 k7 k8 skip10;cases hsg:lu s i with
    |none=>
     obtain⟨X,e1⟩:∃X,mV s i=.tup [.int .i64 (-1),ag X]:=⟨match s[i]? with|some _=>i+2|none=>i+1,by unfold mV;rw[hsg]<;>rfl⟩
     have h1:=fJ i (by omega);rw[e1]at h1;have e2:iU s i=.er 0 3:=by simp[iU,hcl0,hsg]
     rw[e2];simp only[MC];simp[au,za6,za5,za4,j0,j1,j4,h1,nI];exact⟨_,rfl,by simp;rfl,by simp,by simp⟩
    |some q=>
     obtain⟨a,j⟩:=q;have hjp:=QA hsg;have h1:=fJ i (by omega);have e1:mV s i=.tup [.int .i64 a.toNat,ag j]:=by simp[mV,hsg]
     rw[e1]at h1;have ha0:¬(a.toNat:Int)<0:=by omega
     have haw:IntKind.i64.wrap (a.toNat:Int)=(a.toNat:Int):=aM _ (by have:=a.toNat_lt;omega);simp[au,za6,za5,za4,ziO,j0,j1,h1,ha0];have w0:(st (st (st (st (st w 14 (.int .i64 a.toNat)) 15 (ag j)) 123 (.bool false)) 123 .undef) 16 (.int .i64 a.toNat)) 0=.str s:=by simp[j0]
     have w1:(st (st (st (st (st w 14 (.int .i64 a.toNat)) 15 (ag j)) 123 (.bool false)) 123 .undef) 16 (.int .i64 a.toNat)) 1=ag i:=by simp[j1]
     have w4:(st (st (st (st (st w 14 (.int .i64 a.toNat)) 15 (ag j)) 123 (.bool false)) 123 .undef) 16 (.int .i64 a.toNat)) 4=.box (dJ aO):=by simp[j4]
     have w7:(st (st (st (st (st w 14 (.int .i64 a.toNat)) 15 (ag j)) 123 (.bool false)) 123 .undef) 16 (.int .i64 a.toNat)) 7=.bool ng:=by simp[j7]
     have w8:(st (st (st (st (st w 14 (.int .i64 a.toNat)) 15 (ag j)) 123 (.bool false)) 123 .undef) 16 (.int .i64 a.toNat)) 8=.box (fM p):=by simp[j8]
     have w14:(st (st (st (st (st w 14 (.int .i64 a.toNat)) 15 (ag j)) 123 (.bool false)) 123 .undef) 16 (.int .i64 a.toNat)) 14=ag a.toNat:=by simp
     have w15:(st (st (st (st (st w 14 (.int .i64 a.toNat)) 15 (ag j)) 123 (.bool false)) 123 .undef) 16 (.int .i64 a.toNat)) 15=ag j:=by simp
     have w16:(st (st (st (st (st w 14 (.int .i64 a.toNat)) 15 (ag j)) 123 (.bool false)) 123 .undef) 16 (.int .i64 a.toNat)) 16=ag a.toNat:=by simp
     generalize st (st (st (st (st w 14 (.int .i64 a.toNat)) 15 (ag j)) 123 (.bool false)) 123 .undef) 16 (.int .i64 a.toNat)=x at w0 w1 w4 w7 w8 w14 w15 w16 ⊢;clear j0 j1 j4 j7 j8;have T:=fun Y Q h=>zlI (s:=s) (j:=j) (by omega) x w0 w15 Y Q h;simp only[dX]at T;refine T _ _ ?_;clear T
     -- behind the range's bytes
     have qQ:∀(b:UInt8)(k:Nat)(y:Nat->AV),iU s i=.ok (bv a b) k->a.toNat<=b.toNat->y 0=.str s->y 4=.box (dJ aO)->y 7=.bool ng->y 8=.box (fM p)->y 14=ag a.toNat->y 15=ag k->y 16=ag b.toNat->
       Wp (aP ak SA.sp 0 (.seq (.seq (.region za1) (.block 6 (.loop a108l40))) (.region zaW)) (az 240225565480938577807985484469345695599948758954541043 y,[])) (ul 1 (andThen (aP ak SA.sp 0 (.region Vh)) (andThen (aP ak SA.sp 0 (.loop a108l43)) (P5 s ng (nL s n false (bi p (bv a b)) k))))):=fun b k y hit hab y0 y4 y7 y8 y14 y15 y16=>by
      rw[hit]at hp;simp only[PR.sat]at hp;simp[au,za1,y14];refine(zlJ (ae:=0) p a b (b.toNat+1-a.toNat) a.toNat _ (by omega) (aX _) ?_ ?_ ?_).mono fun e t h=>?_
      ·simp[y16]
      ·simp
      ·rw[zoB];simp[y8]
      obtain⟨rfl,u2,rfl,q8,q15,q0,q1,q4,q7,q9⟩:=h;simp at q15 q0 q4 q7;rw[y15]at q15;rw[y0]at q0;rw[y4]at q4;rw[y7]at q7;simp[au,zaW,Vh,q15];refine ih k false _ _ (by omega) (by omega) ?_ ?_ ?_ ?_ ?_ ?_
      ·simp[q0]
      ·simp
      ·simp[q4]
      ·simp[q7]
      ·simp[q8]
      ·simp
     cases dW:(gU s j [45] && !gU s j [45,93] && !gU s j [45,91,58])with
     |false=>
      have e2:iU s i=.ok (bv a a) j:=by
       simp only[iU,hcl0,hsg,mQ,ig];rw[aF (fun h=>by simp[h.1,h.2.1,h.2.2]at dW)]
      have F:=qQ a j (st (st x 151 (.bool false)) 151 .undef) e2 (aX _) (by simp[w0]) (by simp[w4]) (by simp[w7]) (by simp[w8]) (by simp[w14]) (by simp[w15]) (by simp[w16]);rw[e2];simpa using F
     |true=>
      simp only[aU,LU]at dW;obtain⟨⟨d1,d2⟩,d3⟩:=dW;have hone1:Rn ak SA.sp 0 121 [.str s,.int .i64 ((j:Int)+1)] []=some (.ret (mV s (j+1)),[]):=by
       rw[show(AV.int .i64 ((j:Int)+1))=ag (j+1) by simp[ag]];exact fJ (j+1) (by omega)
      have hjw:=hw j (by omega);have hi0:iU s i=match lu s (j+1)with
        |none=>.er 0 3
        |some (b,k)=>if b<a then .er 0 4 else .ok (bv a b) k:=by
       simp only[iU,hcl0,hsg,mQ,ig];rw[aS ⟨d1,by simp[d2],by simp[d3]⟩];rfl
      cases hsg2:lu s (j+1)with
      |none=>
       obtain⟨X,e1⟩:∃X,mV s (j+1)=.tup [.int .i64 (-1),ag X]:=⟨match s[j+1]? with|some _=>j+1+2|none=>j+1+1,by unfold mV;rw[hsg2]<;>rfl⟩
       rw[e1]at hone1;rw[hsg2]at hi0;rw[hi0];simp only[MC,bA];simp[au,Vk,Vj,Vi,w0,w15,w4,hone1,hjw,nI];exact⟨_,rfl,by simp;rfl,by simp,by simp⟩
      |some q=>
       obtain⟨b,k⟩:=q;have e1:mV s (j+1)=.tup [.int .i64 b.toNat,ag k]:=by simp[mV,hsg2]
       rw[e1]at hone1;rw[hsg2]at hi0;simp only at hi0;have hb0:¬(b.toNat:Int)<0:=by omega
       by_cases hba:b<a
       ·have hba':(b.toNat:Int)<(a.toNat:Int):=by rw[EE]at hba;omega
        rw[aS hba]at hi0;rw[hi0];simp only[MC,bA];simp[au,Vk,Vj,Vi,za2,ziN,w0,w14,w15,w4,hone1,hjw,nI,hb0,hba'];exact⟨_,rfl,by simp;rfl,by simp,by simp⟩
       ·have hba':¬(b.toNat:Int)<(a.toNat:Int):=by rw[EE]at hba;omega
        have hbaN:a.toNat<=b.toNat:=by omega
        rw[aF hba]at hi0;simp only[bA];have F:=fun y=>qQ b k y hi0 hbaN;simp only[dX]at F;rw[hi0];simp only[dN];simp[dN,Vk,Vj,Vi,za2,w0,w14,w15,hone1,hjw,hb0,hba'];refine F _ ?_ ?_ ?_ ?_ ?_ ?_ ?_;all_goals simp[w0,w4,w7,w8,w14]
end
section
theorem zlo{ae:Nat}{H:aj}{s:List UInt8}{i:Nat}(hl:s.length<=10000)(h:s[i]?=some 91):Rn ak SA.sp ae 108 [.str s,ag i] H=some (.ret (uC (Cv s i)),H):=by
 have aB:=(eD.1 h).1;have dQ:=fun i=>Nl (ae:=0) (H:=[]) s i;have lI:Rn ak SA.sp 0 119 [.str s,.int .i64 ((i:Int)+1)] []=some (.ret (.int .i64 (dV s (i+1))),[]):=by
  rw[show(AV.int .i64 ((i:Int)+1))=ag (i+1) by simp[ag]];exact dQ (i+1)
 have hw:IntKind.i64.wrap ((i:Int)+1)=(i:Int)+1:=aM _ (by omega);have bY:IntKind.i64.wrap ((i:Int)+1+1)=(i:Int)+1+1:=aM _ (by omega);have h0:¬(i:Int)<0:=by omega
 have h1:¬s.length<=i:=by omega
 have h1I:¬(s.length:Int)<=(i:Int):=by omega
 have hno:=XF;have h4:∀p,List.take 4 (dJ p)=dJ p:=fun p=>rfl;have hz:([.int .u64 0,.int .u64 0,.int .u64 0,.int .u64 0]:List AV)=dJ aO:=rfl;have c2:∀p q:Nat->Bool,setCells (dJ p) 0 (dJ q)=dJ q:=fun p q=>rfl;have cK:=fun p=>ziZ (ae:=0) (H:=[]) p;unfold gN at cK;have frzC:∀(p:Nat->Bool) H,bg 0 H (dJ p)=some (dJ p):=fun p H=>by simp[ES,aN,bg]
 have after:∀(x:PR (Nat->Bool))(ng:Bool)(e:AExit)(t:EH),(∀p j,x=.ok p j->j<=s.length)->P5 s ng x e t->
   ul 0 (andThen (aP ak SA.sp 0 (.seq (.seq (.region Vg) (.cond true (.v 175) (.seq (.region Vf) (.block 8 (.loop a108l49))) .skip)) (.seq (.region Ve) .ret))) (fin [.cell 4 (some 4),.tmp 5,.tmp 6] (thaw 0 (· =.ret (uC (match x with|.er a w=>.er a w|.ok p j=>.ok (bif ng then qa p else p) (j+1))))))) e t:=by
  intro x ng e t hj h;cases x with
  |er a w=>
   obtain⟨rfl,v',rfl,k4,k5,k6⟩:=h;simp[k4,k5,k6,nI,h4,uC,gN,aN,bg,frzC]
  |ok p j=>
   obtain⟨rfl,v',rfl,k8,k1,k4,k7⟩:=h;have hj:=hj p j rfl;have hwj:IntKind.i64.wrap ((j:Int)+1)=(j:Int)+1:=aM _ (by omega);cases ng with
   |true=>
    simp[au,Vg,Vf,k7];refine(zm8 p 256 0 _ (by omega) ?_ ?_).mono fun e t h=>?_
    ·simp
    ·rw[zjs];simp[k8]
    obtain⟨rfl,u,rfl,q8,q0,q1,q4,q7,q9⟩:=h;simp at q1 q4;rw[k1]at q1;rw[k4]at q4;simp[au,Ve,q1,q4,q8,cK,hwj,mr,GX,nI,h4,c2,uC,gN,aN,bg,frzC]
   |false=>
    simp[au,Vg,Vf,Ve,k7,k1,k4,k8,cK,hwj,mr,GX,nI,h4,c2,uC,gN,aN,bg,frzC]
 refine di rfl rfl rfl rfl ?_;rw[zpY];have hit:=fun first p i h1 h2=>Ra (s:=s) (s.length+1) first p i h1 h2
 have e1:((i:Int)+1)=((i+1:Nat):Int):=by simp
 unfold Cv;rw[M9];by_cases hcc:s[i+1]?=some 94
 ·have f1:dV s (i+1)=94:=jJ hcc;have bq:=(eD.1 hcc).1;simp only[hcc,decide_true,bA];simp[bR, -List.reduceReplicate,hno,mr,GX,Nk,a108,zbb,zba,za7,za3,zaX,zaS,zaR,zaQ,zaP,h0,h1,h1I,h,dQ,lI,hw,bY,f1];refine(zcS hl true (s.length+1) (i+2) true aO _ (by omega) (by omega) ?_ ?_ ?_ ?_ ?_ ?_).mono fun e t h=>?_
  ·simp
  ·simp;omega
  ·simp;rfl
  ·simp
  ·simp[-List.reduceReplicate]
  ·simp
  ·have hq:=hit true aO (i+2) (by omega) (by omega);refine after _ true e t (fun p j e=>?_) h;rw[e]at hq;simp only[PR.sat]at hq;omega
 ·have f1:(dV s (i+1)==94)=false:=(mK 94 hcc).1;have e94:decide (s[i+1]?=some 94)=false:=by simp[hcc]
  simp only[e94,fq];simp[bR, -List.reduceReplicate,hno,mr,GX,Nk,a108,zbb,zba,za7,za3,zaX,zaS,zaR,zaQ,zaP,h0,h1,h1I,h,dQ,lI,hw,bY,f1];refine(zcS hl false (s.length+1) (i+1) true aO _ (by omega) (by omega) ?_ ?_ ?_ ?_ ?_ ?_).mono fun e t h=>?_
  ·simp
  ·simp
  ·simp;rfl
  ·simp
  ·simp[-List.reduceReplicate]
  ·simp
  ·have hq:=hit true aO (i+1) (by omega) (by omega);refine after _ false e t (fun p j e=>?_) h;rw[e]at hq;simp only[PR.sat]at hq;omega
end
end Go.Ak
