/- Runs without a bound: the first rules. What the machine's functions compute: trees to machines, machines to places. -/
import Derived.Test.YtfcgnpphabplbaaGreatDoorPe
import Derived.Test.YtfcgnpphabplbaaGreatDoorPd
import Derived.Test.YtfcgnpphabplbaaGreatDoorPj
import Derived.ProofKit
set_option linter.unusedVariables false
set_option linter.unusedSimpArgs false
namespace Go.Ak
structure Sp where
 sp:Nat->(Nat->CallF)->Nat->CallF
 mono:jR sp
abbrev u64(n:Nat):AV:=.int .u64 n
def bT:List AV->AV
 | []=>.nils
 |a::l=>.slc .ro (a::l)
mutual
def Re.av:Re->AV
 | .mk k set mn mx l=>.agg (.int .i64 k::(set.map u64 ++[.int .i64 mn,.int .i64 mx,bT (Re.avs l)]))
def Re.avs:List Re->List AV
 | []=>[]
 |x::l=>x.av::Re.avs l
end
def NS.cells(x:NS):List AV:=ag x.op::(x.set.map u64 ++[ag x.next,ag x.two])
theorem Re.avs_map:∀(l:List Re),Re.avs l=l.map Re.av
 | []=>rfl
 |x::l=>by rw[Re.avs,Re.avs_map l];rfl
def cellsOf(L:List NS):List AV:=L.flatMap NS.cells
def F5(L:List NS):Prop:=∀x∈L,x.set.length=4
theorem zfa{L:List NS}(h:F5 L):(cellsOf L).length=L.length*7:=by
 unfold cellsOf;induction L with
 |nil=>rfl
 |cons x L ih=>
  rw[lq,iF,ih (fun y hy=>h y (by simp[hy]))];have:=h x (by simp);simp[NS.cells,this];omega
theorem zqK(L:List NS)(x:NS):cellsOf (L ++[x])=cellsOf L++x.cells:=by simp[cellsOf]
def PRow(H:aj)(p:Nat)(L:List NS)(lv:AV):Prop:=F5 L∧((L=[]∧lv=.nils)∨∃r,lv=.msl 7 r 0 L.length∧p<r∧eB H r=some (some (cellsOf L)))
def PH(H:aj)(p:Nat)(L:List NS)(first:Nat):Prop:=∃lv,eB H p=some (some [lv,ag first])∧PRow H p L lv
def Front(p:Nat)(H H':aj):Prop:=p<H'.length∧∀i,i<p->eB H' i=eB H i
theorem GY:∀(l:List UInt8),ic l l=true
 | []=>rfl
 |a::l=>by simp[ic,jv,GY l]
mutual
theorem XQ:∀(a:AV),fC a a=true
 | .undef=>rfl
 | .bool b=>by simp[fC]
 | .int k n=>by simp[fC]
 | .str s=>by simp[fC,GY]
 | .nilp|.nils|.nilf|.nili=>rfl
 | .ptr a b=>by simp[fC,jv]
 | .rptr a b=>by simp[fC,jv,Fw a]
 | .slc p a=>by simp[fC,Fw a]
 | .msl a b c d=>by simp[fC,jv]
 | .tptr a b c d=>by simp[fC,jv]
 | .bsl a b=>by simp[fC,jv]
 | .agg a=>by simp[fC,Fw a]
 | .tup a=>by simp[fC,Fw a]
 | .fn a b=>by simp[fC,jv,Fw b]
 | .ifc a b=>by simp[fC,jv,XQ b]
 | .box a=>by simp[fC,Fw a]
 | .loc a b c=>by simp[fC,jv]
 | .eloc a b c d=>by simp[fC,jv]
 | .ref a b c d=>by simp[fC,jv]
theorem Fw:∀(l:List AV),qY l l=true
 | []=>rfl
 |a::l=>by simp[qY,XQ a,Fw l]
end
theorem jI:∀(l:List (Nat×AV)),Fx l l=true
 | []=>rfl
 |(k,a)::l=>by simp[Fx,jv,XQ a,jI l]
theorem jy:∀(l:aj),rV l l=true
 | []=>rfl
 |none::l=>by simp[rV,jy l]
 |some a::l=>by simp[rV,Fw a,jy l]
end Go.Ak
namespace Go.Ak
theorem zc5{fs:Nat->Option AFunc}{sp:Nat->(Nat->CallF)->Nat->CallF}(hs:jR sp){f:Nat}{F:AFunc}(hf:fs f=some F)(hp:F.pure=true){xs:List AV}(hc:dG xs=true){v:AV}{bar0 n:Nat}{H0 H1:aj}(h:run fs sp n bar0 f xs H0=some (.ret v,H1))(ae:Nat)(H:aj):
  Rn fs sp ae f xs H=some (.ret v,H):=by
 have h1:=(vR hs).2 ⟨n,h⟩;rw[Ls hs hf,hp,hc]at h1 ⊢;simp only[bA]at h1 ⊢;cases hx:EU fs sp 0 F xs []with
 |none=>rw[hx]at h1;cases h1
 |some q=>
  obtain⟨o,K⟩:=q;rw[hx]at h1;cases o with
  |ret u=>
   simp only[lC]at h1 ⊢;split at h1
   ·rename_i w hw;simp only[aD,eU,Out.ret.injEq]at h1;rw[h1.1]
   ·cases h1
  |pan u=>
   simp only[lC]at h1;split at h1
   ·cases h1
   ·cases h1
end Go.Ak
namespace Go.Ak
theorem zks:jR Mr:=fun n m c d ae hn hcd f xs H r h=>by
 unfold Mr at h ⊢;cases h1:Nat.beq f 41<;>rw[h1]at h<;>simp only[bA,fq]at h ⊢
 ·cases h2:Nat.beq f 11<;>rw[h2]at h<;>simp only[bA,fq]at h ⊢
  ·exact h
  ·exact zcf hn hcd xs H r h
 ·exact zce hcd xs H r h
theorem zkq:jR Mq:=fun n m c d ae hn hcd f xs H r h=>by
 unfold Mq at h ⊢;cases h1:Nat.beq f 182<;>rw[h1]at h<;>simp only[bA,fq]at h ⊢
 ·cases h2:Nat.beq f 202<;>rw[h2]at h<;>simp only[bA,fq]at h ⊢
  ·exact zks n m c d ae hn hcd f xs H r h
  ·exact h
 ·exact h
theorem zkm:jR Mm:=fun n m c d ae hn hcd f xs H r h=>by
 unfold Mm at h ⊢;cases h1:Nat.beq f 191<;>rw[h1]at h<;>simp only[bA,fq]at h ⊢
 ·cases h2:Nat.beq f 187<;>rw[h2]at h<;>simp only[bA,fq]at h ⊢
  ·exact zkq n m c d ae hn hcd f xs H r h
  ·exact h
 ·exact h
theorem zkk:jR Ml:=fun n m c d ae hn hcd f xs H r h=>by
 unfold Ml at h ⊢;cases h1:Nat.beq f 181<;>rw[h1]at h<;>simp only[bA,fq]at h ⊢
 ·cases h2:Nat.beq f 184<;>rw[h2]at h<;>simp only[bA,fq]at h ⊢
  ·exact zkm n m c d ae hn hcd f xs H r h
  ·exact h
 ·exact h
theorem zki:jR Mk:=fun n m c d ae hn hcd f xs H r h=>by
 unfold Mk at h ⊢;cases h1:Nat.beq f 212<;>rw[h1]at h<;>simp only[bA,fq]at h ⊢
 ·cases h2:Nat.beq f 214<;>rw[h2]at h<;>simp only[bA,fq]at h ⊢
  ·cases h3:Nat.beq f 215<;>rw[h3]at h<;>simp only[bA,fq]at h ⊢
   ·exact zkk n m c d ae hn hcd f xs H r h
   ·exact h
  ·exact h
 ·exact h
theorem zkf:jR qE:=fun n m c d ae hn hcd f xs H r h=>by
 unfold qE at h ⊢;cases h1:Nat.beq f 217<;>rw[h1]at h<;>simp only[bA,fq]at h ⊢
 ·exact zki n m c d ae hn hcd f xs H r h
 ·exact h
def SA:Sp:=⟨qE,zkf⟩
theorem bu:type_of% (@lZ ak SA.sp SA.mono):=lZ SA.mono
theorem di:type_of% (@BJ ak SA.sp SA.mono):=BJ SA.mono
theorem xS:type_of% (@QP ak SA.sp SA.mono):=QP SA.mono
theorem jl:type_of% (@zL ak SA.sp SA.mono):=zL SA.mono
theorem zr2:type_of% (@vR ak SA.sp SA.mono):=vR SA.mono
theorem PZ:type_of% (@bG ak SA.sp SA.mono):=bG SA.mono
theorem vP:type_of% (@bJ ak SA.sp SA.mono):=bJ SA.mono
theorem zrQ:type_of% (@dn ak SA.sp SA.mono):=dn SA.mono
theorem au:type_of% (And.intro (@bG ak SA.sp SA.mono) (And.intro (@bJ ak SA.sp SA.mono) (And.intro (@dn ak SA.sp SA.mono) (@dm ak SA.sp SA.mono)))):=⟨bG SA.mono,bJ SA.mono,dn SA.mono,dm SA.mono⟩
theorem bR:type_of% (And.intro (@bG ak SA.sp SA.mono) (And.intro (@bJ ak SA.sp SA.mono) (And.intro (@dn ak SA.sp SA.mono) (And.intro (@dm ak SA.sp SA.mono) (@lm ak SA.sp SA.mono))))):=⟨bG SA.mono,bJ SA.mono,dn SA.mono,dm SA.mono,lm SA.mono⟩
theorem iO:type_of% (And.intro (@bG ak SA.sp SA.mono) (And.intro (@bJ ak SA.sp SA.mono) (@dn ak SA.sp SA.mono))):=⟨bG SA.mono,bJ SA.mono,dn SA.mono⟩
theorem dX:type_of% (And.intro (@bG ak SA.sp SA.mono) (@bJ ak SA.sp SA.mono)):=⟨bG SA.mono,bJ SA.mono⟩
theorem zrO:type_of% (And.intro (@bG ak SA.sp SA.mono) (And.intro (@bJ ak SA.sp SA.mono) (@lm ak SA.sp SA.mono))):=⟨bG SA.mono,bJ SA.mono,lm SA.mono⟩
theorem dN:type_of% (And.intro (@bG ak SA.sp SA.mono) (And.intro (@bJ ak SA.sp SA.mono) (@dm ak SA.sp SA.mono))):=⟨bG SA.mono,bJ SA.mono,dm SA.mono⟩
theorem Ez:type_of% (And.intro (@bG ak SA.sp SA.mono) (And.intro (@bJ ak SA.sp SA.mono) (And.intro (@dm ak SA.sp SA.mono) (@lm ak SA.sp SA.mono)))):=⟨bG SA.mono,bJ SA.mono,dm SA.mono,lm SA.mono⟩
section
variable {ae:Nat} {xs:List AV} {H:aj}
theorem zrY:Rn ak SA.sp ae 41 xs H=limit fun n=>zZ (run ak qE n) xs H:=vQ SA.mono rfl ae xs H
theorem zr5:Rn ak SA.sp ae 11 xs H=limit fun n=>BG n (run ak qE n) xs H:=vQ SA.mono rfl ae xs H
theorem Rn_of:Rn ak SA.sp ae 217 xs H=Qz xs H:=(vQ SA.mono rfl ae xs H).trans (sK _)
theorem zr3:Rn ak SA.sp ae 191 xs H=Mj xs H:=(vQ SA.mono rfl ae xs H).trans (sK _)
theorem zrW:Rn ak SA.sp ae 187 xs H=Jp xs H:=(vQ SA.mono rfl ae xs H).trans (sK _)
theorem zrV:Rn ak SA.sp ae 182 xs H=Mg xs H:=(vQ SA.mono rfl ae xs H).trans (sK _)
theorem zr1:Rn ak SA.sp ae 202 xs H=Mi xs H:=(vQ SA.mono rfl ae xs H).trans (sK _)
theorem zr4:Rn ak SA.sp ae 181 xs H=Mo xs H:=(vQ SA.mono rfl ae xs H).trans (sK _)
theorem zrX:Rn ak SA.sp ae 184 xs H=Mh xs H:=(vQ SA.mono rfl ae xs H).trans (sK _)
theorem zrU:Rn ak SA.sp ae 212 xs H=Mf xs H:=(vQ SA.mono rfl ae xs H).trans (sK _)
theorem zr0:Rn ak SA.sp ae 214 xs H=Jr xs H:=(vQ SA.mono rfl ae xs H).trans (sK _)
theorem zrZ:Rn ak SA.sp ae 215 xs H=Jq ae xs H:=(vQ SA.mono rfl ae xs H).trans (sK _)
theorem zi0:Rn ak SA.sp ae 112 xs H=Js xs H:=(vQ SA.mono rfl ae xs H).trans (sK _)
end
theorem zrf(a b:List UInt8):iw .neq a b=some (.bool (!ic a b)):=rfl
end Go.Ak
namespace Go.Ak
set_option maxRecDepth 100000
theorem znL:run ak qE 200 0 161 [] []=some (.ret (.bool true),[]):=by kernel_rfl
theorem znM(ae:Nat)(H:aj):Rn ak SA.sp ae 161 [] H=some (.ret (.bool true),H):=zc5 SA.mono rfl rfl rfl znL ae H
end Go.Ak
namespace Go.Ak
attribute [local simp] Av EA EC EB mM zK wH Cy CB Cz BP BM BN Ac Cs Cq Cr Bz BA
 jP kr wanted cB dZ l8 live BR zU Aj Bw xN put vZ esc sS yn args drop1 jv xV xU yj qX rd wr kW sub AV.cells pack one setCells nJ qI qJ roOf gT qF jI jy mf eY newRow newObj step Ce Cf qR take cz bB lim mG bound uh ww uu nO yf fO
 Cm Ck Ch Ci Cj
 pY ru Ap rR BZ Ca BX
attribute [local simp] sR sT cV bL kA kB kC af aQ aJ gK ah aC dC aA eQ iY fI bH eO bD bN gQ rU bI rF aL dI eZ fK gp lX bW iQ df cO jc dP dM gm mJ fH gH iq iR lc ku fB jX iH iI
attribute [-simp] getElem?_pos
section
variable {S:Sp} {ae:Nat}
theorem RF{H:aj}{p:Nat}{L:List NS}{first:Nat}(x:NS)(hb:ae<=p)(hx:x.set.length=4)(hl:L.length<1000000)(h:PH H p L first):
  Wc (Rn ak S.sp ae 58 [.ptr p 0,.agg x.cells] H) (fun o H'=>o=.ret (ag L.length)∧PH H' p (L ++[x]) first∧Front p H H'):=by
 have hs:=S.mono;refine zL hs rfl rfl rfl ?_;have hx':=hx;obtain⟨op,set,next,two⟩:=x;obtain⟨w0,w1,w2,w3,rfl⟩:∃a b c d,set=[a,b,c,d]:=by
  match set,hx with
  | [a,b,c,d],_=>exact⟨a,b,c,d,rfl⟩
 obtain⟨a,b,hw,⟨rfl,rfl⟩|⟨r,rfl,h1,h2⟩⟩:=h
 ·have hp:p<H.length:=fA b;rw[zex];simp[a58,bG hs,bJ hs,lm hs,Y0,NS.cells,Y1,YZ,b,hb,l9,hp,dB,aM];refine⟨⟨_,?_,?_,.inr ⟨H.length,rfl,hp,?_⟩⟩,by simp;omega,fun i hi=>?_⟩
  ·rw[l9 _ (by simpa using hp),dB _ hp];rfl
  ·intro y hy;simp only[xE]at hy;subst hy;rfl
  ·rw[Rb _ _ _ (by simp)];rfl
  ·rw[l9 _ (by simp;omega),kU _ (by omega)]
 ·have hp:p<H.length:=fA b;have hr:r<H.length:=fA h2;have gL:ae<=r:=by omega
  have hrp:r≠p:=by omega
  have hpr:p≠r:=by omega
  have bM:=zfa hw;have cu:(L.length+1)*7<=4294967296:=by omega
  have bV:List.take (L.length*7) (cellsOf L)=cellsOf L:=ek (by omega);have hwr:IntKind.i64.wrap (L.length:Int)=L.length:=aM _ (by omega);rw[zex];simp[a58,bG hs,bJ hs,lm hs,Y0,NS.cells,Y1,YZ,b,hb,hp,h2,gL,dB,l9,kU,hrp,hpr,bM,cu,bV,hwr];refine⟨⟨_,?_,?_,.inr ⟨H.length,by simp;rfl,hp,?_⟩⟩,by simp;omega,fun i hi=>?_⟩
  ·rw[l9 _ (by simpa using hp),dB _ (by simpa using hp)]
  ·intro y hy;rcases qy.1 hy with hy|hy
   ·exact hw y hy
   ·simp only[xE]at hy;subst hy;rfl
  ·rw[Rb _ _ _ (by simp),zqK];rfl
  ·rw[l9 _ (by simp;omega),kU _ (by omega),kU _ (by omega)]
end
section
variable {S:Sp} {ae:Nat}
theorem Front.refl{p:Nat}{H:aj}(h:p<H.length):Front p H H:=⟨h,fun _ _=>rfl⟩
theorem Front.trans{p:Nat}{H H' H'':aj}(h:Front p H H')(k:Front p H' H''):Front p H H'':=⟨k.1,fun i hi=>(k.2 i hi).trans (h.2 i hi)⟩
def Bi(S:Sp)(f:Nat)(r:Re)(b:Nat->List NS->BS):Prop:=
 ∀(ae p:Nat)(H:aj)(L:List NS)(first next:Nat),ae<=p->PH H p L first->L.length+r.cnt<1000000->
  Wc (Rn ak S.sp ae f [.ptr p 0,r.av,ag next] H) (fun o H'=>o=.ret (ag (b next L).1)∧PH H' p (b next L).2 first∧Front p H H')
theorem PH.lt{H:aj}{p:Nat}{L:List NS}{first:Nat}(h:PH H p L first):p<H.length:=by
 obtain⟨_,h,_⟩:=h;exact fA h
theorem four{l:List Nat}(h:l.length=4):∃a b c d,l=[a,b,c,d]:=by
 match l,h with
 | [a,b,c,d],_=>exact⟨a,b,c,d,rfl⟩
theorem kM{l:List AV}(h:l ≠ []):bT l=.slc .ro l:=by
 cases l with
 |nil=>exact absurd rfl h
 |cons a l=>rfl
theorem Re.av_agg:∀{r:Re},r.wide->∃cs,r.av=.agg cs∧cs.length=8
 | .mk k set mn mx l,h=>by
  unfold Re.wide at h;exact⟨_,by rw[Re.av],by simp[h.1]⟩
theorem sZ{l:List Re}{i:Nat}(h:i<l.length):(Re.avs l)[i]?=some l[i].av:=by
 rw[Re.avs_map,xH,gG h];rfl
theorem ed(l:List Re):(Re.avs l).length=l.length:=by simp[Re.avs_map]
theorem zqQ{k:Int}{a b c d:Nat}{mn mx:Int}{l:List Re}(hf:Re.fineL l)(hw:Re.wideL l)(ih:∀x∈l,Bi S 59 x x.bld){p first n0:Nat}{P0:List NS}(hb:ae<=p)(hc:P0.length+Re.cntL l<1000000)(bq:l.length<1000000):
  ∀(i:Nat)(v:Nat->AV)(H:aj),i<=l.length->v 0=.ptr p 0->v 4=.box [.int .i64 k,u64 a,u64 b,u64 c,u64 d,.int .i64 mn,.int .i64 mx,bT (Re.avs l)]->v 7=.int .i64 ((i:Int)-1)->v 2=ag (Re.bldCat (l.drop i) n0 P0).1->
   PH H p (Re.bldCat (l.drop i) n0 P0).2 first->
   Wp (aP ak S.sp ae (.loop a59l13) (az 19343108262865700173913047 v,H)) (fun e s=>e=.exit 1∧∃v' H',s=(az 19343108262865700173913047 v',H')∧v' 2=ag (Re.bldCat l n0 P0).1∧PH H' p (Re.bldCat l n0 P0).2 first∧Front p H H'):=by
 have hs:=S.mono;intro i;induction i with
 |zero=>
  intro v H _ h0 h4 h7 h2 hP;rw[lZ hs a59l13.eq_1];simp[bG hs,bJ hs,dn hs,dm hs,tJ,tH,tF,h7,ag];exact⟨_,_,⟨rfl,rfl⟩,by simpa[xN]using h2,by simpa using hP,Front.refl hP.lt⟩
 |succ i ihi=>
  intro v H hi h0 h4 h7 h2 hP;have aK:i<l.length:=by omega
  have aR:Re.avs l ≠ []:=by rw[Re.avs_map];simp;intro e;subst e;simp at hi
  rw[kM aR]at h4;have hx:=ih l[i] (mO aK);have hxw:=kz.1 hw l[i] (mO aK);have hxf:=Fp.1 hf l[i] (mO aK);obtain⟨cs,aH,bM⟩:=Re.av_agg hxw;have fQ:8<=cs.length:=by omega
  have bV:List.take 8 cs=cs:=ek (by omega);have hg:(Re.avs l)[i]?=some (.agg cs):=by rw[sZ aK,aH]
  have hd:l.drop i=l[i]::l.drop (i+1):=iJ aK;have hfd:Re.fineL (l.drop (i+1)):=Fp.2 fun x hx=>Fp.1 hf x (EL hx);have Ao:=Re.bldCat_len (l.drop (i+1)) hfd n0 P0;have sM:Re.cntL (l.take i)+(l[i].cnt+Re.cntL (l.drop (i+1)))=Re.cntL l:=by
   have:=Xp (l.take i) (l.drop i);rw[Gb,hd]at this;simpa only[Re.cntL]using this.symm
  obtain⟨o,H1,bf,ho,hP1,hF1⟩:=hx ae p H _ first (Re.bldCat (l.drop (i+1)) n0 P0).1 hb hP (by omega)
  subst ho;rw[aH]at bf;have hwr:IntKind.i64.wrap ((i:Int)-1)=(i:Int)-1:=aM _ (by omega);have e7:((i+1:Nat):Int)-1=i:=by omega
  rw[e7]at h7;rw[lZ hs a59l13.eq_1];simp[bG hs,bJ hs,dn hs,dm hs,tJ,tH,tF,h7,h0,h4,h2,hg,bM,fQ,bV,bf,hwr];have jG:Re.bldCat (l.drop i) n0 P0=l[i].bld (Re.bldCat (l.drop (i+1)) n0 P0).1 (Re.bldCat (l.drop (i+1)) n0 P0).2:=by rw[hd,Re.bldCat]
  refine(ihi _ H1 (by omega) ?_ ?_ ?_ ?_ ?_).mono fun e s h=>?_
  ·simp[h0]
  ·simp[h4,kM aR]
  ·simp
  ·simp[jG]
  ·rw[jG];exact hP1
  ·obtain⟨he,v',H',gz,h1,h2,h3⟩:=h;exact⟨he,v',H',gz,h1,h2,hF1.trans h3⟩
end
section
variable {S:Sp} {ae:Nat}
theorem VU{H:aj}{p:Nat}{L:List NS}{first:Nat}(n t:Nat)(hb:ae<=p)(hl:L.length<1000000)(h:PH H p L first):
  Wc (Rn ak S.sp ae 58 [.ptr p 0,.agg [.int .i64 3,.int .u64 0,.int .u64 0,.int .u64 0,.int .u64 0,ag n,ag t]] H) (fun o H'=>o=.ret (ag (iE ⟨3,dL,n,t⟩ L).1)∧PH H' p (iE ⟨3,dL,n,t⟩ L).2 first∧Front p H H'):=
 RF ⟨3,dL,n,t⟩ hb rfl hl h
theorem zra{x:Re}{l:List Re}(h:l ≠ [])(n:Nat)(P:List NS):Re.bldAlt (x::l) n P=iE ⟨3,dL,(x.bld n (Re.bldAlt l n P).2).1,(Re.bldAlt l n P).1⟩ (x.bld n (Re.bldAlt l n P).2).2:=by
 cases l with
 |nil=>exact absurd rfl h
 |cons y l=>rw[Re.bldAlt]
theorem zrq{k:Int}{a b c d:Nat}{mn mx:Int}{l:List Re}(hf:Re.fineL l)(hw:Re.wideL l)(ih:∀x∈l,Bi S 59 x x.bld){p first n0:Nat}{P0:List NS}(hb:ae<=p)(hc:P0.length+(Re.cntL l+(l.length-1))<1000000)(bq:l.length<1000000):
  ∀(i:Nat)(v:Nat->AV)(H:aj),i+1<=l.length->v 0=.ptr p 0->v 4=.box [.int .i64 k,u64 a,u64 b,u64 c,u64 d,.int .i64 mn,.int .i64 mx,bT (Re.avs l)]->v 9=.int .i64 ((i:Int)-1)->v 2=ag n0->v 8=ag (Re.bldAlt (l.drop i) n0 P0).1->
   PH H p (Re.bldAlt (l.drop i) n0 P0).2 first->
   Wp (aP ak S.sp ae (.loop a59l20) (az 19343108262865700173913047 v,H)) (fun e s=>e=.exit 3∧∃v' H',s=(az 19343108262865700173913047 v',H')∧v' 8=ag (Re.bldAlt l n0 P0).1∧PH H' p (Re.bldAlt l n0 P0).2 first∧Front p H H'):=by
 have hs:=S.mono;intro i;induction i with
 |zero=>
  intro v H _ h0 h4 h9 h2 h8 hP;rw[lZ hs a59l20.eq_1];simp[bG hs,bJ hs,dn hs,dm hs,tC,tu,tq,h9,ag];exact⟨_,_,⟨rfl,rfl⟩,by simpa[xN]using h8,by simpa using hP,Front.refl hP.lt⟩
 |succ i ihi=>
  intro v H hi h0 h4 h9 h2 h8 hP;have aK:i<l.length:=by omega
  have aR:Re.avs l ≠ []:=by rw[Re.avs_map];simp;intro e;subst e;simp at hi
  rw[kM aR]at h4;have hx:=ih l[i] (mO aK);have hxw:=kz.1 hw l[i] (mO aK);have hxf:=Fp.1 hf l[i] (mO aK);obtain⟨cs,aH,bM⟩:=Re.av_agg hxw;have fQ:8<=cs.length:=by omega
  have bV:List.take 8 cs=cs:=ek (by omega);have hg:(Re.avs l)[i]?=some (.agg cs):=by rw[sZ aK,aH]
  have hd:l.drop i=l[i]::l.drop (i+1):=iJ aK;have hdn:l.drop (i+1) ≠ []:=by simp;omega
  have hfd:Re.fineL (l.drop (i+1)):=Fp.2 fun x hx=>Fp.1 hf x (EL hx);have Ao:=Re.bldAlt_len (l.drop (i+1)) hfd n0 P0;rw[kZ]at Ao;have sM:Re.cntL (l.take i)+(l[i].cnt+Re.cntL (l.drop (i+1)))=Re.cntL l:=by
   have:=Xp (l.take i) (l.drop i);rw[Gb,hd]at this;simpa only[Re.cntL]using this.symm
  obtain⟨o,H1,bf,ho,hP1,hF1⟩:=hx ae p H _ first n0 hb hP (by omega)
  subst ho;rw[aH]at bf;have hlx:=Re.bld_len l[i] hxf n0 (Re.bldAlt (l.drop (i+1)) n0 P0).2;obtain⟨o,H2,x8,ho,hP2,hF2⟩:=VU (S:=S) (ae:=ae) (l[i].bld n0 (Re.bldAlt (l.drop (i+1)) n0 P0).2).1 (Re.bldAlt (l.drop (i+1)) n0 P0).1 hb (by omega) hP1;subst ho;have hwr:IntKind.i64.wrap ((i:Int)-1)=(i:Int)-1:=aM _ (by omega);have e9:((i+1:Nat):Int)-1=i:=by omega
  rw[e9]at h9;rw[lZ hs a59l20.eq_1];simp[bG hs,bJ hs,dn hs,dm hs,tC,tu,tq,h9,h0,h4,h2,h8,hg,bM,fQ,bV,bf,x8,hwr];have jG:Re.bldAlt (l.drop i) n0 P0=iE ⟨3,dL,(l[i].bld n0 (Re.bldAlt (l.drop (i+1)) n0 P0).2).1,(Re.bldAlt (l.drop (i+1)) n0 P0).1⟩ (l[i].bld n0 (Re.bldAlt (l.drop (i+1)) n0 P0).2).2:=by rw[hd,zra hdn]
  refine(ihi _ H2 (by omega) ?_ ?_ ?_ ?_ ?_ ?_).mono fun e s h=>?_
  ·simp[h0]
  ·simp[h4,kM aR]
  ·simp
  ·simp[h2]
  ·simp[jG]
  ·rw[jG];exact hP2
  ·obtain⟨he,v',H',gz,h1,h2,h3⟩:=h;exact⟨he,v',H',gz,h1,h2,(hF1.trans hF2).trans h3⟩
theorem zmf{k:Int}{a b c d:Nat}{mn mx:Int}{x:Re}{es:List AV}(hx:Bi S 59 x x.bld)(hf:x.fine)(hw:x.wide){p first bQ N:Nat}(hb:ae<=p)(hN:N<1000000):
  ∀(m i:Nat)(v:Nat->AV)(H:aj)(q:BS),i+m=N->v 0=.ptr p 0->v 4=.box [.int .i64 k,u64 a,u64 b,u64 c,u64 d,.int .i64 mn,.int .i64 mx,.slc .ro (x.av::es)]->v 38=ag N->v 39=ag i->v 2=ag q.1->v 9=ag bQ->
   PH H p q.2 first->q.2.length+m*(x.cnt+1)<1000000->
   Wp (aP ak S.sp ae (.loop a83l11) (az 126102713711727575 v,H)) (fun e s=>e=.exit 0∧∃v' H',s=(az 126102713711727575 v',H')∧v' 0=v 0∧v' 4=v 4∧v' 2=ag (lK x.bld bQ m q).1∧PH H' p (lK x.bld bQ m q).2 first∧Front p H H'):=by
 have hs:=S.mono;obtain⟨cs,aH,bM⟩:=Re.av_agg hw;rw[aH];have fQ:8<=cs.length:=by omega
 have bV:List.take 8 cs=cs:=ek (by omega);intro m;induction m with
 |zero=>
  intro v H L q hi h0 h4 h38 h39 h2 h9 hP hl;simp only[qx]at hi;subst hi;rw[lZ hs a83l11.eq_1];simp[bG hs,bJ hs,dn hs,dm hs,CF,CE,CL,h38,h39];exact⟨_,_,⟨rfl,rfl⟩,by simp,by simp,by simpa[lK,iter]using h2,by simpa[lK,iter]using hP,Front.refl hP.lt⟩
 |succ m ihm=>
  intro i v H q hi h0 h4 h38 h39 h2 h9 hP hl;have hiN:i<N:=by omega
  rw[rf]at hl;obtain⟨o,H1,bf,ho,hP1,hF1⟩:=hx ae p H _ first q.1 hb hP (by omega)
  subst ho;rw[aH]at bf;have hlx:=Re.bld_len x hf q.1 q.2;obtain⟨o,H2,x8,ho,hP2,hF2⟩:=VU (S:=S) (ae:=ae) (x.bld q.1 q.2).1 bQ hb (by omega) hP1;subst ho;have hwr:IntKind.i64.wrap ((i:Int)+1)=(i:Int)+1:=aM _ (by omega);rw[lZ hs a83l11.eq_1];simp[bG hs,bJ hs,dn hs,dm hs,CF,CE,CL,h38,h39,h0,h4,h2,h9,hiN,bM,fQ,bV,bf,x8,hwr];refine(ihm (i+1) _ H2 (iE ⟨3,dL,(x.bld q.1 q.2).1,bQ⟩ (x.bld q.1 q.2).2) (by omega) ?_ ?_ ?_ ?_ ?_ ?_ hP2 (by rw[yo];omega)).mono fun e s h=>?_
  ·simp[h0]
  ·simp[h4]
  ·simp[h38]
  ·simp
  ·simp
  ·simp[h9]
  ·obtain⟨he,v',H',gz,e0,e4,h1,h2',h3⟩:=h;exact⟨he,v',H',gz,by simp[e0,h0],by simp[e4,h4],h1,h2',(hF1.trans hF2).trans h3⟩
theorem zdy{k:Int}{a b c d:Nat}{mn mx:Int}{x:Re}{es:List AV}(hx:Bi S 59 x x.bld)(hf:x.fine)(hw:x.wide){p first N:Nat}(hb:ae<=p)(hN:N<1000000):
  ∀(m i:Nat)(v:Nat->AV)(H:aj)(q:BS),i+m=N->v 0=.ptr p 0->v 4=.box [.int .i64 k,u64 a,u64 b,u64 c,u64 d,.int .i64 mn,.int .i64 mx,.slc .ro (x.av::es)]->v 54=ag N->v 55=ag i->v 2=ag q.1->
   PH H p q.2 first->q.2.length+m*x.cnt<1000000->
   Wp (aP ak S.sp ae (.loop a83l16) (az 126102713711727575 v,H)) (fun e s=>e=.exit 2∧∃v' H',s=(az 126102713711727575 v',H')∧v' 2=ag (nU x.bld m q).1∧PH H' p (nU x.bld m q).2 first∧Front p H H'):=by
 have hs:=S.mono;obtain⟨cs,aH,bM⟩:=Re.av_agg hw;rw[aH];have fQ:8<=cs.length:=by omega
 have bV:List.take 8 cs=cs:=ek (by omega);intro m;induction m with
 |zero=>
  intro v H L q hi h0 h4 h38 h39 h2 hP hl;simp only[qx]at hi;subst hi;rw[lZ hs a83l16.eq_1];simp[bG hs,bJ hs,dn hs,dm hs,CK,CJ,CG,h38,h39];exact⟨_,_,⟨rfl,rfl⟩,by simpa[nU,iter]using h2,by simpa[nU,iter]using hP,Front.refl hP.lt⟩
 |succ m ihm=>
  intro i v H q hi h0 h4 h38 h39 h2 hP hl;have hiN:i<N:=by omega
  rw[rf]at hl;obtain⟨o,H1,bf,ho,hP1,hF1⟩:=hx ae p H _ first q.1 hb hP (by omega)
  subst ho;rw[aH]at bf;have hlx:=Re.bld_len x hf q.1 q.2;have hwr:IntKind.i64.wrap ((i:Int)+1)=(i:Int)+1:=aM _ (by omega);rw[lZ hs a83l16.eq_1];simp[bG hs,bJ hs,dn hs,dm hs,CK,CJ,CG,h38,h39,h0,h4,h2,hiN,bM,fQ,bV,bf,hwr];refine(ihm (i+1) _ H1 (x.bld q.1 q.2) (by omega) ?_ ?_ ?_ ?_ ?_ hP1 (by omega)).mono fun e s h=>?_
  ·simp[h0]
  ·simp[h4]
  ·simp[h38]
  ·simp
  ·simp
  ·obtain⟨he,v',H',gz,h1,h2',h3⟩:=h;exact⟨he,v',H',gz,h1,h2',hF1.trans h3⟩
end
section
variable {S:Sp} {ae:Nat}
theorem zqJ{x:NS}(h:x.set.length=4)(n:Nat):x.cells.set 5 (ag n)=NS.cells { x with next:=n }:=by
 obtain⟨op,set,next,two⟩:=x;obtain⟨a,b,c,d,rfl⟩:=four h;rfl
theorem cellsOf_next(n:Nat):∀{L:List NS}{i:Nat}{x:NS},F5 L->L[i]?=some x->(cellsOf L).set (i*7+5) (ag n)=cellsOf (L.set i { x with next:=n })
 | [],i,x,_,h=>by simp at h
 |y::L,0,x,hw,h=>by
  simp only[pY,aD]at h;subst h;have hy:=hw y (by simp);have hc:=zqJ hy n;simp only[cellsOf,lq,Nat.zero_mul,jZ,List.set_cons_zero];rw[List.set_append_left _ _ (by simp[NS.cells,hy]),hc]
 |y::L,i+1,x,hw,h=>by
  have hy:=hw y (by simp);have hl:y.cells.length=7:=by simp[NS.cells,hy]
  have ih:=cellsOf_next n (L:=L) (i:=i) (x:=x) (fun z hz=>hw z (by simp[hz])) (by simpa using h);simp only[cellsOf,lq,Vy]at ih ⊢;rw[List.set_append_right _ _ (by omega),hl,←ih];congr 2;omega
theorem zsa{H:aj}{p:Nat}{L:List NS}{first:Nat}(h:PH H p L first){i:Nat}{x:NS}(hx:L[i]?=some x)(n:Nat):∃r,eB H p=some (some [.msl 7 r 0 L.length,ag first])∧eB H r=some (some (cellsOf L))∧p<r∧
  (cellsOf L).length=L.length*7∧i<L.length∧PH (H.set r (some ((cellsOf L).set (i*7+5) (ag n)))) p (L.set i { x with next:=n }) first:=by
 obtain⟨lv,h1,hw,⟨rfl,rfl⟩|⟨r,rfl,h2,h3⟩⟩:=h
 ·simp at hx
 ·have hi:i<L.length:=(eD.1 hx).1;refine⟨r,h1,h3,h2,zfa hw,hi,_,?_,?_,.inr ⟨r,by simp;rfl,h2,?_⟩⟩
  ·rw[kU _ (by omega)];exact h1
  ·intro y hy;rcases Gc hy with hy|rfl
   ·exact hw y hy
   ·exact hw x (jm hx)
  ·rw[dB _ (fA h3),cellsOf_next n hw hx]
theorem Front.set{p r:Nat}{H:aj}(hp:p<H.length)(h:p<r)(x:Option (List AV)):Front p H (H.set r x):=⟨by simpa using hp,fun i hi=>kU x (by omega)⟩
theorem zlk{set:List Nat}{mn mx:Int}{x:Re}{es:List Re}(hx:Bi S 59 x x.bld)(hf:x.fine)(hw:x.wide)(h4:set.length=4)(h0:0<=mn)(h1:mx<0∨mn<=mx)(hm:mn<1000∧ -1<=mx∧mx<1000∧0<=mn):
  Bi S 83 (.mk 6 set mn mx (x::es)) (nT x.bld mn mx):=by
 intro ae p H L first next hb hP hl
 have hs:=S.mono;obtain⟨a,b,c,d,rfl⟩:=four h4;obtain⟨cs,aH,bM⟩:=Re.av_agg hw;have fQ:8<=cs.length:=by omega
 have bV:List.take 8 cs=cs:=ek (by omega);simp only[Re.cnt,Re.cntR]at hl;simp at hl;obtain⟨N,rfl⟩:∃N:Nat,mn=N:=⟨mn.toNat,by omega⟩
 refine zL hs rfl rfl rfl ?_;rw[env83];by_cases sP:mx<0
 ·have emx:mx= -1:=by omega
  subst emx;rw[aS sP]at hl;obtain⟨o,H1,bf,ho,hP1,hF1⟩:=VU (S:=S) (ae:=ae) 0 next hb (by omega) hP
  subst ho;obtain⟨o,H2,x8,ho,hP2,hF2⟩:=hx ae p H1 _ first L.length hb hP1 (by rw[yo];omega)
  subst ho;rw[aH]at x8;have hkeep:=((Re.bld_ok (s:=[]) x hf) L.length (iE ⟨3,dL,0,next⟩ L).2).2.1 L.length (by rw[yo];omega);have dQ:(x.bld L.length (iE ⟨3,dL,0,next⟩ L).2).2[L.length]?=some ⟨3,dL,0,next⟩:=by rw[hkeep];exact MV _ _
  obtain⟨r,g1,g2,g3,g4,g5,g6⟩:=zsa hP2 dQ (x.bld L.length (iE ⟨3,dL,0,next⟩ L).2).1;have gL:ae<=r:=by omega
  have bq:=Re.bld_len x hf L.length (iE ⟨3,dL,0,next⟩ L).2;rw[yo]at bq;have hin:L.length*7+5+1<=(x.bld L.length (iE ⟨3,dL,0,next⟩ L).2).2.length*7:=by omega
  have e1:(iE ⟨3,dL,0,next⟩ L).1=L.length:=rfl;have bf:Rn ak S.sp ae 58 [.ptr p 0,.agg [.int .i64 3,.int .u64 0,.int .u64 0,.int .u64 0,.int .u64 0,.int .i64 0,ag next]] H=some (.ret (ag L.length),H1):=bf;have aT:IntKind.i64.wrap (-1-(N:Int))= -1-N:=aM _ (by omega);have hno:¬((N:Int) < -1):=by omega
  have hu:nT x.bld N (-1) next L=nU x.bld N (pG x.bld next L):=by
   have e:((-1:Int)-N).toNat=0:=by omega
   simp[nT,lK,e,iter]
  have hQ:pG x.bld next L=(L.length,(x.bld L.length (iE ⟨3,dL,0,next⟩ L).2).2.set L.length ⟨3,dL,(x.bld L.length (iE ⟨3,dL,0,next⟩ L).2).1,next⟩):=rfl
  simp[a83,HV,Hz,Hu,Ht,Hr,Hq,Ho,Hm,CF,CE,CL,Hy,CK,CJ,CG,Hw,bG hs,bJ hs,dn hs,dm hs,Re.av,Re.avs,bT,aH,bM,fQ,bV,bf,x8,g1,g2,gL,g4,g5,hin];rw[lZ hs a83l11.eq_1];simp[a83,HV,Hz,Hu,Ht,Hr,Hq,Ho,Hm,CF,CE,CL,Hy,CK,CJ,CG,Hw,bG hs,bJ hs,dn hs,dm hs,aT,hno];refine(zdy (k:=6) (a:=a) (b:=b) (c:=c) (d:=d) (mn:=N) (mx:= -1) (es:=Re.avs es) hx hf hw hb (by omega:N<1000000) N 0 _ _ (pG x.bld next L) (by omega) ?_ ?_ ?_ ?_ ?_ (by rw[hQ];exact g6) ?_).mono fun e s h=>?_
  ·simp
  ·simp[aH]
  ·simp
  ·simp
  ·simp[hQ]
  ·rw[zfn (Re.bld_len x hf)];simp at hl;omega
  ·obtain⟨rfl,v',H',rfl,k1,k2,k3⟩:=h;simp[a83,HV,Hz,Hu,Ht,Hr,Hq,Ho,Hm,CF,CE,CL,Hy,CK,CJ,CG,Hw,bG hs,bJ hs,k1,hu];refine⟨k2,((hF1.trans hF2).trans (Front.set hP2.lt g3 _)).trans k3⟩
 ·obtain⟨M,rfl⟩:∃M:Nat,mx=M:=⟨mx.toNat,by omega⟩
  rw[aF sP]at hl;have hMN:N<=M:=by omega
  have e1:((M:Int)-N).toNat=M-N:=by omega
  have e2:((N:Int)).toNat=N:=by omega
  rw[e1,e2]at hl;have aT:IntKind.i64.wrap ((M:Int)-N)=((M-N:Nat):Int):=by rw[aM _ (by omega)];omega
  have hno:¬((M:Int)<0):=by omega
  have hu:nT x.bld N M next L=nU x.bld N (lK x.bld next (M-N) (next,L)):=by
   simp[nT,hno,e1]
  simp[a83,HV,Hz,Hu,Ht,Hr,Hq,Ho,Hm,CF,CE,CL,Hy,CK,CJ,CG,Hw,bG hs,bJ hs,dn hs,dm hs,Re.av,Re.avs,bT,aH,hno,aT];refine(zmf (k:=6) (a:=a) (b:=b) (c:=c) (d:=d) (mn:=N) (mx:=M) (es:=Re.avs es) (bQ:=next) hx hf hw hb (by omega:M-N<1000000) (M-N) 0 _ _ (next,L) (by omega) ?_ ?_ ?_ ?_ ?_ ?_ hP ?_).mono fun e s h=>?_
  ·simp
  ·simp[aH]
  ·simp
  ·simp
  ·simp
  ·simp
  ·simp only;omega
  ·obtain⟨rfl,v',H',rfl,k0,k4,k1,k2,k3⟩:=h;simp[a83,HV,Hz,Hu,Ht,Hr,Hq,Ho,Hm,CF,CE,CL,Hy,CK,CJ,CG,Hw,bG hs,bJ hs,dn hs,k0,k4];refine(zdy (k:=6) (a:=a) (b:=b) (c:=c) (d:=d) (mn:=N) (mx:=M) (es:=Re.avs es) hx hf hw hb (by omega:N<1000000) N 0 _ _ (lK x.bld next (M-N) (next,L)) (by omega) ?_ ?_ ?_ ?_ ?_ k2 ?_).mono fun e s h=>?_
   ·simp[k0]
   ·simp[aH,k4]
   ·simp
   ·simp
   ·simp[k1]
   ·rw[XH (Re.bld_len x hf)];simp only;omega
   ·obtain⟨rfl,v'',H'',rfl,j1,j2,j3⟩:=h;simp[a83,HV,Hz,Hu,Ht,Hr,Hq,Ho,Hm,CF,CE,CL,Hy,CK,CJ,CG,Hw,bG hs,bJ hs,j1,hu];exact⟨j2,k3.trans j3⟩
end
section
variable {S:Sp} {ae:Nat}
theorem zdG{H:aj}{p:Nat}{L:List NS}{first:Nat}(k:Nat)(n:Nat)(hb:ae<=p)(hl:L.length<1000000)(h:PH H p L first):
  Wc (Rn ak S.sp ae 58 [.ptr p 0,.agg [.int .i64 k,.int .u64 0,.int .u64 0,.int .u64 0,.int .u64 0,ag n,.int .i64 0]] H) (fun o H'=>o=.ret (ag (iE ⟨k,dL,n,0⟩ L).1)∧PH H' p (iE ⟨k,dL,n,0⟩ L).2 first∧Front p H H'):=
 RF ⟨k,dL,n,0⟩ hb rfl hl h
theorem zkz{H:aj}{p:Nat}{L:List NS}{first:Nat}(a b c d n:Nat)(hb:ae<=p)(hl:L.length<1000000)(h:PH H p L first):
  Wc (Rn ak S.sp ae 58 [.ptr p 0,.agg [.int .i64 0,u64 a,u64 b,u64 c,u64 d,ag n,.int .i64 0]] H) (fun o H'=>o=.ret (ag (iE ⟨0,[a,b,c,d],n,0⟩ L).1)∧PH H' p (iE ⟨0,[a,b,c,d],n,0⟩ L).2 first∧Front p H H'):=
 RF ⟨0,[a,b,c,d],n,0⟩ hb rfl hl h
theorem zna{k:Int}{set:List Nat}{mn mx:Int}{l:List Re}(hf:(Re.mk k set mn mx l).fine)(hw:(Re.mk k set mn mx l).wide)(ih:∀x∈l,Bi S 59 x x.bld):Bi S 59 (.mk k set mn mx l) (Re.mk k set mn mx l).bld:=by
 intro ae p H L first next hb hP hl
 have hs:=S.mono;have hf0:=hf;have hw0:=hw;unfold Re.fine at hf;unfold Re.wide at hw;obtain⟨f5,f6,fl⟩:=hf;obtain⟨h4,bq,hm,wl⟩:=hw;obtain⟨a,b,c,d,rfl⟩:=four h4;refine zL hs rfl rfl rfl ?_;rw[env59];by_cases e1:k=1
 ·subst e1;simp only[Re.cnt]at hl;simp at hl;obtain⟨o,H1,bf,rfl,hP1,hF1⟩:=zkz (S:=S) (ae:=ae) a b c d next hb (by omega) hP
  simp[a59,xm,xk,wZ,wU,wS,wQ,wP,wO,wN,wM,tJ,tH,tF,xh,xg,xe,tC,tu,tq,wY,wX,wW,wV,bG hs,bJ hs,dn hs,dm hs,Re.av,bf];exact⟨by simp[Re.bld],by simpa[Re.bld]using hP1,hF1⟩
 by_cases e2:k=2
 ·subst e2;simp only[Re.cnt]at hl;simp at hl;obtain⟨o,H1,bf,rfl,hP1,hF1⟩:=zdG (S:=S) (ae:=ae) 1 next hb (by omega) hP
  have bf:Rn ak S.sp ae 58 [.ptr p 0,.agg [.int .i64 1,.int .u64 0,.int .u64 0,.int .u64 0,.int .u64 0,ag next,.int .i64 0]] H=_:=bf;simp[a59,xm,xk,wZ,wU,wS,wQ,wP,wO,wN,wM,tJ,tH,tF,xh,xg,xe,tC,tu,tq,wY,wX,wW,wV,bG hs,bJ hs,dn hs,dm hs,Re.av,bf];exact⟨by simp[Re.bld],by simpa[Re.bld]using hP1,hF1⟩
 by_cases e3:k=3
 ·subst e3;simp only[Re.cnt]at hl;simp at hl;obtain⟨o,H1,bf,rfl,hP1,hF1⟩:=zdG (S:=S) (ae:=ae) 2 next hb (by omega) hP
  have bf:Rn ak S.sp ae 58 [.ptr p 0,.agg [.int .i64 2,.int .u64 0,.int .u64 0,.int .u64 0,.int .u64 0,ag next,.int .i64 0]] H=_:=bf;simp[a59,xm,xk,wZ,wU,wS,wQ,wP,wO,wN,wM,tJ,tH,tF,xh,xg,xe,tC,tu,tq,wY,wX,wW,wV,bG hs,bJ hs,dn hs,dm hs,Re.av,bf];exact⟨by simp[Re.bld],by simpa[Re.bld]using hP1,hF1⟩
 by_cases e4:k=4
 ·subst e4;simp only[Re.cnt]at hl;simp at hl;have hwr:IntKind.i64.wrap ((l.length:Int)-1)=(l.length:Int)-1:=aM _ (by omega);have qg:∀(v:Nat->AV),v 0=.ptr p 0->v 2=ag next->v 4=.box [.int .i64 4,u64 a,u64 b,u64 c,u64 d,.int .i64 mn,.int .i64 mx,bT (Re.avs l)]->v 7=.int .i64 ((l.length:Int)-1)->
    Wp (aP ak S.sp ae (.loop a59l13) (az 19343108262865700173913047 v,H)) (fun e s=>e=.exit 1∧∃v' H',s=(az 19343108262865700173913047 v',H')∧v' 2=ag (Re.bldCat l next L).1∧PH H' p (Re.bldCat l next L).2 first∧Front p H H'):=fun v v0 v2 v4 v7=>
   zqQ fl wl ih hb (by omega) bq l.length v H (aX _) v0 v4 v7 (by simpa[Re.bldCat]using v2) (by simpa[Re.bldCat]using hP)
  cases l with
  |nil=>
   simp[a59,xm,xk,wZ,wU,wS,wQ,wP,wO,wN,wM,tJ,tH,tF,xh,xg,xe,tC,tu,tq,wY,wX,wW,wV,bG hs,bJ hs,dn hs,dm hs,Re.av,bT,Re.avs,aM];refine(qg _ ?_ ?_ ?_ ?_).mono fun e s h=>?_
   ·simp
   ·simp
   ·simp[bT,Re.avs]
   ·simp
   ·obtain⟨rfl,v',H',rfl,k1,k2,k3⟩:=h;simp[a59,xm,xk,wZ,wU,wS,wQ,wP,wO,wN,wM,tJ,tH,tF,xh,xg,xe,tC,tu,tq,wY,wX,wW,wV,bG hs,bJ hs,k1,Re.bld];exact⟨k2,k3⟩
  |cons x es=>
   have hwr2:IntKind.i64.wrap ((es.length:Int)+1-1)=es.length:=by rw[aM _ (by simp at bq;omega)];omega
   have hav:(Re.avs es).length=es.length:=ed es;simp at bq;have hwr3:IntKind.i64.wrap (es.length:Int)=es.length:=aM _ (by omega);simp[a59,xm,xk,wZ,wU,wS,wQ,wP,wO,wN,wM,tJ,tH,tF,xh,xg,xe,tC,tu,tq,wY,wX,wW,wV,bG hs,bJ hs,dn hs,dm hs,Re.av,bT,Re.avs,hav,hwr3];refine(qg _ ?_ ?_ ?_ ?_).mono fun e s h=>?_
   ·simp
   ·simp
   ·simp[bT,Re.avs]
   ·simp
   ·obtain⟨rfl,v',H',rfl,k1,k2,k3⟩:=h;simp[a59,xm,xk,wZ,wU,wS,wQ,wP,wO,wN,wM,tJ,tH,tF,xh,xg,xe,tC,tu,tq,wY,wX,wW,wV,bG hs,bJ hs,k1,Re.bld];exact⟨k2,k3⟩
 by_cases e5:k=5
 ·subst e5;simp only[Re.cnt]at hl;simp at hl;have aR:=f5 rfl;have lH:0<l.length:=List.length_pos_iff.2 aR;have hane:Re.avs l ≠ []:=by rw[Re.avs_map];simpa using aR
  have aK:l.length-1<l.length:=by omega
  have hx:=ih l[l.length-1] (mO aK);have hxw:=kz.1 wl l[l.length-1] (mO aK);obtain⟨cs,aH,bM⟩:=Re.av_agg hxw;have fQ:8<=cs.length:=by omega
  have bV:List.take 8 cs=cs:=ek (by omega);have hg:(Re.avs l)[l.length-1]?=some (.agg cs):=by rw[sZ aK,aH]
  have hd:l.drop (l.length-1)=[l[l.length-1]]:=by
   rw[iJ aK,show l.length-1+1=l.length by omega,Qg]
  have sM:l[l.length-1].cnt<=Re.cntL l:=zeY (mO aK);obtain⟨o,H1,bf,rfl,hP1,hF1⟩:=hx ae p H _ first next hb hP (by omega)
  rw[aH]at bf;have hwr1:IntKind.i64.wrap ((l.length:Int)-1)=((l.length-1:Nat):Int):=by rw[aM _ (by omega)];omega
  have hwr2:IntKind.i64.wrap ((l.length:Int)-2)=(l.length:Int)-2:=aM _ (by omega);have hba:Re.bldAlt (l.drop (l.length-1)) next L=l[l.length-1].bld next L:=by rw[hd,Re.bldAlt]
  simp[a59,xm,xk,wZ,wU,wS,wQ,wP,wO,wN,wM,tJ,tH,tF,xh,xg,xe,tC,tu,tq,wY,wX,wW,wV,bG hs,bJ hs,dn hs,dm hs,Re.av,kM hane,ed,hwr1,hwr2,hg,bM,fQ,bV,bf];refine(zrq (k:=5) (a:=a) (b:=b) (c:=c) (d:=d) (mn:=mn) (mx:=mx) fl wl ih (n0:=next) (P0:=L) hb (by omega) bq (l.length-1) _ H1 (by omega) ?_ ?_ ?_ ?_ ?_ (by rw[hba];exact hP1)).mono fun e s h=>?_
  ·simp
  ·simp[kM hane]
  ·simp;omega
  ·simp
  ·simp[hba]
  ·obtain⟨rfl,v',H',rfl,k1,k2,k3⟩:=h;simp[a59,xm,xk,wZ,wU,wS,wQ,wP,wO,wN,wM,tJ,tH,tF,xh,xg,xe,tC,tu,tq,wY,wX,wW,wV,bG hs,bJ hs,k1,Re.bld];exact⟨k2,hF1.trans k3⟩
 by_cases e6:k=6
 ·subst e6;obtain⟨g1,g2,g3⟩:=f6 rfl;cases l with
  |nil=>exact absurd rfl g1
  |cons x es=>
   have hxw:=kz.1 wl x (by simp);have hxf:=Fp.1 fl x (by simp);obtain⟨o,H1,bf,rfl,hP1,hF1⟩:=zlk (S:=S) (es:=es) (ih x (by simp)) hxf hxw h4 g2 g3 hm ae p H L first next hb hP hl
   obtain⟨cs,aH,bM⟩:=Re.av_agg hw0;rw[aH]at bf;have hcs':cs=[.int .i64 6,u64 a,u64 b,u64 c,u64 d,.int .i64 mn,.int .i64 mx,bT (Re.avs (x::es))]:=by
    rw[Re.av]at aH;injection aH with h;rw[←h];rfl
   subst hcs';simp[a59,xm,xk,wZ,wU,wS,wQ,wP,wO,wN,wM,tJ,tH,tF,xh,xg,xe,tC,tu,tq,wY,wX,wW,wV,bG hs,bJ hs,dn hs,dm hs,Re.av,bf];exact⟨by simp[Re.bld,Re.bldRepL],by simpa[Re.bld,Re.bldRepL]using hP1,hF1⟩
 have b1:(k==1)=false:=by simpa using e1
 have b2:(k==2)=false:=by simpa using e2
 have b3:(k==3)=false:=by simpa using e3
 have b4:(k==4)=false:=by simpa using e4
 have b5:(k==5)=false:=by simpa using e5
 have b6:(k==6)=false:=by simpa using e6
 simp[a59,xm,xk,wZ,wU,wS,wQ,wP,wO,wN,wM,tJ,tH,tF,xh,xg,xe,tC,tu,tq,wY,wX,wW,wV,bG hs,bJ hs,dn hs,dm hs,Re.av,b1,b2,b3,b4,b5,b6];exact⟨by simp[Re.bld,e1,e2,e3,e4,e5,e6],by simpa[Re.bld,e1,e2,e3,e4,e5,e6]using hP,Front.refl hP.lt⟩
mutual
theorem zfi:∀(r:Re),r.fine->r.wide->Bi S 59 r r.bld
 | .mk k set mn mx l,hf,hw=>zna hf hw (zfh l (by unfold Re.fine at hf;exact hf.2.2) (by unfold Re.wide at hw;exact hw.2.2.2))
theorem zfh:∀(l:List Re),Re.fineL l->Re.wideL l->∀x∈l,Bi S 59 x x.bld
 | [],_,_=>fun x hx=>by cases hx
 |y::l,hf,hw=>fun x hx=>by
  unfold Re.fineL at hf;unfold Re.wideL at hw;rcases il.1 hx with e|h
  ·rw[e];exact zfi y hf.1 hw.1
  ·exact zfh l hf.2 hw.2 x h
end
end
section
variable {S:Sp} {ae:Nat}
theorem zon(w k:Nat):(IntKind.u64.wrap ((((w:Int).fdiv (2^k)%2^IntKind.u64.bits).toNat &&& 1%2^IntKind.u64.bits:Nat):Int)==1)=Nat.testBit w k:=by
 have e1:(w:Int).fdiv (2^k)=((w/2^k:Nat):Int):=by
  rw[Int.fdiv_eq_ediv_of_nonneg _ (by exact_mod_cast jK _)];norm_cast
 have e2:(((w/2^k:Nat):Int)%2^IntKind.u64.bits).toNat &&& 1%2^IntKind.u64.bits=w/2^k%2:=by
  have h1:1%2^IntKind.u64.bits=1:=by decide
  have h2:∀n:Nat,(((n:Int)%2^IntKind.u64.bits)).toNat=n%2^64:=fun n=>by simp only[IntKind.bits];omega
  rw[h1,h2,Nat.and_one_is_mod];omega
 rw[e1,e2,Nat.testBit_eq_decide_div_mod_eq];have h:w/2^k%2=0∨w/2^k%2=1:=by omega
 rcases h with h|h<;>rw[h]<;>decide
theorem zom(w0 w1 w2 w3:Nat)(ch:UInt8)(H:aj):Rn ak S.sp ae 84 [.agg [u64 w0,u64 w1,u64 w2,u64 w3],.int .u8 ch.toNat] H=some (.ret (.bool (hasB [w0,w1,w2,w3] ch)),H):=by
 have hs:=S.mono;refine BJ hs rfl rfl rfl rfl ?_;have hc:ch.toNat<256:=ch.toNat_lt;have hr:(ch.toNat:Int).tmod 64=((ch.toNat%64:Nat):Int):=by
  rw[VB (by omega)];omega
 have hm:min (ch.toNat%64) 64=ch.toNat%64:=by omega
 obtain⟨j,hj⟩:∃j,ch.toNat/64=j:=⟨_,rfl⟩
 have hw:IntKind.u8.wrap ((ch.toNat:Int)/64)=(j:Int):=by
  simp only[IntKind.wrap,IntKind.bits,IntKind.signed];simp;omega
 have hk:j<4:=by omega
 have hg:hasB [w0,w1,w2,w3] ch=Nat.testBit ([w0,w1,w2,w3].getD j 0) (ch.toNat%64):=by rw[hasB,hj]
 have hm':min ((ch.toNat:Int)%64).toNat IntKind.u64.bits=ch.toNat%64:=by simp only[IntKind.bits];omega
 have hn:¬((ch.toNat:Int)%64<0):=by omega
 rw[env84,hg];rcases(by omega:j=0∨j=1∨j=2∨j=3)with rfl|rfl|rfl|rfl;all_goals
  simp[a84,zfL,zfK,bG hs,bJ hs,hw,hr,hm',hn,zon]
theorem zsh(w0 w1 w2 w3:Nat)(ch:UInt8)(H:aj):Rn ak S.sp ae 62 [.agg [u64 w0,u64 w1,u64 w2,u64 w3],.int .u8 ch.toNat] H=some (.ret (.bool (hasB [w0,w1,w2,w3] ch)),H):=by
 have hs:=S.mono;refine BJ hs rfl rfl rfl rfl ?_;rw[env62];simp[a62,zgI,zgH,bG hs,bJ hs,zom]
end
section
variable {S:Sp} {ae:Nat}
def iB(l:List Nat):AV:=match l with
 | []=>.nils
 |a::r=>.slc .own ((a::r).map fun(n:Nat)=>ag n)
def fG(l:List Nat):List AV:=l.map fun(n:Nat)=>ag n
theorem wC(l:List Nat):(fG l).length=l.length:=by simp[fG]
structure RH(H:aj)(eG r fU dO:Nat)(P:List NS)(first:Nat)(s:List UInt8)(seen:List Nat)(round:Nat):Prop where
 pc:eB H eG=some (some [.msl 7 r 0 P.length,ag first])
 rc:eB H r=some (some (cellsOf P))
 wide:F5 P
 run:eB H fU=some (some [.ptr eG 0,.str s,.msl 1 dO 0 seen.length,ag round])
 seen:eB H dO=some (some (fG seen))
 n1:eG≠dO
 n2:r≠dO
 n3:fU≠dO
def vS(k:Nat)(H H':aj):Prop:=H.length<=H'.length∧∀i,i<H.length->i≠k->eB H' i=eB H i
theorem RH.keep{H H':aj}{eG r fU dO:Nat}{P:List NS}{first:Nat}{s:List UInt8}{seen Aa:List Nat}{round:Nat}(h:RH H eG r fU dO P first s seen round)(k:vS dO H H')(hs:eB H' dO=some (some (fG Aa)))(hl:Aa.length=seen.length):
  RH H' eG r fU dO P first s Aa round where
 pc:=(k.2 _ (fA h.pc) h.n1).trans h.pc
 rc:=(k.2 _ (fA h.rc) h.n2).trans h.rc
 wide:=h.wide
 run:=by rw[hl];exact(k.2 _ (fA h.run) h.n3).trans h.run
 seen:=hs
 n1:=h.n1
 n2:=h.n2
 n3:=h.n3
theorem Xz:∀{L:List NS}{n:Nat}{x:NS},F5 L->L[n]?=some x->n*7+7<=(cellsOf L).length∧(List.drop (n*7) (cellsOf L)).take 7=x.cells
 | [],n,x,_,h=>by simp at h
 |y::L,n,x,hw,hx=>by
  have hy:y.cells.length=7:=by simp[NS.cells,hw y (by simp)]
  have hw':F5 L:=fun z hz=>hw z (by simp[hz]);cases n with
  |zero=>
   simp only[pY,aD]at hx;subst hx;simp only[cellsOf,lq,Nat.zero_mul,xI];refine⟨by simp;omega,?_⟩;rw[zby (by omega),ek (by omega)]
  |succ n=>
   obtain⟨i1,i2⟩:=Xz (n:=n) (x:=x) hw' (by simpa using hx);simp only[cellsOf,lq]at i1 i2 ⊢;refine⟨by rw[iF];omega,?_⟩;rw[List.drop_append,show(n+1)*7-y.cells.length=n*7 by omega,List.drop_of_length_le (by omega),gV];exact i2
structure EnSlots(v:Nat->AV)(H:aj)(fU ax wid:Nat)(w l:List Nat):Prop where
 v0:v 0=.ptr fU 0
 v1:v 1=iB l
 v3:v 3=ag ax
 v9:v 9=.msl 1 wid 0 w.length
 row:∃cs,eB H wid=some (some cs)∧w.length<=cs.length∧cs.take w.length=fG w.reverse
theorem zjC{w:List Nat}{n:Nat}{cs:List AV}(hl:(n::w).length<=cs.length)(h:cs.take (n::w).length=fG (n::w).reverse):
  (cs.drop w.length).take 1=[ag n]∧cs.take w.length=fG w.reverse:=by
 simp only[fG,fF,List.reverse_cons,LK,mE,xG]at h hl ⊢;have h1:cs.take w.length=w.reverse.map fun(n:Nat)=>ag n:=by
  have:=dF (List.take w.length) h;rw[List.take_take,Nat.min_eq_left (by omega),zby (by simp)]at this;rw[this,ek (by simp)]
 refine⟨?_,h1⟩;have:=dF (List.drop w.length) h;rw[List.drop_take,show w.length+1-w.length=1 by omega,List.drop_append]at this;rw[this];simp
theorem zm4{l:List Nat}{n a:Nat}(h:l[n]?=some a):n+1<=(fG l).length∧((fG l).drop n).take 1=[ag a]:=by
 have hn:n<l.length:=(eD.1 h).1;have hn':n<(fG l).length:=by rw[wC];exact hn
 refine⟨hn',?_⟩;rw[iJ hn'];have:(fG l)[n]=ag a:=by
  have h2:l[n]=a:=(eD.1 h).2;simp[fG,h2]
 rw[this];rfl
theorem zm3(l:List Nat)(n a:Nat):(fG l).set n (ag a)=fG (l.set n a):=by simp[fG,List.map_set]
theorem zp7{H0:aj}{eG r fU dO:Nat}{P:List NS}{first:Nat}{s:List UInt8}{seen0:List Nat}{round ax:Nat}(hR:RH H0 eG r fU dO P first s seen0 round)(hP:l6 P)(hb:ae<=dO)(jG:ae<=H0.length)(hss:s.length<1000000)(dQ:ax<10000000):
  ∀(f:Nat)(w seen l:List Nat)(v:Nat->AV)(H:aj)(wid:Nat),EnOk P round ⟨w,seen,l⟩->qm round ⟨w,seen,l⟩<=f->f<100000000->EnSlots v H fU ax wid w l->vS dO H0 H->H0.length<=wid->eB H dO=some (some (fG seen))->seen.length=seen0.length->l.length+3*fresh round seen<=1000000->
   Wp (aP ak S.sp ae (.loop a61l15) (az 39614082438300250541364643599 v,H)) (fun e t=>e=.exit 0∧∃v' H',t=(az 39614082438300250541364643599 v',H')∧v' 1=iB (mI P s.length ax round f ⟨w,seen,l⟩).l∧vS dO H0 H'∧eB H' dO=some (some (fG (mI P s.length ax round f ⟨w,seen,l⟩).seen))):=by
 have hs:=S.mono;intro f;have nil:∀(f:Nat)(seen l:List Nat)(v:Nat->AV)(H:aj)(wid:Nat),EnSlots v H fU ax wid [] l->vS dO H0 H->eB H dO=some (some (fG seen))->
   Wp (aP ak S.sp ae (.loop a61l15) (az 39614082438300250541364643599 v,H)) (fun e t=>e=.exit 0∧∃v' H',t=(az 39614082438300250541364643599 v',H')∧v' 1=iB l∧vS dO H0 H'∧eB H' dO=some (some (fG seen))):=by
  intro f seen l v H wid hv hk hsn;have v9:=hv.v9;rw[lZ hs a61l15.eq_1];simp[bG hs,bJ hs,dn hs,dm hs,yY,v9];exact⟨_,_,⟨rfl,rfl⟩,by simpa using hv.v1,hk,hsn⟩
 induction f with
 |zero=>
  intro w seen l v H wid ho hf _ hv hk hw hsn hln _;have:w=[]:=mi (by simp only[qm]at hf;omega);subst this;exact nil 0 seen l v H wid hv hk hsn
 |succ f ih=>
  intro w seen l v H wid ho hf hf2 hv hk hw hsn hln ja;cases w with
  |nil=>exact nil (f+1) seen l v H wid hv hk hsn
  |cons n w=>
   obtain⟨ho',jN⟩:=Ro (len:=s.length) (ax:=ax) hP ho;have xZ:=zeK (len:=s.length) (ax:=ax) ho;have hlen0:l.length<=1000000:=by omega
   have gZ:=hR.keep hk hsn hln;obtain⟨pc,rc,wide,run,sn,n1,n2,n3⟩:=gZ;obtain⟨v0,v1,v3,v9,cs,c1,c2,c3⟩:=hv;obtain⟨t1,t2⟩:=zjC c2 c3;simp only[fF]at c2 v9;have hwl:w.length+1<=100000000:=by simp only[qm,fF]at hf;omega
   have lH:(0:Int)<(w.length:Int)+1:=by omega
   have aT:IntKind.i64.wrap (w.length:Int)=w.length:=aM _ (by omega);have hnP:n<P.length:=ho.wb n (by simp);have hns:n<seen.length:=by have:=ho.len;simp only at this;omega
   obtain⟨a,ha⟩:∃a,seen[n]?=some a:=⟨seen[n],gG hns⟩
   obtain⟨s1,s2⟩:=zm4 ha;obtain⟨x,hx⟩:∃x,P[n]?=some x:=⟨P[n],gG hnP⟩
   obtain⟨k1,k2⟩:=Xz wide hx;have hwlen:wid<H.length:=fA c1;have xW:dO<H.length:=fA sn;have hsid:dO<H0.length:=fA hR.seen;have hrid:fU<H0.length:=fA hR.run;have hpid:eG<H0.length:=fA hR.pc;have hr0:r<H0.length:=fA hR.rc;have q1:wid≠dO:=by omega
   have q2:dO≠wid:=by omega
   have n1':dO≠eG:=vT n1;have n2':dO≠r:=vT n2;have n3':dO≠fU:=vT n3;have jf:ae<=wid:=by omega
   have sl:seen.length=seen0.length:=hln;rw[wC]at s1;by_cases hse:seen[n]?=some round
   ·have ea:a=round:=by rw[ha]at hse;exact Bl hse
    subst ea;have hu:iC P s.length ax a n w seen l=⟨w,seen,l⟩:=by simp[iC,hse]
    rw[hu]at ho' jN xZ;have hr2:mI P s.length ax a (f+1) ⟨n::w,seen,l⟩=mI P s.length ax a f ⟨w,seen,l⟩:=by
     show mI P s.length ax a f (iC P s.length ax a n w seen l)=_;rw[hu]
    rw[hr2,lZ hs a61l15.eq_1];simp[bG hs,bJ hs,lm hs,dn hs,dm hs,yY,AY,AX,AZ,v9,v0,lH,aT,c1,c2,t1,run,sn,s1,s2,hns,wC];refine(ih w seen l _ H wid ho' (by omega) (by omega) ⟨?_,?_,?_,?_,cs,c1,by omega,t2⟩ hk hw hsn hln ja)
    ·simp[v0]
    ·simp[v1]
    ·simp[v3]
    ·simp
   ·have hse':¬a=round:=fun e=>hse (by rw[ha,e]);have hse2:((a:Int)==(round:Int))=false:=by simp;omega
    have hr2:mI P s.length ax round (f+1) ⟨n::w,seen,l⟩=mI P s.length ax round f (iC P s.length ax round n w seen l):=rfl;have cK:(fG seen).set n (ag round)=fG (seen.set n round):=zm3 seen n round;have hkeep1:∀x,vS dO H0 (H.set dO x):=fun x=>⟨by simpa using hk.1,fun i hi aR=>(kU x (vT aR)).trans (hk.2 i hi aR)⟩
    have hkeep2:∀x y,vS dO H0 ((H.set dO x).set wid none ++[y]):=fun x y=>⟨by have:=hk.1;simp;omega,fun i hi aR=>by
     rw[l9 _ (by have:=hk.1;simp;omega),kU _ (by omega),kU _ (vT aR)];exact hk.2 i hi aR⟩
    have hsid1:eB (H.set dO (some (fG (seen.set n round)))) dO=some (some (fG (seen.set n round))):=dB _ xW;have hsid2:∀y,eB ((H.set dO (some (fG (seen.set n round)))).set wid none ++[y]) dO=some (some (fG (seen.set n round))):=fun y=>by
     rw[l9 _ (by simpa using xW),kU _ q1,dB _ xW]
    have hwid2:∀y,eB ((H.set dO (some (fG (seen.set n round)))).set wid none ++[y]) H.length=some y:=fun y=>Rb _ _ _ (by simp);have hr7:n*7+7<=(cellsOf P).length:=k1;obtain⟨op,set,next,two⟩:=x;obtain⟨a1,b1,c1',d1,rfl⟩:=four (wide _ (jm hx));simp only[NS.cells,mE,xG,kg,gV]at k2;have hnn:fG w.reverse=(fG w).reverse:=by simp[fG]
    rw[hr2,lZ hs a61l15.eq_1];have c2w:w.length<=cs.length:=by omega
    have hwl2:w.length+2<=4294967296:=by omega
    have hwl1:w.length+1<=4294967296:=by omega
    by_cases o3:op=3
    ·subst o3;have hu:iC P s.length ax round n w seen l=⟨next::two::w,seen.set n round,l⟩:=by simp[iC,hse,hx]
     rw[hu]at ho' jN xZ ⊢;simp[bG hs,bJ hs,lm hs,dn hs,dm hs,a61,y9,yZ,yY,AY,AX,AZ,CY,CR,CQ,CP,CX,CW,CV,CU,CS,uF,v9,v0,lH,aT,c1,c2,t1,run,sn,s1,s2,hns,wC,hse2,pc,rc,k1,k2,hnP,hb,cK,kU,dB,n1',n2',n3',jf,q2,xW,t2,c2w,v3,hwl2];refine ih (next::two::w) _ l _ _ H.length ho' (by omega) (by omega) ⟨?_,?_,?_,?_,_,hwid2 _,by simp[fG],by rw[ek (by simp[fG])];simp[fG]⟩ (hkeep2 _ _) hk.1 (hsid2 _) (by simpa using sl) (fT xZ ja)
     ·simp[v0]
     ·simp[v1]
     ·simp[v3]
     ·simp
    by_cases ob:op=1∧ax=0
    ·obtain⟨rfl,rfl⟩:=ob;have hu:iC P s.length 0 round n w seen l=⟨next::w,seen.set n round,l⟩:=by simp[iC,hse,hx]
     rw[hu]at ho' jN xZ ⊢;simp[bG hs,bJ hs,lm hs,dn hs,dm hs,a61,y9,yZ,yY,AY,AX,AZ,CY,CR,CQ,CP,CX,CW,CV,CU,CS,uF,v9,v0,lH,aT,c1,c2,t1,run,sn,s1,s2,hns,wC,hse2,pc,rc,k1,k2,hnP,hb,cK,kU,dB,n1',n2',n3',jf,q2,xW,t2,c2w,v3,hwl1];refine ih (next::w) _ l _ _ H.length ho' (by omega) (by omega) ⟨?_,?_,?_,?_,_,hwid2 _,by simp[fG],by rw[ek (by simp[fG])];simp[fG]⟩ (hkeep2 _ _) hk.1 (hsid2 _) (by simpa using sl) (fT xZ ja)
     ·simp[v0]
     ·simp[v1]
     ·simp[v3]
     ·simp
    by_cases oe:op=2∧ax=s.length
    ·obtain⟨rfl,rfl⟩:=oe;have hu:iC P s.length s.length round n w seen l=⟨next::w,seen.set n round,l⟩:=by simp[iC,hse,hx]
     rw[hu]at ho' jN xZ ⊢;simp[bG hs,bJ hs,lm hs,dn hs,dm hs,a61,y9,yZ,yY,AY,AX,AZ,CY,CR,CQ,CP,CX,CW,CV,CU,CS,uF,v9,v0,lH,aT,c1,c2,t1,run,sn,s1,s2,hns,wC,hse2,pc,rc,k1,k2,hnP,hb,cK,kU,dB,n1',n2',n3',jf,q2,xW,t2,c2w,v3,hwl1];refine ih (next::w) _ l _ _ H.length ho' (by omega) (by omega) ⟨?_,?_,?_,?_,_,hwid2 _,by simp[fG],by rw[ek (by simp[fG])];simp[fG]⟩ (hkeep2 _ _) hk.1 (hsid2 _) (by simpa using sl) (fT xZ ja)
     ·simp[v0]
     ·simp[v1]
     ·simp[v3]
     ·simp
    have hkeepw:eB (H.set dO (some (fG (seen.set n round)))) wid=some (some cs):=by rw[kU _ q2];exact c1
    by_cases o0:op=0∨op=4
    ·have hu:iC P s.length ax round n w seen l=⟨w,seen.set n round,l ++[n]⟩:=by simp[iC,hse,hx,o0,o3,ob,oe]
     rw[hu]at ho' jN xZ ⊢;have hlen4:l.length+1<=4294967296:=by omega
     have eH:∀(v':Nat->AV),v' 0=.ptr fU 0->v' 1=iB (l ++[n])->v' 3=ag ax->v' 9=.msl 1 wid 0 w.length->
       Wp (aP ak S.sp ae (.loop a61l15) (az 39614082438300250541364643599 v',H.set dO (some (fG (seen.set n round))))) (fun e t=>e=.exit 0∧∃v' H',t=(az 39614082438300250541364643599 v',H')∧v' 1=iB (mI P s.length ax round f ⟨w,seen.set n round,l ++[n]⟩).l∧vS dO H0 H'∧eB H' dO=some (some (fG (mI P s.length ax round f ⟨w,seen.set n round,l ++[n]⟩).seen))):=fun v' g0 g1 g3 g9=>
      ih w _ (l ++[n]) v' _ wid ho' (by omega) (by omega) ⟨g0,g1,g3,g9,cs,hkeepw,c2w,t2⟩ (hkeep1 _) hw hsid1 (by simpa using sl) (fT xZ ja)
     rcases o0 with rfl|rfl;all_goals
      cases l with
      |nil=>
       simp[bG hs,bJ hs,lm hs,dn hs,dm hs,a61,y9,yZ,yY,AY,AX,AZ,CY,CR,CQ,CP,CX,CW,CV,CU,CS,uF,v9,v0,lH,aT,c1,c2,t1,run,sn,s1,s2,hns,wC,hse2,pc,rc,k1,k2,hnP,hb,cK,kU,dB,n1',n2',n3',jf,q2,xW,t2,c2w,v3,v1,iB];refine eH _ ?_ ?_ ?_ ?_
       ·simp[v0]
       ·simp[iB]
       ·simp[v3]
       ·simp
      |cons b l=>
       simp only[fF]at hlen4;simp[bG hs,bJ hs,lm hs,dn hs,dm hs,a61,y9,yZ,yY,AY,AX,AZ,CY,CR,CQ,CP,CX,CW,CV,CU,CS,uF,v9,v0,lH,aT,c1,c2,t1,run,sn,s1,s2,hns,wC,hse2,pc,rc,k1,k2,hnP,hb,cK,kU,dB,n1',n2',n3',jf,q2,xW,t2,c2w,v3,v1,iB,hlen4];refine eH _ ?_ ?_ ?_ ?_
       ·simp[v0]
       ·simp[iB]
       ·simp[v3]
       ·simp
    have hu:iC P s.length ax round n w seen l=⟨w,seen.set n round,l⟩:=by simp[iC,hse,hx,o0,o3,ob,oe]
    rw[hu]at ho' jN xZ ⊢;have eH:∀(v':Nat->AV),v' 0=.ptr fU 0->v' 1=iB l->v' 3=ag ax->v' 9=.msl 1 wid 0 w.length->
      Wp (aP ak S.sp ae (.loop a61l15) (az 39614082438300250541364643599 v',H.set dO (some (fG (seen.set n round))))) (fun e t=>e=.exit 0∧∃v' H',t=(az 39614082438300250541364643599 v',H')∧v' 1=iB (mI P s.length ax round f ⟨w,seen.set n round,l⟩).l∧vS dO H0 H'∧eB H' dO=some (some (fG (mI P s.length ax round f ⟨w,seen.set n round,l⟩).seen))):=fun v' g0 g1 g3 g9=>
     ih w _ l v' _ wid ho' (by omega) (by omega) ⟨g0,g1,g3,g9,cs,hkeepw,c2w,t2⟩ (hkeep1 _) hw hsid1 (by simpa using sl) (fT xZ ja)
    by_cases o1:op=1
    ·subst o1;have hat0:¬ax=0:=fun e=>ob ⟨rfl,e⟩;have lI:((ax:Int)==0)=false:=by simp;omega
     simp[bG hs,bJ hs,lm hs,dn hs,dm hs,a61,y9,yZ,yY,AY,AX,AZ,CY,CR,CQ,CP,CX,CW,CV,CU,CS,uF,v9,v0,lH,aT,c1,c2,t1,run,sn,s1,s2,hns,wC,hse2,pc,rc,k1,k2,hnP,hb,cK,kU,dB,n1',n2',n3',jf,q2,xW,t2,c2w,v3,lI];refine eH _ ?_ ?_ ?_ ?_
     ·simp[v0]
     ·simp[v1]
     ·simp[v3]
     ·simp
    by_cases o2:op=2
    ·subst o2;have lI:((ax:Int)==(s.length:Int))=false:=by
      have:¬ax=s.length:=fun e=>oe ⟨rfl,e⟩;simp;omega
     simp[bG hs,bJ hs,lm hs,dn hs,dm hs,a61,y9,yZ,yY,AY,AX,AZ,CY,CR,CQ,CP,CX,CW,CV,CU,CS,uF,v9,v0,lH,aT,c1,c2,t1,run,sn,s1,s2,hns,wC,hse2,pc,rc,k1,k2,hnP,hb,cK,kU,dB,n1',n2',n3',jf,q2,xW,t2,c2w,v3,lI];refine eH _ ?_ ?_ ?_ ?_
     ·simp[v0]
     ·simp[v1]
     ·simp[v3]
     ·simp
    have b0:((op:Int)==0)=false:=by simp;omega
    have b1:((op:Int)==1)=false:=by simp;omega
    have b2:((op:Int)==2)=false:=by simp;omega
    have b3:((op:Int)==3)=false:=by simp;omega
    have b4:((op:Int)==4)=false:=by simp;omega
    simp[bG hs,bJ hs,lm hs,dn hs,dm hs,a61,y9,yZ,yY,AY,AX,AZ,CY,CR,CQ,CP,CX,CW,CV,CU,CS,uF,v9,v0,lH,aT,c1,c2,t1,run,sn,s1,s2,hns,wC,hse2,pc,rc,k1,k2,hnP,hb,cK,kU,dB,n1',n2',n3',jf,q2,xW,t2,c2w,v3,b0,b1,b2,b3,b4];refine eH _ ?_ ?_ ?_ ?_
    ·simp[v0]
    ·simp[v1]
    ·simp[v3]
    ·simp
theorem zeH{H:aj}{eG r fU dO:Nat}{P:List NS}{first:Nat}{s:List UInt8}{seen l:List Nat}{round ax n:Nat}(hR:RH H eG r fU dO P first s seen round)(hP:l6 P)(hb:ae<=dO)(hss:s.length<1000000)(dQ:ax<10000000)
  (qd:Rnd P round seen l) (hn:n<P.length) (ja:l.length+3*fresh round seen<=1000000) (hPl:P.length<1000000) :
  Wc (Rn ak S.sp ae 61 [.ptr fU 0,iB l,ag n,ag ax] H) (fun o H'=>o=.ret (iB (enter P s.length ax round n seen l).2)∧vS dO H H'∧RH H' eG r fU dO P first s (enter P s.length ax round n seen l).1 round):=by
 have hs:=S.mono;refine zL hs rfl rfl rfl ?_;have hsl:=fA hR.seen;have dU:=fA hR.run;have bF:=qd.en hn;have hl0:seen.length=P.length:=qd.len;have qg:∀(v:Nat->AV),v 0=.ptr fU 0->v 1=iB l->v 3=ag ax->v 9=.msl 1 H.length 0 1->
   Wp (aP ak S.sp ae (.loop a61l15) (az 39614082438300250541364643599 v,H ++[some [ag n]])) (fun e t=>e=.exit 0∧∃v' H',t=(az 39614082438300250541364643599 v',H')∧v' 1=iB (enter P s.length ax round n seen l).2∧vS dO H H'∧eB H' dO=some (some (fG (enter P s.length ax round n seen l).1))):=fun v g0 g1 g3 g9=>
  zp7 hR hP hb (by omega) hss dQ (3*seen.length+1) [n] seen l v _ H.length bF (by have:=MZ round seen;simp only[qm,fF,gW];omega) (by omega) ⟨g0,g1,g3,g9,_,rR _ _,by simp,by simp[fG]⟩
   ⟨by simp,fun i hi _=>l9 _ hi⟩ (aX _) (by rw[l9 _ hsl];exact hR.seen) rfl ja
 have xX:∀H',vS dO H H'->eB H' dO=some (some (fG (enter P s.length ax round n seen l).1))->RH H' eG r fU dO P first s (enter P s.length ax round n seen l).1 round:=fun H' k h=>
  hR.keep k h (by have:=(JR (len:=s.length) (ax:=ax) hP qd hn).len;omega)
 rw[env61];generalize enter P s.length ax round n seen l=z at qg xX;cases l with
 |nil=>
  simp[y9,yZ,a61,bG hs,bJ hs,dn hs,iB];refine(qg _ ?_ ?_ ?_ ?_).mono fun e t h=>?_
  ·simp
  ·simp[iB]
  ·simp
  ·simp
  ·obtain⟨rfl,v',H',rfl,h1,h2,h3⟩:=h;obtain⟨z1,z2⟩:=z;cases z2 with
   |nil=>
    simp[uF,bG hs,bJ hs,h1,iB];exact⟨h2,xX H' h2 h3⟩
   |cons y z2=>
    simp[uF,bG hs,bJ hs,h1,iB];exact⟨h2,xX H' h2 h3⟩
 |cons b l=>
  simp[y9,yZ,a61,bG hs,bJ hs,dn hs,iB];refine(qg _ ?_ ?_ ?_ ?_).mono fun e t h=>?_
  ·simp
  ·simp[iB]
  ·simp
  ·simp
  ·obtain⟨rfl,v',H',rfl,h1,h2,h3⟩:=h;obtain⟨z1,z2⟩:=z;cases z2 with
   |nil=>
    simp[uF,bG hs,bJ hs,h1,iB];exact⟨h2,xX H' h2 h3⟩
   |cons y z2=>
    simp[uF,bG hs,bJ hs,h1,iB];exact⟨h2,xX H' h2 h3⟩
end
section
variable {S:Sp} {ae:Nat}
structure Teller(S:Sp)(ae fid:Nat)(cap:List AV)(ids:List Nat)(dO:Nat)(T:List Nat->aj->Prop):Prop where
 call:∀(H:aj)(fZ:List Nat)(ax:Nat),T fZ H->(∀i∈ids,i<H.length)->fZ.length<4000000000->ax<10000000->
  ∃H',Rn ak S.sp ae fid (ag ax::cap) H=some (.ret (.tup []),H')∧T (fZ ++[ax]) H'∧H.length<=H'.length∧∀i∈ids,eB H' i=eB H i
 keep:∀(H H':aj)(fZ:List Nat),T fZ H->vS dO H H'->T fZ H'
theorem RH.keepIds{H H':aj}{eG r fU dO:Nat}{P:List NS}{first:Nat}{s:List UInt8}{seen:List Nat}{round:Nat}(h:RH H eG r fU dO P first s seen round)(k:∀i ∈ [eG,r,fU,dO],eB H' i=eB H i):
  RH H' eG r fU dO P first s seen round where
 pc:=(k _ (by simp)).trans h.pc
 rc:=(k _ (by simp)).trans h.rc
 wide:=h.wide
 run:=(k _ (by simp)).trans h.run
 seen:=(k _ (by simp)).trans h.seen
 n1:=h.n1
 n2:=h.n2
 n3:=h.n3
theorem RH.ids{H:aj}{eG r fU dO:Nat}{P:List NS}{first:Nat}{s:List UInt8}{seen:List Nat}{round:Nat}(h:RH H eG r fU dO P first s seen round):∀i ∈ [eG,r,fU,dO],i<H.length:=by
 intro i hi;simp only[il,List.not_mem_nil,or_false]at hi;rcases hi with rfl|rfl|rfl|rfl
 ·exact fA h.pc
 ·exact fA h.rc
 ·exact fA h.run
 ·exact fA h.seen
section
variable {fid:Nat} {cap:List AV} {eG r fU dO:Nat} {T:List Nat->aj->Prop} {P:List NS} {first:Nat} {s:List UInt8}
theorem zoa(hT:Teller S ae fid cap [eG,r,fU,dO] dO T)(hP:l6 P)(hb:ae<=dO)(hss:s.length<1000000)(hPl:P.length<1000){ax round:Nat}(dQ:ax<9000000){gu:List Nat}(hops:∀q∈gu,∃x,P[q]?=some x∧(x.op=0∨x.op=4))(kw:gu.length<1000000):
  ∀(aY:List Nat)(i:Nat)(v:Nat->AV)(H:aj)(seen l fZ:List Nat),i<=gu.length->gu.drop i=aY->v 0=.ptr eG 0->v 1=.str s->v 2=ag ax->v 3=.fn fid cap->v 8=.ptr fU 0->v 51=.slc .ro (fG gu)->v 52=ag gu.length->v 53=ag i->v 10=iB l->
   RH H eG r fU dO P first s seen round->Rnd P round seen l->l.length+3*fresh round seen<=1000000->T fZ H->fZ.length+aY.length<4000000000->
   Wp (aP ak S.sp ae (.loop a37l15) (az 2379663764704762803983 v,H)) (fun e t=>e=.exit 2∧∃v' H',t=(az 2379663764704762803983 v',H')∧v' 0=.ptr eG 0∧v' 1=.str s∧v' 2=ag ax∧v' 3=.fn fid cap∧v' 8=.ptr fU 0∧v' 10=iB (eP P s ax round aY seen l).2∧
    RH H' eG r fU dO P first s (eP P s ax round aY seen l).1 round∧T (fZ++kE P ax aY) H'∧(eP P s ax round aY seen l).2.length+3*fresh round (eP P s ax round aY seen l).1<=1000000):=by
 have hs:=S.mono;intro aY;induction aY with
 |nil=>
  intro i v H seen l fZ hi hd v0 v1 v2 v3 v8 v51 v52 v53 fP hR qd ja hTo hol;have aK:i=gu.length:=by
   have:=dF List.length hd;rw[kZ]at this;simp at this;omega
  subst aK;rw[lZ hs a37l15.eq_1];simp[bG hs,bJ hs,dn hs,dm hs,A7,v52,v53];exact⟨_,_,⟨rfl,rfl⟩,by simpa using v0,by simpa using v1,by simpa using v2,by simpa using v3,by simpa using v8,by simpa[eP]using fP,by simpa[eP]using hR,by simpa[kE]using hTo,by simpa[eP]using ja⟩
 |cons n aY ih=>
  intro i v H seen l fZ hi hd v0 v1 v2 v3 v8 v51 v52 v53 fP hR qd ja hTo hol;have aK:i<gu.length:=by
   have:=dF List.length hd;rw[kZ]at this;simp at this;omega
  have jE:=iJ aK;rw[hd]at jE;obtain⟨hn,hd'⟩:=zQ jE;have hni:gu[i]?=some n:=by rw[gG aK,hn]
  have hnum:(fG gu)[i]?=some (ag n):=by simp[fG,hni]
  obtain⟨x,hx,hox⟩:=hops n (jm hni);obtain⟨k1,k2⟩:=Xz hR.wide hx;have hnP:n<P.length:=(eD.1 hx).1;have aT:IntKind.i64.wrap ((i:Int)+1)=(i:Int)+1:=aM _ (by omega);have bY:IntKind.i64.wrap ((ax:Int)+1)=(ax:Int)+1:=aM _ (by omega);have hnx:=(hP x (jm hx)).1;have pc:=hR.pc;have rc:=hR.rc;have eH:∀(v':Nat->AV)(H':aj)(Aa l' outs':List Nat),v' 0=.ptr eG 0->v' 1=.str s->v' 2=ag ax->v' 3=.fn fid cap->v' 8=.ptr fU 0->v' 51=.slc .ro (fG gu)->v' 52=ag gu.length->v' 53=ag (i+1)->v' 10=iB l'->
    RH H' eG r fU dO P first s Aa round->Rnd P round Aa l'->l'.length+3*fresh round Aa<=1000000->T outs' H'->outs'.length+aY.length<4000000000->eP P s ax round (n::aY) seen l=eP P s ax round aY Aa l'->fZ++kE P ax (n::aY)=outs'++kE P ax aY->
    Wp (aP ak S.sp ae (.loop a37l15) (az 2379663764704762803983 v',H')) (fun e t=>e=.exit 2∧∃v' H',t=(az 2379663764704762803983 v',H')∧v' 0=.ptr eG 0∧v' 1=.str s∧v' 2=ag ax∧v' 3=.fn fid cap∧v' 8=.ptr fU 0∧v' 10=iB (eP P s ax round (n::aY) seen l).2∧
     RH H' eG r fU dO P first s (eP P s ax round (n::aY) seen l).1 round∧T (fZ++kE P ax (n::aY)) H'∧(eP P s ax round (n::aY) seen l).2.length+3*fresh round (eP P s ax round (n::aY) seen l).1<=1000000):=by
   intro v' H' Aa l' outs' w0 w1 w2 w3 w8 w51 w52 w53 w10 wR wrnd wlim wT wol e1 e2;rw[e1,e2];exact ih (i+1) v' H' Aa l' outs' aK hd'.symm w0 w1 w2 w3 w8 w51 w52 w53 w10 wR wrnd wlim wT wol
  simp only[fF]at hol;obtain⟨op,set,next,two⟩:=x;obtain⟨a1,b1,c1,d1,rfl⟩:=four (hR.wide _ (jm hx));simp only[NS.cells,mE,xG,kg,gV]at k2;simp only at hox hnx;rw[lZ hs a37l15.eq_1];by_cases o4:op=4
  ·subst o4;obtain⟨H1,bf,t1,t2,t3⟩:=hT.call H fZ ax hTo hR.ids (by omega) (by omega);have en:eP P s ax round (n::aY) seen l=eP P s ax round aY seen l:=by
    rw[eP,hx];cases hc:s[ax]? <;> simp
   have et:kE P ax (n::aY)=ax::kE P ax aY:=by rw[kE,hx];simp
   simp[bG hs,bJ hs,lm hs,dn hs,dm hs,A7,C8,CZ,Dc,Db,De,Da,C9,v0,v1,v2,v3,v51,v52,v53,aK,hnum,pc,rc,hnP,k1,k2,bf,aT];refine eH _ H1 seen l (fZ ++[ax]) ?_ ?_ ?_ ?_ ?_ ?_ ?_ ?_ ?_ (hR.keepIds t3) qd ja t1 (by simp;omega) en (by rw[et];simp)
   ·simp[v0]
   ·simp[v1]
   ·simp[v2]
   ·simp[v3]
   ·simp[v8]
   ·simp[v51]
   ·simp[v52]
   ·simp
   ·simp[fP]
  ·have b4:((op:Int)==4)=false:=by simp;omega
   have et:kE P ax (n::aY)=kE P ax aY:=by rw[kE,hx];simp[o4]
   cases hc:s[ax]? with
   |none=>
    have aB:¬ax<s.length:=fun h=>by rw[gG h]at hc;cases hc
    have cu:s.length<=ax:=by omega
    have en:eP P s ax round (n::aY) seen l=eP P s ax round aY seen l:=by rw[eP,hx,hc]
    simp[bG hs,bJ hs,lm hs,dn hs,dm hs,A7,C8,CZ,Dc,Db,De,Da,C9,v0,v1,v2,v3,v51,v52,v53,aK,hnum,pc,rc,hnP,k1,k2,aT,b4,aB,cu];refine eH _ H seen l fZ ?_ ?_ ?_ ?_ ?_ ?_ ?_ ?_ ?_ hR qd ja hTo (by omega) en (by rw[et])
    ·simp[v0]
    ·simp[v1]
    ·simp[v2]
    ·simp[v3]
    ·simp[v8]
    ·simp[v51]
    ·simp[v52]
    ·simp
    ·simp[fP]
   |some c=>
    have aB:ax<s.length:=(eD.1 hc).1;have hHas:=zsh (S:=S) (ae:=ae) a1 b1 c1 d1 c H;cases hh:hasB [a1,b1,c1,d1] c with
    |false=>
     rw[hh]at hHas;have en:eP P s ax round (n::aY) seen l=eP P s ax round aY seen l:=by rw[eP,hx,hc];simp[hh]
     simp[bG hs,bJ hs,lm hs,dn hs,dm hs,A7,C8,CZ,Dc,Db,De,Da,C9,v0,v1,v2,v3,v51,v52,v53,aK,hnum,pc,rc,hnP,k1,k2,aT,b4,aB,hc,hHas];refine eH _ H seen l fZ ?_ ?_ ?_ ?_ ?_ ?_ ?_ ?_ ?_ hR qd ja hTo (by omega) en (by rw[et])
     ·simp[v0]
     ·simp[v1]
     ·simp[v2]
     ·simp[v3]
     ·simp[v8]
     ·simp[v51]
     ·simp[v52]
     ·simp
     ·simp[fP]
    |true=>
     rw[hh]at hHas;have en:eP P s ax round (n::aY) seen l=eP P s ax round aY (enter P s.length (ax+1) round next seen l).1 (enter P s.length (ax+1) round next seen l).2:=by rw[eP,hx,hc];simp[hh,o4]
     obtain⟨o,H1,bf,rfl,e1,e2⟩:=zeH (S:=S) (ae:=ae) (ax:=ax+1) (n:=next) hR hP hb hss (by omega) qd hnx ja (by omega);have e3:=JR (len:=s.length) (ax:=ax+1) hP qd hnx;have e4:(enter P s.length (ax+1) round next seen l).2.length+3*fresh round (enter P s.length (ax+1) round next seen l).1<=1000000:=
      fT (Xh (len:=s.length) (ax:=ax+1) hP (3*seen.length+1) _ (qd.en hnx)) ja
     have hT1:=hT.keep _ _ _ hTo e1;rw[en];rw[en]at eH;generalize enter P s.length (ax+1) round next seen l=z at bf e1 e2 e3 e4 eH
     obtain⟨z1,z2⟩:=z;simp only at bf e1 e2 e3 e4 eH;have hcast:((ax+1:Nat):Int)=(ax:Int)+1:=by omega
     rw[ag,ag,hcast]at bf;cases l with
     |nil=>
      cases z2 with
      |nil=>
       simp only[iB]at bf fP;simp[bG hs,bJ hs,lm hs,dn hs,dm hs,A7,C8,CZ,Dc,Db,De,Da,C9,v0,v1,v2,v3,v51,v52,v53,aK,hnum,pc,rc,hnP,k1,k2,aT,b4,aB,hc,hHas,v8,fP,bf,bY];refine eH _ H1 z1 [] fZ ?_ ?_ ?_ ?_ ?_ ?_ ?_ ?_ ?_ e2 e3 e4 hT1 (by omega) rfl (by rw[et]);all_goals simp[v0,v1,v2,v3,v8,v51,v52,iB]
      |cons y z2=>
       simp only[iB]at bf fP;simp[bG hs,bJ hs,lm hs,dn hs,dm hs,A7,C8,CZ,Dc,Db,De,Da,C9,v0,v1,v2,v3,v51,v52,v53,aK,hnum,pc,rc,hnP,k1,k2,aT,b4,aB,hc,hHas,v8,fP,bf,bY];refine eH _ H1 z1 (y::z2) fZ ?_ ?_ ?_ ?_ ?_ ?_ ?_ ?_ ?_ e2 e3 e4 hT1 (by omega) rfl (by rw[et]);all_goals simp[v0,v1,v2,v3,v8,v51,v52,iB]
     |cons b l=>
      cases z2 with
      |nil=>
       simp only[iB]at bf fP;simp[bG hs,bJ hs,lm hs,dn hs,dm hs,A7,C8,CZ,Dc,Db,De,Da,C9,v0,v1,v2,v3,v51,v52,v53,aK,hnum,pc,rc,hnP,k1,k2,aT,b4,aB,hc,hHas,v8,fP,bf,bY];simp at bf;simp[bG hs,bJ hs,lm hs,dn hs,dm hs,A7,C8,CZ,Dc,Db,De,Da,C9,v0,v1,v2,v3,v51,v52,v53,aK,hnum,pc,rc,hnP,k1,k2,aT,b4,aB,hc,hHas,v8,fP,bf,bY];refine eH _ H1 z1 [] fZ ?_ ?_ ?_ ?_ ?_ ?_ ?_ ?_ ?_ e2 e3 e4 hT1 (by omega) rfl (by rw[et]);all_goals simp[v0,v1,v2,v3,v8,v51,v52,iB]
      |cons y z2=>
       simp only[iB]at bf fP;simp at bf;simp[bG hs,bJ hs,lm hs,dn hs,dm hs,A7,C8,CZ,Dc,Db,De,Da,C9,v0,v1,v2,v3,v51,v52,v53,aK,hnum,pc,rc,hnP,k1,k2,aT,b4,aB,hc,hHas,v8,fP,bf,bY];refine eH _ H1 z1 (y::z2) fZ ?_ ?_ ?_ ?_ ?_ ?_ ?_ ?_ ?_ e2 e3 e4 hT1 (by omega) rfl (by rw[et]);all_goals simp[v0,v1,v2,v3,v8,v51,v52,iB]
end
end
section
variable {S:Sp} {ae:Nat}
def rowP(p:Perm)(l:List Nat):AV:=match l with
 | []=>.nils
 |a::r=>.slc p (fG (a::r))
section
variable {fid:Nat} {cap:List AV} {eG r fU dO:Nat} {T:List Nat->aj->Prop} {P:List NS} {first:Nat} {s:List UInt8}
theorem RH.up{H:aj}{seen:List Nat}{round round':Nat}(h:RH H eG r fU dO P first s seen round)(hp:eG≠fU)(hr:r≠fU):RH (H.set fU (some [.ptr eG 0,.str s,.msl 1 dO 0 seen.length,ag round'])) eG r fU dO P first s seen round' where
 pc:=by rw[kU _ (vT hp)];exact h.pc
 rc:=by rw[kU _ (vT hr)];exact h.rc
 wide:=h.wide
 run:=dB _ (fA h.run)
 seen:=by rw[kU _ h.n3];exact h.seen
 n1:=h.n1
 n2:=h.n2
 n3:=h.n3
theorem zbW(P:List NS)(i:Nat):∀(l:List Nat),(kE P i l).length<=l.length
 | []=>by simp[kE]
 |n::l=>by
  have:=zbW P i l;unfold kE;split
  ·split
   ·simp only[fF];omega
   ·simp only[fF];omega
  ·simp only[fF];omega
theorem zm9(n:Nat)(l:List Nat)(hd:l.Nodup)(h:∀q∈l,q<n):l.length<=n:=by
 have:=List.Nodup.length_le_of_subset hd (l₂:=List.range n) fun q hq=>EK.2 (h q hq);simpa using this
theorem zmc(hT:Teller S ae fid cap [eG,r,fU,dO] dO T)(hTr:∀fZ H x,T fZ H->T fZ (H.set fU x))(hP:l6 P)(hb:ae<=dO)(gL:ae<=fU)(hpr:eG≠fU)(hrr:r≠fU)(hss:s.length<1000000)(hPl:P.length<1000):
  ∀(f ax round:Nat)(p:Perm)(v:Nat->AV)(H:aj)(seen gu fZ:List Nat),(p=.own∨p=.ro)->s.length+2<=f+ax->ax<=s.length+1->(s.length<ax->gu=[])->round<=ax+1->v 0=.ptr eG 0->v 1=.str s->v 2=ag ax->v 3=.fn fid cap->v 8=.ptr fU 0->v 9=rowP p gu->
   RH H eG r fU dO P first s seen round->Rnd P round seen gu->gu.length+3*fresh round seen<=1000000->gu.length<3000->T fZ H->fZ.length+f*3000<4000000000->
   Wp (aP ak S.sp ae (.loop a37l18) (az 2379663764704762803983 v,H)) (fun e t=>e=.exit 0∧∃v' H',t=(az 2379663764704762803983 v',H')∧T (fZ++qH P s f ax round seen gu) H'):=by
 have hs:=S.mono;have nil:∀(f ax round:Nat)(p:Perm)(v:Nat->AV)(H:aj)(seen fZ:List Nat),v 9=rowP p []->T fZ H->
   Wp (aP ak S.sp ae (.loop a37l18) (az 2379663764704762803983 v,H)) (fun e t=>e=.exit 0∧∃v' H',t=(az 2379663764704762803983 v',H')∧T (fZ++qH P s f ax round seen []) H'):=by
  intro f ax round p v H seen fZ v9 hTo;have er:qH P s f ax round seen []=[]:=by cases f<;>rfl
  rw[er,ry,lZ hs a37l18.eq_1];simp only[rowP]at v9;simp[bG hs,bJ hs,dn hs,dm hs,Zf,v9];exact⟨_,_,⟨rfl,rfl⟩,hTo⟩
 intro f;induction f with
 |zero=>
  intro ax round p v H seen gu fZ hp hf ha hn hro v0 v1 v2 v3 v8 v9 hR qd ja kw hTo hol;have:=hn (by omega);subst this;exact nil 0 ax round p v H seen fZ v9 hTo
 |succ f ih=>
  intro ax round p v H seen gu fZ hp hf ha hn hro v0 v1 v2 v3 v8 v9 hR qd ja kw hTo hol;cases gu with
  |nil=>exact nil (f+1) ax round p v H seen fZ v9 hTo
  |cons a aY=>
   have dQ:ax<=s.length:=by
    by_cases c:s.length<ax
    ·have:=hn c;cases this
    ·omega
   rw[rf]at hol;have hR1:=hR.up (round':=round+1) hpr hrr;have hr0:Rnd P (round+1) seen []:=⟨qd.len,fun x hx=>Nat.le_succ_of_le (qd.top x hx),by simp,by simp,by simp⟩
   have hf0:fresh (round+1) seen<=seen.length:=MZ _ _;have hsl:seen.length=P.length:=qd.len;have run:=hR.run;have aT:IntKind.i64.wrap ((round:Int)+1)=(round:Int)+1:=aM _ (by omega);have bY:IntKind.i64.wrap ((ax:Int)+1)=(ax:Int)+1:=aM _ (by omega);have lH:(0:Int)<(aY.length:Int)+1:=by omega
   have hcast:((round+1:Nat):Int)=(round:Int)+1:=by omega
   have n1:=MJ (s:=s) (i:=ax) hP (a::aY) seen [] hr0;have nil1:s.length<ax+1->(eP P s ax (round+1) (a::aY) seen []).2=[]:=by
    intro aB;have hc:s[ax]?=none:=pq (by omega);have:∀(r seen l:List Nat),(eP P s ax (round+1) r seen l).2=l:=by
     intro r;induction r with
     |nil=>intro seen l;rfl
     |cons b r ih=>
      intro seen l;unfold eP;rw[hc];split
      ·rename_i h;cases h
      ·exact ih seen l
    exact this _ _ _
   have hin:=fun v' h0 h1 h2 h3 h8 h51 h52 h53 h10=>zoa (S:=S) (ae:=ae) hT hP hb hss hPl (ax:=ax) (by omega) qd.ops (by omega) (a::aY) 0 v' (H.set fU (some [.ptr eG 0,.str s,.msl 1 dO 0 seen.length,ag (round+1)])) seen [] fZ (by omega) rfl h0 h1 h2 h3 h8 h51 h52 h53 h10 hR1 hr0 (by simp only[gW];omega) (hTr _ _ _ hTo) (by simp only[fF]at kw ⊢;omega);have hu:qH P s (f+1) ax round seen (a::aY)=kE P ax (a::aY)++qH P s f (ax+1) (round+1) (eP P s ax (round+1) (a::aY) seen []).1 (eP P s ax (round+1) (a::aY) seen []).2:=rfl;have htl:=zbW P ax (a::aY);have xX:∀(v':Nat->AV)(H':aj)(p':Perm),(p'=.own∨p'=.ro)->v' 0=.ptr eG 0->v' 1=.str s->v' 2=ag (ax+1)->v' 3=.fn fid cap->v' 8=.ptr fU 0->v' 9=rowP p' (eP P s ax (round+1) (a::aY) seen []).2->
     RH H' eG r fU dO P first s (eP P s ax (round+1) (a::aY) seen []).1 (round+1)->T (fZ++kE P ax (a::aY)) H'->(eP P s ax (round+1) (a::aY) seen []).2.length+3*fresh (round+1) (eP P s ax (round+1) (a::aY) seen []).1<=1000000->
     Wp (aP ak S.sp ae (.loop a37l18) (az 2379663764704762803983 v',H')) (fun e t=>e=.exit 0∧∃v' H',t=(az 2379663764704762803983 v',H')∧T (fZ++qH P s (f+1) ax round seen (a::aY)) H'):=by
    intro v' H' p' hp' w0 w1 w2 w3 w8 w9 wR wT wl;rw[hu,←zR];refine ih (ax+1) (round+1) p' v' H' _ _ _ hp' (by omega) (by omega) nil1 (by omega) w0 w1 w2 w3 w8 w9 wR n1 wl ?_ wT ?_
    ·have hlb:(eP P s ax (round+1) (a::aY) seen []).2.length<=P.length:=by
      have hnd:=n1.nodup;have aB:∀q∈(eP P s ax (round+1) (a::aY) seen []).2,q<P.length:=fun q hq=>by
       obtain⟨x,hx,_⟩:=n1.ops q hq;exact(eD.1 hx).1
      exact zm9 _ _ hnd aB
     omega
    ·simp only[iF,fF]at htl kw ⊢;omega
   generalize eP P s ax (round+1) (a::aY) seen []=z at hin xX;obtain⟨z1,z2⟩:=z;rw[lZ hs a37l18.eq_1];rcases hp with rfl|rfl;all_goals
    simp only[rowP]at v9;simp[bG hs,bJ hs,dn hs,dm hs,Zf,zg6,zg5,zg4,v9,v8,run,gL,aT,wC,lH];refine(hin _ ?_ ?_ ?_ ?_ ?_ ?_ ?_ ?_ ?_).mono fun e t h=>?_
    ·simp[v0]
    ·simp[v1]
    ·simp[v2]
    ·simp[v3]
    ·simp[v8]
    ·simp[ek,fG]
    ·simp
    ·simp
    ·simp[iB]
    ·obtain⟨rfl,v',H',rfl,k0,k1,k2,k3,k8,k10,kR,kT,kl⟩:=h;simp only at k10 kR kl;cases z2 with
     |nil=>
      simp only[iB]at k10;simp[bG hs,bJ hs,dn hs,dm hs,Zi,Zh,k10,k2,bY];refine xX _ H' .ro (.inr rfl) ?_ ?_ ?_ ?_ ?_ ?_ kR kT kl;all_goals simp[k0,k1,k2,k3,k8,rowP]
     |cons y z2=>
      simp only[iB]at k10;simp[bG hs,bJ hs,dn hs,dm hs,Zi,Zh,k10,k2,bY];refine xX _ H' .ro (.inr rfl) ?_ ?_ ?_ ?_ ?_ ?_ kR kT kl;all_goals simp[k0,k1,k2,k3,k8,rowP,fG,ek]
end
end
section
variable {S:Sp} {ae:Nat}
structure PC(H:aj)(eG r:Nat)(P:List NS)(first:Nat):Prop where
 pc:eB H eG=some (some [.msl 7 r 0 P.length,ag first])
 rc:eB H r=some (some (cellsOf P))
 wide:F5 P
theorem PC.app{H:aj}{eG r:Nat}{P:List NS}{first:Nat}(h:PC H eG r P first)(l:aj):PC (H++l) eG r P first:=
 ⟨(l9 _ (fA h.pc)).trans h.pc,(l9 _ (fA h.rc)).trans h.rc,h.wide⟩
theorem zed(n:Nat):List.flatMap AV.cells (List.replicate n (AV.int .i64 0))=fG (List.replicate n 0):=by
 induction n with
 |zero=>rfl
 |succ n ih=>rw[tY,lq,ih];rfl
theorem zp4{H:aj}{eG r fid:Nat}{cap:List AV}{T:List Nat->aj->Prop}{P:List NS}{first:Nat}{s:List UInt8}{ax:Nat}(h:PC H eG r P first)(hT:Teller S ae fid cap [eG,r,H.length+1,H.length] H.length T)
  (hTr:∀fZ H' x,T fZ H'->T fZ (H'.set (H.length+1) x)) (hT0:∀x y,T [] (H ++[x] ++[y])) (hP:l6 P) (hf:first<P.length) (hb:ae<=H.length) (hss:s.length<1000000) (hPl:P.length<1000) (dQ:ax<=s.length) :
  Wc (Rn ak S.sp ae 37 [.ptr eG 0,.str s,ag ax,.fn fid cap] H) (fun o H'=>o=.ret (.tup [])∧T (Ct P first s ax) H'):=by
 have hs:=S.mono;refine zL hs rfl rfl rfl ?_;have pc:=h.pc;have dK:=fA h.pc;have dU:=fA h.rc;have hno:¬s.length<ax:=by omega
 have hng:¬((ax:Int)<0):=by omega
 have fu:P.length<=4294967296:=by omega
 have hR:RH (H ++[some (fG (List.replicate P.length 0))] ++[some [.ptr eG 0,.str s,.msl 1 H.length 0 (List.replicate P.length 0).length,ag 1]]) eG r (H.length+1) H.length P first s (List.replicate P.length 0) 1:=by
  refine⟨?_,?_,h.wide,?_,?_,by omega,by omega,by omega⟩
  ·rw[l9 _ (by simp;omega),l9 _ dK];exact pc
  ·rw[l9 _ (by simp;omega),l9 _ dU];exact h.rc
  ·exact Rb _ _ _ (by simp)
  ·rw[l9 _ (by simp)];exact rR _ _
 have h0:Rnd P 1 (List.replicate P.length 0) []:=⟨by simp,fun x hx=>by rw[List.mem_replicate]at hx;omega,by simp,by simp,by simp⟩
 have hf1:=MZ 1 (List.replicate P.length 0);rw[List.length_replicate]at hf1;obtain⟨o,H1,bf,rfl,e1,e2⟩:=zeH (S:=S) (ae:=ae) (ax:=ax) (n:=first) hR hP hb hss (by omega) h0 hf (by simp only[gW];omega) (by omega);have e3:=JR (len:=s.length) (ax:=ax) hP h0 hf;have e4:(enter P s.length ax 1 first (List.replicate P.length 0) []).2.length+3*fresh 1 (enter P s.length ax 1 first (List.replicate P.length 0) []).1<= [].length+3*fresh 1 (List.replicate P.length 0):=
  Xh (len:=s.length) (ax:=ax) hP _ _ (h0.en hf)
 have hT1:=hT.keep _ _ _ (hT0 _ _) e1;have jB:H.length+1<(H ++[some (fG (List.replicate P.length 0))] ++[some [.ptr eG 0,.str s,.msl 1 H.length 0 (List.replicate P.length 0).length,ag 1]]).length:=by simp
 have sN:=fun v h0 h1 h2 h3 h8 h9=>zmc (S:=S) (ae:=ae) hT (fun fZ H x=>hTr fZ H x) hP hb (by omega) (by omega) (by omega) hss hPl (s.length+2-ax) ax 1 .own v H1 _ _ [] (.inl rfl) (by omega) (by omega) (fun h=>by omega) (by omega) h0 h1 h2 h3 h8 h9 e2 e3 (by simp only[gW]at e4;omega) (by simp only[gW]at e4;omega) hT1 (by simp only[gW];omega);have hends:Ct P first s ax=qH P s (s.length+2-ax) ax 1 (enter P s.length ax 1 first (List.replicate P.length 0) []).1 (enter P s.length ax 1 first (List.replicate P.length 0) []).2:=rfl
 rw[env37,hends];simp only[gV]at sN;generalize enter P s.length ax 1 first (List.replicate P.length 0) []=z at bf e1 e2 e3 e4 sN
 obtain⟨z1,z2⟩:=z;simp only at bf e1 e2 e3 e4 sN;have hpc1:eB (H ++[some (fG (List.replicate P.length 0)),some [.ptr eG 0,.str s,.msl 1 H.length 0 P.length,.int .i64 1]]) eG=some (some [.msl 7 r 0 P.length,ag first]):=by rw[l9 _ dK];exact pc
 simp only[List.length_replicate,zR,kg,gV,iB]at bf;have bf:Rn ak S.sp ae 61 [.ptr (H.length+1) 0,.nils,ag first,ag ax] (H ++[some (fG (List.replicate P.length 0)),some [.ptr eG 0,.str s,.msl 1 H.length 0 P.length,.int .i64 1]])=some (.ret (iB z2),H1):=bf;cases z2 with
 |nil=>
  simp only[iB]at bf;simp[Zk,Zj,Zg,a37,bG hs,bJ hs,dn hs,dm hs,hno,hng,pc,fu,zed,hpc1,bf];refine(sN _ ?_ ?_ ?_ ?_ ?_ ?_).mono fun e t h=>?_
  ·simp
  ·simp
  ·simp
  ·simp
  ·simp
  ·simp[rowP]
  ·obtain⟨rfl,v',H',rfl,hT'⟩:=h;simp;exact hT'
 |cons y z2=>
  simp only[iB]at bf;simp[Zk,Zj,Zg,a37,bG hs,bJ hs,dn hs,dm hs,hno,hng,pc,fu,zed,hpc1,bf];refine(sN _ ?_ ?_ ?_ ?_ ?_ ?_).mono fun e t h=>?_
  ·simp
  ·simp
  ·simp
  ·simp
  ·simp
  ·simp[rowP,fG]
  ·obtain⟨rfl,v',H',rfl,hT'⟩:=h;simp;exact hT'
end
section
variable {S:Sp} {ae:Nat}
def Gx:List Nat->Int
 | []=> -1
 | [a]=>a
 |_::b::l=>Gx (b::l)
theorem zdK(a:Nat):∀(l:List Nat),Gx (l ++[a])=a
 | []=>rfl
 | [b]=>rfl
 |b::c::l=>zdK a (c::l)
theorem zjD{oid eG r:Nat}(hb:ae<=oid)(h1:eG<oid)(h2:r<oid):Teller S ae 60 [.ptr oid 0] [eG,r,oid+2,oid+1] (oid+1) (fun fZ K=>eB K oid=some (some [.int .i64 (Gx fZ)])) where
 call:=by
  intro H fZ ax c1 hids ho dQ;have hs:=S.mono;have hol:=fA c1;have:Wc (Rn ak S.sp ae 60 [ag ax,.ptr oid 0] H) (fun o H'=>o=.ret (.tup [])∧H'=H.set oid (some [ag ax])):=by
   refine zL hs rfl rfl rfl ?_;rw[env60];simp[a60,zgJ,bJ hs,c1,hb]
  obtain⟨o,H',hc,rfl,rfl⟩:=this;refine⟨_,hc,?_,by simp,?_⟩
  ·rw[dB _ hol,zdK]
  ·intro i hi;have aR:oid≠i:=by
    simp only[il,List.not_mem_nil,or_false]at hi;omega
   rw[kU _ aR]
 keep:=by
  intro H H' fZ c1 hk;exact(hk.2 _ (fA c1) (by omega)).trans c1
theorem zsd{H:aj}{eG r:Nat}{P:List NS}{first:Nat}{s:List UInt8}{ax:Nat}(h:PC H eG r P first)(hP:l6 P)(hf:first<P.length)(hss:s.length<1000000)(hPl:P.length<1000)(dQ:ax<=s.length):
  Rn ak S.sp ae 35 [.ptr eG 0,.str s,ag ax] H=some (.ret (.int .i64 (Gx (Ct P first s ax))),H):=by
 have hs:=S.mono;have dK:=fA h.pc;have dU:=fA h.rc;refine QP hs rfl rfl rfl rfl ?_;have hl:(H ++[some [AV.int .i64 (-1)]]).length=H.length+1:=by simp
 have hT:=zjD (S:=S) (ae:=H.length) (oid:=H.length) (aX _) dK dU;obtain⟨o,H1,bf,rfl,c1⟩:=zp4 (S:=S) (ae:=H.length) (ax:=ax) (h.app [some [.int .i64 (-1)]]) (T:=fun fZ K=>eB K H.length=some (some [.int .i64 (Gx fZ)])) (cap:=[.ptr H.length 0]) (fid:=60) (by rw[hl];exact hT)
  (by
   rw[hl];intro fZ H' x c1;exact(kU _ (by omega)).trans c1)
  (by
   intro x y;rw[l9 _ (by simp),l9 _ (by simp),rR];rfl)
  hP hf (by simp) hss hPl dQ
 rw[env35];simp[a35,zha,zg9,zg8,zg7,bG hs,bJ hs,bf,c1]
end
section
variable {S:Sp} {ae:Nat}
theorem ze0:∀(l:List Nat)(r:List AV),dG (l.map u64++r)=dG r
 | [],r=>rfl
 |a::l,r=>by simp[dG,gq,ze0 l r]
mutual
theorem qU:∀(r:Re),gq r.av=true
 | .mk k set mn mx l=>by
  have h:=Rv l;rw[Re.av];simp only[gq,dG,ze0,Gi,Bool.and_true];cases l with
  |nil=>simp[Re.avs,bT,gq]
  |cons x l=>simp only[Re.avs,bT,gq];simpa only[Re.avs]using h
theorem Rv:∀(l:List Re),dG (Re.avs l)=true
 | []=>rfl
 |x::l=>by simp[Re.avs,dG,qU x,Rv l]
end
theorem zqt{k:Int}{a b c d:Nat}{mn mx:Int}{l:List Re}(hw:Re.wideL l)(bq:l.length<1000000){kk ay:Int}(hc:Re.canL l kk ay=true)(hd0:0<=ay)(hd:ay<=100)(ih:∀x∈l,∀H,Rn ak S.sp ae 82 [x.av] H=some (.ret (ag x.cap),H)){H:aj}:
  ∀(aY:List Re)(i n:Nat)(v:Nat->AV),i<=l.length->l.drop i=aY->n<=500->v 1=.box [.int .i64 k,u64 a,u64 b,u64 c,u64 d,.int .i64 mn,.int .i64 mx,bT (Re.avs l)]->v 7=bT (Re.avs l)->v 8=ag l.length->v 9=ag i->v 3=ag n->
   Wp (aP ak S.sp ae (.loop a82l9) (az 584262617007 v,H)) (fun e t=>(e=.exit 0∧Re.capL n aY<=500∧∃v',t=(az 584262617007 v',H)∧v' 1=v 1∧v' 3=ag (Re.capL n aY))∨(e=.ret∧500<Re.capL n aY∧∃v',t=(az 584262617007 v',H)∧v' 2=ag (Re.capL n aY))):=by
 have hs:=S.mono;intro aY;induction aY with
 |nil=>
  intro i n v hi hr hn v1 v7 v8 v9 v3;have aK:i=l.length:=by
   have:=dF List.length hr;rw[kZ]at this;simp at this;omega
  subst aK;rw[lZ hs a82l9.eq_1];simp[bG hs,bJ hs,dn hs,dm hs,Si,v8,v9];exact⟨by simpa[Re.capL]using hn,_,rfl,by simp,by simpa[Re.capL]using v3⟩
 |cons x aY ihr=>
  intro i n v hi hr hn v1 v7 v8 v9 v3;have aK:i<l.length:=by
   have:=dF List.length hr;rw[kZ]at this;simp at this;omega
  have jE:=iJ aK;rw[hr]at jE;obtain⟨hx,gF⟩:=zQ jE;have jC:x∈l:=hx▸mO aK;obtain⟨cs,aH,bM⟩:=Re.av_agg (kz.1 hw x jC);have fQ:8<=cs.length:=by omega
  have bV:List.take 8 cs=cs:=ek (by omega);have hg:(Re.avs l)[i]?=some (.agg cs):=by rw[sZ aK,←hx,aH]
  have aR:Re.avs l ≠ []:=by rw[Re.avs_map];simp;intro e;subst e;simp at aK
  have bf:=ih x jC H;rw[aH]at bf;rw[kM aR]at v7 v1;have hcx:=Re.cap_le x kk (ay+1) (XB.1 hc x jC) (kz.1 hw x jC);have aT:IntKind.i64.wrap ((i:Int)+1)=(i:Int)+1:=aM _ (by omega);have bY:IntKind.i64.wrap ((n:Int)+(x.cap:Int))=(n:Int)+x.cap:=aM _ (by omega)
  -- eight cells, one by one
  obtain⟨c0,c1,c2,c3,c4,c5,c6,c7,rfl⟩:∃c0 c1 c2 c3 c4 c5 c6 c7,cs=[c0,c1,c2,c3,c4,c5,c6,c7]:=by
   match cs,bM with
   | [c0,c1,c2,c3,c4,c5,c6,c7],_=>exact⟨_,_,_,_,_,_,_,_,rfl⟩
  rw[lZ hs a82l9.eq_1];by_cases h5:n+x.cap>500
  ·have jh:(500:Int)<(n:Int)+x.cap:=by omega
   have hu:Re.capL n (x::aY)=n+x.cap:=by simp[Re.capL,h5]
   rw[hu];simp[bG hs,bJ hs,dn hs,dm hs,Si,Yo,Yn,Ym,Yl,Yk,v8,v9,v7,v3,aK,hg,bf,aT,bY,jh];exact⟨by omega,_,rfl,by simp⟩
  ·have jh:¬(500:Int)<(n:Int)+x.cap:=by omega
   have hu:Re.capL n (x::aY)=Re.capL (n+x.cap) aY:=by simp[Re.capL,h5]
   rw[hu];simp[bG hs,bJ hs,dn hs,dm hs,Si,Yo,Yn,Ym,Yl,Yk,v8,v9,v7,v3,aK,hg,bf,aT,bY,jh];refine(ihr (i+1) (n+x.cap) _ (by omega) gF.symm (by omega) ?_ ?_ ?_ ?_ ?_).mono fun e t h=>?_
   ·simp[v1,kM aR]
   ·simp[v7,kM aR]
   ·simp[v8]
   ·simp
   ·simp
   ·rcases h with⟨e1,e2,v',e3,e4,e5⟩|⟨e1,e2,v',e3,e4⟩
    ·exact .inl ⟨e1,e2,v',e3,by rw[e4];simp,e5⟩
    ·exact .inr ⟨e1,e2,v',e3,e4⟩
theorem zqs{k:Int}{set:List Nat}{mn mx:Int}{l:List Re}{dh ay:Int}(hc:(Re.mk k set mn mx l).can dh ay=true)(hw:(Re.mk k set mn mx l).wide)(hd0:0<=ay)
  (ih:∀kk,Re.canL l kk ay=true->∀x∈l,∀H,Rn ak S.sp 0 82 [x.av] H=some (.ret (ag x.cap),H)) (H:aj):Rn ak S.sp ae 82 [(Re.mk k set mn mx l).av] H=some (.ret (ag (Re.mk k set mn mx l).cap),H):=by
 have hs:=S.mono;have mZ:=Re.cap_le _ _ _ hc hw;have hw0:=hw;unfold Re.wide at hw;obtain⟨h4,bq,⟨m1,m2,m3,m4⟩,hwl⟩:=hw;obtain⟨a,b,c,d,rfl⟩:=four h4;refine BJ hs rfl rfl (by simp only[dG,qU];rfl) rfl ?_;rw[env82];unfold Re.can at hc;split at hc
 ·cases hc
 rename_i hb;have hd:ay<=100:=by
  simp only[kV,nG,ik,not_or]at hb;omega
 have hL:Re.canL l k ay=true:=by
  have nil:l.length=0->Re.canL l k ay=true:=fun e=>by
   have:=mi e;subst this;rfl
  split at hc
  ·simp only[aU,ik]at hc;exact nil hc.1
  split at hc
  ·exact nil (Jd hc)
  split at hc
  ·split at hc
   ·cases hc
   ·exact hc
  split at hc
  ·split at hc
   ·cases hc
   ·exact hc
  ·cases hc
 have hkk:k=0∨k=1∨k=2∨k=3∨k=4∨k=5∨k=6:=by
  split at hc
  ·omega
  split at hc
  ·omega
  split at hc
  ·omega
  split at hc
  ·omega
  ·cases hc
 have h5l:k=5->¬l.length<2:=fun e=>by
  subst e;simp at hc;omega
 have hrep:k=6->¬mx<0->mn<=mx:=fun e hx=>by
  subst e;simp[lQ]at hc;omega
 clear hc;have hin:=fun v=>zqt (S:=S) (ae:=0) (k:=k) (a:=a) (b:=b) (c:=c) (d:=d) (mn:=mn) (mx:=mx) (H:=[]) hwl bq hL hd0 hd (fun x hx H=>ih k hL x hx H) l 0 0 v (by omega) rfl (by omega);have bM:=zfd l 0;have xX:∀(v':Nat->AV),Re.capL 0 l<=500->v' 1=.box [.int .i64 k,u64 a,u64 b,u64 c,u64 d,.int .i64 mn,.int .i64 mx,bT (Re.avs l)]->v' 3=ag (Re.capL 0 l)->
   Wp (aP ak S.sp 0 (.seq (.seq (.region yI) (.block 2 (.seq (.seq (.region yH) (.cond false (.v 23) .skip (.seq (.region yG) (.cond false (.v 23) .skip (.region yF))))) (.cond false (.v 23) (.seq (.region yE) .ret) (.seq (.region yD) (.cond true (.v 27) (.seq (.region yC) .ret) (.seq (.region yB) (.cond true (.v 35) (.seq (.seq (.region yA) (.cond true (.v 39) (.seq (.region yz) .ret) .skip)) (.seq (.region yx) .ret)) .skip)))))))) (.seq (.region yw) .ret)) (az 584262617007 v',[])) (fin [.tmp 2] (thaw 0 (· =.ret (ag (Re.mk k [a,b,c,d] mn mx l).cap)))):=by
  intro v' h5 v1 v3;have jh:¬Re.capL 0 l>500:=by omega
  rcases hkk with rfl|rfl|rfl|rfl|rfl|rfl|rfl
  ·simp[Re.cap,jh,yI,yH,yG,yF,yE,yD,yC,yB,yA,yz,yx,yw,bG hs,bJ hs,dn hs,dm hs,v1,v3]
  ·simp[Re.cap,jh,yI,yH,yG,yF,yE,yD,yC,yB,yA,yz,yx,yw,bG hs,bJ hs,dn hs,dm hs,v1,v3]
  ·simp[Re.cap,jh,yI,yH,yG,yF,yE,yD,yC,yB,yA,yz,yx,yw,bG hs,bJ hs,dn hs,dm hs,v1,v3]
  ·simp[Re.cap,jh,yI,yH,yG,yF,yE,yD,yC,yB,yA,yz,yx,yw,bG hs,bJ hs,dn hs,dm hs,v1,v3]
  ·simp[Re.cap,jh,yI,yH,yG,yF,yE,yD,yC,yB,yA,yz,yx,yw,bG hs,bJ hs,dn hs,dm hs,v1,v3]
  ·have hl2:=h5l rfl;have aR:Re.avs l ≠ []:=by rw[Re.avs_map];simp;intro e;subst e;simp at hl2
   rw[kM aR]at v1;have aT:IntKind.i64.wrap ((Re.capL 0 l:Int)+(l.length:Int))=((Re.capL 0 l:Int)+(l.length:Int)):=aM _ (by omega);have bY:IntKind.i64.wrap ((Re.capL 0 l:Int)+(l.length:Int)-1)=((Re.capL 0 l+l.length-1:Nat):Int):=by rw[aM _ (by omega)];omega
   simp[Re.cap,jh,yI,yH,yG,yF,yE,yD,yC,yB,yA,yz,yx,yw,bG hs,bJ hs,dn hs,dm hs,v1,v3,ed,aT,bY]
  ·obtain⟨N,rfl⟩:∃N:Nat,mn=N:=⟨mn.toNat,by omega⟩
   generalize hC:Re.capL 0 l=C at *;have e1:=zN (show N<=999 by omega) h5;by_cases hx:mx<0
   ·obtain⟨D,hD⟩:∃D,N*C=D:=⟨_,rfl⟩
    rw[hD]at e1;have hD':(N:Int)*(C:Int)=(D:Int):=by rw[←hD];push_cast;rfl
    have aT:IntKind.i64.wrap (D:Int)=(D:Int):=aM _ (by omega);have bY:IntKind.i64.wrap ((D:Int)+(C:Int))=(D:Int)+C:=aM _ (by omega);have hw3:IntKind.i64.wrap ((D:Int)+(C:Int)+1)=(D:Int)+C+1:=aM _ (by omega);have hcp:(Re.mk 6 [a,b,c,d] (N:Int) mx l).cap=D+C+1:=by
     simp[Re.cap,hC,jh,hx,hD]
    rw[hcp];simp[yI,yH,yG,yF,yE,yD,yC,yB,yA,yz,yx,yw,bG hs,bJ hs,dn hs,dm hs,v1,v3,hx,hD',aT,bY,hw3]
   ·obtain⟨M,rfl⟩:∃M:Nat,mx=M:=⟨mx.toNat,by omega⟩
    have hNM:N<=M:=by have:=hrep rfl hx;omega
    obtain⟨D,hD⟩:∃D,N*C=D:=⟨_,rfl⟩
    obtain⟨E,hE⟩:∃E,(M-N)*(C+1)=E:=⟨_,rfl⟩
    have e2:=zN (show M-N<=999 by omega) (show C+1<=501 by omega);rw[hD]at e1;rw[hE]at e2;have hD':(N:Int)*(C:Int)=(D:Int):=by rw[←hD];push_cast;rfl
    have hE':((M-N:Nat):Int)*((C:Int)+1)=(E:Int):=by rw[←hE];push_cast;rfl
    have hw0:IntKind.i64.wrap ((M:Int)-(N:Int))=((M-N:Nat):Int):=by rw[aM _ (by omega)];omega
    have aT:IntKind.i64.wrap (D:Int)=(D:Int):=aM _ (by omega);have bY:IntKind.i64.wrap ((C:Int)+1)=(C:Int)+1:=aM _ (by omega);have hw3:IntKind.i64.wrap (E:Int)=(E:Int):=aM _ (by omega);have hw4:IntKind.i64.wrap ((D:Int)+(E:Int))=(D:Int)+E:=aM _ (by omega);have hcp:(Re.mk 6 [a,b,c,d] (N:Int) M l).cap=D+E:=by
     have:((M:Int)-N).toNat=M-N:=by omega
     simp[Re.cap,hC,jh,hx,hD,this,hE]
    rw[hcp];simp[yI,yH,yG,yF,yE,yD,yC,yB,yA,yz,yx,yw,bG hs,bJ hs,dn hs,dm hs,v1,v3,hx,hD',hE',hw0,aT,bY,hw3,hw4]
 have bz:(l=[]∧bT (Re.avs l)=.nils)∨bT (Re.avs l)=.slc .ro (Re.avs l):=by
  cases l with
  |nil=>exact .inl ⟨rfl,rfl⟩
  |cons x l=>exact .inr rfl
 have hend:∀(v:Nat->AV),v 1=.box [.int .i64 k,u64 a,u64 b,u64 c,u64 d,.int .i64 mn,.int .i64 mx,bT (Re.avs l)]->v 7=bT (Re.avs l)->v 8=ag l.length->v 9=ag 0->v 3=ag 0->
   Wp (aP ak S.sp 0 (.loop a82l9) (az 584262617007 v,[])) (ul 0 (andThen (aP ak S.sp 0 (.seq (.seq (.region yI) (.block 2 (.seq (.seq (.region yH) (.cond false (.v 23) .skip (.seq (.region yG) (.cond false (.v 23) .skip (.region yF))))) (.cond false (.v 23) (.seq (.region yE) .ret) (.seq (.region yD) (.cond true (.v 27) (.seq (.region yC) .ret) (.seq (.region yB) (.cond true (.v 35) (.seq (.seq (.region yA) (.cond true (.v 39) (.seq (.region yz) .ret) .skip)) (.seq (.region yx) .ret)) .skip)))))))) (.seq (.region yw) .ret))) (fin [.tmp 2] (thaw 0 (· =.ret (ag (Re.mk k [a,b,c,d] mn mx l).cap)))))):=by
  intro v w1 w7 w8 w9 w3;refine(hin v w1 w7 w8 w9 w3).mono fun e t h=>?_;rcases h with⟨rfl,h5,v',rfl,e1,e3⟩|⟨rfl,h5,v',rfl,e2⟩
  ·rw[Ac,aS rfl,wH];exact xX v' h5 (by rw[e1,w1]) e3
  ·have:(Re.mk k [a,b,c,d] mn mx l).cap=Re.capL 0 l:=by
    unfold Re.cap;rw[aS h5]
   simp[this,e2]
 rcases bz with⟨rfl,bz⟩|bz
 ·simp[a82,Yr,Yq,Yp,bG hs,bJ hs,Re.av,bz];simp only[bG hs,dn hs,wH];refine hend _ ?_ ?_ ?_ ?_ ?_
  ·simp[bz]
  ·simp[bz]
  ·simp
  ·simp
  ·simp
 ·simp[a82,Yr,Yq,Yp,bG hs,bJ hs,Re.av,bz];simp only[bG hs,dn hs,wH];refine hend _ ?_ ?_ ?_ ?_ ?_
  ·simp[bz]
  ·simp[bz]
  ·simp[ed]
  ·simp
  ·simp
mutual
theorem zeW:∀(r:Re)(dh ay:Int),r.can dh ay=true->r.wide->0<=ay->∀(ae:Nat)(H:aj),Rn ak S.sp ae 82 [r.av] H=some (.ret (ag r.cap),H)
 | .mk k set mn mx l,dh,ay,hc,hw,hd,ae,H=>
  zqs hc hw hd (fun kk hL x hx H=>zeV l kk ay hL (by unfold Re.wide at hw;exact hw.2.2.2) hd x hx H) H
theorem zeV:∀(l:List Re)(k ay:Int),Re.canL l k ay=true->Re.wideL l->0<=ay->∀x∈l,∀(H:aj),Rn ak S.sp 0 82 [x.av] H=some (.ret (ag x.cap),H)
 | [],_,_,_,_,_=>fun x hx=>by cases hx
 |y::l,k,ay,hc,hw,hd=>fun x hx H=>by
  simp only[Re.canL,aU]at hc;unfold Re.wideL at hw;rcases il.1 hx with e|h
  ·rw[e];exact zeW y k (ay+1) hc.1 hw.1 (by omega) 0 H
  ·exact zeV l k ay hc.2 hw.2 hd x h H
end
end
section
variable {S:Sp} {ae:Nat}
theorem zbA(a b c d:Nat):decide ([a,b,c,d]≠dL)= !((a:Int)==0&&((b:Int)==0&&((c:Int)==0&&(d:Int)==0))):=by
 rw[Bool.eq_iff_iff];simp[dL]
theorem zqU{k mn mx ay:Int}{a b c d:Nat}{lv:AV}{v:Nat->AV}{H:aj}{Q:AExit->EH->Prop}(v3:v 3=.ptr 0 0)(v5:v 5=.ptr 1 0)
  (h0:eB H 0=some (some [.int .i64 k,u64 a,u64 b,u64 c,u64 d,.int .i64 mn,.int .i64 mx,lv])) (h1:eB H 1=some (some [.int .i64 ay]))
  (hQ:Q .norm (az 1267650600670987429023578062959 (st v 34 (.bool (kV k [a,b,c,d] mn mx ay))),H)):Ws (jP (Rn ak S.sp ae) ae yX ⟨az 1267650600670987429023578062959 v,[],[],H⟩) Q:=by
 have hz:=zbA a b c d;by_cases c1:100<ay
 ·have hb:kV k [a,b,c,d] mn mx ay=true:=by simp[kV,c1]
  rw[hb]at hQ;simp[yX,v3,v5,h0,h1,c1,hQ]
 by_cases c2:k=1
 ·subst c2;by_cases c3:mn=0
  ·subst c3;by_cases c4:mx=0
   ·subst c4;have hb:kV 1 [a,b,c,d] 0 0 ay=false:=by simp[kV,c1]
    rw[hb]at hQ;simp[yX,v3,v5,h0,h1,c1,hQ]
   ·have hb:kV 1 [a,b,c,d] 0 mx ay=true:=by simp[kV,c1,c4]
    rw[hb]at hQ;have c4':(mx != 0)=true:=by simpa using c4
    simp[yX,v3,v5,h0,h1,c1,hQ,c4']
  ·have hb:kV 1 [a,b,c,d] mn mx ay=true:=by simp[kV,c1,c3]
   rw[hb]at hQ;have c3':(mn != 0)=true:=by simpa using c3
   simp[yX,v3,v5,h0,h1,c1,hQ,c3']
 have c2':(k != 1)=true:=by simpa using c2
 cases hzz:((a:Int)==0&&((b:Int)==0&&((c:Int)==0&&(d:Int)==0)))with
 |false=>
  have hb:kV k [a,b,c,d] mn mx ay=true:=by simp[kV,c1,c2,hz,hzz]
  rw[hb]at hQ;simp[yX,v3,v5,h0,h1,c1,hQ,c2',tY,hzz]
 |true=>
  have hzd:decide ([a,b,c,d]≠dL)=false:=by rw[hz,hzz];rfl
  by_cases c5:k=6
  ·subst c5;have hb:kV 6 [a,b,c,d] mn mx ay=false:=by simp only[kV,hzd];simp[c1]
   rw[hb]at hQ;simp[yX,v3,v5,h0,h1,c1,hQ,tY,hzz]
  have c5':(k != 6)=true:=by simpa using c5
  by_cases c3:mn=0
  ·subst c3;by_cases c4:mx=0
   ·subst c4;have hb:kV k [a,b,c,d] 0 0 ay=false:=by simp only[kV,hzd];simp[c1]
    rw[hb]at hQ;simp[yX,v3,v5,h0,h1,c1,hQ,c2',c5',tY,hzz]
   ·have hb:kV k [a,b,c,d] 0 mx ay=true:=by simp[kV,c1,c4,c5]
    rw[hb]at hQ;have c4':(mx != 0)=true:=by simpa using c4
    simp[yX,v3,v5,h0,h1,c1,hQ,c2',c5',c4',tY,hzz]
  ·have hb:kV k [a,b,c,d] mn mx ay=true:=by simp[kV,c1,c3,c5]
   rw[hb]at hQ;have c3':(mn != 0)=true:=by simpa using c3
   simp[yX,v3,v5,h0,h1,c1,hQ,c2',c5',c3',tY,hzz]
theorem zqR{k mn mx:Int}{a b c d:Nat}{l:List Re}{v:Nat->AV}{H:aj}{Q:AExit->EH->Prop}(v3:v 3=.ptr 0 0)
  (h0:eB H 0=some (some [.int .i64 k,u64 a,u64 b,u64 c,u64 d,.int .i64 mn,.int .i64 mx,bT (Re.avs l)]))
  (hQ:Q .norm (az 1267650600670987429023578062959 (st v 100 (.bool (lQ l.length mn mx))),H)):Ws (jP (Rn ak S.sp ae) ae pI ⟨az 1267650600670987429023578062959 v,[],[],H⟩) Q:=by
 match l,h0,hQ with
 | [],h0,hQ=>
  have hb:lQ ([]:List Re).length mn mx=true:=by simp[lQ]
  rw[hb]at hQ;simp[pI,v3,h0,hQ,bT,Re.avs]
 |x::y::l,h0,hQ=>
  have hb:lQ (x::y::l).length mn mx=true:=by simp[lQ]
  rw[hb]at hQ;have bq:((((Re.avs l).length:Int)+1+1) != 1)=true:=by simp;omega
  simp[pI,v3,h0,hQ,bT,Re.avs,bq]
 | [x],h0,hQ=>
  by_cases c1:mn<0
  ·have hb:lQ [x].length mn mx=true:=by simp[lQ,c1]
   rw[hb]at hQ;simp[pI,v3,h0,hQ,bT,Re.avs,c1]
  by_cases c2:50<mn
  ·have hb:lQ [x].length mn mx=true:=by simp[lQ,c2]
   rw[hb]at hQ;simp[pI,v3,h0,hQ,bT,Re.avs,c1,c2]
  by_cases c3:mx= -1
  ·subst c3;have hb:lQ [x].length mn (-1)=false:=by simp[lQ,c1,c2]
   rw[hb]at hQ;simp[pI,v3,h0,hQ,bT,Re.avs,c1,c2]
  have c3':(mx != -1)=true:=by simpa using c3
  by_cases c4:mx<mn
  ·have hb:lQ [x].length mn mx=true:=by simp[lQ,c3,c4]
   rw[hb]at hQ;simp[pI,v3,h0,hQ,bT,Re.avs,c1,c2,c3',c4]
  ·have hb:lQ [x].length mn mx=decide (50<mx):=by simp[lQ,c1,c2,c3,c4]
   rw[hb]at hQ;simp[pI,v3,h0,hQ,bT,Re.avs,c1,c2,c3',c4]
theorem zqT{l:List Re}{k ay:Int}{H:aj}(hw:Re.wideL l)(bq:l.length<1000000)(ih:∀x∈l,Rn ak S.sp ae 90 [x.av,.ptr 0 0,.ptr 1 0] H=some (.ret (.bool !(x.can k (ay+1))),H)):
  ∀(aY:List Re)(i:Nat)(v:Nat->AV),i<=l.length->l.drop i=aY->v 0=bT (Re.avs l)->v 1=.fn 90 [.ptr 0 0,.ptr 1 0]->v 7=ag l.length->v 8=ag i->
   Wp (aP ak S.sp ae (.loop a100l7) (az 66483 v,H)) (fun e t=>(Re.canL aY k ay=true∧e=.exit 0∧∃v',t=(az 66483 v',H))∨(Re.canL aY k ay=false∧e=.ret∧∃v' n,t=(az 66483 v',H)∧v' 4=ag n)):=by
 have hs:=S.mono;intro aY;induction aY with
 |nil=>
  intro i v hi hr v0 v1 v7 v8;have aK:i=l.length:=by
   have:=dF List.length hr;rw[kZ]at this;simp at this;omega
  subst aK;rw[lZ hs a100l7.eq_1];simp[bG hs,bJ hs,dn hs,dm hs,Vo,v7,v8];exact⟨rfl,_,rfl⟩
 |cons x aY ihr=>
  intro i v hi hr v0 v1 v7 v8;have aK:i<l.length:=by
   have:=dF List.length hr;rw[kZ]at this;simp at this;omega
  have jE:=iJ aK;rw[hr]at jE;obtain⟨hx,gF⟩:=zQ jE;have jC:x∈l:=hx▸mO aK;obtain⟨cs,aH,bM⟩:=Re.av_agg (kz.1 hw x jC);have fQ:8<=cs.length:=by omega
  have bV:List.take 8 cs=cs:=ek (by omega);have hg:(Re.avs l)[i]?=some (.agg cs):=by rw[sZ aK,←hx,aH]
  have aR:Re.avs l ≠ []:=by rw[Re.avs_map];simp;intro e;subst e;simp at aK
  have bf:=ih x jC;rw[aH]at bf;rw[kM aR]at v0;have aT:IntKind.i64.wrap ((i:Int)+1)=(i:Int)+1:=aM _ (by omega);rw[lZ hs a100l7.eq_1];cases hcx:x.can k (ay+1)with
  |false=>
   rw[hcx]at bf;have hu:Re.canL (x::aY) k ay=false:=by simp[Re.canL,hcx]
   rw[hu];simp[bG hs,bJ hs,dn hs,dm hs,Vo,zbr,zbq,zbp,zbo,v0,v1,v7,v8,aK,hg,bM,fQ,bV,bf,aT];exact⟨_,rfl,i,by simp⟩
  |true=>
   rw[hcx]at bf;have hu:Re.canL (x::aY) k ay=Re.canL aY k ay:=by simp[Re.canL,hcx]
   rw[hu];simp[bG hs,bJ hs,dn hs,dm hs,Vo,zbr,zbq,zbp,zbo,v0,v1,v7,v8,aK,hg,bM,fQ,bV,bf,aT];refine(ihr (i+1) _ (by omega) gF.symm ?_ ?_ ?_ ?_).mono fun e t h=>by simpa using h
   ·simp[v0,kM aR]
   ·simp[v1]
   ·simp[v7]
   ·simp
theorem zod{l:List Re}{k ay:Int}{H:aj}(hw:Re.wideL l)(bq:l.length<1000000)(ih:∀x∈l,Rn ak S.sp ae 90 [x.av,.ptr 0 0,.ptr 1 0] H=some (.ret (.bool !(x.can k (ay+1))),H)):
  ∃n:Int,Rn ak S.sp ae 100 [bT (Re.avs l),.fn 90 [.ptr 0 0,.ptr 1 0]] H=some (.ret (.int .i64 n),H)∧(0<=n↔Re.canL l k ay=false):=by
 have hs:=S.mono;have:Wc (Rn ak S.sp ae 100 [bT (Re.avs l),.fn 90 [.ptr 0 0,.ptr 1 0]] H) (fun o H'=>H'=H∧∃n:Int,o=.ret (.int .i64 n)∧(0<=n↔Re.canL l k ay=false)):=by
  refine zL hs rfl rfl rfl ?_;rw[zp2];have qg:=fun v=>zqT (S:=S) (ae:=ae) (H:=H) hw bq ih l 0 v (by omega) rfl;have bz:(l=[]∧bT (Re.avs l)=.nils)∨bT (Re.avs l)=.slc .ro (Re.avs l):=by
   cases l with
   |nil=>exact .inl ⟨rfl,rfl⟩
   |cons x l=>exact .inr rfl
  rcases bz with⟨rfl,bz⟩|bz;all_goals
   simp[a100,ziV,ziU,bG hs,bJ hs,dn hs,bz];refine(qg _ ?_ ?_ ?_ ?_).mono fun e t h=>?_
   ·simp[bz]
   ·simp
   ·simp[ed]
   ·simp
   ·rcases h with⟨h1,rfl,v',rfl⟩|⟨h1,rfl,v',n,rfl,h2⟩
    ·simp[ziT,bG hs,bJ hs,h1]
    ·simp[h1,h2]
 obtain⟨o,H',h,rfl,n,rfl,h2⟩:=this;exact⟨n,h,h2⟩
theorem zqw{l:List Re}{k ay:Int}{H:aj}(hw:Re.wideL l)(bq:l.length<1000000)(ih:∀x∈l,Rn ak S.sp ae 90 [x.av,.ptr 0 0,.ptr 1 0] H=some (.ret (.bool !(x.can k (ay+1))),H)):
  Rn ak S.sp ae 91 [bT (Re.avs l),.fn 90 [.ptr 0 0,.ptr 1 0]] H=some (.ret (.bool !(Re.canL l k ay)),H):=by
 have hs:=S.mono;obtain⟨n,hc,hn⟩:=zod hw bq ih;have:Wc (Rn ak S.sp ae 91 [bT (Re.avs l),.fn 90 [.ptr 0 0,.ptr 1 0]] H) (fun o H'=>o=.ret (.bool !(Re.canL l k ay))∧H'=H):=by
  refine zL hs rfl rfl rfl ?_;rw[env91];have hd:decide (0<=n)= !(Re.canL l k ay):=by
   cases h:Re.canL l k ay with
   |false=>simp[hn,h]
   |true=>simp;rw[h]at hn;simp at hn;exact hn
  have bz:bT (Re.avs l)=.nils∨bT (Re.avs l)=.slc .ro (Re.avs l):=by
   cases l with
   |nil=>exact .inl rfl
   |cons x l=>exact .inr rfl
  rcases bz with bz|bz;all_goals
   rw[bz]at hc ⊢;simp[a91,zfz,zfy,bG hs,bJ hs,hc,hd]
 exact l5.1 this
end
section
variable {S:Sp} {ae:Nat}
theorem zqW{x:Re}{k ay:Int}{cs:List AV}{H:aj}(hw:x.wide)(hd:0<=ay∧ay<=1000)(h0:eB H 0=some (some (.int .i64 k::cs)))(h1:eB H 1=some (some [.int .i64 ay]))
  (ih:∀ae H,Rn ak S.sp ae 65 [x.av,.int .i64 k,.int .i64 (ay+1)] H=some (.ret (.bool (x.can k (ay+1))),H)):Rn ak S.sp ae 90 [x.av,.ptr 0 0,.ptr 1 0] H=some (.ret (.bool !(x.can k (ay+1))),H):=by
 have hs:=S.mono;refine QP hs rfl rfl (by simp[dG,gq]) rfl ?_;rw[env90];obtain⟨c,aH,bM⟩:=Re.av_agg hw;rw[aH]at ih ⊢;have fQ:8<=c.length:=by omega
 have bV:List.take 8 c=c:=ek (by omega);have aT:IntKind.i64.wrap (ay+1)=ay+1:=aM _ (by omega);simp[a90,zfB,zfA,bG hs,bJ hs,h0,h1,bM,fQ,bV,aT,ih]
theorem zqS{k:Int}{set:List Nat}{mn mx:Int}{l:List Re}{dh ay:Int}(hw:(Re.mk k set mn mx l).wide)(hd:0<=ay∧ay<=1000)
  (ih:∀x∈l,∀w d,0<=d->d<=1000->∀ae H,Rn ak S.sp ae 65 [x.av,.int .i64 w,.int .i64 d] H=some (.ret (.bool (x.can w d)),H)) (H:aj) :
  Rn ak S.sp ae 65 [(Re.mk k set mn mx l).av,.int .i64 dh,.int .i64 ay] H=some (.ret (.bool ((Re.mk k set mn mx l).can dh ay)),H):=by
 have hs:=S.mono;unfold Re.wide at hw;obtain⟨h4,bq,hm,hwl⟩:=hw;obtain⟨a,b,c,d,rfl⟩:=four h4;refine BJ hs rfl rfl (by simp only[dG,qU,gq];rfl) rfl ?_;rw[env65];have hcont:∀kk,ay<=100->Rn ak S.sp 0 91 [bT (Re.avs l),.fn 90 [.ptr 0 0,.ptr 1 0]] [some [.int .i64 kk,u64 a,u64 b,u64 c,u64 d,.int .i64 mn,.int .i64 mx,bT (Re.avs l)],some [.int .i64 ay]]=some (.ret (.bool !(Re.canL l kk ay)),[some [.int .i64 kk,u64 a,u64 b,u64 c,u64 d,.int .i64 mn,.int .i64 mx,bT (Re.avs l)],some [.int .i64 ay]]):=fun kk hdd=>
  zqw hwl bq fun x hx=>zqW (kz.1 hwl x hx) hd rfl rfl (ih x hx kk (ay+1) (by omega) (by omega))
 simp[a65,zgE,bG hs,bJ hs,Re.av];refine zqU ?_ ?_ rfl rfl ?_
 ·simp
 ·simp
 cases hb:kV k [a,b,c,d] mn mx ay with
 |true=>
  have hu:(Re.mk k [a,b,c,d] mn mx l).can dh ay=false:=by unfold Re.can;rw[aS hb]
  rw[hu];simp[wI,bG hs,bJ hs,dm hs]
 |false=>
  have hd1:ay<=100:=by
   simp only[kV,Bool.or_eq_false_iff,P9]at hb;omega
  have bz:(l=[]∧bT (Re.avs l)=.nils)∨(l ≠ []∧bT (Re.avs l)=.slc .ro (Re.avs l)):=by
   cases l with
   |nil=>exact .inl ⟨rfl,rfl⟩
   |cons x l=>exact .inr ⟨by simp,rfl⟩
  have hcont:=fun kk=>hcont kk hd1;by_cases e0:k=0
  ·subst e0;have hu:(Re.mk 0 [a,b,c,d] mn mx l).can dh ay=(decide (l.length=0)&&decide (dh≠4)):=by unfold Re.can;simp[hb]
   rw[hu];rcases bz with⟨rfl,bz⟩|⟨hl,bz⟩
   ·simp[wI,yQ,yP,yO,yN,yM,yL,yK,yV,yU,yT,yS,yR,pI,wL,wK,wJ,bG hs,bJ hs,dn hs,dm hs,bz];rfl
   ·have hl0:((l.length:Int)==0)=false:=by simp[hl]
    simp[wI,yQ,yP,yO,yN,yM,yL,yK,yV,yU,yT,yS,yR,pI,wL,wK,wJ,bG hs,bJ hs,dn hs,dm hs,bz,ed,hl0,hl]
  by_cases e123:k=1∨k=2∨k=3
  ·have hu:(Re.mk k [a,b,c,d] mn mx l).can dh ay=decide (l.length=0):=by unfold Re.can;simp[hb,e0,e123]
   rw[hu];rcases bz with⟨rfl,bz⟩|⟨hl,bz⟩
   ·rcases e123 with rfl|rfl|rfl;all_goals simp[wI,yQ,yP,yO,yN,yM,yL,yK,yV,yU,yT,yS,yR,pI,wL,wK,wJ,bG hs,bJ hs,dn hs,dm hs,bz]
   ·have hl0:((l.length:Int)==0)=false:=by simp[hl]
    rcases e123 with rfl|rfl|rfl;all_goals simp[wI,yQ,yP,yO,yN,yM,yL,yK,yV,yU,yT,yS,yR,pI,wL,wK,wJ,bG hs,bJ hs,dn hs,dm hs,bz,ed,hl0,hl]
  by_cases e45:k=4∨k=5
  ·have hu:(Re.mk k [a,b,c,d] mn mx l).can dh ay=if dh=k∨l.length<2 then false else Re.canL l k ay:=by unfold Re.can;simp[hb,e0,e123,e45]
   rw[hu];by_cases ew:dh=k
   ·subst ew;rcases e45 with rfl|rfl;all_goals simp[wI,yQ,yP,yO,yN,yM,yL,yK,yV,yU,yT,yS,yR,pI,wL,wK,wJ,bG hs,bJ hs,dn hs,dm hs]
   have ew':(dh==k)=false:=by simpa using ew
   rcases bz with⟨rfl,bz⟩|⟨hl,bz⟩
   ·rcases e45 with rfl|rfl;all_goals simp[wI,yQ,yP,yO,yN,yM,yL,yK,yV,yU,yT,yS,yR,pI,wL,wK,wJ,bG hs,bJ hs,dn hs,dm hs,bz,ew']
   ·by_cases e2:l.length<2
    ·have e2':(l.length:Int)<2:=by omega
     rcases e45 with rfl|rfl;all_goals simp[wI,yQ,yP,yO,yN,yM,yL,yK,yV,yU,yT,yS,yR,pI,wL,wK,wJ,bG hs,bJ hs,dn hs,dm hs,bz,ew',ed,e2,e2']
    ·have e2':¬(l.length:Int)<2:=by omega
     rcases e45 with rfl|rfl;all_goals
      rw[bz]at hcont;simp[wI,yQ,yP,yO,yN,yM,yL,yK,yV,yU,yT,yS,yR,pI,wL,wK,wJ,bG hs,bJ hs,dn hs,dm hs,bz,ew',ed,e2,e2',ew,hcont]
  by_cases e6:k=6
  ·subst e6;have hu:(Re.mk 6 [a,b,c,d] mn mx l).can dh ay=if lQ l.length mn mx then false else Re.canL l 6 ay:=by unfold Re.can;simp[hb]
   rw[hu];simp[wI,yQ,yP,yO,yN,yM,yL,yK,yV,yU,yT,yS,yR,bG hs,bJ hs,dn hs,dm hs];refine zqR ?_ rfl ?_
   ·simp
   cases hrb:lQ l.length mn mx with
   |true=>simp[wL,wK,wJ,bG hs,bJ hs,dn hs,dm hs]
   |false=>
    rcases bz with⟨rfl,bz⟩|⟨hl,bz⟩
    all_goals
     rw[bz]at hcont ⊢;simp[wL,wK,wJ,bG hs,bJ hs,dn hs,dm hs,hcont]
  ·have hu:(Re.mk k [a,b,c,d] mn mx l).can dh ay=false:=by unfold Re.can;simp[hb,e0,e123,e45,e6]
   rw[hu];have b0:(k==0)=false:=by simpa using e0
   have b1:(k==1)=false:=by simp;omega
   have b2:(k==2)=false:=by simp;omega
   have b3:(k==3)=false:=by simp;omega
   have b4:(k==4)=false:=by simp;omega
   have b5:(k==5)=false:=by simp;omega
   have b6:(k==6)=false:=by simpa using e6
   simp[wI,yQ,yP,yO,yN,yM,yL,yK,yV,yU,yT,yS,yR,pI,wL,wK,wJ,bG hs,bJ hs,dn hs,dm hs,b0,b1,b2,b3,b4,b5,b6]
mutual
theorem XA:∀(r:Re),r.wide->∀(dh ay:Int),0<=ay->ay<=1000->∀(ae:Nat)(H:aj),Rn ak S.sp ae 65 [r.av,.int .i64 dh,.int .i64 ay] H=some (.ret (.bool (r.can dh ay)),H)
 | .mk k set mn mx l,hw,dh,ay,h0,h1,ae,H=>zqS hw ⟨h0,h1⟩ (fun x hx w d d0 d1 ae H=>zfe l (by unfold Re.wide at hw;exact hw.2.2.2) x hx w d d0 d1 ae H) H
theorem zfe:∀(l:List Re),Re.wideL l->∀x∈l,∀(dh ay:Int),0<=ay->ay<=1000->∀(ae:Nat)(H:aj),Rn ak S.sp ae 65 [x.av,.int .i64 dh,.int .i64 ay] H=some (.ret (.bool (x.can dh ay)),H)
 | [],_=>fun x hx=>by cases hx
 |y::l,hw=>fun x hx w d d0 d1 ae H=>by
  unfold Re.wideL at hw;rcases il.1 hx with e|h
  ·rw[e];exact XA y hw.1 w d d0 d1 ae H
  ·exact zfe l hw.2 x h w d d0 d1 ae H
end
theorem zsj{r:Re}(hw:r.wide)(H:aj):Rn ak S.sp ae 81 [r.av] H=some (.ret (.bool (r.can (-1) 1)),H):=by
 have hs:=S.mono;refine BJ hs rfl rfl (by simp only[dG,qU,gq];rfl) rfl ?_;rw[env81];have hc:=XA (S:=S) r hw (-1) 1 (by omega) (by omega);obtain⟨c,aH,bM⟩:=Re.av_agg hw;rw[aH]at hc ⊢;have fQ:8<=c.length:=by omega
 have bV:List.take 8 c=c:=ek (by omega);simp[a81,zfN,zfM,bG hs,bJ hs,bM,fQ,bV,hc]
def Re.states(r:Re):Nat:=if r.can (-1) 1 then min r.cap 500+1 else 0
theorem zjV{r:Re}(hw:r.wide)(H:aj):Rn ak S.sp ae 57 [r.av] H=some (.ret (ag r.states),H):=by
 have hs:=S.mono;refine BJ hs rfl rfl (by simp only[dG,qU,gq];rfl) rfl ?_;rw[env57];have hC:=fun ae H=>zsj (S:=S) (ae:=ae) hw H;have qi:=fun h=>zeW (S:=S) r (-1) 1 h hw (by omega);obtain⟨c,aH,bM⟩:=Re.av_agg hw;rw[aH]at hC qi ⊢;have fQ:8<=c.length:=by omega
 have bV:List.take 8 c=c:=ek (by omega);unfold Re.states;cases h:r.can (-1) 1 with
 |false=>
  rw[h]at hC;simp[a57,SH,SG,SF,SE,bG hs,bJ hs,dm hs,bM,fQ,bV,hC]
 |true=>
  rw[h]at hC;have qi:=qi h;by_cases h5:(500:Int)<(r.cap:Int)
  ·have:min r.cap 500=500:=by omega
   simp[a57,SH,SG,SF,SE,bG hs,bJ hs,dm hs,bM,fQ,bV,hC,qi,h5,this,aM]
  ·have:min r.cap 500=r.cap:=by omega
   have aT:IntKind.i64.wrap ((r.cap:Int)+1)=(r.cap:Int)+1:=aM _ (by omega);simp[a57,SH,SG,SF,SE,bG hs,bJ hs,dm hs,bM,fQ,bV,hC,qi,h5,this,aT]
end
section
variable {S:Sp} {ae:Nat}
theorem zqk{H:aj}{p:Nat}{L:List NS}{first:Nat}(hb:ae<=p)(hl:L.length<1000000)(h:PH H p L first):
  Wc (Rn ak S.sp ae 58 [.ptr p 0,.agg [.int .i64 4,.int .u64 0,.int .u64 0,.int .u64 0,.int .u64 0,.int .i64 0,.int .i64 0]] H) (fun o H'=>o=.ret (ag L.length)∧PH H' p (L ++[⟨4,dL,0,0⟩]) first∧Front p H H'):=
 RF ⟨4,dL,0,0⟩ hb rfl hl h
def zsl(r:Re)(H:aj)(o:Out)(H':aj):Prop:=
 (r.states=0∧o=.ret (.tup [.nilp,.int .i64 1])∧H'=H)∨(500<r.states∧o=.ret (.tup [.nilp,.int .i64 2])∧H'=H)∨
 (0<r.states∧r.states<=500∧o=.ret (.tup [.ptr H.length 0,.int .i64 0])∧(∀i,i<H.length->eB H' i=eB H i)∧∃q,H.length<q∧PC H' H.length q (lF r).2 (lF r).1)
theorem zsk{H:aj}{r:Re}(hw:r.wide)(hb:ae<=H.length):Wc (Rn ak S.sp ae 34 [r.av] H) (zsl r H):=by
 have hs:=S.mono;refine zL hs rfl rfl rfl ?_;rw[env34];have hS:=fun H=>zjV (S:=S) (ae:=ae) hw H;obtain⟨c,aH,bM⟩:=Re.av_agg hw;have fQ:8<=c.length:=by omega
 have bV:List.take 8 c=c:=ek (by omega);by_cases h0:r.states=0
 ·rw[h0]at hS;rw[aH]at hS ⊢;simp[TB,TA,Tz,Ty,Tx,Tw,a34,bG hs,bJ hs,dn hs,dm hs,bM,fQ,bV,hS];exact .inl ⟨h0,rfl,rfl⟩
 by_cases h5:500<r.states
 ·rw[aH]at hS ⊢;have jd:((r.states:Int)==0)=false:=by simp;omega
  have jh:(500:Int)<(r.states:Int):=by omega
  simp[TB,TA,Tz,Ty,Tx,Tw,a34,bG hs,bJ hs,dn hs,dm hs,bM,fQ,bV,hS,jd,jh];exact .inr (.inl ⟨h5,rfl,rfl⟩)
 ·have hcan:r.can (-1) 1=true:=by
   cases h:r.can (-1) 1 with
   |true=>rfl
   |false=>simp[Re.states,h]at h0
  have dx:r.states=min r.cap 500+1:=by simp[Re.states,hcan]
  have mZ:r.cap<=499:=by omega
  have Cb:=Re.can_fine r (-1) 1 hcan;have qi:=Re.cap_cnt r (-1) 1 hcan (by omega);have hP0:PH (H ++[some [.nils,.int .i64 0]]) H.length [] 0:=⟨.nils,rR _ _,show F5 []∧_ from⟨fun x hx=>(by cases hx),.inl ⟨rfl,rfl⟩⟩⟩
  obtain⟨o,H1,hcall1,rfl,hP1,hF1⟩:=zqk (S:=S) (ae:=ae) hb (by simp) hP0;simp only[gW,gV]at hcall1 hP1;have hcall1:Rn ak S.sp ae 58 [.ptr H.length 0,.agg [.int .i64 4,.int .u64 0,.int .u64 0,.int .u64 0,.int .u64 0,.int .i64 0,.int .i64 0]] (H ++[some [.nils,.int .i64 0]])=some (.ret (.int .i64 0),H1):=hcall1;obtain⟨o,H2,x8,rfl,hP2,hF2⟩:=zfi (S:=S) r Cb hw ae H.length H1 [⟨4,dL,0,0⟩] 0 0 hb hP1 (by simp;omega);have x8:Rn ak S.sp ae 59 [.ptr H.length 0,r.av,.int .i64 0] H1=some (.ret (ag (lF r).1),H2):=x8;obtain⟨lv,d1,d2,d3⟩:=hP2;have hml:=(Wz Cb).2.2.2;rcases d3 with⟨d4,_⟩|⟨q,rfl,d4,d5⟩
  ·exfalso;have:(lF r).2.length=0:=by unfold lF;rw[d4];rfl
   omega
  have aR:H.length≠q:=by omega
  rw[aH]at hS x8 ⊢;have jd:((r.states:Int)==0)=false:=by simp;omega
  have jh:¬(500:Int)<(r.states:Int):=by omega
  simp[a34,TB,TA,Tz,Ty,Tx,Tw,zhc,zhd,zhb,bG hs,bJ hs,lm hs,dn hs,dm hs,bM,fQ,bV,hS,jd,jh,hcall1,x8,d1,hb];refine .inr (.inr ⟨by omega,by omega,rfl,fun i hi=>?_,q,d4,⟨?_,?_,d2⟩⟩)
  ·rw[kU _ (by omega),hF2.2 i hi,hF1.2 i hi,l9 _ hi]
  ·rw[dB _ (fA d1)];rfl
  ·rw[kU _ aR];exact d5
end
section
variable {S:Sp} {ae:Nat}
theorem zd5(n0:Nat)(H:aj):∀(l:List Nat)(r:List AV),bg n0 H (l.map u64++r)=(match bg n0 H r with|some bs=>some (l.map u64++bs)|none=>none)
 | [],r=>by simp only[xG,gV];cases bg n0 H r<;>rfl
 |a::l,r=>by
  simp only[mE,kg,bg,aN,zd5 n0 H l r];cases bg n0 H r<;>rfl
mutual
theorem x9(n0:Nat)(H:aj):∀(r:Re),aN n0 H r.av=some r.av
 | .mk k set mn mx l=>by
  have h:=zd4 n0 H l;rw[Re.av];simp only[aN,bg,zd5];cases l with
  |nil=>simp[Re.avs,bT,aN]
  |cons x l=>simp only[Re.avs,bT,aN]at h ⊢;rw[h]
theorem zd4(n0:Nat)(H:aj):∀(l:List Re),bg n0 H (Re.avs l)=some (Re.avs l)
 | []=>by simp[Re.avs,bg]
 |x::l=>by simp[Re.avs,bg,x9 n0 H x,zd4 n0 H l]
end
theorem wD{l:List Re}(h:Re.wideL l):jF 8 (Re.avs l)=true:=by
 cases l with
 |nil=>rfl
 |cons x l=>
  unfold Re.wideL at h;obtain⟨cs,aH,bM⟩:=Re.av_agg h.1;simp[Re.avs,jF,aH,AV.cells,bM,step,jv]
theorem ym(a b:List Re):Re.avs a++Re.avs b=Re.avs (a++b):=by simp[Re.avs_map]
def EW(a:AV)(l:List Re):Prop:=a=.slc .ro (Re.avs l)∨(l=[]∧a=.nils)
theorem Re.av_eight{r:Re}(h:r.wide):∃c1 c2 c3 c4 c5 c6,r.av=.agg [.int .i64 r.k,c1,c2,c3,c4,c5,c6,bT (Re.avs r.l)]:=by
 obtain⟨k,set,mn,mx,l⟩:=r;unfold Re.wide at h;obtain⟨a,b,c,d,rfl⟩:=four h.1;exact⟨_,_,_,_,_,_,by rw[Re.av];rfl⟩
theorem JJ(k:Int)(a b:List Re):dS k (a++b)=dS k a++dS k b:=by simp[dS]
theorem zn2{k:Int}{a:AV}{l:List Re}(ha:EW a l)(hw:Re.wideL l)(bq:(dS k l).length+l.length<1000000){H:aj}:
  ∀(aY:List Re)(i:Nat)(v:Nat->AV),i<=l.length->l.drop i=aY->v 0=.int .i64 k->v 1=a->v 6=ag i->v 5=.slc .own (Re.avs (dS k (l.take i)))->
   Wp (aP ak S.sp ae (.loop a3l9) (az 2392674742044787 v,H)) (fun e t=>e=.exit 0∧∃v',t=(az 2392674742044787 v',H)∧v' 0=.int .i64 k∧v' 4=v 4∧v' 5=.slc .own (Re.avs (dS k l))):=by
 have hs:=S.mono;intro aY;induction aY with
 |nil=>
  intro i v hi hr v0 v1 v6 v5;have aK:i=l.length:=by
   have:=dF List.length hr;rw[kZ]at this;simp at this;omega
  subst aK;rw[lZ hs a3l9.eq_1];rcases ha with rfl|⟨rfl,rfl⟩
  ·simp[bG hs,bJ hs,dn hs,dm hs,Fz,v1,v6,ed];exact⟨_,rfl,by simpa using v0,by simp,by simpa using v5⟩
  ·simp[bG hs,bJ hs,dn hs,dm hs,Fz,v1,v6,ed];exact⟨_,rfl,by simpa using v0,by simp,by simpa using v5⟩
 |cons x aY ihr=>
  intro i v hi hr v0 v1 v6 v5;have aK:i<l.length:=by
   have:=dF List.length hr;rw[kZ]at this;simp at this;omega
  have jE:=iJ aK;rw[hr]at jE;obtain⟨hx,gF⟩:=zQ jE;have jC:x∈l:=hx▸mO aK;have hxw:=kz.1 hw x jC;obtain⟨c1,c2,c3,c4,c5,c6,aH⟩:=Re.av_eight hxw;have hg:(Re.avs l)[i]?=some (.agg [.int .i64 x.k,c1,c2,c3,c4,c5,c6,bT (Re.avs x.l)]):=by rw[sZ aK,←hx,aH]
  have ha':a=.slc .ro (Re.avs l):=by
   rcases ha with h|⟨rfl,_⟩
   ·exact h
   ·simp at aK
  subst ha';have htake:l.take (i+1)=l.take i ++[x]:=by rw[List.take_succ_eq_append_getElem aK,hx]
  have hju:dS k (l.take (i+1))=dS k (l.take i)++x.part k:=by rw[htake,JJ];simp[dS]
  have hsplit:dS k l=dS k (l.take (i+1))++dS k (l.drop (i+1)):=by rw[←JJ,Gb]
  have iV:(dS k (l.take i)).length+(x.part k).length<=(dS k l).length:=by
   rw[hsplit,hju];simp only[iF];omega
  have hwt:Re.wideL (dS k (l.take i)):=Jk (kz.2 fun y hy=>kz.1 hw y (vU hy));have bF:=wD hwt;have aT:IntKind.i64.wrap ((i:Int)+1)=(i:Int)+1:=aM _ (by omega);have eH:∀v',v' 0=.int .i64 k->v' 1=.slc .ro (Re.avs l)->v' 6=ag (i+1)->v' 4=v 4->v' 5=.slc .own (Re.avs (dS k (l.take (i+1))))->
    Wp (aP ak S.sp ae (.loop a3l9) (az 2392674742044787 v',H)) (fun e t=>e=.exit 0∧∃v',t=(az 2392674742044787 v',H)∧v' 0=.int .i64 k∧v' 4=v 4∧v' 5=.slc .own (Re.avs (dS k l))):=fun v' w0 w1 w6 w4 w5=>by
   rw[←w4];exact ihr (i+1) v' (by omega) gF.symm w0 w1 w6 w5
  rw[lZ hs a3l9.eq_1];by_cases hk:x.k=k
  ·have hp:x.part k=x.l:=by simp[Re.part,hk]
   have hok2:jF 8 (Re.avs x.l)=true:=wD (by rw[←hp];exact VD hxw);rw[hp]at iV hju;rw[hju,←ym]at eH;have cu:((dS k (l.take i)).length+x.l.length)*8<=4294967296:=by omega
   have bz:(x.l=[]∧bT (Re.avs x.l)=.nils)∨bT (Re.avs x.l)=.slc .ro (Re.avs x.l):=by
    cases x.l with
    |nil=>exact .inl ⟨rfl,rfl⟩
    |cons y l=>exact .inr rfl
   rcases bz with⟨hxl,bz⟩|bz
   ·rw[hxl]at eH cu hok2;simp only[Re.avs,ry]at eH;have hle0:(dS k (l.take i)).length*8<=4294967296:=by simpa using cu
    simp[bG hs,bJ hs,dn hs,dm hs,Fz,Kl,Kk,Kj,Ki,Kh,v0,v1,v6,v5,ed,aK,hg,hk,bz,aT,bF,hle0];refine(eH _ ?_ ?_ ?_ ?_ ?_).mono fun e t h=>by simpa using h
    all_goals simp[v0,v1]
   ·simp[bG hs,bJ hs,dn hs,dm hs,Fz,Kl,Kk,Kj,Ki,Kh,v0,v1,v6,v5,ed,aK,hg,hk,bz,aT,bF,hok2,cu];refine(eH _ ?_ ?_ ?_ ?_ ?_).mono fun e t h=>by simpa using h
    all_goals simp[v0,v1]
  ·have hk':(x.k==k)=false:=by simpa using hk
   by_cases h0:x.k=0
   ·have jd:(x.k != 0)=false:=by simp[h0]
    by_cases h5:k=5
    ·have jh:(k==5)=true:=by simp[h5]
     have hp:x.part k=[x]:=by unfold Re.part;rw[aF hk,aS (.inr h5)]
     rw[hp]at iV hju;rw[hju,←ym]at eH;simp only[Re.avs,aH]at eH;have cu:((dS k (l.take i)).length+1)*8<=4294967296:=by simp only[fF,gW]at iV;omega
     simp[bG hs,bJ hs,dn hs,dm hs,Fz,Kl,Kk,Kj,Ki,Kh,v0,v1,v6,v5,ed,aK,hg,hk',jd,jh,aT,bF,cu];refine(eH _ ?_ ?_ ?_ ?_ ?_).mono fun e t h=>by simpa using h
     all_goals simp[v0,v1]
    ·have jh:(k==5)=false:=by simpa using h5
     have hp:x.part k=[]:=by unfold Re.part;rw[aF hk,aF (by omega)]
     rw[hp,ry]at hju;rw[hju]at eH;simp[bG hs,bJ hs,dn hs,dm hs,Fz,Kl,Kk,Kj,Ki,Kh,v0,v1,v6,v5,ed,aK,hg,hk',jd,jh,aT];refine(eH _ ?_ ?_ ?_ ?_ ?_).mono fun e t h=>by simpa using h
     all_goals simp[v0,v1,v5]
   ·have jd:(x.k != 0)=true:=by simpa using h0
    have hp:x.part k=[x]:=by simp[Re.part,hk,h0]
    rw[hp]at iV hju;rw[hju,←ym]at eH;simp only[Re.avs,aH]at eH;have cu:((dS k (l.take i)).length+1)*8<=4294967296:=by simp only[fF,gW]at iV;omega
    simp[bG hs,bJ hs,dn hs,dm hs,Fz,Kl,Kk,Kj,Ki,Kh,v0,v1,v6,v5,ed,aK,hg,hk',jd,aT,bF,cu];refine(eH _ ?_ ?_ ?_ ?_ ?_).mono fun e t h=>by simpa using h
    all_goals simp[v0,v1]
end
section
variable {S:Sp} {ae:Nat}
theorem zsf{k:Int}{a:AV}{l:List Re}(ha:EW a l)(hw:Re.wideL l)(bq:(dS k l).length+l.length<1000000)(H:aj):Rn ak S.sp ae 3 [.int .i64 k,a] H=some (.ret (eX k l).av,H):=by
 have hs:=S.mono;have hca:dG [.int .i64 k,a]=true:=by
  rcases ha with rfl|⟨rfl,rfl⟩
  ·simp[dG,gq,Rv]
  ·simp[dG,gq]
 refine BJ hs rfl rfl hca rfl ?_;rw[env3];have bY:=Jk (k:=k) hw;have hend:∀(v:Nat->AV),v 0=.int .i64 k->v 1=a->v 6=ag 0->v 5=.slc .own []->v 4=.box [.int .i64 0,.int .u64 0,.int .u64 0,.int .u64 0,.int .u64 0,.int .i64 0,.int .i64 0,.nils]->
   Wp (aP ak S.sp 0 (.loop a3l9) (az 2392674742044787 v,[])) (fun e t=>e=.exit 0∧∃v',t=(az 2392674742044787 v',[])∧v' 0=.int .i64 k∧v' 4=.box [.int .i64 0,.int .u64 0,.int .u64 0,.int .u64 0,.int .u64 0,.int .i64 0,.int .i64 0,.nils]∧v' 5=.slc .own (Re.avs (dS k l))):=by
  intro v v0 v1 v6 v5 v4;rw[←v4];exact zn2 ha hw bq l 0 v (by omega) rfl v0 v1 v6 (by simpa[dS,Re.avs]using v5)
 have gI:∀r:Re,aN 0 [] r.av=some r.av:=x9 0 [];unfold eX;rcases ha with rfl|⟨rfl,rfl⟩
 all_goals
  simp[a3r0,a3r1,a3r2,a3,bG hs,bJ hs,dn hs];refine(hend _ ?_ ?_ ?_ ?_ ?_).mono fun e t h=>?_
  ·simp
  ·simp
  ·simp
  ·simp
  ·simp
  ·obtain⟨rfl,v',rfl,w0,w4,w5⟩:=h;generalize dS k _=J at w5 bY;match J,w5,bY with
   | [],w5,bY=>
    have:=gI emptyRe;simp only[emptyRe,Re.av,dL,Re.avs,bT,mE,xG,kg,gV]at this;simp[Tt,Tq,Tp,Tn,Tm,bG hs,bJ hs,dm hs,w0,w4,w5,Re.avs,sJ,emptyRe,Re.av,dL,bT];exact this
   | [x],w5,bY=>
    obtain⟨c1,c2,c3,c4,c5,c6,aH⟩:=Re.av_eight (by simpa[Re.wideL]using bY:x.wide);have:=gI x;rw[aH]at this;simp only[Re.avs,aH]at w5;simp[Tt,Tq,Tp,Tn,Tm,bG hs,bJ hs,dm hs,w0,w4,w5,sJ,aH];exact this
   |x::y::J,w5,bY=>
    have:=gI (sJ k (x::y::J));simp only[sJ,Re.av,dL,bT,Re.avs,mE,xG,kg,gV]at this;have hl1:(((Re.avs J).length:Int)+1+1==0)=false:=by simp;omega
    have hl2:(((Re.avs J).length:Int)+1+1==1)=false:=by simp;omega
    simp only[Re.avs]at w5;simp[Tt,Tq,Tp,Tn,Tm,bG hs,bJ hs,dm hs,w0,w4,w5,sJ,hl1,hl2,Re.av,dL,bT,Re.avs];exact this
end
section
variable {S:Sp} {ae:Nat}
theorem zdU(n:Nat)(h:n<256)(k:Int)(hk:k=n):IntKind.u8.wrap k=n:=by
 subst hk;simp only[IntKind.wrap,IntKind.bits,IntKind.signed];simp;omega
theorem zjo(k:Nat)(h:k<64):IntKind.u64.wrap (2^k)=((2^k:Nat):Int):=by
 have h1:2^k<2^64:=Nat.pow_lt_pow_right (by omega) h;have e:(2:Int)^k=((2^k:Nat):Int):=by push_cast;rfl
 rw[e];generalize 2^k=P at h1;simp only[IntKind.wrap,IntKind.bits,IntKind.signed];simp;omega
end
end Go.Ak
