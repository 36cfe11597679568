/- A text parted by a pattern, and by any separator. -/
import Derived.Test.YtfcgnpphabplbaaGreatDoorPk
import Derived.Test.YtfcgnpphabplbaaGreatDoorPo
import Derived.ProofKit
import Derived.Test.YtfcgnpphabplbaaGreatDoorPd
set_option linter.unusedVariables false
set_option linter.unusedSimpArgs false
namespace Go.Ak
attribute [local simp] Av EA EC EB mM zK wH Cy CB Cz BP BM BN Ac Cs Cq Cr Bz BA
 jP kr wanted cB dZ l8 live BR zU Aj Bw xN put vZ esc sS yn args drop1 jv xV xU yj qX rd wr kW sub AV.cells pack one setCells nJ qI qJ roOf gT qF jI jy mf eY newRow newObj step Ce Cf qR take cz bB lim mG bound uh ww uu nO yf fO
 Cm Ck Ch Ci Cj
 pY ru Ap rR BZ Ca BX
attribute [local simp] sR sT cV bL kA kB kC af aQ aJ gK ah aC dC aA eQ iY fI bH eO bD bN gQ rU bI rF aL dI eZ fK gp lX bW iQ df cO jc dP dM gm mJ fH gH iq iR lc ku fB jX iH iI
attribute [-simp] getElem?_pos
section
theorem zqX(a b:List UInt8):iD (a++b)=iD a++iD b:=by simp[iD]
theorem zb4:∀(s:List UInt8),strOf (iD s)=some s
 | []=>rfl
 |c::s=>by
  have ih:=zb4 s;simp only[iD]at ih;simp[iD,strOf,ih]
end
section
theorem znd{s:List UInt8}{y:Re}{j:Nat}(h:rG s=.ok y j):y.can (-1) 1=true:=by
 unfold rG at h;split at h
 ·cases h
 split at h
 ·cases h
 split at h
 ·cases h
 ·rename_i h0 _;simp only[PR.ok.injEq]at h;obtain⟨rfl,rfl⟩:=h;rename_i z _ _ _;cases hc:z.can (-1) 1 with
  |true=>rfl
  |false=>exact absurd (by simp[Re.states,hc]) h0
end
section
def lG(p:Nat->Bool):Nat->Int
 |0=> -1
 |n+1=>if p n=true then(n:Int)else lG p n
theorem zdH{p:Nat->Bool}:∀(n:Nat),(∀k,k<n->p k=false)->lG p n= -1
 |0,_=>rfl
 |n+1,h=>by rw[lG,h n (by omega),zdH n fun k hk=>h k (by omega)];rfl
theorem zdI{p:Nat->Bool}{j:Nat}(hj:p j=true):∀(n:Nat),j<n->(∀k,k<n->p k=true->k<=j)->lG p n=j
 |0,h,_=>by omega
 |n+1,h,hm=>by
  rw[lG];by_cases e:j=n
  ·subst e;rw[aS hj]
  ·rw[aF fun k=>by have:=hm n (by omega) k;omega];exact zdI hj n (by omega) fun k hk=>hm k (by omega)
theorem znW{r:Re}(hf:r.fine)(hc:r.can (-1) 1=true){s:List UInt8}{i:Nat}(hi:i<=s.length):lG (r.tab s i) (s.length+1)=eF r s i:=by
 have bF:=Re.tab_ok s r (-1) 1 hc;rcases Xj hf hi with⟨e,hno⟩|⟨j,e,hm,hmax⟩
 ·rw[e];refine zdH _ fun k hk=>?_;cases h:r.tab s i k with
  |false=>rfl
  |true=>exact absurd ((bF i k (by omega) hk).1 h) (hno k)
 ·rw[e];have hj:=Re.M_stays s r i j (by omega) hm;exact zdI ((bF i j (by omega) hj).2 hm) (s.length+1) hj fun k hk h=>hmax k ((bF i k (by omega) hk).1 h)
theorem znI{ae:Nat}{H:aj}{n:Nat}{p:Nat->Bool}(hn:n<=1000):∀(m i:Nat)(v:Nat->AV),i+m=n->v 0=.slc .ro (dY n p)->v 4=ag i->v 3=.int .i64 (lG p i)->
  Wp (aP ak SA.sp ae (.loop a155l7) (az 16669 v,H)) (fun e t=>e=.exit 0∧∃v',t=(az 16669 v',H)∧v' 3=.int .i64 (lG p n)):=by
 intro m;induction m with
 |zero=>
  intro i v hi v0 v4 v3;have aK:i=n:=by omega
  subst aK;rw[bu a155l7.eq_1];simp[au,UT,v0,v4,iK];exact⟨_,rfl,by simp[v3]⟩
 |succ m ih=>
  intro i v hi v0 v4 v3;have aK:i<n:=by omega
  have aT:IntKind.i64.wrap ((i:Int)+1)=(i:Int)+1:=aM _ (by omega);have hg:=sF p aK;rw[bu a155l7.eq_1];cases hp:p i with
  |false=>
   rw[hp]at hg;simp[au,UT,Z6,Z5,Z4,v0,v3,v4,iK,aK,aT,hg];refine ih (i+1) _ (by omega) ?_ ?_ ?_
   ·simp[v0]
   ·simp
   ·simp[v3,lG,hp]
  |true=>
   rw[hp]at hg;simp[au,UT,Z6,Z5,Z4,v0,v3,v4,iK,aK,aT,hg];refine ih (i+1) _ (by omega) ?_ ?_ ?_
   ·simp[v0]
   ·simp
   ·simp[lG,hp]
theorem znH{ae:Nat}{H:aj}{n:Nat}{p:Nat->Bool}(hn:n<=1000):Rn ak SA.sp ae 155 [.slc .ro (dY n p)] H=some (.ret (.int .i64 (lG p n)),H):=by
 have qj:dG [AV.slc .ro (dY n p)]=true:=by
  have:=ze3 (List.range n) p;simp only[dG,gq,dY,this];rfl
 refine di rfl rfl qj rfl ?_;rw[zpw];simp[iO,zhS,zhR,zhQ,a155];refine(znI (ae:=0) (H:=[]) (p:=p) hn n 0 _ (by omega) ?_ ?_ ?_).mono fun e t h=>?_
 ·simp
 ·simp
 ·simp[lG]
 obtain⟨rfl,v',rfl,k3⟩:=h;simp[dX,zhP,k3]
theorem zld{ae:Nat}{H:aj}{n:Nat}{f:Nat->Nat->Bool}(hn:n<=1000):∀(m i:Nat)(v:Nat->AV),i+m=n->v 0=.slc .ro (bZ n f)->v 7=ag i->
  Wp (aP ak SA.sp ae (.loop a152l7) (az 4202995 v,H)) (fun e t=>match ji (fun i=>lG (f i) n) m i with
   |none=>e=.exit 0∧∃v',t=(az 4202995 v',H)
   |some (a,b)=>e=.ret∧∃v',t=(az 4202995 v',H)∧v' 4=ag a∧v' 5=ag b∧v' 6=.bool true):=by
 intro m;induction m with
 |zero=>
  intro i v hi v0 v7;have aK:i=n:=by omega
  subst aK;rw[bu a152l7.eq_1];simp[au,U3,v0,v7,gB,ji];exact⟨_,rfl⟩
 |succ m ih=>
  intro i v hi v0 v7;have aK:i<n:=by omega
  have aT:IntKind.i64.wrap ((i:Int)+1)=(i:Int)+1:=aM _ (by omega);have hg:=Jv f aK;have bf:=fun H=>znH (ae:=ae) (H:=H) (n:=n) (p:=f i) hn;rw[bu a152l7.eq_1,ji];by_cases h:0<=lG (f i) n
  ·rw[aS h];have hb:ag (lG (f i) n).toNat=.int .i64 (lG (f i) n):=by simp only[ag,AV.int.injEq,Bj];omega
   simp[au,U3,zad,zac,zab,v0,v7,gB,aK,hg,bf,h];exact⟨_,rfl,by simp,by simp;omega,by simp⟩
  ·rw[aF h];simp[au,U3,zad,zac,zab,zhU,v0,v7,gB,aK,hg,bf,h,aT];refine ih (i+1) _ (by omega) ?_ ?_
   ·simp[v0]
   ·simp
theorem zlc{ae:Nat}{H:aj}{n:Nat}{f:Nat->Nat->Bool}(hn:n<=1000){i:Nat}(hi:i<=n):Rn ak SA.sp ae 152 [.slc .ro (bZ n f),ag i] H=some (.ret (Au (ji (fun i=>lG (f i) n) (n-i) i)),H):=by
 have qj:dG [.slc .ro (bZ n f),ag i]=true:=by
  have h1:=JW n f;simp only[dG,h1];rfl
 refine di rfl rfl qj rfl ?_;rw[zpy];simp[iO,zhW,zhV,a152];refine(zld (ae:=0) (H:=[]) (f:=f) hn (n-i) i _ (by omega) ?_ ?_).mono fun e t h=>?_
 ·simp
 ·simp
 cases hq:ji (fun i=>lG (f i) n) (n-i) i with
 |none=>
  rw[hq]at h;obtain⟨rfl,v',rfl⟩:=h;simp[dX,zhT,Au,aN,bg]
 |some x=>
  obtain⟨a,b⟩:=x;rw[hq]at h;obtain⟨rfl,v',rfl,q6,q7,q8⟩:=h;simp[q6,q7,q8,Au,aN,bg]
end
section
def iM(l:List (Nat×Nat)):List AV:=(l.map EZ).map MG
theorem uk(l:List (Nat×Nat)):(iM l).length=l.length:=by simp[iM]
theorem Wo(l m:List (Nat×Nat)):iM (l++m)=iM l++iM m:=by simp[iM]
theorem Wn(f t:Nat):iM [(f,t)]=[.agg [ag f,ag t]]:=rfl
theorem zdZ(l:List (Nat×Nat)):jF 2 (iM l)=true:=by
 cases l with
 |nil=>rfl
 |cons x l=>rfl
theorem zou(H:aj)(p:Perm)(l:List (Nat×Nat)):aN 0 H (.slc p (iM l))=some (.slc p (iM l)):=by
 have:bg 0 H (iM l)=some (iM l):=by
  unfold iM;induction l with
  |nil=>rfl
  |cons x l ih=>simp only[mE,bg,MG,aN,ih]
 simp only[aN,this]
def uo:List (Nat×Nat)->Int
 | []=> -1
 | [x]=>x.2
 |_::y::l=>uo (y::l)
theorem ML:∀(l:List (Nat×Nat))(f t:Nat),uo (l ++[(f,t)])=t
 | [],_,_=>rfl
 | [_],_,_=>rfl
 |_::y::l,f,t=>ML (y::l) f t
theorem zcg(l:List (Nat×Nat)):l=[]∨∃o f t,l=o ++[(f,t)]:=by
 rcases List.eq_nil_or_concat l with h|⟨o,q,h⟩
 ·exact .inl h
 ·exact .inr ⟨o,q.1,q.2,by rw[h,List.concat_eq_append]⟩
theorem zec{e g:Nat->Int}:∀(m i:Nat),(∀k,i<=k->k<i+m->e k=g k)->ji e m i=ji g m i
 |0,_,_=>rfl
 |m+1,i,h=>by
  rw[ji,ji,h i (aX _) (by omega),zec m (i+1) fun k h1 h2=>h k (by omega) (by omega)]
theorem zft{e g:Nat->Int}{len:Nat}(h:∀k,k<=len->e k=g k):∀(n ax:Nat)(bQ:Int),qw e len n ax bQ=qw g len n ax bQ
 |0,_,_=>rfl
 |n+1,ax,bQ=>by
  rw[qw,qw,zec (e:=e) (g:=g) (len+1-ax) ax fun k h1 h2=>h k (by omega)];have ih:=zft h n;simp only[ih]
theorem zlM{ae:Nat}{H:aj}{s:List UInt8}(hl:s.length<=900){f:Nat->Nat->Bool}(he:Ahead (fun i=>lG (f i) (s.length+1)) s.length):
  ∀(n ax:Nat)(out:List (Nat×Nat))(v:Nat->AV),lU s.length ax (uo out)<=n->out.length+n<=100000->ax<=s.length+1->v 1=.str s->v 5=.slc .own (iM out)->v 6=ag ax->(∃p,v 7=.slc p (bZ (s.length+1) f))->
   Wp (aP ak SA.sp ae (.loop a143l9) (az 140737622837239 v,H)) (fun e t=>(e=.exit 0∧∃v',t=(az 140737622837239 v',H)∧v' 5=.slc .own (iM (out++qw (fun i=>lG (f i) (s.length+1)) s.length n ax (uo out))))∨
    (e=.ret∧∃v',t=(az 140737622837239 v',H)∧v' 4=.slc .own (iM (out++qw (fun i=>lG (f i) (s.length+1)) s.length n ax (uo out))))):=by
 have htl:List.take (s.length+1) (bZ (s.length+1) f)=bZ (s.length+1) f:=ek (by rw[gB];exact aX _);intro n;induction n with
 |zero=>intro ax out v h;unfold lU at h;omega
 |succ n ih=>
  intro ax out v hfu hon dQ v1 v5 v6 ⟨p,v7⟩;rw[bu a143l9.eq_1,qw];by_cases h0:s.length<ax
  ·have jd:¬ax<=s.length:=by omega
   rw[aS h0];simp[au,IB,v1,v6,jd];exact⟨_,rfl,by simp[v5]⟩
  rw[aF h0];have jd:ax<=s.length:=by omega
  have bf:=fun H=>zlc (ae:=ae) (H:=H) (n:=s.length+1) (f:=f) (by omega) (i:=ax) dQ;have htr:List.take out.length (iM out)=iM out:=ek (by rw[uk];exact aX _);have bF:=zdZ out;cases hq:ji (fun i=>lG (f i) (s.length+1)) (s.length+1-ax) ax with
  |none=>
   rw[hq]at bf;simp only[Au]at bf;simp only[ry];cases p <;>
    (simp[au,IB,K7,K6,K5,v1,v5,v6,v7,jd,gB,htl,bf,uk,htr,bF]
     exact⟨_,rfl,by simp⟩)
  |some x=>
   obtain⟨a,b⟩:=x;rw[hq]at bf;simp only[Au]at bf;obtain⟨x1,x2,x3,x4,_⟩:=Rj he _ ax (by omega) hq;have aT:IntKind.i64.wrap ((a:Int)+1)=(a:Int)+1:=aM _ (by omega);have ja:(out.length+1)*2<=4294967296:=by omega
   simp only;by_cases hc:a=b∧(a:Int)=uo out
   · -- an empty one just behind
    rw[aS hc];obtain⟨c1,c2⟩:=hc;subst c1;obtain⟨o',f',t',ho⟩:∃o' f' t',out=o' ++[(f',t')]:=by
     rcases zcg out with h|h
     ·subst h;simp[uo]at c2
     ·exact h
    have hlo:uo out=t':=by rw[ho];exact ML _ _ _
    have hat2:a=t':=by omega
    have hol:out.length=o'.length+1:=by rw[ho];simp
    have hg:(iM out)[o'.length]?=some (.agg [ag f',ag t']):=by
     rw[ho,Wo,Wn,Gd (by rw[uk];exact aX _)];simp[uk]
    have bY:IntKind.i64.wrap ((o'.length:Int)+1-1)=(o'.length:Int):=by rw[aM _ (by omega)];omega
    have hw3:IntKind.i64.wrap (o'.length:Int)=(o'.length:Int):=aM _ (by omega);have dK:=uk out;rw[hol]at dK;have h01:(0:Int)<(o'.length:Int)+1:=by omega
    have hta:((t':Int)==(a:Int))=true:=by simp;omega
    have next:∀w:Nat->AV,w 1=.str s->w 5=.slc .own (iM out)->w 6=ag (a+1)->(∃p,w 7=.slc p (bZ (s.length+1) f))->_:=fun w w1 w5 w6 w7=>ih (a+1) out w (by
     unfold lU at hfu ⊢;have:¬((a+1:Nat):Int)=uo out:=by omega
     rw[aF this];split at hfu<;>omega) (by omega) (by omega) w1 w5 w6 w7
    generalize iM out=A at *;cases p <;>
     (simp[au,IB,K7,K6,K5,OZ,OY,v1,v5,v6,v7,jd,gB,htl,bf,dK,hg,aT,bY,hw3,h01,hta]
      refine next _ ?_ ?_ ?_ ?_
      ·simp[v1]
      ·simp[v5]
      ·simp
      ·simp[v7])
   ·rw[aF hc];have next:∀w:Nat->AV,w 1=.str s->w 5=.slc .own (iM out ++[.agg [ag a,ag b]])->w 6=ag b->(∃p,w 7=.slc p (bZ (s.length+1) f))->_:=fun w w1 w5 w6 w7=>ih b (out ++[(a,b)]) w (by
     rw[ML];unfold lU at hfu ⊢;rw[aS rfl];split at hfu
     ·rename_i e1;by_cases e2:b=ax
      ·exact absurd ⟨by omega,by omega⟩ hc
      ·omega
     ·omega) (by simp;omega) (by omega) w1 (by rw[w5,Wo,Wn]) w6 w7
    simp only[ML,zR,List.singleton_append]at next
    have jG:IntKind.i64.wrap ((a:Int)+1)=(a:Int)+1:=aT;by_cases hab:a=b
    ·subst hab;have c2:¬(a:Int)=uo out:=fun h=>hc ⟨rfl,h⟩;rcases zcg out with ho|⟨o',f',t',ho⟩
     ·subst ho;have hA:iM []=[]:=rfl;rw[hA]at v5;cases p <;>
       (simp[au,IB,K7,K6,K5,OZ,OY,U5,v1,v5,v6,v7,jd,gB,htl,bf,eY,mf]
        refine next _ ?_ ?_ ?_ ?_
        ·simp[v1]
        ·simp[iM]
        ·simp
        ·simp[v7])
     ·have hlo:uo out=t':=by rw[ho];exact ML _ _ _
      have hol:out.length=o'.length+1:=by rw[ho];simp
      have hg:(iM out)[o'.length]?=some (.agg [ag f',ag t']):=by
       rw[ho];rw[Wo,Wn,Gd (by rw[uk];exact aX _)];simp[uk]
      have bY:IntKind.i64.wrap ((o'.length:Int)+1-1)=(o'.length:Int):=by rw[aM _ (by omega)];omega
      have hw3:IntKind.i64.wrap (o'.length:Int)=(o'.length:Int):=aM _ (by omega);have dK:=uk out;rw[hol]at dK ja;have h01:(0:Int)<(o'.length:Int)+1:=by omega
      have hta:((t':Int)==(a:Int))=false:=by simp;omega
      generalize iM out=A at *;cases p <;>
       (simp[au,IB,K7,K6,K5,OZ,OY,U5,v1,v5,v6,v7,jd,gB,htl,bf,dK,hg,bY,hw3,h01,hta,eY,mf,bF,ja]
        refine next _ ?_ ?_ ?_ ?_
        ·simp[v1]
        ·simp
        ·simp
        ·simp[v7])
    ·have hab':((a:Int)==(b:Int))=false:=by simp;omega
     have dK:=uk out;generalize iM out=A at *;cases p <;>
      (simp[au,IB,K7,K6,K5,OZ,OY,U5,v1,v5,v6,v7,jd,gB,htl,bf,dK,hab',eY,mf,bF,ja]
       refine next _ ?_ ?_ ?_ ?_
       ·simp[v1]
       ·simp
       ·simp
       ·simp[v7])
theorem zlL{ae:Nat}{H:aj}{s:List UInt8}(hl:s.length<=900){r:Re}(hf:r.fine)(hc:r.can (-1) 1=true)(hw:r.wide):Rn ak SA.sp ae 143 [r.av,.str s] H=some (.ret (.slc .own (iM (kX r s))),H):=by
 obtain⟨p,ht⟩:=zbY hl r (-1) 1 hc hw;have qj:dG [r.av,AV.str s]=true:=by simp only[dG,qU];rfl
 obtain⟨d,aH,bM⟩:=Re.av_agg hw;have fQ:8<=d.length:=by omega
 have bV:List.take 8 d=d:=ek (by omega);have hef:∀i,i<=s.length->lG (r.tab s i) (s.length+1)=eF r s i:=fun i hi=>znW hf hc hi;have he:Ahead (fun i=>lG (r.tab s i) (s.length+1)) s.length:=fun i hi=>by
  have:=hef i hi;simp only[this];exact Rp hf s i hi
 have jg:qw (fun i=>lG (r.tab s i) (s.length+1)) s.length (lU s.length 0 (-1)) 0 (-1)=kX r s:=zft (fun i hi=>hef i hi) _ _ _;have gy:=fun v=>zlM (ae:=0) (H:=[]) hl (f:=r.tab s) he (lU s.length 0 (-1)) 0 [] v (aX _) (by simp[lU,uo];omega) (by omega);have hl0:uo []= -1:=rfl;simp only[hl0,jg,gV]at gy;have jT:=zou [] .own (kX r s);have htr:List.take (kX r s).length (iM (kX r s))=iM (kX r s):=ek (by rw[uk];exact aX _);have bF:=zdZ (kX r s);rw[aH]at ht qj ⊢;refine di rfl rfl qj rfl ?_;rw[zpA];cases p <;>
  (simp[iO,zh2,zh1,a143,bM,fQ,bV,ht]
   refine(gy _ ?_ ?_ ?_ ?_).mono fun e t h=>?_
   ·simp
   ·simp[iM]
   ·simp
   ·simp
   rcases h with⟨rfl,v',rfl,k5⟩|⟨rfl,v',rfl,k4⟩
   ·simp[dX,zh0,k5,uk,htr,bF,jT]
   ·simp[k4,jT])
end
section
def kF(s:List UInt8):Nat->List (Nat×Nat)->List (List UInt8)
 |ax,[]=>[s.drop ax]
 |ax,(f,t)::l=>if f<t then(s.drop ax).take (f-ax)::kF s t l else kF s ax l
def aV(l:List (List UInt8)):List AV:=l.map fun x=>.str x
theorem jo(l:List (List UInt8)):(aV l).length=l.length:=by simp[aV]
theorem BD(l m:List (List UInt8)):aV (l++m)=aV l++aV m:=by simp[aV]
theorem qh(l:List (List UInt8)):jF 0 (aV l)=true:=by
 cases l with
 |nil=>rfl
 |cons x l=>rfl
theorem ze1(l:List (List UInt8)):dG (aV l)=true:=by
 unfold aV;induction l with
 |nil=>rfl
 |cons x l ih=>simp[dG,gq,ih]
theorem WV(H:aj)(p:Perm)(l:List (List UInt8)):aN 0 H (.slc p (aV l))=some (.slc p (aV l)):=by
 have:bg 0 H (aV l)=some (aV l):=by
  unfold aV;induction l with
  |nil=>rfl
  |cons x l ih=>simp[bg,aN,ih]
 simp only[aN,this]
theorem Gm{l:List (List UInt8)}{i:Nat}{x:List UInt8}(h:l[i]?=some x):(aV l)[i]?=some (.str x):=by
 unfold aV;rw[xH,h];rfl
def xM:List (List UInt8)->AV
 | []=>.nils
 |x::l=>.slc .own (aV (x::l))
theorem zjT(l:List (List UInt8))(x:List UInt8):xM (l ++[x])=.slc .own (aV l ++[.str x]):=by
 cases l with
 |nil=>rfl
 |cons y l=>simp[xM,aV]
theorem zjZ{ae:Nat}{H:aj}{s:List UInt8}(hl:s.length<=1000){A:List AV}{N:Nat}(hN:A.length=N)(hN2:N<=1001)(rC:List (List UInt8)):
  ∀(aY:List (Nat×Nat))(i ax b:Nat)(bQ:Int)(out:List (List UInt8))(v:Nat->AV),i+aY.length=N->A.drop i=iM aY->ax<=b->ax<=s.length->InOrder s.length b bQ aY->
   v 1=.str s->v 5=xM out->v 6=ag ax->v 15=.slc .ro A->v 16=ag N->v 17=ag i->out.length<=i->out++kF s ax aY=rC->
   Wp (aP ak SA.sp ae (.loop a153l13) (az 34051443 v,H)) (fun e t=>e=.exit 0∧∃v' out' a,t=(az 34051443 v',H)∧v' 1=.str s∧v' 5=xM out'∧v' 6=ag a∧a<=s.length∧out'.length<=1001∧out' ++[s.drop a]=rC):=by
 intro aY;induction aY with
 |nil=>
  intro i ax b bQ out v hi hd hab dQ sO v1 v5 v6 v15 v16 v17 sN gY;simp only[gW,qx]at hi;subst hi;rw[bu a153l13.eq_1];simp[au,K4,v16,v17];exact⟨_,rfl,by simp[v1],out,by simp[v5],ax,by simp[v6],dQ,by omega,gY⟩
 |cons x aY ih=>
  obtain⟨f,t⟩:=x;intro i ax b bQ out v hi hd hab dQ sO v1 v5 v6 v15 v16 v17 sN gY;obtain⟨o1,o2,o3,o4,o5⟩:=sO;simp only[fF]at hi;have hiN:i<N:=by omega
  have hiNI:(i:Int)<(N:Int):=by omega
  have hg:A[i]?=some (.agg [ag f,ag t]):=by
   have:(A.drop i)[0]?=some (.agg [ag f,ag t]):=by rw[hd];rfl
   simpa using this
  have hd2:A.drop (i+1)=iM aY:=by
   have:(A.drop i).drop 1=iM aY:=by rw[hd];rfl
   rw[Qh]at this;exact this
  have aT:IntKind.i64.wrap ((i:Int)+1)=(i:Int)+1:=aM _ (by omega);have hf:f<=s.length:=by omega
  have haf:ax<=f:=by omega
  rw[bu a153l13.eq_1];by_cases hft:f<t
  ·rw[kF,aS hft]at gY;have next:=fun w=>ih (i+1) t t t (out ++[(s.drop ax).take (f-ax)]) w (by omega) hd2 (aX _) o3 o5
   rw[zjT]at next
   have htot2:(out ++[(s.drop ax).take (f-ax)])++kF s t aY=rC:=by rw[←gY];simp
   cases out with
   |nil=>
    simp only[xM]at v5;simp[au,K4,UV,UU,U0,UZ,UY,v1,v5,v6,v15,v16,v17,hN,hiN,hiNI,hg,aT,hft,hf,haf,eY];refine(next _ ?_ ?_ ?_ ?_ ?_ ?_ (by simp) htot2).mono fun e t h=>by simpa using h
    all_goals simp[v1,v15,v16,aV]
   |cons y out=>
    simp only[xM]at v5;have bF:=qh (y::out);have bq:(aV (y::out)).length+1<=4294967296:=by rw[jo];omega
    generalize aV (y::out)=Y at *;simp[au,K4,UV,UU,U0,UZ,UY,v1,v5,v6,v15,v16,v17,hN,hiN,hiNI,hg,aT,hft,hf,haf,eY,bF,bq];refine(next _ ?_ ?_ ?_ ?_ ?_ ?_ (by simp at sN ⊢;omega) htot2).mono fun e t h=>by simpa using h
    all_goals simp[v1,v15,v16]
  ·rw[kF,aF hft]at gY;simp[au,K4,UV,UU,U0,UZ,UY,v1,v5,v6,v15,v16,v17,hN,hiN,hiNI,hg,aT,hft];refine(ih (i+1) ax t t out _ (by omega) hd2 (by omega) dQ o5 ?_ ?_ ?_ ?_ ?_ ?_ (by omega) gY).mono fun e t h=>by simpa using h
   all_goals simp[v1,v5,v6,v15,v16]
theorem zjY{ae:Nat}{H:aj}{p:Nat}{t:List UInt8}{r:Re}(hP:Pat H p t r){s:List UInt8}(hl:s.length<=1000):
  Rn ak SA.sp ae 153 [.ptr p 0,.str s] H=some (.ret (if s=[]then .nils else .slc .own (aV (kF s 0 (kX r s)))),H):=by
 have jg:=zsn (ae:=H.length) hP (s:=s) (by omega);have sO:=XW hP.fine s;have bq:(kX r s).length<=1001:=by
  rcases QU sO (by omega)with h|h
  ·omega
  ·rw[h];simp
 generalize kX r s=L at *;refine xS rfl rfl rfl rfl ?_;rw[zpx];cases s with
 |nil=>simp[dN,U2,U1,UW,a153,iw,ic]
 |cons c s'=>
  rw[aF (by simp)];have hbe:ic (c::s') []=false:=rfl;generalize c::s'=s at *
  -- the end
  have qQ:∀(w:Nat->AV)(out:List (List UInt8))(a:Nat),w 1=.str s->w 5=xM out->w 6=ag a->a<=s.length->out.length<=1001->out ++[s.drop a]=kF s 0 L->
    Wp (aP ak SA.sp H.length (.seq (.region UX) .ret) (az 34051443 w,H)) (fin [.tmp 4] (thaw H.length (· =.ret (.slc .own (aV (kF s 0 L)))))):=fun w out a w1 w5 w6 ha ho gY=>by
   have bV:List.take (s.length-a) (s.drop a)=s.drop a:=ek (by simp);have jT:∀l,aN H.length H (.slc .own (aV l))=some (.slc .own (aV l)):=fun l=>by
    have:bg H.length H (aV l)=some (aV l):=by
     unfold aV;induction l with
     |nil=>rfl
     |cons x l ih=>simp[bg,aN,ih]
    simp only[aN,this]
   rw[←gY];cases out with
   |nil=>
    simp only[xM]at w5;have:=jT [s.drop a];simp[aV]at this;simp[dX,UX,w1,w5,w6,ha,bV,eY,aV,this]
   |cons y out=>
    simp only[xM]at w5;have bF:=qh (y::out);have cu:(aV (y::out)).length+1<=4294967296:=by rw[jo];omega
    have hf:=jT ((y::out) ++[s.drop a]);rw[BD]at hf ⊢;have h1:aV [s.drop a]=[.str (s.drop a)]:=rfl;rw[h1]at hf ⊢;generalize aV (y::out)=Y at *;simp[dX,UX,w1,w5,w6,ha,bV,eY,bF,cu,hf]
  have qg:=qQ;simp only[dX]at qg;cases hL:L with
  |nil=>
   rw[hL]at jg qg;replace jg:Rn ak SA.sp H.length 11 [.ptr p 0,.str s] H=some (.ret .nils,H):=jg;simp[au,U2,U1,UW,zaa,Z9,Z8,Z7,a153,iw,hbe,jg];rw[bu a153l13.eq_1];simp[au,K4];refine qg _ [] 0 ?_ ?_ ?_ (jK _) (by simp) rfl;all_goals simp[xM]
  |cons x L'=>
   rw[hL]at jg qg sO bq;have bz:QS ((x::L').map EZ)=.slc .ro (iM (x::L')):=rfl;rw[bz]at jg;have hA:=uk (x::L');generalize x::L'=M at *;have gy:=fun v=>zjZ (ae:=H.length) (H:=H) hl hA bq (kF s 0 M) M 0 0 0 (-1) [] v (by omega) rfl (aX _) (jK _) sO;generalize iM M=A at *;simp[au,U2,U1,UW,zaa,Z9,Z8,Z7,a153,iw,hbe,jg,hA];refine(gy _ ?_ ?_ ?_ ?_ ?_ ?_ (by simp) rfl).mono fun e t h=>?_;all_goals try simp[xM]
   obtain⟨rfl,v',out,a,rfl,k1,k5,k6,ha,ho,gY⟩:=h;have h:=qg v' out a k1 k5 k6 ha ho gY;simpa[PZ,vP]using h
theorem zkV{ae:Nat}{H:aj}{s:List UInt8}(hl:s.length<=1000){A:List AV}{N:Nat}(hN:A.length=N)(hN2:N<=1001)(rC:List (List UInt8)):
  ∀(aY:List (Nat×Nat))(i ax b:Nat)(bQ:Int)(out:List (List UInt8))(v:Nat->AV),i+aY.length=N->A.drop i=iM aY->ax<=b->ax<=s.length->InOrder s.length b bQ aY->
   v 1=.str s->v 5=.slc .own (aV out)->v 6=ag ax->v 7=.slc .own A->v 8=ag i->out.length<=i->out++kF s ax aY=rC->
   Wp (aP ak SA.sp ae (.loop a148l10) (az 4295494135 v,H)) (fun e t=>e=.exit 0∧∃v' out' a,t=(az 4295494135 v',H)∧v' 1=.str s∧v' 5=.slc .own (aV out')∧v' 6=ag a∧a<=s.length∧out'.length<=1001∧out' ++[s.drop a]=rC):=by
 intro aY;induction aY with
 |nil=>
  intro i ax b bQ out v hi hd hab dQ sO v1 v5 v6 v7 v8 sN gY;simp only[gW,qx]at hi;subst hi;rw[bu a148l10.eq_1];simp[au,U4,v7,v8,hN];exact⟨_,rfl,by simp[v1],out,by simp[v5],ax,by simp[v6],dQ,by omega,gY⟩
 |cons x aY ih=>
  obtain⟨f,t⟩:=x;intro i ax b bQ out v hi hd hab dQ sO v1 v5 v6 v7 v8 sN gY;obtain⟨o1,o2,o3,o4,o5⟩:=sO;simp only[fF]at hi;have hiN:i<N:=by omega
  have hg:A[i]?=some (.agg [ag f,ag t]):=by
   have:(A.drop i)[0]?=some (.agg [ag f,ag t]):=by rw[hd];rfl
   simpa using this
  have hd2:A.drop (i+1)=iM aY:=by
   have:(A.drop i).drop 1=iM aY:=by rw[hd];rfl
   rw[Qh]at this;exact this
  have aT:IntKind.i64.wrap ((i:Int)+1)=(i:Int)+1:=aM _ (by omega);have hf:f<=s.length:=by omega
  have haf:ax<=f:=by omega
  rw[bu a148l10.eq_1];by_cases hft:f<t
  ·rw[kF,aS hft]at gY;have next:=fun w=>ih (i+1) t t t (out ++[(s.drop ax).take (f-ax)]) w (by omega) hd2 (aX _) o3 o5
   have htot2:(out ++[(s.drop ax).take (f-ax)])++kF s t aY=rC:=by rw[←gY];simp
   have bF:=qh out;have bq:(aV out).length+1<=4294967296:=by rw[jo];omega
   rw[BD]at next
   have h1:∀x,aV [x]=[.str x]:=fun _=>rfl;rw[h1]at next
   generalize aV out=Y at *;simp[bR,U4,zal,zak,zae,v1,v5,v6,v7,v8,hN,hiN,hg,aT,hft,hf,haf,eY,bF,bq];refine(next _ ?_ ?_ ?_ ?_ ?_ (by simp;omega) htot2).mono fun e t h=>by simpa using h
   all_goals simp[v1,v7]
  ·rw[kF,aF hft]at gY;simp[bR,U4,zal,zak,zae,v1,v5,v6,v7,v8,hN,hiN,hg,aT,hft];refine(ih (i+1) ax t t out _ (by omega) hd2 (by omega) dQ o5 ?_ ?_ ?_ ?_ ?_ (by omega) gY).mono fun e t h=>by simpa using h
   all_goals simp[v1,v5,v6,v7]
theorem zkU{ae:Nat}{H:aj}{s:List UInt8}(hl:s.length<=900){r:Re}(hf:r.fine)(hc:r.can (-1) 1=true)(hw:r.wide):
  Rn ak SA.sp ae 148 [r.av,.str s] H=some (.ret (.slc .own (if s=[]then[]else aV (kF s 0 (kX r s)))),H):=by
 have qj:dG [r.av,AV.str s]=true:=by simp only[dG,qU];rfl
 obtain⟨d,aH,bM⟩:=Re.av_agg hw;have fQ:8<=d.length:=by omega
 have bV:List.take 8 d=d:=ek (by omega);have hrall:=zlL (ae:=0) (H:=[]) hl hf hc hw;have sO:=XW hf s;have bq:(kX r s).length<=1001:=by
  rcases QU sO (by omega)with h|h
  ·omega
  ·rw[h];simp
 rw[aH]at qj hrall ⊢;generalize kX r s=L at *;refine di rfl rfl qj rfl ?_;rw[zpz];cases s with
 |nil=>simp[dN,zaj,zai,zah,zaf,a148,iw,ic,bM,aN,bg]
 |cons c s'=>
  rw[aF (by simp)];have hbe:ic (c::s') []=false:=rfl;generalize c::s'=s at *;have hA:=uk L;have gy:=fun v=>zkV (ae:=0) (H:=[]) (by omega) hA bq (kF s 0 L) L 0 0 0 (-1) [] v (by omega) rfl (aX _) (jK _) sO;generalize iM L=A at *;simp[au,zaj,zai,zah,zaf,zhY,zhX,a148,iw,hbe,bM,fQ,bV,hrall];refine(gy _ ?_ ?_ ?_ ?_ ?_ (by simp) rfl).mono fun e t h=>?_
  ·simp
  ·simp[aV]
  ·simp
  ·simp
  ·simp
  obtain⟨rfl,v',out,a,rfl,k1,k5,k6,ha,ho,gY⟩:=h;have htk2:List.take (s.length-a) (s.drop a)=s.drop a:=ek (by simp);have bF:=qh out;have cu:(aV out).length+1<=4294967296:=by rw[jo];omega
  have jT:=WV [] .own (out ++[s.drop a]);rw[←gY];rw[BD]at jT ⊢;have h1:aV [s.drop a]=[.str (s.drop a)]:=rfl;rw[h1]at jT ⊢;generalize aV out=Y at *;simp[dX,zhZ,k1,k5,k6,ha,htk2,eY,bF,cu,jT]
end
section
theorem Fj(n:Nat)(H:aj)(p:Perm)(l:List (List UInt8)):aN n H (.slc p (aV l))=some (.slc p (aV l)):=by
 have:bg n H (aV l)=some (aV l):=by
  unfold aV;induction l with
  |nil=>rfl
  |cons x l ih=>simp[bg,aN,ih]
 simp only[aN,this]
end
section
theorem XM{ae:Nat}{H:aj}{c:UInt8}:Rn ak SA.sp ae 193 [.int .u8 c.toNat] H=some (.ret (.bool (jk c)),H):=by
 refine di rfl rfl rfl rfl ?_;rw[zpg];unfold jk;have q:∀n:Nat,n<256->((c.toNat:Int)==(n:Int))=decide (c=UInt8.ofNat n):=fun n hn=>by
  by_cases h:c=UInt8.ofNat n
  ·subst h;simp[EG hn]
  ·have:¬c.toNat=n:=fun e=>h (si.1 (by rw[e];simp[EG hn]));simp[h];omega
 have q1:=q 32 (by omega);have q2:=q 9 (by omega);have q3:=q 10 (by omega);simp only[show((32:Nat):Int)=32 from rfl,show((9:Nat):Int)=9 from rfl,show((10:Nat):Int)=10 from rfl]at q1 q2 q3;by_cases h1:c=32
 ·simp[dX,a193,Oj,Oi,h1,aN,bg]
 ·by_cases h2:c=9
  ·simp[dX,a193,Oj,Oi,h2,aN,bg]
  ·by_cases h3:c=10
   ·simp[dX,a193,Oj,Oi,h3,aN,bg]
   ·have r1:((c.toNat:Int)==32)=false:=by rw[q1];simpa using h1
    have r2:((c.toNat:Int)==9)=false:=by rw[q2];simpa using h2
    have r3:((c.toNat:Int)==10)=false:=by rw[q3];simpa using h3
    simp[dX,a193,Oj,Oi,r1,r2,r3,h1,h2,h3,aN,bg]
def wE:Option Nat->Int
 |none=> -1
 |some a=>a
def JV(s:List UInt8)(x:Nat×Nat):List UInt8:=(s.drop x.1).take (x.2-x.1)
theorem zkH{ae:Nat}{H:aj}{s:List UInt8}(hl:s.length<=1000000)(rC:List (List UInt8)):∀(n i:Nat)(st:Option Nat)(out:List (List UInt8))(v:Nat->AV),i+n=s.length->(∀a,st=some a->a<=i)->out.length<=i->
   v 0=.str s->v 3=.slc .own (aV out)->v 4=.int .i64 (wE st)->v 5=ag i->out++(nH (s.drop i) i st).map (JV s)=rC->
   Wp (aP ak SA.sp ae (.loop a183l11) (az 8610907197 v,H)) (fun e t=>e=.exit 0∧∃v',t=(az 8610907197 v',H)∧v' 3=.slc .own (aV rC)):=by
 intro n;induction n with
 |zero=>
  intro i st out v hi dx sN v0 v3 v4 v5 gY;have aK:i=s.length:=by omega
  subst aK;have hd:s.drop s.length=[]:=Qg;have aT:IntKind.i64.wrap ((s.length:Int)+1)=((s.length+1:Nat):Int):=aM _ (by omega);have gJ:¬((s.length:Int)+1<=(s.length:Int)):=by omega
  rw[hd]at gY;rw[bu a183l11.eq_1];cases st with
  |none=>
   simp only[nH,xG,ry]at gY;subst gY;simp only[wE]at v4;simp[au,Dl,Dk,Dj,Di,Dh,Dg,Df,Dm,v0,v3,v4,v5,aT];rw[bu a183l11.eq_1];simp[au,Dl,Dk,Dj,Di,Dh,Dg,Df,Dm,v0,v3,v4,v5,gJ];exact⟨_,rfl,by simp[v3]⟩
  |some a=>
   have ha:=dx a rfl;have hal:(a:Int)<=(s.length:Int):=by omega
   have bF:=qh out;have bq:(aV out).length+1<=4294967296:=by rw[jo];omega
   simp only[nH,mE,xG,JV]at gY;have bV:List.take (s.length-a) (s.drop a)=s.drop a:=ek (by simp);rw[bV]at gY;subst gY;rw[BD];have h1:∀x,aV [x]=[.str x]:=fun _=>rfl;rw[h1];generalize aV out=Y at *;simp only[wE]at v4;simp[au,Dl,Dk,Dj,Di,Dh,Dg,Df,Dm,v0,v3,v4,v5,aT,ha,hal,bV,eY,bF,bq];rw[bu a183l11.eq_1];simp[au,Dl,Dk,Dj,Di,Dh,Dg,Df,Dm,v0,v3,v4,v5,gJ];exact⟨_,rfl,by simp⟩
 |succ n ih=>
  intro i st out v hi dx sN v0 v3 v4 v5 gY;have fe:i<s.length:=by omega
  have cu:(i:Int)<=(s.length:Int):=by omega
  have aR:((i:Int)==(s.length:Int))=false:=by simp;omega
  have hc:s[i]?=some s[i]:=gG fe;have hd:s.drop i=s[i]::s.drop (i+1):=iJ fe;have hb:=fun H=>XM (ae:=ae) (H:=H) (c:=s[i]);have aT:IntKind.i64.wrap ((i:Int)+1)=((i+1:Nat):Int):=aM _ (by omega);rw[hd,Qp]at gY;generalize s[i]=c at *;rw[bu a183l11.eq_1];cases hbl:jk c with
  |true=>
   rw[hbl]at hb;rw[aS hbl]at gY;cases st with
   |none=>
    simp only[wE]at v4;simp[au,Dl,Dk,Dj,Di,Dh,Dg,Df,Dm,v0,v3,v4,v5,cu,fe,aR,hc,hb,aT];refine ih (i+1) none out _ (by omega) (by simp) (by omega) ?_ ?_ ?_ ?_ gY;all_goals simp[v0,v3,wE]
   |some a=>
    have ha:=dx a rfl;have hai:(a:Int)<=(i:Int):=by omega
    have bF:=qh out;have bq:(aV out).length+1<=4294967296:=by rw[jo];omega
    have htot2:(out ++[JV s (a,i)])++(nH (s.drop (i+1)) (i+1) none).map (JV s)=rC:=by rw[←gY];simp
    have next:=fun w=>ih (i+1) none (out ++[JV s (a,i)]) w (by omega) (by simp) (by simp;omega)
    rw[BD]at next
    have h1:∀x,aV [x]=[.str x]:=fun _=>rfl;rw[h1]at next
    generalize aV out=Y at *;simp only[wE]at v4;have hle2:i<=s.length:=by omega
    simp[au,Dl,Dk,Dj,Di,Dh,Dg,Df,Dm,v0,v3,v4,v5,cu,fe,hle2,aR,hc,hb,aT,ha,hai,eY,bF,bq];refine next _ ?_ ?_ ?_ ?_ htot2
    all_goals simp[v0,wE,JV]
  |false=>
   rw[hbl]at hb;rw[aF (by rw[hbl];simp)]at gY;cases st with
   |none=>
    simp only[wE]at v4;simp[au,Dl,Dk,Dj,Di,Dh,Dg,Df,Dm,v0,v3,v4,v5,cu,fe,aR,hc,hb,aT];refine ih (i+1) (some i) out _ (by omega) (by intro a h;cases h;omega) (by omega) ?_ ?_ ?_ ?_ gY;all_goals simp[v0,v3,wE]
   |some a=>
    have ha:=dx a rfl;have sP:¬(a:Int)<0:=by omega
    simp only[wE]at v4;simp[au,Dl,Dk,Dj,Di,Dh,Dg,Df,Dm,v0,v3,v4,v5,cu,fe,aR,hc,hb,aT,sP];refine ih (i+1) (some a) out _ (by omega) (by intro b h;cases h;omega) (by omega) ?_ ?_ ?_ ?_ gY;all_goals simp[v0,v3,v4,wE]
theorem zkG{ae:Nat}{H:aj}{s:List UInt8}(hl:s.length<=1000000):Rn ak SA.sp ae 183 [.str s] H=some (.ret (.slc .own (aV (lM s))),H):=by
 have jT:=WV [] .own (lM s);refine di rfl rfl rfl rfl ?_;rw[zpl];have gy:=fun v=>zkH (ae:=0) (H:=[]) hl (lM s) s.length 0 none [] v (by omega) (by simp) (aX _);simp[au,zhx,zhw,zhu,a183];refine(gy _ ?_ ?_ ?_ ?_ ?_).mono fun e t h=>?_
 ·simp
 ·simp[aV]
 ·simp[wE]
 ·simp
 ·rfl
 obtain⟨rfl,v',rfl,k3⟩:=h;generalize aV (lM s)=A at *;simp[dX,zhv,k3,jT]
theorem zi9{ae:Nat}{H:aj}{s:List UInt8}(hl:s.length<=1000000):Rn ak SA.sp ae 180 [.str s] H=some (.ret (.slc .ro (aV (lM s))),H):=by
 have jT:=WV [] .ro (lM s);have jw:∀H,Rn ak SA.sp 0 191 [.str s,.fn 190 []] H=some (.ret (.slc .ro (aV (lM s))),H):=fun H=>by
  rw[zr3];have:Nat.ble s.length 4294967296=true:=xC (by omega);simp only[Mj,this,bA];rfl
 refine di rfl rfl rfl rfl ?_;rw[zpm];generalize aV (lM s)=A at *;simp[dX,a180,zhz,zhy,jw,jT]
end
section
def BH(l:List (List UInt8))(A:AV):Prop:=A=.slc .ro (aV l)∨(l=[]∧A=.nils)
theorem zqH{ae:Nat}{H:aj}{s:List UInt8}(hl:s.length<=1000000):Rn ak SA.sp ae 181 [.str s] H=some (.ret (if s=[]then .nils else .slc .ro (aV (nS s))),H):=by
 rw[zr4];cases s with
 |nil=>rfl
 |cons c t=>
  have:Nat.ble (c::t).length 4294967296=true:=xC (by omega);simp only[Mo,this,bA];rfl
theorem zlu{ae:Nat}{H:aj}{s:List UInt8}(hl:s.length<=1000000):Rn ak SA.sp ae 184 [.str s] H=some (.ret (.slc .ro (aV (nS s))),H):=by
 rw[zrX];have:Nat.ble s.length 4294967296=true:=xC (by omega);simp only[Mh,this,bA];rfl
def iL(s bU:List UInt8):List (List UInt8)×Nat×Nat:=
 if bU=[32]then(lM s,0,0)else if bU=[]then(nS s,0,0)else if 1<bU.length∨bU=[92]then
  (match rG bU with
  | .er p w=>([],p,w)
  | .ok r _=>(if s=[]then[]else kF s 0 (kX r s),0,0))
 else match bU with
  | []=>([],0,0)
  |c::_=>(if s=[]then[]else iT c s,0,0)
theorem Fh{n:Nat}{H:aj}{A:AV}{p w:Nat}(h:aN n H A=some A):aN n H (.tup [A,ag p,ag w])=some (.tup [A,ag p,ag w]):=by simp[aN,bg,h]
theorem zco(bU:List UInt8):bU=[32]∨bU=[]∨(bU ≠ [32]∧bU ≠ []∧((1<bU.length)∨bU=[92]))∨(∃c,bU=[c]∧c≠32∧c≠92):=by
 rcases bU with _|⟨c,_|⟨d,l⟩⟩
 ·exact .inr (.inl rfl)
 ·by_cases h:c=32
  ·left;rw[h]
  ·by_cases h2:c=92
   ·right;right;left;refine⟨by simpa using h,by simp,.inr (by rw[h2])⟩
   ·exact .inr (.inr (.inr ⟨c,rfl,h,h2⟩))
 ·right;right;left;exact⟨by simp,by simp,.inl (by simp)⟩
theorem zj1{ae:Nat}{H:aj}{s:List UInt8}{c:UInt8}(hl:s.length<=1000):Rn ak SA.sp ae 182 [.str s,.str [c]] H=some (.ret (.slc .ro (aV (iT c s))),H):=by
 rw[zrV];have:Nat.blt s.length 4294967281=true:=by rw[xU];simp;omega
 simp only[Mg,this,bA,zb9];rfl
theorem zsm{s bU:List UInt8}(hl:s.length<=900):∃A,BH (iL s bU).1 A∧∀ae H,Rn ak SA.sp ae 157 [.str s,.str bU] H=some (.ret (.tup [A,ag (iL s bU).2.1,ag (iL s bU).2.2]),H):=by
 rcases zco bU with rfl|rfl|⟨h32,h0,hx⟩|⟨c,rfl,h32,h92⟩
 ·refine⟨.slc .ro (aV (lM s)),.inl rfl,fun ae H=>?_⟩;have hw:=fun H=>zi9 (ae:=0) (H:=H) (s:=s) (by omega);have hf:=fun n H=>Fj n H .ro (lM s);have hf3:=fun n H=>Fh (p:=0) (w:=0) (hf n H);show Rn ak SA.sp ae 157 [.str s,.str [32]] H=some (.ret (.tup [_,ag 0,ag 0]),H);refine di rfl rfl rfl rfl ?_;rw[Fq];generalize aV (lM s)=A at *;simp[au,a157,DD,DC,Dw,Dv,Du,Dt,Dr,Dq,Dp,Dn,Dz,Dy,Dx,iw,ic,jv,hw];exact hf3 _ _
 ·have hw:=fun H=>zqH (ae:=0) (H:=H) (s:=s) (by omega);by_cases e:s=[]
  ·subst e;refine⟨.nils,.inr ⟨rfl,rfl⟩,fun ae H=>?_⟩;show Rn ak SA.sp ae 157 [.str [],.str []] H=some (.ret (.tup [_,ag 0,ag 0]),H);refine di rfl rfl rfl rfl ?_;rw[Fq];simp only[fD]at hw;simp[au,a157,DD,DC,Dw,Dv,Du,Dt,Dr,Dq,Dp,Dn,Dz,Dy,Dx,iw,ic,jv,hw,aN,bg]
  ·refine⟨.slc .ro (aV (nS s)),.inl rfl,fun ae H=>?_⟩;have hf:=fun n H=>Fj n H .ro (nS s);have hf3:=fun n H=>Fh (p:=0) (w:=0) (hf n H);show Rn ak SA.sp ae 157 [.str s,.str []] H=some (.ret (.tup [_,ag 0,ag 0]),H);refine di rfl rfl rfl rfl ?_;rw[Fq];rw[aF e]at hw;generalize aV (nS s)=A at *;simp[au,a157,DD,DC,Dw,Dv,Du,Dt,Dr,Dq,Dp,Dn,Dz,Dy,Dx,iw,ic,jv,hw];exact hf3 _ _
 ·have b32:ic bU [32]=false:=by rw[sW];simpa using h32
  have b0:ic bU []=false:=by rw[sW];simpa using h0
  have h1:((1<(bU.length:Int))∧True)∨(¬(1<(bU.length:Int))∧ic bU [92]=true):=by
   by_cases h:1<bU.length
   ·exact .inl ⟨by omega,trivial⟩
   ·rcases hx with hx|hx
    ·exact absurd hx h
    ·exact .inr ⟨by omega,by rw[hx];rfl⟩
  obtain⟨o,K,q1,q2⟩:=zi2 (ae:=0) (H:=[]) bU (jK _);unfold iL;rw[aF h32,aF h0,aS hx];cases hn:rG bU with
  |er p w=>
   have hw:=Wy hn;have bY:((w:Int) != 0)=true:=by simp[bne];omega
   rw[hn]at q2;obtain⟨rfl,rfl⟩:=q2;refine⟨.nils,.inr ⟨rfl,rfl⟩,fun ae H=>?_⟩;simp only;refine di rfl rfl rfl rfl ?_;rw[Fq];rcases h1 with⟨h1,h2⟩|⟨h1,h2⟩ <;>
    simp[au,a157,DD,DC,Dw,Dv,Du,Dt,Dr,Dq,Dp,Dn,Dz,Dy,Dx,iw,b32,b0,h1,h2,q1,bY,aN,bg]
  |ok r j=>
   rw[hn]at q2;obtain⟨eG,rfl,dK,hF,hP⟩:=q2;have jw:=zjY (ae:=0) hP (s:=s) (by omega);simp only;by_cases e:s=[]
   ·rw[aS e]at jw ⊢;refine⟨.nils,.inr ⟨rfl,rfl⟩,fun ae H=>?_⟩;refine di rfl rfl rfl rfl ?_;rw[Fq];rcases h1 with⟨h1,h2⟩|⟨h1,h2⟩ <;>
     simp[au,a157,DD,DC,Dw,Dv,Du,Dt,Dr,Dq,Dp,Dn,Dz,Dy,Dx,iw,b32,b0,h1,h2,q1,jw,aN,bg]
   ·rw[aF e]at jw ⊢;refine⟨_,.inl rfl,fun ae H=>?_⟩;have hf:=fun n H=>Fj n H .ro (kF s 0 (kX r s));have bF:=qh (kF s 0 (kX r s));have hf3:=fun n H=>Fh (p:=0) (w:=0) (hf n H);refine di rfl rfl rfl rfl ?_;rw[Fq];generalize aV (kF s 0 (kX r s))=A at *;rcases h1 with⟨h1,h2⟩|⟨h1,h2⟩
    all_goals
     simp[au,a157,DD,DC,Dw,Dv,Du,Dt,Dr,Dq,Dp,Dn,Dz,Dy,Dx,iw,b32,b0,h1,h2,q1,jw,bF];exact hf3 _ _
 ·have b32:ic [c] [32]=false:=by rw[sW];simpa using h32
  have b92:ic [c] [92]=false:=by rw[sW];simpa using h92
  have b0:ic [c] []=false:=rfl;have jw:=fun H=>zj1 (ae:=0) (H:=H) (s:=s) (c:=c) (by omega);have dQ:iL s [c]=(if s=[]then[]else iT c s,0,0):=by
   unfold iL;rw[aF (by simpa using h32),aF (by simp),aF (by simpa using h92)]
  rw[dQ];by_cases e:s=[]
  ·subst e;refine⟨.nils,.inr ⟨rfl,rfl⟩,fun ae H=>?_⟩;show Rn ak SA.sp ae 157 [.str [],.str [c]] H=some (.ret (.tup [_,ag 0,ag 0]),H);refine di rfl rfl rfl rfl ?_;rw[Fq];have bn:ic [] []=true:=rfl;simp[au,a157,DD,DC,Dw,Dv,Du,Dt,Dr,Dq,Dp,Dn,Dz,Dy,Dx,iw,bn,b32,b92,b0,aN,bg]
  ·rw[aF e];refine⟨_,.inl rfl,fun ae H=>?_⟩;have b3:ic s []=false:=by rw[sW];simpa using e
   have hf:=fun n H=>Fj n H .ro (iT c s);have hf3:=fun n H=>Fh (p:=0) (w:=0) (hf n H);show Rn ak SA.sp ae 157 [.str s,.str [c]] H=some (.ret (.tup [_,ag 0,ag 0]),H);refine di rfl rfl rfl rfl ?_;rw[Fq];generalize aV (iT c s)=A at *;simp[au,a157,DD,DC,Dw,Dv,Du,Dt,Dr,Dq,Dp,Dn,Dz,Dy,Dx,iw,b32,b92,b0,b3,jw];exact hf3 _ _
end
section
def Cc(p:List UInt8):List (List UInt8)->List (List UInt8)
 | []=>[p]
 |x::r=>(p++x)::r
theorem zdY(c:UInt8)(l:List UInt8):Cc [] (iT c l)=iT c l:=by
 cases h:iT c l with
 |nil=>exact absurd h (Wj c l)
 |cons x r=>rfl
theorem zoj(p:List UInt8)(c:UInt8)(l:List UInt8):Cc p (iT c (c::l))=p::iT c l:=by
 simp[iT,Cc]
theorem zok(p:List UInt8){b c:UInt8}(h:b≠c)(l:List UInt8):Cc p (iT c (b::l))=Cc (p ++[b]) (iT c l):=by
 have e:iT c (b::l)=match iT c l with
  | []=>[[b]]
  |x::r=>(b::x)::r:=by rw[iT,aF h]<;>rfl
 rw[e];cases hp:iT c l with
 |nil=>exact absurd hp (Wj c l)
 |cons x r=>simp[Cc]
theorem zlF{ae:Nat}{H:aj}{s:List UInt8}{c:UInt8}(hl:s.length<=1000000)(h3:ic s []=false)(rC:List (List UInt8)):∀(n i f:Nat)(out:List (List UInt8))(v:Nat->AV),i+n=s.length->f<=i->out.length<=i->
   v 0=.str s->v 1=.str [c]->v 10=.slc .own (aV out)->v 11=ag f->v 12=ag i->out++Cc ((s.drop f).take (i-f)) (iT c (s.drop i))=rC->
   Wp (aP ak SA.sp ae (.loop a158l16) (az 9223935021302439923 v,H)) (fun e t=>e=.exit 0∧∃v',t=(az 9223935021302439923 v',H)∧v' 10=.slc .own (aV rC)):=by
 intro n;induction n with
 |zero=>
  intro i f out v hi hf sN v0 v1 fP v11 v12 gY;have aK:i=s.length:=by omega
  subst aK;have hd:s.drop s.length=[]:=Qg;have aT:IntKind.i64.wrap ((s.length:Int)+1)=((s.length+1:Nat):Int):=aM _ (by omega);have gJ:¬((s.length:Int)+1<=(s.length:Int)):=by omega
  have hfl:(f:Int)<=(s.length:Int):=by omega
  have bF:=qh out;have bq:(aV out).length+1<=4294967296:=by rw[jo];omega
  have bV:List.take (s.length-f) (s.drop f)=s.drop f:=ek (by simp);rw[hd,bV]at gY;simp only[iT,Cc,ry]at gY;subst gY;rw[BD];have h1:∀x,aV [x]=[.str x]:=fun _=>rfl;rw[h1];generalize aV out=Y at *;rw[bu a158l16.eq_1];simp[bR,Ba,Bb,A9,A8,v0,v1,fP,v11,v12,aT,hf,hfl,bV,eY,bF,bq,iw,h3];rw[bu a158l16.eq_1];simp[bR,Ba,Bb,A9,A8,v0,v1,fP,v11,v12,gJ];exact⟨_,rfl,by simp⟩
 |succ n ih=>
  intro i f out v hi hf sN v0 v1 fP v11 v12 gY;have fe:i<s.length:=by omega
  have cu:(i:Int)<=(s.length:Int):=by omega
  have aR:((i:Int)==(s.length:Int))=false:=by simp;omega
  have hc:s[i]?=some s[i]:=gG fe;have hd:s.drop i=s[i]::s.drop (i+1):=iJ fe;have aT:IntKind.i64.wrap ((i:Int)+1)=((i+1:Nat):Int):=aM _ (by omega);have htk1:(s.drop f).take (i+1-f)=(s.drop f).take (i-f) ++[s[i]]:=by
   rw[show i+1-f=(i-f)+1 by omega,LH,List.getElem?_drop,show f+(i-f)=i by omega,hc];rfl
  rw[hd]at gY;generalize s[i]=b at *;rw[bu a158l16.eq_1];by_cases e:b=c
  ·subst e;have e1:((b.toNat:Int)==(b.toNat:Int))=true:=by simp
   rw[zoj]at gY;have hfi:(f:Int)<=(i:Int):=by omega
   have hle2:i<=s.length:=by omega
   have bF:=qh out;have bq:(aV out).length+1<=4294967296:=by rw[jo];omega
   have htot2:(out ++[(s.drop f).take (i-f)])++Cc ((s.drop (i+1)).take (i+1-(i+1))) (iT b (s.drop (i+1)))=rC:=by
    rw[Nat.sub_self,xD,zdY,←gY];simp
   have next:=fun w=>ih (i+1) (i+1) (out ++[(s.drop f).take (i-f)]) w (by omega) (aX _) (by simp;omega)
   rw[BD]at next
   have h1:∀x,aV [x]=[.str x]:=fun _=>rfl;rw[h1]at next
   generalize aV out=Y at *;simp[bR,Ba,Bb,A9,A8,v0,v1,fP,v11,v12,cu,fe,hle2,aR,hc,aT,hf,hfi,eY,bF,bq,iw,h3];refine next _ ?_ ?_ ?_ ?_ ?_ htot2
   all_goals simp[v0,v1]
  ·have e1:((b.toNat:Int)==(c.toNat:Int))=false:=by
    have:¬b.toNat=c.toNat:=fun q=>e (si.1 q);simp;omega
   rw[zok _ e,←htk1]at gY;simp[bR,Ba,Bb,A9,A8,v0,v1,fP,v11,v12,cu,fe,aR,hc,aT,iw,h3,e1];refine ih (i+1) f out _ (by omega) (by omega) (by omega) ?_ ?_ ?_ ?_ ?_ gY;all_goals simp[v0,v1,fP,v11]
theorem zlP{s bU:List UInt8}(hl:s.length<=900):∃A,BH (iL s bU).1 A∧∀ae H,Rn ak SA.sp ae 158 [.str s,.str bU] H=some (.ret (.tup [A,ag (iL s bU).2.1,ag (iL s bU).2.2]),H):=by
 rcases zco bU with rfl|rfl|⟨h32,h0,hx⟩|⟨c,rfl,h32,h92⟩
 ·refine⟨.slc .ro (aV (lM s)),.inl rfl,fun ae H=>?_⟩;have hw:=fun H=>zkG (ae:=0) (H:=H) (s:=s) (by omega);have bF:=qh (lM s);have hf:=fun n H=>Fj n H .ro (lM s);have hf3:=fun n H=>Fh (p:=0) (w:=0) (hf n H);show Rn ak SA.sp ae 158 [.str s,.str [32]] H=some (.ret (.tup [_,ag 0,ag 0]),H);refine di rfl rfl rfl rfl ?_;rw[JQ];generalize aV (lM s)=A at *;simp[bR,a158,IA,Iz,Ir,Iq,Ip,Io,Im,Il,Ik,Ij,Iy,Iw,Ba,Bb,A9,A8,Iu,iw,ic,jv,hw,bF];exact hf3 _ _
 ·have hw:=fun H=>zlu (ae:=0) (H:=H) (s:=s) (by omega);refine⟨.slc .ro (aV (nS s)),.inl rfl,fun ae H=>?_⟩;have hf:=fun n H=>Fj n H .ro (nS s);have hf3:=fun n H=>Fh (p:=0) (w:=0) (hf n H);show Rn ak SA.sp ae 158 [.str s,.str []] H=some (.ret (.tup [_,ag 0,ag 0]),H);refine di rfl rfl rfl rfl ?_;rw[JQ];generalize aV (nS s)=A at *;simp[bR,a158,IA,Iz,Ir,Iq,Ip,Io,Im,Il,Ik,Ij,Iy,Iw,Ba,Bb,A9,A8,Iu,iw,ic,jv,hw];exact hf3 _ _
 ·have b32:ic bU [32]=false:=by rw[sW];simpa using h32
  have b0:ic bU []=false:=by rw[sW];simpa using h0
  have h1:((1<(bU.length:Int))∧True)∨(¬(1<(bU.length:Int))∧ic bU [92]=true):=by
   by_cases h:1<bU.length
   ·exact .inl ⟨by omega,trivial⟩
   ·rcases hx with hx|hx
    ·exact absurd hx h
    ·exact .inr ⟨by omega,by rw[hx];rfl⟩
  have hnew:=fun H=>zcR (ae:=0) (H:=H) bU;have hz:emptyRe.av=.agg [.int .i64 0,.int .u64 0,.int .u64 0,.int .u64 0,.int .u64 0,.int .i64 0,.int .i64 0,.nils]:=rfl;unfold iL;rw[aF h32,aF h0,aS hx];cases hn:rG bU with
  |er p w=>
   have hw:=Wy hn;have bY:((w:Int) != 0)=true:=by simp[bne];omega
   rw[hn]at hnew;simp only[p9,hz]at hnew;refine⟨.nils,.inr ⟨rfl,rfl⟩,fun ae H=>?_⟩;simp only;refine di rfl rfl rfl rfl ?_;rw[JQ];rcases h1 with⟨h1,h2⟩|⟨h1,h2⟩ <;>
    simp[bR,a158,IA,Iz,Ir,Iq,Ip,Io,Im,Il,Ik,Ij,Iy,Iw,Ba,Bb,A9,A8,Iu,iw,b32,b0,h1,h2,hnew,bY,aN,bg]
  |ok r j=>
   have hc:=znd hn;have hw:=zdu hn;have Cb:r.fine:=by
    obtain⟨o,K,q1,q2⟩:=zi2 (ae:=0) (H:=[]) bU (jK _);rw[hn]at q2;obtain⟨eG,rfl,dK,hF,hP⟩:=q2;exact hP.fine
   rw[hn]at hnew;simp only[p9]at hnew;obtain⟨c1,c2,c3,c4,c5,c6,aH⟩:=Re.av_eight hw;have hrs:=fun H=>zkU (ae:=0) (H:=H) (s:=s) hl Cb hc hw;rw[aH]at hnew hrs;simp only;have kJ:(if s=[]then[]else aV (kF s 0 (kX r s)))=aV (if s=[]then[]else kF s 0 (kX r s)):=by split<;>rfl
   rw[kJ]at hrs;refine⟨_,.inl rfl,fun ae H=>?_⟩;have hf:=fun n H=>Fj n H .ro (if s=[]then[]else kF s 0 (kX r s));have bF:=qh (if s=[]then[]else kF s 0 (kX r s));have hf3:=fun n H=>Fh (p:=0) (w:=0) (hf n H);refine di rfl rfl rfl rfl ?_;rw[JQ];generalize aV (if s=[]then[]else kF s 0 (kX r s))=A at *;rcases h1 with⟨h1,h2⟩|⟨h1,h2⟩
   all_goals
    simp[bR,a158,IA,Iz,Ir,Iq,Ip,Io,Im,Il,Ik,Ij,Iy,Iw,Ba,Bb,A9,A8,Iu,iw,b32,b0,h1,h2,hnew,hrs,bF];exact hf3 _ _
 ·have b32:ic [c] [32]=false:=by rw[sW];simpa using h32
  have b92:ic [c] [92]=false:=by rw[sW];simpa using h92
  have b0:ic [c] []=false:=rfl;have dQ:iL s [c]=(if s=[]then[]else iT c s,0,0):=by
   unfold iL;rw[aF (by simpa using h32),aF (by simp),aF (by simpa using h92)]
  rw[dQ];by_cases e:s=[]
  ·subst e;refine⟨.slc .ro [],.inl rfl,fun ae H=>?_⟩;show Rn ak SA.sp ae 158 [.str [],.str [c]] H=some (.ret (.tup [_,ag 0,ag 0]),H);refine di rfl rfl rfl rfl ?_;rw[JQ];simp[bR,IA,Iz,Ir,Iq,Ip,Io,Im,Il,Ik,Ij,Iy,Iw,a158,iw,b32,b92,b0,aN,bg];rw[bu a158l16.eq_1];simp[bR,Ba,Bb,A9,A8,Iu,iw,ic,aN,bg]
  ·rw[aF e];refine⟨_,.inl rfl,fun ae H=>?_⟩;have b3:ic s []=false:=by rw[sW];simpa using e
   have hf:=fun n H=>Fj n H .ro (iT c s);have bF:=qh (iT c s);have hf3:=fun n H=>Fh (p:=0) (w:=0) (hf n H);have gy:=fun v=>zlF (ae:=0) (H:=[]) (c:=c) (by omega) b3 (iT c s) s.length 0 0 [] v (by omega) (aX _) (aX _);show Rn ak SA.sp ae 158 [.str s,.str [c]] H=some (.ret (.tup [_,ag 0,ag 0]),H);refine di rfl rfl rfl rfl ?_;rw[JQ];simp[bR,IA,Iz,Ir,Iq,Ip,Io,Im,Il,Ik,Ij,Iy,Iw,a158,iw,b32,b92,b0];refine(gy _ ?_ ?_ ?_ ?_ ?_ ?_).mono fun e t h=>?_
   ·simp
   ·simp
   ·simp[aV]
   ·simp
   ·simp
   ·simp[zdY]
   obtain⟨rfl,v',rfl,k10⟩:=h;generalize aV (iT c s)=A at *;simp[dX,Iu,k10,bF];exact hf3 _ _
end
end Go.Ak
