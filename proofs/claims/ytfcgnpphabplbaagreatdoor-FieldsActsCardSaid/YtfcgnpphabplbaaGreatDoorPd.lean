/- Plain laws of trees, machines, parts one behind the other, words, characters, decimal numbers and digits. No program stands here. -/
import Derived.Test.YtfcgnpphabplbaaGreatDoorP0
import GoSem.Core.Next
import Derived.Lib.SplitLaws
import Derived.Lib.Join
import Derived.Lib.FieldsP
import Derived.Lib.Bytealg
import Derived.Lib.SlTrimSet
set_option linter.unusedVariables false
set_option linter.unusedSimpArgs false
namespace Go.Ak
inductive Re where
 |mk (k:Int) (set:List Nat) (mn mx:Int) (l:List Re)
 deriving Inhabited
def hasB(w:List Nat)(c:UInt8):Bool:=Nat.testBit (w.getD (c.toNat/64) 0) (c.toNat%64)
def kH(R:Nat->Nat->Prop):Nat->Nat->Nat->Prop
 |0,i,j=>i=j
 |n+1,i,j=> ∃k,R i k∧kH R n k j
def Mw(R:Nat->Nat->Prop)(mn mx:Int)(i j:Nat):Prop:=∃n:Nat,mn<=n∧(mx<0∨(n:Int)<=mx)∧kH R n i j
section
variable (s:List UInt8)
mutual
def Re.M:Re->Nat->Nat->Prop
 | .mk k set mn mx l=>fun i j=>
  if k=1 then ∃c,s[i]?=some c∧hasB set c=true∧j=i+1
  else if k=2 then i=0∧j=i
  else if k=3 then i=s.length∧j=i
  else if k=4 then Re.MCat l i j
  else if k=5 then Re.MAlt l i j
  else if k=6 then Re.MRep mn mx l i j
  else j=i
def Re.MCat:List Re->Nat->Nat->Prop
 | [],i,j=>j=i
 |x::l,i,j=> ∃k,x.M i k∧Re.MCat l k j
def Re.MAlt:List Re->Nat->Nat->Prop
 | [],_,_=>False
 |x::l,i,j=>x.M i j∨Re.MAlt l i j
def Re.MRep(mn mx:Int):List Re->Nat->Nat->Prop
 | [],_,_=>False
 |x::_,i,j=>Mw x.M mn mx i j
end
end
structure NS where
 op:Nat
 set:List Nat
 next:Nat
 two:Nat
 deriving Inhabited
def dL:List Nat:=[0,0,0,0]
def iter{α:Type}(f:α->α):Nat->α->α
 |0,a=>a
 |n+1,a=>iter f n (f a)
abbrev BS:=Nat×List NS
def iE(x:NS)(p:List NS):BS:=(p.length,p ++[x])
def nU(b:Nat->List NS->BS)(n:Nat)(s:BS):BS:=iter (fun s=>b s.1 s.2) n s
def lK(b:Nat->List NS->BS)(bQ n:Nat)(s:BS):BS:=iter (fun s=>let t:=b s.1 s.2;iE ⟨3,dL,t.1,bQ⟩ t.2) n s
def pG(b:Nat->List NS->BS)(next:Nat)(p:List NS):BS:=
 let t:=b p.length (p ++[⟨3,dL,0,next⟩])
 (p.length,t.2.set p.length ⟨3,dL,t.1,next⟩)
def nT(b:Nat->List NS->BS)(mn mx:Int)(next:Nat)(p:List NS):BS:=
 let s:=if mx<0 then pG b next p else(next,p)
 nU b mn.toNat (lK b s.1 (mx-mn).toNat s)
mutual
def Re.bld:Re->Nat->List NS->BS
 | .mk k set mn mx l=>fun next p=>
  if k=1 then iE ⟨0,set,next,0⟩ p
  else if k=2 then iE ⟨1,dL,next,0⟩ p
  else if k=3 then iE ⟨2,dL,next,0⟩ p
  else if k=4 then Re.bldCat l next p
  else if k=5 then Re.bldAlt l next p
  else if k=6 then Re.bldRepL mn mx l next p
  else(next,p)
def Re.bldCat:List Re->Nat->List NS->BS
 | [],next,p=>(next,p)
 |x::l,next,p=>x.bld (Re.bldCat l next p).1 (Re.bldCat l next p).2
def Re.bldAlt:List Re->Nat->List NS->BS
 | [],next,p=>(next,p)
 |x::l,next,p=>match l with
  | []=>x.bld next p
  |_::_=>let a:=Re.bldAlt l next p
   let b:=x.bld next a.2
   iE ⟨3,dL,b.1,a.1⟩ b.2
def Re.bldRepL(mn mx:Int):List Re->Nat->List NS->BS
 | [],next,p=>(next,p)
 |x::_,next,p=>nT x.bld mn mx next p
end
inductive Acc(P:List NS)(s:List UInt8)(e:Nat):Nat->Nat->Nat->Prop where
 |done {q n} (x:NS) (h:P[q]?=some x) (ho:x.op=4):Acc P s e n e q
 |takes {i q n} (x:NS) (c:UInt8) (h:P[q]?=some x) (ho:x.op=0) (hc:s[i]?=some c) (hb:hasB x.set c=true) (t:Acc P s e n (i+1) x.next):Acc P s e (n+1) i q
 |begin {q n} (x:NS) (h:P[q]?=some x) (ho:x.op=1) (t:Acc P s e n 0 x.next):Acc P s e (n+1) 0 q
 |fin {q n} (x:NS) (h:P[q]?=some x) (ho:x.op=2) (t:Acc P s e n s.length x.next):Acc P s e (n+1) s.length q
 |one {i q n} (x:NS) (h:P[q]?=some x) (ho:x.op=3) (t:Acc P s e n i x.next):Acc P s e (n+1) i q
 |two {i q n} (x:NS) (h:P[q]?=some x) (ho:x.op=3) (t:Acc P s e n i x.two):Acc P s e (n+1) i q
variable {P:List NS} {s:List UInt8} {e:Nat}
def Agree(P Q:List NS)(a b:Nat):Prop:=∀i,a<=i->i<b->P[i]?=Q[i]?
def Frag(s:List UInt8)(R:Nat->Nat->Prop)(a:Nat)(Q:List NS)(entry next:Nat):Prop:=
 ∀(P:List NS)(e:Nat),Agree P Q a Q.length->
  (∀n i,Acc P s e n i entry->∃j m,m<=n∧R i j∧Acc P s e m j next)∧
  (∀n i j,R i j->Acc P s e n j next->∃m,Acc P s e m i entry)
def Bld(s:List UInt8)(R:Nat->Nat->Prop)(b:Nat->List NS->BS):Prop:=
 ∀(next:Nat)(p:List NS),p.length<=(b next p).2.length∧(∀i,i<p.length->(b next p).2[i]?=p[i]?)∧Frag s R p.length (b next p).2 (b next p).1 next
theorem Frag.of_iff{R R':Nat->Nat->Prop}{a:Nat}{Q:List NS}{x y:Nat}(h:Frag s R a Q x y)(k:∀i j,R i j↔R' i j):Frag s R' a Q x y:=by
 have:R=R':=funext fun i=>funext fun j=>propext (k i j);subst this;exact h
theorem Frag.grow{R:Nat->Nat->Prop}{a a':Nat}{Q Q':List NS}{x y:Nat}(h:Frag s R a Q x y)(ha:a'<=a)(hl:Q.length<=Q'.length)(hq:Agree Q' Q a Q.length):Frag s R a' Q' x y:=fun P e hP=>
 h P e fun i h1 h2=>(hP i (by omega) (by omega)).trans (hq i h1 h2)
theorem zfu(P:List NS)(a b:Nat):Agree P P a b:=by intro i _ _;rfl
theorem Frag.comp{R S:Nat->Nat->Prop}{a:Nat}{Q:List NS}{x y z:Nat}(h:Frag s R a Q x y)(k:Frag s S a Q y z):Frag s (fun i j=> ∃m,R i m∧S m j) a Q x z:=fun P e hP=>by
 obtain⟨h1,h2⟩:=h P e hP;obtain⟨k1,k2⟩:=k P e hP;constructor
 ·intro n i ha;obtain⟨j,m,l,hr,hA⟩:=h1 n i ha;obtain⟨j',m',l',hs,hA'⟩:=k1 m j hA;exact⟨j',m',by omega,⟨j,hr,hs⟩,hA'⟩
 ·intro n i j ⟨m,hr,hs⟩ hA;obtain⟨m1,hA1⟩:=k2 n m j hs hA;exact h2 m1 i m hr hA1
theorem Frag.refl{a:Nat}{Q:List NS}{x:Nat}:Frag s (fun i j=>j=i) a Q x x:=fun P e _=>
 ⟨fun n i h=>⟨i,n,aX _,rfl,h⟩,fun n i j h hA=>⟨n,h▸hA⟩⟩
theorem MV{α:Type}(p:List α)(x:α):(p ++[x])[p.length]?=some x:=by simp
theorem Bld.add{x:Nat->NS}{R:Nat->Nat->Prop}(h:∀(P:List NS)(e q next:Nat),P[q]?=some (x next)->(∀n i,Acc P s e n i q->∃j m,m<=n∧R i j∧Acc P s e m j next)∧(∀n i j,R i j->Acc P s e n j next->∃m,Acc P s e m i q)):
  Bld s R (fun next p=>iE (x next) p):=fun next p=>by
 simp only[iE];refine⟨by simp,fun i hi=>by rw[zP hi],fun P e hP=>?_⟩;apply h;rw[hP _ (aX _) (by simp),MV]
theorem zq5(set:List Nat):Bld s (fun i j=> ∃c,s[i]?=some c∧hasB set c=true∧j=i+1) (fun next p=>iE ⟨0,set,next,0⟩ p):=
 Bld.add fun P e q next hx=>by
  constructor
  ·intro n i hA;cases hA with
   |done x h ho=>rw[hx]at h;cases h;cases ho
   |takes x c h ho hc hb t=>rw[hx]at h;cases h;exact⟨_,_,Nat.le_succ _,⟨c,hc,hb,rfl⟩,t⟩
   |begin x h ho t=>rw[hx]at h;cases h;cases ho
   |fin x h ho t=>rw[hx]at h;cases h;cases ho
   |one x h ho t=>rw[hx]at h;cases h;cases ho
   |two x h ho t=>rw[hx]at h;cases h;cases ho
  ·intro n i j ⟨c,hc,hb,hj⟩ hA;subst hj;exact⟨_,.takes _ c hx rfl hc hb hA⟩
theorem zq7:Bld s (fun i j=>i=0∧j=i) (fun next p=>iE ⟨1,dL,next,0⟩ p):=
 Bld.add fun P e q next hx=>by
  constructor
  ·intro n i hA;cases hA with
   |done x h ho=>rw[hx]at h;cases h;cases ho
   |takes x c h ho hc hb t=>rw[hx]at h;cases h;cases ho
   |begin x h ho t=>rw[hx]at h;cases h;exact⟨_,_,Nat.le_succ _,⟨rfl,rfl⟩,t⟩
   |fin x h ho t=>rw[hx]at h;cases h;cases ho
   |one x h ho t=>rw[hx]at h;cases h;cases ho
   |two x h ho t=>rw[hx]at h;cases h;cases ho
  ·intro n i j ⟨h0,hj⟩ hA;subst hj h0;exact⟨_,.begin _ hx rfl hA⟩
theorem zq6:Bld s (fun i j=>i=s.length∧j=i) (fun next p=>iE ⟨2,dL,next,0⟩ p):=
 Bld.add fun P e q next hx=>by
  constructor
  ·intro n i hA;cases hA with
   |done x h ho=>rw[hx]at h;cases h;cases ho
   |takes x c h ho hc hb t=>rw[hx]at h;cases h;cases ho
   |begin x h ho t=>rw[hx]at h;cases h;cases ho
   |fin x h ho t=>rw[hx]at h;cases h;exact⟨_,_,Nat.le_succ _,⟨rfl,rfl⟩,t⟩
   |one x h ho t=>rw[hx]at h;cases h;cases ho
   |two x h ho t=>rw[hx]at h;cases h;cases ho
  ·intro n i j ⟨h0,hj⟩ hA;subst hj h0;exact⟨_,.fin _ hx rfl hA⟩
theorem BF{q n i:Nat}{x:NS}(hx:P[q]?=some x)(ho:x.op=3):Acc P s e n i q↔ ∃m,n=m+1∧(Acc P s e m i x.next∨Acc P s e m i x.two):=by
 constructor
 ·intro hA;cases hA with
  |done y h hy=>rw[hx]at h;cases h;rw[ho]at hy;cases hy
  |takes y c h hy hc hb t=>rw[hx]at h;cases h;rw[ho]at hy;cases hy
  |begin y h hy t=>rw[hx]at h;cases h;rw[ho]at hy;cases hy
  |fin y h hy t=>rw[hx]at h;cases h;rw[ho]at hy;cases hy
  |one y h hy t=>rw[hx]at h;cases h;exact⟨_,rfl,.inl t⟩
  |two y h hy t=>rw[hx]at h;cases h;exact⟨_,rfl,.inr t⟩
 ·intro⟨m,hm,h⟩;subst hm;rcases h with h|h
  ·exact .one x hx ho h
  ·exact .two x hx ho h
theorem Bld.nothing:Bld s (fun i j=>j=i) (fun next p=>(next,p)):=fun _ _=>⟨aX _,fun _ _=>rfl,Frag.refl⟩
theorem Bld.comp{R S:Nat->Nat->Prop}{b c:Nat->List NS->BS}(hb:Bld s R b)(hc:Bld s S c):Bld s (fun i j=> ∃m,R i m∧S m j) (fun next p=>b (c next p).1 (c next p).2):=fun next p=>by
 obtain⟨c1,c2,c3⟩:=hc next p
 obtain⟨b1,b2,b3⟩:=hb (c next p).1 (c next p).2;refine⟨fT c1 b1,fun i hi=>(b2 i (by omega)).trans (c2 i hi),?_⟩;exact Frag.comp (b3.grow c1 (aX _) (zfu _ _ _)) (c3.grow (aX _) b1 (fun i _ h=>b2 i h))
theorem Bld.of_iff{R R':Nat->Nat->Prop}{b:Nat->List NS->BS}(h:Bld s R b)(k:∀i j,R i j↔R' i j):Bld s R' b:=by
 have:R=R':=funext fun i=>funext fun j=>propext (k i j);subst this;exact h
theorem Bld.min{R S:Nat->Nat->Prop}{b c:Nat->List NS->BS}(hb:Bld s R b):∀(n:Nat){S:Nat->Nat->Prop}{c:Nat->List NS->BS},Bld s S c->Bld s (fun i j=> ∃m,kH R n i m∧S m j) (fun next p=>nU b n (c next p))
 |0,S,c,hc=>hc.of_iff fun i j=>by simp[kH]
 |n+1,S,c,hc=>by
  have h:=Bld.min (S:=S) (c:=c) hb n (hb.comp hc);refine Bld.of_iff (b:=fun next p=>nU b (n+1) (c next p)) (by simpa only[nU,iter]using h) fun i j=>?_;constructor
  ·intro⟨m,h1,k,h2,h3⟩;refine⟨k,?_,h3⟩;clear h3 h hc;induction n generalizing i with
   |zero=>simp only[kH]at h1 ⊢;subst h1;exact⟨k,h2,rfl⟩
   |succ n ih=>obtain⟨a,ha,ky⟩:=h1;exact⟨a,ha,ih a ky⟩
  ·intro⟨m,h1,h3⟩;have dw:∀n i m,kH R (n+1) i m->∃k,kH R n i k∧R k m:=by
    intro n;induction n with
    |zero=>intro i m ⟨a,ha,ky⟩;simp only[kH]at ky;subst ky;exact⟨i,rfl,ha⟩
    |succ n ih=>intro i m ⟨a,ha,ky⟩;obtain⟨k,h4,h5⟩:=ih a m ky;exact⟨k,⟨a,ha,h4⟩,h5⟩
   obtain⟨k,h4,h5⟩:=dw n i m h1;exact⟨k,h4,m,h5,h3⟩
theorem zd7{R:Nat->Nat->Prop}{b:Nat->List NS->BS}(hb:Bld s R b)(bQ:Nat):∀(n:Nat)(k:Nat)(a:Nat)(q:BS),a<=q.2.length->Frag s (fun i j=> ∃m,m<=k∧kH R m i j) a q.2 q.1 bQ->
  q.2.length<=(lK b bQ n q).2.length∧(∀i,i<q.2.length->(lK b bQ n q).2[i]?=q.2[i]?)∧Frag s (fun i j=> ∃m,m<=k+n∧kH R m i j) a (lK b bQ n q).2 (lK b bQ n q).1 bQ
 |0,k,a,q,ha,hq=>⟨aX _,fun _ _=>rfl,hq⟩
 |n+1,k,a,q,ha,hq=>by
  obtain⟨b1,b2,b3⟩:=hb q.1 q.2;have hF:Frag s (fun i j=> ∃m,m<=k+1∧kH R m i j) a ((b q.1 q.2).2 ++[⟨3,dL,(b q.1 q.2).1,bQ⟩]) (b q.1 q.2).2.length bQ:=by
   intro P e hP;have hx:P[(b q.1 q.2).2.length]?=some ⟨3,dL,(b q.1 q.2).1,bQ⟩:=by rw[hP _ (by omega) (by simp),MV]
   have hG:Agree ((b q.1 q.2).2 ++[⟨3,dL,(b q.1 q.2).1,bQ⟩]) (b q.1 q.2).2 a (b q.1 q.2).2.length:=fun i _ h=>by rw[zP h]
   have f1:=Frag.grow b3 ha (by simp) (fun i _ h=>hG i (by omega) h) P e hP;have f2:=Frag.grow hq (aX _) (by simp;omega) (fun i h h'=>(hG i h (by omega)).trans (b2 i h')) P e hP;constructor
   ·intro n i hA;obtain⟨m,hm,h|h⟩:=(BF hx rfl).1 hA
    ·obtain⟨j,m1,l1,hr,hA1⟩:=f1.1 m i h;obtain⟨j2,m2,l2,⟨c,hc,hp⟩,hA2⟩:=f2.1 m1 j hA1;exact⟨j2,m2,by omega,⟨c+1,by omega,j,hr,hp⟩,hA2⟩
    ·exact⟨i,m,by omega,⟨0,by omega,rfl⟩,h⟩
   ·intro n i j ⟨c,hc,hp⟩ hA;cases c with
    |zero=>simp only[kH]at hp;subst hp;exact⟨n+1,(BF hx rfl).2 ⟨n,rfl,.inr hA⟩⟩
    |succ c=>
     obtain⟨d,hd,hp'⟩:=hp;obtain⟨m1,hA1⟩:=f2.2 n d j ⟨c,by omega,hp'⟩ hA;obtain⟨m2,hA2⟩:=f1.2 m1 i d hd hA1;exact⟨m2+1,(BF hx rfl).2 ⟨m2,rfl,.inl hA2⟩⟩
  have ih:=zd7 hb bQ n (k+1) a ((b q.1 q.2).2.length,(b q.1 q.2).2 ++[⟨3,dL,(b q.1 q.2).1,bQ⟩]) (by simp;omega) hF;have hu:lK b bQ (n+1) q=lK b bQ n ((b q.1 q.2).2.length,(b q.1 q.2).2 ++[⟨3,dL,(b q.1 q.2).1,bQ⟩]):=rfl;rw[hu];obtain⟨i1,i2,i3⟩:=ih;simp only[iF,fF,gW]at i1 i2;refine⟨by omega,fun i hi=>(i2 i (by omega)).trans ((zP (by omega)).trans (b2 i hi)),?_⟩;rw[show k+(n+1)=k+1+n by omega];exact i3
theorem zoG{R:Nat->Nat->Prop}{b:Nat->List NS->BS}(hb:Bld s R b):Bld s (fun i j=> ∃m,kH R m i j) (pG b):=fun next p=>by
 obtain⟨b1,b2,b3⟩:=hb p.length (p ++[⟨3,dL,0,next⟩]);simp only[pG];generalize hQ:b p.length (p ++[⟨3,dL,0,next⟩])=t at b1 b2 b3 ⊢;simp only[iF,fF,gW]at b1 b2 b3;refine⟨by simp;omega,fun i hi=>?_,fun P e hP=>?_⟩
 ·rw[tZ (by omega),b2 i (by omega),zP hi]
 ·have hx:P[p.length]?=some ⟨3,dL,t.1,next⟩:=by rw[hP _ (aX _) (by simp;omega),zO (by omega)]
  have f:=b3.grow (a':=p.length+1) (Q':=t.2.set p.length ⟨3,dL,t.1,next⟩) (by omega) (by simp) (fun i h1 _=>tZ (by omega)) P e (fun i h1 h2=>hP i (by omega) h2);constructor
  ·intro n;induction n using Nat.strongRecOn with
   |ind n ih=>
    intro i hA;obtain⟨m,hm,h|h⟩:=(BF hx rfl).1 hA
    ·obtain⟨j,m1,l1,hr,hA1⟩:=f.1 m i h;obtain⟨j2,m2,l2,⟨c,hp⟩,hA2⟩:=ih m1 (by omega) j hA1;exact⟨j2,m2,by omega,⟨c+1,j,hr,hp⟩,hA2⟩
    ·exact⟨i,m,by omega,⟨0,rfl⟩,h⟩
  ·intro n i j ⟨c,hp⟩ hA;induction c generalizing i with
   |zero=>simp only[kH]at hp;subst hp;exact⟨n+1,(BF hx rfl).2 ⟨n,rfl,.inr hA⟩⟩
   |succ c ih=>
    obtain⟨d,hd,hp'⟩:=hp;obtain⟨m1,hA1⟩:=ih d hp';obtain⟨m2,hA2⟩:=f.2 m1 i d hd hA1;exact⟨m2+1,(BF hx rfl).2 ⟨m2,rfl,.inl hA2⟩⟩
theorem xQ{R:Nat->Nat->Prop}{j:Nat}(m:Nat):∀(n:Nat)(i:Nat),kH R (n+m) i j↔ ∃k,kH R n i k∧kH R m k j
 |0,i=>by simp[kH]
 |n+1,i=>by
  rw[show n+1+m=(n+m)+1 by omega];simp only[kH];constructor
  ·intro⟨k,h1,h2⟩;obtain⟨k',h3,h4⟩:=(xQ m n k).1 h2;exact⟨k',⟨k,h1,h3⟩,h4⟩
  ·intro⟨k',⟨k,h1,h3⟩,h4⟩;exact⟨k,h1,(xQ m n k).2 ⟨k',h3,h4⟩⟩
theorem Bld.rep{R:Nat->Nat->Prop}{b:Nat->List NS->BS}(hb:Bld s R b){mn mx:Int}(h0:0<=mn)(h1:mx<0∨mn<=mx):Bld s (Mw R mn mx) (nT b mn mx):=by
 by_cases hx:mx<0
 ·have e:(mx-mn).toNat=0:=by omega
  have h:=Bld.min (S:=R) (c:=b) hb mn.toNat (zoG hb);have hu:nT b mn mx=fun next p=>nU b mn.toNat (pG b next p):=by
   funext next p
   simp only[nT,hx,fD,e,lK,iter]
  rw[hu];refine h.of_iff fun i j=>?_;unfold Mw;constructor
  ·intro⟨m,h2,n,h3⟩;exact⟨mn.toNat+n,by omega,.inl hx,(xQ _ _ _).2 ⟨m,h2,h3⟩⟩
  ·intro⟨n,h2,_,h3⟩;have en:n=mn.toNat+(n-mn.toNat):=by omega
   rw[en]at h3;obtain⟨k,h4,h5⟩:=(xQ _ _ _).1 h3;exact⟨k,h4,_,h5⟩
 ·have hopt:Bld s (fun i j=> ∃m,m<=(mx-mn).toNat∧kH R m i j) (fun next p=>lK b next (mx-mn).toNat (next,p)):=fun next p=>by
   have:=zd7 hb next (mx-mn).toNat 0 p.length (next,p) (aX _) (Frag.refl.of_iff fun i j=>⟨fun h=>⟨0,aX _,h.symm⟩,fun⟨m,hm,h⟩=>by
    have:m=0:=by omega
    subst this;exact h.symm⟩)
   obtain⟨h1,h2,h3⟩:=this;refine⟨h1,h2,?_⟩;simpa using h3
  have h:=Bld.min (S:=R) (c:=b) hb mn.toNat hopt;have hu:nT b mn mx=fun next p=>nU b mn.toNat (lK b next (mx-mn).toNat (next,p)):=by
   funext next p
   simp only[nT,hx,ig]
  rw[hu];refine h.of_iff fun i j=>?_;unfold Mw;constructor
  ·intro⟨m,h2,n,hn,h3⟩;exact⟨mn.toNat+n,by omega,.inr (by omega),(xQ _ _ _).2 ⟨m,h2,h3⟩⟩
  ·intro⟨n,h2,h2',h3⟩;have en:n=mn.toNat+(n-mn.toNat):=by omega
   rw[en]at h3;obtain⟨k,h4,h5⟩:=(xQ _ _ _).1 h3;exact⟨k,h4,_,by omega,h5⟩
mutual
def Re.fine:Re->Prop
 | .mk k _ mn mx l=>(k=5->l ≠ [])∧(k=6->l ≠ []∧0<=mn∧(mx<0∨mn<=mx))∧Re.fineL l
def Re.fineL:List Re->Prop
 | []=>True
 |x::l=>x.fine∧Re.fineL l
end
mutual
theorem Re.bld_ok:∀(r:Re),r.fine->Bld s (r.M s) r.bld
 | .mk k set mn mx l,h=>by
  unfold Re.fine at h;obtain⟨h5,h6,hl⟩:=h;unfold Re.M Re.bld;by_cases e1:k=1
  ·simp only[e1,fD];exact zq5 set
  by_cases e2:k=2
  ·simp only[e2,fD];exact zq7
  by_cases e3:k=3
  ·simp only[e3,fD];exact zq6
  by_cases e4:k=4
  ·simp only[e4,fD];exact Re.bldCat_ok l hl
  by_cases e5:k=5
  ·simp only[e5,fD];exact Re.bldAlt_ok l hl (h5 e5)
  by_cases e6:k=6
  ·obtain⟨h7,h8,h9⟩:=h6 e6;simp only[e6,fD];exact Re.bldRep_ok l hl h7 h8 h9
  simp only[e1,e2,e3,e4,e5,e6,ig];exact Bld.nothing
theorem Re.bldCat_ok:∀(l:List Re),Re.fineL l->Bld s (Re.MCat s l) (Re.bldCat l)
 | [],_=>by
  refine Bld.of_iff (Bld.nothing (s:=s)) fun i j=>?_;simp only[Re.MCat]
 |x::l,h=>by
  unfold Re.fineL at h;refine Bld.of_iff (Bld.comp (Re.bld_ok x h.1) (Re.bldCat_ok l h.2)) fun i j=>?_;simp only[Re.MCat]
theorem Re.bldAlt_ok:∀(l:List Re),Re.fineL l->l ≠ []->Bld s (Re.MAlt s l) (Re.bldAlt l)
 | [],_,h=>absurd rfl h
 | [x],h,_=>by
  unfold Re.fineL at h;refine Bld.of_iff (Re.bld_ok x h.1) fun i j=>?_;simp only[Re.MAlt,or_false]
 |x::y::l,h,_=>by
  unfold Re.fineL at h;have hx:=Re.bld_ok x h.1;have hl:=Re.bldAlt_ok (y::l) h.2 (by simp);intro next p
  obtain⟨l1,l2,l3⟩:=hl next p
  have hu:Re.bldAlt (x::y::l) next p=iE ⟨3,dL,(x.bld next (Re.bldAlt (y::l) next p).2).1,(Re.bldAlt (y::l) next p).1⟩ (x.bld next (Re.bldAlt (y::l) next p).2).2:=by
   rw[Re.bldAlt]
  rw[hu];generalize Re.bldAlt (y::l) next p=a at l1 l2 l3 ⊢
  obtain⟨x1,x2,x3⟩:=hx next a.2
  generalize x.bld next a.2=b at x1 x2 x3 ⊢
  simp only[iE];refine⟨by simp;omega,fun i hi=>by rw[zP (by omega),x2 i (by omega),l2 i hi],fun P e hP=>?_⟩;have hG:Agree (b.2 ++[⟨3,dL,b.1,a.1⟩]) b.2 p.length b.2.length:=fun i _ h=>by rw[zP h]
  have hs:P[b.2.length]?=some ⟨3,dL,b.1,a.1⟩:=by rw[hP _ (by omega) (by simp),MV]
  have f1:=x3.grow l1 (by simp) (fun i _ h=>hG i (by omega) h) P e hP;have f2:=l3.grow (aX _) (by simp;omega) (fun i h h'=>(hG i h (by omega)).trans (x2 i h')) P e hP;constructor
  ·intro n i hA;obtain⟨m,hm,h|h⟩:=(BF hs rfl).1 hA
   ·obtain⟨j,m1,l1,hr,hA1⟩:=f1.1 m i h;exact⟨j,m1,by omega,by rw[Re.MAlt];exact .inl hr,hA1⟩
   ·obtain⟨j,m1,l1,hr,hA1⟩:=f2.1 m i h;exact⟨j,m1,by omega,by rw[Re.MAlt];exact .inr hr,hA1⟩
  ·intro n i j hr hA;rw[Re.MAlt]at hr;rcases hr with hr|hr
   ·obtain⟨m,hA'⟩:=f1.2 n i j hr hA;exact⟨m+1,(BF hs rfl).2 ⟨m,rfl,.inl hA'⟩⟩
   ·obtain⟨m,hA'⟩:=f2.2 n i j hr hA;exact⟨m+1,(BF hs rfl).2 ⟨m,rfl,.inr hA'⟩⟩
theorem Re.bldRep_ok{mn mx:Int}:∀(l:List Re),Re.fineL l->l ≠ []->0<=mn->(mx<0∨mn<=mx)->Bld s (Re.MRep s mn mx l) (Re.bldRepL mn mx l)
 | [],_,h,_,_=>absurd rfl h
 |x::l,h,_,h0,h1=>by
  unfold Re.fineL at h;have:=Bld.rep (Re.bld_ok x h.1) h0 h1;intro next p
  simp only[Re.MRep,Re.bldRepL];exact this next p
end
def lF(r:Re):BS:=r.bld 0 [⟨4,dL,0,0⟩]
theorem znE{r:Re}(h:r.fine)(i k:Nat):(∃n,Acc (lF r).2 s k n i (lF r).1)↔r.M s i k:=by
 obtain⟨h1,h2,h3⟩:=Re.bld_ok (s:=s) r h 0 [⟨4,dL,0,0⟩];obtain⟨f1,f2⟩:=h3 (lF r).2 k (zfu _ _ _);have h0:(lF r).2[0]?=some ⟨4,dL,0,0⟩:=(h2 0 (by simp)).trans rfl;constructor
 ·intro⟨n,hA⟩;obtain⟨j,m,_,hr,hA1⟩:=f1 n i hA;cases hA1 with
  |done x h ho=>exact hr
  |takes x c h ho hc hb t=>rw[h0]at h;cases h;cases ho
  |begin x h ho t=>rw[h0]at h;cases h;cases ho
  |fin x h ho t=>rw[h0]at h;cases h;cases ho
  |one x h ho t=>rw[h0]at h;cases h;cases ho
  |two x h ho t=>rw[h0]at h;cases h;cases ho
 ·intro hr;exact f2 0 i k hr (.done _ h0 rfl)
end Go.Ak
namespace Go.Ak
def l6(P:List NS):Prop:=∀x∈P,x.next<P.length∧x.two<P.length
structure En where
 w:List Nat
 seen:List Nat
 l:List Nat
def iC(P:List NS)(len ax round:Nat)(n:Nat)(w:List Nat)(seen l:List Nat):En:=
 if seen[n]?=some round then⟨w,seen,l⟩
 else match P[n]? with
  |none=>⟨w,seen,l⟩
  |some x=>
   if x.op=3 then⟨x.next::x.two::w,seen.set n round,l⟩
   else if x.op=1∧ax=0∨x.op=2∧ax=len then⟨x.next::w,seen.set n round,l⟩
   else if x.op=0∨x.op=4 then⟨w,seen.set n round,l ++[n]⟩
   else⟨w,seen.set n round,l⟩
def mI(P:List NS)(len ax round:Nat):Nat->En->En
 |0,e=>e
 |f+1,e=>match e.w with
  | []=>e
  |n::w=>mI P len ax round f (iC P len ax round n w e.seen e.l)
def fresh(round:Nat)(seen:List Nat):Nat:=seen.countP (· ≠ round)
def qm(round:Nat)(e:En):Nat:=3*fresh round e.seen+e.w.length
structure EnOk(P:List NS)(round:Nat)(e:En):Prop where
 len:e.seen.length=P.length
 top:∀x∈e.seen,x<=round
 wb:∀q∈e.w,q<P.length
 lb:∀q∈e.l,e.seen[q]?=some round
 nodup:e.l.Nodup
 ops:∀q∈e.l,∃x,P[q]?=some x∧(x.op=0∨x.op=4)
theorem zd6{round n:Nat}:∀{seen:List Nat},n<seen.length->seen[n]?≠some round->fresh round (seen.set n round)+1=fresh round seen:=by
 intro seen;unfold fresh;induction seen generalizing n with
 |nil=>intro h _;simp at h
 |cons a l ih=>
  intro h aR;cases n with
  |zero=>
   have ha:a≠round:=by simpa using aR
   simp[List.countP_cons,ha]
  |succ n=>
   have:=ih (n:=n) (by simpa using h) (by simpa using aR);simp only[Vy,List.countP_cons];omega
section
variable {P:List NS} {len ax round:Nat}
theorem Ro(hP:l6 P){n:Nat}{w seen l:List Nat}(h:EnOk P round ⟨n::w,seen,l⟩):EnOk P round (iC P len ax round n w seen l)∧qm round (iC P len ax round n w seen l)<qm round ⟨n::w,seen,l⟩:=by
 obtain⟨h1,h2,h3,h4,h5,h6⟩:=h;simp only at h1 h2 h3 h4 h5 h6;have hn:n<P.length:=h3 n (by simp);have hw:∀q∈w,q<P.length:=fun q hq=>h3 q (by simp[hq]);unfold iC;by_cases hs:seen[n]?=some round
 ·simp only[hs,fD];exact⟨⟨h1,h2,hw,h4,h5,h6⟩,by simp[qm]⟩
 ·simp only[hs,ig];obtain⟨x,hx⟩:∃x,P[n]?=some x:=⟨P[n],gG hn⟩
  simp only[hx];have hc:=hP x (jm hx);have e1:(seen.set n round).length=P.length:=by simpa using h1
  have e2:∀y∈seen.set n round,y<=round:=fun y hy=>by
   rcases Gc hy with hy|hy
   ·exact h2 y hy
   ·omega
  have e4:∀q∈l,(seen.set n round)[q]?=some round:=fun q hq=>by
   by_cases e:n=q
   ·subst e;exact absurd (h4 n hq) hs
   ·rw[tZ e];exact h4 q hq
  have hf:=zd6 (round:=round) (n:=n) (seen:=seen) (by omega) hs;have qc:(seen.set n round)[n]?=some round:=zO (by omega);have kw:n ∉ l:=fun h=>hs (h4 n h);split
  ·refine⟨⟨e1,e2,?_,e4,h5,h6⟩,by simp[qm];omega⟩;intro q hq;simp only[il]at hq;rcases hq with rfl|rfl|hq
   ·exact hc.1
   ·exact hc.2
   ·exact hw q hq
  ·split
   ·refine⟨⟨e1,e2,?_,e4,h5,h6⟩,by simp[qm];omega⟩;intro q hq;simp only[il]at hq;rcases hq with rfl|hq
    ·exact hc.1
    ·exact hw q hq
   ·split
    ·rename_i ho;refine⟨⟨e1,e2,hw,?_,?_,?_⟩,by simp[qm];omega⟩
     ·intro q hq;rcases qy.1 hq with hq|hq
      ·exact e4 q hq
      ·simp only[xE]at hq;subst hq;exact qc
     ·exact List.nodup_append.2 ⟨h5,by simp,fun a ha b hb e=>by simp only[xE]at hb;subst hb;exact kw (e▸ha)⟩
     ·intro q hq;rcases qy.1 hq with hq|hq
      ·exact h6 q hq
      ·simp only[xE]at hq;subst hq;exact⟨x,hx,ho⟩
    ·exact⟨⟨e1,e2,hw,e4,h5,h6⟩,by simp[qm];omega⟩
theorem Xg(hP:l6 P):∀(f:Nat)(e:En),EnOk P round e->qm round e<=f->EnOk P round (mI P len ax round f e)∧(mI P len ax round f e).w=[]
 |0,e,h,hf=>by
  have:e.w=[]:=mi (by unfold qm at hf;omega);exact⟨h,this⟩
 |f+1,⟨[],seen,l⟩,h,hf=>⟨h,rfl⟩
 |f+1,⟨n::w,seen,l⟩,h,hf=>by
  have:=Ro (len:=len) (ax:=ax) hP h;have h2:=this.2;exact Xg hP f _ this.1 (by simp only;omega)
variable {s:List UInt8} {k:Nat}
def Goes(P:List NS)(s:List UInt8)(k i q:Nat):Prop:=∃n,Acc P s k n i q
def P8(P:List NS)(s:List UInt8)(k i round:Nat)(e:En):Prop:=∀q,e.seen[q]?=some round->∀n,Acc P s k n i q->(∃q'∈e.l,Goes P s k i q')∨∃q'∈e.w,∃m,m<n∧Acc P s k m i q'
theorem zp9(hP:l6 P){i n:Nat}{w seen l:List Nat}(h:EnOk P round ⟨n::w,seen,l⟩)(hL:P8 P s k i round ⟨n::w,seen,l⟩):P8 P s k i round (iC P s.length i round n w seen l):=by
 have bq:seen.length=P.length:=h.len;have hn:n<P.length:=h.wb n (by simp);obtain⟨x,hx⟩:∃x,P[n]?=some x:=⟨P[n],gG hn⟩
 by_cases hs:seen[n]?=some round
 ·have hu:iC P s.length i round n w seen l=⟨w,seen,l⟩:=by simp[iC,hs]
  rw[hu];intro q hq m;induction m using Nat.strongRecOn generalizing q with
  |ind m ih=>
   intro hA;rcases hL q hq m hA with h|⟨q',hq',m',hm',hA'⟩
   ·exact .inl h
   ·rcases il.1 hq' with rfl|hq'
    ·rcases ih m' hm' _ hs hA' with h|⟨q'',hq'',m'',hm'',hA''⟩
     ·exact .inl h
     ·exact .inr ⟨q'',hq'',m'',by omega,hA''⟩
    ·exact .inr ⟨q',hq',m',hm',hA'⟩
 · -- what the new state leads to
  have dw:∀m,Acc P s k m i n->(∃q'∈(iC P s.length i round n w seen l).l,Goes P s k i q')∨∃q'∈(iC P s.length i round n w seen l).w,∃m',m'<m∧Acc P s k m' i q':=by
   intro m hA;simp only[iC,hs,ig,hx];cases hA with
   |done y h ho=>rw[hx]at h;cases h;simp only[ho];exact .inl ⟨n,by simp,0,.done x hx ho⟩
   |takes y c h ho hc hb t=>rw[hx]at h;cases h;simp only[ho];exact .inl ⟨n,by simp,_,.takes x c hx ho hc hb t⟩
   |begin y h ho t=>rw[hx]at h;cases h;simp only[ho];exact .inr ⟨x.next,by simp,_,LF _,t⟩
   |fin y h ho t=>rw[hx]at h;cases h;simp only[ho];exact .inr ⟨x.next,by simp,_,LF _,t⟩
   |one y h ho t=>rw[hx]at h;cases h;simp only[ho];exact .inr ⟨x.next,by simp,_,LF _,t⟩
   |two y h ho t=>rw[hx]at h;cases h;simp only[ho];exact .inr ⟨x.two,by simp,_,LF _,t⟩
  have hw:∀q∈w,q∈(iC P s.length i round n w seen l).w:=by
   intro q hq;simp only[iC,hs,ig,hx];split
   ·simp[hq]
   ·split
    ·simp[hq]
    ·split<;>exact hq
  have hl:∀q∈l,q∈(iC P s.length i round n w seen l).l:=by
   intro q hq;simp only[iC,hs,ig,hx];split
   ·exact hq
   ·split
    ·exact hq
    ·split
     ·simp[hq]
     ·exact hq
  have hseen:(iC P s.length i round n w seen l).seen=seen.set n round:=by
   simp only[iC,hs,ig,hx];split
   ·rfl
   ·split
    ·rfl
    ·split<;>rfl
  intro q hq m hA;rw[hseen]at hq;by_cases e:n=q
  ·subst e;exact dw m hA
  ·rw[tZ e]at hq;rcases hL q hq m hA with⟨q',h1,h2⟩|⟨q',hq',m',hm',hA'⟩
   ·exact .inl ⟨q',hl q' h1,h2⟩
   ·rcases il.1 hq' with rfl|hq'
    ·rcases dw m' hA' with h|⟨q'',hq'',m'',hm'',hA''⟩
     ·exact .inl h
     ·exact .inr ⟨q'',hq'',m'',by omega,hA''⟩
    ·exact .inr ⟨q',hw q' hq',m',hm',hA'⟩
theorem zeL(hP:l6 P){i:Nat}:∀(f:Nat)(e:En),EnOk P round e->P8 P s k i round e->P8 P s k i round (mI P s.length i round f e)
 |0,_,_,h=>h
 |f+1,⟨[],seen,l⟩,_,h=>h
 |f+1,⟨n::w,seen,l⟩,ho,h=>zeL hP f _ (Ro hP ho).1 (zp9 hP ho h)
def For(P:List NS)(s:List UInt8)(k i:Nat)(G:Prop)(e:En):Prop:=(∀q∈e.w,Goes P s k i q->G)∧∀q∈e.l,Goes P s k i q->G
theorem zqb{i n:Nat}{w seen l:List Nat}{G:Prop}(h:For P s k i G ⟨n::w,seen,l⟩):For P s k i G (iC P s.length i round n w seen l):=by
 obtain⟨h1,h2⟩:=h;have hw:∀q∈w,Goes P s k i q->G:=fun q hq=>h1 q (by simp[hq]);have hn:Goes P s k i n->G:=h1 n (by simp);simp only at h2;unfold iC;split
 ·exact⟨hw,h2⟩
 ·split
  ·exact⟨hw,h2⟩
  ·rename_i x hx;split
   ·rename_i ho;refine⟨fun q hq hg=>?_,h2⟩;simp only[il]at hq;obtain⟨m,hA⟩:=hg;rcases hq with rfl|rfl|hq
    ·exact hn ⟨_,.one x hx ho hA⟩
    ·exact hn ⟨_,.two x hx ho hA⟩
    ·exact hw q hq ⟨m,hA⟩
   ·split
    ·rename_i aR ho;refine⟨fun q hq hg=>?_,h2⟩;simp only[il]at hq;obtain⟨m,hA⟩:=hg;rcases hq with rfl|hq
     ·rcases ho with⟨ho,rfl⟩|⟨ho,rfl⟩
      ·exact hn ⟨_,.begin x hx ho hA⟩
      ·exact hn ⟨_,.fin x hx ho hA⟩
     ·exact hw q hq ⟨m,hA⟩
    ·split
     ·refine⟨hw,fun q hq=>?_⟩;rcases qy.1 hq with hq|hq
      ·exact h2 q hq
      ·simp only[xE]at hq;subst hq;exact hn
     ·exact⟨hw,h2⟩
theorem zeM{i:Nat}{G:Prop}:∀(f:Nat)(e:En),For P s k i G e->For P s k i G (mI P s.length i round f e)
 |0,_,h=>h
 |f+1,⟨[],seen,l⟩,h=>h
 |f+1,⟨n::w,seen,l⟩,h=>zeM f _ (zqb h)
theorem zqa{n:Nat}{w seen l:List Nat}:(∀q:Nat,seen[q]?=some round->(iC P len ax round n w seen l).seen[q]?=some round)∧(∀q∈l,q∈(iC P len ax round n w seen l).l):=by
 have cK:∀q:Nat,seen[q]?=some round->(seen.set n round)[q]?=some round:=fun q hq=>by
  by_cases e:n=q
  ·subst e;rw[zO];exact(eD.1 hq).1
  ·rw[tZ e];exact hq
 unfold iC;split
 ·exact⟨fun q h=>h,fun q h=>h⟩
 ·split
  ·exact⟨fun q h=>h,fun q h=>h⟩
  ·split
   ·exact⟨cK,fun q h=>h⟩
   ·split
    ·exact⟨cK,fun q h=>h⟩
    ·split
     ·exact⟨cK,fun q h=>by simp[h]⟩
     ·exact⟨cK,fun q h=>h⟩
theorem zp8{n:Nat}{w seen l:List Nat}(h:EnOk P round ⟨n::w,seen,l⟩):(iC P len ax round n w seen l).seen[n]?=some round:=by
 have hl:seen.length=P.length:=h.len;have hn:n<P.length:=h.wb n (by simp);obtain⟨x,hx⟩:∃x,P[n]?=some x:=⟨P[n],gG hn⟩
 by_cases hs:seen[n]?=some round
 ·simp[iC,hs]
 ·have:(seen.set n round)[n]?=some round:=zO (by omega);simp only[iC,hs,ig,hx];split
  ·exact this
  ·split
   ·exact this
   ·split<;>exact this
theorem Xi:∀(f:Nat)(e:En),(∀q:Nat,e.seen[q]?=some round->(mI P len ax round f e).seen[q]?=some round)∧(∀q∈e.l,q∈(mI P len ax round f e).l)
 |0,e=>⟨fun _ h=>h,fun _ h=>h⟩
 |f+1,⟨[],seen,l⟩=>⟨fun _ h=>h,fun _ h=>h⟩
 |f+1,⟨n::w,seen,l⟩=>by
  obtain⟨a,b⟩:=zqa (P:=P) (len:=len) (ax:=ax) (round:=round) (n:=n) (w:=w) (seen:=seen) (l:=l);obtain⟨c,d⟩:=Xi f (iC P len ax round n w seen l);exact⟨fun q h=>c q (a q h),fun q h=>d q (b q h)⟩
def enter(P:List NS)(len ax round n:Nat)(seen l:List Nat):List Nat×List Nat:=
 let e:=mI P len ax round (3*seen.length+1) ⟨[n],seen,l⟩
 (e.seen,e.l)
structure Rnd(P:List NS)(round:Nat)(seen l:List Nat):Prop where
 len:seen.length=P.length
 top:∀x∈seen,x<=round
 lb:∀q∈l,seen[q]?=some round
 nodup:l.Nodup
 ops:∀q∈l,∃x,P[q]?=some x∧(x.op=0∨x.op=4)
theorem Rnd.en{n:Nat}{seen l:List Nat}(h:Rnd P round seen l)(hn:n<P.length):EnOk P round ⟨[n],seen,l⟩:=⟨h.len,h.top,by simpa using hn,h.lb,h.nodup,h.ops⟩
theorem MZ(round:Nat)(seen:List Nat):fresh round seen<=seen.length:=List.countP_le_length
theorem JR(hP:l6 P){n:Nat}{seen l:List Nat}(h:Rnd P round seen l)(hn:n<P.length):Rnd P round (enter P len ax round n seen l).1 (enter P len ax round n seen l).2:=by
 have hf:qm round ⟨[n],seen,l⟩<=3*seen.length+1:=by
  have:=MZ round seen;simp only[qm,fF,gW];omega
 obtain⟨⟨h1,h2,h3,h4,h5,h6⟩,h7⟩:=Xg (len:=len) (ax:=ax) hP _ _ (h.en hn) hf;exact⟨h1,h2,h4,h5,h6⟩
def Full(P:List NS)(s:List UInt8)(k i round:Nat)(seen l:List Nat):Prop:=∀q,seen[q]?=some round->Goes P s k i q->∃q'∈l,Goes P s k i q'
theorem zeI(hP:l6 P){i n:Nat}{seen l:List Nat}(h:Rnd P round seen l)(hn:n<P.length)(hF:Full P s k i round seen l):
  Full P s k i round (enter P s.length i round n seen l).1 (enter P s.length i round n seen l).2∧(enter P s.length i round n seen l).1[n]?=some round:=by
 have hf:qm round ⟨[n],seen,l⟩<=3*seen.length+1:=by
  have:=MZ round seen;simp only[qm,fF,gW];omega
 have h7:=(Xg (len:=s.length) (ax:=i) hP _ _ (h.en hn) hf).2;have hL:P8 P s k i round ⟨[n],seen,l⟩:=fun q hq m hA=>.inl (hF q hq ⟨m,hA⟩);have:=zeL hP (3*seen.length+1) _ (h.en hn) hL;constructor
 ·intro q hq ⟨m,hA⟩;rcases this q hq m hA with h|⟨q',hq',_⟩
  ·exact h
  ·rw[h7]at hq';cases hq'
 ·exact(Xi (P:=P) (len:=s.length) (ax:=i) (round:=round) (3*seen.length) _).1 n (zp8 (len:=s.length) (ax:=i) (h.en hn))
theorem zeJ{i n:Nat}{seen l:List Nat}{G:Prop}(hn:Goes P s k i n->G)(hl:∀q∈l,Goes P s k i q->G):∀q∈(enter P s.length i round n seen l).2,Goes P s k i q->G:=
 (zeM (P:=P) (s:=s) (k:=k) (i:=i) (round:=round) (G:=G) (3*seen.length+1) ⟨[n],seen,l⟩ ⟨fun q hq=>by simp only[xE]at hq;subst hq;exact hn,hl⟩).2
def eP(P:List NS)(s:List UInt8)(ax round:Nat):List Nat->List Nat->List Nat->List Nat×List Nat
 | [],seen,l=>(seen,l)
 |n::r,seen,l=>match P[n]?,s[ax]? with
  |some x,some c=>if x.op≠4∧hasB x.set c=true then
    let t:=enter P s.length (ax+1) round x.next seen l
    eP P s ax round r t.1 t.2
   else eP P s ax round r seen l
  |_,_=>eP P s ax round r seen l
def kE(P:List NS)(ax:Nat):List Nat->List Nat
 | []=>[]
 |n::r=>match P[n]? with
  |some x=>if x.op=4 then ax::kE P ax r else kE P ax r
  |none=>kE P ax r
def qH(P:List NS)(s:List UInt8):Nat->Nat->Nat->List Nat->List Nat->List Nat
 |0,_,_,_,_=>[]
 |f+1,ax,round,seen,gu=>match gu with
  | []=>[]
  |_::_=>kE P ax gu++let t:=eP P s ax (round+1) gu seen []
   qH P s f (ax+1) (round+1) t.1 t.2
def Ct(P:List NS)(first:Nat)(s:List UInt8)(ax:Nat):List Nat:=
 let t:=enter P s.length ax 1 first (List.replicate P.length 0) []
 qH P s (s.length+2-ax) ax 1 t.1 t.2
theorem MJ(hP:l6 P){i:Nat}:∀(r seen l:List Nat),Rnd P round seen l->Rnd P round (eP P s i round r seen l).1 (eP P s i round r seen l).2
 | [],_,_,h=>h
 |n::r,seen,l,h=>by
  unfold eP;split
  ·rename_i x c hx hc;split
   ·exact MJ hP r _ _ (JR hP h (hP x (jm hx)).1)
   ·exact MJ hP r _ _ h
  ·exact MJ hP r _ _ h
theorem Acc.place{n i q:Nat}(h:Acc P s k n i q):i<=k:=by
 induction h with
 |done=>exact aX _
 |takes _ _ _ _ _ _ _ ih=>omega
 |begin _ _ _ _ ih=>omega
 |fin _ _ _ _ ih=>omega
 |one _ _ _ _ ih=>exact ih
 |two _ _ _ _ ih=>exact ih
theorem MU{i q:Nat}{x:NS}(hx:P[q]?=some x)(ho:x.op=0):Goes P s k i q↔ ∃c,s[i]?=some c∧hasB x.set c=true∧Goes P s k (i+1) x.next:=by
 constructor
 ·intro⟨n,hA⟩;cases hA with
  |done y h hy=>rw[hx]at h;cases h;rw[ho]at hy;cases hy
  |takes y c h hy hc hb t=>rw[hx]at h;cases h;exact⟨c,hc,hb,_,t⟩
  |begin y h hy t=>rw[hx]at h;cases h;rw[ho]at hy;cases hy
  |fin y h hy t=>rw[hx]at h;cases h;rw[ho]at hy;cases hy
  |one y h hy t=>rw[hx]at h;cases h;rw[ho]at hy;cases hy
  |two y h hy t=>rw[hx]at h;cases h;rw[ho]at hy;cases hy
 ·intro⟨c,hc,hb,n,t⟩;exact⟨n+1,.takes x c hx ho hc hb t⟩
theorem WU{i q:Nat}{x:NS}(hx:P[q]?=some x)(ho:x.op=4):Goes P s k i q↔i=k:=by
 constructor
 ·intro⟨n,hA⟩;cases hA with
  |done y h hy=>rfl
  |takes y c h hy hc hb t=>rw[hx]at h;cases h;rw[ho]at hy;cases hy
  |begin y h hy t=>rw[hx]at h;cases h;rw[ho]at hy;cases hy
  |fin y h hy t=>rw[hx]at h;cases h;rw[ho]at hy;cases hy
  |one y h hy t=>rw[hx]at h;cases h;rw[ho]at hy;cases hy
  |two y h hy t=>rw[hx]at h;cases h;rw[ho]at hy;cases hy
 ·intro h;subst h;exact⟨0,.done x hx ho⟩
theorem QX(hP:l6 P){i:Nat}:∀(r seen l:List Nat),(∀q∈r,∃x,P[q]?=some x∧(x.op=0∨x.op=4))->Rnd P round seen l->Full P s k (i+1) round seen l->
  Full P s k (i+1) round (eP P s i round r seen l).1 (eP P s i round r seen l).2∧(∀q:Nat,seen[q]?=some round->(eP P s i round r seen l).1[q]?=some round)∧
  (k≠i->(∃q∈r,Goes P s k i q)->∃q'∈(eP P s i round r seen l).2,Goes P s k (i+1) q')
 | [],_,_,_,_,h=>⟨h,fun _ h=>h,fun _ ⟨_,h,_⟩=>by cases h⟩
 |n::r,seen,l,hr,h,hF=>by
  obtain⟨x,hx,hox⟩:=hr n (by simp);have gF:∀q∈r,∃x,P[q]?=some x∧(x.op=0∨x.op=4):=fun q hq=>hr q (by simp[hq]);cases hc:s[i]? with
  |none=>
   have hu:eP P s i round (n::r) seen l=eP P s i round r seen l:=by rw[eP,hx,hc]
   rw[hu];obtain⟨a,b,c⟩:=QX hP r seen l gF h hF;refine⟨a,b,fun hk ⟨q,hq,hg⟩=>c hk ?_⟩;rcases il.1 hq with rfl|hq
   ·exfalso;rcases hox with ho|ho
    ·obtain⟨c,h1,_⟩:=(MU hx ho).1 hg;rw[hc]at h1;cases h1
    ·exact hk ((WU hx ho).1 hg).symm
   ·exact⟨q,hq,hg⟩
  |some c=>
   by_cases ht:x.op≠4∧hasB x.set c=true
   ·have hu:eP P s i round (n::r) seen l=eP P s i round r (enter P s.length (i+1) round x.next seen l).1 (enter P s.length (i+1) round x.next seen l).2:=by rw[eP,hx,hc];simp only[aS ht]
    rw[hu];have hn:=(hP x (jm hx)).1;have e1:=JR (len:=s.length) (ax:=i+1) hP h hn;obtain⟨e2,e3⟩:=zeI hP h hn hF;obtain⟨a,b,c'⟩:=QX hP r _ _ gF e1 e2;refine⟨a,fun q hq=>b q ((Xi (P:=P) (len:=s.length) (ax:=i+1) (round:=round) _ _).1 q hq),fun hk ⟨q,hq,hg⟩=>?_⟩;rcases il.1 hq with rfl|hq
    ·rcases hox with ho|ho
     ·obtain⟨d,h1,h2,h3⟩:=(MU hx ho).1 hg;exact a x.next (b x.next e3) h3
     ·exact absurd ho ht.1
    ·exact c' hk ⟨q,hq,hg⟩
   ·have hu:eP P s i round (n::r) seen l=eP P s i round r seen l:=by rw[eP,hx,hc];simp only[aF ht]
    rw[hu];obtain⟨a,b,c'⟩:=QX hP r seen l gF h hF;refine⟨a,b,fun hk ⟨q,hq,hg⟩=>c' hk ?_⟩;rcases il.1 hq with rfl|hq
    ·exfalso;rcases hox with ho|ho
     ·obtain⟨d,h1,h2,h3⟩:=(MU hx ho).1 hg;rw[hc]at h1;cases h1;exact ht ⟨by omega,h2⟩
     ·exact hk ((WU hx ho).1 hg).symm
    ·exact⟨q,hq,hg⟩
theorem QY{i:Nat}{G:Prop}:∀(r seen l:List Nat),(∀q∈r,∃x,P[q]?=some x∧(x.op=0∨x.op=4))->(∀q∈r,Goes P s k i q->G)->(∀q∈l,Goes P s k (i+1) q->G)->
  ∀q∈(eP P s i round r seen l).2,Goes P s k (i+1) q->G
 | [],_,_,_,_,hl=>hl
 |n::r,seen,l,hr,hG,hl=>by
  obtain⟨x,hx,hox⟩:=hr n (by simp);have gF:∀q∈r,∃x,P[q]?=some x∧(x.op=0∨x.op=4):=fun q hq=>hr q (by simp[hq]);have hG':∀q∈r,Goes P s k i q->G:=fun q hq=>hG q (by simp[hq]);unfold eP;split
  ·rename_i y c hy hc;rw[hx]at hy;cases hy;split
   ·rename_i ht;refine QY r _ _ gF hG' (zeJ (fun hg=>hG n (by simp) ?_) hl);exact(MU hx (by omega)).2 ⟨c,hc,ht.2,hg⟩
   ·exact QY r _ _ gF hG' hl
  ·exact QY r _ _ gF hG' hl
theorem JF{i j:Nat}:∀{r:List Nat},j∈kE P i r↔j=i∧∃q∈r,∃x,P[q]?=some x∧x.op=4
 | []=>by simp[kE]
 |n::r=>by
  unfold kE;split
  ·rename_i x hx;split
   ·rename_i ho;rw[il,JF (r:=r)];constructor
    ·rintro(rfl|⟨h1,q,hq,h2⟩)
     ·exact⟨rfl,n,by simp,x,hx,ho⟩
     ·exact⟨h1,q,by simp[hq],h2⟩
    ·intro⟨h,_⟩;exact .inl h
   ·rename_i ho;rw[JF (r:=r)];constructor
    ·intro⟨h1,q,hq,h2⟩;exact⟨h1,q,by simp[hq],h2⟩
    ·intro⟨h1,q,hq,y,hy,h2⟩;rcases il.1 hq with rfl|hq
     ·rw[hx]at hy;cases hy;exact absurd h2 ho
     ·exact⟨h1,q,hq,y,hy,h2⟩
  ·rename_i hx;rw[JF (r:=r)];constructor
   ·intro⟨h1,q,hq,h2⟩;exact⟨h1,q,by simp[hq],h2⟩
   ·intro⟨h1,q,hq,y,hy,h2⟩;rcases il.1 hq with rfl|hq
    ·rw[hx]at hy;cases hy
    ·exact⟨h1,q,hq,y,hy,h2⟩
def Vt(P:List NS):Prop:=∀q x,P[q]?=some x->x.op=4->q=0
theorem VN(hO:Vt P){i:Nat}:∀{r:List Nat},r.Nodup->kE P i r=[]∨kE P i r=[i]
 | [],_=>.inl rfl
 |n::r,h=>by
  obtain⟨h1,h2⟩:=List.nodup_cons.1 h;unfold kE;split
  ·rename_i x hx;split
   ·rename_i ho;have h0:=hO n x hx ho;refine .inr ?_;have:kE P i r=[]:=List.eq_nil_iff_forall_not_mem.2 fun j hj=>by
     obtain⟨_,q,hq,y,hy,ho'⟩:=JF.1 hj;have:=hO q y hy ho';subst this h0;exact h1 hq
    rw[this]
   ·exact VN hO h2
  ·exact VN hO h2
theorem zcJ(hP:l6 P)(hO:Vt P):∀(f i round:Nat)(seen gu:List Nat),s.length+2<=f+i->Rnd P round seen gu->(s.length<i->gu=[])->
  (∀j,j∈qH P s f i round seen gu↔ ∃q∈gu,Goes P s j i q)∧(qH P s f i round seen gu).Pairwise (· < ·)
 |0,i,round,seen,gu,hf,_,hn=>by
  have:=hn (by omega);subst this;simp[qH]
 |f+1,i,round,seen,gu,hf,h,hn=>by
  cases gu with
  |nil=>simp[qH]
  |cons a r=>
   have hi:i<=s.length:=by
    by_cases c:s.length<i
    ·have:=hn c;cases this
    ·omega
   have hr0:Rnd P (round+1) seen []:=⟨h.len,fun x hx=>Nat.le_succ_of_le (h.top x hx),by simp,by simp,by simp⟩
   have hno:∀q,seen[q]?≠some (round+1):=fun q hq=>by have:=h.top _ (jm hq);omega
   have hF0:∀j,Full P s j (i+1) (round+1) seen []:=fun j q hq=>absurd hq (hno q);have n1:=MJ (s:=s) (i:=i) hP (a::r) seen [] hr0;have n2:=fun j=>QX (s:=s) (k:=j) (i:=i) hP (a::r) seen [] h.ops hr0 (hF0 j);have nil:s.length<i+1->(eP P s i (round+1) (a::r) seen []).2=[]:=by
    intro aB;have hc:s[i]?=none:=pq (by omega);have:∀(r seen l:List Nat),(eP P s i (round+1) r seen l).2=l:=by
     intro r;induction r with
     |nil=>intro seen l;rfl
     |cons b r ih=>
      intro seen l;unfold eP;rw[hc];split
      ·rename_i h;cases h
      ·exact ih seen l
    exact this _ _ _
   obtain⟨m1,m2⟩:=zcJ hP hO f (i+1) (round+1) (eP P s i (round+1) (a::r) seen []).1 (eP P s i (round+1) (a::r) seen []).2 (by omega) n1 nil;have hu:qH P s (f+1) i round seen (a::r)=kE P i (a::r)++qH P s f (i+1) (round+1) (eP P s i (round+1) (a::r) seen []).1 (eP P s i (round+1) (a::r) seen []).2:=rfl;rw[hu];have gJ:∀j∈qH P s f (i+1) (round+1) (eP P s i (round+1) (a::r) seen []).1 (eP P s i (round+1) (a::r) seen []).2,i<j:=fun j hj=>by
    obtain⟨q,_,n,hA⟩:=(m1 j).1 hj;exact hA.place
   constructor
   ·intro j;rw[qy,JF,m1];constructor
    ·rintro(⟨rfl,q,hq,x,hx,ho⟩|⟨q,hq,hg⟩)
     ·exact⟨q,hq,(WU hx ho).2 rfl⟩
     ·have:=QY (P:=P) (s:=s) (k:=j) (i:=i) (round:=round+1) (G:=∃q∈a::r,Goes P s j i q) (a::r) seen [] h.ops (fun q hq hg=>⟨q,hq,hg⟩) (by simp);exact this q hq hg
    ·intro⟨q,hq,hg⟩;by_cases e:j=i
     ·subst e;refine .inl ⟨rfl,q,hq,?_⟩;obtain⟨x,hx,ho|ho⟩:=h.ops q hq
      ·obtain⟨c,_,_,n,hA⟩:=(MU hx ho).1 hg;have:=hA.place;omega
      ·exact⟨x,hx,ho⟩
     ·exact .inr ((n2 j).2.2 e ⟨q,hq,hg⟩)
   ·rw[List.pairwise_append];refine⟨?_,m2,?_⟩
    ·rcases VN hO (i:=i) h.nodup with e|e<;>rw[e]<;>simp
    ·intro x hx y hy;obtain⟨rfl,_⟩:=JF.1 hx;exact gJ y hy
theorem zp6(hP:l6 P)(hO:Vt P){first i:Nat}(hf:first<P.length)(hi:i<=s.length):(∀j,j∈Ct P first s i↔Goes P s j i first)∧(Ct P first s i).Pairwise (· < ·):=by
 have hno:∀q,(List.replicate P.length 0)[q]?≠some 1:=fun q hq=>by
  have:=jm hq;rw[List.mem_replicate]at this;omega
 have h0:Rnd P 1 (List.replicate P.length 0) []:=⟨by simp,fun x hx=>by rw[List.mem_replicate]at hx;omega,by simp,by simp,by simp⟩
 have e1:=JR (len:=s.length) (ax:=i) hP h0 hf;obtain⟨m1,m2⟩:=zcJ (s:=s) hP hO (s.length+2-i) i 1 _ _ (by omega) e1 (fun h=>by omega);refine⟨fun j=>?_,m2⟩;have hF0:Full P s j i 1 (List.replicate P.length 0) []:=fun q hq=>absurd hq (hno q);obtain⟨e2,e3⟩:=zeI hP h0 hf hF0;refine(m1 j).trans ⟨fun⟨q,hq,hg⟩=>?_,fun hg=>e2 first e3 hg⟩;exact zeJ (round:=1) (n:=first) (seen:=List.replicate P.length 0) (l:=[]) (G:=Goes P s j i first) id (by simp) q hq hg
end
end Go.Ak
namespace Go.Ak
mutual
def Re.cnt:Re->Nat
 | .mk k _ mn mx l=>
  if k=1 then 1 else if k=2 then 1 else if k=3 then 1
  else if k=4 then Re.cntL l
  else if k=5 then Re.cntL l+(l.length-1)
  else if k=6 then Re.cntR mn mx l
  else 0
def Re.cntL:List Re->Nat
 | []=>0
 |x::l=>x.cnt+Re.cntL l
def Re.cntR(mn mx:Int):List Re->Nat
 | []=>0
 |x::_=>if mx<0 then mn.toNat*x.cnt+x.cnt+1 else mn.toNat*x.cnt+(mx-mn).toNat*(x.cnt+1)
end
theorem yo(x:NS)(p:List NS):(iE x p).2.length=p.length+1:=by simp[iE]
theorem zfm{b:Nat->List NS->BS}{c:Nat}(h:∀next p,(b next p).2.length=p.length+c):∀(n:Nat)(s:BS),(nU b n s).2.length=s.2.length+n*c
 |0,s=>by simp[nU,iter]
 |n+1,s=>by
  have:=zfm h n (b s.1 s.2);simp only[nU,iter]at this ⊢;rw[this,h,rf];omega
theorem XH{b:Nat->List NS->BS}{c:Nat}(h:∀next p,(b next p).2.length=p.length+c)(bQ:Nat):∀(n:Nat)(s:BS),(lK b bQ n s).2.length=s.2.length+n*(c+1)
 |0,s=>by simp[lK,iter]
 |n+1,s=>by
  have:=XH h bQ n (iE ⟨3,dL,(b s.1 s.2).1,bQ⟩ (b s.1 s.2).2);simp only[lK,iter]at this ⊢;rw[this,yo,h,rf];omega
theorem zfn{b:Nat->List NS->BS}{c:Nat}(h:∀next p,(b next p).2.length=p.length+c)(next:Nat)(p:List NS):(pG b next p).2.length=p.length+(c+1):=by
 simp[pG,h];omega
theorem zq8{b:Nat->List NS->BS}{c:Nat}(h:∀next p,(b next p).2.length=p.length+c)(mn mx:Int)(h0:0<=mn)(next:Nat)(p:List NS):
  (nT b mn mx next p).2.length=p.length+if mx<0 then mn.toNat*c+c+1 else mn.toNat*c+(mx-mn).toNat*(c+1):=by
 simp only[nT];rw[zfm h,XH h];by_cases hx:mx<0
 ·have e:(mx-mn).toNat=0:=by omega
  simp only[hx,fD,e,zfn h];omega
 ·simp only[hx,ig];omega
mutual
theorem Re.bld_len:∀(r:Re),r.fine->∀(next:Nat)(p:List NS),(r.bld next p).2.length=p.length+r.cnt
 | .mk k set mn mx l,hf,next,p=>by
  unfold Re.fine at hf;obtain⟨h5,h6,hl⟩:=hf;unfold Re.bld Re.cnt;by_cases e1:k=1
  ·simp[e1,yo]
  by_cases e2:k=2
  ·simp[e2,yo]
  by_cases e3:k=3
  ·simp[e3,yo]
  by_cases e4:k=4
  ·simp only[e4];exact Re.bldCat_len l hl next p
  by_cases e5:k=5
  ·simp only[e5];exact Re.bldAlt_len l hl next p
  by_cases e6:k=6
  ·simp only[e6];exact Re.bldRep_len' l hl mn mx (h6 e6).2.1 next p
  simp[e1,e2,e3,e4,e5,e6]
theorem Re.bldCat_len:∀(l:List Re),Re.fineL l->∀(next:Nat)(p:List NS),(Re.bldCat l next p).2.length=p.length+Re.cntL l
 | [],_,next,p=>by simp[Re.bldCat,Re.cntL]
 |x::l,h,next,p=>by
  unfold Re.fineL at h;unfold Re.bldCat Re.cntL;rw[Re.bld_len x h.1,Re.bldCat_len l h.2];omega
theorem Re.bldAlt_len:∀(l:List Re),Re.fineL l->∀(next:Nat)(p:List NS),(Re.bldAlt l next p).2.length=p.length+(Re.cntL l+(l.length-1))
 | [],_,next,p=>by simp[Re.bldAlt,Re.cntL]
 | [x],h,next,p=>by
  unfold Re.fineL at h;simp[Re.bldAlt,Re.cntL,Re.bld_len x h.1]
 |x::y::l,h,next,p=>by
  unfold Re.fineL at h;have:=Re.bldAlt_len (y::l) h.2 next p
  rw[Re.bldAlt];simp only[yo,Re.bld_len x h.1,this];simp only[Re.cntL,fF];omega
theorem Re.bldRep_len':∀(l:List Re),Re.fineL l->∀(mn mx:Int),0<=mn->∀(next:Nat)(p:List NS),(Re.bldRepL mn mx l next p).2.length=p.length+Re.cntR mn mx l
 | [],_,mn,mx,_,next,p=>by simp[Re.bldRepL,Re.cntR]
 |x::l,h,mn,mx,h0,next,p=>by
  unfold Re.fineL at h;simp only[Re.bldRepL,Re.cntR];exact zq8 (Re.bld_len x h.1) mn mx h0 next p
end
theorem zeY:∀{l:List Re}{x:Re},x∈l->x.cnt<=Re.cntL l
 |y::l,x,h=>by
  simp only[Re.cntL];rcases il.1 h with rfl|h
  ·omega
  ·have:=zeY h;omega
theorem Xp:∀(a b:List Re),Re.cntL (a++b)=Re.cntL a+Re.cntL b
 | [],b=>by simp[Re.cntL]
 |x::a,b=>by simp only[kg,Re.cntL,Xp a b];omega
theorem Fp:∀{l:List Re},Re.fineL l↔ ∀x∈l,x.fine
 | []=>by simp[Re.fineL]
 |x::l=>by simp[Re.fineL,Fp (l:=l)]
mutual
def Re.wide:Re->Prop
 | .mk _ set mn mx l=>set.length=4∧l.length<1000000∧(mn<1000∧ -1<=mx∧mx<1000∧0<=mn)∧Re.wideL l
def Re.wideL:List Re->Prop
 | []=>True
 |x::l=>x.wide∧Re.wideL l
end
theorem kz:∀{l:List Re},Re.wideL l↔ ∀x∈l,x.wide
 | []=>by simp[Re.wideL]
 |x::l=>by simp[Re.wideL,kz (l:=l)]
theorem zeK{P:List NS}{len ax round n:Nat}{w seen l:List Nat}(h:EnOk P round ⟨n::w,seen,l⟩):(iC P len ax round n w seen l).l.length+3*fresh round (iC P len ax round n w seen l).seen<=l.length+3*fresh round seen:=by
 have hl:seen.length=P.length:=h.len;have hn:n<P.length:=h.wb n (by simp);unfold iC;by_cases hs:seen[n]?=some round
 ·simp[hs]
 ·obtain⟨x,hx⟩:∃x,P[n]?=some x:=⟨P[n],gG hn⟩
  have hf:=zd6 (round:=round) (n:=n) (seen:=seen) (by omega) hs;simp only[hs,ig,hx];split
  ·simp only;omega
  ·split
   ·simp only;omega
   ·split
    ·simp only[iF,fF,gW];omega
    ·simp only;omega
theorem Xh{P:List NS}{len ax round:Nat}(hP:l6 P):∀(f:Nat)(e:En),EnOk P round e->(mI P len ax round f e).l.length+3*fresh round (mI P len ax round f e).seen<=e.l.length+3*fresh round e.seen
 |0,e,_=>aX _
 |f+1,⟨[],seen,l⟩,_=>aX _
 |f+1,⟨n::w,seen,l⟩,h=>fT (Xh hP f _ (Ro (len:=len) (ax:=ax) hP h).1) (zeK h)
end Go.Ak
namespace Go.Ak
def kV(k:Int)(set:List Nat)(mn mx ay:Int):Bool:=decide (100<ay)||(decide (k≠1)&&decide (set≠dL))||(decide (k≠6)&&(decide (mn≠0)||decide (mx≠0)))
def lQ(len:Nat)(mn mx:Int):Bool:=decide (len≠1)||decide (mn<0)||decide (50<mn)||(decide (mx ≠ -1)&&(decide (mx<mn)||decide (50<mx)))
mutual
def Re.can:Re->Int->Int->Bool
 | .mk k set mn mx l=>fun dh ay=>
  if kV k set mn mx ay then false
  else if k=0 then decide (l.length=0)&&decide (dh≠4)
  else if k=1∨k=2∨k=3 then decide (l.length=0)
  else if k=4∨k=5 then(if dh=k∨l.length<2 then false else Re.canL l k ay)
  else if k=6 then(if lQ l.length mn mx then false else Re.canL l k ay)
  else false
def Re.canL:List Re->Int->Int->Bool
 | [],_,_=>true
 |x::l,k,ay=>x.can k (ay+1)&&Re.canL l k ay
end
theorem XB:∀{l:List Re}{k ay:Int},Re.canL l k ay=true↔ ∀x∈l,x.can k (ay+1)=true
 | [],k,ay=>by simp[Re.canL]
 |x::l,k,ay=>by simp[Re.canL,XB (l:=l)]
mutual
theorem Re.can_fine:∀(r:Re)(dh ay:Int),r.can dh ay=true->r.fine
 | .mk k set mn mx l,dh,ay,h=>by
  unfold Re.can at h;unfold Re.fine;split at h
  ·cases h
  split at h
  ·rename_i h0;simp only[aU,ik]at h;have:l=[]:=mi h.1;subst this h0;exact⟨by simp,by simp,by simp[Re.fineL]⟩
  split at h
  ·rename_i h0 h1;have:l=[]:=mi (Jd h);subst this;exact⟨by omega,by omega,by simp[Re.fineL]⟩
  split at h
  ·rename_i h0 h1 h2;split at h
   ·cases h
   ·rename_i h3;refine⟨fun _ e=>?_,by omega,Re.canL_fine l k ay h⟩;subst e;simp only[gW]at h3;exact h3 (.inr (by omega))
  split at h
  ·rename_i h0 h1 h2 h3;split at h
   ·cases h
   ·rename_i h4;simp only[lQ,nG,ik,aU,not_or,not_and]at h4;obtain⟨⟨⟨h5,h6⟩,h7⟩,h8⟩:=h4;refine⟨by omega,fun _=>⟨fun e=>?_,by omega,?_⟩,Re.canL_fine l k ay h⟩
    ·subst e;simp at h5
    ·by_cases e:mx= -1
     ·exact .inl (by omega)
     ·have:=h8 e;exact .inr (by omega)
  ·cases h
theorem Re.canL_fine:∀(l:List Re)(k ay:Int),Re.canL l k ay=true->Re.fineL l
 | [],_,_,_=>by unfold Re.fineL;trivial
 |x::l,k,ay,h=>by
  simp only[Re.canL,aU]at h;unfold Re.fineL;exact⟨Re.can_fine x k (ay+1) h.1,Re.canL_fine l k ay h.2⟩
end
mutual
def Re.cap:Re->Nat
 | .mk k _ mn mx l=>
  if Re.capL 0 l>500 then Re.capL 0 l
  else if k=1∨k=2∨k=3 then 1
  else if k=5 then Re.capL 0 l+l.length-1
  else if k=6 then(if mx<0 then mn.toNat*Re.capL 0 l+Re.capL 0 l+1 else mn.toNat*Re.capL 0 l+(mx-mn).toNat*(Re.capL 0 l+1))
  else Re.capL 0 l
def Re.capL(n:Nat):List Re->Nat
 | []=>n
 |x::l=>if n+x.cap>500 then n+x.cap else Re.capL (n+x.cap) l
end
theorem zfd:∀(l:List Re)(n:Nat),n<=Re.capL n l
 | [],n=>aX _
 |x::l,n=>by
  simp only[Re.capL];split
  ·omega
  ·have:=zfd l (n+x.cap);omega
mutual
theorem Re.cap_cnt:∀(r:Re)(dh ay:Int),r.can dh ay=true->r.cap<=500->r.cnt=r.cap
 | .mk k set mn mx l,dh,ay,h,hc=>by
  unfold Re.can at h;unfold Re.cap at hc ⊢;unfold Re.cnt;split at hc
  ·omega
  rename_i h500;rw[aF h500];have dw:∀k' d',Re.canL l k' d'=true->Re.cntL l=Re.capL 0 l:=fun k' d' hh=>by
   have:=Re.capL_cnt l k' d' hh 0 (by omega);omega
  split at h
  ·cases h
  split at h
  ·rename_i h0;simp only[aU,ik]at h;have:l=[]:=mi h.1;subst this h0;simp[Re.capL]
  split at h
  ·rename_i h0 h1;rw[aS h1];rcases h1 with rfl|rfl|rfl<;>simp
  rename_i h0 h1;have g1:¬k=1:=fun e=>h1 (.inl e);have g2:¬k=2:=fun e=>h1 (.inr (.inl e));have g3:¬k=3:=fun e=>h1 (.inr (.inr e));rw[aF h1]at hc;rw[aF h1,aF g1,aF g2,aF g3];split at h
  ·rename_i h2;split at h
   ·cases h
   rename_i h3;have hk:=dw _ _ h;rcases h2 with rfl|rfl
   ·simp[hk]
   ·have:¬l.length<2:=fun e=>h3 (.inr e);simp only[fD];simp;omega
  split at h
  ·rename_i h2 h3;split at h
   ·cases h
   rename_i h4;subst h3;simp only[fD]at hc;simp at hc;simp only[lQ,nG,ik,not_or]at h4;match l,h4.1.1.1 with
   | [x],_=>
    have hk:=dw _ _ h;simp only[Re.cntL,Re.capL,jZ,qx,ite_self]at hk;simp[Re.cntR,Re.capL,hk]
   | [],h5=>simp at h5
   |_::_::_,h5=>simp at h5
  ·cases h
theorem Re.capL_cnt:∀(l:List Re)(k ay:Int),Re.canL l k ay=true->∀n,Re.capL n l<=500->Re.capL n l=n+Re.cntL l
 | [],_,_,_,n,_=>by simp[Re.capL,Re.cntL]
 |x::l,k,ay,h,n,hc=>by
  simp only[Re.canL,aU]at h;simp only[Re.capL]at hc ⊢;split at hc
  ·omega
  ·rename_i h5;rw[aF h5,Re.capL_cnt l k ay h.2 _ hc,Re.cntL,Re.cap_cnt x k (ay+1) h.1 (by omega)];omega
end
mutual
theorem Re.cap_le:∀(r:Re)(dh ay:Int),r.can dh ay=true->r.wide->(r.cap:Int)<=3000000+500*(101-ay)
 | .mk k set mn mx l,dh,ay,h,hw=>by
  unfold Re.wide at hw;obtain⟨_,hl,⟨h1,h2,h3,h4⟩,hw⟩:=hw;unfold Re.can at h;split at h
  ·cases h
  rename_i hb;have hd:ay<=100:=by
   simp only[kV,nG,ik,not_or]at hb;omega
  have hL:(Re.capL 0 l:Int)<=3000000+500*(101-ay):=by
   have dw:∀k',Re.canL l k' ay=true->(Re.capL 0 l:Int)<=3000000+500*(101-ay):=fun k' hh=>by
    have:=Re.capL_le l k' ay hh hw 0 (by omega) hd;omega
   have nil:l.length=0->(Re.capL 0 l:Int)<=3000000+500*(101-ay):=fun e=>by
    have:=mi e;subst this;simp[Re.capL];omega
   split at h
   ·simp only[aU,ik]at h;exact nil h.1
   split at h
   ·exact nil (Jd h)
   split at h
   ·split at h
    ·cases h
    ·exact dw _ h
   split at h
   ·split at h
    ·cases h
    ·exact dw _ h
   ·cases h
  unfold Re.cap;split
  ·exact hL
  rename_i h500;split
  ·omega
  split
  ·omega
  split
  ·have hm:mn.toNat<=999:=by omega
   have hm2:(mx-mn).toNat<=999:=by omega
   have e1:=zN hm (show Re.capL 0 l<=500 by omega);have e2:=zN hm2 (show Re.capL 0 l+1<=501 by omega);split
   ·omega
   ·omega
  ·exact hL
theorem Re.capL_le:∀(l:List Re)(k ay:Int),Re.canL l k ay=true->Re.wideL l->∀n,n<=500->ay<=100->(Re.capL n l:Int)<=3000000+500*(101-ay)
 | [],_,_,_,_,n,h,hd=>by simp[Re.capL];omega
 |x::l,k,ay,hc,hw,n,h,hd=>by
  unfold Re.wideL at hw;simp only[Re.canL,aU]at hc;have:=Re.cap_le x k (ay+1) hc.1 hw.1;simp only[Re.capL];split
  ·push_cast;omega
  ·exact Re.capL_le l k ay hc.2 hw.2 _ (by omega) hd
end
end Go.Ak
namespace Go.Ak
theorem WI{α:Type}{a b:List α}(h:∀i,i<a.length->b[i]?=a[i]?):a.length<=b.length:=by
 by_cases hz:a.length=0
 ·omega
 ·have:=h (a.length-1) (by omega);rw[gG (l:=a) (by omega)]at this;have:=(eD.1 this).1;omega
structure Good(p q:List NS)(first:Nat):Prop where
 first:first<q.length
 closed:l6 q
 len:p.length<=q.length
 ends:∀i x,q[i]?=some x->x.op=4->i<p.length
def Bg(b:Nat->List NS->BS):Prop:=∀next p,next<p.length->l6 p->Good p (b next p).2 (b next p).1
theorem JM{x:NS}{p:List NS}(h:l6 p)(h1:x.next<p.length)(h2:x.two<p.length)(ho:x.op≠4):Good p (iE x p).2 (iE x p).1 where
 first:=by simp[iE]
 closed:=by
  intro y hy;simp only[iE,qy,xE,iF,fF,gW]at hy ⊢;rcases hy with hy|rfl
  ·have:=h y hy;omega
  ·omega
 len:=by simp[iE]
 ends:=by
  intro i y hy je;simp only[iE]at hy;by_cases hi:i<p.length
  ·exact hi
  ·have aB:i<(p ++[x]).length:=(eD.1 hy).1;have:i=p.length:=by simp at aB;omega
   subst this;rw[MV]at hy;cases hy;exact absurd je ho
theorem Good.trans{p q r:List NS}{a b:Nat}(h:Good p q a)(k:Good q r b)(keep:∀i,i<q.length->r[i]?=q[i]?):Good p r b where
 first:=k.first
 closed:=k.closed
 len:=fT h.len k.len
 ends:=by
  intro i x hx ho;have hi:=k.ends i x hx ho;exact h.ends i x ((keep i hi).symm.trans hx) ho
theorem Good.refl{p:List NS}{n:Nat}(h:l6 p)(hn:n<p.length):Good p p n:=⟨hn,h,aX _,fun i x hx _=>(eD.1 hx).1⟩
def LA(b:Nat->List NS->BS):Prop:=∀next p i,i<p.length->(b next p).2[i]?=p[i]?
theorem Q7(x:NS)(p:List NS):∀i,i<p.length->(iE x p).2[i]?=p[i]? := fun i hi=>zP hi
theorem XJ{b:Nat->List NS->BS}(hb:Bg b)(hk:LA b):∀(n:Nat)(p:List NS)(s:BS),Good p s.2 s.1->(∀i,i<p.length->s.2[i]?=p[i]?)->Good p (nU b n s).2 (nU b n s).1∧∀i,i<p.length->(nU b n s).2[i]?=p[i]?
 |0,p,s,h,k=>⟨h,k⟩
 |n+1,p,s,h,k=>by
  have h1:=h.trans (hb s.1 s.2 h.first h.closed) (hk s.1 s.2);exact XJ hb hk n p (b s.1 s.2) h1 fun i hi=>(hk s.1 s.2 i (EI hi h.len)).trans (k i hi)
theorem XI{b:Nat->List NS->BS}(hb:Bg b)(hk:LA b)(bQ:Nat):∀(n:Nat)(p:List NS)(s:BS),bQ<s.2.length->Good p s.2 s.1->(∀i,i<p.length->s.2[i]?=p[i]?)->Good p (lK b bQ n s).2 (lK b bQ n s).1∧∀i,i<p.length->(lK b bQ n s).2[i]?=p[i]?
 |0,p,s,_,h,k=>⟨h,k⟩
 |n+1,p,s,hl,h,k=>by
  have g:=hb s.1 s.2 h.first h.closed;have h1:=h.trans g (hk s.1 s.2);have gl:=g.len;have g2:=JM (x:=⟨3,dL,(b s.1 s.2).1,bQ⟩) g.closed g.first (by simp only;omega) (by simp);have h2:=h1.trans g2 (Q7 _ _);refine XI hb hk bQ n p (iE ⟨3,dL,(b s.1 s.2).1,bQ⟩ (b s.1 s.2).2) ?_ h2 fun i hi=>?_
  ·rw[yo];omega
  ·rw[Q7 _ _ i (by have:=h1.len;omega),hk s.1 s.2 i (EI hi h.len),k i hi]
theorem XK{b:Nat->List NS->BS}(hb:Bg b)(hk:LA b):Bg (pG b)∧LA (pG b):=by
 refine⟨fun next p hn hp=>?_,fun next p i hi=>?_⟩
 ·have g0:=JM (x:=⟨3,dL,0,next⟩) hp (by simp only;omega) (by simp only;omega) (by simp);simp only[iE]at g0;have g:=hb p.length (p ++[⟨3,dL,0,next⟩]) (by simp) g0.closed;have gt:=g0.trans g (hk _ _);simp only[pG];have gl:=g.len;simp only[iF,fF,gW]at gl;refine⟨by simp;omega,?_,by simp;omega,?_⟩
  ·intro x hx;rw[List.length_set];rcases Gc hx with hx|rfl
   ·exact gt.closed x hx
   ·exact⟨gt.first,by simp only;omega⟩
  ·intro i x hx ho;by_cases e:p.length=i
   ·subst e;rw[zO (by omega)]at hx;cases hx;cases ho
   ·rw[tZ e]at hx;exact gt.ends i x hx ho
 ·simp only[pG];rw[tZ (by omega),hk _ _ i (by simp;omega),zP hi]
theorem zq9{b:Nat->List NS->BS}(hb:Bg b)(hk:LA b)(mn mx:Int):Bg (nT b mn mx)∧LA (nT b mn mx):=by
 have dw:∀next p,next<p.length->l6 p->Good p (nT b mn mx next p).2 (nT b mn mx next p).1:=by
  intro next p hn hp
  unfold nT;by_cases hx:mx<0
  ·simp only[hx,fD];have g:=(XK hb hk).1 next p hn hp
   have o:=XI hb hk (pG b next p).1 (mx-mn).toNat p (pG b next p) g.first g ((XK hb hk).2 next p);exact(XJ hb hk mn.toNat p _ o.1 o.2).1
  ·simp only[hx,ig];have o:=XI hb hk next (mx-mn).toNat p (next,p) hn (Good.refl hp hn) (fun _ _=>rfl)
   exact(XJ hb hk mn.toNat p _ o.1 o.2).1
 refine⟨dw,?_⟩;have minK:∀(n:Nat)(p:List NS)(s:BS),p.length<=s.2.length->(∀i,i<p.length->s.2[i]?=p[i]?)->∀i,i<p.length->(nU b n s).2[i]?=p[i]? := by
  intro n;induction n with
  |zero=>intro p s _ h;exact h
  |succ n ih=>
   intro p s hl h;refine ih p (b s.1 s.2) ?_ fun i hi=>(hk s.1 s.2 i (by omega)).trans (h i hi);exact fT hl (WI (hk s.1 s.2))
 have optK:∀(n bQ:Nat)(p:List NS)(s:BS),p.length<=s.2.length->(∀i,i<p.length->s.2[i]?=p[i]?)->p.length<=(lK b bQ n s).2.length∧∀i,i<p.length->(lK b bQ n s).2[i]?=p[i]? := by
  intro n bQ;induction n with
  |zero=>intro p s hl h;exact⟨hl,h⟩
  |succ n ih=>
   intro p s hl h;have bq:p.length<=(b s.1 s.2).2.length:=fT hl (WI (hk s.1 s.2));refine ih p (iE ⟨3,dL,(b s.1 s.2).1,bQ⟩ (b s.1 s.2).2) ?_ fun i hi=>?_
   ·rw[yo];omega
   ·rw[Q7 _ _ i (by omega),hk s.1 s.2 i (by omega),h i hi]
 intro next p i hi
 unfold nT;by_cases hx:mx<0
 ·simp only[hx,fD];have hlk:=(XK hb hk).2 next p
  have iV:p.length<=(pG b next p).2.length:=WI hlk;have o:=optK (mx-mn).toNat (pG b next p).1 p (pG b next p) iV hlk;exact minK mn.toNat p _ o.1 o.2 i hi
 ·simp only[hx,ig];have o:=optK (mx-mn).toNat next p (next,p) (aX _) (fun _ _=>rfl)
  exact minK mn.toNat p _ o.1 o.2 i hi
mutual
theorem Re.bld_good:∀(r:Re),r.fine->Bg r.bld
 | .mk k set mn mx l,h=>by
  unfold Re.fine at h;obtain⟨h5,h6,hl⟩:=h;intro next p hn hp
  unfold Re.bld;by_cases e1:k=1
  ·simp only[e1,fD];exact JM hp hn (by simp only;omega) (by simp)
  by_cases e2:k=2
  ·simp only[e2,fD];exact JM hp hn (by simp only;omega) (by simp)
  by_cases e3:k=3
  ·simp only[e3,fD];exact JM hp hn (by simp only;omega) (by simp)
  by_cases e4:k=4
  ·simp only[e4];exact Re.bldCat_good l hl next p hn hp
  by_cases e5:k=5
  ·simp only[e5];exact Re.bldAlt_good l hl next p hn hp
  by_cases e6:k=6
  ·simp only[e6];exact Re.bldRep_good' l hl mn mx next p hn hp
  simp only[e1,e2,e3,e4,e5,e6,ig];exact Good.refl hp hn
theorem Re.bldCat_good:∀(l:List Re),Re.fineL l->Bg (Re.bldCat l)
 | [],_=>fun next p hn hp=>by simp only[Re.bldCat];exact Good.refl hp hn
 |x::l,h=>fun next p hn hp=>by
  unfold Re.fineL at h;have g:=Re.bldCat_good l h.2 next p hn hp
  simp only[Re.bldCat];exact g.trans (Re.bld_good x h.1 _ _ g.first g.closed) (fun i hi=>((Re.bld_ok (s:=[]) x h.1) _ _).2.1 i hi)
theorem Re.bldAlt_good:∀(l:List Re),Re.fineL l->Bg (Re.bldAlt l)
 | [],_=>fun next p hn hp=>by simp only[Re.bldAlt];exact Good.refl hp hn
 | [x],h=>fun next p hn hp=>by
  unfold Re.fineL at h;simp only[Re.bldAlt];exact Re.bld_good x h.1 next p hn hp
 |x::y::l,h=>fun next p hn hp=>by
  unfold Re.fineL at h;have g:=Re.bldAlt_good (y::l) h.2 next p hn hp
  have g2:=Re.bld_good x h.1 next _ (EI hn g.len) g.closed
  have gt:=g.trans g2 (fun i hi=>((Re.bld_ok (s:=[]) x h.1) _ _).2.1 i hi);rw[Re.bldAlt];have g2l:=g2.len;have gf:=g.first;exact gt.trans (JM (x:=⟨3,dL,(x.bld next (Re.bldAlt (y::l) next p).2).1,(Re.bldAlt (y::l) next p).1⟩) gt.closed gt.first (by simp only;omega) (by simp)) (Q7 _ _)
theorem Re.bldRep_good':∀(l:List Re),Re.fineL l->∀(mn mx:Int),Bg (Re.bldRepL mn mx l)
 | [],_,mn,mx=>fun next p hn hp=>by simp only[Re.bldRepL];exact Good.refl hp hn
 |x::l,h,mn,mx=>fun next p hn hp=>by
  unfold Re.fineL at h;simp only[Re.bldRepL];exact(zq9 (Re.bld_good x h.1) (fun next p i hi=>((Re.bld_ok (s:=[]) x h.1) next p).2.1 i hi) mn mx).1 next p hn hp
end
theorem Wz{r:Re}(h:r.fine):l6 (lF r).2∧(lF r).1<(lF r).2.length∧Vt (lF r).2∧(lF r).2.length=r.cnt+1:=by
 have hp:l6 [⟨4,dL,0,0⟩]:=fun x hx=>by simp only[xE]at hx;subst hx;simp
 have g:=Re.bld_good r h 0 [⟨4,dL,0,0⟩] (by simp) hp;refine⟨g.closed,g.first,fun q x hx ho=>?_,?_⟩
 ·have:=g.ends q x hx ho;simp at this;exact this
 ·have:=Re.bld_len r h 0 [⟨4,dL,0,0⟩];unfold lF;rw[this];simp;omega
theorem zp5{r:Re}(h:r.fine){s:List UInt8}{i:Nat}(hi:i<=s.length):(∀j,j∈Ct (lF r).2 (lF r).1 s i↔r.M s i j)∧(Ct (lF r).2 (lF r).1 s i).Pairwise (· < ·):=by
 obtain⟨h1,h2,h3,h4⟩:=Wz h;obtain⟨e1,e2⟩:=zp6 (s:=s) h1 h3 h2 hi;exact⟨fun j=>(e1 j).trans (znE h i j),e2⟩
end Go.Ak
namespace Go.Ak
def Re.k:Re->Int
 | .mk k _ _ _ _=>k
def Re.l:Re->List Re
 | .mk _ _ _ _ l=>l
def emptyRe:Re:=.mk 0 dL 0 0 []
def Re.part(k:Int)(x:Re):List Re:=if x.k=k then x.l else if x.k≠0∨k=5 then[x]else[]
def dS(k:Int)(l:List Re):List Re:=l.flatMap (Re.part k)
def sJ(k:Int)(l:List Re):Re:=match l with
 | []=>emptyRe
 | [x]=>x
 |l=>.mk k dL 0 0 l
def eX(k:Int)(l:List Re):Re:=sJ k (dS k l)
theorem VD{k:Int}{x:Re}(h:x.wide):Re.wideL (x.part k):=by
 unfold Re.part;split
 ·obtain⟨k',set,mn,mx,l⟩:=x;unfold Re.wide at h;exact h.2.2.2
 ·split
  ·simp[Re.wideL,h]
  ·simp[Re.wideL]
theorem zjk{a b:List Re}:Re.wideL (a++b)↔Re.wideL a∧Re.wideL b:=by
 simp only[kz,qy];exact⟨fun h=>⟨fun x hx=>h x (.inl hx),fun x hx=>h x (.inr hx)⟩,fun⟨h1,h2⟩ x hx=>hx.elim (h1 x) (h2 x)⟩
theorem Jk{k:Int}:∀{l:List Re},Re.wideL l->Re.wideL (dS k l)
 | [],_=>by simp[dS,Re.wideL]
 |x::l,h=>by
  unfold Re.wideL at h;have:=Jk (k:=k) h.2;unfold dS at this ⊢;rw[lq,zjk];exact⟨VD h.1,this⟩
end Go.Ak
namespace Go.Ak
inductive PR(α:Type) where
 |ok (a:α) (i:Nat)
 |er (ax why:Nat)
 deriving Inhabited
-- sets
def dR(p:Nat->Bool)(i:Nat):Nat->Nat
 |0=>0
 |k+1=>dR p i k+(bif p (64*i+k)then 2^k else 0)
def ER(p:Nat->Bool):List Nat:=[dR p 0 64,dR p 1 64,dR p 2 64,dR p 3 64]
def aO:Nat->Bool:=fun _=>false
def bi(p q:Nat->Bool):Nat->Bool:=fun c=>p c||q c
def qa(p:Nat->Bool):Nat->Bool:=fun c=> !p c
def bv(a b:UInt8):Nat->Bool:=fun c=>decide (a.toNat<=c)&&decide (c<=b.toNat)
def jS(name:List UInt8):List UInt8:=
 if name= "alpha".toUTF8.data.toList then[65,90,97,122]
 else if name= "digit".toUTF8.data.toList then[48,57]
 else if name= "alnum".toUTF8.data.toList then[48,57,65,90,97,122]
 else if name= "upper".toUTF8.data.toList then[65,90]
 else if name= "lower".toUTF8.data.toList then[97,122]
 else if name= "space".toUTF8.data.toList then[9,13,32,32]
 else if name= "blank".toUTF8.data.toList then[9,9,32,32]
 else if name= "punct".toUTF8.data.toList then[33,47,58,64,91,96,123,126]
 else if name= "print".toUTF8.data.toList then[32,126]
 else if name= "graph".toUTF8.data.toList then[33,126]
 else if name= "cntrl".toUTF8.data.toList then[0,31,127,127]
 else if name= "xdigit".toUTF8.data.toList then[48,57,65,70,97,102]
 else[]
def aG:List UInt8->Nat->Bool
 |a::b::l=>bi (bv a b) (aG l)
 |_=>aO
def qC(c:UInt8):UInt8:=if c=110 then 10 else if c=116 then 9 else c
def gU(s:List UInt8)(i:Nat)(t:List UInt8):Bool:=decide ((s.drop i).take t.length=t)
def lu(s:List UInt8)(i:Nat):Option (UInt8×Nat):=
 match s[i]? with
 |none=>none
 |some c=>if c=92 then match s[i+1]? with
   |none=>none
   |some d=>some (qC d,i+2)
  else some (c,i+1)
def nQ:List UInt8->Option Nat
 | []=>none
 |c::l=>if(c::l).take 2=[58,93]then some 0 else(nQ l).map (· + 1)
def iU(s:List UInt8)(i:Nat):PR (Nat->Bool):=
 if gU s i [91,58]then match nQ (s.drop (i+2))with
  |none=>.er 0 3
  |some n=>if jS ((s.drop (i+2)).take n)=[]then .er 0 40 else .ok (aG (jS ((s.drop (i+2)).take n))) (i+n+4)
 else match lu s i with
  |none=>.er 0 3
  |some (a,j)=>if gU s j [45]∧¬gU s j [45,93]∧¬gU s j [45,91,58]then match lu s (j+1)with
    |none=>.er 0 3
    |some (b,k)=>if b<a then .er 0 4 else .ok (bv a b) k
   else .ok (bv a a) j
def nL(s:List UInt8):Nat->Bool->(Nat->Bool)->Nat->PR (Nat->Bool)
 |0,_,_,_=>.er 0 0
 |n+1,first,p,i=>if ¬first∧gU s i [93]then .ok p i else match iU s i with
  | .er a w=>.er a w
  | .ok q j=>nL s n false (bi p q) j
def Cv(s:List UInt8)(i:Nat):PR (Nat->Bool):=
 match nL s (s.length+1) true aO (bif gU s (i+1) [94]then i+2 else i+1)with
 | .er a w=>.er a w
 | .ok p j=>.ok (bif gU s (i+1) [94]then qa p else p) (j+1)
-- patterns
def gD(s:List UInt8)(i:Nat):Nat×Nat:=
 match s[i]? with
 |none=>(0,0)
 |some c=>if c<48∨57<c then(0,0)else match s[i+1]? with
  |none=>(c.toNat-48,1)
  |some d=>if d<48∨57<d then(c.toNat-48,1)else(10*(c.toNat-48)+(d.toNat-48),2)
def jb(x:Nat×Nat):Bool:=decide (0<x.2)&&decide (x.1<=50)
def qB(s:List UInt8)(i:Nat):Option (Nat×Int×Nat):=
 let a:=gD s i
 let j:=i+a.2
 if jb a∧s[j]?=some 44 then
  if s[j+1]?=some 125 then some (a.1, -1,j+2)else
   let b:=gD s (j+1)
   let k:=j+1+b.2
   if jb b∧a.1<=b.1∧s[k]?=some 125 then some (a.1,b.1,k+1)else none
 else if jb a∧s[j]?=some 125 then some (a.1,a.1,j+1)else none
def mF(mn:Nat)(mx:Int)(x:Re):Re:=.mk 6 dL mn mx [x]
def jq(s:List UInt8):Nat->Re->Nat->PR Re
 |0,_,_=>.er 0 0
 |n+1,x,i=>match s[i]? with
  |none=>.ok x i
  |some c=>if c=42 then jq s n (mF 0 (-1) x) (i+1)
   else if c=43 then jq s n (mF 1 (-1) x) (i+1)
   else if c=63 then jq s n (mF 0 1 x) (i+1)
   else if c=123 then match qB s (i+1)with
    |none=>.er i 50
    |some (mn,mx,j)=>jq s n (mF mn mx x) j
   else .ok x i
def WG(k:Int):Re:=.mk k dL 0 0 []
def sD(p:Nat->Bool):Re:=.mk 1 (ER p) 0 0 []
def stops(s:List UInt8)(i ay:Nat):Bool:=
 match s[i]? with
 |none=>true
 |some c=>decide (c=124)||(decide (c=41)&&decide (0<ay))
mutual
def sV(s:List UInt8):Nat->Nat->Nat->PR (List Re)
 |0,_,_=>.er 0 0
 |n+1,i,ay=>match lY s n i ay with
  | .er a w=>.er a w
  | .ok l j=>if s[j]?=some 124 then match sV s n (j+1) ay with
    | .er a w=>.er a w
    | .ok ls k=>.ok (eX 4 l::ls) k
   else .ok [eX 4 l] j
def lY(s:List UInt8):Nat->Nat->Nat->PR (List Re)
 |0,_,_=>.er 0 0
 |n+1,i,ay=>if stops s i ay then .ok [] i else match uE s n i ay with
  | .er a w=>.er a w
  | .ok x j=>match jq s (s.length+1) x j with
   | .er a w=>.er a w
   | .ok y k=>match lY s n k ay with
    | .er a w=>.er a w
    | .ok ys m=>.ok (y::ys) m
def uE(s:List UInt8):Nat->Nat->Nat->PR Re
 |0,_,_=>.er 0 0
 |n+1,i,ay=>match s[i]? with
  |none=>.er 0 0
  |some c=>
   if c=42∨c=43∨c=63∨c=123 then .er i 50
   else if c=41 then .er i 4
   else if c=91 then match Cv s i with
    | .er _ w=>.er i w
    | .ok p j=>.ok (sD p) j
   else if c=40 then if 20<=ay then .er i 2 else match sV s n (i+1) (ay+1)with
    | .er a w=>.er a w
    | .ok ls j=>if s[j]?=some 41 then .ok (eX 5 ls) (j+1)else .er j 3
   else if c=46 then .ok (sD (qa aO)) (i+1)
   else if c=94 then .ok (WG 2) (i+1)
   else if c=36 then .ok (WG 3) (i+1)
   else if c=92 then match s[i+1]? with
    |none=>.er (i+1) 3
    |some d=>.ok (sD (bv (qC d) (qC d))) (i+2)
   else .ok (sD (bv c c)) (i+1)
end
def qO(s:List UInt8)(i:Nat):Nat:=3*(s.length+1-i)
def uj(s:List UInt8):PR Re:=
 if 400<s.length then .er 0 2 else match sV s (qO s 0) 0 0 with
  | .er a w=>.er a w
  | .ok ls j=>.ok (eX 5 ls) j
end Go.Ak
namespace Go.Ak
def PR.sat{α:Type}(r:PR α)(Q:α->Nat->Prop)(E:Nat->Nat->Prop):Prop:=
 match r with
 | .ok a i=>Q a i
 | .er a w=>E a w
def Re.plain(x:Re):Prop:=(x.k=0->x=emptyRe)∧(x.k=4->x=.mk 4 dL 0 0 x.l∧2<=x.l.length)∧(x.k=5->x=.mk 5 dL 0 0 x.l∧2<=x.l.length)
structure Tree(m:Nat)(x:Re):Prop where
 wide:x.wide
 plain:x.plain
 part:∀k:Int,(x.part k).length<=m
theorem Tree.mono{m n:Nat}{x:Re}(h:Tree m x)(l:m<=n):Tree n x:=⟨h.wide,h.plain,fun k=>fT (h.part k) l⟩
theorem JA(k:Int)(x:Re):(x.part k).length=x.l.length∧x.k=k∨(x.part k).length<=1∧x.k≠k:=by
 unfold Re.part;by_cases h:x.k=k
 ·simp[h]
 ·right;rw[aF h];refine⟨?_,h⟩;split<;>simp
theorem VH{k:Int}{set:List Nat}{m:Nat}(h4:set.length=4)(h0:k≠0)(h1:k≠4)(h2:k≠5)(hm:1<=m):Tree m (.mk k set 0 0 []):=by
 refine⟨by simp[Re.wide,Re.wideL,h4],⟨fun h=>absurd h h0,fun h=>absurd h h1,fun h=>absurd h h2⟩,fun j=>?_⟩;rcases JA j (.mk k set 0 0 [])with⟨e,_⟩|⟨e,_⟩
 ·rw[e];simp[Re.l]
 ·omega
theorem QD(p:Nat->Bool):(ER p).length=4:=rfl
theorem L6(p:Nat->Bool){m:Nat}(hm:1<=m):Tree m (sD p):=VH (QD p) (by decide) (by decide) (by decide) hm
theorem zbU(m:Nat)(hm:1<=m):Tree m emptyRe:=by
 refine⟨by simp[emptyRe,Re.wide,Re.wideL,dL],⟨fun _=>rfl,fun h=>by simp[emptyRe,Re.k]at h,fun h=>by simp[emptyRe,Re.k]at h⟩,fun j=>?_⟩;rcases JA j emptyRe with⟨e,_⟩|⟨e,_⟩
 ·rw[e];simp[emptyRe,Re.l]
 ·omega
theorem Q9(k:Int)(x:Re)(l:List Re):dS k (x::l)=x.part k++dS k l:=by simp[dS]
theorem su{k:Int}(hk:k=4∨k=5){l:List Re}{m:Nat}(h:∀x∈l,Tree m x)(hl:(dS k l).length<=m)(hm:m<1000000)(hm1:1<=m):Tree m (eX k l):=by
 have hw:=Jk (k:=k) (kz.2 fun x hx=>(h x hx).wide)
 -- one part alone is one of those joined
 have fJ:∀x,dS k l=[x]->x∈l:=by
  clear hl hw;induction l with
  |nil=>intro x hx;simp[dS]at hx
  |cons y l ih=>
   intro x hx;rw[Q9]at hx;by_cases hy:y.part k=[]
   ·rw[hy,gV]at hx;exact EM _ (ih (fun z hz=>h z (EM _ hz)) x hx)
   ·have bq:=dF List.length hx;have lH:0<(y.part k).length:=List.length_pos_iff.2 hy;simp only[iF,fF,gW]at bq;have h1:(y.part k).length=1:=by omega
    have h2:dS k l=[]:=mi (by omega);rw[h2,ry]at hx;have hyk:y.k≠k:=fun e=>by
     have hp:=(h y (by simp)).plain;rcases hk with rfl|rfl
     ·have:=(hp.2.1 e).2;rcases JA 4 y with⟨e1,_⟩|⟨_,e1⟩
      ·omega
      ·exact e1 e
     ·have:=(hp.2.2 e).2;rcases JA 5 y with⟨e1,_⟩|⟨_,e1⟩
      ·omega
      ·exact e1 e
    unfold Re.part at hx;rw[aF hyk]at hx;split at hx
    ·simp only[LQ,nE]at hx;subst hx;simp
    ·simp at hx
 unfold eX;generalize dS k l=r at *;match r,hl,hw,fJ with
 | [],_,_,_=>exact zbU m hm1
 | [x],_,_,fJ=>exact h x (fJ x rfl)
 |x::y::t,hl,hw,_=>
  refine⟨?_,?_,fun j=>?_⟩
  ·simp only[sJ,Re.wide];exact⟨rfl,by omega,by decide,hw⟩
  ·simp only[sJ];refine⟨fun e=>?_,fun e=>⟨?_,by simp[Re.l]⟩,fun e=>⟨?_,by simp[Re.l]⟩⟩
   ·simp only[Re.k]at e;rcases hk with rfl|rfl<;>simp at e
   ·simp only[Re.k]at e;subst e;rfl
   ·simp only[Re.k]at e;subst e;rfl
  ·simp only[sJ];rcases JA j (.mk k dL 0 0 (x::y::t))with⟨e,_⟩|⟨e,_⟩
   ·rw[e];exact hl
   ·omega
theorem zbT{mn:Nat}{mx:Int}{x:Re}{m:Nat}(h:Tree m x)(hm:1<=m)(h1:mn<=50)(h2: -1<=mx∧mx<=50):Tree m (mF mn mx x):=by
 refine⟨?_,⟨fun e=>by simp[mF,Re.k]at e,fun e=>by simp[mF,Re.k]at e,fun e=>by simp[mF,Re.k]at e⟩,fun j=>?_⟩
 ·simp only[mF,Re.wide,Re.wideL,nE];exact⟨rfl,by simp,by omega,h.wide⟩
 ·rcases JA j (mF mn mx x)with⟨e,_⟩|⟨e,_⟩
  ·rw[e];simp only[mF,Re.l,fF,gW];omega
  ·omega
-- brackets
section
variable {s:List UInt8}
theorem QA{i j:Nat}{c:UInt8}(h:lu s i=some (c,j)):i<j∧j<=s.length:=by
 unfold lu at h;split at h
 ·cases h
 ·rename_i d hd;have:=(eD.1 hd).1;split at h
  ·split at h
   ·cases h
   ·rename_i e he;have:=(eD.1 he).1;simp only[aD,eU]at h;omega
  ·simp only[aD,eU]at h;omega
theorem Nb:∀{l:List UInt8}{n:Nat},nQ l=some n->n+2<=l.length
 | [],_,h=>by simp[nQ]at h
 |c::l,n,h=>by
  unfold nQ at h;split at h
  ·rename_i e;have:=dF List.length e;simp only[Bq,fF,gW]at this;simp only[aD]at h;simp only[fF];omega
  ·cases hc:nQ l with
   |none=>rw[hc]at h;simp at h
   |some k=>
    rw[hc]at h;have:=Nb hc;simp at h;simp only[fF];omega
def XR(_ w:Nat):Prop:=w=3∨w=4∨w=40
theorem WK(i:Nat):(iU s i).sat (fun _ j=>i<j∧j<=s.length) XR:=by
 unfold iU;split
 ·split
  ·exact .inl rfl
  ·rename_i n hn;have:=Nb hn;simp only[kZ]at this;split
   ·exact .inr (.inr rfl)
   ·simp only[PR.sat];omega
 ·split
  ·exact .inl rfl
  ·rename_i a j hj;have h1:=QA hj;split
   ·split
    ·exact .inl rfl
    ·rename_i b k hk;have h2:=QA hk;split
     ·exact .inr (.inl rfl)
     ·simp only[PR.sat];omega
   ·simp only[PR.sat];omega
theorem Ra:∀(n:Nat)(first:Bool)(p:Nat->Bool)(i:Nat),i<=s.length->s.length<n+i->(nL s n first p i).sat (fun _ j=>i<=j∧j<s.length) XR
 |0,_,_,i,h1,h2=>by omega
 |n+1,first,p,i,h1,h2=>by
  unfold nL;split
  ·rename_i h;have hc:=h.2;simp only[gU,ik]at hc;have:=dF List.length hc;simp only[Bq,kZ,fF,gW]at this;simp only[PR.sat];omega
  ·have h3:=WK (s:=s) i;split
   ·rename_i a w e;rw[e]at h3;exact h3
   ·rename_i q j e;rw[e]at h3;simp only[PR.sat]at h3;have h4:=Ra n false (bi p q) j h3.2 (by omega);generalize nL s n false (bi p q) j=r at h4;cases r with
    |ok a k=>simp only[PR.sat]at h4 ⊢;omega
    |er a w=>exact h4
theorem Na{i:Nat}{t:List UInt8}(h:gU s i t=true)(ht:t ≠ []):i+t.length<=s.length:=by
 simp only[gU,ik]at h;have:=dF List.length h;have hp:0<t.length:=List.length_pos_iff.2 ht;simp only[Bq,kZ]at this;omega
theorem XD{i:Nat}(h:i<s.length):(Cv s i).sat (fun _ j=>i<j∧j<=s.length) XR:=by
 unfold Cv;have h1:(bif gU s (i+1) [94]then i+2 else i+1)<=s.length∧i+1<=(bif gU s (i+1) [94]then i+2 else i+1):=by
  cases hc:gU s (i+1) [94]with
  |true=>have:=Na hc (by simp);simp at this ⊢;omega
  |false=>simp;omega
 have h2:=Ra (s:=s) (s.length+1) true aO _ h1.1 (by omega);split
 ·rename_i a w e;rw[e]at h2;exact h2
 ·rename_i p j e;rw[e]at h2;simp only[PR.sat]at h2 ⊢;omega
-- patterns
def J6(s:List UInt8)(a w:Nat):Prop:=a<=s.length∧(w=2∨w=3∨w=4∨w=40∨w=50)
theorem JD(i:Nat)(h:i<=s.length):i+(gD s i).2<=s.length∧(gD s i).1<100:=by
 unfold gD;split
 ·simp;omega
 ·rename_i c hc;have:=(eD.1 hc).1;split
  ·simp;omega
  ·rename_i hd;have h9:c.toNat<=57:=by
    have:¬(57:UInt8)<c:=fun e=>hd (.inr e);rw[EE]at this;simpa using this
   split
   ·simp only;omega
   ·rename_i d hd1;have:=(eD.1 hd1).1;split
    ·simp only;omega
    ·rename_i he;have h9:d.toNat<=57:=by
      have:¬(57:UInt8)<d:=fun e=>he (.inr e);rw[EE]at this;simpa using this
     simp only;omega
theorem QV{x:Nat×Nat}(h:jb x=true):0<x.2∧x.1<=50:=by simpa[jb]using h
theorem VK{i:Nat}(h:i<=s.length){mn:Nat}{mx:Int}{j:Nat}(e:qB s i=some (mn,mx,j)):i<j∧j<=s.length∧mn<=50∧ -1<=mx∧mx<=50:=by
 unfold qB at e;simp only at e;have h1:=JD (s:=s) i h;generalize gD s i=a at e h1;split at e
 ·rename_i hc;have ha:=QV hc.1;have aB:=(eD.1 hc.2).1;split at e
  ·rename_i hb;have hlt2:=(eD.1 hb).1;simp only[aD,eU]at e;omega
  ·have h2:=JD (s:=s) (i+a.2+1) (by omega);generalize gD s (i+a.2+1)=b at e h2;split at e
   ·rename_i hd;have hb:=QV hd.1;have hlt2:=(eD.1 hd.2.2).1;simp only[aD,eU]at e;omega
   ·cases e
 ·split at e
  ·rename_i hd;have ha:=QV hd.1;have hlt2:=(eD.1 hd.2).1;simp only[aD,eU]at e;omega
  ·cases e
theorem Jz:∀(n:Nat)(x:Re)(i m:Nat),i<=s.length->s.length<n+i->1<=m->Tree m x->(jq s n x i).sat (fun y j=>i<=j∧j<=s.length∧Tree m y) (J6 s)
 |0,_,i,_,h1,h2,_,_=>by omega
 |n+1,x,i,m,h1,h2,hm,hx=>by
  have next:∀(mn:Nat)(mx:Int)(j:Nat),i<j->j<=s.length->mn<=50-> -1<=mx∧mx<=50->(jq s n (mF mn mx x) j).sat (fun y k=>i<=k∧k<=s.length∧Tree m y) (J6 s):=fun mn mx j hj hl a b=>by
   have h4:=Jz n (mF mn mx x) j m hl (by omega) hm (zbT hx hm a b);generalize jq s n (mF mn mx x) j=r at h4;cases r with
   |ok a k=>simp only[PR.sat]at h4 ⊢;exact⟨by omega,h4.2⟩
   |er a w=>exact h4
  unfold jq;split
  ·exact⟨aX _,h1,hx⟩
  ·rename_i c hc;have aB:=(eD.1 hc).1;split
   ·exact next 0 (-1) (i+1) (by omega) aB (by omega) (by omega)
   ·split
    ·exact next 1 (-1) (i+1) (by omega) aB (by omega) (by omega)
    ·split
     ·exact next 0 1 (i+1) (by omega) aB (by omega) (by omega)
     ·split
      ·split
       ·exact⟨h1,by simp⟩
       ·rename_i mn mx j hj;have h5:=VK (by omega) hj;exact next mn mx j (by omega) h5.2.1 h5.2.2.1 h5.2.2.2
      ·exact⟨aX _,h1,hx⟩
def zmS(s:List UInt8)(i:Nat)(ls:List Re)(j:Nat):Prop:=
 i<=j∧j<=s.length∧(∀x∈ls,Tree (j-i+1) x)∧(dS 5 ls).length<=j-i+1∧ls.length<=j-i+1∧ls ≠ []
def zmT(s:List UInt8)(i:Nat)(l:List Re)(j:Nat):Prop:=
 i<=j∧j<=s.length∧(∀x∈l,Tree (j-i) x)∧(dS 4 l).length<=j-i∧l.length<=j-i
theorem lT{i:Nat}{c:UInt8}(h:s[i]?=some c):i<s.length:=(eD.1 h).1
theorem sH(hs:s.length<=400):∀(n:Nat),
  (∀i ay,i<=s.length->3*(s.length+1-i)<=n->(sV s n i ay).sat (zmS s i) (J6 s))∧
  (∀i ay,i<=s.length->3*(s.length+1-i)<=n+1->(lY s n i ay).sat (zmT s i) (J6 s))∧
  (∀i ay,i<s.length->3*(s.length+1-i)<=n+2->(uE s n i ay).sat (fun x j=>i<j∧j<=s.length∧Tree (j-i) x) (J6 s)):=by
 intro n;induction n with
 |zero=>exact⟨fun i _ h1 h2=>by omega,fun i _ h1 h2=>by omega,fun i _ h1 h2=>by omega⟩
 |succ n ih=>
  obtain⟨ih1,ih2,ih3⟩:=ih;refine⟨fun i ay h1 h2=>?_,fun i ay h1 h2=>?_,fun i ay h1 h2=>?_⟩
  ·unfold sV;have hb:=ih2 i ay h1 (by omega);split
   ·rename_i a w e;rw[e]at hb;exact hb
   ·rename_i l j e;rw[e]at hb;obtain⟨b1,b2,b3,b4,b5⟩:=hb;have ht:Tree (j-i+1) (eX 4 l):=su (.inl rfl) (fun x hx=>(b3 x hx).mono (by omega)) (by omega) (by omega) (by omega);split
    ·rename_i hc;have aB:=lT hc;have hr:=ih1 (j+1) ay (by omega) (by omega);split
     ·rename_i a w e;rw[e]at hr;exact hr
     ·rename_i ls k e;rw[e]at hr;obtain⟨r1,r2,r3,r4,r5,_⟩:=hr;refine⟨by omega,r2,fun x hx=>?_,?_,?_,by simp⟩
      ·rcases il.1 hx with rfl|hx
       ·exact ht.mono (by omega)
       ·exact(r3 x hx).mono (by omega)
      ·rw[Q9,iF];have:=ht.part 5;omega
      ·simp only[fF];omega
    ·refine⟨b1,b2,fun x hx=>?_,?_,?_,by simp⟩
     ·simp only[xE]at hx;subst hx;exact ht
     ·rw[Q9,iF];have:=ht.part 5;simp only[dS,List.flatMap_nil,gW];omega
     ·simp only[fF,gW];omega
  ·unfold lY;split
   ·exact⟨aX _,h1,by simp,by simp[dS],by simp⟩
   ·rename_i dx;have aB:i<s.length:=by
     rcases kY i s.length with h|h
     ·exact h
     ·exfalso;apply dx;simp[stops,pq h]
    have ha:=ih3 i ay aB (by omega);split
    ·rename_i a w e;rw[e]at ha;exact ha
    ·rename_i x j e;rw[e]at ha;obtain⟨a1,a2,a3⟩:=ha;have hr:=Jz (s:=s) (s.length+1) x j (j-i) a2 (by omega) (by omega) a3;split
     ·rename_i a w e;rw[e]at hr;exact hr
     ·rename_i y k e;rw[e]at hr;obtain⟨r1,r2,r3⟩:=hr;have hb:=ih2 k ay r2 (by omega);split
      ·rename_i a w e;rw[e]at hb;exact hb
      ·rename_i ys m e;rw[e]at hb;obtain⟨b1,b2,b3,b4,b5⟩:=hb;refine⟨by omega,b2,fun z hz=>?_,?_,?_⟩
       ·rcases il.1 hz with rfl|hz
        ·exact r3.mono (by omega)
        ·exact(b3 z hz).mono (by omega)
       ·rw[Q9,iF];have:=r3.part 4;omega
       ·simp only[fF];omega
  ·unfold uE;split
   ·rename_i h0;rw[gG h1]at h0;cases h0
   ·rename_i c hc;split
    ·exact⟨by omega,by simp⟩
    split
    ·exact⟨by omega,by simp⟩
    split
    ·have hb:=XD (s:=s) h1;split
     ·rename_i a w e;rw[e]at hb;refine⟨by omega,?_⟩;rcases hb with h|h|h<;>simp[h]
     ·rename_i p j e;rw[e]at hb;simp only[PR.sat]at hb ⊢;exact⟨hb.1,hb.2,L6 p (by omega)⟩
    split
    ·split
     ·exact⟨by omega,by simp⟩
     ·have hb:=ih1 (i+1) (ay+1) (by omega) (by omega);split
      ·rename_i a w e;rw[e]at hb;exact hb
      ·rename_i ls j e;rw[e]at hb;obtain⟨b1,b2,b3,b4,b5,_⟩:=hb;split
       ·rename_i hc;have aB:=lT hc;simp only[PR.sat];exact⟨by omega,aB,su (.inr rfl) (fun x hx=>(b3 x hx).mono (by omega)) (by omega) (by omega) (by omega)⟩
       ·exact⟨b2,by simp⟩
    split
    ·simp only[PR.sat];exact⟨by omega,by omega,L6 _ (by omega)⟩
    split
    ·simp only[PR.sat];exact⟨by omega,by omega,VH rfl (by decide) (by decide) (by decide) (by omega)⟩
    split
    ·simp only[PR.sat];exact⟨by omega,by omega,VH rfl (by decide) (by decide) (by decide) (by omega)⟩
    split
    ·split
     ·exact⟨by omega,by simp⟩
     ·rename_i d hd;have aB:=lT hd;simp only[PR.sat];exact⟨by omega,by omega,L6 _ (by omega)⟩
    ·simp only[PR.sat];exact⟨by omega,by omega,L6 _ (by omega)⟩
end
end Go.Ak
namespace Go.Ak
theorem Bv(p:Nat->Bool)(i:Nat):∀n,dR p i n<2^n
 |0=>by simp[dR]
 |n+1=>by
  have:=Bv p i n;simp only[dR,EF];cases p (64*i+n)<;>simp<;>omega
theorem vY(p:Nat->Bool)(i:Nat):∀n k,Nat.testBit (dR p i n) k=(decide (k<n)&&p (64*i+k))
 |0,k=>by simp[dR]
 |n+1,k=>by
  have ih:=vY p i n k;have aB:=Bv p i n;simp only[dR];cases hp:p (64*i+n)with
  |false=>
   simp only[fq,qx,ih];by_cases hk:k=n
   ·subst hk;simp[hp]
   ·have:(k<n+1)↔k<n:=by omega
    simp[this]
  |true=>
   simp only[bA];rw[Bo];by_cases hk:k=n
   ·subst hk;rw[Nat.testBit_two_pow_add_eq,Nat.testBit_lt_two_pow aB];simp[hp]
   ·rcases Nat.lt_or_gt_of_ne hk with h|h
    ·rw[Nat.testBit_two_pow_add_gt h,ih];have:k<n+1:=by omega
     simp[h,this]
    ·have h2:2^n+dR p i n<2^k:=by
      have:2^(n+1)<=2^k:=Nat.pow_le_pow_right (by omega) h;rw[EF]at this;omega
     rw[Nat.testBit_lt_two_pow h2];have:¬k<n+1:=by omega
     simp[this]
theorem zji{p q:Nat->Bool}{i n:Nat}(h:∀k,k<n->p (64*i+k)=q (64*i+k)):dR p i n=dR q i n:=by
 apply Qd;intro k;rw[vY,vY];by_cases hk:k<n
 ·simp[hk,h k hk]
 ·simp[hk]
theorem VZ(p:Nat->Bool){i:Nat}(h:i<4):(ER p)[i]?=some (dR p i 64):=by
 rcases i with _|_|_|_|i
 ·rfl
 ·rfl
 ·rfl
 ·rfl
 ·omega
theorem zjj(p:Nat->Bool){i k:Nat}(hk:k<64):dR p i 64 ||| 2^k=dR (fun c=>p c||decide (c=64*i+k)) i 64:=by
 apply Qd;intro j;rw[Nat.testBit_or,vY,vY,Nat.testBit_two_pow];by_cases hj:j=k
 ·subst hj;simp[hk]
 ·have h1:¬k=j:=fun e=>hj e.symm;have h2:¬(64*i+j=64*i+k):=by omega
  simp[h1,hj]
theorem zjg(p:Nat->Bool){i c:Nat}(h:c/64≠i):dR (fun x=>p x||decide (x=c)) i 64=dR p i 64:=by
 refine zji fun k hk=>?_;have:¬(64*i+k=c):=by omega
 simp[this]
theorem zkB(p:Nat->Bool){c:Nat}(hc:c<256):(ER p).set (c/64) (dR p (c/64) 64 ||| 2^(c%64))=ER (fun x=>p x||decide (x=c)):=by
 have hk:c%64<64:=Nat.mod_lt _ (by omega);have he:64*(c/64)+c%64=c:=Nat.div_add_mod _ _;rw[zjj p hk,he];have hi:c/64<4:=by omega
 apply Br;intro i;rw[EN];by_cases h4:i<4
 ·rw[VZ _ h4];by_cases e:c/64=i
  ·subst e;rw[aS rfl,aS (by simp[QD,hi]),VZ _ hi]
  ·rw[aF e,VZ _ h4,zjg p e]
 ·have e:¬c/64=i:=by omega
  rw[aF e,pq (by simp[QD];omega),pq (by simp[QD];omega)]
theorem zjh(p q:Nat->Bool)(i:Nat):dR p i 64 ||| dR q i 64=dR (bi p q) i 64:=by
 apply Qd;intro j;rw[Nat.testBit_or,vY,vY,vY];by_cases hj:j<64<;>simp[hj,bi]
theorem zkA:ER aO=dL:=by decide
end Go.Ak
namespace Go.Ak
abbrev Tb:=List (List Bool)
def VO(n:Nat)(f:Nat->Nat->Bool):Tb:=(List.range n).map fun i=>(List.range n).map fun j=>f i j
theorem zsp{n:Nat}{f g:Nat->Nat->Bool}(h:∀i j,i<n->j<n->f i j=g i j):VO n f=VO n g:=by
 unfold VO;refine Bp fun i hi=>Bp fun j hj=>?_;simp only[EK]at hi hj;exact h i j hi hj
def lN(n:Nat)(a b:Nat->Nat->Bool)(i j:Nat):Bool:=(List.range n).any fun k=>a i k&&b k j
def jH(a b:Nat->Nat->Bool)(i j:Nat):Bool:=a i j||b i j
def Ff(i j:Nat):Bool:=decide (i=j)
def zT(k:Nat)(a:Nat->Nat->Bool)(i j:Nat):Bool:=a i j||(a i k&&a k j)
def rA(a:Nat->Nat->Bool):Nat->Nat->Nat->Bool
 |0=>a
 |k+1=>zT k (rA a k)
def MI(n:Nat)(a:Nat->Nat->Bool):Nat->Nat->Bool:=rA (fun i j=>Ff i j||a i j) n
def ug(n:Nat)(x:Nat->Nat->Bool):Nat->(Nat->Nat->Bool)->Nat->Nat->Bool
 |0,a=>a
 |m+1,a=>ug n x m (lN n a x)
def Fa(n:Nat)(x:Nat->Nat->Bool):Nat->(Nat->Nat->Bool)->(Nat->Nat->Bool)->Nat->Nat->Bool
 |0,_,out=>out
 |m+1,gu,out=>Fa n x m (lN n gu x) (jH out (lN n gu x))
def Says(n:Nat)(f:Nat->Nat->Bool)(R:Nat->Nat->Prop):Prop:=∀i j,i<n->j<n->(f i j=true↔R i j)
def pW(n:Nat)(R:Nat->Nat->Prop):Prop:=∀i j,i<n->R i j->j<n
theorem QE{n:Nat}{f g:Nat->Nat->Bool}{R S:Nat->Nat->Prop}(h:Says n f R)(k:Says n g S)(hR:pW n R):Says n (lN n f g) (fun i j=> ∃m,R i m∧S m j):=by
 intro i j hi hj;simp only[lN,List.any_eq_true,EK,aU];constructor
 ·rintro⟨m,hm,a,b⟩;exact⟨m,(h i m hi hm).1 a,(k m j hm hj).1 b⟩
 ·rintro⟨m,a,b⟩;have hm:=hR i m hi a;exact⟨m,hm,(h i m hi hm).2 a,(k m j hm hj).2 b⟩
theorem zcs{n:Nat}{f g:Nat->Nat->Bool}{R S:Nat->Nat->Prop}(h:Says n f R)(k:Says n g S):Says n (jH f g) (fun i j=>R i j∨S i j):=by
 intro i j hi hj;simp only[jH,nG,h i j hi hj,k i j hi hj]
theorem VS{n:Nat}{R S:Nat->Nat->Prop}(h:pW n R)(k:pW n S):pW n (fun i j=> ∃m,R i m∧S m j):=fun i j hi ⟨m,a,b⟩=>k m j (h i m hi a) b
theorem VT{n:Nat}{R:Nat->Nat->Prop}(h:pW n R):∀m,pW n (kH R m)
 |0=>fun i j hi e=>by cases e;exact hi
 |m+1=>fun i j hi ⟨k,a,b⟩=>VT h m k j (h i k hi a) b
theorem zcq{n:Nat}{x:Nat->Nat->Bool}{R:Nat->Nat->Prop}(hx:Says n x R)(hR:pW n R):∀(m:Nat){a:Nat->Nat->Bool}{A:Nat->Nat->Prop},Says n a A->pW n A->Says n (ug n x m a) (fun i j=> ∃k,A i k∧kH R m k j)
 |0,a,A,ha,_=>fun i j hi hj=>by
  rw[ug,ha i j hi hj];exact⟨fun h=>⟨j,h,rfl⟩,fun⟨k,h,e⟩=>by cases e;exact h⟩
 |m+1,a,A,ha,hA=>fun i j hi hj=>by
  rw[ug,zcq hx hR m (QE ha hx hA) (VS hA hR) i j hi hj];constructor
  ·rintro⟨k,⟨l,a,b⟩,c⟩;exact⟨l,a,k,b,c⟩
  ·rintro⟨l,a,k,b,c⟩;exact⟨k,⟨l,a,b⟩,c⟩
theorem zcr{n:Nat}{x:Nat->Nat->Bool}{R:Nat->Nat->Prop}(hx:Says n x R)(hR:pW n R):∀(m:Nat){gu out:Nat->Nat->Bool}{A B:Nat->Nat->Prop},Says n gu A->pW n A->Says n out B->
  Says n (Fa n x m gu out) (fun i j=>B i j∨∃d,0<d∧d<=m∧∃k,A i k∧kH R d k j)
 |0,gu,out,A,B,_,_,hB=>fun i j hi hj=>by
  rw[Fa,hB i j hi hj];constructor
  ·exact .inl
  ·rintro(h|⟨d,h1,h2,_⟩)
   ·exact h
   ·omega
 |m+1,gu,out,A,B,hA,sA,hB=>fun i j hi hj=>by
  have h1:=QE hA hx sA;rw[Fa,zcr hx hR m h1 (VS sA hR) (zcs hB h1) i j hi hj];constructor
  ·rintro((h|⟨k,a,b⟩)|⟨d,d0,d1,k,⟨l,a,b⟩,c⟩)
   ·exact .inl h
   ·exact .inr ⟨1,by omega,by omega,k,a,j,b,rfl⟩
   ·exact .inr ⟨d+1,by omega,by omega,l,a,k,b,c⟩
  ·rintro(h|⟨d,d0,d1,k,a,c⟩)
   ·exact .inl (.inl h)
   ·cases d with
    |zero=>omega
    |succ d=>
     obtain⟨l,b,c⟩:=c;by_cases hd:d=0
     ·subst hd;cases c;exact .inl (.inr ⟨k,a,b⟩)
     ·exact .inr ⟨d,by omega,by omega,l,⟨k,a,b⟩,c⟩
theorem VE(a:Nat->Nat->Bool)(i j:Nat):∀k,a i j=true->rA a k i j=true
 |0,h=>h
 |k+1,h=>by simp[rA,zT,VE a i j k h]
theorem zbL(a:Nat->Nat->Bool):∀K k,k<K->∀i j,rA a K i k=true->rA a K k j=true->rA a K i j=true
 |0,k,h,_,_,_,_=>by omega
 |K+1,k,h,i,j,h1,h2=>by
  have ih:=zbL a K;simp only[rA,zT,nG,aU]at h1 h2 ⊢;by_cases e:k=K
  ·subst e;have a1:rA a k i k=true:=by exact h1.elim id (·.1)
   have a2:rA a k k j=true:=by exact h2.elim id (·.2)
   exact .inr ⟨a1,a2⟩
  ·have hk:k<K:=by omega
   rcases h1 with h1|⟨h1,h1'⟩<;>rcases h2 with h2|⟨h2,h2'⟩
   ·exact .inl (ih k hk i j h1 h2)
   ·exact .inr ⟨ih k hk i K h1 h2,h2'⟩
   ·exact .inr ⟨h1,ih k hk K j h1' h2⟩
   ·exact .inr ⟨h1,h2'⟩
theorem zbK{n:Nat}{a:Nat->Nat->Bool}{S:Nat->Nat->Prop}(h:∀i j,i<n->j<n->a i j=true->S i j)(ht:∀i j k,S i j->S j k->S i k):∀K,K<=n->∀i j,i<n->j<n->rA a K i j=true->S i j
 |0,_,i,j,hi,hj,e=>h i j hi hj e
 |K+1,hK,i,j,hi,hj,e=>by
  have ih:=zbK h ht K (by omega);simp only[rA,zT,nG,aU]at e;rcases e with e|⟨e1,e2⟩
  ·exact ih i j hi hj e
  ·exact ht _ _ _ (ih i K hi (by omega) e1) (ih K j (by omega) hj e2)
theorem zkF{n:Nat}{x:Nat->Nat->Bool}{R:Nat->Nat->Prop}(hx:Says n x R)(hR:pW n R):Says n (MI n x) (fun i j=> ∃m,kH R m i j):=by
 intro i j hi hj;constructor
 ·refine zbK (n:=n) (S:=fun i j=> ∃m,kH R m i j) (fun i j hi hj e=>?_) (fun i j k ⟨a,h1⟩⟨b,h2⟩=>⟨a+b,(xQ b a i).2 ⟨j,h1,h2⟩⟩) n (aX _) i j hi hj;simp only[Ff,nG,ik]at e;rcases e with e|e
  ·exact⟨0,e⟩
  ·exact⟨1,j,(hx i j hi hj).1 e,rfl⟩
 ·rintro⟨m,hm⟩;have dw:∀m i j,i<n->kH R m i j->MI n x i j=true:=by
   intro m;induction m with
   |zero=>intro i j hi e;cases e;exact VE _ _ _ _ (by simp[Ff])
   |succ m ih=>
    rintro i j hi ⟨k,a,b⟩;have hk:=hR i k hi a;have h1:MI n x i k=true:=VE _ _ _ _ (by simp[(hx i k hi hk).2 a]);exact zbL _ n k hk i j h1 (ih k j hk b)
  exact dw m i j hi hm
-- trees
section
variable (s:List UInt8)
mutual
def Re.tab:Re->Nat->Nat->Bool
 | .mk k set mn mx l=>
  let n:=s.length+1
  let fE:=fun i j=>if k=1 then(match s[i]? with|some c=>hasB set c&&decide (j=i+1)|none=>false)
   else decide (j=i)&&(decide (k=0)||(decide (k=2)&&decide (i=0))||(decide (k=3)&&decide (i=s.length))||decide (k=4)||decide (k=6))
  if k=4 then Re.tabCat l fE
  else if k=5 then Re.tabAlt l fE
  else if k=6 then Re.tabRep mn mx fE l
  else fE
def Re.tabCat:List Re->(Nat->Nat->Bool)->Nat->Nat->Bool
 | [],a=>a
 |x::l,a=>Re.tabCat l (lN (s.length+1) a x.tab)
def Re.tabAlt:List Re->(Nat->Nat->Bool)->Nat->Nat->Bool
 | [],a=>a
 |x::l,a=>Re.tabAlt l (jH a x.tab)
def Re.tabRep(mn mx:Int)(a:Nat->Nat->Bool):List Re->Nat->Nat->Bool
 | []=>a
 |x::_=>if mx<0 then lN (s.length+1) (ug (s.length+1) x.tab mn.toNat a) (MI (s.length+1) x.tab)
  else Fa (s.length+1) x.tab (mx-mn).toNat (ug (s.length+1) x.tab mn.toNat a) (ug (s.length+1) x.tab mn.toNat a)
end
mutual
theorem Re.M_stays:∀(r:Re),pW (s.length+1) (r.M s)
 | .mk k set mn mx l=>fun i j hi h=>by
  unfold Re.M at h;split at h
  ·obtain⟨c,hc,_,rfl⟩:=h;have:=(eD.1 hc).1;omega
  split at h
  ·omega
  split at h
  ·omega
  split at h
  ·exact Re.MCat_stays l i j hi h
  split at h
  ·exact Re.MAlt_stays l i j hi h
  split at h
  ·exact Re.MRep_stays l i j hi h
  ·omega
theorem Re.MCat_stays:∀(l:List Re),pW (s.length+1) (Re.MCat s l)
 | []=>fun i j hi h=>by simp only[Re.MCat]at h;omega
 |x::l=>fun i j hi h=>by
  simp only[Re.MCat]at h;obtain⟨k,a,b⟩:=h;exact Re.MCat_stays l k j (Re.M_stays x i k hi a) b
theorem Re.MAlt_stays:∀(l:List Re),pW (s.length+1) (Re.MAlt s l)
 | []=>fun i j hi h=>by simp[Re.MAlt]at h
 |x::l=>fun i j hi h=>by
  simp only[Re.MAlt]at h;rcases h with h|h
  ·exact Re.M_stays x i j hi h
  ·exact Re.MAlt_stays l i j hi h
theorem Re.MRep_stays{mn mx:Int}:∀(l:List Re),pW (s.length+1) (Re.MRep s mn mx l)
 | []=>fun i j hi h=>by simp[Re.MRep]at h
 |x::l=>fun i j hi h=>by
  simp only[Re.MRep]at h;obtain⟨n,_,_,hn⟩:=h;exact VT (Re.M_stays x) n i j hi hn
end
theorem zqV{k:Int}{set:List Nat}{mn mx:Int}{l:List Re}{dh ay:Int}(h:(Re.mk k set mn mx l).can dh ay=true):
  (0<=k∧k<=3)∨((k=4∨k=5)∧Re.canL l k ay=true)∨(k=6∧(∃x,l=[x])∧0<=mn∧(mx<0∨mn<=mx)∧Re.canL l k ay=true):=by
 unfold Re.can at h;split at h
 ·cases h
 split at h
 ·left;omega
 split at h
 ·left;omega
 split at h
 ·rename_i h2;split at h
  ·cases h
  ·exact .inr (.inl ⟨h2,h⟩)
 split at h
 ·rename_i h3;split at h
  ·cases h
  ·rename_i h4;simp only[lQ,nG,ik,aU,not_or,not_and]at h4;obtain⟨⟨⟨h5,h6⟩,h7⟩,h8⟩:=h4;refine .inr (.inr ⟨h3,?_,by omega,?_,h⟩)
   ·match l,h5 with
    | [x],_=>exact⟨x,rfl⟩
    | [],h5=>simp at h5
    |_::_::_,h5=>simp at h5
   ·by_cases e:mx= -1
    ·exact .inl (by omega)
    ·have:=h8 e;exact .inr (by omega)
 ·cases h
mutual
theorem Re.tab_ok:∀(r:Re)(dh ay:Int),r.can dh ay=true->Says (s.length+1) (r.tab s) (r.M s)
 | .mk k set mn mx l,dh,ay,hc=>by
  rcases zqV hc with⟨h1,h2⟩|⟨hk,hl⟩|⟨rfl,⟨x,rfl⟩,h1,h2,hl⟩
  ·have hk:k=0∨k=1∨k=2∨k=3:=by omega
   intro i j hi hj;unfold Re.tab Re.M;rcases hk with rfl|rfl|rfl|rfl
   ·simp
   ·simp only[fD,show ¬((1:Int)=4) by decide,show ¬((1:Int)=5) by decide,show ¬((1:Int)=6) by decide,ig];cases hc:s[i]? with
    |none=>simp
    |some c=>simp
   ·simp;exact And.comm
   ·simp;exact And.comm
  ·rcases hk with rfl|rfl
   ·have:=Re.tabCat_ok l 4 ay hl (a:=fun i j=>decide (j=i)) (A:=fun i j=>j=i) (fun i j _ _=>by simp) (fun i j hi e=>by omega);intro i j hi hj;have h:=this i j hi hj;unfold Re.tab Re.M;simp;exact h.trans ⟨fun⟨k,e,q⟩=>by subst e;exact q,fun q=>⟨i,rfl,q⟩⟩
   ·have:=Re.tabAlt_ok l 5 ay hl (a:=fun i j=>false) (A:=fun i j=>False) (fun i j _ _=>by simp);intro i j hi hj;have h:=this i j hi hj;unfold Re.tab Re.M;simp;simpa using h
  ·simp only[Re.canL,aU]at hl;have hx:=Re.tab_ok x 6 (ay+1) hl.1;have hs:=Re.M_stays s x;have h0:Says (s.length+1) (fun i j:Nat=>decide (j=i)) (fun i j=>j=i):=fun i j _ _=>by simp
   have s0:pW (s.length+1) (fun i j:Nat=>j=i):=fun i j hi e=>by omega
   have ht:=zcq hx hs mn.toNat h0 s0;have st:pW (s.length+1) (fun i j=> ∃k,k=i∧kH (x.M s) mn.toNat k j):=fun i j hi ⟨k,e,h⟩=>by subst e;exact VT hs _ _ _ hi h
   intro i j hi hj;unfold Re.tab Re.M;simp only[show ¬((6:Int)=4) by decide,show ¬((6:Int)=5) by decide,show ¬((6:Int)=1) by decide,show ¬((6:Int)=0) by decide,show ¬((6:Int)=2) by decide,show ¬((6:Int)=3) by decide,ig,fD,decide_false,decide_true,Bool.false_and,xJ,Bool.or_false,Bool.or_true,Bool.and_true,Re.MRep,Re.tabRep,Mw];have e0:((mn.toNat:Nat):Int)=mn:=by omega
   by_cases hm:mx<0
   ·rw[aS hm,QE ht (zkF hx hs) st i j hi hj];constructor
    ·rintro⟨k,⟨_,rfl,a⟩,m,b⟩;exact⟨m+mn.toNat,by omega,.inl hm,by rw[Bo];exact(xQ m mn.toNat _).2 ⟨k,a,b⟩⟩
    ·rintro⟨n,a,_,b⟩;have e:n=mn.toNat+(n-mn.toNat):=by omega
     rw[e]at b;obtain⟨k,c,d⟩:=(xQ _ _ _).1 b;exact⟨k,⟨i,rfl,c⟩,_,d⟩
   ·rw[aF hm,zcr hx hs _ ht st ht i j hi hj];constructor
    ·rintro(⟨_,rfl,a⟩|⟨d,d0,d1,k,⟨_,rfl,a⟩,b⟩)
     ·exact⟨mn.toNat,by omega,.inr (by omega),a⟩
     ·exact⟨d+mn.toNat,by omega,.inr (by omega),by rw[Bo];exact(xQ d mn.toNat _).2 ⟨_,a,b⟩⟩
    ·rintro⟨n,a,b,c⟩;by_cases e:n=mn.toNat
     ·rw[e]at c;exact .inl ⟨i,rfl,c⟩
     ·have e:n=mn.toNat+(n-mn.toNat):=by omega
      rw[e]at c;obtain⟨k,c,d⟩:=(xQ _ _ _).1 c;exact .inr ⟨n-mn.toNat,by omega,by omega,k,⟨_,rfl,c⟩,d⟩
theorem Re.tabCat_ok:∀(l:List Re)(k ay:Int),Re.canL l k ay=true->∀{a:Nat->Nat->Bool}{A:Nat->Nat->Prop},Says (s.length+1) a A->pW (s.length+1) A->Says (s.length+1) (Re.tabCat s l a) (fun i j=> ∃k,A i k∧Re.MCat s l k j)
 | [],_,_,_,a,A,h,_=>fun i j hi hj=>by
  simp only[Re.tabCat,Re.MCat,h i j hi hj];exact⟨fun h=>⟨j,h,rfl⟩,fun⟨k,h,e⟩=>by subst e;exact h⟩
 |x::l,k,ay,hc,a,A,h,hs=>fun i j hi hj=>by
  simp only[Re.canL,aU]at hc;simp only[Re.tabCat,Re.MCat];rw[Re.tabCat_ok l k ay hc.2 (QE h (Re.tab_ok x k (ay+1) hc.1) hs) (VS hs (Re.M_stays s x)) i j hi hj];constructor
  ·rintro⟨k,⟨m,a,b⟩,c⟩;exact⟨m,a,k,b,c⟩
  ·rintro⟨m,a,k,b,c⟩;exact⟨k,⟨m,a,b⟩,c⟩
theorem Re.tabAlt_ok:∀(l:List Re)(k ay:Int),Re.canL l k ay=true->∀{a:Nat->Nat->Bool}{A:Nat->Nat->Prop},Says (s.length+1) a A->Says (s.length+1) (Re.tabAlt s l a) (fun i j=>A i j∨Re.MAlt s l i j)
 | [],_,_,_,a,A,h=>fun i j hi hj=>by simp[Re.tabAlt,Re.MAlt,h i j hi hj]
 |x::l,k,ay,hc,a,A,h=>fun i j hi hj=>by
  simp only[Re.canL,aU]at hc;simp only[Re.tabAlt,Re.MAlt];rw[Re.tabAlt_ok l k ay hc.2 (zcs h (Re.tab_ok x k (ay+1) hc.1)) i j hi hj];exact or_assoc
end
end
end Go.Ak
namespace Go.Ak
mutual
def Re.least:Re->Nat
 | .mk k _ mn _ l=>if k=1 then 1 else if k=4 then Re.leastSum l else if k=5 then Re.leastMin l else if k=6 then mn.toNat*Re.leastHead l else 0
def Re.leastSum:List Re->Nat
 | []=>0
 |x::l=>x.least+Re.leastSum l
def Re.leastMin:List Re->Nat
 | []=>0
 | [x]=>x.least
 |x::y::l=>min x.least (Re.leastMin (y::l))
def Re.leastHead:List Re->Nat
 | []=>0
 |x::_=>x.least
end
section
variable (s:List UInt8)
theorem zcE{R:Nat->Nat->Prop}{d:Nat}(h:∀i j,R i j->i+d<=j):∀(n i j:Nat),kH R n i j->i+n*d<=j
 |0,i,j,e=>by cases e;simp
 |n+1,i,j,⟨k,a,b⟩=>by
  have h1:=h i k a;have h2:=zcE h n k j b;rw[rf];omega
theorem WF(x:Re)(l:List Re):Re.leastMin (x::l)<=x.least∧(l ≠ []->Re.leastMin (x::l)<=Re.leastMin l):=by
 cases l with
 |nil=>simp[Re.leastMin]
 |cons y l=>simp only[Re.leastMin];exact⟨Nat.min_le_left _ _,fun _=>Nat.min_le_right _ _⟩
mutual
theorem Re.least_ok:∀(r:Re)(i j:Nat),r.M s i j->i+r.least<=j
 | .mk k set mn mx l,i,j,h=>by
  unfold Re.M at h;unfold Re.least;by_cases h1:k=1
  ·rw[aS h1]at h ⊢;obtain⟨_,_,_,e⟩:=h;omega
  rw[aF h1]at h ⊢;by_cases h2:k=2
  ·rw[aS h2]at h;rw[aF (by omega),aF (by omega),aF (by omega)];omega
  rw[aF h2]at h;by_cases h3:k=3
  ·rw[aS h3]at h;rw[aF (by omega),aF (by omega),aF (by omega)];omega
  rw[aF h3]at h;by_cases h4:k=4
  ·rw[aS h4]at h ⊢;exact Re.leastSum_ok l i j h
  rw[aF h4]at h ⊢;by_cases h5:k=5
  ·rw[aS h5]at h ⊢;exact Re.leastMin_ok l i j h
  rw[aF h5]at h ⊢;by_cases h6:k=6
  ·rw[aS h6]at h ⊢;exact Re.leastRep_ok l i j h
  rw[aF h6]at h ⊢;omega
theorem Re.leastSum_ok:∀(l:List Re)(i j:Nat),Re.MCat s l i j->i+Re.leastSum l<=j
 | [],i,j,h=>by simp only[Re.MCat]at h;simp only[Re.leastSum];omega
 |x::l,i,j,h=>by
  simp only[Re.MCat]at h;obtain⟨k,a,b⟩:=h;have h1:=Re.least_ok x i k a;have h2:=Re.leastSum_ok l k j b;simp only[Re.leastSum];omega
theorem Re.leastMin_ok:∀(l:List Re)(i j:Nat),Re.MAlt s l i j->i+Re.leastMin l<=j
 | [],i,j,h=>by simp[Re.MAlt]at h
 |x::l,i,j,h=>by
  simp only[Re.MAlt]at h;have h0:=WF x l;rcases h with h|h
  ·have:=Re.least_ok x i j h;omega
  ·have h1:=Re.leastMin_ok l i j h;have:l ≠ []:=fun e=>by subst e;simp[Re.MAlt]at h
   have:=h0.2 this;omega
theorem Re.leastRep_ok{mn mx:Int}:∀(l:List Re)(i j:Nat),Re.MRep s mn mx l i j->i+mn.toNat*Re.leastHead l<=j
 | [],i,j,h=>by simp[Re.MRep]at h
 |x::l,i,j,h=>by
  simp only[Re.MRep]at h;obtain⟨n,a,_,b⟩:=h;have h1:=zcE (fun i j h=>Re.least_ok x i j h) n i j b;simp only[Re.leastHead];have:mn.toNat*x.least<=n*x.least:=zM _ (by omega);omega
end
end
mutual
theorem Re.least_cnt:∀(r:Re),r.fine->r.least<=r.cnt
 | .mk k set mn mx l,h=>by
  unfold Re.fine at h;unfold Re.least Re.cnt;by_cases h1:k=1
  ·rw[aS h1];simp[h1]
  rw[aF h1];by_cases h4:k=4
  ·subst h4;have:=Re.leastSum_cnt l h.2.2;simpa using this
  rw[aF h4];by_cases h5:k=5
  ·subst h5;have:=Re.leastMin_cnt l h.2.2;simp;omega
  rw[aF h5];by_cases h6:k=6
  ·subst h6;have:=Re.leastRep_cnt l h.2.2 mn mx;simpa using this
  rw[aF h6];omega
theorem Re.leastSum_cnt:∀(l:List Re),Re.fineL l->Re.leastSum l<=Re.cntL l
 | [],_=>by simp[Re.leastSum]
 |x::l,h=>by
  unfold Re.fineL at h;have h1:=Re.least_cnt x h.1;have h2:=Re.leastSum_cnt l h.2;simp only[Re.leastSum,Re.cntL];omega
theorem Re.leastMin_cnt:∀(l:List Re),Re.fineL l->Re.leastMin l<=Re.cntL l
 | [],_=>by simp[Re.leastMin]
 |x::l,h=>by
  unfold Re.fineL at h;have h1:=Re.least_cnt x h.1;have h2:=(WF x l).1;simp only[Re.cntL];omega
theorem Re.leastRep_cnt:∀(l:List Re),Re.fineL l->∀(mn mx:Int),mn.toNat*Re.leastHead l<=Re.cntR mn mx l
 | [],_,mn,mx=>by simp[Re.leastHead]
 |x::l,h,mn,mx=>by
  unfold Re.fineL at h;have h1:=Re.least_cnt x h.1;simp only[Re.leastHead,Re.cntR];have:mn.toNat*x.least<=mn.toNat*x.cnt:=Nat.mul_le_mul_left _ h1;split<;>omega
end
def ji(e:Nat->Int):Nat->Nat->Option (Nat×Nat)
 |0,_=>none
 |m+1,ax=>if 0<=e ax then some (ax,(e ax).toNat)else ji e m (ax+1)
def qw(e:Nat->Int)(len:Nat):Nat->Nat->Int->List (Nat×Nat)
 |0,_,_=>[]
 |n+1,ax,bQ=>if len<ax then[]else match ji e (len+1-ax) ax with
  |none=>[]
  |some (f,t)=>if f=t∧(f:Int)=bQ then qw e len n (f+1) bQ else(f,t)::qw e len n t t
def Ahead(e:Nat->Int)(len:Nat):Prop:=∀i,i<=len->e i<0∨((i:Int)<=e i∧e i<=len)
theorem Rj{e:Nat->Int}{len:Nat}(h:Ahead e len):∀(m ax:Nat){f t:Nat},ax+m<=len+1->ji e m ax=some (f,t)->ax<=f∧f<=t∧t<=len∧e f=t∧∀i,ax<=i->i<f->e i<0
 |0,_,_,_,_,k=>by simp[ji]at k
 |m+1,ax,f,t,hl,k=>by
  unfold ji at k;split at k
  ·rename_i h0;simp only[aD,eU]at k;obtain⟨rfl,rfl⟩:=k;rcases h ax (by omega)with h1|⟨h1,h2⟩
   ·omega
   ·exact⟨aX _,by omega,by omega,by omega,fun i a b=>by omega⟩
  ·obtain⟨a,b,c,d,g⟩:=Rj h m (ax+1) (by omega) k;refine⟨by omega,b,c,d,fun i hi hf=>?_⟩;by_cases hh:i=ax
   ·subst hh;omega
   ·exact g i (by omega) hf
theorem zeb{e:Nat->Int}:∀(m ax:Nat),ji e m ax=none↔ ∀i,ax<=i->i<ax+m->e i<0
 |0,ax=>by simp[ji];omega
 |m+1,ax=>by
  unfold ji;split
  ·rename_i h0;constructor
   ·intro h;cases h
   ·intro h;have:=h ax (aX _) (by omega);omega
  ·rw[zeb m (ax+1)];constructor
   ·intro h i hi hl;by_cases hh:i=ax
    ·subst hh;omega
    ·exact h i (by omega) (by omega)
   ·intro h i hi hl;exact h i (by omega) (by omega)
def lU(len ax:Nat)(bQ:Int):Nat:=2*(len+1-ax)+(if(ax:Int)=bQ then 0 else 1)+1
def InOrder(len:Nat):Nat->Int->List (Nat×Nat)->Prop
 |_,_,[]=>True
 |ax,bQ,(f,t)::l=>ax<=f∧f<=t∧t<=len∧bQ<t∧InOrder len t t l
theorem InOrder.weaken{len:Nat}{a b:Nat}{x y:Int}:∀{l:List (Nat×Nat)},InOrder len a x l->b<=a->y<=x->InOrder len b y l
 | [],_,_,_=>trivial
 |(f,t)::l,h,h1,h2=>⟨fT h1 h.1,h.2.1,h.2.2.1,by have:=h.2.2.2.1;omega,h.2.2.2.2⟩
theorem XX{e:Nat->Int}{len:Nat}(h:Ahead e len):∀(n ax:Nat)(bQ:Int),bQ<=ax->InOrder len ax bQ (qw e len n ax bQ)
 |0,_,_,_=>trivial
 |n+1,ax,bQ,hl=>by
  unfold qw;split
  ·trivial
  ·rename_i h0;split
   ·trivial
   ·rename_i f t hf;obtain⟨a,b,c,_,_⟩:=Rj h _ ax (by omega) hf;split
    ·exact(XX h n (f+1) bQ (by omega)).weaken (by omega) (Int.le_refl _)
    ·rename_i h1;refine⟨a,b,c,?_,XX h n t t (by omega)⟩;by_cases e:f=t
     ·have:¬(f:Int)=bQ:=fun e2=>h1 ⟨e,e2⟩;omega
     ·omega
end Go.Ak
namespace Go.Ak
def iT(c:UInt8):List UInt8->List (List UInt8)
 | []=>[[]]
 |b::l=>if b=c then[]::iT c l else match iT c l with
  | []=>[[b]]
  |x::r=>(b::x)::r
theorem Wj(c:UInt8):∀l,iT c l ≠ []
 | []=>by simp[iT]
 |b::l=>by
  unfold iT;split
  ·simp
  ·split<;>simp
theorem zoc(c:UInt8)(l:List UInt8):Lib.index (c::l) [c]=0:=by
 simp[Lib.index,List.isPrefixOf]
theorem zoe{b c:UInt8}(h:b≠c)(l:List UInt8):Lib.index (b::l) [c]=if Lib.index l [c] == -1 then -1 else Lib.index l [c]+1:=by
 have hp:([c]:List UInt8).isPrefixOf (b::l)=false:=by
  simp[List.isPrefixOf,vT h]
 simp[Lib.index,hp]
theorem zb9(c:UInt8):∀s:List UInt8,Lib.split s [c]=iT c s
 | []=>by simp[Lib.split,Lib.splitK,iT,Lib.count,Lib.countFrom,Lib.index]
 |b::l=>by
  have ih:=zb9 c l;unfold Lib.split at ih ⊢;by_cases h:b=c
  ·subst h;rw[Lib.count_cons_eq,Bo,Lib.splitK,zoc];simp only[iT,fD];rw[←ih];simp
  ·rw[Lib.count_cons_ne b c l h];simp only[iT,aF h];rw[←ih];cases hk:Lib.count l [c]with
   |zero=>rfl
   |succ k=>
    rw[Lib.splitK,Lib.splitK,zoe h];have jD:=Lib.index_ge l [c];by_cases hi:Lib.index l [c]= -1
    ·simp[hi]
    ·have aK:(Lib.index l [c] == -1)=false:=by simpa using hi
     have hi2:(Lib.index l [c]+1 == -1)=false:=by simp;omega
     have ht:(Lib.index l [c]+1).toNat=(Lib.index l [c]).toNat+1:=by omega
     simp only[aK,hi2,ht,mQ,ig];simp
end Go.Ak
namespace Go.Ak
def jk(b:UInt8):Bool:=decide (b=32)||decide (b=9)||decide (b=10)
def wF(r:Nat):Bool:=decide (r<128)&&decide (0<=Lib.indexByte [32,9,10] (UInt8.ofNat r))
def nH:List UInt8->Nat->Option Nat->List (Nat×Nat)
 | [],_,none=>[]
 | [],aZ,some a=>[(a,aZ)]
 |b::l,aZ,st=>if jk b=true then(match st with
   |some a=>(a,aZ)::nH l (aZ+1) none
   |none=>nH l (aZ+1) none)else nH l (aZ+1) (some (st.getD aZ))
theorem Qp(b:UInt8)(l:List UInt8)(aZ:Nat)(st:Option Nat):nH (b::l) aZ st=if jk b=true then(match st with
   |some a=>(a,aZ)::nH l (aZ+1) none
   |none=>nH l (aZ+1) none)else nH l (aZ+1) (some (st.getD aZ)):=by cases st<;>rfl
def lM(s:List UInt8):List (List UInt8):=(nH s 0 none).map fun x=>(s.drop x.1).take (x.2-x.1)
theorem zre{r:Nat}(h:128<=r):wF r=false:=by
 have:¬r<128:=by omega
 simp[wF,this]
theorem zrc(b:UInt8)(h:b.toNat<128):wF b.toNat=jk b:=by
 have e:UInt8.ofNat b.toNat=b:=si.1 (by simp);unfold wF jk;rw[e,LB h,Gi];simp only[Lib.indexByte];by_cases h1:(32:UInt8)=b
 ·subst h1;rfl
 ·by_cases h2:(9:UInt8)=b
  ·subst h2;rfl
  ·by_cases h3:(10:UInt8)=b
   ·subst h3;rfl
   ·have g1:¬b=32:=fun e=>h1 e.symm;have g2:¬b=9:=fun e=>h2 e.symm;have g3:¬b=10:=fun e=>h3 e.symm;simp[h1,h2,h3,g1,g2,g3]
theorem zdW(b:UInt8)(h:128<=b.toNat):jk b=false:=by
 have g:∀c:UInt8,c.toNat<128->¬b=c:=fun c hc e=>by subst e;omega
 simp[jk,g 32 (by decide),g 9 (by decide),g 10 (by decide)]
theorem zeT(s:ByteArray)(aZ:Nat)(hp:aZ<s.size):
  ((s.get! aZ).toNat<128∧Utf8.decode s aZ=((s.get! aZ).toNat,1))∨
  (128<=(Utf8.decode s aZ).1∧1<=(Utf8.decode s aZ).2∧aZ+(Utf8.decode s aZ).2<=s.size∧∀k,k<(Utf8.decode s aZ).2->128<=(s.get! (aZ+k)).toNat):=by
 by_cases h0:(s.get! aZ).toNat<128
 ·left;refine⟨h0,?_⟩;unfold Utf8.decode;simp only[qx,h0,fD]
 ·right;have h00:128<=(s.get! (aZ+0)).toNat:=by simp;omega
  unfold Utf8.decode;simp only[qx];rw[aF h0];have cont:∀k,(decide (aZ+k<s.size)=true∧((s.get! (aZ+k)).toNat/64==2)=true)->aZ+k<s.size∧128<=(s.get! (aZ+k)).toNat:=fun k hk=>by
   simp only[ik,gM]at hk;exact⟨hk.1,by omega⟩
  have one:128<=Utf8.runeError∧1<=1∧aZ+1<=s.size∧∀k,k<1->128<=(s.get! (aZ+k)).toNat:=⟨by decide,aX _,hp,fun k hk=>by
   have:k=0:=by omega
   subst this;exact h00⟩
  split
  ·rename_i h1;simp only[aU]at h1;have c1:=cont 1 h1.2;split
   ·rename_i h2;refine⟨h2,Nat.succ_le_succ (jK _),c1.1,fun k hk=>?_⟩;have:k=0∨k=1:=by omega
    rcases this with rfl|rfl
    ·exact h00
    ·exact c1.2
   ·exact one
  ·split
   ·rename_i h1;simp only[aU]at h1;have c1:=cont 1 h1.1.2;have c2:=cont 2 h1.2;split
    ·rename_i h2;simp only[aU,ik]at h2;refine⟨by omega,Nat.succ_le_succ (jK _),c2.1,fun k hk=>?_⟩;have:k=0∨k=1∨k=2:=by omega
     rcases this with rfl|rfl|rfl
     ·exact h00
     ·exact c1.2
     ·exact c2.2
    ·exact one
   ·split
    ·rename_i h1;simp only[aU]at h1;have c1:=cont 1 h1.1.1.2;have c2:=cont 2 h1.1.2;have c3:=cont 3 h1.2;split
     ·rename_i h2;simp only[aU,ik]at h2;refine⟨by omega,Nat.succ_le_succ (jK _),c3.1,fun k hk=>?_⟩;have:k=0∨k=1∨k=2∨k=3:=by omega
      rcases this with rfl|rfl|rfl|rfl
      ·exact h00
      ·exact c1.2
      ·exact c2.2
      ·exact c3.2
     ·exact one
    ·exact one
theorem Xk(s:ByteArray)(aZ:Nat)(hp:aZ<s.size):s.data.toList.drop aZ=s.get! aZ::s.data.toList.drop (aZ+1):=by
 have hl:aZ<s.data.toList.length:=by rw[Qj];exact hp
 rw[iJ hl];congr 1;have hp':aZ<s.data.size:=hp;exact(getElem!_pos s.data aZ hp').symm
theorem zbJ(s:ByteArray):∀(k aZ:Nat)(a:Nat),aZ+k<=s.size->(∀j,j<k->128<=(s.get! (aZ+j)).toNat)->nH (s.data.toList.drop aZ) aZ (some a)=nH (s.data.toList.drop (aZ+k)) (aZ+k) (some a)
 |0,_,_,_,_=>rfl
 |k+1,aZ,a,hp,h=>by
  rw[Xk s aZ (by omega),Qp,aF (by rw[zdW _ (by simpa using h 0 (by omega))];decide)];rw[Option.getD_some,zbJ s k (aZ+1) a (by omega) fun j hj=>by rw[show aZ+1+j=aZ+(j+1) by omega];exact h (j+1) (by omega)];rw[show aZ+1+k=aZ+(k+1) by omega]
theorem Gp(s:ByteArray):∀(f aZ:Nat)(st:Option Nat)(aW:List (Nat×Nat)),aZ<=s.size->s.size-aZ<=f->Lib.closeSpans s (Lib.spansFromP wF s f aZ st aW)=aW++nH (s.data.toList.drop aZ) aZ st
 |0,aZ,st,aW,hp,hf=>by
  have e:aZ=s.size:=by omega
  have hd:s.data.toList.drop aZ=[]:=pu (by rw[e,Qj];exact aX _);rw[hd];cases st<;>simp[Lib.spansFromP,Lib.closeSpans,nH,e]
 |f+1,aZ,st,aW,hp,hf=>by
  unfold Lib.spansFromP;by_cases aB:aZ<s.size
  ·rw[aS aB];rcases zeT s aZ aB with⟨h1,h2⟩|⟨h1,h2,h3,h4⟩
   ·rw[h2];simp only;rw[zrc _ h1,Xk s aZ aB,Qp];by_cases hb:jk (s.get! aZ)=true
    ·rw[aS hb,aS hb];cases st with
     |none=>exact Gp s f (aZ+1) none aW (by omega) (by omega)
     |some a=>
      simp only;rw[Gp s f (aZ+1) none _ (by omega) (by omega),zR];rfl
    ·rw[aF hb,aF hb];cases st with
     |none=>exact Gp s f (aZ+1) (some aZ) aW (by omega) (by omega)
     |some a=>exact Gp s f (aZ+1) (some a) aW (by omega) (by omega)
   ·rw[zre h1,aF (by decide)];have h0:=h4 0 (by omega);have hw:nH (s.data.toList.drop aZ) aZ st=nH (s.data.toList.drop (aZ+(Utf8.decode s aZ).2)) (aZ+(Utf8.decode s aZ).2) (some (st.getD aZ)):=by
     rw[Xk s aZ aB,Qp,aF (by rw[zdW _ (by simpa using h0)];decide)];have:=zbJ s ((Utf8.decode s aZ).2-1) (aZ+1) (st.getD aZ) (by omega) fun j hj=>by rw[show aZ+1+j=aZ+(j+1) by omega];exact h4 (j+1) (by omega)
     rw[this,show aZ+1+((Utf8.decode s aZ).2-1)=aZ+(Utf8.decode s aZ).2 by omega]
    rw[hw];cases st with
    |none=>exact Gp s f _ (some aZ) aW h3 (by omega)
    |some a=>exact Gp s f _ (some a) aW h3 (by omega)
  ·rw[aF aB];have e:aZ=s.size:=by omega
   have hd:s.data.toList.drop aZ=[]:=pu (by rw[e,Qj];exact aX _);rw[hd];cases st<;>simp[Lib.closeSpans,nH,e]
theorem extract_data(s:ByteArray)(a b:Nat):(s.extract a b).data.toList=(s.data.toList.drop a).take (b-a):=by
 simp[ByteArray.data_extract,List.take_drop]
theorem zoQ(s:List UInt8):(Lib.goFieldsP wF ⟨s.toArray⟩).map (·.data.toList)=lM s:=by
 unfold Lib.goFieldsP Lib.spansOfP lM;rw[Gp ⟨s.toArray⟩ _ 0 none [] (jK _) (by omega)];simp only[gV,Jg,xI];refine Bp fun x _=>?_;simp only[Function.comp_apply];rw[extract_data]
end Go.Ak
namespace Go.Ak
def iA(s:ByteArray):Nat->Nat->List (Nat×Nat)
 |0,_=>[]
 |n+1,p=>if p<s.size then(p,p+(Utf8.decode s p).2)::iA s n (p+(Utf8.decode s p).2)else[]
def charsB(s:ByteArray):List ByteArray:=(iA s s.size 0).map fun x=>s.extract x.1 x.2
def nS(l:List UInt8):List (List UInt8):=(charsB ⟨l.toArray⟩).map (·.data.toList)
theorem Rs(s:ByteArray)(p:Nat)(h:p<s.size):1<=(Utf8.decode s p).2∧p+(Utf8.decode s p).2<=s.size:=by
 rcases zeT s p h with⟨_,h2⟩|⟨_,h2,h3,_⟩
 ·rw[h2];exact⟨aX _,h⟩
 ·exact⟨h2,h3⟩
theorem zcd(s:ByteArray)(n p:Nat)(h:¬p<s.size):iA s n p=[]:=by
 cases n with
 |zero=>rfl
 |succ n=>unfold iA;rw[aF h]
theorem zcb(s:ByteArray):∀n p x,x∈iA s n p->x.1<=x.2∧x.2<=s.size
 |0,_,x,h=>by cases h
 |n+1,p,x,h=>by
  unfold iA at h;split at h
  ·rename_i hp;have:=Rs s p hp;rcases il.1 h with rfl|h
   ·exact⟨by simp,by simp;omega⟩
   ·exact zcb s n _ x h
  ·cases h
theorem zj2(s:ByteArray)(n p:Nat)(x:Nat×Nat)(h:(iA s n p)[0]?=some x):x.1=p:=by
 cases n with
 |zero=>cases h
 |succ n=>
  unfold iA at h;split at h
  ·simp at h;subst h;rfl
  ·cases h
theorem zca(s:ByteArray):∀n p i x y,(iA s n p)[i]?=some x->(iA s n p)[i+1]?=some y->x.2=y.1
 |0,_,i,x,y,h,_=>by cases h
 |n+1,p,i,x,y,h,k=>by
  unfold iA at h k;split at h
  ·rename_i hp;rw[aS hp]at k;rw[ru]at k;cases i with
   |zero=>
    rw[pY]at h;cases h;exact(zj2 s n _ y k).symm
   |succ i=>
    rw[ru]at h;exact zca s n _ i x y h k
  ·cases h
theorem zcc(s:ByteArray):∀n p i x,s.size<=p+n->(iA s n p)[i]?=some x->(iA s n p)[i+1]?=none->x.2=s.size
 |0,_,i,x,_,h,_=>by cases h
 |n+1,p,i,x,hn,h,k=>by
  unfold iA at h k;split at h
  ·rename_i hp;rw[aS hp]at k;rw[ru]at k;have hw:=Rs s p hp;cases i with
   |zero=>
    rw[pY]at h;cases h;simp only;cases n with
    |zero=>omega
    |succ n=>
     unfold iA at k;split at k
     ·cases k
     ·omega
   |succ i=>
    rw[ru]at h;exact zcc s n _ i x (by omega) h k
  ·cases h
theorem zqI{l x:List UInt8}(h:x∈nS l):x.length<=l.length:=by
 unfold nS charsB at h;rw[Jg]at h;obtain⟨y,_,rfl⟩:=pg.1 h;simp only[Function.comp_apply];rw[extract_data];simp;omega
end Go.Ak
namespace Go.Ak
def nP(c:UInt8):Bool:=decide (48<=c.toNat)&&decide (c.toNat<=57)
def jQ:List UInt8->Nat
 | []=>0
 |c::l=>if jk c then jQ l+1 else 0
def jM:List UInt8->Nat->Nat×Nat
 | [],v=>(v,0)
 |c::l,v=>if nP c then((jM l (10*v+(c.toNat-48)*1000000)).1,(jM l (10*v+(c.toNat-48)*1000000)).2+1)else(v,0)
def ib:List UInt8->Nat->Nat->Nat×Nat
 | [],_,v=>(v,0)
 |c::l,w,v=>if nP c then((ib l (w/10) (v+(c.toNat-48)*(w/10))).1,(ib l (w/10) (v+(c.toNat-48)*(w/10))).2+1)else(v,0)
def ll(minus:Bool)(v p:Nat):Int×Nat×Nat:=
 if(bif minus then decide (9223372036854775808<v)else decide (9223372036854775808<=v))then(0,p,10)else(if minus then -(v:Int)else v,p,0)
def mg(s:List UInt8)(i:Nat):Bool:=match s[i]? with
 |some c=>nP c
 |none=>false
def mX(s:List UInt8)(i:Nat)(c:UInt8):Bool:=decide (s[i]?=some c)
def xO(s:List UInt8):Nat:=if mX s (jQ s) 45||mX s (jQ s) 43 then jQ s+1 else jQ s
def uy(s:List UInt8):Int×Nat×Nat:=
 let a:=xO s
 let p:=a+(jM (s.drop a) 0).2
 let v:=(jM (s.drop a) 0).1
 if mX s p 46&&(decide (0<(jM (s.drop a) 0).2)||mg s (p+1))then
  ll (mX s (jQ s) 45) (ib (s.drop (p+1)) 1000000 v).1 (p+1+(ib (s.drop (p+1)) 1000000 v).2)
 else if(jM (s.drop a) 0).2=0 then(0,0,0)else ll (mX s (jQ s) 45) v p
theorem XL:∀l:List UInt8,jQ l<=l.length
 | []=>aX _
 |c::l=>by
  unfold jQ;have:=XL l;split<;>simp<;>omega
theorem WM:∀(l:List UInt8)(v:Nat),(jM l v).2<=l.length
 | [],_=>aX _
 |c::l,v=>by
  unfold jM;have:=WM l (10*v+(c.toNat-48)*1000000);split<;>simp<;>omega
theorem zd9:∀(l:List UInt8)(w v:Nat),(ib l w v).2<=l.length
 | [],_,_=>aX _
 |c::l,w,v=>by
  unfold ib;have:=zd9 l (w/10) (v+(c.toNat-48)*(w/10));split<;>simp<;>omega
def zY(v n:Nat)(o:Bool):Prop:=(o=false∧n=v∧v<18446744073709551616)∨(o=true∧18446744073709551616<=v∧n<18446744073709551616)
theorem Qy{v n:Nat}{o:Bool}(h:zY v n o):n<18446744073709551616:=by
 rcases h with⟨_,rfl,h⟩|⟨_,_,h⟩<;>exact h
theorem zb8{v n:Nat}{o:Bool}(h:zY v n o)(x:Nat):zY (v+x) ((n+x)%18446744073709551616) (o||decide (0<(n+x)/18446744073709551616)):=by
 rcases h with⟨rfl,rfl,h⟩|⟨rfl,h1,h2⟩
 ·by_cases hq:n+x<18446744073709551616
  ·left;exact⟨by simp[Nat.div_eq_of_lt hq],EG hq,hq⟩
  ·right;refine⟨?_,by omega,Nat.mod_lt _ (by omega)⟩;have:0<(n+x)/18446744073709551616:=Nat.div_pos (by omega) (by omega);simp[this]
 ·right;exact⟨rfl,by omega,Nat.mod_lt _ (by omega)⟩
theorem zjX{v n:Nat}{o:Bool}(h:zY v n o):zY (10*v) (n*10%18446744073709551616) (o||decide (0<n*10/18446744073709551616)):=by
 rcases h with⟨rfl,rfl,h⟩|⟨rfl,h1,h2⟩
 ·by_cases hq:n*10<18446744073709551616
  ·left;exact⟨by simp[Nat.div_eq_of_lt hq],by rw[EG hq];omega,by omega⟩
  ·right;refine⟨?_,by omega,Nat.mod_lt _ (by omega)⟩;have:0<n*10/18446744073709551616:=Nat.div_pos (by omega) (by omega);simp[this]
 ·right;exact⟨rfl,by omega,Nat.mod_lt _ (by omega)⟩
end Go.Ak
namespace Go.Ak
def d9:List Nat->Nat
 | []=>0
 |d::r=>d+10*d9 r
def lW(l:List Nat):Prop:=∀d∈l,d<=9
theorem VF:∀(a b:List Nat),d9 (a++b)=d9 a+10^a.length*d9 b
 | [],b=>by simp[d9]
 |d::r,b=>by
  have ih:=VF r b;simp only[kg,d9,fF,EF];rw[ih,Nat.mul_add,Ga (10^r.length) 10,LD,tX]
theorem zbM:∀(a:List Nat),lW a->d9 a<10^a.length
 | [],_=>by simp[d9]
 |d::r,h=>by
  have ih:=zbM r fun x hx=>h x (EM _ hx);have hd:=h d Qe;simp only[d9,fF,EF];omega
theorem zjm(a:List Nat)(i:Nat)(h:i<=a.length):d9 a=d9 (a.take i)+10^i*d9 (a.drop i):=by
 have:=VF (a.take i) (a.drop i);rw[Gb,Bq,Nat.min_eq_left h]at this;exact this
theorem zql{a:List Nat}(h:lW a)(i:Nat):lW (a.take i):=fun x hx=>h x (vU hx)
theorem zdz{a:List Nat}(h:lW a)(i:Nat):d9 (a.take i)<10^i:=by
 have h1:=zbM _ (zql h i);refine EI h1 (Nat.pow_le_pow_right (by omega) ?_);rw[Bq];exact Nat.min_le_left _ _
def mo(l:List Nat)(i:Nat):Nat:=match l[i]? with
 |some d=>d
 |none=>0
theorem M5(l:List Nat)(i:Nat):d9 (l.drop i)=mo l i+10*d9 (l.drop (i+1)):=by
 unfold mo;cases h:l[i]? with
 |none=>
  have:=rq.1 h;rw[pu this,pu (by omega)];rfl
 |some d=>
  have aB:=(eD.1 h).1;have he:l[i]=d:=by rw[gG aB]at h;exact Bl h
  rw[iJ aB,he];rfl
theorem Xo(a:List Nat)(i:Nat):d9 a=d9 (a.take i)+10^i*d9 (a.drop i):=by
 by_cases h:i<=a.length
 ·exact zjm a i h
 ·rw[ek (by omega),pu (by omega)];simp[d9]
theorem znR{a b:List Nat}(ha:lW a)(hb:lW b){i:Nat}(he:d9 (a.drop (i+1))=d9 (b.drop (i+1)))(aR:mo a i≠mo b i):(d9 a<d9 b)↔mo a i<mo b i:=by
 have h1:=Xo a i;have h2:=Xo b i;have l1:=zdz ha i;have l2:=zdz hb i;have d1:=M5 a i;have d2:=M5 b i;have dw:∀x y:Nat,x<y->10^i*x+10^i<=10^i*y:=fun x y h=>by
  have:10^i*(x+1)<=10^i*y:=Nat.mul_le_mul_left _ h;rw[Nat.mul_add,F9]at this;exact this
 rcases kY (mo a i) (mo b i)with h|h
 ·have:=dw (d9 (a.drop i)) (d9 (b.drop i)) (by omega);exact⟨fun _=>h,fun _=>by omega⟩
 ·have gJ:mo b i<mo a i:=by omega
  have:=dw (d9 (b.drop i)) (d9 (a.drop i)) (by omega);exact⟨fun _=>by omega,fun _=>by omega⟩
def qA(l:List Nat):List Nat:=(l.reverse.dropWhile (· == 0)).reverse
theorem zbS(l:List Nat)(d:Nat):qA (l ++[d])=if d=0 then qA l else l ++[d]:=by
 unfold qA;rw[List.reverse_append];by_cases h:d=0
 ·simp[h]
 ·simp[h]
theorem zbR:∀(n:Nat)(l:List Nat),l.length=n->d9 (qA l)=d9 l
 |0,l,h=>by
  have:l=[]:=mi h;subst this;rfl
 |n+1,l,h=>by
  obtain⟨m,d,rfl⟩:∃m d,l=m ++[d]:=by
   have aR:l ≠ []:=fun e=>by subst e;cases h
   exact⟨l.dropLast,l.getLast aR,(zbz aR).symm⟩
  rw[zbS];split
  ·rename_i h0;subst h0;rw[zbR n m (by simpa using h),VF];simp[d9]
  ·rfl
theorem zjA{l:List Nat}(h:lW l):lW (qA l):=fun d hd=>by
 unfold qA at hd;rw[List.mem_reverse]at hd;exact h d (List.mem_reverse.1 ((Qi _).subset hd))
theorem zjB(l:List Nat):(qA l).length<=l.length:=by
 unfold qA;rw[VA];refine fT (Qi _).length_le ?_;rw[VA];exact aX _
def mU(p:UInt8->Bool)(l:List UInt8):List UInt8:=l.dropWhile p
def qD(p:UInt8->Bool)(l:List UInt8):List UInt8:=(l.reverse.dropWhile p).reverse
theorem zb1(p:UInt8->Bool)(c:UInt8)(l:List UInt8):qD p (c::l)=if qD p l=[]∧p c=true then[]else c::qD p l:=by
 unfold qD;rw[List.reverse_cons,List.dropWhile_append];by_cases h:(l.reverse.dropWhile p)=[]
 ·rw[h];by_cases hp:p c=true
  ·simp[hp]
  ·simp[hp]
 ·have aR:(l.reverse.dropWhile p).isEmpty=false:=by simpa using h
  rw[aF (by simp[aR]),List.reverse_append];simp[h]
theorem zb0(p:UInt8->Bool):∀l:List UInt8,qD p (mU p l)=mU p (qD p l)
 | []=>rfl
 |c::l=>by
  have ih:=zb0 p l;rw[zb1];by_cases hc:p c=true
  ·have h1:mU p (c::l)=mU p l:=by simp[mU,hc]
   rw[h1,ih];by_cases he:qD p l=[]
   ·rw[aS ⟨he,hc⟩,he]
   ·rw[aF fun h=>he h.1];simp[mU,hc]
  ·have h1:mU p (c::l)=c::l:=by simp[mU,hc]
   rw[h1,zb1,aF fun h=>hc h.2];simp[mU,hc]
end Go.Ak
