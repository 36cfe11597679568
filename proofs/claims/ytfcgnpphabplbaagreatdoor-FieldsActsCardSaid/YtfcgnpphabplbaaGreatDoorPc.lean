/- The evaluator's soundness, parts 28 to 35: every call. No program stands here. -/
import Derived.Test.YtfcgnpphabplbaaGreatDoorPb
import Derived.ProofKit
set_option linter.unusedVariables false
set_option linter.unusedSimpArgs false
namespace Go.Ak
def mq(T:Tr)(vs:List Nat)(N:Nat):List ResultVar->List ARes->Bool
 | [],[]=>true
 | .tmp t::rs,.tmp u::qs=>t==u&&vs.contains t&&decide (t<N)&&mq T vs N rs qs
 | .cell t ty::rs,.cell u n::qs=>t==u&&vs.contains t&&decide (t<N)&&sU T.P ty n&&mq T vs N rs qs
 |_,_=>false
def Rx(T:Tr)(F:AFunc)(fn:Func):Bool:=
 (match fn.body with|some C=>lJ T F.vars fn.ntmps C F.body|none=>false)&&F.vars.take F.np==List.range F.np&&decide (F.np<=fn.ntmps)&&mq T F.vars fn.ntmps fn.results.toList F.res
def ui(tm:Array Value):ResultVar->Sem Value
 | .tmp t=>pure (tm.getD t undef)
 | .cell a t=>do loadVar t (←asAddr (tm.getD a undef))
def p8(P:Program)(tm:Array Value)(w:World)(r:ResultVar):Value:=
 match(ui tm r).run P w with
 | .ok v _=>v
 |_=>undef
section
variable {T:Tr} {ae:Nat} {vs:List Nat} {N:Nat} {g:Gh} {w:World} {σ:St} {tm:Array Value} {ds:List Deferred} {call:CallF}
def sim(e e':List (Nat×AV)):Prop:=∀t,bB e' t=bB e t∨∃p p' es,bB e t=.slc p es∧bB e' t=.slc p' es
theorem sim.roOf{e e':List (Nat×AV)}(h:sim e e')(t:Nat):roOf (bB e' t)=roOf (bB e t):=by
 rcases h t with h|⟨p,p',es,h1,h2⟩
 ·rw[h]
 ·rw[h1,h2];rfl
theorem zcO(h:Rel T vs N g w σ tm){t ty:Nat}{n:Option Nat}(ht:vs.contains t=true)(hN:t<N)(hn:sU T.P ty n=true){s:EH}(hs:sim s.1 σ.env)(hH:s.2=σ.H)(hm:σ.mods=[]){a:AV}(he:qI s (.cell t n)=some a):
  V T g w a (p8 T.P tm w (.cell t ty))∧(ui tm (.cell t ty)).run T.P w=.ok (p8 T.P tm w (.cell t ty)) w:=by
 have hx:bE T vs N (.tmp t) (.v t)=true:=by simp only[bE,aU,gM,ik,Bj];exact⟨ht,hN⟩
 have hrd:∃cs,rd σ (kW n) (dZ σ (.v t))=some cs∧pack n cs=some a:=by
  have hlk:∀x,(∀p es,x ≠ .slc p es)->bB s.1 t=x->bB σ.env t=x:=fun x hx e=>by
   rcases hs t with h|⟨p,p',es,h1,h2⟩
   ·rw[h,e]
   ·rw[h1]at e;exact absurd e.symm (hx p es)
  simp only[qI]at he;split at he
  ·rename_i cs hb;have hb:=hlk _ (by simp) hb;split at he
   ·rename_i l hl;refine⟨l,?_,he⟩;have:Nat.beq (fO σ.mods t) (fO σ.mods t)=true:=by simp
    simp only[dZ,hb,rd,this,bA,hl]
   ·cases he
  ·rename_i id ai hb;have hb:=hlk _ (by simp) hb;split at he
   ·rename_i cs hid;split at he
    ·rename_i l hl;refine⟨l,?_,he⟩;rw[hH]at hid;simp only[dZ,hb,rd,hid,hl]
    ·cases he
   ·cases he
  ·cases he
 obtain⟨cs,h1,h2⟩:=hrd;obtain⟨b,ai,us,hv,hl,h3,h4⟩:=zcU h (lS (ds:=[]) h hx) h1;have hv:tm.getD t undef=.pointer (some ⟨b,ai,none⟩):=hv;have dA:=zcx (P:=T.P) (w:=w) hn hl (fun k u hk=>(h4 k u hk).1);have hR:(ui tm (.cell t ty)).run T.P w=.ok (BK n us) w:=by
  simp only[ui,hv,asAddr,Sem.run_bind,Sem.run_pure,Result.andThen_ok,dA]
 have hW:p8 T.P tm w (.cell t ty)=BK n us:=by simp only[p8,hR]
 rw[hW];refine⟨QT h2 h3 fun u hu=>?_,hR⟩;obtain⟨k,hk⟩:=Qf hu;exact(h4 k u hk).2
theorem sim.trans{a b c:List (Nat×AV)}(h:sim a b)(h':sim b c):sim a c:=fun t=>by
 rcases h t with e|⟨p,p',es,h1,h2⟩<;>rcases h' t with e'|⟨q,q',fs,k1,k2⟩
 ·exact .inl (e'.trans e)
 ·exact .inr ⟨q,q',fs,by rw[←e];exact k1,k2⟩
 ·exact .inr ⟨p,p',es,h1,by rw[e'];exact h2⟩
 ·rw[h2]at k1;cases k1;exact .inr ⟨p,q',es,h1,k2⟩
theorem zle(h:Rel T vs N g w σ tm){t:Nat}(hb:∀cs,bB σ.env t ≠ .box cs):
  ∃g' σ',Ext ae g w g' w∧Rel T vs N g' w σ' tm∧sim σ.env σ'.env∧σ'.H=σ.H∧σ'.mods=σ.mods∧V T g' w (roOf (bB σ.env t)) (tm.getD t undef):=by
 have hs:=h.env t;cases ha:bB σ.env t with
 |slc p es=>
  obtain⟨g',e1,e2,e3,_⟩:=h.down_slot (ae:=ae) ha;refine⟨g',_,e1,e2,fun x=>?_,rfl,rfl,e3.V⟩;by_cases hx:x=t
  ·subst hx;rcases Gw σ.env x (.slc (drop1 p) es)with e|⟨e,e'⟩
   ·exact .inr ⟨p,drop1 p,es,ha,e⟩
   ·rw[ha]at e';cases e'
  ·exact .inl (rJ _ hx)
 |box cs=>exact absurd ha (hb cs)
 |loc a b c=>rw[ha]at hs;exact hs.elim
 |eloc a b c d=>rw[ha]at hs;exact hs.elim
 |ref a b c d=>rw[ha]at hs;exact hs.elim
 |_=>rw[ha]at hs;exact⟨g, σ,.refl _ _ _,h,fun _=>.inl rfl,rfl,rfl,hs⟩
theorem V.roOf{a:AV}{v:Value}(h:V T g w a v):V T g w (Ak.roOf a) v:=by
 cases h<;>first|(constructor<;>assumption)|skip
 all_goals (simp only[Ak.roOf];constructor<;>assumption)
theorem Wd{s:EH}:∀(rs:List ResultVar)(qs:List ARes)(_:mq T vs N rs qs=true)(g:Gh)(σ:St)(_:Rel T vs N g w σ tm)(_:sim s.1 σ.env)(_:s.2=σ.H)(_:σ.mods=[]){l:List AV}(_:qJ s qs=some l),
  ∃g' σ',Ext ae g w g' w∧Rel T vs N g' w σ' tm∧σ'.H=σ.H∧Vs T g' w l (rs.map (p8 T.P tm w))∧∀r∈rs,(ui tm r).run T.P w=.ok (p8 T.P tm w r) w
 | [],[],_,g, σ,h,_,_,_,l,he=>by
  simp only[qJ,aD]at he;subst he;exact⟨g, σ,.refl _ _ _,h,rfl,.nil,by simp⟩
 | [],_::_,hc,_,_,_,_,_,_,_,_=>by simp[mq]at hc
 | .tmp _::_,[],hc,_,_,_,_,_,_,_,_=>by simp[mq]at hc
 | .cell _ _::_,[],hc,_,_,_,_,_,_,_,_=>by simp[mq]at hc
 | .tmp _::_,.cell _ _::_,hc,_,_,_,_,_,_,_,_=>by simp[mq]at hc
 | .cell _ _::_,.tmp _::_,hc,_,_,_,_,_,_,_,_=>by simp[mq]at hc
 | .tmp t::rs,.tmp u::qs,hc,g, σ,h,hs,hH,hm,l,he=>by
  simp only[mq,aU,gM]at hc;obtain⟨⟨⟨rfl,h1⟩,h2⟩,h3⟩:=hc;simp only[qJ]at he;split at he
  ·rename_i a ha;split at he
   ·rename_i l' jN;simp only[aD]at he;subst he;have hnb:∀cs,bB s.1 t ≠ .box cs:=fun cs e=>by simp only[qI,e]at ha;cases ha
    have hal:a=bB s.1 t:=by
     simp only[qI]at ha;cases hk:bB s.1 t with
     |box cs=>exact absurd hk (hnb cs)
     |_=>rw[hk]at ha;simpa using ha.symm
    obtain⟨g1, σ1,e1,e2,e3,e4,e5,e6⟩:=zle (ae:=ae) h (t:=t) (fun cs e=>by
     rcases hs t with k|⟨p,p',es,k1,k2⟩
     ·exact hnb cs (by rw[←k];exact e)
     ·rw[k2]at e;cases e)
    obtain⟨g2, σ2,f1,f2,f3,f4,f5⟩:=Wd rs qs h3 g1 σ1 e2 (hs.trans e3) (by rw[e4];exact hH) (by rw[e5];exact hm) jN;have hR:(ui tm (.tmp t)).run T.P w=.ok (tm.getD t undef) w:=by simp[ui]
    have hW:p8 T.P tm w (.tmp t)=tm.getD t undef:=by simp only[p8,hR]
    refine⟨g2, σ2,e1.trans f1,f2,by rw[f3,e4],.cons _ _ _ _ ?_ f4,fun r hr=>?_⟩
    ·rw[hW,hal,←hs.roOf t];exact V.mono f1 e6
    ·rcases il.1 hr with rfl|hr
     ·rw[hW];exact hR
     ·exact f5 r hr
   ·cases he
  ·cases he
 | .cell t ty::rs,.cell u n::qs,hc,g, σ,h,hs,hH,hm,l,he=>by
  simp only[mq,aU,gM,ik]at hc;obtain⟨⟨⟨⟨rfl,h1⟩,h2⟩,h4⟩,h3⟩:=hc;simp only[qJ]at he;split at he
  ·rename_i a ha;split at he
   ·rename_i l' jN;simp only[aD]at he;subst he;obtain⟨k1,k2⟩:=zcO h h1 h2 h4 hs hH hm ha;obtain⟨g2, σ2,f1,f2,f3,f4,f5⟩:=Wd rs qs h3 g σ h hs hH hm jN;refine⟨g2, σ2,f1,f2,f3,.cons _ _ _ _ (V.mono f1 k1.roOf) f4,fun r hr=>?_⟩;rcases il.1 hr with rfl|hr
    ·exact k2
    ·exact f5 r hr
   ·cases he
  ·cases he
end
end Go.Ak
namespace Go.Ak
section
variable {T:Tr} {ae:Nat} {vs:List Nat} {N:Nat} {g:Gh} {w:World} {σ:St} {tm:Array Value} {ds:List Deferred} {call:CallF}
theorem ArgsV.get:∀{i:Nat}{as:List AV}{us:List Value},ArgsV T g w i as us->∀(j:Nat)(a:AV),as[j]?=some a->∃v,us[j]?=some v∧SV T g w (.arg (i+j)) a v
 |_,_,_,.nil _,j,a,h=>by simp at h
 |_,_,_,.cons i a v as us h1 h2,0,a',h=>by simp at h;subst h;exact⟨v,by simp,h1⟩
 |_,_,_,.cons i a v as us h1 h2,j+1,a',h=>by
  simp at h;obtain⟨u,k1,k2⟩:=ArgsV.get h2 j a' h;exact⟨u,by simpa using k1,by rw[show i+(j+1)=i+1+j by omega];exact k2⟩
theorem ArgsV.length:∀{i:Nat}{as:List AV}{us:List Value},ArgsV T g w i as us->as.length=us.length
 |_,_,_,.nil _=>rfl
 |_,_,_,.cons _ _ _ _ _ _ h=>by simp[ArgsV.length h]
theorem Q3:∀(l:List Nat)(as:List AV)(t:Nat),bB (bC l as) t=.undef∨∃(i:Nat)(a:AV),as[i]?=some a∧l[i]?=some t∧bB (bC l as) t=a
 | [],_,_=>.inl rfl
 |k::l,[],t=>by
  simp only[bC,bB];cases hk:Nat.beq k t with
  |true=>exact .inl rfl
  |false=>exact(Q3 l [] t).elim .inl fun⟨i,a,h,_⟩=>by simp at h
 |k::l,a::as,t=>by
  simp only[bC,bB];cases hk:Nat.beq k t with
  |true=>exact .inr ⟨0,a,by simp,by simp[dH hk],rfl⟩
  |false=>
   rcases Q3 l as t with h|⟨i,x,h1,h2,h3⟩
   ·exact .inl h
   ·exact .inr ⟨i+1,x,by simpa using h1,by simpa using h2,h3⟩
theorem znG:∀(l:List Nat)(as:List AV)(t:Nat),t ∉ l->bB (bC l as) t=.undef:=fun l as t ht=>by
 rcases Q3 l as t with h|⟨i,a,_,h2,_⟩
 ·exact h
 ·exact absurd (jm h2) ht
def Gh.enter(g:Gh):Gh:={ g with own:=fun b=>match g.own b with|.arg i=>.slot i|o=>o }
theorem Ext.enter:Ext ae g w g.enter w where
 size:=aX _
 S _:=aX _
 cell _ _ _:=rfl
 ob _ _ h:=h
 shape _ _ h:=h
 kept b hb:=⟨by simp[Gh.enter,hb],rfl,rfl⟩
 low id b _ _ hb:=⟨by simp[Gh.enter,hb],rfl,rfl⟩
 os:=rfl
 out:=rfl
theorem zp3{F:AFunc}{n:Nat}{as:List AV}{us:List Value}{H:aj}(h1:F.vars.take F.np=List.range F.np)(h2:F.np<=n)(hl:as.length=F.np)(hh:HeapR T g w H)(ha:ArgsV T g w 0 as us):
  Rel T F.vars n g.enter w ⟨bC F.vars as,[],[],H⟩ (us.toArray++Array.replicate (n-us.toArray.size) undef) where
 size:=by
  have:=ha.length;simp;omega
 envk t ht:=znG _ _ _ ht
 lenvk _ _:=rfl
 env t:=by
  rcases Q3 F.vars as t with h|⟨i,a,k1,k2,k3⟩
  ·rw[h];exact V.undef _
  ·have hi:i<F.np:=by rw[←hl];exact(eD.1 k1).1
   have:(F.vars.take F.np)[i]?=some i:=by rw[h1,LM hi]
   rw[mP,aS hi,k2]at this;simp only[aD]at this;subst this;obtain⟨v,e1,e2⟩:=ha.get t a k1;rw[k3];have hv:(us.toArray++Array.replicate (n-us.toArray.size) undef).getD t undef=v:=by
    have ht:t<us.length:=(eD.1 e1).1;rw[Ql,Array.getElem?_append_left (by simpa using ht)];simp[e1]
   rw[hv];rw[jZ]at e2;exact e2.reown _ fun b hb=>by simp[hb]
 lenv _:=V.undef _
 nobox _ _:=by simp[bB]
 heap:=hh.reown _ (fun b id hb=>by simp[hb]) (fun b hb=>by simp[(hh.fresh b hb).1]) fun b x hb=>by simp[(hh.gl b x hb).1]
theorem zct{P:Program}(fn:Func)(tm:Array Value)(w:World)(h:∀r∈fn.results.toList,(ui tm r).run P w=.ok (p8 P tm w r) w):
  (results fn tm).run P w=.ok (if(fn.results.toList.map (p8 P tm w)).length=1 then(fn.results.toList.map (p8 P tm w)).getD 0 undef else .tuple (fn.results.toList.map (p8 P tm w)).toArray) w:=by
 have e:results fn tm=(do let vs ←fn.results.mapM (ui tm);pure (if h:vs.size=1 then vs[0]else .tuple vs)):=by
  unfold results;congr 2
 rw[e];simp only[Sem.run_bind,zcw (ui tm) (p8 P tm w) w fn.results h,Result.andThen_ok,Sem.run_pure];congr 1;by_cases hs:fn.results.size=1
 ·simp[hs]
 ·simp[hs];apply Bt;simp
theorem zjv{g':Gh}{H:aj}(h:HeapR T g w H)(he:Ext 0 g w g' w){o:Own}(ho:∀id,o ≠ .obj id)(hf:o ≠ .free)(hg:∀b,g'.own b=g.own b∨(g.own b=o∧g'.own b=.res∧b<w.heap.size))(hS:g'.S=g.S)(hob:g'.ob=g.ob):HeapR T g' w H:=by
 refine h.frame he (fun b id hb=>?_) hob fun b hb=>?_
 ·rcases hg b with e|⟨e,_⟩
  ·exact⟨by rw[e,hb],by rw[hS],rfl⟩
  ·rw[hb]at e;exact absurd e.symm (ho id)
 ·obtain⟨h1,h2⟩:=h.fresh b hb;rcases hg b with e|⟨e,_⟩
  ·exact⟨by rw[e,h1],by rw[hS,h2]⟩
  ·rw[h1]at e;exact absurd e.symm hf
theorem zlf{fn:Func}{F:AFunc}(hc:mq T F.vars N fn.results.toList F.res=true){s:EH}(h:Rel T F.vars N g w ⟨s.1,[],[],s.2⟩ tm){a:AV}(he:nJ s F.res=some a):
  ∃v g',(results fn tm).run T.P w=.ok v w∧Ext ae g w g' w∧HeapR T g' w s.2∧SV T g' w .res a v:=by
 have fV:∀{l:List AV},qJ s F.res=some l->a=.tup l->fn.results.toList.length≠1->∃v g',(results fn tm).run T.P w=.ok v w∧Ext ae g w g' w∧HeapR T g' w s.2∧SV T g' w .res a v:=fun{l} hl ha aR=>by
  obtain⟨g', σ',e1,e2,e3,e4,e5⟩:=Wd (ae:=ae) _ _ hc g _ h (fun _=>.inl rfl) rfl rfl hl;refine⟨_,g',zct fn tm w e5,e1,by have:=e2.heap;rw[e3]at this;exact this,?_⟩;rw[aF (by simpa using aR),ha];exact .of_V (.tup _ _ e4)
 unfold nJ at he;split at he
 ·rename_i q0 q gI;rw[gI]at hc;cases hr:fn.results.toList with
  |nil=>rw[hr]at hc;cases q<;>simp[mq]at hc
  |cons r rs=>
   rw[hr]at hc;have hrs:rs=[]:=by
    cases r<;>cases q<;>simp only[mq,aU]at hc<;>first|(cases hc;done)|skip
    all_goals (cases rs with
     |nil=>rfl
     |cons r' rs=>cases r'<;>simp[mq]at hc)
   subst hrs;have fin:(ui tm r).run T.P w=.ok (p8 T.P tm w r) w->(results fn tm).run T.P w=.ok (p8 T.P tm w r) w:=fun hh=>by
    have:=zct (P:=T.P) fn tm w (by rw[hr];simpa using hh);rw[hr]at this;simpa using this
   cases r with
   |tmp t=>
    cases q with
    |cell u n=>simp[mq]at hc
    |tmp u=>
     simp only[mq,aU,gM]at hc;obtain⟨⟨⟨rfl,h1⟩,h2⟩,_⟩:=hc;have hal:bB s.1 t=a:=by
      simp only[qI]at he;cases hk:bB s.1 t with
      |box cs=>rw[hk]at he;cases he
      |_=>rw[hk]at he;simpa using he
     have hR:(ui tm (.tmp t)).run T.P w=.ok (tm.getD t undef) w:=by simp[ui]
     have hW:p8 T.P tm w (.tmp t)=tm.getD t undef:=by simp only[p8,hR]
     have hs:=h.env t;simp only[hal]at hs;obtain⟨g',e1,e2,e3,e4,e5⟩:=hs.turn (ae:=ae) .res (by simp) (by simp);obtain⟨_,e1',_⟩:=hs.turn (ae:=0) .res (by simp) (by simp);refine⟨_,g',fin (by rw[hW];exact hR),e1,?_,by rw[hW];exact e2⟩;exact zjv h.heap ⟨e1.size,e1.S,e1.cell,e1.ob,e1.shape,e1.kept,fun id b hi=>absurd hi (Nat.not_lt_zero _),e1.os,e1.out⟩ (by simp) (by simp) e3 e4 e5
   |cell t ty=>
    cases q with
    |tmp u=>simp[mq]at hc
    |cell u n=>
     simp only[mq,aU,gM,ik]at hc;obtain⟨⟨⟨⟨rfl,h1⟩,h2⟩,h4⟩,_⟩:=hc;obtain⟨k1,k2⟩:=zcO h h1 h2 h4 (fun _=>.inl rfl) rfl rfl he;exact⟨_,g,fin k2,.refl _ _ _,h.heap,.of_V k1⟩
 ·rename_i aR;split at he
  ·rename_i l hl;simp only[aD]at he;refine fV hl he.symm fun bq=>?_;obtain⟨r,hr⟩:=List.length_eq_one_iff.1 bq;rw[hr]at hc;cases hq:F.res with
   |nil=>rw[hq]at hc;cases r<;>simp[mq]at hc
   |cons q qs=>
    rw[hq]at hc;have:qs=[]:=by
     cases r<;>cases q<;>simp only[mq,aU]at hc<;>first|(cases hc;done)|skip
     all_goals (cases qs with
      |nil=>rfl
      |cons q' qs=>cases q'<;>simp[mq]at hc)
    subst this;exact aR q hq
  ·cases he
theorem V5(hm:T.P.follows .mixedOrders=true)(bf:o9 T ae call){f:FuncId}{fn:Func}{F:AFunc}(hf:T.P.funcs[f]?=some fn)(hc:Rx T F fn=true){n:Nat}{as:List AV}{H:aj}{out:Out}{H':aj}(he:wo call n ae F as H=some (out,H'))
  (g:Gh) (w:World) (us:List Value) (hh:HeapR T g w H) (ha:ArgsV T g w 0 as us):Calls T.P f us.toArray w (l7 T ae g w out H'):=by
 simp only[Rx,aU,ik,gM]at hc;obtain⟨⟨⟨hb,h1⟩,h2⟩,h3⟩:=hc;split at hb
 ·rename_i C hC;simp only[wo]at he;cases hl:Nat.beq as.length F.np with
  |false=>simp[hl]at he
  |true=>
   simp only[hl,bA]at he;have hrel:=zp3 h1 h2 (dH hl) hh ha;have hx:Ext ae g w g.enter w:=Ext.enter;have retd:∀{s:EH}{a:Act}{w':World},Fr T ae F.vars fn.ntmps g.enter w [] s a w'->(match nJ s F.res with|some v=>some (Out.ret v,s.2)|none=>none)=some (out,H')->a.defers=[]∧∃v,(results fn a.tmps).run T.P w'=.ok v w'∧l7 T ae g w out H' (.returned v) w':=fun{s a w'} jT hq=>by
    obtain⟨k1,g',k2,k3⟩:=jT;split at hq
    ·rename_i v hv;simp only[aD,eU]at hq;obtain⟨rfl,rfl⟩:=hq;obtain⟨u,g2,j1,j2,j3,j4⟩:=zlf (ae:=ae) h3 k3 hv;exact⟨k1,u,j1,g2,v,rfl,(hx.trans k2).trans j2,j3,j4⟩
    ·cases hq
   cases hev:ev call ae n F.body (bC F.vars as,H)with
   |none=>rw[hev]at he;cases he
   |some q=>
    obtain⟨e,s⟩:=q;rw[hev]at he;refine calls_of_wp hf hC (wp_mono (ev_ok hm bf n F.body C hb g.enter w _ _ hrel hev) fun x a w' hq=>?_);cases x with
    |normal=>
     obtain⟨k1,k2⟩:=hq;cases k1;exact retd k2 he
    |ret=>
     obtain⟨k1,k2⟩:=hq;cases k1;exact retd k2 he
    |panic ch=>
     obtain⟨k1,v,u,g',k2,k3,k4,k5,k6⟩:=hq;cases k2;simp only[aD,eU]at he;obtain⟨rfl,rfl⟩:=he;exact⟨k1,g',v,u,k3,rfl,hx.trans k4,k5,k6⟩
    |exit i=>
     obtain⟨k1,_⟩:=hq;cases k1;simp at he
    |goto l=>exact hq.elim
    |outgrown=>exact hq.elim
 ·cases hb
end
end Go.Ak
namespace Go.Ak
def Gh.thaw(g:Gh)(n0:Nat)(w:World):Gh where
 ob id:=if id<n0 then g.ob id else none
 own b:=match g.own b with
  | .obj id=>if id<n0 then .obj id else .free
  |o=>o
 S b:=match g.own b with
  | .obj id=>if id<n0 then g.S b else max (g.S b) (Np w b).size
  |_=>g.S b
section
variable {T:Tr} {ae:Nat} {g:Gh} {w:World} {n0:Nat} {H:aj}
theorem Qu(b:Nat):g.S b<=(g.thaw n0 w).S b:=by
 simp only[Gh.thaw];split
 ·split
  ·exact aX _
  ·exact Qc _ _
 ·exact aX _
theorem settled.thaw{b o:Nat}{us:List Value}(h:settled g w b o us):settled (g.thaw n0 w) w b o us:=fun k v hk=>by
 obtain⟨h1,h2,h3⟩:=h k v hk;exact⟨EI h1 (Qu b),h2,h3⟩
theorem V.scal{g':Gh}{a:AV}{v:Value}(h:V T g w a v)(hs:scal a=true):V T g' w a v:=by
 cases h<;>first|(constructor;done)|(simp[Ak.scal]at hs)
theorem Vs.scal{g':Gh}:∀{l:List AV}{us:List Value},Vs T g w l us->l.all Ak.scal=true->Vs T g' w l us
 |_,_,.nil,_=>.nil
 |_,_,.cons a v as us h1 h2,hs=>by
  simp only[List.all_cons,aU]at hs;exact .cons _ _ _ _ (h1.scal hs.1) (Vs.scal h2 hs.2)
theorem zcp:∀{l:List AV},l.all scal=true->cz l=l∧∀e∈l,e.cells.length=1
 | [],_=>⟨rfl,by simp⟩
 |a::l,h=>by
  simp only[List.all_cons,aU]at h;obtain⟨h1,h2⟩:=zcp h.2;have ha:a.cells=[a]:=by cases a<;>first|rfl|simp[scal]at h
  refine⟨?_,fun e he=>?_⟩
  ·simp only[cz,lq,ha]at h1 ⊢;rw[h1];rfl
  ·rcases il.1 he with rfl|he
   ·rw[ha];rfl
   ·exact h2 e he
theorem Vs.split:∀{as bs:List AV}{us:List Value},Vs T g w (as++bs) us->∃us1 us2,us=us1++us2∧Vs T g w as us1∧Vs T g w bs us2
 | [],bs,us,h=>⟨[],us,rfl,.nil,h⟩
 |a::as,bs,us,h=>by
  cases h with
  |cons _ v _ vs h1 h2=>
   obtain⟨u1,u2,rfl,k1,k2⟩:=Vs.split h2;exact⟨v::u1,u2,rfl,.cons _ _ _ _ h1 k1,k2⟩
def Froz(T:Tr)(g:Gh)(w:World)(n0:Nat)(l l':List AV):Prop:=
 (∀us,Vs T g w l us->Vs T (g.thaw n0 w) w l' us)∧(∀us,Vs T g w (cz l) us->Vs T (g.thaw n0 w) w (cz l') us)∧l'.length=l.length∧∀st,(∀e∈l,e.cells.length=st)->∀e∈l',e.cells.length=st
theorem zoA{a a':AV}{l l':List AV}(h1:∀v,V T g w a v->V T (g.thaw n0 w) w a' v)(h2:∀us,Vs T g w a.cells us->Vs T (g.thaw n0 w) w a'.cells us)(h3:a'.cells.length=a.cells.length)(h:Froz T g w n0 l l'):Froz T g w n0 (a::l) (a'::l'):=by
 obtain⟨k1,k2,k3,k4⟩:=h;refine⟨fun us hu=>?_,fun us hu=>?_,by simp[k3],fun st dx e he=>?_⟩
 ·cases hu with
  |cons _ v _ vs q1 q2=>exact .cons _ _ _ _ (h1 _ q1) (k1 _ q2)
 ·simp only[cz,lq]at hu k2 ⊢;obtain⟨u1,u2,rfl,q1,q2⟩:=Vs.split hu;exact(h2 _ q1).append (k2 _ q2)
 ·rcases il.1 he with rfl|he
  ·rw[h3];exact dx a (by simp)
  ·exact k4 st (fun e he=>dx e (by simp[he])) e he
theorem sI{a a':AV}(ha:a.cells=[a])(ha':a'.cells=[a'])(h1:∀v,V T g w a v->V T (g.thaw n0 w) w a' v):(∀us,Vs T g w a.cells us->Vs T (g.thaw n0 w) w a'.cells us)∧a'.cells.length=a.cells.length:=by
 rw[ha,ha'];refine⟨fun us hu=>?_,rfl⟩;cases hu with
 |cons _ v _ vs q1 q2=>cases q2;exact .cons _ _ _ _ (h1 _ q1) .nil
mutual
theorem MW(hh:HeapR T g w H):∀(a a':AV),aN n0 H a=some a'->(∀v,V T g w a v->V T (g.thaw n0 w) w a' v)∧(∀us,Vs T g w a.cells us->Vs T (g.thaw n0 w) w a'.cells us)∧a'.cells.length=a.cells.length
 | .bool b,a',h=>by
  simp only[aN,aD]at h;subst h;have:∀v,V T g w (.bool b) v->V T (g.thaw n0 w) w (.bool b) v:=fun v hv=>hv.scal rfl;exact⟨this,sI rfl rfl this⟩
 | .int k n,a',h=>by
  simp only[aN,aD]at h;subst h;have:∀v,V T g w (.int k n) v->V T (g.thaw n0 w) w (.int k n) v:=fun v hv=>hv.scal rfl;exact⟨this,sI rfl rfl this⟩
 | .str s,a',h=>by
  simp only[aN,aD]at h;subst h;have:∀v,V T g w (.str s) v->V T (g.thaw n0 w) w (.str s) v:=fun v hv=>hv.scal rfl;exact⟨this,sI rfl rfl this⟩
 | .nilp,a',h=>by
  simp only[aN,aD]at h;subst h;have:∀v,V T g w .nilp v->V T (g.thaw n0 w) w .nilp v:=fun v hv=>hv.scal rfl;exact⟨this,sI rfl rfl this⟩
 | .nils,a',h=>by
  simp only[aN,aD]at h;subst h;have:∀v,V T g w .nils v->V T (g.thaw n0 w) w .nils v:=fun v hv=>hv.scal rfl;exact⟨this,sI rfl rfl this⟩
 | .nilf,a',h=>by
  simp only[aN,aD]at h;subst h;have:∀v,V T g w .nilf v->V T (g.thaw n0 w) w .nilf v:=fun v hv=>hv.scal rfl;exact⟨this,sI rfl rfl this⟩
 | .nili,a',h=>by
  simp only[aN,aD]at h;subst h;have:∀v,V T g w .nili v->V T (g.thaw n0 w) w .nili v:=fun v hv=>hv.scal rfl;exact⟨this,sI rfl rfl this⟩
 | .ptr id ai,a',h=>by
  simp only[aN]at h;cases hb:Nat.blt id n0 with
  |false=>simp[hb]at h
  |true=>
   simp only[hb,bA,aD]at h;subst h;have aB:=Ai hb;have:∀v,V T g w (.ptr id ai) v->V T (g.thaw n0 w) w (.ptr id ai) v:=fun v hv=>by
    obtain⟨b,h1,rfl⟩:=V.ptr_inv hv;exact .ptr id ai b (by simp[Gh.thaw,aB,h1])
   exact⟨this,sI rfl rfl this⟩
 | .tptr ty n id ai,a',h=>by
  simp only[aN]at h;cases hb:Nat.blt id n0 with
  |false=>simp[hb]at h
  |true=>
   simp only[hb,bA,aD]at h;subst h;have aB:=Ai hb;have:∀v,V T g w (.tptr ty n id ai) v->V T (g.thaw n0 w) w (.tptr ty n id ai) v:=fun v hv=>by
    obtain⟨b,h1,h2,rfl⟩:=V.tptr_inv hv;exact .tptr ty n id ai b (by simp[Gh.thaw,aB,h1]) h2
   exact⟨this,sI rfl rfl this⟩
 | .msl st id ai n,a',h=>by
  simp only[aN]at h;cases hb:Nat.blt id n0 with
  |true=>
   simp only[hb,bA,aD]at h;subst h;have aB:=Ai hb;have:∀v,V T g w (.msl st id ai n) v->V T (g.thaw n0 w) w (.msl st id ai n) v:=fun v hv=>by
    obtain⟨b,cap,ty,m,h1,h2,h3,h4,h5,rfl⟩:=V.msl_inv hv;exact .msl st id ai n b cap ty m (by simp[Gh.thaw,aB,h1]) h2 h3 h4 h5
   exact⟨this,sI rfl rfl this⟩
  |false=>
   simp only[hb,fq]at h;cases hs:Nat.beq st 1 with
   |false=>simp[hs]at h
   |true=>
    simp only[hs,bA]at h;have hs1:=dH hs;subst hs1;have jD:¬id<n0:=fun aB=>by
     have:Nat.blt id n0=true:=by simpa[Bn]using aB
     rw[hb]at this;cases this
    split at h
    ·rename_i cs hid;split at h
     ·rename_i l hl;cases hsc:l.all scal with
      |false=>simp[hsc]at h
      |true=>
       simp only[hsc,bA,aD]at h;subst h;obtain⟨b',aI,j1,⟨j2,j3,j4⟩,j5,j6⟩:=hh.objs id cs hid;obtain⟨s1,s2⟩:=EO hl j5;obtain⟨f1,f2⟩:=zcp hsc;have iV:l.length=n:=by rw[s1.length];exact s2
       have this:∀v,V T g w (.msl 1 id ai n) v->V T (g.thaw n0 w) w (.slc .ro l) v:=fun v hv=>by
        obtain⟨b,cap,ty,m,h1,h2,h3,h4,h5,rfl⟩:=V.msl_inv hv;rw[j1]at h1;cases h1;have hv:(Value.slice (some ⟨b',ai,none⟩) n cap)=.slice (some ⟨b',ai,none⟩) l.length cap:=by rw[iV]
        rw[hv];refine .slc l b' ai _ 1 cap (fun k u hk=>?_) (by rw[f1];exact s1.scal hsc) f2 (by omega) (by omega);obtain⟨z1,z2⟩:=GH hk;rw[mP]at z1;split at z1
        ·refine⟨?_,by rw[j4.cell,←mR];exact z1,j4.2.2 u (jm z1)⟩;have fu:ai+k<aI.size:=by
          have:=(eD.1 z1).1;simpa using this
         have harr:Np w b'=aI:=by
          obtain⟨⟨ty',fz,ky⟩,_⟩:=j4;simp[Np,ky]
         simp only[Gh.thaw,j2,jD,ig,harr];omega
        ·cases z1
       exact⟨this,sI rfl rfl this⟩
     ·cases h
    ·cases h
 | .slc p es,a',h=>by
  simp only[aN]at h;split at h
  ·rename_i l hl;simp only[aD]at h;subst h;obtain⟨k1,k2,k3,k4⟩:=JN hh es l hl;have this:∀v,V T g w (.slc p es) v->V T (g.thaw n0 w) w (.slc p l) v:=fun v hv=>by
    obtain⟨rfl,b,o,us,st,cap,h1,h2,h3,h4,h5,rfl⟩:=V.slc_inv hv;rw[←k3]at h5 ⊢;exact .slc l b o us st cap h1.thaw (k2 _ h2) (k4 st h3) h4 h5
   exact⟨this,sI rfl rfl this⟩
  ·cases h
 | .agg cs,a',h=>by
  simp only[aN]at h;split at h
  ·rename_i l hl;simp only[aD]at h;subst h;obtain⟨k1,k2,k3,k4⟩:=JN hh cs l hl;refine⟨fun v hv=>?_,fun us hu=>k1 us hu,k3⟩;obtain⟨us,h1,h2,rfl⟩:=V.agg_inv hv;exact .agg l us (k1 _ h1) h2
  ·cases h
 | .tup cs,a',h=>by
  simp only[aN]at h;split at h
  ·rename_i l hl;simp only[aD]at h;subst h;obtain⟨k1,k2,k3,k4⟩:=JN hh cs l hl;have this:∀v,V T g w (.tup cs) v->V T (g.thaw n0 w) w (.tup l) v:=fun v hv=>by
    obtain⟨us,h1,rfl⟩:=V.tup_inv hv;exact .tup l us (k1 _ h1)
   exact⟨this,sI rfl rfl this⟩
  ·cases h
 | .ifc t x,a',h=>by
  simp only[aN]at h;split at h
  ·rename_i y hy;simp only[aD]at h;subst h;have k1:=(MW hh x y hy).1;have this:∀v,V T g w (.ifc t x) v->V T (g.thaw n0 w) w (.ifc t y) v:=fun v hv=>by
    obtain⟨u,h1,rfl⟩:=V.ifc_inv hv;exact .ifc t y u (k1 _ h1)
   exact⟨this,sI rfl rfl this⟩
  ·cases h
 | .undef,a',h=>by simp[aN]at h
 | .bsl ..,a',h=>by simp[aN]at h
 | .rptr ..,a',h=>by simp[aN]at h
 | .fn ..,a',h=>by simp[aN]at h
 | .box _,a',h=>by simp[aN]at h
 | .loc ..,a',h=>by simp[aN]at h
 | .eloc ..,a',h=>by simp[aN]at h
 | .ref ..,a',h=>by simp[aN]at h
theorem JN(hh:HeapR T g w H):∀(l l':List AV),bg n0 H l=some l'->Froz T g w n0 l l'
 | [],l',h=>by
  simp only[bg,aD]at h;subst h;exact⟨fun us hu=>by cases hu;exact .nil,fun us hu=>by cases hu;exact .nil,rfl,fun st _ e he=>by simp at he⟩
 |a::l,l',h=>by
  simp only[bg]at h;split at h
  ·rename_i b hb;split at h
   ·rename_i bs hbs;simp only[aD]at h;subst h;obtain⟨k1,k2,k3⟩:=MW hh a b hb;exact zoA k1 k2 k3 (JN hh l bs hbs)
   ·cases h
  ·cases h
end
end
end Go.Ak
namespace Go.Ak
section
variable {T:Tr} {ae:Nat} {g g':Gh} {w w':World} {H H':aj}
theorem WX(hh:HeapR T g w H){n0:Nat}{a a':AV}{v:Value}(h:SV T g w .res a v)(hf:aN n0 H a=some a'):SV T (g.thaw n0 w) w .res a' v:=by
 have gI:∀b,g.own b=.res->(g.thaw n0 w).own b=.res∧(g.thaw n0 w).S b=g.S b:=fun b hb=>by simp[Gh.thaw,hb]
 have plain:V T g w a v->SV T (g.thaw n0 w) w .res a' v:=fun hv=>.of_V ((MW hh a a' hf).1 v hv);cases a with
 |slc p es=>
  cases p with
  |ro=>exact plain h
  |own=>
   simp only[aN]at hf;split at hf
   ·rename_i l hl;simp only[aD]at hf;subst hf;obtain⟨k1,k2,k3,k4⟩:=JN hh es l hl;obtain⟨b,ai,cap,aI,st,hv,⟨h1,h2,h3⟩,h4,h5,h6,h7,us,h8,h9⟩:=h;obtain⟨j1,j2⟩:=gI b h1;rw[←k3]at h5 hv;exact⟨b,ai,cap,aI,st,hv,⟨j1,by rw[j2,h2],h3⟩,h4,h5,⟨h6.1,fun e=>h6.2 (mi (by rw[←k3,e];rfl))⟩,k4 st h7,us,k2 _ h8,h9⟩
   ·cases hf
  |app=>
   simp only[aN]at hf;split at hf
   ·rename_i l hl;simp only[aD]at hf;subst hf;obtain⟨k1,k2,k3,k4⟩:=JN hh es l hl;obtain⟨b,ai,cap,aI,st,hv,h1,h2,h3,h4,h5,h6,h7,us,h8,h9⟩:=h;obtain⟨j1,j2⟩:=gI b h1;rw[←k3]at h5 hv h2;exact⟨b,ai,cap,aI,st,hv,j1,by rw[j2,h2],h3,h4,h5,⟨h6.1,fun e=>h6.2 (mi (by rw[←k3,e];rfl))⟩,k4 st h7,us,k2 _ h8,h9⟩
   ·cases hf
 |box cs=>simp[aN]at hf
 |loc a b c=>exact h.elim
 |eloc a b c d=>exact h.elim
 |ref a b c d=>exact h.elim
 |_=>exact plain h
theorem Ext.thaw(hh:HeapR T g w H)(he:Ext H.length g w g' w'):Ext ae g w (g'.thaw H.length w') w' where
 size:=he.size
 S b:=fT (he.S b) (Qu b)
 cell:=he.cell
 ob id b hb:=by
  have:=hh.ob id b hb;simp only[Gh.thaw,this,fD];exact he.ob id b hb
 shape:=he.shape
 kept b hb:=by
  obtain⟨h1,h2,h3⟩:=he.kept b hb;exact⟨by simp[Gh.thaw,h1],by simp[Gh.thaw,h1,h2],h3⟩
 low id b _ ho hb:=by
  have aB:=hh.ob id b ho;obtain⟨h1,h2,h3⟩:=he.low id b aB ho hb;exact⟨by simp[Gh.thaw,h1,aB],by simp[Gh.thaw,h1,aB,h2],h3⟩
 os:=he.os
 out:=he.out
theorem HeapR.thaw(hh:HeapR T g w H)(he:Ext H.length g w g' w')(hh':HeapR T g' w' H'):HeapR T (g'.thaw H.length w') w' H where
 objs id cs hc:=by
  obtain⟨b,aI,h1,⟨h2,h3,h4⟩,h5,h6⟩:=hh.objs id cs hc;have hx:=Ext.thaw (ae:=H.length) hh he;have aB:=hh.ob id b h1;obtain⟨k1,k2,k3⟩:=hx.low id b aB h1 h2;exact⟨b,aI,hx.ob id b h1,⟨k1,k2.trans h3,h4.congr k3⟩,Vs.mono hx h5,h6⟩
 ob id b hb:=by
  simp only[Gh.thaw]at hb;split at hb
  ·assumption
  ·cases hb
 fresh b hb:=by
  obtain⟨h1,h2⟩:=hh'.fresh b hb;exact⟨by simp[Gh.thaw,h1],by simp[Gh.thaw,h1,h2]⟩
 gl b x hb:=by
  have hx:=Ext.thaw (ae:=H.length) hh he;obtain⟨k1,k2⟩:=hh.gl b x hb;obtain⟨j1,_,j3⟩:=hx.kept b k1;exact⟨j1,j3.trans k2⟩
theorem pure_ok{f:FuncId}{us:List Value}{out out':Out}(hh:HeapR T g w H)(bf:Calls T.P f us.toArray w (l7 T H.length g w out H')){H'':aj}(he:lC H.length H (some (out,H'))=some (out',H'')):
  Calls T.P f us.toArray w (l7 T ae g w out' H''):=by
 refine bf.mono fun e w' hq=>?_;cases e with
 |returned v=>
  obtain⟨g',a,rfl,e1,e2,e3⟩:=hq;simp only[lC]at he;split at he
  ·rename_i a' ha;simp only[aD,eU]at he;obtain⟨rfl,rfl⟩:=he;exact⟨_,a',rfl,Ext.thaw hh e1,HeapR.thaw hh e1 e2,WX e2 e3 ha⟩
  ·cases he
 |panicked ch=>
  obtain⟨g',a,v,h1,rfl,e1,e2,e3⟩:=hq;simp only[lC]at he;split at he
  ·rename_i a' ha;simp only[aD,eU]at he;obtain⟨rfl,rfl⟩:=he;exact⟨_,a',v,h1,rfl,Ext.thaw hh e1,HeapR.thaw hh e1 e2,(MW e2 a a' ha).1 v e3⟩
  ·cases he
 |outgrown=>exact hq
def Gh.shut(g:Gh):Gh where
 ob _:=none
 S:=g.S
 own b:=match g.own b with
  | .obj _=>.kept
  |o=>o
def Gh.open'(g g2:Gh):Gh where
 ob:=g.ob
 S:=g2.S
 own b:=match g.own b with
  | .obj id=>.obj id
  |_=>g2.own b
mutual
theorem V.shut:∀(a:AV)(v:Value),gq a=true->V T g w a v->V T g.shut w a v
 | .bool _,_,_,h=>h.scal rfl
 | .int ..,_,_,h=>h.scal rfl
 | .str _,_,_,h=>h.scal rfl
 | .nilp,_,_,h=>h.scal rfl
 | .nils,_,_,h=>h.scal rfl
 | .nilf,_,_,h=>h.scal rfl
 | .nili,_,_,h=>h.scal rfl
 | .slc p es,v,hc,h=>by
  obtain⟨rfl,b,o,us,st,cap,h1,h2,h3,h4,h5,rfl⟩:=V.slc_inv h;exact .slc es b o us st cap h1 (Vs.shutF es us (by simpa[gq]using hc) h2) h3 h4 h5
 | .rptr cs ai,v,hc,h=>by
  obtain⟨b,o,us,h1,h2,rfl⟩:=V.rptr_inv h;exact .rptr cs ai b o us h1 (Vs.shut cs us (by simpa[gq]using hc) h2)
 | .agg cs,v,hc,h=>by
  obtain⟨us,h1,h2,rfl⟩:=V.agg_inv h;exact .agg cs us (Vs.shut cs us (by simpa[gq]using hc) h1) h2
 | .tup cs,v,hc,h=>by
  obtain⟨us,h1,rfl⟩:=V.tup_inv h;exact .tup cs us (Vs.shut cs us (by simpa[gq]using hc) h1)
 | .fn f cs,v,hc,h=>by
  obtain⟨us,h1,rfl⟩:=V.fn_inv h;exact .fn f cs us (Vs.shut cs us (by simpa[gq]using hc) h1)
 | .ifc t a,v,hc,h=>by
  obtain⟨u,h1,rfl⟩:=V.ifc_inv h;exact .ifc t a u (V.shut a u (by simpa[gq]using hc) h1)
 | .undef,_,hc,_=>by simp[gq]at hc
 | .ptr ..,_,hc,_=>by simp[gq]at hc
 | .tptr ..,_,hc,_=>by simp[gq]at hc
 | .msl ..,_,hc,_=>by simp[gq]at hc
 | .bsl ..,_,hc,_=>by simp[gq]at hc
 | .box _,_,hc,_=>by simp[gq]at hc
 | .loc ..,_,hc,_=>by simp[gq]at hc
 | .eloc ..,_,hc,_=>by simp[gq]at hc
 | .ref ..,_,hc,_=>by simp[gq]at hc
theorem Vs.shut:∀(as:List AV)(us:List Value),dG as=true->Vs T g w as us->Vs T g.shut w as us
 | [],_,_,h=>by cases h;exact .nil
 |a::as,us,hc,h=>by
  simp only[dG,aU]at hc;cases h with
  |cons _ v _ vs h1 h2=>exact .cons _ _ _ _ (V.shut a v hc.1 h1) (Vs.shut as vs hc.2 h2)
theorem Vs.shutF:∀(as:List AV)(us:List Value),dG as=true->Vs T g w (cz as) us->Vs T g.shut w (cz as) us
 | [],_,_,h=>by cases h;exact .nil
 |a::as,us,hc,h=>by
  simp only[dG,aU]at hc;simp only[cz,lq]at h ⊢;obtain⟨u1,u2,rfl,q1,q2⟩:=Vs.split h;refine Vs.append ?_ (Vs.shutF as u2 hc.2 q2);cases a with
  |agg cs=>exact Vs.shut cs u1 (by simpa[gq]using hc.1) q1
  |_=>
   cases q1 with
   |cons _ v _ vs h1 h2=>cases h2;exact .cons _ _ _ _ (V.shut _ v hc.1 h1) .nil
end
theorem SV.shut{i:Nat}{a:AV}{v:Value}(hc:gq a=true)(h:SV T g w (.arg i) a v):SV T g.shut w (.arg i) a v:=by
 have ho:∀b,g.own b=.arg i->g.shut.own b=.arg i:=fun b hb=>by simp[Gh.shut,hb]
 cases a with
 |slc p es=>
  cases p with
  |ro=>exact V.shut _ _ hc h
  |own=>
   obtain⟨b,ai,cap,aI,st,hv,⟨h1,h2,h3⟩,h4,h5,h6,h7,us,h8,h9⟩:=h;exact⟨b,ai,cap,aI,st,hv,⟨ho b h1,h2,h3⟩,h4,h5,h6,h7,us,Vs.shutF es us (by simpa[gq]using hc) h8,h9⟩
  |app=>
   obtain⟨b,ai,cap,aI,st,hv,h1,h2,h3,h4,h5,h6,h7,us,h8,h9⟩:=h;exact⟨b,ai,cap,aI,st,hv,ho b h1,h2,h3,h4,h5,h6,h7,us,Vs.shutF es us (by simpa[gq]using hc) h8,h9⟩
 |box cs=>simp[gq]at hc
 |loc a b c=>exact h.elim
 |eloc a b c d=>exact h.elim
 |ref a b c d=>exact h.elim
 |_=>exact V.shut _ _ hc h
theorem ArgsV.shut{i:Nat}{as:List AV}{us:List Value}(hc:dG as=true)(h:ArgsV T g w i as us):ArgsV T g.shut w i as us:=by
 induction h with
 |nil i=>exact .nil i
 |cons i a v as us h1 _ ih=>
  simp only[dG,aU]at hc;exact .cons i a v as us (SV.shut hc.1 h1) (ih hc.2)
theorem HeapR.shut(h:HeapR T g w H):HeapR T g.shut w [] where
 objs id cs hc:=by simp at hc
 ob id b hb:=by simp[Gh.shut]at hb
 fresh b hb:=by
  obtain⟨h1,h2⟩:=h.fresh b hb;exact⟨by simp[Gh.shut,h1],h2⟩
 gl b x hb:=⟨by simp[Gh.shut,(h.gl b x hb).1],(h.gl b x hb).2⟩
def Gh.after(g g':Gh)(w':World):Gh:=g.open' (g'.thaw 0 w')
theorem zru{b:Nat}(he:Ext 0 g.shut w g' w')(hb:(g'.thaw 0 w').own b=.res):(g.after g' w').own b=.res:=by
 simp only[Gh.after,Gh.open'];cases ho:g.own b with
 |obj id=>
  obtain⟨h1,_⟩:=he.kept b (by simp[Gh.shut,ho]);simp[Gh.thaw,h1]at hb
 |_=>exact hb
theorem zfv{b:Nat}(he:Ext 0 g.shut w g' w')(hb:g.shut.own b=.kept):(g'.thaw 0 w').own b=.kept∧(g'.thaw 0 w').S b=g.S b∧w'.heap[b]?=w.heap[b]? := by
 obtain⟨h1,h2,h3⟩:=he.kept b hb;exact⟨by simp[Gh.thaw,h1],by simp only[Gh.thaw,h1];exact h2,h3⟩
theorem Ext.after(he:Ext 0 g.shut w g' w'):Ext ae g w (g.after g' w') w' where
 size:=he.size
 S b:=fT (he.S b) (Qu b)
 cell:=he.cell
 ob _ _ h:=h
 shape:=he.shape
 kept b hb:=by
  obtain⟨h1,h2,h3⟩:=zfv he (b:=b) (by simp[Gh.shut,hb]);exact⟨by simp only[Gh.after,Gh.open',hb];exact h1,h2,h3⟩
 low id b _ _ hb:=by
  obtain⟨_,h2,h3⟩:=zfv he (b:=b) (by simp[Gh.shut,hb]);exact⟨by simp only[Gh.after,Gh.open',hb],h2,h3⟩
 os:=he.os
 out:=he.out
theorem HeapR.after(hh:HeapR T g w H)(he:Ext 0 g.shut w g' w')(hh':HeapR T g' w' H'):HeapR T (g.after g' w') w' H where
 objs id cs hc:=by
  obtain⟨b,aI,h1,⟨h2,h3,h4⟩,h5,h6⟩:=hh.objs id cs hc;have hx:=Ext.after (ae:=id+1) he;obtain⟨k1,k2,k3⟩:=hx.low id b (LF _) h1 h2;exact⟨b,aI,h1,⟨k1,k2.trans h3,h4.congr k3⟩,Vs.mono hx h5,h6⟩
 ob id b hb:=hh.ob id b hb
 fresh b hb:=by
  obtain⟨h1,h2⟩:=hh'.fresh b hb;have aB:w.heap.size<=b:=fT he.size hb;exact⟨by simp[Gh.after,Gh.open',(hh.fresh b aB).1,Gh.thaw,h1],by simp[Gh.after,Gh.open',Gh.thaw,h1,h2]⟩
 gl b x hb:=by
  obtain⟨k1,k2⟩:=hh.gl b x hb;obtain⟨j1,_,j3⟩:=(Ext.after (ae:=0) he).kept b k1;exact⟨j1,j3.trans k2⟩
theorem zej:Ext 0 { g'.thaw 0 w' with own:=(g.after g' w').own } w' (g.after g' w') w' where
 size:=aX _
 S _:=aX _
 cell _ _ _:=rfl
 ob id b h:=by simp[Gh.thaw]at h
 shape _ _ h:=h
 kept _ h:=⟨h,rfl,rfl⟩
 low _ _ hi:=absurd hi (Nat.not_lt_zero _)
 os:=rfl
 out:=rfl
theorem SV.after(he:Ext 0 g.shut w g' w'){a:AV}{v:Value}(h:SV T (g'.thaw 0 w') w' .res a v):SV T (g.after g' w') w' .res a v:=
 (h.reown (g.after g' w').own fun b hb=>zru he hb).frame zej fun _ hb=>⟨hb,rfl,rfl⟩
theorem V.after{a:AV}{v:Value}(h:V T (g'.thaw 0 w') w' a v):V T (g.after g' w') w' a v:=V.mono zej (h.reown (g.after g' w').own)
theorem zqy{f:FuncId}{us:List Value}{out out':Out}(hh:HeapR T g w H)(bf:Calls T.P f us.toArray w (l7 T 0 g.shut w out H')){H'':aj}(he:lC 0 H (some (out,H'))=some (out',H'')):
  Calls T.P f us.toArray w (l7 T ae g w out' H''):=by
 refine bf.mono fun e w' hq=>?_;cases e with
 |returned v=>
  obtain⟨g',a,rfl,e1,e2,e3⟩:=hq;simp only[lC]at he;split at he
  ·rename_i a' ha;simp only[aD,eU]at he;obtain⟨rfl,rfl⟩:=he;exact⟨_,a',rfl,Ext.after e1,HeapR.after hh e1 e2,SV.after e1 (WX e2 e3 ha)⟩
  ·cases he
 |panicked ch=>
  obtain⟨g',a,v,h1,rfl,e1,e2,e3⟩:=hq;simp only[lC]at he;split at he
  ·rename_i a' ha;simp only[aD,eU]at he;obtain⟨rfl,rfl⟩:=he;exact⟨_,a',v,h1,rfl,Ext.after e1,HeapR.after hh e1 e2,V.after ((MW e2 a a' ha).1 v e3)⟩
  ·cases he
 |outgrown=>exact hq
def Vv(T:Tr)(fs:Nat->Option AFunc):Prop:=∀f F,fs f=some F->∃fn,T.P.funcs[T.fm f]?=some fn∧Rx T F fn=true∧(fn.name != "runtime.NumGoroutine")=true
def Be(T:Tr)(fs:Nat->Option AFunc)(sp:Nat->(Nat->CallF)->Nat->CallF):Prop:=
 ∀(n:Nat)(gX:Nat->CallF),(∀ae,o9 T ae (gX ae))->∀(ae f:Nat)(as:List AV)(H:aj)(out:Out)(H':aj),fs f=none->sp n gX ae f as H=some (out,H')->GN T.P (T.fm f)=true∧
  ∀(g:Gh)(w:World)(us:List Value),HeapR T g w H->ArgsV T g w 0 as us->Calls T.P (T.fm f) us.toArray w (l7 T ae g w out H')
theorem zkI(hm:T.P.follows .mixedOrders=true){fs:Nat->Option AFunc}{sp:Nat->(Nat->CallF)->Nat->CallF}(hfs:Vv T fs)(jw:Be T fs sp):∀(n ae:Nat),o9 T ae (run fs sp n ae):=by
 intro n;induction n with
 |zero=>intro ae f as H out H' he;simp[run]at he
 |succ n ih=>
  intro ae f as H out H' he;simp only[run]at he;split at he
  ·rename_i hf;exact jw n (run fs sp n) ih ae f as H out H' hf he
  ·rename_i F hf;obtain⟨fn,h1,h2,h3⟩:=hfs f F hf;have hfn:GN T.P (T.fm f)=true:=by
    have hb:fn.body.isSome=true:=by
     simp only[Rx,aU]at h2;cases hb:fn.body with
     |none=>simp[hb]at h2
     |some c=>rfl
    simp only[GN,h1,aU];exact⟨h3,hb⟩
   refine⟨hfn,fun g w us hh ha=>?_⟩;cases hp:F.pure with
   |false=>
    simp only[hp,fq]at he;exact V5 hm (ih ae) h1 h2 he g w us hh ha
   |true=>
    simp only[hp,bA]at he;cases bM:dG as with
    |true=>
     simp only[bM,bA]at he;cases hr:wo (run fs sp n 0) n 0 F as []with
     |none=>rw[hr]at he;simp[lC]at he
     |some q=>
      obtain⟨out0,H0⟩:=q;rw[hr]at he;exact zqy hh (V5 hm (ih 0) h1 h2 hr g.shut w us hh.shut (ha.shut bM)) he
    |false=>
    simp only[bM,fq]at he;cases hr:wo (run fs sp n H.length) n H.length F as H with
    |none=>rw[hr]at he;simp[lC]at he
    |some q=>
     obtain⟨out0,H0⟩:=q;rw[hr]at he;exact pure_ok hh (V5 hm (ih H.length) h1 h2 hr g w us hh ha) he
end
end Go.Ak
namespace Go.Ak
def nN(w:World):Gh where
 ob _:=none
 S b:=if b<w.heap.size then(Np w b).size else 0
 own b:=if b<w.heap.size then .kept else .free
section
variable {T:Tr} {w:World}
theorem heap0(hg:∀b x,T.gl b=some x->w.heap[b]?=some x):HeapR T (nN w) w [] where
 objs id cs h:=by simp at h
 ob id b h:=by simp[nN]at h
 fresh b h:=by simp[nN,Nat.not_lt.2 h]
 gl b x hb:=by
  have h:=hg b x hb;have aB:b<w.heap.size:=(rz.1 h).1;exact⟨by simp[nN,aB],h⟩
theorem zrg{g':Gh}{w':World}(h:Ext 0 (nN w) w g' w'):RowKit.Below w.heap.size w w' where
 os:=h.os
 tape:=(Prod.mk.inj h.out).2
 output:=(Prod.mk.inj h.out).1
 size:=h.size
 block k hk:=(h.kept k (by simp[nN,hk])).2.2
theorem zkM(hg:∀b x,T.gl b=some x->w.heap[b]?=some x)(hm:T.P.follows .mixedOrders=true){fs:Nat->Option AFunc}{sp:Nat->(Nat->CallF)->Nat->CallF}(hfs:Vv T fs)(jw:Be T fs sp){n f:Nat}{as:List AV}{a:AV}{H':aj}(hr:run fs sp n 0 f as []=some (.ret a,H'))
  {us:List Value} (hv:Vs T (nN w) w as us):Calls T.P (T.fm f) us.toArray w fun e w'=> ∃v,e=.returned v∧RowKit.Below w.heap.size w w'∧∃g',Ext 0 (nN w) w g' w'∧SV T g' w' .res a v:=by
 refine((zkI hm hfs jw n 0 f as [] _ H' hr).2 (nN w) w us (heap0 hg) (ArgsV.of_Vs 0 hv)).mono fun e w' he=>?_;cases e with
 |returned v=>
  obtain⟨g',a',h1,h2,h3,h4⟩:=he;cases h1;exact⟨v,rfl,zrg h2,g',h2,h4⟩
 |panicked ch=>
  obtain⟨g',a',v,_,h1,_⟩:=he;cases h1
 |outgrown=>exact he.elim
theorem zkL(hg:∀b x,T.gl b=some x->w.heap[b]?=some x)(hm:T.P.follows .mixedOrders=true){fs:Nat->Option AFunc}{sp:Nat->(Nat->CallF)->Nat->CallF}(hfs:Vv T fs)(jw:Be T fs sp){n f:Nat}{as:List AV}{b:Bool}{H':aj}(hr:run fs sp n 0 f as []=some (.ret (.bool b),H'))
  {us:List Value} (hv:Vs T (nN w) w as us):Calls T.P (T.fm f) us.toArray w fun e w'=>e=.returned (.bool b)∧RowKit.Below w.heap.size w w':=
 (zkM hg hm hfs jw hr hv).mono fun e w' ⟨v,h1,h2,g',_,h3⟩=>by
  have:v=.bool b:=V.bool_inv h3;subst this;exact⟨h1,h2⟩
theorem zb2(g:Gh)(s:ByteArray):V T g w (.str s.data.toList) (.string s):=by
 have:s=⟨s.data.toList.toArray⟩:=by simp
 conv=>rhs;rw[this]
 exact .str _
end
end Go.Ak
namespace Go.Ak
open Go.RowKit Go.ChangeShapes
theorem znZ{W W':World}(h:RowKit.Below W.heap.size W W')(may:MemPlace->Prop):W.keptBut W' may:=by
 refine⟨h.os,h.output,fun i hi=>?_⟩;rw[h.block i hi];cases hb:W.heap[i]? with
 |none=>simp
 |some o=>cases o<;>simp
theorem zlR{H:Type}{enc:TypeId×Value->H}{P:Program}{f:Func}{s:ChangeSpec}{apart fresh handsOn again:Bool}{W W':World}{args:Array Value}{v:Value}{ds gs:List (DataW H)}{uD pa pv:List MemPlace}
  (hW:DataW.Whole enc P f.params.toList s.vars apart W args.toList ds gs uD)
  (gI:∀(b:Nat)(sp:Nat->Bool)(hd:Bool),DataW.TrodAll enc P W' b sp hd f.resultTypes.toList (v.resultList f.resultTypes.size) (s.fn H (ds++gs)).results [])
  (Cg:∀sp:Nat->Bool,(∀p∈uD,sp p.block=true)->DataW.TrodAll enc P W' 0 sp true f.params.toList args.toList (s.fn H (ds++gs)).args pa)
  (hvars:∀sp:Nat->Bool,(∀p∈uD,sp p.block=true)->DataW.TrodVars enc P W' sp s.vars (s.fn H (ds++gs)).vars pv)
  (hps:uD=pa++pv) (hb:RowKit.Below W.heap.size W W')
  (bF:∀(j:Nat)(t:TypeId)(r:Value),f.resultTypes[j]?=some t->(v.resultList f.resultTypes.size)[j]?=some r->Value.okWide P W' .any 0 t r) :
  s.post enc P f apart fresh handsOn again W args v W':=by
 have hold:∀p∈uD,(fun b=>decide (b<W.heap.size)) p.block=true:=fun p hp=>by simpa using hW.lt p hp
 have aB:=hW.lt;refine⟨ds,gs,uD,[],pa,pv,hW,gI _ _ _,Cg _ hold,hvars _ hold,World.keptBut_mono (fun p hp=>⟨hp,?_⟩) (znZ hb (· ∈ uD)),fun _=>?_⟩
 ·rw[hps,qy]at hp;exact Or.inr hp
 ·obtain⟨_,_,_,_,_,hz,hn⟩:=hW;refine⟨bF,_,_,([]++pa)++pv,⟨[]++pa,pv,trodAll_append (Cg _ (fun _ _=>rfl)) (gI _ _ _),hvars _ (fun _ _=>rfl),rfl,?_,?_⟩,?_⟩
  ·intro b ai hp;have hp':MemPlace.cell b ai∈uD:=by rw[hps];simpa using hp
   have:W'.frozen? ⟨b,ai,none⟩=W.frozen? ⟨b,ai,none⟩:=by
    simp only[World.frozen?,hb.block b (aB _ hp')]
   rw[this];exact hz b ai hp'
  ·intro ha;have:=hn ha;rw[hps]at this;simpa using this
  ·intro p hp _;rw[hps];simpa using hp
end Go.Ak
namespace Go.Ak
section
variable {T:Tr} {ae:Nat} {g:Gh} {w w':World} {H:aj}
theorem HeapR.rel(h:HeapR T g w H):Rel T [] 0 g w ⟨[],[],[],H⟩ #[]:=
 ⟨rfl,fun _ _=>rfl,fun _ h=>by simp at h,fun _=>V.undef _,fun _=>V.undef _,fun _ _ h=>by simp[bB]at h,h⟩
theorem HeapR.set1(h:HeapR T g w H){id ai b:Nat}{cs:List AV}{a:AV}{u:Value}(hb:g.ob id=some b)(nM:ae<=id)(hid:H[id]?=some (some cs))(ho:ai<cs.length)(hv:V T g w a u)(h1:u.oneCell'=true):
  Ext ae g w g (w.setCell ⟨b,ai,none⟩ u)∧HeapR T g (w.setCell ⟨b,ai,none⟩ u) (H.set id (some (cs.set ai a))):=by
 have hw:wr ⟨[],[],[],H⟩ ae (.ptr id ai) [a]=some ⟨[],[],[],H.set id (some (cs.set ai a))⟩:=by
  have e1:Nat.ble ae id=true:=by rw[Nat.ble_eq];exact nM
  have e2:Nat.ble (ai+1) cs.length=true:=by rw[Nat.ble_eq];exact ho
  simp[wr,e1,hid,e2,setCells]
 obtain⟨b',off',aI,k1,_,_,k2,k3⟩:=zbE (ae:=ae) (o:=.res) h.rel (p:=.ptr id ai) (v:=.pointer (some ⟨b,ai,none⟩)) (AVR.of_SV (SV.of_V (V.ptr id ai b hb))) (.cons _ _ _ _ hv .nil) (by simpa using h1) hw;simp only[Value.pointer.injEq,aD,Addr.mk.injEq,nE]at k1;obtain⟨rfl,rfl⟩:=k1;exact⟨k2,k3.heap⟩
theorem zoz{b q n:Nat}(gP:g.own b=.obj q)(nM:ae<=q)(h1:w'.heap=(w.freeze ⟨b,0,none⟩ n).heap)(h2:w'.os=w.os)(h3:(w'.output,w'.tape)=(w.output,w.tape)):
  Ext ae g w g w'∧∀x,x≠b->w'.heap[x]?=w.heap[x]? := by
 have hx:∀x,x≠b->w'.heap[x]?=w.heap[x]? := fun x hx=>by
  rw[h1];unfold World.freeze;split
  ·rfl
  ·simp only[zS];rw[aF (fun e=>hx e.symm)]
 have hb:∀x,w'.heap[x]?=w.heap[x]? ∨∃c e lo hi lo' aK,w.heap[x]?=some (Obj.cells c e (lo,hi))∧w'.heap[x]?=some (Obj.cells c e (lo',aK)):=fun x=>by
  by_cases e:x=b
  ·subst e;cases hc:w.heap[x]? with
   |none=>
    left;rw[h1];unfold World.freeze;split
    ·exact hc
    ·show(w.heap.modify x _)[x]?=_;rw[zS,aS rfl,hc];rfl
   |some o=>
    cases o with
    |cells c e fz=>
     obtain⟨lo,hi⟩:=fz;by_cases hn:n=0
     ·left;rw[h1];unfold World.freeze;rw[aS hn];exact hc
     ·refine .inr ⟨c,e,lo,hi,(if lo==hi then(0,0+n)else(min lo 0,max hi (0+n))).1,(if lo==hi then(0,0+n)else(min lo 0,max hi (0+n))).2,hc,?_⟩;rw[h1];unfold World.freeze;rw[aF hn];show(w.heap.modify x _)[x]?=_;rw[zS,aS rfl,hc];rfl
    |_=>
     left;rw[h1];unfold World.freeze;split
     ·exact hc
     ·show(w.heap.modify x _)[x]?=_;rw[zS,aS rfl,hc];rfl
  ·exact .inl (hx x e)
 refine⟨⟨?_,fun _=>aX _,fun x o _=>?_,fun _ _ h=>h,fun x z hz=>?_,fun x hk=>⟨hk,rfl,hx x (fun e=>by subst e;rw[gP]at hk;cases hk)⟩,fun id x hi _ hk=>⟨hk,rfl,hx x (fun e=>by subst e;rw[gP]at hk;cases hk;omega)⟩,h2,h3⟩,hx⟩
 ·rw[h1];unfold World.freeze;split<;>simp
 ·rcases hb x with e|⟨c,e,lo,hi,lo',aK,e1,e2⟩
  ·simp only[World.cell?,e]
  ·simp only[World.cell?,e1,e2]
 ·rcases hb x with e|⟨c,e,lo,hi,lo',aK,e1,e2⟩
  ·simpa only[World.shape?,e]using hz
  ·simpa only[World.shape?,e1,e2]using hz
theorem HeapR.frozen(h:HeapR T g w H){b q n:Nat}(hob:g.ob q=some b)(gP:g.own b=.obj q)(nM:ae<=q)(h1:w'.heap=(w.freeze ⟨b,0,none⟩ n).heap)(h2:w'.os=w.os)(h3:(w'.output,w'.tape)=(w.output,w.tape)):
  Ext ae g w g w'∧HeapR T g w' (H.set q none):=by
 obtain⟨he,hx⟩:=zoz (g:=g) gP nM h1 h2 h3;refine⟨he,fun id cs hc=>?_,fun id x hb=>by simpa using h.ob id x hb,fun x hb=>h.fresh x (fT he.size hb),fun x o ho=>?_⟩
 ·by_cases hq:q=id
  ·subst hq;simp only[EN]at hc;simp at hc
  ·rw[tZ hq]at hc;obtain⟨b',aI,k1,⟨k2,k3,k4⟩,k5,k6⟩:=h.objs id cs hc;have aR:b'≠b:=fun e=>by subst e;rw[gP]at k2;cases k2;exact hq rfl
   exact⟨b',aI,k1,⟨k2,k3,k4.congr (hx b' aR)⟩,Vs.mono he k5,k6⟩
 ·obtain⟨j1,j2⟩:=h.gl x o ho;exact⟨j1,(hx x (fun e=>by subst e;rw[gP]at j1;cases j1)).trans j2⟩
theorem HeapR.same(h:HeapR T g w H)(h1:w'.heap=w.heap)(h2:w'.os=w.os)(h3:(w'.output,w'.tape)=(w.output,w.tape)):Ext ae g w g w'∧HeapR T g w' H:=by
 have he:Ext ae g w g w':=⟨by rw[h1];exact aX _,fun _=>aX _,fun _ _ _=>by simp only[World.cell?,h1],fun _ _ h=>h,fun _ _ h=>by simpa only[World.shape?,h1]using h,fun _ h=>⟨h,rfl,by rw[h1]⟩,fun _ _ _ _ h=>⟨h,rfl,by rw[h1]⟩,h2,h3⟩
 refine⟨he,fun id cs hc=>?_,h.ob,fun x hb=>h.fresh x (by rw[h1]at hb;exact hb),fun x o ho=>?_⟩
 ·obtain⟨b',aI,k1,⟨k2,k3,k4⟩,k5,k6⟩:=h.objs id cs hc;exact⟨b',aI,k1,⟨k2,k3,k4.congr (by rw[h1])⟩,Vs.mono he k5,k6⟩
 ·rw[h1];exact h.gl x o ho
theorem HeapR.cell(h:HeapR T g w H){id ai b:Nat}{cs:List AV}{a:AV}(hb:g.ob id=some b)(hid:H[id]?=some (some cs))(ha:cs[ai]?=some a):∃v,w.cell? ⟨b,ai,none⟩=some v∧V T g w a v∧w.frozen? ⟨b,ai,none⟩=false:=by
 obtain⟨b',aI,k1,⟨k2,k3,k4⟩,k5,k6⟩:=h.objs id cs hid;rw[hb]at k1;cases k1;obtain⟨v,hv,hV⟩:=k5.get ai a ha;rw[mP]at hv;split at hv
 ·rw[mR]at hv;exact⟨v,by rw[k4.cell];exact hv,hV,k4.2.1 ai (by omega)⟩
 ·cases hv
end
end Go.Ak
namespace Go.Ak
def Gh.alone(g:Gh)(q:Nat):Gh where
 ob id:=if id=0 then some q else none
 S:=g.S
 own b:=if b=q then .obj 0 else if b<q then .kept else .free
def Gh.home(g g':Gh)(w':World)(n q:Nat):Gh where
 ob:=g.ob
 S:=(g'.thaw 0 w').S
 own b:=if b<n then g.own b else if b<q then .free else(g'.thaw 0 w').own b
structure Grown(n:Nat)(w W:World):Prop where
 block:∀b,b<n->W.heap[b]?=w.heap[b]?
 size:n=w.heap.size
 le:n<=W.heap.size
 os:W.os=w.os
 out:(W.output,W.tape)=(w.output,w.tape)
structure Near(n q:Nat)(w w':World):Prop where
 size:w.heap.size<=w'.heap.size
 block:∀b,b<w.heap.size->(b<n∨q<=b)->w'.heap[b]?=w.heap[b]?
 shape:∀b x,w.shape? b=some x->w'.shape? b=some x
 os:w'.os=w.os
 out:(w'.output,w'.tape)=(w.output,w.tape)
theorem Near.refl(n q:Nat)(w:World):Near n q w w:=⟨aX _,fun _ _ _=>rfl,fun _ _ h=>h,rfl,rfl⟩
theorem Near.trans{n q:Nat}{w w1 w2:World}(h:Near n q w w1)(k:Near n q w1 w2):Near n q w w2:=
 ⟨fT h.size k.size,fun b hb hq=>(k.block b (EI hb h.size) hq).trans (h.block b hb hq),fun b x hx=>k.shape b x (h.shape b x hx),k.os.trans h.os,k.out.trans h.out⟩
theorem Near.setCell{n q b o:Nat}(w:World)(v:Value)(h1:n<=b)(h2:b<q):Near n q w (w.setCell ⟨b,o,none⟩ v):=by
 refine⟨by simp[World.setCell],fun x _ hx=>?_,fun x y hy=>?_,rfl,rfl⟩
 ·simp only[World.setCell,zS];rw[aF (by omega)]
 ·simp only[World.shape?,World.setCell,zS]at hy ⊢;by_cases e:b=x
  ·subst e;rw[aS rfl];cases hc:w.heap[b]? with
   |none=>simp[hc]at hy
   |some ob=>
    cases ob with
    |cells c el fz=>simpa[hc]using hy
    |_=>simp[hc]at hy
  ·rw[aF e];exact hy
theorem Near.alloc(n q:Nat)(w:World)(o:Obj):Near n q w (w.alloc o).drew:=by
 have hh:∀b,b<w.heap.size->(w.alloc o).drew.heap[b]?=w.heap[b]? := fun b hb=>by
  show(w.heap.push o)[b]?=_;rw[Ji,aF (by omega)]
 refine⟨?_,fun b hb _=>hh b hb,fun b x hx=>?_,rfl,rfl⟩
 ·show w.heap.size<=(w.heap.push o).size;simp
 ·have hb:b<w.heap.size:=by
   rcases kY b w.heap.size with h|h
   ·exact h
   ·simp[World.shape?,xK h]at hx
  simp only[World.shape?,hh b hb]at hx ⊢;exact hx
section
variable {T:Tr} {ae n q:Nat} {g g':Gh} {w W w' F:World} {H:aj}
theorem zrr(hh:HeapR T g w H)(hW:Grown n w W)(hq:n<=q)(hs:W.heap.size=q+1){aI:Array Value}{cs:List AV}(hb:blk W q aI)(hv:Vs T (g.alone q) W cs aI.toList):HeapR T (g.alone q) W [some cs] where
 objs id xs hx:=by
  cases id with
  |zero=>
   simp only[pY,aD]at hx;subst hx;have hl:=hv.length;refine⟨q,aI,by simp[Gh.alone],⟨by simp[Gh.alone],(hh.fresh q (by rw[←hW.size];exact hq)).2,hb⟩,?_,?_⟩
   ·rw[hl,List.take_length];exact hv
   ·rw[hl];simp
  |succ id=>simp at hx
 ob id b hb:=by
  simp only[Gh.alone]at hb;split at hb
  ·rename_i h;simp[h]
  ·cases hb
 fresh b hb:=by
  rw[hs]at hb;have:=hW.size;exact⟨by simp only[Gh.alone];rw[aF (by omega),aF (by omega)],(hh.fresh b (by omega)).2⟩
 gl b x hb:=by
  obtain⟨_,k2⟩:=hh.gl b x hb;have aB:b<n:=by rw[hW.size];exact(rz.1 k2).1
  exact⟨by simp only[Gh.alone];rw[aF (by omega),aS (by omega)],(hW.block b aB).trans k2⟩
theorem Nq{b:Nat}(hb:b<q):(g.alone q).own b=.kept:=by
 simp only[Gh.alone];rw[aF (by omega),aS hb]
theorem JL(hW:Grown n w W)(hq:n<=q)(hs:W.heap.size=q+1)(he:Ext 0 (g.alone q) W g' w')(hF:Near n q w' F){b:Nat}(hb:b<n):(g.home g' w' n q).own b=g.own b∧(g.home g' w' n q).S b=g.S b∧F.heap[b]?=w.heap[b]? := by
 obtain⟨k1,k2,k3⟩:=he.kept b (Nq (by omega));have h1:=he.size;refine⟨by simp only[Gh.home];rw[aS hb],?_,?_⟩
 ·simp only[Gh.home,Gh.thaw,k1];exact k2
 ·rw[hF.block b (by omega) (.inl hb),k3,hW.block b hb]
theorem zoh(hs:W.heap.size=q+1)(hh:HeapR T g w H)(hW:Grown n w W)(he:Ext 0 (g.alone q) W g' w'){b:Nat}(h1:n<=b)(h2:b<q):(g'.thaw 0 w').S b=0:=by
 obtain⟨k1,k2,_⟩:=he.kept b (Nq h2);have:(g'.thaw 0 w').S b=g'.S b:=by simp only[Gh.thaw,k1]
 rw[this,k2];exact(hh.fresh b (by rw[←hW.size];exact h1)).2
theorem WR(hh:HeapR T g w H)(hW:Grown n w W)(hq:n<=q)(hs:W.heap.size=q+1)(he:Ext 0 (g.alone q) W g' w')(hF:Near n q w' F):Ext ae g w (g.home g' w' n q) F where
 size:=by have:=he.size;have:=hF.size;have:=hW.size;omega
 S b:=by
  have h1:(g.alone q).S b<=g'.S b:=he.S b;exact fT h1 (Qu b)
 cell b o ho:=by
  have hb:b<n:=by
   rw[hW.size];rcases kY b w.heap.size with h|h
   ·exact h
   ·rw[(hh.fresh b h).2]at ho;omega
  simp only[World.cell?,(JL (g':=g') hW hq hs he hF hb).2.2]
 ob _ _ h:=h
 shape b x hx:=by
  have hb:b<n:=by
   rw[hW.size];rcases kY b w.heap.size with h|h
   ·exact h
   ·simp[World.shape?,xK h]at hx
  simp only[World.shape?,(JL (g':=g') hW hq hs he hF hb).2.2]at hx ⊢;exact hx
 kept b hb:=by
  have aB:b<n:=by
   rw[hW.size];rcases kY b w.heap.size with h|h
   ·exact h
   ·rw[(hh.fresh b h).1]at hb;cases hb
  obtain⟨k1,k2,k3⟩:=JL (g':=g') hW hq hs he hF aB;exact⟨k1.trans hb,k2,k3⟩
 low id b _ _ hb:=by
  have aB:b<n:=by
   rw[hW.size];rcases kY b w.heap.size with h|h
   ·exact h
   ·rw[(hh.fresh b h).1]at hb;cases hb
  obtain⟨k1,k2,k3⟩:=JL (g':=g') hW hq hs he hF aB;exact⟨k1.trans hb,k2,k3⟩
 os:=hF.os.trans (he.os.trans hW.os)
 out:=hF.out.trans (he.out.trans hW.out)
theorem zdV{H1:aj}(hh:HeapR T g w H)(hW:Grown n w W)(hq:n<=q)(hs:W.heap.size=q+1)(he:Ext 0 (g.alone q) W g' w')(hh':HeapR T g' w' H1)(hF:Near n q w' F):HeapR T (g.home g' w' n q) F H where
 objs id cs hc:=by
  obtain⟨b,aI,h1,⟨h2,h3,h4⟩,h5,h6⟩:=hh.objs id cs hc;have aB:b<n:=by rw[hW.size];exact h4.lt
  obtain⟨k1,k2,k3⟩:=JL (g':=g') hW hq hs he hF aB;exact⟨b,aI,h1,⟨k1.trans h2,k2.trans h3,h4.congr k3⟩,Vs.mono (WR (ae:=0) hh hW hq hs he hF) h5,h6⟩
 ob id b hb:=hh.ob id b hb
 fresh b hb:=by
  have jD:w'.heap.size<=b:=fT hF.size hb;obtain⟨h1,h2⟩:=hh'.fresh b jD;have:=he.size;have:=hW.size;refine⟨?_,by simp[Gh.home,Gh.thaw,h1,h2]⟩;simp only[Gh.home];rw[aF (by omega),aF (by omega)];simp[Gh.thaw,h1]
 gl b x hb:=by
  obtain⟨k1,k2⟩:=hh.gl b x hb;have aB:b<n:=by rw[hW.size];exact(rz.1 k2).1
  obtain⟨j1,_,j3⟩:=JL (g':=g') hW hq hs he hF aB;exact⟨j1.trans k1,j3.trans k2⟩
theorem zoi{H1:aj}(hh:HeapR T g w H)(hW:Grown n w W)(hq:n<=q)(hs:W.heap.size=q+1)(he:Ext 0 (g.alone q) W g' w')(hh':HeapR T g' w' H1)(hF:Near n q w' F):Ext 0 { g'.thaw 0 w' with own:=(g.home g' w' n q).own } w' (g.home g' w' n q) F where
 size:=hF.size
 S _:=aX _
 cell b o ho:=by
  have hn:¬(n<=b∧b<q):=fun⟨h1,h2⟩=>by
   have:=zoh hs hh hW he h1 h2;simp only at ho;omega
  have hb:b<w'.heap.size:=by
   rcases kY b w'.heap.size with h|h
   ·exact h
   ·obtain⟨h1,h2⟩:=hh'.fresh b h;simp only[Gh.thaw,h1,h2]at ho;omega
  simp only[World.cell?,hF.block b hb (by omega)]
 ob id b h:=by simp[Gh.thaw]at h
 shape:=hF.shape
 kept b hb:=by
  refine⟨hb,rfl,?_⟩;have hn:¬(n<=b∧b<q):=fun⟨h1,h2⟩=>by
   simp only[Gh.home]at hb;rw[aF (by omega),aS h2]at hb;cases hb
  have aB:b<w'.heap.size:=by
   rcases kY b w'.heap.size with h|h
   ·exact h
   ·obtain⟨h1,h2⟩:=hh'.fresh b h;have:=he.size;have:=hW.size;simp only[Gh.home]at hb;rw[aF (by omega),aF (by omega)]at hb;simp[Gh.thaw,h1]at hb
  exact hF.block b aB (by omega)
 low _ _ hi:=absurd hi (Nat.not_lt_zero _)
 os:=hF.os
 out:=hF.out
end
end Go.Ak
