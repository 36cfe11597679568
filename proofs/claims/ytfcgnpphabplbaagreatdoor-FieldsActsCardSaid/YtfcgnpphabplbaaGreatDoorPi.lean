/- strings.Split, Join, FieldsFunc, a record's resize and both Chars told by functions of their own. -/
import Derived.Test.YtfcgnpphabplbaaGreatDoorPh
import Derived.Shelf.Strings.Split
import Derived.Shelf.Strings.OnBuilder
import Derived.Lib.SplitLaws
import Derived.Shelf.Strings.FieldsFuncGrows
import Derived.Test.YtfcgnpphabplbaaGreatDoorPd
import Derived.Laws.CopyRow
import Derived.Laws.CopyOwn
set_option linter.unusedVariables false
set_option linter.unusedSimpArgs false
namespace Go.Ak
def Co(gX:Nat->CallF)(id ai:Nat)(s:List UInt8)(H:aj)(ax:Int):Option (Int×Int×Bool):=
 match gX H.length 43 [.ptr id ai,.str s,.int .i64 ax] H with
 |some (.ret (.tup [.int .i64 f,.int .i64 t,.bool b]),_)=>some (f,t,b)
 |_=>none
def MG(x:Int×Int):AV:=.agg [.int .i64 x.1,.int .i64 x.2]
def QS:List (Int×Int)->AV
 | []=>.nils
 |x::l=>.slc .ro ((x::l).map MG)
def BG(n:Nat)(gX:Nat->CallF)(xs:List AV)(H:aj):Option (Out×aj):=
 match xs with
 | [.ptr id ai,.str s]=>match jL (Co gX id ai s H) s.length n 0 (-1)with
  |some l=>bif Nat.ble l.length 1000000 then some (.ret (QS l),H)else none
  |none=>none
 |_=>none
theorem QQ{f g:Int->Option (Int×Int×Bool)}(h:∀a r,f a=some r->g a=some r){len:Int}:∀(n m:Nat)(ax bQ:Int)(l:List (Int×Int)),n<=m->jL f len n ax bQ=some l->jL g len m ax bQ=some l
 |0,_,_,_,_,_,e=>by simp[jL]at e
 |n+1,0,_,_,_,hl,_=>by omega
 |n+1,m+1,ax,bQ,l,hl,e=>by
  simp only[jL]at e ⊢;cases hd:decide (ax<=len)<;>rw[hd]at e<;>simp only[bA,fq]at e ⊢
  ·exact e
  ·cases hf:f ax with
   |none=>simp[hf]at e
   |some q=>
    obtain⟨a,b,c⟩:=q;rw[h _ _ hf];simp only[hf]at e ⊢;cases c<;>simp only[bA,fq]at e ⊢
    ·exact e
    ·cases hs:(decide (a=b)&&decide (a=bQ))<;>rw[hs]at e<;>simp only[bA,fq]at e ⊢
     ·cases hr:jL f len n b b with
      |none=>simp[hr]at e
      |some r=>
       rw[QQ h n m b b r (by omega) hr];simpa[hr]using e
     ·exact QQ h n m _ _ l (by omega) e
theorem zoP{c d:Nat->CallF}(h:∀b,CallF.le (c b) (d b))(id ai:Nat)(s:List UInt8)(H:aj)(a:Int)(r)(e:Co c id ai s H a=some r):Co d id ai s H a=some r:=by
 unfold Co at e ⊢;cases hr:c H.length 43 [.ptr id ai,.str s,.int .i64 a] H with
 |none=>rw[hr]at e;cases e
 |some q=>rw[h _ _ _ _ _ hr];rw[hr]at e;exact e
theorem zcf{n m:Nat}{c d:Nat->CallF}(hn:n<=m)(h:∀b,CallF.le (c b) (d b))(xs:List AV)(H:aj)(r:Out×aj)(e:BG n c xs H=some r):BG m d xs H=some r:=by
 unfold BG at e ⊢;split at e
 ·rename_i id ai s;split at e
  ·rename_i l hl;rw[QQ (fun a r=>zoP h id ai s H a r) n m 0 (-1) l hn hl];exact e
  ·cases e
 ·cases e
def Gh.later(g:Gh)(W:World):Gh where
 ob:=g.ob
 S:=g.S
 own b:=if b<W.heap.size then(match g.own b with
  | .obj id=>if g.ob id=some b then .obj id else .kept
  |_=>.kept)else .free
section
variable {T:Tr} {ae:Nat} {g:Gh} {w W:World} {H:aj}
theorem Fb(hh:HeapR T g w H)(hW:RowKit.Below w.heap.size w W):Ext ae g w (g.later W) W:=by
 have lt:∀b,g.own b ≠ .free->b<w.heap.size:=fun b hb=>Ah hh hb;refine⟨hW.size,fun _=>aX _,fun b o ho=>?_,fun _ _ h=>h,fun b x hx=>?_,fun b hb=>?_,fun id b _ hob hb=>?_,hW.os,by rw[hW.output,hW.tape]⟩
 ·have hb:b<w.heap.size:=by
   rcases kY b w.heap.size with h|h
   ·exact h
   ·rw[(hh.fresh b h).2]at ho;omega
  simp only[World.cell?,hW.block b hb]
 ·have hb:b<w.heap.size:=by
   rcases kY b w.heap.size with h|h
   ·exact h
   ·simp[World.shape?,xK h]at hx
  simp only[World.shape?,hW.block b hb]at hx ⊢;exact hx
 ·have aB:=lt b (by rw[hb];simp);have:=hW.size;exact⟨by simp only[Gh.later];rw[aS (by omega),hb],rfl,hW.block b aB⟩
 ·have aB:=lt b (by rw[hb];simp);have:=hW.size;exact⟨by simp only[Gh.later];rw[aS (by omega),hb];simp[hob],rfl,hW.block b aB⟩
theorem MK(hh:HeapR T g w H)(hW:RowKit.Below w.heap.size w W):HeapR T (g.later W) W H where
 objs id cs hc:=by
  obtain⟨b,aI,h1,⟨h2,h3,h4⟩,h5,h6⟩:=hh.objs id cs hc;obtain⟨k1,k2,k3⟩:=(Fb (ae:=id+1) hh hW).low id b (LF _) h1 h2;exact⟨b,aI,h1,⟨k1,k2.trans h3,h4.congr k3⟩,Vs.mono (Fb (ae:=0) hh hW) h5,h6⟩
 ob id b hb:=hh.ob id b hb
 fresh b hb:=by
  have:=hW.size;exact⟨by simp only[Gh.later];rw[aF (by omega)],(hh.fresh b (by omega)).2⟩
 gl b x hb:=by
  obtain⟨k1,k2⟩:=hh.gl b x hb;obtain⟨j1,_,j3⟩:=(Fb (ae:=0) hh hW).kept b k1;exact⟨j1,j3.trans k2⟩
theorem znV{g':Gh}{W':World}(hh:HeapR T g w H)(he:Ext H.length (g.later W) W g' W'):RowKit.Below W.heap.size W W':=by
 have ho:W'.output=W.output∧W'.tape=W.tape:=by simpa using he.out
 refine⟨he.os,ho.2,ho.1,he.size,fun b hb=>?_⟩;cases hk:(g.later W).own b with
 |kept=>exact(he.kept b hk).2.2
 |obj id=>
  have hob:g.ob id=some b:=by
   simp only[Gh.later]at hk;rw[aS hb]at hk;split at hk
   ·split at hk
    ·cases hk;assumption
    ·cases hk
   ·cases hk
  exact(he.low id b (hh.ob id b hob) hob hk).2.2
 |_=>
  simp only[Gh.later]at hk;rw[aS hb]at hk;split at hk
  ·split at hk<;>cases hk
  ·cases hk
end
end Go.Ak
namespace Go.Proofs.YtfcgnpphabplbaaGreatDoor
open Go.Ak
section
variable {G:Nat->Option Obj} {ae n:Nat} {xs:List AV} {H H':aj} {out:Out}
theorem zoM{gX:Nat->CallF}(hr:o9 (cZ G) H.length (gX H.length)){g:Gh}{w:World}(hh:HeapR (cZ G) g w H){id ai:Nat}{pv:Value}(hp:V (cZ G) g w (.ptr id ai) pv)(s:List UInt8):
  Finds w pv ⟨s.toArray⟩ (Co gX id ai s H):=by
 intro W hW ax f t b hf;unfold Co at hf;split at hf
 ·rename_i f' t' b' H1 dA;simp only[aD,eU]at hf;obtain⟨rfl,rfl,rfl⟩:=hf;have hA:ArgsV (cZ G) (g.later W) W 0 [.ptr id ai,.str s,.int .i64 ax] [pv,.string ⟨s.toArray⟩,.int .i64 ax]:=
   .cons _ _ _ _ _ (SV.of_V (V.mono (Fb (ae:=0) hh hW) hp)) (.cons _ _ _ _ _ (SV.of_V (.str s)) (.cons _ _ _ _ _ (SV.of_V (.int _ _)) (.nil _)))
  refine((hr _ _ _ _ _ dA).2 _ _ _ (MK hh hW) hA).mono fun e W' hq=>?_;cases e with
  |returned v=>
   obtain⟨g',a,ea,e1,e2,e3⟩:=hq;simp only[Out.ret.injEq]at ea;subst ea;obtain⟨cs,aH,rfl⟩:=V.tup_inv (show V _ _ _ (.tup [.int .i64 f',.int .i64 t',.bool b']) v from e3);refine⟨?_,znV hh e1⟩;cases aH with
   |cons _ _ _ _ k1 k2=>
    cases k2 with
    |cons _ _ _ _ k3 k4=>
     cases k4 with
     |cons _ _ _ _ k5 k6=>
      cases k6;have q1:=V.int_inv k1;have q2:=V.int_inv k3;have q3:=V.bool_inv k5;subst q1 q2 q3;rfl
  |panicked ch=>
   obtain⟨_,_,_,_,h1,_⟩:=hq;cases h1
  |outgrown=>exact hq.elim
 ·cases hf
theorem zc9:∀(l:List (Int×Int)){T:Tr}{g:Gh}{w:World},Vs T g w (cz (l.map MG)) (l.flatMap Ab)
 | [],_,_,_=>.nil
 |x::l,T,g,w=>by
  simp only[mE,cz,lq];exact .cons _ _ _ _ (.int _ _) (.cons _ _ _ _ (.int _ _) (zc9 l))
theorem zda:∀(l:List (Int×Int)),(l.flatMap Ab).length=l.length*2
 | []=>rfl
 |x::l=>by
  rw[lq,iF,zda l];simp[Ab];omega
theorem zl6:∀(l:List (Int×Int)),∀v∈l.flatMap Ab,v.oneCell'=true
 |l,v,h=>by
  obtain⟨x,_,hx⟩:=List.mem_flatMap.1 h;simp[Ab]at hx;rcases hx with rfl|rfl<;>rfl
theorem zkt{gX:Nat->CallF}(hr:∀ae,o9 (cZ G) ae (gX ae))(he:BG n gX xs H=some (out,H')){g:Gh}{w:World}{us:List Value}(hh:HeapR (cZ G) g w H)(ha:ArgsV (cZ G) g w 0 xs us):
  Calls Tryz.prog 45 us.toArray w (l7 (cZ G) ae g w out H'):=by
 unfold BG at he;split at he
 ·rename_i id ai s;obtain⟨u,v,rfl,hu,hv⟩:=zV ha;have:=V.str_inv (show V (cZ G) g w (.str s) v from hv);subst this;have hp:=(show V (cZ G) g w (.ptr id ai) u from hu)
  obtain⟨b,hb,rfl⟩:=V.ptr_inv hp;split at he
  ·rename_i l hl;cases bq:Nat.ble l.length 1000000 with
   |false=>simp[bq]at he
   |true=>
    simp only[bq,bA,aD,eU]at he;obtain⟨rfl,rfl⟩:=he;have fu:((⟨s.toArray⟩:ByteArray).size:Int)=s.length:=by simp[ByteArray.size]
    refine(callsIn_wide.1 (all_in 5 (by omega) _ ⟨s.toArray⟩ w _ (zoM (hr _) hh hp s) l n (by rw[fu];exact hl) (iy bq))).mono fun e w' hq=>?_;obtain⟨v,rfl,bz,rP,hB⟩:=hq;have gen:∀(q:Nat)(Sq:Nat),(w.heap.size<=q∧q<w'.heap.size)->∀(ae:Nat),Ext ae g w { ob:=g.ob,S:=fun b=>if b=q then Sq else g.S b,own:=fun b=>if b<w.heap.size then g.own b else .free } w'∧
      HeapR (cZ G) { ob:=g.ob,S:=fun b=>if b=q then Sq else g.S b,own:=fun b=>if b<w.heap.size then g.own b else .free } w' H:=fun q Sq hq ae=>by
     have lt:∀b,g.own b ≠ .free->b<w.heap.size:=fun b hb=>Ah hh hb;have hS:∀b,b<w.heap.size->(if b=q then Sq else g.S b)=g.S b:=fun b hb=>aF (by omega);have ext:∀ae,Ext ae g w { ob:=g.ob,S:=fun b=>if b=q then Sq else g.S b,own:=fun b=>if b<w.heap.size then g.own b else .free } w':=fun ae=>by
      refine⟨hB.size,fun b=>?_,fun b o ho=>?_,fun _ _ h=>h,fun b x hx=>?_,fun b hb=>?_,fun id b _ hob hb=>?_,hB.os,by rw[hB.output,hB.tape]⟩
      ·show g.S b<=if b=q then Sq else g.S b;by_cases e:b=q
       ·subst e;rw[(hh.fresh b hq.1).2];omega
       ·rw[aF e];exact aX _
      ·have hb:b<w.heap.size:=by
        rcases kY b w.heap.size with h|h
        ·exact h
        ·rw[(hh.fresh b h).2]at ho;omega
       simp only[World.cell?,hB.block b hb]
      ·have hb:b<w.heap.size:=by
        rcases kY b w.heap.size with h|h
        ·exact h
        ·simp[World.shape?,xK h]at hx
       simp only[World.shape?,hB.block b hb]at hx ⊢;exact hx
      ·have aB:=lt b (by rw[hb];simp);exact⟨by simp only;rw[aS aB];exact hb,hS b aB,hB.block b aB⟩
      ·have aB:=lt b (by rw[hb];simp);exact⟨by simp only;rw[aS aB];exact hb,hS b aB,hB.block b aB⟩
     refine⟨ext ae,hh.frame (ext 0) (fun b id hb=>?_) rfl (fun b hb=>?_)⟩
     ·have aB:=lt b (by rw[hb];simp);exact⟨by simp only;rw[aS aB];exact hb,hS b aB,hB.block b aB⟩
     ·have:=hB.size;refine⟨by simp only;rw[aF (by omega)],?_⟩;show(if b=q then Sq else g.S b)=0;rw[aF (by omega)];exact(hh.fresh b (by omega)).2
    obtain⟨r1,r2⟩:=bz;rcases r2 with⟨rfl,_⟩|⟨q,cap,cur,rfl,hq1,hq2,hq3,hq4,hq5,hq6⟩
    ·have hl0:=rP.1 rfl;subst hl0;exact⟨g.later w',_,rfl,Fb hh hB,MK hh hB,SV.of_V .nils⟩
    ·have hq:q<w'.heap.size:=(rz.1 hq2).1;obtain⟨x1,x2⟩:=gen q (l.length*2) ⟨hq1,hq⟩ ae;have aR:l ≠ []:=fun e=>by have:=rP.2 e;cases this
     obtain⟨y,l',rfl⟩:∃y l',l=y::l':=by cases l with|nil=>exact absurd rfl aR|cons y l'=>exact⟨y,l',rfl⟩
     refine⟨_,_,rfl,x1,x2,SV.of_V ?_⟩;simp only[QS];have e1:((y::l').map MG).length=(y::l').length:=by simp
     rw[←e1]at hq3 ⊢;refine V.slc _ q 0 ((y::l').flatMap Ab) 2 cap (fun k u hk=>?_) (zc9 _) (fun e he=>?_) (by omega) hq3
     ·have hkl:k<(y::l').length*2:=by
       have:=(eD.1 hk).1;rw[zda]at this;exact this
      refine⟨by simp only[jZ,fD];rw[e1];exact hkl,?_,zl6 _ u (jm hk)⟩;simp only[World.cell?,hq2,jZ];rw[←hq6,mP,aS hkl,mR]at hk;simpa using hk
     ·obtain⟨x,_,rfl⟩:=pg.1 he;rfl
  ·cases he
 ·cases he
end
end Go.Proofs.YtfcgnpphabplbaaGreatDoor
namespace Go.Ak
def Mr(n:Nat)(gX:Nat->CallF)(ae:Nat):CallF:=fun f xs H=>
 bif Nat.beq f 41 then zZ gX xs H else bif Nat.beq f 11 then BG n gX xs H else VX n gX ae f xs H
end Go.Ak
namespace Go.Proofs.YtfcgnpphabplbaaGreatDoor
open Go.Ak
theorem zkr{G:Nat->Option Obj}(hG:Bh G):Be (cZ G) ak Mr:=by
 intro n gX hr ae f xs H out H' hf he;unfold Mr at he;cases h41:Nat.beq f 41 with
 |true=>
  have:=dH h41;subst this;exact⟨by kernel_rfl,fun g w us hh ha=>zj8 (hr 0) (by exact he) hh ha⟩
 |false=>
  cases h11:Nat.beq f 11 with
  |true=>
   have:=dH h11;subst this;exact⟨by kernel_rfl,fun g w us hh ha=>zkt hr (by exact he) hh ha⟩
  |false=>
   simp only[h41,h11,fq]at he;exact zku hG n gX hr ae f xs H out H' hf he
end Go.Proofs.YtfcgnpphabplbaaGreatDoor
namespace Go.Ak
def xL:List AV->Option (List (List UInt8))
 | []=>some []
 | .str s::r=>match xL r with
  |some l=>some (s::l)
  |none=>none
 |_::_=>none
def Mg(xs:List AV)(H:aj):Option (Out×aj):=
 match xs with
 | [.str s,.str (c::t)]=>bif Nat.blt s.length 4294967281 then some (.ret (.slc .ro ((Lib.split s (c::t)).map AV.str)),H)else none
 |_=>none
def Mi(xs:List AV)(H:aj):Option (Out×aj):=
 match xs with
 | [.nils,.str _]=>some (.ret (.str []),H)
 | [.slc .ro es,.str t]=>match xL es with
  |some l=>bif Nat.ble l.length 1000000&&Nat.ble (Lib.join l t).length 1000000000 then some (.ret (.str (Lib.join l t)),H)else none
  |none=>none
 |_=>none
theorem VL:∀{es:List AV}{l:List (List UInt8)},xL es=some l->es=l.map AV.str
 | [],l,h=>by simp only[xL,aD]at h;subst h;rfl
 |a::r,l,h=>by
  cases a
  case str s=>
   simp only[xL]at h;split at h
   ·rename_i l' hl;simp only[aD]at h;subst h;rw[mE,←VL hl]
   ·cases h
  all_goals (simp only[xL]at h;cases h)
theorem VM:∀l:List (List UInt8),xL (l.map AV.str)=some l
 | []=>rfl
 |x::l=>by simp[xL,VM l]
section
variable {T:Tr} {ae:Nat} {g:Gh} {w w':World} {H:aj}
theorem Ri(hh:HeapR T g w H)(hB:RowKit.Below w.heap.size w w')(q Sq:Nat)(hq:w.heap.size<=q∧q<w'.heap.size):Ext ae g w { ob:=g.ob,S:=fun b=>if b=q then Sq else g.S b,own:=fun b=>if b<w.heap.size then g.own b else .free } w'∧
  HeapR T { ob:=g.ob,S:=fun b=>if b=q then Sq else g.S b,own:=fun b=>if b<w.heap.size then g.own b else .free } w' H:=by
 have lt:∀b,g.own b ≠ .free->b<w.heap.size:=fun b hb=>Ah hh hb;have hS:∀b,b<w.heap.size->(if b=q then Sq else g.S b)=g.S b:=fun b hb=>aF (by omega);have ext:∀ae,Ext ae g w { ob:=g.ob,S:=fun b=>if b=q then Sq else g.S b,own:=fun b=>if b<w.heap.size then g.own b else .free } w':=fun ae=>by
  refine⟨hB.size,fun b=>?_,fun b o ho=>?_,fun _ _ h=>h,fun b x hx=>?_,fun b hb=>?_,fun id b _ hob hb=>?_,hB.os,by rw[hB.output,hB.tape]⟩
  ·show g.S b<=if b=q then Sq else g.S b;by_cases e:b=q
   ·subst e;rw[(hh.fresh b hq.1).2];omega
   ·rw[aF e];exact aX _
  ·have hb:b<w.heap.size:=by
    rcases kY b w.heap.size with h|h
    ·exact h
    ·rw[(hh.fresh b h).2]at ho;omega
   simp only[World.cell?,hB.block b hb]
  ·have hb:b<w.heap.size:=by
    rcases kY b w.heap.size with h|h
    ·exact h
    ·simp[World.shape?,xK h]at hx
   simp only[World.shape?,hB.block b hb]at hx ⊢;exact hx
  ·have aB:=lt b (by rw[hb];simp);exact⟨by simp only;rw[aS aB];exact hb,hS b aB,hB.block b aB⟩
  ·have aB:=lt b (by rw[hb];simp);exact⟨by simp only;rw[aS aB];exact hb,hS b aB,hB.block b aB⟩
 refine⟨ext ae,hh.frame (ext 0) (fun b id hb=>?_) rfl (fun b hb=>?_)⟩
 ·have aB:=lt b (by rw[hb];simp);exact⟨by simp only;rw[aS aB];exact hb,hS b aB,hB.block b aB⟩
 ·have:=hB.size;refine⟨by simp only;rw[aF (by omega)],?_⟩;show(if b=q then Sq else g.S b)=0;rw[aF (by omega)];exact(hh.fresh b (by omega)).2
theorem Md:∀(l:List (List UInt8)),Vs T g w (cz (l.map AV.str)) (l.map fun x=>Value.string ⟨x.toArray⟩)
 | []=>.nil
 |x::l=>.cons _ _ _ _ (.str _) (Md l)
theorem zbs:∀(l:List (List UInt8)){us:List Value},Vs T g w (cz (l.map AV.str)) us->us=l.map fun x=>Value.string ⟨x.toArray⟩
 | [],us,h=>by cases h;rfl
 |x::l,us,h=>by
  cases h with
  |cons _ _ u vs h1 h2=>
   have e:=V.str_inv h1;rw[e,zbs l h2];rfl
end
end Go.Ak
namespace Go.Proofs.YtfcgnpphabplbaaGreatDoor
open Go.Ak
theorem hi9:(Tryz.prog.info? (Tryz.lays146_ren.t 9)).map (fun i=>(i.zero,i.size,i.bytes))=some (some (.string ByteArray.empty),1,16):=by kernel_rfl
theorem sameG:Tryz.lays146_ren.g 1=Tryz.lays219_ren.g 1:=by kernel_rfl
section
variable {G:Nat->Option Obj} {ae:Nat} {xs:List AV} {H H':aj} {out:Out}
theorem zj5(hG:Bh G)(he:Mg xs H=some (out,H')){g:Gh}{w:World}{us:List Value}(hh:HeapR (cZ G) g w H)(ha:ArgsV (cZ G) g w 0 xs us):
  Calls Tryz.prog 39 us.toArray w (l7 (cZ G) ae g w out H'):=by
 unfold Mg at he;split at he
 ·rename_i s c t;obtain⟨u,v,rfl,hu,hv⟩:=zV ha;have:=V.str_inv (show V (cZ G) g w (.str s) u from hu);subst this;have:=V.str_inv (show V (cZ G) g w (.str (c::t)) v from hv);subst this;cases hl:Nat.blt s.length 4294967281 with
  |false=>simp[hl]at he
  |true=>
   simp only[hl,bA,aD,eU]at he;obtain⟨rfl,rfl⟩:=he;obtain⟨m,cc,ty,fz,hg,hc⟩:=hG;obtain⟨_,hw⟩:=hh.gl _ _ (show(cZ G).gl _=_ from hg);have hs:(⟨s.toArray⟩:ByteArray).size<4294967281:=by
    have:s.length<4294967281:=by simpa[Bn]using hl
    simpa[ByteArray.size]using this
   have sQ:w.cell? ⟨Tryz.lays146_ren.g 1,0,none⟩=some (.int .i64 m):=by rw[sameG];simpa[World.cell?,hw]using hc
   have h1:1<=(⟨(c::t).toArray⟩:ByteArray).size:=by simp[ByteArray.size]
   refine(Any.strings_Split Tryz.lays146 hi9 ⟨s.toArray⟩ ⟨(c::t).toArray⟩ m w hs sQ h1).mono fun e w' ⟨he,hw'⟩=>?_;subst he;have hB:RowKit.Below w.heap.size w w':=by rw[hw'];exact(RowKit.Below.refl _ w).alloc (aX _) _
   have hdata:=Lib.splitB_data ⟨(c::t).toArray⟩ 0 (Lib.countB ⟨s.toArray⟩ ⟨(c::t).toArray⟩) ⟨s.toArray⟩;have bq:=Lib.splitB_all ⟨(c::t).toArray⟩ h1 0 _ ⟨s.toArray⟩ rfl;have jw:Lib.splitK (⟨(c::t).toArray⟩:ByteArray).data.toList 0 (Lib.countB ⟨s.toArray⟩ ⟨(c::t).toArray⟩) (⟨s.toArray⟩:ByteArray).data.toList=Lib.split s (c::t):=by
    unfold Lib.split;simp[Lib.countB]
   rw[jw]at hdata;generalize hbs:Lib.splitB ⟨(c::t).toArray⟩ 0 (Lib.countB ⟨s.toArray⟩ ⟨(c::t).toArray⟩) ⟨s.toArray⟩=bs at *;rw[←bq];have hvals:bs.map Value.string=(Lib.split s (c::t)).map fun x=>Value.string ⟨x.toArray⟩:=by
    rw[←hdata,Jg];exact Bp fun x _=>by simp
   have iV:(Lib.split s (c::t)).length=bs.length:=by rw[←hdata,pX]
   have fu:w'.heap.size=w.heap.size+1:=by rw[hw'];simp
   have hblk:w'.heap[w.heap.size]?=some (.cells (bs.map Value.string).toArray (Tryz.lays146_ren.t 9) (0,0)):=by rw[hw'];exact Qk
   obtain⟨x1,x2⟩:=Ri (ae:=ae) hh hB w.heap.size bs.length ⟨aX _,by omega⟩;refine⟨_,_,rfl,x1,x2,SV.of_V ?_⟩;have e1:((Lib.split s (c::t)).map AV.str).length=bs.length:=by rw[pX,iV]
   rw[←e1];refine V.slc _ w.heap.size 0 ((Lib.split s (c::t)).map fun x=>Value.string ⟨x.toArray⟩) 1 _ (fun k u hk=>?_) (Md _) (fun e he=>?_) (by omega) (aX _)
   ·have hkl:k<bs.length:=by
     have:=(eD.1 hk).1;simp only[pX]at this;omega
    refine⟨by simp only[jZ,fD];rw[e1];exact hkl,?_,?_⟩
    ·simp only[World.cell?,hblk,jZ];rw[hvals];simpa using hk
    ·have:=jm hk;obtain⟨x,_,rfl⟩:=pg.1 this;rfl
   ·obtain⟨x,_,rfl⟩:=pg.1 he;rfl
 ·cases he
end
end Go.Proofs.YtfcgnpphabplbaaGreatDoor
namespace Go.Proofs.YtfcgnpphabplbaaGreatDoor
open Go.Ak
theorem XC:Builder.Extra Tryz.prog Tryz.lays156_ren where
 sizeBuilder:=by kernel_rfl
 liesBuilder:=by kernel_rfl
 t5:=Tryz.underlying5
 a5:=Tryz.isAgg5
 z5:=Tryz.sizeOf5
 v5:=Tryz.zeroValue5
 infoByte:=by kernel_rfl
 cellsByte:=by kernel_rfl
 sizeByte:=by kernel_rfl
 neB5:=Jd (by kernel_rfl)
section
variable {G:Nat->Option Obj} {ae:Nat} {xs:List AV} {H H':aj} {out:Out}
theorem zkc(he:Mi xs H=some (out,H')){g:Gh}{w:World}{us:List Value}(hh:HeapR (cZ G) g w H)(ha:ArgsV (cZ G) g w 0 xs us):
  Calls Tryz.prog 102 us.toArray w (l7 (cZ G) ae g w out H'):=by
 unfold Mi at he;split at he
 ·rename_i t;obtain⟨u,v,rfl,hu,hv⟩:=zV ha;have:=V.str_inv (show V (cZ G) g w (.str t) v from hv);subst this;have:=V.nils_inv (show V (cZ G) g w .nils u from hu);subst this;simp only[aD,eU]at he;obtain⟨rfl,rfl⟩:=he;refine(Any.strings_Join_none Tryz.lays156 XC none 0 ⟨t.toArray⟩ w).mono fun e w' ⟨he,hw⟩=>?_;subst he;subst hw;exact⟨g,_,rfl,.refl _ _ _,hh,SV.of_V (.str [])⟩
 ·rename_i es t;split at he
  ·rename_i l hl;obtain⟨u,v,rfl,hu,hv⟩:=zV ha;have:=V.str_inv (show V (cZ G) g w (.str t) v from hv);subst this;have dz:=VL hl;subst dz;obtain⟨_,b,o,vs,st,cap,h1,h2,h3,h4,h5,rfl⟩:=V.slc_inv (show V (cZ G) g w (.slc .ro (l.map AV.str)) u from hu);have hvs:=zbs l h2;cases hb:(Nat.ble l.length 1000000&&Nat.ble (Lib.join l t).length 1000000000)with
   |false=>simp[hb]at he
   |true=>
    simp only[hb,bA,aD,eU]at he;obtain⟨rfl,rfl⟩:=he;rw[aU]at hb;have hb1:=iy hb.1;have jG:=iy hb.2;have hln:(l.map AV.str).length=(l.map fun x=>(⟨x.toArray⟩:ByteArray)).length:=by simp
    have hmap:(l.map fun x=>(⟨x.toArray⟩:ByteArray)).map (·.data.toList)=l:=by
     rw[Jg];conv=>rhs;rw[←List.map_id l]
     exact Bp fun x _=>by simp
    cases l with
    |nil=>
     refine(Any.strings_Join_none Tryz.lays156 XC _ cap ⟨t.toArray⟩ w).mono fun e w' ⟨he,hw⟩=>?_;subst he;subst hw;exact⟨g,_,rfl,.refl _ _ _,hh,SV.of_V (.str [])⟩
    |cons x l'=>
     have sQ:∀(j:Nat) y,((x::l').map fun x=>(⟨x.toArray⟩:ByteArray))[j]?=some y->w.cell? ⟨b,o+j,none⟩=some (.string y):=fun j y hy=>by
      have:vs[j]?=some (.string y):=by
       rw[hvs];rw[xH]at hy ⊢;cases hq:(x::l')[j]? with
       |none=>rw[hq]at hy;cases hy
       |some z=>rw[hq]at hy;simp only[Qa,aD]at hy ⊢;rw[hy]
      exact(h1 j _ this).2.1
     have hbk:b<w.heap.size:=World.block_lt_of_cell? _ _ (sQ 0 _ rfl);rw[hln];refine(Any.strings_Join Tryz.lays156 XC b o cap _ ⟨t.toArray⟩ w sQ hbk (by rw[pX];omega) (by rw[←hln];exact h5) (by rw[hmap];show(Lib.join (x::l') t).length<=_;omega)).mono fun e w' ⟨he,hw⟩=>?_;subst he;rw[hmap];exact⟨g.later w',_,rfl,Fb hh hw,MK hh hw,SV.of_V (.str _)⟩
  ·cases he
 ·cases he
end
end Go.Proofs.YtfcgnpphabplbaaGreatDoor
namespace Go.Ak
def Mq(n:Nat)(gX:Nat->CallF)(ae:Nat):CallF:=fun f xs H=>
 bif Nat.beq f 182 then Mg xs H else bif Nat.beq f 202 then Mi xs H else Mr n gX ae f xs H
end Go.Ak
namespace Go.Proofs.YtfcgnpphabplbaaGreatDoor
open Go.Ak
theorem zkp{G:Nat->Option Obj}(hG:Bh G):Be (cZ G) ak Mq:=by
 intro n gX hr ae f xs H out H' hf he;unfold Mq at he;cases h1:Nat.beq f 182 with
 |true=>
  have:=dH h1;subst this;exact⟨by kernel_rfl,fun g w us hh ha=>zj5 hG (by exact he) hh ha⟩
 |false=>
  cases h2:Nat.beq f 202 with
  |true=>
   have:=dH h2;subst this;exact⟨by kernel_rfl,fun g w us hh ha=>zkc (by exact he) hh ha⟩
  |false=>
   simp only[h1,h2,fq]at he;exact zkr hG n gX hr ae f xs H out H' hf he
end Go.Proofs.YtfcgnpphabplbaaGreatDoor
namespace Go.Ak
def Mj(xs:List AV)(H:aj):Option (Out×aj):=
 match xs with
 | [.str s,.fn 190 []]=>bif Nat.ble s.length 4294967296 then some (.ret (.slc .ro ((lM s).map AV.str)),H)else none
 |_=>none
end Go.Ak
namespace Go.Proofs.YtfcgnpphabplbaaGreatDoor
open Go.RowKit Go.Lib Go.Ak
set_option maxHeartbeats 1000000 in
set_option maxRecDepth 100000 in
theorem Tryz.sIndexByte(s:ByteArray)(c:Int)(w:World):
  Calls Tryz.prog 64 #[.string s,.int .u8 c] w fun e w'=>e=.returned (.int .i64 (Lib.indexByte s.data.toList c.toNat.toUInt8))∧w'=w:=by
 have mixed:Tryz.prog.follows .mixedOrders=true:=by kernel_rfl
 have e126:∀args w,(callFunc 90 args).run Tryz.prog w=.ok (.enter 90 args) w:=enters_of Tryz.func90 (by kernel_rfl) rfl;go_enter Tryz.func64,Tryz.ntmps64
 go_wp2_with (go_at_fn 90;refine(Tryz.indexByte _ _ _).mono ?_;rintro e w' ⟨rfl,rfl⟩)
 go_ret
 exact⟨rfl,rfl⟩
set_option maxHeartbeats 1000000 in
set_option maxRecDepth 100000 in
theorem Tryz.words1(x:Nat)(hx:x<=1114111)(w:World):
  Calls Tryz.prog 63 #[.int .i32 x] w fun e w'=>e=.returned (.bool (wF x))∧w'=w:=by
 have mixed:Tryz.prog.follows .mixedOrders=true:=by kernel_rfl
 have e198:∀args w,(callFunc 64 args).run Tryz.prog w=.ok (.enter 64 args) w:=enters_of Tryz.func64 (by kernel_rfl) rfl;by_cases h:(x:Int)<128
 ·have hn:x<128:=by omega
  have hw:IntKind.u8.wrap (x:Int)=x:=by simp[IntKind.wrap,IntKind.bits,IntKind.signed];omega
  go_enter Tryz.func63,Tryz.ntmps63
  go_wp2_with (go_at_fn 64;refine(Tryz.sIndexByte _ _ _).mono ?_;rintro e w' ⟨rfl,rfl⟩)
  all_goals
   go_ret
   refine⟨?_,rfl⟩;simp[wF,hn,hw]
 ·have hn:¬x<128:=by omega
  go_enter Tryz.func63,Tryz.ntmps63
  go_wp2
  all_goals
   go_ret
   exact⟨by simp[wF,hn],rfl⟩
end Go.Proofs.YtfcgnpphabplbaaGreatDoor
namespace Go.Proofs.YtfcgnpphabplbaaGreatDoor
open Go.RowKit Go.Lib Go.Ak
section
variable {G:Nat->Option Obj} {ae:Nat} {xs:List AV} {H H':aj} {out:Out}
theorem hi154:(Tryz.prog.info? (Tryz.lays229_ren.t 154)).map (fun i=>(i.zero,i.size,i.bytes))=some (some (.agg #[.int .i64 0,.int .i64 0]),2,16):=by kernel_rfl
theorem hi9F:(Tryz.prog.info? (Tryz.lays229_ren.t 9)).map (fun i=>(i.zero,i.size,i.bytes))=some (some (.string ⟨#[]⟩),1,16):=by kernel_rfl
theorem zkg(he:Mj xs H=some (out,H')){g:Gh}{w:World}{us:List Value}(hh:HeapR (cZ G) g w H)(ha:ArgsV (cZ G) g w 0 xs us):
  Calls Tryz.prog 62 us.toArray w (l7 (cZ G) ae g w out H'):=by
 unfold Mj at he;split at he
 ·rename_i s;obtain⟨u,v,rfl,hu,hv⟩:=zV ha;have:=V.str_inv (show V (cZ G) g w (.str s) u from hu);subst this;obtain⟨us,hus,rfl⟩:=V.fn_inv (show V (cZ G) g w (.fn 190 []) v from hv);cases hus;cases hl:Nat.ble s.length 4294967296 with
  |false=>simp[hl]at he
  |true=>
   simp only[hl,bA,aD,eU]at he;obtain⟨rfl,rfl⟩:=he;have hs:(⟨s.toArray⟩:ByteArray).size<=4294967296:=iy hl;have eg:∀args w,(callFunc 63 args).run Tryz.prog w=.ok (.enter 63 args) w:=enters_of Tryz.func63 (by kernel_rfl) rfl;have hp:PredGrows Tryz.prog 63 #[] wF w:=fun W x hx _=>(Tryz.words1 x hx W).mono fun e w' ⟨he,hw⟩=>⟨he,hw▸Below.refl _ _⟩
   refine(Any.strings_FieldsFunc_grows Tryz.lays229 63 #[] eg wF ⟨s.toArray⟩ w hs hp hi154 hi9F).mono fun e w' ⟨A,he,hA,bz,hB⟩=>?_;subst he;have hdata:=zoQ s;generalize hbs:Lib.goFieldsP wF ⟨s.toArray⟩=bs at *;have hvals:bs.map Value.string=(lM s).map fun x=>Value.string ⟨x.toArray⟩:=by
    rw[←hdata,Jg];exact Bp fun x _=>by simp
   have iV:(lM s).length=bs.length:=by rw[←hdata,pX]
   obtain⟨r1,r2⟩:=bz;rcases r2 with⟨e,_⟩|⟨q,cap,cur,e,hq1,hq2,hq3,hq4,hq5,hq6⟩
   ·cases e
   ·cases e;have hq:A<w'.heap.size:=(rz.1 hq2).1;obtain⟨x1,x2⟩:=Ri (ae:=ae) hh hB A bs.length ⟨hA,hq⟩;refine⟨_,_,rfl,x1,x2,SV.of_V ?_⟩;have e1:((lM s).map AV.str).length=bs.length:=by rw[pX,iV]
    rw[←e1]at hq3 ⊢;refine V.slc _ A 0 ((lM s).map fun x=>Value.string ⟨x.toArray⟩) 1 _ (fun k u hk=>?_) (Md _) (fun e he=>?_) (by omega) hq3
    ·have hkl:k<bs.length:=by
      have:=(eD.1 hk).1;simp only[pX]at this;omega
     refine⟨by simp only[jZ,fD];rw[e1];exact hkl,?_,?_⟩
     ·simp only[World.cell?,hq2,jZ];rw[←hvals,←hq6,mP,aS (by omega),mR]at hk;simpa using hk
     ·have:=jm hk;obtain⟨x,_,rfl⟩:=pg.1 this;rfl
    ·obtain⟨x,_,rfl⟩:=pg.1 he;rfl
 ·cases he
end
end Go.Proofs.YtfcgnpphabplbaaGreatDoor
namespace Go.Proofs.YtfcgnpphabplbaaGreatDoor
open Go.RowKit Go.Lib Go.Ak
theorem WN:∃i,Tryz.prog.info? 9=some i∧i.zero=some (.string ⟨#[]⟩)∧i.size=1∧i.bytes=16:=by
 have h:(Tryz.prog.info? 9).map (fun i=>(i.zero,i.size,i.bytes))=some (some (.string ⟨#[]⟩),1,16):=by kernel_rfl
 cases hq:Tryz.prog.info? 9 with
 |none=>rw[hq]at h;cases h
 |some i=>rw[hq]at h;simp only[Qa,aD,eU]at h;exact⟨i,rfl,h.1,h.2⟩
theorem BC:Tryz.prog.underlying 24=some (.slice 9):=by kernel_rfl
def qo(n:Nat):Array Value:=(List.replicate n (Value.string ⟨#[]⟩)).toArray
theorem znD(n:Nat)(hn:n<=1000000)(w:World):(Instr.makeSlice 24 (.int .i64 n) (.int .i64 n)).run Tryz.prog w=.ok (.slice (some ⟨w.heap.size,0,none⟩) n n) (w.alloc (.cells (qo n) 9)):=by
 obtain⟨i9,hi9,hz,fu,hb⟩:=WN;have:=run_make (P:=Tryz.prog) w 24 9 i9 (.string ⟨#[]⟩) BC hi9 hz .i64 .i64 n n (by omega) (by omega) (by rw[hb];omega) (by omega);rw[this,fu];have hc:madeCells (Value.string ⟨#[]⟩).cells (n*1)=qo n:=by
  rw[F9];exact(Lib.cellsOf_nil n).symm.trans (by simp[Lib.cellsOf,qo];exact .inr rfl)
 simp only[Int.toNat_natCast];rw[hc]
set_option maxHeartbeats 2000000 in
set_option maxRecDepth 100000 in
theorem zcM(b ai n:Nat)(hn:n<=1000000)(w w2:World)(sv r:Value)(h0:w.cell? ⟨b,ai+1,none⟩=some sv)
  (hcp:(Builtin.copy_ #[24,24] 3 #[.slice (some ⟨w.heap.size,0,none⟩) n n,sv]).run Tryz.prog (w.alloc (.cells (qo n) 9))=.ok r w2) :
  Calls Tryz.prog 50 #[.pointer (some ⟨b,ai,none⟩),.int .i64 n] w fun e w'=>e=.returned (.slice (some ⟨w.heap.size,0,none⟩) n n)∧w'=w2:=by
 have mixed:Tryz.prog.follows .mixedOrders=true:=by kernel_rfl
 have hmk:=znD n hn w;have aB:=World.block_lt_of_cell? _ _ h0;have h1:(w.alloc (.cells (qo n) 9)).cell? ⟨b,ai+1,none⟩=some sv:=by rw[World.cell?_alloc_old _ _ _ (Nat.ne_of_lt aB)];exact h0
 generalize w.alloc (.cells (qo n) 9)=w1 at *;go_enter Tryz.func50,Tryz.ntmps50
 go_wp2
 go_ret
 exact⟨rfl,rfl⟩
end Go.Proofs.YtfcgnpphabplbaaGreatDoor
namespace Go.Ak
def fo(l:List (List UInt8))(n:Nat):List (List UInt8):=l.take n++List.replicate (n-l.length) []
def Jp(xs:List AV)(H:aj):Option (Out×aj):=
 match xs with
 | [.ptr id ai,.int .i64 n]=>bif decide (0<=n)&&decide (n<=1000000)then
   match H[id]? with
   |some (some cs)=>match cs[ai+1]? with
    |some .nils=>some (.ret (.slc .own ((fo [] n.toNat).map AV.str)),H)
    |some (.slc .ro es)=>match xL es with
     |some l=>some (.ret (.slc .own ((fo l n.toNat).map AV.str)),H)
     |none=>none
    |_=>none
   |_=>none
  else none
 |_=>none
section
variable {T:Tr} {ae:Nat} {g:Gh} {w w':World} {H:aj}
theorem zoE(hh:HeapR T g w H)(hB:RowKit.Below w.heap.size w w')(q:Nat)(hq:w.heap.size<=q∧q<w'.heap.size):
  Ext ae g w { ob:=g.ob,S:=g.S,own:=fun b=>if b<w.heap.size then g.own b else if b=q then .res else .free } w'∧
  HeapR T { ob:=g.ob,S:=g.S,own:=fun b=>if b<w.heap.size then g.own b else if b=q then .res else .free } w' H:=by
 have lt:∀b,g.own b ≠ .free->b<w.heap.size:=fun b hb=>Ah hh hb;have ext:∀ae,Ext ae g w { ob:=g.ob,S:=g.S,own:=fun b=>if b<w.heap.size then g.own b else if b=q then .res else .free } w':=fun ae=>by
  refine⟨hB.size,fun b=>aX _,fun b o ho=>?_,fun _ _ h=>h,fun b x hx=>?_,fun b hb=>?_,fun id b _ hob hb=>?_,hB.os,by rw[hB.output,hB.tape]⟩
  ·have hb:b<w.heap.size:=by
    rcases kY b w.heap.size with h|h
    ·exact h
    ·rw[(hh.fresh b h).2]at ho;omega
   simp only[World.cell?,hB.block b hb]
  ·have hb:b<w.heap.size:=by
    rcases kY b w.heap.size with h|h
    ·exact h
    ·simp[World.shape?,xK h]at hx
   simp only[World.shape?,hB.block b hb]at hx ⊢;exact hx
  ·have aB:=lt b (by rw[hb];simp);exact⟨by simp only;rw[aS aB];exact hb,rfl,hB.block b aB⟩
  ·have aB:=lt b (by rw[hb];simp);exact⟨by simp only;rw[aS aB];exact hb,rfl,hB.block b aB⟩
 refine⟨ext ae,hh.frame (ext 0) (fun b id hb=>?_) rfl (fun b hb=>?_)⟩
 ·have aB:=lt b (by rw[hb];simp);exact⟨by simp only;rw[aS aB];exact hb,rfl,hB.block b aB⟩
 ·have:=hB.size;exact⟨by simp only;rw[aF (by omega),aF (by omega)],(hh.fresh b (by omega)).2⟩
theorem zdd(hh:HeapR T g w H)(hB:RowKit.Below w.heap.size w w')(l:List (List UInt8))(ty:TypeId)(fu:w'.heap.size=w.heap.size+1)
  (hblk:w'.heap[w.heap.size]?=some (.cells (l.map fun x=>Value.string ⟨x.toArray⟩).toArray ty (0,0))) :
  ∃g',Ext ae g w g' w'∧HeapR T g' w' H∧SV T g' w' .res (.slc .own (l.map AV.str)) (.slice (some ⟨w.heap.size,0,none⟩) l.length l.length):=by
 obtain⟨x1,x2⟩:=zoE (ae:=ae) hh hB w.heap.size ⟨aX _,by omega⟩;have hb:blk w' w.heap.size (l.map fun x=>Value.string ⟨x.toArray⟩).toArray:=⟨⟨ty,(0,0),hblk⟩,fun k _=>by simp[World.frozen?,hblk],fun v hv=>by
  obtain⟨x,_,rfl⟩:=pg.1 (by simpa using hv);rfl⟩
 have hlm:(l.map AV.str).length=l.length:=pX ..;refine⟨_,x1,x2,w.heap.size,0,l.length,(l.map fun x=>Value.string ⟨x.toArray⟩).toArray,1,by rw[hlm],⟨by simp,(hh.fresh _ (aX _)).2,hb⟩,by simp,by simp,⟨by omega,fun e=>by simpa using dF List.length e⟩,fun e he=>?_,_,Md l,fun k v hk=>?_⟩
 ·obtain⟨x,_,rfl⟩:=pg.1 he;rfl
 ·rw[jZ];simpa using hk
end
end Go.Ak
namespace Go.Proofs.YtfcgnpphabplbaaGreatDoor
open Go.RowKit Go.Lib Go.Ak
section
variable {G:Nat->Option Obj} {ae:Nat} {xs:List AV} {H H':aj} {out:Out}
theorem zdb(l:List (List UInt8))(n:Nat):(fo l n).length=n:=by
 simp[fo];omega
theorem zqc(n:Nat):(qo n)=((fo [] n).map fun x=>Value.string ⟨x.toArray⟩).toArray:=by
 simp[qo,fo]
theorem zj6(he:Jp xs H=some (out,H')){g:Gh}{w:World}{us:List Value}(hh:HeapR (cZ G) g w H)(ha:ArgsV (cZ G) g w 0 xs us):
  Calls Tryz.prog 50 us.toArray w (l7 (cZ G) ae g w out H'):=by
 unfold Jp at he;split at he
 ·rename_i id ai n;obtain⟨u,v,rfl,hu,hv⟩:=zV ha;obtain⟨b,hb,rfl⟩:=V.ptr_inv (show V (cZ G) g w (.ptr id ai) u from hu);have:=V.int_inv (show V (cZ G) g w (.int .i64 n) v from hv);subst this;cases hn:(decide (0<=n)&&decide (n<=1000000))with
  |false=>simp[hn]at he
  |true=>
   simp only[hn,bA]at he;simp only[aU,ik]at hn;obtain⟨m,rfl⟩:∃m:Nat,n=m:=⟨n.toNat,by omega⟩
   have hm:m<=1000000:=by omega
   have hmt:((m:Int)).toNat=m:=by omega
   rw[hmt]at he;split at he
   ·rename_i cs hid;split at he
    ·rename_i hc;obtain⟨v,c1,c2,c3⟩:=hh.cell hb hid hc;have:=V.nils_inv c2;subst this;simp only[aD,eU]at he;obtain⟨rfl,rfl⟩:=he;have hcp:=run_copy_nil (P:=Tryz.prog) (w.alloc (.cells (qo m) 9)) 24 24 3 9 ⟨w.heap.size,0,none⟩ m m BC (by kernel_rfl);refine(zcM b ai m hm w _ _ _ c1 hcp).mono fun e w' ⟨he,hw⟩=>?_;subst he;have hB:Below w.heap.size w w':=by rw[hw];exact(Below.refl _ w).alloc (aX _) _
     obtain⟨g',x1,x2,x3⟩:=zdd (ae:=ae) hh hB (fo [] m) 9 (by rw[hw];simp) (by rw[hw,zqc];exact Qk);rw[zdb]at x3;exact⟨g',_,rfl,x1,x2,x3⟩
    ·rename_i es hc;split at he
     ·rename_i l hl;simp only[aD,eU]at he;obtain⟨rfl,rfl⟩:=he;obtain⟨v,c1,c2,c3⟩:=hh.cell hb hid hc;have dz:=VL hl;subst dz;obtain⟨_,b',o,vs,st,cap,h1,h2,h3,h4,h5,rfl⟩:=V.slc_inv c2;have hvs:=zbs l h2;rw[pX]at c1;have hsrc:∀j v,((l.take m).map fun x=>Value.string ⟨x.toArray⟩)[j]?=some v->(w.alloc (.cells (qo m) 9)).cell? ((⟨b',o,none⟩:Addr).add j)=some v:=fun j v hj=>by
       have hvj:vs[j]?=some v:=by
        rw[hvs,←hj,List.map_take,mP];have:j<m:=by
         have:=(eD.1 hj).1;simp at this;omega
        rw[aS this]
       have sQ:=(h1 j v hvj).2.1;have aB:=World.block_lt_of_cell? _ _ sQ;rw[Addr.add_lit,World.cell?_alloc_old _ _ _ (Nat.ne_of_lt aB)];exact sQ
      have hcp:=run_copy_row (P:=Tryz.prog) (w.alloc (.cells (qo m) 9)) 24 24 3 9 w.heap.size 0 m m ⟨b',o,none⟩ l.length cap (qo m) 9 ((l.take m).map fun x=>Value.string ⟨x.toArray⟩) BC (by kernel_rfl)
       Qk (by rw[pX,Bq];exact Nat.min_comm _ _) hsrc (by simp[qo];omega) (fun v hv=>by obtain⟨x,_,rfl⟩:=pg.1 hv;rfl)
      refine(zcM b ai m hm w _ _ _ c1 hcp).mono fun e w' ⟨he,hw⟩=>?_;subst he;have bz:((qo m).toList.take 0++((l.take m).map fun x=>Value.string ⟨x.toArray⟩)++(qo m).toList.drop (0+((l.take m).map fun x=>Value.string ⟨x.toArray⟩).length)).toArray=((fo l m).map fun x=>Value.string ⟨x.toArray⟩).toArray:=by
       have e1:(qo m).toList=List.replicate m (Value.string ⟨#[]⟩):=by simp[qo]
       have e2:m-min m l.length=m-l.length:=by omega
       rw[e1,xD,gV,jZ,List.drop_replicate,pX,Bq,e2];unfold fo;rw[LK,List.map_replicate]
      rw[bz]at hw;have hB:Below w.heap.size w w':=by rw[hw];exact below_setRow ((Below.refl _ w).alloc (aX _) _) (aX _) _
      obtain⟨g',x1,x2,x3⟩:=zdd (ae:=ae) hh hB (fo l m) 9 (by rw[hw];simp) (by rw[hw];exact setRow_heap _ _ _ _ _ _ Qk);rw[zdb]at x3;exact⟨g',_,rfl,x1,x2,x3⟩
     ·cases he
    ·cases he
   ·cases he
 ·cases he
end
end Go.Proofs.YtfcgnpphabplbaaGreatDoor
namespace Go.Ak
def Mm(n:Nat)(gX:Nat->CallF)(ae:Nat):CallF:=fun f xs H=>
 bif Nat.beq f 191 then Mj xs H else bif Nat.beq f 187 then Jp xs H else Mq n gX ae f xs H
end Go.Ak
namespace Go.Proofs.YtfcgnpphabplbaaGreatDoor
open Go.Ak
theorem zkl{G:Nat->Option Obj}(hG:Bh G):Be (cZ G) ak Mm:=by
 intro n gX hr ae f xs H out H' hf he;unfold Mm at he;cases h1:Nat.beq f 191 with
 |true=>
  have:=dH h1;subst this;exact⟨by kernel_rfl,fun g w us hh ha=>zkg (by exact he) hh ha⟩
 |false=>
  cases h2:Nat.beq f 187 with
  |true=>
   have:=dH h2;subst this;exact⟨by kernel_rfl,fun g w us hh ha=>zj6 (by exact he) hh ha⟩
  |false=>
   simp only[h1,h2,fq]at he;exact zkp hG n gX hr ae f xs H out H' hf he
end Go.Proofs.YtfcgnpphabplbaaGreatDoor
namespace Go.Proofs.YtfcgnpphabplbaaGreatDoor
open Go.RowKit Go.Lib Go.Ak
def BB(s:ByteArray)(l:List (Nat×Nat)):List Value:=l.map fun x=>.string (s.extract x.1 x.2)
theorem Qv(s:ByteArray)(l:List (Nat×Nat))(x:Nat×Nat):BB s (l ++[x])=BB s l ++[.string (s.extract x.1 x.2)]:=by simp[BB]
set_option maxHeartbeats 4000000 in
set_option maxRecDepth 1000000 in
theorem Tryz.chars(s:ByteArray)(w:World)(hs:s.size<=4294967296):
  Calls Tryz.prog 37 #[.string s] w fun e w'=> ∃v,e=.returned v∧w'.ownsRow w.heap.size 9 1 v (iA s s.size 0).length (BB s (iA s s.size 0))∧(v=.slice none 0 0↔iA s s.size 0=[])∧Below w.heap.size w w':=by
 have mixed:Tryz.prog.follows .mixedOrders=true:=by kernel_rfl
 obtain⟨i9,hi9,hz,fu,hb⟩:=WN;have t9:=Tryz.underlying9;have u9:=run_underlying t9;have u24:=run_underlying BC;go_enter Tryz.func37,Tryz.ntmps37
 go_wp2
 go_loopg [3,4] s.size (fun gf v3 v4 wx=> ∃(aZ bQ:Nat)(pre:List (Nat×Nat)),v4=.int .i64 (bQ:Int)∧wx.heap[w.heap.size]?=some (.stringIter s aZ)∧Below w.heap.size w wx∧wx.ownsRow w.heap.size 9 1 v3 pre.length (BB s pre)∧(v3=.slice none 0 0↔pre=[])∧
  s.size<=aZ+gf∧aZ<=s.size∧pre.length<=bQ∧((aZ=0∧pre=[]∧bQ=0∧gf=s.size)∨(bQ<aZ∧pre++(bQ,aZ)::iA s gf aZ=iA s s.size 0)))
 case atStart=>
  exact⟨0,0,[],rfl,World.iter_heap w s 0,(Below.refl _ w).alloc (aX _) _,World.ownsRow_nil _ _ _ _,by simp,by omega,jK _,aX _,.inl ⟨rfl,rfl,rfl,rfl⟩⟩
 case round=>
  obtain⟨aZ,bQ,pre,rfl,hit,jf,gP,rP,hfu,hps,hal,qN⟩:=hrel;have An:=(show Aside _ from rP)
  clear rP;by_cases aB:aZ<s.size
  ·obtain⟨g',rfl⟩:∃g',gk=g'+1:=⟨gk-1,by omega⟩
   have hnx:∀ty,(Instr.next (.pointer (some ⟨w.heap.size,0,none⟩)) true ty).run Tryz.prog wr=_:=fun ty=>Lib.run_next_any_at wr w.heap.size s aZ ty hit aB;obtain⟨hwd,hwn⟩:=Rs s aZ aB;obtain⟨R,hR⟩:∃R,(Utf8.decode s aZ).1=R:=⟨_,rfl⟩
   obtain⟨K,hK⟩:∃K,(Utf8.decode s aZ).2=K:=⟨_,rfl⟩
   have jw:iA s (g'+1) aZ=(aZ,aZ+K)::iA s g' (aZ+K):=by
    rw[iA,aS aB,hK]
   rw[hR,hK]at hnx;rw[hK]at hwd hwn;rw[jw]at qN;have hit2:=Lib.iterAt_heap wr w.heap.size s aZ (aZ+K) hit;have hbw2:=Lib.below_iterAt jf (k:=w.heap.size) (aX _) s (aZ+K);have Al:=own_iterAt gP hit (aZ+K);obtain⟨W,hWd⟩:∃W,wr.iterAt w.heap.size s (aZ+K)=W:=⟨_,rfl⟩
   rw[hWd]at hnx hit2 hbw2 Al;have hIT:w.heap.size<W.heap.size:=(rz.1 hit2).1;clear gP hit jf;rcases qN with⟨rfl,rfl,rfl,hg⟩|⟨hlp,qN⟩
   ·have A:Aside (iA s (g'+1) 0=(0,0+K)::iA s g' (0+K)):=jw;clear jw;have e0:((0:Nat):Int)=0:=rfl;go_wp2
    go_roundg g'
    case measure=>omega
    case rel=>
     rw[←hg];exact⟨0+K,0,[],rfl,hit2,hbw2,Al,⟨fun _=>rfl,fun _=>An.out.2 trivial⟩,by omega,by omega,aX _,.inr ⟨by omega,by rw[A.out];rfl⟩⟩
   ·have hp0:(0:Int)<(aZ:Int):=by omega
    have hlp1:(bQ:Int)<=(aZ:Int):=by omega
    have hps1:(aZ:Int)<=(s.size:Int):=by omega
    have A:Aside (pre++(bQ,aZ)::(aZ,aZ+K)::iA s g' (aZ+K)=iA s s.size 0):=qN;clear qN jw;go_wp2_with (at_builtin;go_must (refine wpList_append_own _ rfl (.tmp 13) (.tmp 18) 24 rfl w.heap.size 9 i9 (.string ⟨#[]⟩) 1 16 BC hi9 hz fu hb rfl (by decide) _ _ _ rfl (Al.alloc _) ⟨W.heap.size,0,none⟩ 1 1 [.string (s.extract bQ aZ)] rfl rfl (cell_one_new _ _ _) (by intro u hu;simp at hu;subst hu;rfl) (by unfold maxLen;omega) (by omega) (by have:=hbw2.size;simp;omega) ?_;intro v3 w3 qf mH xY))
    go_roundg g'
    case measure=>omega
    case rel=>
     have hX:=Al.alloc (.cells #[.string (s.extract bQ aZ)] 9);refine⟨aZ+K,aZ,pre ++[(bQ,aZ)],rfl,?_,?_,?_,?_,by omega,hwn,by simp;omega,.inr ⟨by omega,by rw[←A.out];simp⟩⟩
     ·exact(mH.block w.heap.size (by simp;omega) (own_ne_iter Al hit2)).trans ((Below.heap_alloc _ _ _ hIT).trans hit2)
     ·exact(hbw2.alloc hbw2.size _).grown mH (by have:=hbw2.size;simp;omega) (fun j hj=>(hX.lt j hj).1)
     ·rw[iF,Qv];exact qf
     ·constructor
      ·intro h;have:=(xY.1 h).2;omega
      ·intro h;simp at h
  ·obtain rfl:aZ=s.size:=by omega
   have hnx:∀ty,(Instr.next (.pointer (some ⟨w.heap.size,0,none⟩)) true ty).run Tryz.prog wr=_:=fun ty=>Lib.run_next_end_at wr w.heap.size s s.size ty hit aB;rcases qN with⟨h0,rfl,rfl,hg⟩|⟨hlp,qN⟩
   ·have hse:s=⟨#[]⟩:=by
     cases s with
     |mk d=>simp[ByteArray.size]at h0;rw[h0]
    subst hse;go_wp2
    go_ret
    exact⟨_,rfl,gP,⟨fun _=>rfl,fun _=>An.out.2 trivial⟩,jf⟩
   ·rw[zcd s gk _ aB]at qN;have aR:s.toList.isEmpty=false:=by
     rw[Lib.toList_data];cases hq:s.data.toList with
     |nil=>
      have h2:=dF List.length hq;rw[Qj]at h2;have h3:s.size=0:=h2;omega
     |cons _ _=>rfl
    have hlp1:(bQ:Int)<=(s.size:Int):=by omega
    have A:Aside (pre ++[(bQ,s.size)]=iA s s.size 0):=qN;clear qN;go_wp2_with (at_builtin;go_must (refine wpList_append_own _ rfl (.tmp 23) (.tmp 27) 24 rfl w.heap.size 9 i9 (.string ⟨#[]⟩) 1 16 BC hi9 hz fu hb rfl (by decide) _ _ _ rfl (gP.alloc _) ⟨wr.heap.size,0,none⟩ 1 1 [.string (s.extract bQ s.size)] rfl rfl (cell_one_new _ _ _) (by intro u hu;simp at hu;subst hu;rfl) (by unfold maxLen;omega) (by omega) (by have:=jf.size;simp;omega) ?_;intro v3 w3 qf mH xY))
    go_ret
    have hX:=gP.alloc (.cells #[.string (s.extract bQ s.size)] 9);refine⟨_,rfl,?_,?_,?_⟩
    ·rw[←A.out,iF,Qv];exact qf
    ·rw[←A.out];constructor
     ·intro h;have:=(xY.1 h).2;omega
     ·intro h;simp at h
    ·exact(jf.alloc jf.size _).grown mH (by have:=jf.size;simp;omega) (fun j hj=>(hX.lt j hj).1)
end Go.Proofs.YtfcgnpphabplbaaGreatDoor
namespace Go.Proofs.YtfcgnpphabplbaaGreatDoor
open Go.RowKit Go.Lib Go.Ak
theorem info3:∃i,Tryz.prog.info? 3=some i∧i.zero=some (.int .i64 0)∧i.size=1∧i.bytes=8:=by
 have h:(Tryz.prog.info? 3).map (fun i=>(i.zero,i.size,i.bytes))=some (some (.int .i64 0),1,8):=by kernel_rfl
 cases hq:Tryz.prog.info? 3 with
 |none=>rw[hq]at h;cases h
 |some i=>rw[hq]at h;simp only[Qa,aD,eU]at h;exact⟨i,rfl,h.1,h.2⟩
theorem Ma:Tryz.prog.underlying 101=some (.slice 3):=by kernel_rfl
def Gn(l:List (Nat×Nat)):List Value:=l.map fun x=>.int .i64 x.1
theorem zjW(l:List (Nat×Nat))(x:Nat×Nat):Gn (l ++[x])=Gn l ++[.int .i64 x.1]:=by simp[Gn]
theorem zb7{l:List (Nat×Nat)}{i:Nat}{x:Nat×Nat}(h:l[i]?=some x):(Gn l)[i]?=some (.int .i64 x.1):=by
 unfold Gn;rw[xH,h];rfl
theorem zma{w:World}{B B' e size n:Nat}{v:Value}{xs:List Value}(h:w.ownsRow B e size v n xs)(hb:B'<=B):w.ownsRow B' e size v n xs:=by
 obtain⟨h1,h2⟩:=h;refine⟨h1,?_⟩;rcases h2 with h|⟨g,cap,cur,a,b,c⟩
 ·exact .inl h
 ·exact .inr ⟨g,cap,cur,a,fT hb b,c⟩
set_option maxHeartbeats 4000000 in
set_option maxRecDepth 1000000 in
theorem Tryz.rchars(s:ByteArray)(w:World)(hs:s.size<=4294967296):
  Calls Tryz.prog 41 #[.string s] w fun e w'=> ∃v,e=.returned v∧w'.ownsRow w.heap.size 9 1 v (iA s s.size 0).length (BB s (iA s s.size 0))∧v ≠ .slice none 0 0∧Below w.heap.size w w':=by
 have mixed:Tryz.prog.follows .mixedOrders=true:=by kernel_rfl
 obtain⟨i9,hi9,hz,fu,hb⟩:=WN;obtain⟨i3,hi3,hz3,hsz3,hb3⟩:=info3;have u9:=run_underlying Tryz.underlying9;have u24:=run_underlying BC;have u101:=run_underlying Ma;have hB0:Below w.heap.size w (w.alloc (.cells #[] 3)):=(Below.refl _ w).alloc (aX _) _;have hO0:(w.alloc (.cells #[] 3)).ownsRow w.heap.size 3 1 (.slice (some ⟨w.heap.size,0,none⟩) 0 0) 0 []:=World.ownsRow_made w #[] 0 (aX _) (jK _) rfl;have hI0:((w.alloc (.cells #[] 3)).iter s 0).heap[w.heap.size+1]?=some (.stringIter s 0):=by
  have:=World.iter_heap (w.alloc (.cells #[] 3)) s 0;simpa using this
 go_enter Tryz.func41,Tryz.ntmps41
 go_wp2
 generalize hW0:w.alloc (.cells #[] 3)=W0 at *;go_loopg [3] s.size (fun gf v3 wx=> ∃(aZ:Nat)(pre:List (Nat×Nat)),wx.heap[(w.heap.size+1)]?=some (.stringIter s aZ)∧Below w.heap.size w wx∧wx.ownsRow w.heap.size 3 1 v3 pre.length (Gn pre)∧v3 ≠ .slice none 0 0∧
  s.size<=aZ+gf∧aZ<=s.size∧pre.length<=aZ∧pre++iA s gf aZ=iA s s.size 0)
 case atStart=>
  exact⟨0,[],hI0,hB0.alloc hB0.size _,hO0.alloc _,(fun h=>by cases h),by omega,jK _,aX _,rfl⟩
 case round=>
  obtain⟨aZ,pre,hit,jf,gP,hnn,hfu,hps,hal,qN⟩:=hrel;by_cases aB:aZ<s.size
  ·obtain⟨g',rfl⟩:∃g',gk=g'+1:=⟨gk-1,by omega⟩
   have hnx:∀ty,(Instr.next (.pointer (some ⟨(w.heap.size+1),0,none⟩)) true ty).run Tryz.prog wr=_:=fun ty=>Lib.run_next_any_at wr (w.heap.size+1) s aZ ty hit aB;obtain⟨hwd,hwn⟩:=Rs s aZ aB;obtain⟨R,hR⟩:∃R,(Utf8.decode s aZ).1=R:=⟨_,rfl⟩
   obtain⟨K,hK⟩:∃K,(Utf8.decode s aZ).2=K:=⟨_,rfl⟩
   have jw:iA s (g'+1) aZ=(aZ,aZ+K)::iA s g' (aZ+K):=by
    rw[iA,aS aB,hK]
   rw[hR,hK]at hnx;rw[hK]at hwd hwn;rw[jw]at qN;have hit2:=Lib.iterAt_heap wr (w.heap.size+1) s aZ (aZ+K) hit;have hbw2:=Lib.below_iterAt jf (k:=(w.heap.size+1)) (by omega) s (aZ+K);have Al:=own_iterAt gP hit (aZ+K);obtain⟨W,hWd⟩:∃W,wr.iterAt (w.heap.size+1) s (aZ+K)=W:=⟨_,rfl⟩
   rw[hWd]at hnx hit2 hbw2 Al;have hIT:(w.heap.size+1)<W.heap.size:=(rz.1 hit2).1;clear gP hit jf;have A:Aside (pre++(aZ,aZ+K)::iA s g' (aZ+K)=iA s s.size 0):=qN;clear qN jw;go_wp2_with (at_builtin;go_must (refine wpList_append_own _ rfl (.tmp 14) (.tmp 16) 101 rfl w.heap.size 3 i3 (.int .i64 0) 1 8 Ma hi3 hz3 hsz3 hb3 rfl (by decide) _ _ _ rfl (Al.alloc _) ⟨W.heap.size,0,none⟩ 1 1 [.int .i64 (aZ:Int)] rfl rfl (cell_one_new _ _ _) (by intro u hu;simp at hu;subst hu;rfl) (by unfold maxLen;omega) (by omega) (by have:=hbw2.size;simp;omega) ?_;intro v3 w3 qf mH xY))
   go_roundg g'
   case measure=>omega
   case rel=>
    have hX:=Al.alloc (.cells #[.int .i64 (aZ:Int)] 3);refine⟨aZ+K,pre ++[(aZ,aZ+K)],?_,?_,?_,fun h=>by have:=(xY.1 h).2;omega,by omega,hwn,by simp;omega,by rw[←A.out];simp⟩
    ·exact(mH.block (w.heap.size+1) (by simp;omega) (own_ne_iter Al hit2)).trans ((Below.heap_alloc _ _ _ hIT).trans hit2)
    ·exact(hbw2.alloc hbw2.size _).grown mH (by have:=hbw2.size;simp;omega) (fun j hj=>(hX.lt j hj).1)
    ·rw[iF,zjW];exact qf
  ·obtain rfl:aZ=s.size:=by omega
   have hnx:∀ty,(Instr.next (.pointer (some ⟨(w.heap.size+1),0,none⟩)) true ty).run Tryz.prog wr=_:=fun ty=>Lib.run_next_end_at wr (w.heap.size+1) s s.size ty hit aB;rw[zcd s gk _ aB,ry]at qN;subst qN;have Am:=fun i x y=>zca s s.size 0 i x y;have hlast:=fun i x=>zcc s s.size 0 i x (by omega);have cu:=fun x=>zcb s s.size 0 x;obtain⟨S,hS⟩:∃S,S=iA s s.size 0:=⟨_,rfl⟩
   have AS:Aside (S=iA s s.size 0):=hS;rw[←hS]at gP Am hlast cu hal;obtain⟨g3,qW,rfl⟩:∃g3 qW,u3=.slice (some ⟨g3,0,none⟩) S.length qW:=by
    rcases gP.2 with⟨h,_⟩|⟨g3,qW,_,h,_⟩
    ·exact absurd h hnn
    ·exact⟨g3,qW,h⟩
   have hg3:g3<wr.heap.size:=(gP.lt g3 rfl).2;have hB2:Below w.heap.size w (wr.alloc (.cells #[] 9)):=jf.alloc jf.size _;have hO2:(wr.alloc (.cells #[] 9)).ownsRow wr.heap.size 9 1 (.slice (some ⟨wr.heap.size,0,none⟩) 0 0) 0 []:=World.ownsRow_made wr #[] 0 (aX _) (jK _) rfl;have hS2:=gP.alloc (.cells #[] 9);have hwr0:=jf.size;obtain⟨W1,hW1⟩:∃W1,W1=wr:=⟨_,rfl⟩
   have bY:wr.heap.size<=(wr.alloc (.cells #[] 9)).heap.size:=by simp
   have hSl:=hal;rw[←hW1]at hg3 hwr0;have hO2:(wr.alloc (.cells #[] 9)).ownsRow W1.heap.size 9 1 (.slice (some ⟨wr.heap.size,0,none⟩) 0 0) 0 []:=by rw[hW1];exact hO2
   have bY:W1.heap.size<=(wr.alloc (.cells #[] 9)).heap.size:=by rw[hW1];exact bY
   clear hW1;clear hit gP jf hS hfu hps hal;go_wp2
   go_loopg [5,6] S.length (fun gf v5 v6 wx=> ∃i:Nat,i+gf=S.length∧v6=.int .i64 (i:Int)∧wx.ownsRow W1.heap.size 9 1 v5 i (BB s (S.take i))∧v5 ≠ .slice none 0 0∧
    wx.ownsRow w.heap.size 3 1 (.slice (some ⟨g3,0,none⟩) S.length qW) S.length (Gn S)∧Below w.heap.size w wx∧W1.heap.size<=wx.heap.size)
   case atStart=>exact⟨0,by omega,rfl,hO2,(fun h=>by cases h),hS2,hB2,bY⟩
   case round=>
    obtain⟨i,hig,rfl,hA,hnn5,hSt,gL,hwr⟩:=hrel;cases gk with
    |zero=>
     have hin:¬((i:Int)<(S.length:Int)):=by omega
     obtain rfl:i=S.length:=by omega
     rw[List.take_length]at hA;go_wp2
     go_ret
     rw[←AS.out];exact⟨_,rfl,zma hA hwr0,hnn5,gL⟩
    |succ gf=>
     have hin:(i:Int)<(S.length:Int):=by omega
     obtain⟨x,hx⟩:∃x,S[i]?=some x:=⟨_,gG (by omega)⟩
     have hxo:=cu x (jm hx);have hc0:wr.cell? ⟨g3,i,none⟩=some (.int .i64 x.1):=(hSt.cellAt i (by omega)).trans (zb7 hx);have aT:IntKind.i64.wrap ((i:Int)+1)=((i+1:Nat):Int):=by simp[IntKind.wrap,IntKind.bits,IntKind.signed];omega
     have hx1:(x.1:Int)<=(x.2:Int):=by omega
     have hx2:(x.2:Int)<=(s.size:Int):=by omega
     have htake:S.take (i+1)=S.take i ++[x]:=by rw[LH,hx];rfl
     have A:Aside (S.take (i+1)=S.take i ++[x]):=htake;clear htake;by_cases hn:i+1<S.length
     ·obtain⟨y,hy⟩:∃y,S[i+1]?=some y:=⟨_,gG hn⟩
      have hxy:=Am i x y hx hy;have jV:wr.cell? ⟨g3,i+1,none⟩=some (.int .i64 x.2):=by rw[hxy];exact(hSt.cellAt (i+1) (by omega)).trans (zb7 hy)
      have hnI:((i+1:Nat):Int)<(S.length:Int):=by omega
      clear Am hlast cu hx hy hxy;go_wp2_with (at_builtin;go_must (refine wpList_append_own _ rfl (.tmp 37) (.tmp 45) 24 rfl W1.heap.size 9 i9 (.string ⟨#[]⟩) 1 16 BC hi9 hz fu hb rfl (by decide) _ _ _ rfl (hA.alloc _) ⟨wr.heap.size,0,none⟩ 1 1 [.string (s.extract x.1 x.2)] rfl rfl (cell_one_new _ _ _) (by intro u hu;simp at hu;subst hu;rfl) (by unfold maxLen;omega) (by omega) (by simp;omega) ?_;intro v3 w3 qf mH xY))
      go_roundg gf
      case measure=>omega
      case rel=>
       have hX:=hA.alloc (.cells #[.string (s.extract x.1 x.2)] 9);have hS3:=hSt.alloc (.cells #[.string (s.extract x.1 x.2)] 9);refine⟨i+1,by omega,by simp,?_,fun h=>by have:=(xY.1 h).2;omega,?_,?_,?_⟩
       ·rw[A.out,Qv];exact qf
       ·refine hS3.kept mH (.inr fun e=>?_);have:=(hX.lt g3 e.symm).1;omega
       ·exact(gL.alloc gL.size _).grown mH (by have:=gL.size;simp;omega) (fun j hj=>by have:=(hX.lt j hj).1;omega)
       ·have:=mH.size;simp at this;omega
     ·have hyn:S[i+1]?=none:=pq (by omega);have hxl:=hlast i x hx hyn;have hnI:¬((i:Int)+1<(S.length:Int)):=by omega
      have hex:s.extract x.1 s.size=s.extract x.1 x.2:=by rw[hxl]
      rw[hxl]at hx1;clear Am hlast cu hx hyn hex;go_wp2_with (at_builtin;go_must (refine wpList_append_own _ rfl (.tmp 37) (.tmp 45) 24 rfl W1.heap.size 9 i9 (.string ⟨#[]⟩) 1 16 BC hi9 hz fu hb rfl (by decide) _ _ _ rfl (hA.alloc _) ⟨wr.heap.size,0,none⟩ 1 1 [.string (s.extract x.1 s.size)] rfl rfl (cell_one_new _ _ _) (by intro u hu;simp at hu;subst hu;rfl) (by unfold maxLen;omega) (by omega) (by simp;omega) ?_;intro v3 w3 qf mH xY))
      go_roundg gf
      case measure=>omega
      case rel=>
       have hX:=hA.alloc (.cells #[.string (s.extract x.1 s.size)] 9);have hS3:=hSt.alloc (.cells #[.string (s.extract x.1 s.size)] 9);refine⟨i+1,by omega,by simp,?_,fun h=>by have:=(xY.1 h).2;omega,?_,?_,?_⟩
       ·rw[A.out,Qv,hxl];exact qf
       ·refine hS3.kept mH (.inr fun e=>?_);have:=(hX.lt g3 e.symm).1;omega
       ·exact(gL.alloc gL.size _).grown mH (by have:=gL.size;simp;omega) (fun j hj=>by have:=(hX.lt j hj).1;omega)
       ·have:=mH.size;simp at this;omega
end Go.Proofs.YtfcgnpphabplbaaGreatDoor
namespace Go.Ak
def Mo(xs:List AV)(H:aj):Option (Out×aj):=
 match xs with
 | [.str []]=>some (.ret .nils,H)
 | [.str (c::t)]=>bif Nat.ble (c::t).length 4294967296 then some (.ret (.slc .ro ((nS (c::t)).map AV.str)),H)else none
 |_=>none
def Mh(xs:List AV)(H:aj):Option (Out×aj):=
 match xs with
 | [.str s]=>bif Nat.ble s.length 4294967296 then some (.ret (.slc .ro ((nS s).map AV.str)),H)else none
 |_=>none
end Go.Ak
namespace Go.Proofs.YtfcgnpphabplbaaGreatDoor
open Go.RowKit Go.Lib Go.Ak
section
variable {G:Nat->Option Obj} {ae:Nat} {xs:List AV} {H H':aj} {out:Out}
theorem zbV{g:Gh}{w w':World}(hh:HeapR (cZ G) g w H)(hB:Below w.heap.size w w'){v:Value}{n:Nat}{vals:List Value}(bz:w'.ownsRow w.heap.size 9 1 v n vals)(aR:v ≠ .slice none 0 0)(l:List (List UInt8))(hl:l.length=n)(hv:vals=l.map fun x=>Value.string ⟨x.toArray⟩):
  l7 (cZ G) ae g w (.ret (.slc .ro (l.map AV.str))) H (.returned v) w':=by
 subst hv;subst hl;obtain⟨r1,r2⟩:=bz;rcases r2 with⟨e,_⟩|⟨q,cap,cur,e,hq1,hq2,hq3,hq4,hq5,hq6⟩
 ·exact absurd e aR
 ·subst e;have hq:q<w'.heap.size:=(rz.1 hq2).1;obtain⟨x1,x2⟩:=Ri (ae:=ae) hh hB q cap ⟨hq1,hq⟩;refine⟨_,_,rfl,x1,x2,SV.of_V ?_⟩;have e1:(l.map AV.str).length=l.length:=pX ..;rw[←e1]at hq3 ⊢;refine V.slc _ q 0 (l.map fun x=>Value.string ⟨x.toArray⟩) 1 _ (fun k u hk=>?_) (Md _) (fun e he=>?_) (by omega) hq3
  ·have hkl:k<l.length:=by
    have:=(eD.1 hk).1;simp only[pX]at this;omega
   refine⟨by simp only[jZ,fD];omega,?_,?_⟩
   ·simp only[World.cell?,hq2,jZ];rw[←hq6,mP,aS (by omega),mR]at hk;simpa using hk
   ·have:=jm hk;obtain⟨x,_,rfl⟩:=pg.1 this;rfl
  ·obtain⟨x,_,rfl⟩:=pg.1 he;rfl
theorem ze9(s:List UInt8):(nS s).length=(iA ⟨s.toArray⟩ (⟨s.toArray⟩:ByteArray).size 0).length:=by simp[nS,charsB]
theorem ze8(s:List UInt8):BB ⟨s.toArray⟩ (iA ⟨s.toArray⟩ (⟨s.toArray⟩:ByteArray).size 0)=(nS s).map fun x=>Value.string ⟨x.toArray⟩:=by
 unfold BB nS charsB;rw[Jg,Jg];exact Bp fun x _=>by
  simp only[Function.comp_apply]
theorem zj7(he:Mh xs H=some (out,H')){g:Gh}{w:World}{us:List Value}(hh:HeapR (cZ G) g w H)(ha:ArgsV (cZ G) g w 0 xs us):
  Calls Tryz.prog 41 us.toArray w (l7 (cZ G) ae g w out H'):=by
 unfold Mh at he;split at he
 ·rename_i s;obtain⟨u,rfl,hu⟩:=Gv ha;have:=V.str_inv (show V (cZ G) g w (.str s) u from hu);subst this;cases hl:Nat.ble s.length 4294967296 with
  |false=>simp[hl]at he
  |true=>
   simp only[hl,bA,aD,eU]at he;obtain⟨rfl,rfl⟩:=he;refine(Tryz.rchars ⟨s.toArray⟩ w (iy hl)).mono fun e w' ⟨v,he,bz,aR,hB⟩=>?_;subst he;exact zbV hh hB bz aR (nS s) (ze9 s) (ze8 s)
 ·cases he
theorem zko(he:Mo xs H=some (out,H')){g:Gh}{w:World}{us:List Value}(hh:HeapR (cZ G) g w H)(ha:ArgsV (cZ G) g w 0 xs us):
  Calls Tryz.prog 37 us.toArray w (l7 (cZ G) ae g w out H'):=by
 unfold Mo at he;split at he
 ·obtain⟨u,rfl,hu⟩:=Gv ha;have:=V.str_inv (show V (cZ G) g w (.str []) u from hu);subst this;simp only[aD,eU]at he;obtain⟨rfl,rfl⟩:=he;refine(Tryz.chars ⟨([]:List UInt8).toArray⟩ w (jK _)).mono fun e w' ⟨v,he,bz,aR,hB⟩=>?_;subst he;have:=aR.2 rfl;subst this;exact⟨g.later w',_,rfl,Fb hh hB,MK hh hB,SV.of_V .nils⟩
 ·rename_i c t;obtain⟨u,rfl,hu⟩:=Gv ha;generalize hs:c::t=s at *;have:=V.str_inv (show V (cZ G) g w (.str s) u from hu);subst this;cases hl:Nat.ble s.length 4294967296 with
  |false=>simp[hl]at he
  |true=>
   simp only[hl,bA,aD,eU]at he;obtain⟨rfl,rfl⟩:=he;refine(Tryz.chars ⟨s.toArray⟩ w (iy hl)).mono fun e w' ⟨v,he,bz,aR,hB⟩=>?_;subst he;refine zbV hh hB bz (fun e=>?_) (nS s) (ze9 s) (ze8 s);have h0:=aR.1 e;subst hs;unfold iA at h0;simp[ByteArray.size]at h0
 ·cases he
end
end Go.Proofs.YtfcgnpphabplbaaGreatDoor
namespace Go.Ak
def Ml(n:Nat)(gX:Nat->CallF)(ae:Nat):CallF:=fun f xs H=>
 bif Nat.beq f 181 then Mo xs H else bif Nat.beq f 184 then Mh xs H else Mm n gX ae f xs H
end Go.Ak
namespace Go.Proofs.YtfcgnpphabplbaaGreatDoor
open Go.Ak
theorem zkj{G:Nat->Option Obj}(hG:Bh G):Be (cZ G) ak Ml:=by
 intro n gX hr ae f xs H out H' hf he;unfold Ml at he;cases h1:Nat.beq f 181 with
 |true=>
  have:=dH h1;subst this;exact⟨by kernel_rfl,fun g w us hh ha=>zko (by exact he) hh ha⟩
 |false=>
  cases h2:Nat.beq f 184 with
  |true=>
   have:=dH h2;subst this;exact⟨by kernel_rfl,fun g w us hh ha=>zj7 (by exact he) hh ha⟩
  |false=>
   simp only[h1,h2,fq]at he;exact zkl hG n gX hr ae f xs H out H' hf he
end Go.Proofs.YtfcgnpphabplbaaGreatDoor
