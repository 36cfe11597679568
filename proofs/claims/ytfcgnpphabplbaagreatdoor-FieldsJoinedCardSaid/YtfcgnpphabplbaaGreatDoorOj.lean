/- All, strings.Split, strings.Join, strings.FieldsFunc and a record's resize told by functions of their own; all such functions together. -/
import Derived.Test.YtfcgnpphabplbaaGreatDoorOh
import Derived.Test.YtfcgnpphabplbaaGreatDoorOi
import Derived.Shelf.Strings.Split
import Derived.Shelf.Strings.OnBuilder
import Derived.Lib.SplitLaws
import Derived.Shelf.Strings.FieldsFuncGrows
import Derived.Test.YtfcgnpphabplbaaGreatDoorOd
import Derived.Laws.CopyRow
import Derived.Laws.CopyOwn
set_option linter.unusedVariables false
set_option linter.unusedSimpArgs false
namespace Go.Ak
def zpq (runs:Nat→CallF) (id off:Nat) (s:List UInt8) (H:Heap) (at':Int):Option (Int×Int×Bool) :=
 match runs H.length 43 [.ptr id off, .str s, .int .i64 at'] H with
 | some (.ret (.tup [.int .i64 f, .int .i64 t, .bool b]),_)=>some (f,t,b)
 | _=>none
def zBj (x:Int×Int):AV:= .agg [.int .i64 x.1, .int .i64 x.2]
def zuO:List (Int×Int)→AV
 | []=> .nils
 | x::l=> .slc .ro ((x::l).map zBj)
def zo9 (n:Nat) (runs:Nat→CallF) (xs:List AV) (H:Heap):Option (Out×Heap) :=
 match xs with
 | [.ptr id off, .str s]=>match zbu (zpq runs id off s H) s.length n 0 (-1) with
  | some l=>bif Nat.ble l.length 1000000 then some (.ret (zuO l),H) else none
  | none=>none
 | _=>none
theorem zf1 {f g:Int→Option (Int×Int×Bool)} (h: ∀ a r,f a=some r→g a=some r) {len:Int}: ∀ (n m:Nat) (at' last:Int) (l:List (Int×Int)),n≤m→zbu f len n at' last=some l→zbu g len m at' last=some l
 | 0,_,_,_,_,_,e=>by simp [zbu] at e
 | n+1,0,_,_,_,hl,_=>by omega
 | n+1,m+1,at',last,l,hl,e=>by
  simp only [zbu] at e ⊢
  cases hd:decide (at'≤len)<;>rw [hd] at e<;>simp only [cond_true,cond_false] at e ⊢
  ·exact e
  ·cases hf:f at' with
   | none=>simp [hf] at e
   | some q =>
    obtain ⟨a,b,c⟩:=q
    rw [h _ _ hf]
    simp only [hf] at e ⊢
    cases c<;>simp only [cond_true,cond_false] at e ⊢
    ·exact e
    ·cases hs:(decide (a=b)&&decide (a=last))<;>rw [hs] at e<;>simp only [cond_true,cond_false] at e ⊢
     ·cases hr:zbu f len n b b with
      | none=>simp [hr] at e
      | some r =>
       rw [zf1 h n m b b r (by omega) hr]
       simpa [hr] using e
     ·exact zf1 h n m _ _ l (by omega) e
theorem zww {c d:Nat→CallF} (h: ∀ b,CallF.le (c b) (d b)) (id off:Nat) (s:List UInt8) (H:Heap) (a:Int) (r) (e:zpq c id off s H a=some r):zpq d id off s H a=some r:=by
 unfold zpq at e ⊢
 cases hr:c H.length 43 [.ptr id off, .str s, .int .i64 a] H with
 | none=>rw [hr] at e;cases e
 | some q=>rw [h _ _ _ _ _ hr];rw [hr] at e;exact e
theorem znQ {n m:Nat} {c d:Nat→CallF} (hn:n≤m) (h: ∀ b,CallF.le (c b) (d b)) (xs:List AV) (H:Heap) (r:Out×Heap) (e:zo9 n c xs H=some r):zo9 m d xs H=some r:=by
 unfold zo9 at e ⊢
 split at e
 ·rename_i id off s
  split at e
  ·rename_i l hl
   rw [zf1 (fun a r=>zww h id off s H a r) n m 0 (-1) l hn hl]
   exact e
  ·cases e
 ·cases e
def Gh.later (g:Gh) (W:World):Gh where
 ob:=g.ob
 S:=g.S
 own b:=if b<W.heap.size then (match g.own b with
  | .obj id=>if g.ob id=some b then .obj id else .kept
  | _=> .kept) else .free
section
variable {T:Tr} {bar:Nat} {g:Gh} {w W:World} {H:Heap}
theorem zef (hh:HeapR T g w H) (hW:RowKit.Below w.heap.size w W):Ext bar g w (g.later W) W:=by
 have lt: ∀ b,g.own b ≠ .free→b<w.heap.size:=fun b hb=>zcS hh hb
 refine ⟨hW.size,fun _=>Nat.le_refl _,fun b o ho=> ?_,fun _ _ h=>h,fun b x hx=> ?_,fun b hb=> ?_,fun id b _ hob hb=> ?_,hW.os,by rw [hW.output,hW.tape]⟩
 ·have hb:b<w.heap.size:=by
   rcases Nat.lt_or_ge b w.heap.size with h | h
   ·exact h
   ·rw [(hh.fresh b h).2] at ho;omega
  simp only [World.cell?,hW.block b hb]
 ·have hb:b<w.heap.size:=by
   rcases Nat.lt_or_ge b w.heap.size with h | h
   ·exact h
   ·simp [World.shape?,Array.getElem?_eq_none h] at hx
  simp only [World.shape?,hW.block b hb] at hx ⊢
  exact hx
 ·have hlt:=lt b (by rw [hb];simp)
  have:=hW.size
  exact ⟨by simp only [Gh.later];rw [if_pos (by omega),hb],rfl,hW.block b hlt⟩
 ·have hlt:=lt b (by rw [hb];simp)
  have:=hW.size
  exact ⟨by simp only [Gh.later];rw [if_pos (by omega),hb];simp [hob],rfl,hW.block b hlt⟩
theorem zfB (hh:HeapR T g w H) (hW:RowKit.Below w.heap.size w W):HeapR T (g.later W) W H where
 objs id cs hc:=by
  obtain ⟨b,arr,h1,⟨h2,h3,h4⟩,h5,h6⟩:=hh.objs id cs hc
  obtain ⟨k1,k2,k3⟩:=(zef (bar:=id+1) hh hW).low id b (Nat.lt_succ_self _) h1 h2
  exact ⟨b,arr,h1,⟨k1,k2.trans h3,h4.congr k3⟩,Vs.mono (zef (bar:=0) hh hW) h5,h6⟩
 ob id b hb:=hh.ob id b hb
 fresh b hb:=by
  have:=hW.size
  exact ⟨by simp only [Gh.later];rw [if_neg (by omega)],(hh.fresh b (by omega)).2⟩
 gl b x hb:=by
  obtain ⟨k1,k2⟩:=hh.gl b x hb
  obtain ⟨j1,_,j3⟩:=(zef (bar:=0) hh hW).kept b k1
  exact ⟨j1,j3.trans k2⟩
theorem ztg {g':Gh} {W':World} (hh:HeapR T g w H) (he:Ext H.length (g.later W) W g' W'):RowKit.Below W.heap.size W W':=by
 have ho:W'.output=W.output∧W'.tape=W.tape:=by simpa using he.out
 refine ⟨he.os,ho.2,ho.1,he.size,fun b hb=> ?_⟩
 cases hk:(g.later W).own b with
 | kept=>exact (he.kept b hk).2.2
 | obj id =>
  have hob:g.ob id=some b:=by
   simp only [Gh.later] at hk
   rw [if_pos hb] at hk
   split at hk
   ·split at hk
    ·cases hk;assumption
    ·cases hk
   ·cases hk
  exact (he.low id b (hh.ob id b hob) hob hk).2.2
 | _ =>
  simp only [Gh.later] at hk
  rw [if_pos hb] at hk
  split at hk
  ·split at hk<;>cases hk
  ·cases hk
end
end Go.Ak
namespace Go.Proofs.YtfcgnpphabplbaaGreatDoor
open Go.Ak
section
variable {G:Nat→Option Obj} {bar n:Nat} {xs:List AV} {H H':Heap} {out:Out}
theorem zBO {runs:Nat→CallF} (hr:zdu (zah G) H.length (runs H.length)) {g:Gh} {w:World} (hh:HeapR (zah G) g w H) {id off:Nat} {pv:Value} (hp:V (zah G) g w (.ptr id off) pv) (s:List UInt8) :
  Finds w pv ⟨s.toArray⟩ (zpq runs id off s H):=by
 intro W hW at' f t b hf
 unfold zpq at hf
 split at hf
 ·rename_i f' t' b' H1 hrun
  simp only [Option.some.injEq,Prod.mk.injEq] at hf
  obtain ⟨rfl,rfl,rfl⟩:=hf
  have hA:ArgsV (zah G) (g.later W) W 0 [.ptr id off, .str s, .int .i64 at'] [pv, .string ⟨s.toArray⟩, .int .i64 at'] :=
   .cons _ _ _ _ _ (SV.of_V (V.mono (zef (bar:=0) hh hW) hp)) (.cons _ _ _ _ _ (SV.of_V (.str s)) (.cons _ _ _ _ _ (SV.of_V (.int _ _)) (.nil _)))
  refine ((hr _ _ _ _ _ hrun).2 _ _ _ (zfB hh hW) hA).mono fun e W' hq=> ?_
  cases e with
  | returned v =>
   obtain ⟨g',a,ea,e1,e2,e3⟩:=hq
   simp only [Out.ret.injEq] at ea
   subst ea
   obtain ⟨cs,hcs,rfl⟩:=V.tup_inv (show V _ _ _ (.tup [.int .i64 f', .int .i64 t', .bool b']) v from e3)
   refine ⟨?_,ztg hh e1⟩
   cases hcs with
   | cons _ _ _ _ k1 k2 =>
    cases k2 with
    | cons _ _ _ _ k3 k4 =>
     cases k4 with
     | cons _ _ _ _ k5 k6 =>
      cases k6
      have q1:=V.int_inv k1
      have q2:=V.int_inv k3
      have q3:=V.bool_inv k5
      subst q1 q2 q3
      rfl
  | panicked ch =>
   obtain ⟨_,_,_,_,h1,_⟩:=hq
   cases h1
  | outgrown=>exact hq.elim
 ·cases hf
theorem zn0: ∀ (l:List (Int×Int)) {T:Tr} {g:Gh} {w:World},Vs T g w (flat (l.map zBj)) (l.flatMap zny)
 | [],_,_,_=> .nil
 | x::l,T,g,w=>by
  simp only [List.map_cons,flat,List.flatMap_cons]
  exact .cons _ _ _ _ (.int _ _) (.cons _ _ _ _ (.int _ _) (zn0 l))
theorem zqW: ∀ (l:List (Int×Int)),(l.flatMap zny).length=l.length*2
 | []=>rfl
 | x::l=>by
  rw [List.flatMap_cons,List.length_append,zqW l]
  simp [zny];omega
theorem zxG: ∀ (l:List (Int×Int)),∀ v∈l.flatMap zny,v.oneCell'=true
 | l,v,h=>by
  obtain ⟨x,_,hx⟩:=List.mem_flatMap.1 h
  simp [zny] at hx
  rcases hx with rfl | rfl<;>rfl
theorem zA5 {runs:Nat→CallF} (hr: ∀ bar,zdu (zah G) bar (runs bar)) (he:zo9 n runs xs H=some (out,H')) {g:Gh} {w:World} {us:List Value} (hh:HeapR (zah G) g w H) (ha:ArgsV (zah G) g w 0 xs us) :
  Calls Tryz.prog 45 us.toArray w (za4 (zah G) bar g w out H'):=by
 unfold zo9 at he
 split at he
 ·rename_i id off s
  obtain ⟨u,v,rfl,hu,hv⟩:=zd9 ha
  have:=V.str_inv (show V (zah G) g w (.str s) v from hv)
  subst this
  have hp:=(show V (zah G) g w (.ptr id off) u from hu)
  obtain ⟨b,hb,rfl⟩:=V.ptr_inv hp
  split at he
  ·rename_i l hl
   cases hlen:Nat.ble l.length 1000000 with
   | false=>simp [hlen] at he
   | true =>
    simp only [hlen,cond_true,Option.some.injEq,Prod.mk.injEq] at he
    obtain ⟨rfl,rfl⟩:=he
    have hsz:((⟨s.toArray⟩:ByteArray).size:Int)=s.length:=by simp [ByteArray.size]
    refine (callsIn_wide.1 (all_in 5 (by omega) _ ⟨s.toArray⟩ w _ (zBO (hr _) hh hp s) l n (by rw [hsz];exact hl) (Nat.le_of_ble_eq_true hlen))).mono fun e w' hq=> ?_
    obtain ⟨v,rfl,hrow,hnil,hB⟩:=hq
    have gen: ∀ (q:Nat) (Sq:Nat),(w.heap.size≤q∧q<w'.heap.size)→ ∀ (bar:Nat),Ext bar g w { ob:=g.ob,S:=fun b=>if b=q then Sq else g.S b,own:=fun b=>if b<w.heap.size then g.own b else .free } w' ∧
      HeapR (zah G) { ob:=g.ob,S:=fun b=>if b=q then Sq else g.S b,own:=fun b=>if b<w.heap.size then g.own b else .free } w' H:=fun q Sq hq bar=>by
     have lt: ∀ b,g.own b ≠ .free→b<w.heap.size:=fun b hb=>zcS hh hb
     have hS: ∀ b,b<w.heap.size→(if b=q then Sq else g.S b)=g.S b:=fun b hb=>if_neg (by omega)
     have ext: ∀ bar,Ext bar g w { ob:=g.ob,S:=fun b=>if b=q then Sq else g.S b,own:=fun b=>if b<w.heap.size then g.own b else .free } w':=fun bar=>by
      refine ⟨hB.size,fun b=> ?_,fun b o ho=> ?_,fun _ _ h=>h,fun b x hx=> ?_,fun b hb=> ?_,fun id b _ hob hb=> ?_,hB.os,by rw [hB.output,hB.tape]⟩
      ·show g.S b≤if b=q then Sq else g.S b
       by_cases e:b=q
       ·subst e;rw [(hh.fresh b hq.1).2];omega
       ·rw [if_neg e];exact Nat.le_refl _
      ·have hb:b<w.heap.size:=by
        rcases Nat.lt_or_ge b w.heap.size with h | h
        ·exact h
        ·rw [(hh.fresh b h).2] at ho;omega
       simp only [World.cell?,hB.block b hb]
      ·have hb:b<w.heap.size:=by
        rcases Nat.lt_or_ge b w.heap.size with h | h
        ·exact h
        ·simp [World.shape?,Array.getElem?_eq_none h] at hx
       simp only [World.shape?,hB.block b hb] at hx ⊢
       exact hx
      ·have hlt:=lt b (by rw [hb];simp)
       exact ⟨by simp only;rw [if_pos hlt];exact hb,hS b hlt,hB.block b hlt⟩
      ·have hlt:=lt b (by rw [hb];simp)
       exact ⟨by simp only;rw [if_pos hlt];exact hb,hS b hlt,hB.block b hlt⟩
     refine ⟨ext bar,hh.frame (ext 0) (fun b id hb=> ?_) rfl (fun b hb=> ?_)⟩
     ·have hlt:=lt b (by rw [hb];simp)
      exact ⟨by simp only;rw [if_pos hlt];exact hb,hS b hlt,hB.block b hlt⟩
     ·have:=hB.size
      refine ⟨by simp only;rw [if_neg (by omega)],?_⟩
      show (if b=q then Sq else g.S b)=0
      rw [if_neg (by omega)]
      exact (hh.fresh b (by omega)).2
    obtain ⟨r1,r2⟩:=hrow
    rcases r2 with ⟨rfl,_⟩ | ⟨q,cap,cur,rfl,hq1,hq2,hq3,hq4,hq5,hq6⟩
    ·have hl0:=hnil.1 rfl
     subst hl0
     exact ⟨g.later w',_,rfl,zef hh hB,zfB hh hB,SV.of_V .nils⟩
    ·have hq:q<w'.heap.size:=(Array.getElem?_eq_some_iff.1 hq2).1
     obtain ⟨x1,x2⟩:=gen q (l.length*2) ⟨hq1,hq⟩ bar
     have hne:l ≠ []:=fun e=>by have:=hnil.2 e;cases this
     obtain ⟨y,l',rfl⟩: ∃ y l',l=y::l':=by cases l with | nil=>exact absurd rfl hne | cons y l'=>exact ⟨y,l',rfl⟩
     refine ⟨_,_,rfl,x1,x2,SV.of_V ?_⟩
     simp only [zuO]
     have e1:((y::l').map zBj).length=(y::l').length:=by simp
     rw [←e1] at hq3 ⊢
     refine V.slc _ q 0 ((y::l').flatMap zny) 2 cap (fun k u hk=> ?_) (zn0 _) (fun e he=> ?_) (by omega) hq3
     ·have hkl:k<(y::l').length*2:=by
       have:=(List.getElem?_eq_some_iff.1 hk).1
       rw [zqW] at this;exact this
      refine ⟨by simp only [Nat.zero_add,if_true];rw [e1];exact hkl,?_,zxG _ u (List.mem_of_getElem? hk)⟩
      simp only [World.cell?,hq2,Nat.zero_add]
      rw [←hq6,List.getElem?_take,if_pos hkl,Array.getElem?_toList] at hk
      simpa using hk
     ·obtain ⟨x,_,rfl⟩:=List.mem_map.1 he
      rfl
  ·cases he
 ·cases he
end
end Go.Proofs.YtfcgnpphabplbaaGreatDoor
namespace Go.Ak
def spB (n:Nat) (runs:Nat→CallF) (bar:Nat):CallF:=fun f xs H =>
 bif Nat.beq f 41 then zfl runs xs H else bif Nat.beq f 11 then zo9 n runs xs H else spA n runs bar f xs H
end Go.Ak
namespace Go.Proofs.YtfcgnpphabplbaaGreatDoor
open Go.Ak
theorem zHJ {G:Nat→Option Obj} (hG:zeA G):zC8 (zah G) fsT spB:=by
 intro n runs hr bar f xs H out H' hf he
 unfold spB at he
 cases h41:Nat.beq f 41 with
 | true =>
  have:=zan h41
  subst this
  exact ⟨by kernel_rfl,fun g w us hh ha=>zvO (hr 0) (by exact he) hh ha⟩
 | false =>
  cases h11:Nat.beq f 11 with
  | true =>
   have:=zan h11
   subst this
   exact ⟨by kernel_rfl,fun g w us hh ha=>zA5 hr (by exact he) hh ha⟩
  | false =>
   simp only [h41,h11,cond_false] at he
   exact zHK hG n runs hr bar f xs H out H' hf he
end Go.Proofs.YtfcgnpphabplbaaGreatDoor
namespace Go.Ak
def zeG:List AV→Option (List (List UInt8))
 | []=>some []
 | .str s::r=>match zeG r with
  | some l=>some (s::l)
  | none=>none
 | _::_=>none
def zl1 (xs:List AV) (H:Heap):Option (Out×Heap) :=
 match xs with
 | [.str s, .str (c::t)]=>bif Nat.blt s.length 4294967281 then some (.ret (.slc .ro ((Lib.split s (c::t)).map AV.str)),H) else none
 | _=>none
def zqK (xs:List AV) (H:Heap):Option (Out×Heap) :=
 match xs with
 | [.nils, .str _]=>some (.ret (.str []),H)
 | [.slc .ro es, .str t]=>match zeG es with
  | some l=>bif Nat.ble l.length 1000000&&Nat.ble (Lib.join l t).length 1000000000 then some (.ret (.str (Lib.join l t)),H) else none
  | none=>none
 | _=>none
theorem zin: ∀ {es:List AV} {l:List (List UInt8)},zeG es=some l→es=l.map AV.str
 | [],l,h=>by simp only [zeG,Option.some.injEq] at h;subst h;rfl
 | a::r,l,h=>by
  cases a
  case str s =>
   simp only [zeG] at h
   split at h
   ·rename_i l' hl
    simp only [Option.some.injEq] at h
    subst h
    rw [List.map_cons,←zin hl]
   ·cases h
  all_goals (simp only [zeG] at h;cases h)
theorem zgU: ∀ l:List (List UInt8),zeG (l.map AV.str)=some l
 | []=>rfl
 | x::l=>by simp [zeG,zgU l]
section
variable {T:Tr} {bar:Nat} {g:Gh} {w w':World} {H:Heap}
theorem zmm (hh:HeapR T g w H) (hB:RowKit.Below w.heap.size w w') (q Sq:Nat) (hq:w.heap.size≤q∧q<w'.heap.size):Ext bar g w { ob:=g.ob,S:=fun b=>if b=q then Sq else g.S b,own:=fun b=>if b<w.heap.size then g.own b else .free } w' ∧
  HeapR T { ob:=g.ob,S:=fun b=>if b=q then Sq else g.S b,own:=fun b=>if b<w.heap.size then g.own b else .free } w' H:=by
 have lt: ∀ b,g.own b ≠ .free→b<w.heap.size:=fun b hb=>zcS hh hb
 have hS: ∀ b,b<w.heap.size→(if b=q then Sq else g.S b)=g.S b:=fun b hb=>if_neg (by omega)
 have ext: ∀ bar,Ext bar g w { ob:=g.ob,S:=fun b=>if b=q then Sq else g.S b,own:=fun b=>if b<w.heap.size then g.own b else .free } w':=fun bar=>by
  refine ⟨hB.size,fun b=> ?_,fun b o ho=> ?_,fun _ _ h=>h,fun b x hx=> ?_,fun b hb=> ?_,fun id b _ hob hb=> ?_,hB.os,by rw [hB.output,hB.tape]⟩
  ·show g.S b≤if b=q then Sq else g.S b
   by_cases e:b=q
   ·subst e;rw [(hh.fresh b hq.1).2];omega
   ·rw [if_neg e];exact Nat.le_refl _
  ·have hb:b<w.heap.size:=by
    rcases Nat.lt_or_ge b w.heap.size with h | h
    ·exact h
    ·rw [(hh.fresh b h).2] at ho;omega
   simp only [World.cell?,hB.block b hb]
  ·have hb:b<w.heap.size:=by
    rcases Nat.lt_or_ge b w.heap.size with h | h
    ·exact h
    ·simp [World.shape?,Array.getElem?_eq_none h] at hx
   simp only [World.shape?,hB.block b hb] at hx ⊢
   exact hx
  ·have hlt:=lt b (by rw [hb];simp)
   exact ⟨by simp only;rw [if_pos hlt];exact hb,hS b hlt,hB.block b hlt⟩
  ·have hlt:=lt b (by rw [hb];simp)
   exact ⟨by simp only;rw [if_pos hlt];exact hb,hS b hlt,hB.block b hlt⟩
 refine ⟨ext bar,hh.frame (ext 0) (fun b id hb=> ?_) rfl (fun b hb=> ?_)⟩
 ·have hlt:=lt b (by rw [hb];simp)
  exact ⟨by simp only;rw [if_pos hlt];exact hb,hS b hlt,hB.block b hlt⟩
 ·have:=hB.size
  refine ⟨by simp only;rw [if_neg (by omega)],?_⟩
  show (if b=q then Sq else g.S b)=0
  rw [if_neg (by omega)]
  exact (hh.fresh b (by omega)).2
theorem zlW: ∀ (l:List (List UInt8)),Vs T g w (flat (l.map AV.str)) (l.map fun x=>Value.string ⟨x.toArray⟩)
 | []=> .nil
 | x::l=> .cons _ _ _ _ (.str _) (zlW l)
theorem zuq: ∀ (l:List (List UInt8)) {us:List Value},Vs T g w (flat (l.map AV.str)) us→us=l.map fun x=>Value.string ⟨x.toArray⟩
 | [],us,h=>by cases h;rfl
 | x::l,us,h=>by
  cases h with
  | cons _ _ u vs h1 h2 =>
   have e:=V.str_inv h1
   rw [e,zuq l h2];rfl
end
end Go.Ak
namespace Go.Proofs.YtfcgnpphabplbaaGreatDoor
open Go.Ak
theorem hi9:(Tryz.prog.info? (Tryz.lays146_ren.t 9)).map (fun i=>(i.zero,i.size,i.bytes))=some (some (.string ByteArray.empty),1,16):=by kernel_rfl
theorem sameG:Tryz.lays146_ren.g 1=Tryz.lays219_ren.g 1:=by kernel_rfl
section
variable {G:Nat→Option Obj} {bar:Nat} {xs:List AV} {H H':Heap} {out:Out}
theorem zvN (hG:zeA G) (he:zl1 xs H=some (out,H')) {g:Gh} {w:World} {us:List Value} (hh:HeapR (zah G) g w H) (ha:ArgsV (zah G) g w 0 xs us) :
  Calls Tryz.prog 39 us.toArray w (za4 (zah G) bar g w out H'):=by
 unfold zl1 at he
 split at he
 ·rename_i s c t
  obtain ⟨u,v,rfl,hu,hv⟩:=zd9 ha
  have:=V.str_inv (show V (zah G) g w (.str s) u from hu)
  subst this
  have:=V.str_inv (show V (zah G) g w (.str (c::t)) v from hv)
  subst this
  cases hl:Nat.blt s.length 4294967281 with
  | false=>simp [hl] at he
  | true =>
   simp only [hl,cond_true,Option.some.injEq,Prod.mk.injEq] at he
   obtain ⟨rfl,rfl⟩:=he
   obtain ⟨m,cc,ty,fz,hg,hc⟩:=hG
   obtain ⟨_,hw⟩:=hh.gl _ _ (show (zah G).gl _=_ from hg)
   have hs:(⟨s.toArray⟩:ByteArray).size<4294967281:=by
    have:s.length<4294967281:=by simpa [Nat.blt_eq] using hl
    simpa [ByteArray.size] using this
   have hcell:w.cell? ⟨Tryz.lays146_ren.g 1,0,none⟩=some (.int .i64 m):=by rw [sameG];simpa [World.cell?,hw] using hc
   have h1:1≤(⟨(c::t).toArray⟩:ByteArray).size:=by simp [ByteArray.size]
   refine (Any.strings_Split Tryz.lays146 hi9 ⟨s.toArray⟩ ⟨(c::t).toArray⟩ m w hs hcell h1).mono fun e w' ⟨he,hw'⟩=> ?_
   subst he
   have hB:RowKit.Below w.heap.size w w':=by rw [hw'];exact (RowKit.Below.refl _ w).alloc (Nat.le_refl _) _
   have hdata:=Lib.splitB_data ⟨(c::t).toArray⟩ 0 (Lib.countB ⟨s.toArray⟩ ⟨(c::t).toArray⟩) ⟨s.toArray⟩
   have hlen:=Lib.splitB_all ⟨(c::t).toArray⟩ h1 0 _ ⟨s.toArray⟩ rfl
   have hsp:Lib.splitK (⟨(c::t).toArray⟩:ByteArray).data.toList 0 (Lib.countB ⟨s.toArray⟩ ⟨(c::t).toArray⟩) (⟨s.toArray⟩:ByteArray).data.toList=Lib.split s (c::t):=by
    unfold Lib.split;simp [Lib.countB]
   rw [hsp] at hdata
   generalize hbs:Lib.splitB ⟨(c::t).toArray⟩ 0 (Lib.countB ⟨s.toArray⟩ ⟨(c::t).toArray⟩) ⟨s.toArray⟩=bs at *
   rw [←hlen]
   have hvals:bs.map Value.string=(Lib.split s (c::t)).map fun x=>Value.string ⟨x.toArray⟩:=by
    rw [←hdata,List.map_map]
    exact List.map_congr_left fun x _=>by simp
   have hll:(Lib.split s (c::t)).length=bs.length:=by rw [←hdata,List.length_map]
   have hsz:w'.heap.size=w.heap.size+1:=by rw [hw'];simp
   have hblk:w'.heap[w.heap.size]? = some (.cells (bs.map Value.string).toArray (Tryz.lays146_ren.t 9) (0,0)):=by rw [hw'];exact Array.getElem?_push_size
   obtain ⟨x1,x2⟩:=zmm (bar:=bar) hh hB w.heap.size bs.length ⟨Nat.le_refl _,by omega⟩
   refine ⟨_,_,rfl,x1,x2,SV.of_V ?_⟩
   have e1:((Lib.split s (c::t)).map AV.str).length=bs.length:=by rw [List.length_map,hll]
   rw [←e1]
   refine V.slc _ w.heap.size 0 ((Lib.split s (c::t)).map fun x=>Value.string ⟨x.toArray⟩) 1 _ (fun k u hk=> ?_) (zlW _) (fun e he=> ?_) (by omega) (Nat.le_refl _)
   ·have hkl:k<bs.length:=by
     have:=(List.getElem?_eq_some_iff.1 hk).1
     simp only [List.length_map] at this;omega
    refine ⟨by simp only [Nat.zero_add,if_true];rw [e1];exact hkl,?_,?_⟩
    ·simp only [World.cell?,hblk,Nat.zero_add]
     rw [hvals]
     simpa using hk
    ·have:=List.mem_of_getElem? hk
     obtain ⟨x,_,rfl⟩:=List.mem_map.1 this
     rfl
   ·obtain ⟨x,_,rfl⟩:=List.mem_map.1 he
    rfl
 ·cases he
end
end Go.Proofs.YtfcgnpphabplbaaGreatDoor
namespace Go.Proofs.YtfcgnpphabplbaaGreatDoor
open Go.Ak
theorem zpG:Builder.Extra Tryz.prog Tryz.lays156_ren where
 sizeBuilder:=by kernel_rfl
 liesBuilder:=by kernel_rfl
 t5:=Tryz.underlying5
 a5:=Tryz.isAgg5
 z5:=Tryz.sizeOf5
 v5:=Tryz.zeroValue5
 infoByte:=by kernel_rfl
 cellsByte:=by kernel_rfl
 sizeByte:=by kernel_rfl
 neB5:=of_decide_eq_true (by kernel_rfl)
section
variable {G:Nat→Option Obj} {bar:Nat} {xs:List AV} {H H':Heap} {out:Out}
theorem zxj (he:zqK xs H=some (out,H')) {g:Gh} {w:World} {us:List Value} (hh:HeapR (zah G) g w H) (ha:ArgsV (zah G) g w 0 xs us) :
  Calls Tryz.prog 102 us.toArray w (za4 (zah G) bar g w out H'):=by
 unfold zqK at he
 split at he
 ·rename_i t
  obtain ⟨u,v,rfl,hu,hv⟩:=zd9 ha
  have:=V.str_inv (show V (zah G) g w (.str t) v from hv)
  subst this
  have:=V.nils_inv (show V (zah G) g w .nils u from hu)
  subst this
  simp only [Option.some.injEq,Prod.mk.injEq] at he
  obtain ⟨rfl,rfl⟩:=he
  refine (Any.strings_Join_none Tryz.lays156 zpG none 0 ⟨t.toArray⟩ w).mono fun e w' ⟨he,hw⟩=> ?_
  subst he;subst hw
  exact ⟨g,_,rfl, .refl _ _ _,hh,SV.of_V (.str [])⟩
 ·rename_i es t
  split at he
  ·rename_i l hl
   obtain ⟨u,v,rfl,hu,hv⟩:=zd9 ha
   have:=V.str_inv (show V (zah G) g w (.str t) v from hv)
   subst this
   have hes:=zin hl
   subst hes
   obtain ⟨_,b,o,vs,st,cap,h1,h2,h3,h4,h5,rfl⟩:=V.slc_inv (show V (zah G) g w (.slc .ro (l.map AV.str)) u from hu)
   have hvs:=zuq l h2
   cases hb:(Nat.ble l.length 1000000&&Nat.ble (Lib.join l t).length 1000000000) with
   | false=>simp [hb] at he
   | true =>
    simp only [hb,cond_true,Option.some.injEq,Prod.mk.injEq] at he
    obtain ⟨rfl,rfl⟩:=he
    rw [Bool.and_eq_true] at hb
    have hb1:=Nat.le_of_ble_eq_true hb.1
    have hb2:=Nat.le_of_ble_eq_true hb.2
    have hln:(l.map AV.str).length=(l.map fun x=>(⟨x.toArray⟩:ByteArray)).length:=by simp
    have hmap:(l.map fun x=>(⟨x.toArray⟩:ByteArray)).map (·.data.toList)=l:=by
     rw [List.map_map]
     conv=>rhs;rw [←List.map_id l]
     exact List.map_congr_left fun x _=>by simp
    cases l with
    | nil =>
     refine (Any.strings_Join_none Tryz.lays156 zpG _ cap ⟨t.toArray⟩ w).mono fun e w' ⟨he,hw⟩=> ?_
     subst he;subst hw
     exact ⟨g,_,rfl, .refl _ _ _,hh,SV.of_V (.str [])⟩
    | cons x l' =>
     have hcell: ∀ (j:Nat) y,((x::l').map fun x=>(⟨x.toArray⟩:ByteArray))[j]? = some y→w.cell? ⟨b,o+j,none⟩=some (.string y):=fun j y hy=>by
      have:vs[j]? = some (.string y):=by
       rw [hvs]
       rw [List.getElem?_map] at hy ⊢
       cases hq:(x::l')[j]? with
       | none=>rw [hq] at hy;cases hy
       | some z=>rw [hq] at hy;simp only [Option.map_some,Option.some.injEq] at hy ⊢;rw [hy]
      exact (h1 j _ this).2.1
     have hbk:b<w.heap.size:=World.block_lt_of_cell? _ _ (hcell 0 _ rfl)
     rw [hln]
     refine (Any.strings_Join Tryz.lays156 zpG b o cap _ ⟨t.toArray⟩ w hcell hbk (by rw [List.length_map];omega) (by rw [←hln];exact h5) (by rw [hmap];show (Lib.join (x::l') t).length≤_;omega)).mono fun e w' ⟨he,hw⟩=> ?_
     subst he
     rw [hmap]
     exact ⟨g.later w',_,rfl,zef hh hw,zfB hh hw,SV.of_V (.str _)⟩
  ·cases he
 ·cases he
end
end Go.Proofs.YtfcgnpphabplbaaGreatDoor
namespace Go.Ak
def spC (n:Nat) (runs:Nat→CallF) (bar:Nat):CallF:=fun f xs H =>
 bif Nat.beq f 182 then zl1 xs H else bif Nat.beq f 202 then zqK xs H else spB n runs bar f xs H
end Go.Ak
namespace Go.Proofs.YtfcgnpphabplbaaGreatDoor
open Go.Ak
theorem zHI {G:Nat→Option Obj} (hG:zeA G):zC8 (zah G) fsT spC:=by
 intro n runs hr bar f xs H out H' hf he
 unfold spC at he
 cases h1:Nat.beq f 182 with
 | true =>
  have:=zan h1
  subst this
  exact ⟨by kernel_rfl,fun g w us hh ha=>zvN hG (by exact he) hh ha⟩
 | false =>
  cases h2:Nat.beq f 202 with
  | true =>
   have:=zan h2
   subst this
   exact ⟨by kernel_rfl,fun g w us hh ha=>zxj (by exact he) hh ha⟩
  | false =>
   simp only [h1,h2,cond_false] at he
   exact zHJ hG n runs hr bar f xs H out H' hf he
end Go.Proofs.YtfcgnpphabplbaaGreatDoor
namespace Go.Ak
def zi4 (xs:List AV) (H:Heap):Option (Out×Heap) :=
 match xs with
 | [.str s, .fn 190 []]=>bif Nat.ble s.length 4294967296 then some (.ret (.slc .ro ((zep s).map AV.str)),H) else none
 | _=>none
end Go.Ak
namespace Go.Proofs.YtfcgnpphabplbaaGreatDoor
open Go.RowKit Go.Lib Go.Ak
set_option maxHeartbeats 1000000 in
set_option maxRecDepth 100000 in
theorem Tryz.sIndexByte (s:ByteArray) (c:Int) (w:World) :
  Calls Tryz.prog 64 #[.string s, .int .u8 c] w fun e w'=>e= .returned (.int .i64 (Lib.indexByte s.data.toList c.toNat.toUInt8))∧w'=w:=by
 have mixed:Tryz.prog.follows .mixedOrders=true:=by kernel_rfl
 have e126: ∀ args w,(callFunc 90 args).run Tryz.prog w= .ok (.enter 90 args) w:=enters_of Tryz.func90 (by kernel_rfl) rfl
 go_enter Tryz.func64,Tryz.ntmps64
 go_wp2_with (go_at_fn 90;refine (Tryz.indexByte _ _ _).mono ?_;rintro e w' ⟨rfl,rfl⟩)
 go_ret
 exact ⟨rfl,rfl⟩
set_option maxHeartbeats 1000000 in
set_option maxRecDepth 100000 in
theorem Tryz.words1 (x:Nat) (hx:x≤1114111) (w:World) :
  Calls Tryz.prog 63 #[.int .i32 x] w fun e w'=>e= .returned (.bool (zgy x))∧w'=w:=by
 have mixed:Tryz.prog.follows .mixedOrders=true:=by kernel_rfl
 have e198: ∀ args w,(callFunc 64 args).run Tryz.prog w= .ok (.enter 64 args) w:=enters_of Tryz.func64 (by kernel_rfl) rfl
 by_cases h:(x:Int)<128
 ·have hn:x<128:=by omega
  have hw:IntKind.u8.wrap (x:Int)=x:=by simp [IntKind.wrap,IntKind.bits,IntKind.signed];omega
  go_enter Tryz.func63,Tryz.ntmps63
  go_wp2_with (go_at_fn 64;refine (Tryz.sIndexByte _ _ _).mono ?_;rintro e w' ⟨rfl,rfl⟩)
  all_goals
   go_ret
   refine ⟨?_,rfl⟩
   simp [zgy,hn,hw]
 ·have hn: ¬ x<128:=by omega
  go_enter Tryz.func63,Tryz.ntmps63
  go_wp2
  all_goals
   go_ret
   exact ⟨by simp [zgy,hn],rfl⟩
end Go.Proofs.YtfcgnpphabplbaaGreatDoor
namespace Go.Proofs.YtfcgnpphabplbaaGreatDoor
open Go.RowKit Go.Lib Go.Ak
section
variable {G:Nat→Option Obj} {bar:Nat} {xs:List AV} {H H':Heap} {out:Out}
theorem hi154:(Tryz.prog.info? (Tryz.lays229_ren.t 154)).map (fun i=>(i.zero,i.size,i.bytes))=some (some (.agg #[.int .i64 0, .int .i64 0]),2,16):=by kernel_rfl
theorem hi9F:(Tryz.prog.info? (Tryz.lays229_ren.t 9)).map (fun i=>(i.zero,i.size,i.bytes))=some (some (.string ⟨#[]⟩),1,16):=by kernel_rfl
theorem zsK (he:zi4 xs H=some (out,H')) {g:Gh} {w:World} {us:List Value} (hh:HeapR (zah G) g w H) (ha:ArgsV (zah G) g w 0 xs us) :
  Calls Tryz.prog 62 us.toArray w (za4 (zah G) bar g w out H'):=by
 unfold zi4 at he
 split at he
 ·rename_i s
  obtain ⟨u,v,rfl,hu,hv⟩:=zd9 ha
  have:=V.str_inv (show V (zah G) g w (.str s) u from hu)
  subst this
  obtain ⟨us,hus,rfl⟩:=V.fn_inv (show V (zah G) g w (.fn 190 []) v from hv)
  cases hus
  cases hl:Nat.ble s.length 4294967296 with
  | false=>simp [hl] at he
  | true =>
   simp only [hl,cond_true,Option.some.injEq,Prod.mk.injEq] at he
   obtain ⟨rfl,rfl⟩:=he
   have hs:(⟨s.toArray⟩:ByteArray).size≤4294967296:=Nat.le_of_ble_eq_true hl
   have eg: ∀ args w,(callFunc 63 args).run Tryz.prog w= .ok (.enter 63 args) w:=enters_of Tryz.func63 (by kernel_rfl) rfl
   have hp:PredGrows Tryz.prog 63 #[] zgy w:=fun W x hx _=>(Tryz.words1 x hx W).mono fun e w' ⟨he,hw⟩=>⟨he,hw▸Below.refl _ _⟩
   refine (Any.strings_FieldsFunc_grows Tryz.lays229 63 #[] eg zgy ⟨s.toArray⟩ w hs hp hi154 hi9F).mono fun e w' ⟨A,he,hA,hrow,hB⟩=> ?_
   subst he
   have hdata:=zrd s
   generalize hbs:Lib.goFieldsP zgy ⟨s.toArray⟩=bs at *
   have hvals:bs.map Value.string=(zep s).map fun x=>Value.string ⟨x.toArray⟩:=by
    rw [←hdata,List.map_map]
    exact List.map_congr_left fun x _=>by simp
   have hll:(zep s).length=bs.length:=by rw [←hdata,List.length_map]
   obtain ⟨r1,r2⟩:=hrow
   rcases r2 with ⟨e,_⟩ | ⟨q,cap,cur,e,hq1,hq2,hq3,hq4,hq5,hq6⟩
   ·cases e
   ·cases e
    have hq:A<w'.heap.size:=(Array.getElem?_eq_some_iff.1 hq2).1
    obtain ⟨x1,x2⟩:=zmm (bar:=bar) hh hB A bs.length ⟨hA,hq⟩
    refine ⟨_,_,rfl,x1,x2,SV.of_V ?_⟩
    have e1:((zep s).map AV.str).length=bs.length:=by rw [List.length_map,hll]
    rw [←e1] at hq3 ⊢
    refine V.slc _ A 0 ((zep s).map fun x=>Value.string ⟨x.toArray⟩) 1 _ (fun k u hk=> ?_) (zlW _) (fun e he=> ?_) (by omega) hq3
    ·have hkl:k<bs.length:=by
      have:=(List.getElem?_eq_some_iff.1 hk).1
      simp only [List.length_map] at this;omega
     refine ⟨by simp only [Nat.zero_add,if_true];rw [e1];exact hkl,?_,?_⟩
     ·simp only [World.cell?,hq2,Nat.zero_add]
      rw [←hvals,←hq6,List.getElem?_take,if_pos (by omega),Array.getElem?_toList] at hk
      simpa using hk
     ·have:=List.mem_of_getElem? hk
      obtain ⟨x,_,rfl⟩:=List.mem_map.1 this
      rfl
    ·obtain ⟨x,_,rfl⟩:=List.mem_map.1 he
     rfl
 ·cases he
end
end Go.Proofs.YtfcgnpphabplbaaGreatDoor
namespace Go.Proofs.YtfcgnpphabplbaaGreatDoor
open Go.RowKit Go.Lib Go.Ak
theorem zFl: ∃ i,Tryz.prog.info? 9=some i∧i.zero=some (.string ⟨#[]⟩)∧i.size=1∧i.bytes=16:=by
 have h:(Tryz.prog.info? 9).map (fun i=>(i.zero,i.size,i.bytes))=some (some (.string ⟨#[]⟩),1,16):=by kernel_rfl
 cases hq:Tryz.prog.info? 9 with
 | none=>rw [hq] at h;cases h
 | some i=>rw [hq] at h;simp only [Option.map_some,Option.some.injEq,Prod.mk.injEq] at h;exact ⟨i,rfl,h.1,h.2⟩
theorem zAW:Tryz.prog.underlying 24=some (.slice 9):=by kernel_rfl
def zbB (n:Nat):Array Value:=(List.replicate n (Value.string ⟨#[]⟩)).toArray
theorem zBF (n:Nat) (hn:n≤1000000) (w:World):(Instr.makeSlice 24 (.int .i64 n) (.int .i64 n)).run Tryz.prog w= .ok (.slice (some ⟨w.heap.size,0,none⟩) n n) (w.alloc (.cells (zbB n) 9)):=by
 obtain ⟨i9,hi9,hz,hsz,hb⟩:=zFl
 have:=run_make (P:=Tryz.prog) w 24 9 i9 (.string ⟨#[]⟩) zAW hi9 hz .i64 .i64 n n (by omega) (by omega) (by rw [hb];omega) (by omega)
 rw [this,hsz]
 have hc:madeCells (Value.string ⟨#[]⟩).cells (n*1)=zbB n:=by
  rw [Nat.mul_one]
  exact (Lib.cellsOf_nil n).symm.trans (by simp [Lib.cellsOf,zbB];exact .inr rfl)
 simp only [Int.toNat_natCast]
 rw [hc]
set_option maxHeartbeats 2000000 in
set_option maxRecDepth 100000 in
theorem zl9 (b off n:Nat) (hn:n≤1000000) (w w2:World) (sv r:Value) (h0:w.cell? ⟨b,off+1,none⟩=some sv)
  (hcp:(Builtin.copy_ #[24,24] 3 #[.slice (some ⟨w.heap.size,0,none⟩) n n,sv]).run Tryz.prog (w.alloc (.cells (zbB n) 9))= .ok r w2) :
  Calls Tryz.prog 50 #[.pointer (some ⟨b,off,none⟩), .int .i64 n] w fun e w'=>e= .returned (.slice (some ⟨w.heap.size,0,none⟩) n n)∧w'=w2:=by
 have mixed:Tryz.prog.follows .mixedOrders=true:=by kernel_rfl
 have hmk:=zBF n hn w
 have hlt:=World.block_lt_of_cell? _ _ h0
 have h1:(w.alloc (.cells (zbB n) 9)).cell? ⟨b,off+1,none⟩=some sv:=by rw [World.cell?_alloc_old _ _ _ (Nat.ne_of_lt hlt)];exact h0
 generalize w.alloc (.cells (zbB n) 9)=w1 at *
 go_enter Tryz.func50,Tryz.ntmps50
 go_wp2
 go_ret
 exact ⟨rfl,rfl⟩
end Go.Proofs.YtfcgnpphabplbaaGreatDoor
namespace Go.Ak
def znw (l:List (List UInt8)) (n:Nat):List (List UInt8):=l.take n++List.replicate (n-l.length) []
def zhS (xs:List AV) (H:Heap):Option (Out×Heap) :=
 match xs with
 | [.ptr id off, .int .i64 n]=>bif decide (0≤n)&&decide (n≤1000000) then
   match H[id]? with
   | some (some cs)=>match cs[off+1]? with
    | some .nils=>some (.ret (.slc .own ((znw [] n.toNat).map AV.str)),H)
    | some (.slc .ro es)=>match zeG es with
     | some l=>some (.ret (.slc .own ((znw l n.toNat).map AV.str)),H)
     | none=>none
    | _=>none
   | _=>none
  else none
 | _=>none
section
variable {T:Tr} {bar:Nat} {g:Gh} {w w':World} {H:Heap}
theorem zys (hh:HeapR T g w H) (hB:RowKit.Below w.heap.size w w') (q:Nat) (hq:w.heap.size≤q∧q<w'.heap.size) :
  Ext bar g w { ob:=g.ob,S:=g.S,own:=fun b=>if b<w.heap.size then g.own b else if b=q then .res else .free } w' ∧
  HeapR T { ob:=g.ob,S:=g.S,own:=fun b=>if b<w.heap.size then g.own b else if b=q then .res else .free } w' H:=by
 have lt: ∀ b,g.own b ≠ .free→b<w.heap.size:=fun b hb=>zcS hh hb
 have ext: ∀ bar,Ext bar g w { ob:=g.ob,S:=g.S,own:=fun b=>if b<w.heap.size then g.own b else if b=q then .res else .free } w':=fun bar=>by
  refine ⟨hB.size,fun b=>Nat.le_refl _,fun b o ho=> ?_,fun _ _ h=>h,fun b x hx=> ?_,fun b hb=> ?_,fun id b _ hob hb=> ?_,hB.os,by rw [hB.output,hB.tape]⟩
  ·have hb:b<w.heap.size:=by
    rcases Nat.lt_or_ge b w.heap.size with h | h
    ·exact h
    ·rw [(hh.fresh b h).2] at ho;omega
   simp only [World.cell?,hB.block b hb]
  ·have hb:b<w.heap.size:=by
    rcases Nat.lt_or_ge b w.heap.size with h | h
    ·exact h
    ·simp [World.shape?,Array.getElem?_eq_none h] at hx
   simp only [World.shape?,hB.block b hb] at hx ⊢
   exact hx
  ·have hlt:=lt b (by rw [hb];simp)
   exact ⟨by simp only;rw [if_pos hlt];exact hb,rfl,hB.block b hlt⟩
  ·have hlt:=lt b (by rw [hb];simp)
   exact ⟨by simp only;rw [if_pos hlt];exact hb,rfl,hB.block b hlt⟩
 refine ⟨ext bar,hh.frame (ext 0) (fun b id hb=> ?_) rfl (fun b hb=> ?_)⟩
 ·have hlt:=lt b (by rw [hb];simp)
  exact ⟨by simp only;rw [if_pos hlt];exact hb,rfl,hB.block b hlt⟩
 ·have:=hB.size
  exact ⟨by simp only;rw [if_neg (by omega),if_neg (by omega)],(hh.fresh b (by omega)).2⟩
theorem zqY (hh:HeapR T g w H) (hB:RowKit.Below w.heap.size w w') (l:List (List UInt8)) (ty:TypeId) (hsz:w'.heap.size=w.heap.size+1)
  (hblk:w'.heap[w.heap.size]? = some (.cells (l.map fun x=>Value.string ⟨x.toArray⟩).toArray ty (0,0))) :
  ∃ g',Ext bar g w g' w'∧HeapR T g' w' H∧SV T g' w' .res (.slc .own (l.map AV.str)) (.slice (some ⟨w.heap.size,0,none⟩) l.length l.length):=by
 obtain ⟨x1,x2⟩:=zys (bar:=bar) hh hB w.heap.size ⟨Nat.le_refl _,by omega⟩
 have hb:blk w' w.heap.size (l.map fun x=>Value.string ⟨x.toArray⟩).toArray:=⟨⟨ty,(0,0),hblk⟩,fun k _=>by simp [World.frozen?,hblk],fun v hv=>by
  obtain ⟨x,_,rfl⟩:=List.mem_map.1 (by simpa using hv)
  rfl⟩
 have hlm:(l.map AV.str).length=l.length:=List.length_map ..
 refine ⟨_,x1,x2,w.heap.size,0,l.length,(l.map fun x=>Value.string ⟨x.toArray⟩).toArray,1,by rw [hlm],⟨by simp,(hh.fresh _ (Nat.le_refl _)).2,hb⟩,by simp,by simp,⟨by omega,fun e=>by simpa using congrArg List.length e⟩,fun e he=> ?_,_,zlW l,fun k v hk=> ?_⟩
 ·obtain ⟨x,_,rfl⟩:=List.mem_map.1 he
  rfl
 ·rw [Nat.zero_add]
  simpa using hk
end
end Go.Ak
namespace Go.Proofs.YtfcgnpphabplbaaGreatDoor
open Go.RowKit Go.Lib Go.Ak
section
variable {G:Nat→Option Obj} {bar:Nat} {xs:List AV} {H H':Heap} {out:Out}
theorem zuP (l:List (List UInt8)) (n:Nat):(znw l n).length=n:=by
 simp [znw];omega
theorem zyD (n:Nat):(zbB n)=((znw [] n).map fun x=>Value.string ⟨x.toArray⟩).toArray:=by
 simp [zbB,znw]
theorem zsI (he:zhS xs H=some (out,H')) {g:Gh} {w:World} {us:List Value} (hh:HeapR (zah G) g w H) (ha:ArgsV (zah G) g w 0 xs us) :
  Calls Tryz.prog 50 us.toArray w (za4 (zah G) bar g w out H'):=by
 unfold zhS at he
 split at he
 ·rename_i id off n
  obtain ⟨u,v,rfl,hu,hv⟩:=zd9 ha
  obtain ⟨b,hb,rfl⟩:=V.ptr_inv (show V (zah G) g w (.ptr id off) u from hu)
  have:=V.int_inv (show V (zah G) g w (.int .i64 n) v from hv)
  subst this
  cases hn:(decide (0≤n)&&decide (n≤1000000)) with
  | false=>simp [hn] at he
  | true =>
   simp only [hn,cond_true] at he
   simp only [Bool.and_eq_true,decide_eq_true_eq] at hn
   obtain ⟨m,rfl⟩: ∃ m:Nat,n=m:=⟨n.toNat,by omega⟩
   have hm:m≤1000000:=by omega
   have hmt:((m:Int)).toNat=m:=by omega
   rw [hmt] at he
   split at he
   ·rename_i cs hid
    split at he
    ·rename_i hc
     obtain ⟨v,c1,c2,c3⟩:=hh.cell hb hid hc
     have:=V.nils_inv c2
     subst this
     simp only [Option.some.injEq,Prod.mk.injEq] at he
     obtain ⟨rfl,rfl⟩:=he
     have hcp:=run_copy_nil (P:=Tryz.prog) (w.alloc (.cells (zbB m) 9)) 24 24 3 9 ⟨w.heap.size,0,none⟩ m m zAW (by kernel_rfl)
     refine (zl9 b off m hm w _ _ _ c1 hcp).mono fun e w' ⟨he,hw⟩=> ?_
     subst he
     have hB:Below w.heap.size w w':=by rw [hw];exact (Below.refl _ w).alloc (Nat.le_refl _) _
     obtain ⟨g',x1,x2,x3⟩:=zqY (bar:=bar) hh hB (znw [] m) 9 (by rw [hw];simp) (by rw [hw,zyD];exact Array.getElem?_push_size)
     rw [zuP] at x3
     exact ⟨g',_,rfl,x1,x2,x3⟩
    ·rename_i es hc
     split at he
     ·rename_i l hl
      simp only [Option.some.injEq,Prod.mk.injEq] at he
      obtain ⟨rfl,rfl⟩:=he
      obtain ⟨v,c1,c2,c3⟩:=hh.cell hb hid hc
      have hes:=zin hl
      subst hes
      obtain ⟨_,b',o,vs,st,cap,h1,h2,h3,h4,h5,rfl⟩:=V.slc_inv c2
      have hvs:=zuq l h2
      rw [List.length_map] at c1
      have hsrc: ∀ j v,((l.take m).map fun x=>Value.string ⟨x.toArray⟩)[j]? = some v→(w.alloc (.cells (zbB m) 9)).cell? ((⟨b',o,none⟩:Addr).add j)=some v:=fun j v hj=>by
       have hvj:vs[j]? = some v:=by
        rw [hvs,←hj,List.map_take,List.getElem?_take]
        have:j<m:=by
         have:=(List.getElem?_eq_some_iff.1 hj).1
         simp at this;omega
        rw [if_pos this]
       have hcell:=(h1 j v hvj).2.1
       have hlt:=World.block_lt_of_cell? _ _ hcell
       rw [Addr.add_lit,World.cell?_alloc_old _ _ _ (Nat.ne_of_lt hlt)]
       exact hcell
      have hcp:=run_copy_row (P:=Tryz.prog) (w.alloc (.cells (zbB m) 9)) 24 24 3 9 w.heap.size 0 m m ⟨b',o,none⟩ l.length cap (zbB m) 9 ((l.take m).map fun x=>Value.string ⟨x.toArray⟩) zAW (by kernel_rfl)
       Array.getElem?_push_size (by rw [List.length_map,List.length_take];exact Nat.min_comm _ _) hsrc (by simp [zbB];omega) (fun v hv=>by obtain ⟨x,_,rfl⟩:=List.mem_map.1 hv;rfl)
      refine (zl9 b off m hm w _ _ _ c1 hcp).mono fun e w' ⟨he,hw⟩=> ?_
      subst he
      have hrow:((zbB m).toList.take 0++((l.take m).map fun x=>Value.string ⟨x.toArray⟩)++(zbB m).toList.drop (0+((l.take m).map fun x=>Value.string ⟨x.toArray⟩).length)).toArray=((znw l m).map fun x=>Value.string ⟨x.toArray⟩).toArray:=by
       have e1:(zbB m).toList=List.replicate m (Value.string ⟨#[]⟩):=by simp [zbB]
       have e2:m-min m l.length=m-l.length:=by omega
       rw [e1,List.take_zero,List.nil_append,Nat.zero_add,List.drop_replicate,List.length_map,List.length_take,e2]
       unfold znw
       rw [List.map_append,List.map_replicate]
      rw [hrow] at hw
      have hB:Below w.heap.size w w':=by rw [hw];exact below_setRow ((Below.refl _ w).alloc (Nat.le_refl _) _) (Nat.le_refl _) _
      obtain ⟨g',x1,x2,x3⟩:=zqY (bar:=bar) hh hB (znw l m) 9 (by rw [hw];simp) (by rw [hw];exact setRow_heap _ _ _ _ _ _ Array.getElem?_push_size)
      rw [zuP] at x3
      exact ⟨g',_,rfl,x1,x2,x3⟩
     ·cases he
    ·cases he
   ·cases he
 ·cases he
end
end Go.Proofs.YtfcgnpphabplbaaGreatDoor
namespace Go.Ak
def spD (n:Nat) (runs:Nat→CallF) (bar:Nat):CallF:=fun f xs H =>
 bif Nat.beq f 191 then zi4 xs H else bif Nat.beq f 187 then zhS xs H else spC n runs bar f xs H
end Go.Ak
namespace Go.Proofs.YtfcgnpphabplbaaGreatDoor
open Go.Ak
theorem zHH {G:Nat→Option Obj} (hG:zeA G):zC8 (zah G) fsT spD:=by
 intro n runs hr bar f xs H out H' hf he
 unfold spD at he
 cases h1:Nat.beq f 191 with
 | true =>
  have:=zan h1
  subst this
  exact ⟨by kernel_rfl,fun g w us hh ha=>zsK (by exact he) hh ha⟩
 | false =>
  cases h2:Nat.beq f 187 with
  | true =>
   have:=zan h2
   subst this
   exact ⟨by kernel_rfl,fun g w us hh ha=>zsI (by exact he) hh ha⟩
  | false =>
   simp only [h1,h2,cond_false] at he
   exact zHI hG n runs hr bar f xs H out H' hf he
end Go.Proofs.YtfcgnpphabplbaaGreatDoor
