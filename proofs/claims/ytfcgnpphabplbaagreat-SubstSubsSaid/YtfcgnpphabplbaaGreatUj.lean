/- All told by a function of its own; all such functions together. -/
import Derived.Test.YtfcgnpphabplbaaGreatUh
import Derived.Test.YtfcgnpphabplbaaGreatUi
set_option linter.unusedVariables false
set_option linter.unusedSimpArgs false

namespace Go.Ak

/-- A find: from where to where, whether. -/
def findC (runs:Nat→CallF) (id off:Nat) (s:List UInt8) (H:Heap) (at':Int):Option (Int×Int×Bool) :=
 match runs H.length 43 [.ptr id off, .str s, .int .i64 at'] H with
 | some (.ret (.tup [.int .i64 f, .int .i64 t, .bool b]),_)=>some (f,t,b)
 | _=>none

def pairA (x:Int×Int):AV:= .agg [.int .i64 x.1, .int .i64 x.2]

/-- Pairs as a slice. -/
def zfb:List (Int×Int)→AV
 | []=> .nils
 | x::l=> .slc .ro ((x::l).map pairA)

def spAll (n:Nat) (runs:Nat→CallF) (xs:List AV) (H:Heap):Option (Out×Heap) :=
 match xs with
 | [.ptr id off, .str s]=>match zbD (findC runs id off s H) s.length n 0 (-1) with
  | some l=>bif Nat.ble l.length 1000000 then some (.ret (zfb l),H) else none
  | none=>none
 | _=>none

theorem zgd {f g:Int→Option (Int×Int×Bool)} (h: ∀ a r,f a=some r→g a=some r) {len:Int}: ∀ (n m:Nat) (at' last:Int) (l:List (Int×Int)),n≤m→zbD f len n at' last=some l→zbD g len m at' last=some l
 | 0,_,_,_,_,_,e=>by simp [zbD] at e
 | n+1,0,_,_,_,hl,_=>by omega
 | n+1,m+1,at',last,l,hl,e=>by
  simp only [zbD] at e ⊢
  cases hd:decide (at'≤len)<;>rw [hd] at e<;>simp only [cond_true,cond_false] at e ⊢
  ·exact e
  ·cases hf:f at' with
   | none=>simp [hf] at e
   | some q =>
    obtain ⟨a,b,c⟩:=q
    rw [h _ _ hf]
    simp only [hf] at e ⊢
    cases c<;>simp only [cond_true,cond_false] at e ⊢
    ·exact e
    ·cases hs:(decide (a=b)&&decide (a=last))<;>rw [hs] at e<;>simp only [cond_true,cond_false] at e ⊢
     ·cases hr:zbD f len n b b with
      | none=>simp [hr] at e
      | some r =>
       rw [zgd h n m b b r (by omega) hr]
       simpa [hr] using e
     ·exact zgd h n m _ _ l (by omega) e

theorem findC_mono {c d:Nat→CallF} (h: ∀ b,CallF.le (c b) (d b)) (id off:Nat) (s:List UInt8) (H:Heap) (a:Int) (r) (e:findC c id off s H a=some r):findC d id off s H a=some r:=by
 unfold findC at e ⊢
 cases hr:c H.length 43 [.ptr id off, .str s, .int .i64 a] H with
 | none=>rw [hr] at e;cases e
 | some q=>rw [h _ _ _ _ _ hr];rw [hr] at e;exact e

theorem spAll_mono {n m:Nat} {c d:Nat→CallF} (hn:n≤m) (h: ∀ b,CallF.le (c b) (d b)) (xs:List AV) (H:Heap) (r:Out×Heap) (e:spAll n c xs H=some r):spAll m d xs H=some r:=by
 unfold spAll at e ⊢
 split at e
 ·rename_i id off s
  split at e
  ·rename_i l hl
   rw [zgd (fun a r=>findC_mono h id off s H a r) n m 0 (-1) l hn hl]
   exact e
  ·cases e
 ·cases e

/-- The ghost of a later world, all that is there being kept but the objects. -/
def Gh.later (g:Gh) (W:World):Gh where
 ob:=g.ob
 S:=g.S
 own b:=if b<W.heap.size then (match g.own b with
  | .obj id=>if g.ob id=some b then .obj id else .kept
  | _=> .kept) else .free

section
variable {T:Tr} {bar:Nat} {g:Gh} {w W:World} {H:Heap}

theorem later_ext (hh:HeapR T g w H) (hW:RowKit.Below w.heap.size w W):Ext bar g w (g.later W) W:=by
 have lt: ∀ b,g.own b ≠ .free→b<w.heap.size:=fun b hb=>zeo hh hb
 refine ⟨hW.size,fun _=>Nat.le_refl _,fun b o ho=> ?_,fun _ _ h=>h,fun b x hx=> ?_,fun b hb=> ?_,fun id b _ hob hb=> ?_,hW.os,by rw [hW.output,hW.tape]⟩
 ·have hb:b<w.heap.size:=by
   rcases Nat.lt_or_ge b w.heap.size with h | h
   ·exact h
   ·rw [(hh.fresh b h).2] at ho;omega
  simp only [World.cell?,hW.block b hb]
 ·have hb:b<w.heap.size:=by
   rcases Nat.lt_or_ge b w.heap.size with h | h
   ·exact h
   ·simp [World.shape?,Array.getElem?_eq_none h] at hx
  simp only [World.shape?,hW.block b hb] at hx ⊢
  exact hx
 ·have hlt:=lt b (by rw [hb];simp)
  have:=hW.size
  exact ⟨by simp only [Gh.later];rw [if_pos (by omega),hb],rfl,hW.block b hlt⟩
 ·have hlt:=lt b (by rw [hb];simp)
  have:=hW.size
  exact ⟨by simp only [Gh.later];rw [if_pos (by omega),hb];simp [hob],rfl,hW.block b hlt⟩

theorem later_heap (hh:HeapR T g w H) (hW:RowKit.Below w.heap.size w W):HeapR T (g.later W) W H where
 objs id cs hc:=by
  obtain ⟨b,arr,h1,⟨h2,h3,h4⟩,h5,h6⟩:=hh.objs id cs hc
  obtain ⟨k1,k2,k3⟩:=(later_ext (bar:=id+1) hh hW).low id b (Nat.lt_succ_self _) h1 h2
  exact ⟨b,arr,h1,⟨k1,k2.trans h3,h4.congr k3⟩,Vs.mono (later_ext (bar:=0) hh hW) h5,h6⟩
 ob id b hb:=hh.ob id b hb
 fresh b hb:=by
  have:=hW.size
  exact ⟨by simp only [Gh.later];rw [if_neg (by omega)],(hh.fresh b (by omega)).2⟩
 gl b x hb:=by
  obtain ⟨k1,k2⟩:=hh.gl b x hb
  obtain ⟨j1,_,j3⟩:=(later_ext (bar:=0) hh hW).kept b k1
  exact ⟨j1,j3.trans k2⟩

/-- A call by a heap that it does not write leaves all that was there. -/
theorem later_below {g':Gh} {W':World} (hh:HeapR T g w H) (he:Ext H.length (g.later W) W g' W'):RowKit.Below W.heap.size W W':=by
 have ho:W'.output=W.output∧W'.tape=W.tape:=by simpa using he.out
 refine ⟨he.os,ho.2,ho.1,he.size,fun b hb=> ?_⟩
 cases hk:(g.later W).own b with
 | kept=>exact (he.kept b hk).2.2
 | obj id =>
  have hob:g.ob id=some b:=by
   simp only [Gh.later] at hk
   rw [if_pos hb] at hk
   split at hk
   ·split at hk
    ·cases hk;assumption
    ·cases hk
   ·cases hk
  exact (he.low id b (hh.ob id b hob) hob hk).2.2
 | _ =>
  simp only [Gh.later] at hk
  rw [if_pos hb] at hk
  split at hk
  ·split at hk<;>cases hk
  ·cases hk

end
end Go.Ak

namespace Go.Proofs.YtfcgnpphabplbaaGreat
open Go.Ak

section
variable {G:Nat→Option Obj} {bar n:Nat} {xs:List AV} {H H':Heap} {out:Out}

theorem finds_ok {runs:Nat→CallF} (hr:zdK (zal G) H.length (runs H.length)) {g:Gh} {w:World} (hh:HeapR (zal G) g w H) {id off:Nat} {pv:Value} (hp:V (zal G) g w (.ptr id off) pv) (s:List UInt8) :
  Finds w pv ⟨s.toArray⟩ (findC runs id off s H):=by
 intro W hW at' f t b hf
 unfold findC at hf
 split at hf
 ·rename_i f' t' b' H1 hrun
  simp only [Option.some.injEq,Prod.mk.injEq] at hf
  obtain ⟨rfl,rfl,rfl⟩:=hf
  have hA:ArgsV (zal G) (g.later W) W 0 [.ptr id off, .str s, .int .i64 at'] [pv, .string ⟨s.toArray⟩, .int .i64 at'] :=
   .cons _ _ _ _ _ (SV.of_V (V.mono (later_ext (bar:=0) hh hW) hp)) (.cons _ _ _ _ _ (SV.of_V (.str s)) (.cons _ _ _ _ _ (SV.of_V (.int _ _)) (.nil _)))
  refine ((hr _ _ _ _ _ hrun).2 _ _ _ (later_heap hh hW) hA).mono fun e W' hq=> ?_
  cases e with
  | returned v =>
   obtain ⟨g',a,ea,e1,e2,e3⟩:=hq
   simp only [Out.ret.injEq] at ea
   subst ea
   obtain ⟨cs,hcs,rfl⟩:=V.tup_inv (show V _ _ _ (.tup [.int .i64 f', .int .i64 t', .bool b']) v from e3)
   refine ⟨?_,later_below hh e1⟩
   cases hcs with
   | cons _ _ _ _ k1 k2 =>
    cases k2 with
    | cons _ _ _ _ k3 k4 =>
     cases k4 with
     | cons _ _ _ _ k5 k6 =>
      cases k6
      have q1:=V.int_inv k1
      have q2:=V.int_inv k3
      have q3:=V.bool_inv k5
      subst q1 q2 q3
      rfl
  | panicked ch =>
   obtain ⟨_,_,_,_,h1,_⟩:=hq
   cases h1
  | outgrown=>exact hq.elim
 ·cases hf

theorem pairs_flat: ∀ (l:List (Int×Int)) {T:Tr} {g:Gh} {w:World},Vs T g w (flat (l.map pairA)) (l.flatMap pairC)
 | [],_,_,_=> .nil
 | x::l,T,g,w=>by
  simp only [List.map_cons,flat,List.flatMap_cons]
  exact .cons _ _ _ _ (.int _ _) (.cons _ _ _ _ (.int _ _) (pairs_flat l))

theorem pairC_len: ∀ (l:List (Int×Int)),(l.flatMap pairC).length=l.length*2
 | []=>rfl
 | x::l=>by
  rw [List.flatMap_cons,List.length_append,pairC_len l]
  simp [pairC];omega

theorem pairC_one: ∀ (l:List (Int×Int)),∀ v∈l.flatMap pairC,v.oneCell'=true
 | l,v,h=>by
  obtain ⟨x,_,hx⟩:=List.mem_flatMap.1 h
  simp [pairC] at hx
  rcases hx with rfl | rfl<;>rfl

theorem spAll_ok {runs:Nat→CallF} (hr: ∀ bar,zdK (zal G) bar (runs bar)) (he:spAll n runs xs H=some (out,H')) {g:Gh} {w:World} {us:List Value} (hh:HeapR (zal G) g w H) (ha:ArgsV (zal G) g w 0 xs us) :
  Calls Tryz.prog 29 us.toArray w (zc1 (zal G) bar g w out H'):=by
 unfold spAll at he
 split at he
 ·rename_i id off s
  obtain ⟨u,v,rfl,hu,hv⟩:=two_args ha
  have:=V.str_inv (show V (zal G) g w (.str s) v from hv)
  subst this
  have hp:=(show V (zal G) g w (.ptr id off) u from hu)
  obtain ⟨b,hb,rfl⟩:=V.ptr_inv hp
  split at he
  ·rename_i l hl
   cases hlen:Nat.ble l.length 1000000 with
   | false=>simp [hlen] at he
   | true =>
    simp only [hlen,cond_true,Option.some.injEq,Prod.mk.injEq] at he
    obtain ⟨rfl,rfl⟩:=he
    have hsz:((⟨s.toArray⟩:ByteArray).size:Int)=s.length:=by simp [ByteArray.size]
    refine (callsIn_wide.1 (all_in 5 (by omega) _ ⟨s.toArray⟩ w _ (finds_ok (hr _) hh hp s) l n (by rw [hsz];exact hl) (Nat.le_of_ble_eq_true hlen))).mono fun e w' hq=> ?_
    obtain ⟨v,rfl,hrow,hnil,hB⟩:=hq
    have gen: ∀ (q:Nat) (Sq:Nat),(w.heap.size≤q∧q<w'.heap.size)→ ∀ (bar:Nat),Ext bar g w { ob:=g.ob,S:=fun b=>if b=q then Sq else g.S b,own:=fun b=>if b<w.heap.size then g.own b else .free } w' ∧
      HeapR (zal G) { ob:=g.ob,S:=fun b=>if b=q then Sq else g.S b,own:=fun b=>if b<w.heap.size then g.own b else .free } w' H:=fun q Sq hq bar=>by
     have lt: ∀ b,g.own b ≠ .free→b<w.heap.size:=fun b hb=>zeo hh hb
     have hS: ∀ b,b<w.heap.size→(if b=q then Sq else g.S b)=g.S b:=fun b hb=>if_neg (by omega)
     have ext: ∀ bar,Ext bar g w { ob:=g.ob,S:=fun b=>if b=q then Sq else g.S b,own:=fun b=>if b<w.heap.size then g.own b else .free } w':=fun bar=>by
      refine ⟨hB.size,fun b=> ?_,fun b o ho=> ?_,fun _ _ h=>h,fun b x hx=> ?_,fun b hb=> ?_,fun id b _ hob hb=> ?_,hB.os,by rw [hB.output,hB.tape]⟩
      ·show g.S b≤if b=q then Sq else g.S b
       by_cases e:b=q
       ·subst e;rw [(hh.fresh b hq.1).2];omega
       ·rw [if_neg e];exact Nat.le_refl _
      ·have hb:b<w.heap.size:=by
        rcases Nat.lt_or_ge b w.heap.size with h | h
        ·exact h
        ·rw [(hh.fresh b h).2] at ho;omega
       simp only [World.cell?,hB.block b hb]
      ·have hb:b<w.heap.size:=by
        rcases Nat.lt_or_ge b w.heap.size with h | h
        ·exact h
        ·simp [World.shape?,Array.getElem?_eq_none h] at hx
       simp only [World.shape?,hB.block b hb] at hx ⊢
       exact hx
      ·have hlt:=lt b (by rw [hb];simp)
       exact ⟨by simp only;rw [if_pos hlt];exact hb,hS b hlt,hB.block b hlt⟩
      ·have hlt:=lt b (by rw [hb];simp)
       exact ⟨by simp only;rw [if_pos hlt];exact hb,hS b hlt,hB.block b hlt⟩
     refine ⟨ext bar,hh.frame (ext 0) (fun b id hb=> ?_) rfl (fun b hb=> ?_)⟩
     ·have hlt:=lt b (by rw [hb];simp)
      exact ⟨by simp only;rw [if_pos hlt];exact hb,hS b hlt,hB.block b hlt⟩
     ·have:=hB.size
      refine ⟨by simp only;rw [if_neg (by omega)],?_⟩
      show (if b=q then Sq else g.S b)=0
      rw [if_neg (by omega)]
      exact (hh.fresh b (by omega)).2
    obtain ⟨r1,r2⟩:=hrow
    rcases r2 with ⟨rfl,_⟩ | ⟨q,cap,cur,rfl,hq1,hq2,hq3,hq4,hq5,hq6⟩
    ·have hl0:=hnil.1 rfl
     subst hl0
     exact ⟨g.later w',_,rfl,later_ext hh hB,later_heap hh hB,SV.of_V .nils⟩
    ·have hq:q<w'.heap.size:=(Array.getElem?_eq_some_iff.1 hq2).1
     obtain ⟨x1,x2⟩:=gen q (l.length*2) ⟨hq1,hq⟩ bar
     have hne:l ≠ []:=fun e=>by have:=hnil.2 e;cases this
     obtain ⟨y,l',rfl⟩: ∃ y l',l=y::l':=by cases l with | nil=>exact absurd rfl hne | cons y l'=>exact ⟨y,l',rfl⟩
     refine ⟨_,_,rfl,x1,x2,SV.of_V ?_⟩
     simp only [zfb]
     have e1:((y::l').map pairA).length=(y::l').length:=by simp
     rw [←e1] at hq3 ⊢
     refine V.slc _ q 0 ((y::l').flatMap pairC) 2 cap (fun k u hk=> ?_) (pairs_flat _) (fun e he=> ?_) (by omega) hq3
     ·have hkl:k<(y::l').length*2:=by
       have:=(List.getElem?_eq_some_iff.1 hk).1
       rw [pairC_len] at this;exact this
      refine ⟨by simp only [Nat.zero_add,if_true];rw [e1];exact hkl,?_,pairC_one _ u (List.mem_of_getElem? hk)⟩
      simp only [World.cell?,hq2,Nat.zero_add]
      rw [←hq6,List.getElem?_take,if_pos hkl,Array.getElem?_toList] at hk
      simpa using hk
     ·obtain ⟨x,_,rfl⟩:=List.mem_map.1 he
      rfl
  ·cases he
 ·cases he

end
end Go.Proofs.YtfcgnpphabplbaaGreat

namespace Go.Ak
/-- .. with Parse and All. -/
def spB (n:Nat) (runs:Nat→CallF) (bar:Nat):CallF:=fun f xs H =>
 bif Nat.beq f 41 then zfr runs xs H else bif Nat.beq f 11 then spAll n runs xs H else spA n runs bar f xs H
end Go.Ak

namespace Go.Proofs.YtfcgnpphabplbaaGreat
open Go.Ak
theorem spB_ok {G:Nat→Option Obj} (hG:GlobalOK G):SpOK (zal G) fsT spB:=by
 intro n runs hr bar f xs H out H' hf he
 unfold spB at he
 cases h41:Nat.beq f 41 with
 | true =>
  have:=zan h41
  subst this
  exact ⟨by kernel_rfl,fun g w us hh ha=>spParse_ok (hr 0) (by exact he) hh ha⟩
 | false =>
  cases h11:Nat.beq f 11 with
  | true =>
   have:=zan h11
   subst this
   exact ⟨by kernel_rfl,fun g w us hh ha=>spAll_ok hr (by exact he) hh ha⟩
  | false =>
   simp only [h41,h11,cond_false] at he
   exact spA_ok hG n runs hr bar f xs H out H' hf he
end Go.Proofs.YtfcgnpphabplbaaGreat

