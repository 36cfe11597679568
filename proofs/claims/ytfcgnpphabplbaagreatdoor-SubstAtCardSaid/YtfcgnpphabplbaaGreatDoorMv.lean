/- The document's tables of trees. -/
import Derived.Test.YtfcgnpphabplbaaGreatDoorMu
import Derived.Test.YtfcgnpphabplbaaGreatDoorMs
set_option linter.unusedVariables false
set_option linter.unusedSimpArgs false
namespace Go.Ak
attribute [local simp] zbN zda zdb zeJ zbh zcO zaE zaX zaP zaY zbg zbv zbw za9 zb2 zc7 zc8 zbT zbU
 zaN zcS wanted zbl opd zjq live zbW zcT zbm zbS zhi put zdE esc zn7 zqD args drop1 zgh zqB zqA zqC zmS rd wr zbH sub AV.cells pack one setCells zet zmt zcV roOf zaL zeW zav zat zdA za6 newRow newObj step zbY zbx contents take flat look lim zd4 bound zdo zdH eqS eqL eqA ver
 zb1 zc6 zc5 zbZ zb0
 List.getElem?_cons_zero List.getElem?_cons_succ zc4 zbd zaB zaC zbX
attribute [local simp] sR sT cV bL mvV mvL mgV mgL asL asI asB ldN ldV ldL ldG stV stL fdL fdV fdG fgL nlC nlG bnI bvI bnL bvL bxI bxU bgI bgL exT lnS lgS clA clB clC clI pkT pkF pvT pvF pgT pgF ixL axV bxV apL
attribute [-simp] getElem?_pos
section
def ze2 (s:List UInt8) (k:Int) (set:List Nat) (i j:Nat):Bool :=
 if k=1 then (match s[i]? with | some c=>hasB set c&&decide (j=i+1) | none=>false)
 else decide (j=i)&&(decide (k=0)||(decide (k=2)&&decide (i=0))||(decide (k=3)&&decide (i=s.length))||decide (k=4)||decide (k=6))
def zk5 (s:List UInt8) (k:Int) (i:Nat):Bool:=decide (k=0)||(decide (k=2)&&decide (i=0))||(decide (k=3)&&decide (i=s.length))||decide (k=4)||decide (k=6)
theorem zxb (p:Nat→Bool) {i:Nat} (h:i<256):(zaH p)[i]? = some (.bool (p i)):=by
 unfold zaH
 rw [List.getElem?_map,List.getElem?_range h];rfl
theorem zCp {bar:Nat} {H:Heap} {s:List UInt8} {k mn mx:Int} {a b c d:Nat} {R:AV} {i:Nat} (hi:i≤s.length) (hl:s.length≤900) (hk:0≤k∧k≤6) (v:Nat→AV) (v1:v 1= .str s) (v2:v 2= .box [.int .i64 k,u64 a,u64 b,u64 c,u64 d, .int .i64 mn, .int .i64 mx,R]) (v6:v 6=num i) (v7:v 7= .slc .own (zcQ (s.length+1) noB))
  (Q:AExit→EH→Prop) (h:Wp (evI fsT SA.sp bar .skip (mkE 22847157054575562436918159888043788588013600759 (st v 7 (.slc .own (zcQ (s.length+1) (fun x=>if x=i then zk5 s k i else noB x)))),H)) Q) :
  Wp (evI fsT SA.sp bar (.region znd) (mkE 22847157054575562436918159888043788588013600759 v,H)) Q:=by
 have hs:=SA.mono
 have hset:=fun x=>zii noB (s.length+1) i x
 have g:=zcP noB (n:=s.length+1) (i:=i) (by omega)
 have hk':k=0∨k=1∨k=2∨k=3∨k=4∨k=5∨k=6:=by omega
 have hi1:i<s.length+1:=by omega
 rcases hk' with rfl | rfl | rfl | rfl | rfl | rfl | rfl
 ·have e:zk5 s 0 i=true:=by simp [zk5]
  rw [e] at h
  simp [zaa hs,znd,v1,v2,v6,v7,zaz,hi1,g,hset]
  simpa using h
 ·have e:zk5 s 1 i=false:=by simp [zk5]
  rw [e] at h
  simp [zaa hs,znd,v1,v2,v6,v7,zaz,hi1,g,hset]
  simpa using h
 ·by_cases h0:i=0
  ·have e:zk5 s 2 i=true:=by simp [zk5,h0]
   rw [e] at h
   subst h0
   simp [zaa hs,znd,v1,v2,v6,v7,zaz,g,hset]
   simpa using h
  ·have e:zk5 s 2 i=false:=by simp [zk5,h0]
   rw [e] at h
   have h0':((i:Int)==0)=false:=by simp;omega
   simp [zaa hs,znd,v1,v2,v6,v7,zaz,hi1,g,hset,h0,h0']
   simpa using h
 ·by_cases h0:i=s.length
  ·have e:zk5 s 3 i=true:=by simp [zk5,h0]
   rw [e] at h
   have h0':((i:Int)==(s.length:Int))=true:=by simp;omega
   simp [zaa hs,znd,v1,v2,v6,v7,zaz,hi1,g,hset,h0']
   simpa using h
  ·have e:zk5 s 3 i=false:=by simp [zk5,h0]
   rw [e] at h
   have h0':((i:Int)==(s.length:Int))=false:=by simp;omega
   simp [zaa hs,znd,v1,v2,v6,v7,zaz,hi1,g,hset,h0,h0']
   simpa using h
 ·have e:zk5 s 4 i=true:=by simp [zk5]
  rw [e] at h
  simp [zaa hs,znd,v1,v2,v6,v7,zaz,hi1,g,hset]
  simpa using h
 ·have e:zk5 s 5 i=false:=by simp [zk5]
  rw [e] at h
  simp [zaa hs,znd,v1,v2,v6,v7,zaz,hi1,g,hset]
  simpa using h
 ·have e:zk5 s 6 i=true:=by simp [zk5]
  rw [e] at h
  simp [zaa hs,znd,v1,v2,v6,v7,zaz,hi1,g,hset]
  simpa using h
theorem zIC (w:List Nat) (c:UInt8):hasB w c=zri w c.toNat:=rfl
theorem zBg {l:List AV} {i:Nat} {a:AV} (h:l[i]? = some a):List.take 1 (List.drop i l)= [a]:=by
 obtain ⟨h1,h2⟩:=List.getElem?_eq_some_iff.1 h
 rw [List.drop_eq_getElem_cons h1,h2];rfl
theorem zy8 {bar:Nat} {H:Heap} {s:List UInt8} {k mn mx:Int} {a b c d:Nat} {R:AV} (hl:s.length≤900) (hk:0≤k∧k≤6) :
  ∀ (m i:Nat) (v:Nat→AV),i+m=s.length+1→v 1= .str s→v 2= .box [.int .i64 k,u64 a,u64 b,u64 c,u64 d, .int .i64 mn, .int .i64 mx,R]→v 6=num i→v 5= .slc .own (ziR (s.length+1) i (ze2 s k [a,b,c,d])) →
   Wp (evI fsT SA.sp bar (.loop a46l10) (mkE 22847157054575562436918159888043788588013600759 v,H)) (fun e t=>e= .exit 0∧ ∃ v',t=(mkE 22847157054575562436918159888043788588013600759 v',H)∧v' 1= .str s∧v' 2= .box [.int .i64 k,u64 a,u64 b,u64 c,u64 d, .int .i64 mn, .int .i64 mx,R]∧v' 5= .slc .own (zax (s.length+1) (ze2 s k [a,b,c,d]))):=by
 have hs:=SA.mono
 intro m
 induction m with
 | zero =>
  intro i v hi v1 v2 v6 v5
  have hi':i=s.length+1:=by omega
  subst hi'
  have hx: ¬ (s.length:Int)+1≤(s.length:Int):=by omega
  rw [zah hs a46l10.eq_1]
  simp [zad hs,zaa hs,zab hs,zac hs,zHJ,v1,v6,hx]
  exact ⟨_,rfl,by simp [v1],by simp [v2],by simp [v5];rfl⟩
 | succ m ih =>
  intro i v hi v1 v2 v6 v5
  have hi':i≤s.length:=by omega
  have hnl:s.length+1≤4294967296:=by omega
  have hn0:(0:Int)≤(s.length:Int)+1:=by omega
  have hnt:((s.length:Int)+1).toNat=s.length+1:=by omega
  have hw0:IntKind.i64.wrap ((s.length:Int)+1)=(s.length:Int)+1:=zak _ (by omega)
  have hw1:IntKind.i64.wrap ((i:Int)+1)=(i:Int)+1:=zak _ (by omega)
  have hi5:i≤4294967295:=by omega
  have hok:=zfX (s.length+1) i (ze2 s k [a,b,c,d])
  have next: ∀ (p:Nat→Bool) (w:Nat→AV),(∀ j,p j=ze2 s k [a,b,c,d] i j)→w 1= .str s→w 2= .box [.int .i64 k,u64 a,u64 b,u64 c,u64 d, .int .i64 mn, .int .i64 mx,R]→w 6=num (i+1)→w 5= .slc .own (ziR (s.length+1) i (ze2 s k [a,b,c,d]) ++ [.slc .ro (zcQ (s.length+1) p)]) →
    Wp (evI fsT SA.sp bar (.loop a46l10) (mkE 22847157054575562436918159888043788588013600759 w,H)) (fun e t=>e= .exit 0∧ ∃ v',t=(mkE 22847157054575562436918159888043788588013600759 v',H)∧v' 1= .str s∧v' 2= .box [.int .i64 k,u64 a,u64 b,u64 c,u64 d, .int .i64 mn, .int .i64 mx,R]∧v' 5= .slc .own (zax (s.length+1) (ze2 s k [a,b,c,d]))):=fun p w hp w1 w2 w6 w5=>by
   refine ih (i+1) w (by omega) w1 w2 w6 ?_
   rw [w5,zkZ,zjE fun j _=>hp j]
  have htk: ∀ p,List.take (s.length+1) (zcQ (s.length+1) p)=zcQ (s.length+1) p:=fun p=>List.take_of_length_le (by rw [zaz];exact Nat.le_refl _)
  rw [zah hs a46l10.eq_1]
  simp [-List.reduceReplicate,zad hs,zaa hs,zab hs,zac hs,zHJ,zLK,v1,v6,hi',zs7,hnl,hn0,hnt,hw0]
  refine (zaa hs).1 (zCp (mn:=mn) (mx:=mx) (a:=a) (b:=b) (c:=c) (d:=d) (R:=R) hi' hl hk _ ?_ ?_ ?_ ?_ _ ?_)
  ·simp [v1]
  ·simp [v2]
  ·simp [v6]
  ·simp
  by_cases k1:k=1
  ·subst k1
   have e:zk5 s 1 i=false:=by simp [zk5]
   by_cases h2:i<s.length
   ·have hc:s[i]? = some s[i]:=List.getElem?_eq_getElem h2
    generalize s[i]=x at hc
    have hcall:=zMb (bar:=bar) (H:=H) a b c d
    have hidx:=zxb (zri [a,b,c,d]) (i:=x.toNat) x.toNat_lt
    have hset:=zii (fun y=>if y=i then zk5 s 1 i else noB y) (s.length+1) (i+1) (zri [a,b,c,d] x.toNat)
    have h2I:(i:Int)<(s.length:Int):=by omega
    have hi0:(0:Int)≤(i:Int)+1:=by omega
    have hit:((i:Int)+1).toNat=i+1:=by omega
    have hrow:=zcP (fun y=>if y=i then zk5 s 1 i else noB y) (n:=s.length+1) (i:=i+1) (by omega)
    have hx256:x.toNat≤255:=by have:=x.toNat_lt;omega
    have ht1:=zBg hidx
    have hx257:x.toNat<256:=x.toNat_lt
    simp [zad hs,zaa hs,zai hs,zab hs,zac hs,zC3,zC4,zC2,zC1,v1,v2,v5,v6,h2,h2I,hc,hcall,hidx,hset,hi0,hit,hw1,hrow,zaz,zhp,zaJ,za6,htk,hi5,hok,hx256,hx257,ht1]
    refine next (fun y=>if y=i+1 then zri [a,b,c,d] x.toNat else if y=i then zk5 s 1 i else noB y) _ ?_ ?_ ?_ ?_ ?_
    rotate_left
    ·simp [v1]
    ·simp [v2]
    ·simp
    ·simp
    intro j
    rw [e]
    simp only [ze2,hc,if_true,zIC]
    by_cases q:j=i+1
    ·subst q;simp
    ·by_cases q2:j=i
     ·simp [q,q2,noB]
     ·simp [q,q2,noB]
   ·have h2I: ¬ (i:Int)<(s.length:Int):=by omega
    simp [zad hs,zaa hs,zai hs,zab hs,zac hs,zC3,zC4,zC2,zC1,v1,v2,v5,v6,h2,h2I,hw1,zaz,zhp,za6,htk,hi5,hok]
    refine next (fun y=>if y=i then zk5 s 1 i else noB y) _ ?_ ?_ ?_ ?_ ?_
    rotate_left
    ·simp [v1]
    ·simp [v2]
    ·simp
    ·simp
    intro j
    rw [e]
    have hc:s[i]? = none:=List.getElem?_eq_none (by omega)
    simp [ze2,hc,noB]
  ·have k1':(k==1)=false:=by simpa using k1
   simp [zad hs,zaa hs,zai hs,zab hs,zac hs,zC3,zC4,zC2,zC1,v1,v2,v5,v6,k1',hw1,zaz,zhp,za6,htk,hi5,hok]
   refine next (fun y=>if y=i then zk5 s k i else noB y) _ ?_ ?_ ?_ ?_ ?_
   rotate_left
   ·simp [v1]
   ·simp [v2]
   ·simp
   ·simp
   intro j
   unfold ze2
   rw [if_neg k1]
   by_cases q:j=i
   ·simp [q,zk5]
   ·simp [q,noB]
end
section
def zxj (s:List UInt8) (x:Re):Prop:= ∃ p:Perm,∀ (bar:Nat) (H:Heap),Rn fsT SA.sp bar 46 [x.av, .str s] H=some (.ret (.slc p (zax (s.length+1) (x.tab s))),H)
theorem zGO {bar:Nat} {H:Heap} {s:List UInt8} {l:List Re} {cs:List AV} (h7:cs.length=7) (hw:Re.wideL l) (hl:s.length≤900) (hll:l.length≤1000000) (ih: ∀ x∈l,zxj s x) :
  ∀ (rest:List Re) (i:Nat) (f:Nat→Nat→Bool) (v:Nat→AV),i+rest.length=l.length→l.drop i=rest→v 1= .str s→v 2= .box (cs ++ [rowOf (Re.avs l)])→v 8=num i→v 5= .slc .own (zax (s.length+1) f) →
   Wp (evI fsT SA.sp bar (.loop a46l16) (mkE 22847157054575562436918159888043788588013600759 v,H)) (fun e t=>e= .exit 2∧ ∃ v',t=(mkE 22847157054575562436918159888043788588013600759 v',H)∧v' 1= .str s∧v' 2=v 2∧v' 5= .slc .own (zax (s.length+1) (Re.tabCat s rest f))):=by
 have hs:=SA.mono
 obtain ⟨c0,c1,c2,c3,c4,c5,c6,rfl⟩: ∃ a b c d e f g,cs= [a,b,c,d,e,f,g]:=by
  match cs,h7 with
  | [a,b,c,d,e,f,g],_=>exact ⟨a,b,c,d,e,f,g,rfl⟩
 intro rest
 induction rest with
 | nil =>
  intro i f v hi hr v1 v2 v8 v5
  simp only [List.length_nil,Nat.add_zero] at hi
  subst hi
  rw [zah hs a46l16.eq_1]
  have hrow:(l= []∧rowOf (Re.avs l)= .nils)∨rowOf (Re.avs l)= .slc .ro (Re.avs l):=by
   cases l with
   | nil=>exact .inl ⟨rfl,rfl⟩
   | cons x l=>exact .inr rfl
  rcases hrow with ⟨rfl,hrow⟩ | hrow
  all_goals
   have v2':=v2
   rw [hrow] at v2'
   simp only [List.cons_append,List.nil_append] at v2'
   simp [zad hs,zaa hs,zab hs,zac hs,zo8,v2',v8,zaq]
   exact ⟨_,rfl,by simp [v1],by simp [v2'],by simp [v5,Re.tabCat]⟩
 | cons x rest ihr =>
  intro i f v hi hr v1 v2 v8 v5
  have hi':i<l.length:=by simp at hi;omega
  have hdc:=List.drop_eq_getElem_cons hi'
  rw [hr] at hdc
  obtain ⟨hx,hr'⟩:=List.cons.inj hdc
  have hmem:x∈l:=hx▸List.getElem_mem hi'
  obtain ⟨d,hcs,hcl⟩:=Re.av_agg (zaG.1 hw x hmem)
  have hcl8:8≤d.length:=by omega
  have htk:List.take 8 d=d:=List.take_of_length_le (by omega)
  have hg:(Re.avs l)[i]? = some (.agg d):=by rw [zdO hi',←hx,hcs]
  have hne:Re.avs l ≠ []:=by rw [Re.avs_map];simp;intro e;subst e;simp at hi'
  obtain ⟨p,hcall⟩:=ih x hmem
  rw [hcs] at hcall
  have v2':=v2
  rw [zaU hne] at v2'
  simp only [List.cons_append,List.nil_append] at v2'
  have hw1:IntKind.i64.wrap ((i:Int)+1)=(i:Int)+1:=zak _ (by omega)
  have hthen:=fun H=>zlX (bar:=bar) (H:=H) (n:=s.length+1) (f:=f) (g:=x.tab s) (by omega)
  have htl:List.take (s.length+1) (zax (s.length+1) f)=zax (s.length+1) f:=List.take_of_length_le (by rw [zar];exact Nat.le_refl _)
  rw [zah hs a46l16.eq_1]
  cases p <;>
   (simp [zad hs,zaa hs,zab hs,zac hs,zo8,zr2,zr1,v1,v2',v5,v8,zaq,hi',hg,hcl,hcl8,htk,hcall,hw1,hthen,zar,htl]
    refine (ihr (i+1) (zeL (s.length+1) f (x.tab s)) _ (by simp at hi;omega) hr'.symm ?_ ?_ ?_ ?_).mono fun e t h=>by simpa [Re.tabCat,v2'] using h
    ·simp [v1]
    ·simp [v2',zaU hne]
    ·simp
    ·simp)
theorem zGV {bar:Nat} {H:Heap} {s:List UInt8} {l:List Re} {cs:List AV} (h7:cs.length=7) (hw:Re.wideL l) (hl:s.length≤900) (hll:l.length≤1000000) (ih: ∀ x∈l,zxj s x) :
  ∀ (rest:List Re) (i:Nat) (f:Nat→Nat→Bool) (v:Nat→AV),i+rest.length=l.length→l.drop i=rest→v 1= .str s→v 2= .box (cs ++ [rowOf (Re.avs l)])→v 9=num i→v 5= .slc .own (zax (s.length+1) f) →
   Wp (evI fsT SA.sp bar (.loop a46l22) (mkE 22847157054575562436918159888043788588013600759 v,H)) (fun e t=>e= .exit 4∧ ∃ v',t=(mkE 22847157054575562436918159888043788588013600759 v',H)∧v' 1= .str s∧v' 2=v 2∧v' 5= .slc .own (zax (s.length+1) (Re.tabAlt s rest f))):=by
 have hs:=SA.mono
 obtain ⟨c0,c1,c2,c3,c4,c5,c6,rfl⟩: ∃ a b c d e f g,cs= [a,b,c,d,e,f,g]:=by
  match cs,h7 with
  | [a,b,c,d,e,f,g],_=>exact ⟨a,b,c,d,e,f,g,rfl⟩
 intro rest
 induction rest with
 | nil =>
  intro i f v hi hr v1 v2 v9 v5
  simp only [List.length_nil,Nat.add_zero] at hi
  subst hi
  rw [zah hs a46l22.eq_1]
  have hrow:(l= []∧rowOf (Re.avs l)= .nils)∨rowOf (Re.avs l)= .slc .ro (Re.avs l):=by
   cases l with
   | nil=>exact .inl ⟨rfl,rfl⟩
   | cons x l=>exact .inr rfl
  rcases hrow with ⟨rfl,hrow⟩ | hrow
  all_goals
   have v2':=v2
   rw [hrow] at v2'
   simp only [List.cons_append,List.nil_append] at v2'
   simp [zad hs,zaa hs,zab hs,zac hs,zo7,v2',v9,zaq]
   exact ⟨_,rfl,by simp [v1],by simp [v2'],by simp [v5,Re.tabAlt]⟩
 | cons x rest ihr =>
  intro i f v hi hr v1 v2 v9 v5
  have hi':i<l.length:=by simp at hi;omega
  have hdc:=List.drop_eq_getElem_cons hi'
  rw [hr] at hdc
  obtain ⟨hx,hr'⟩:=List.cons.inj hdc
  have hmem:x∈l:=hx▸List.getElem_mem hi'
  obtain ⟨d,hcs,hcl⟩:=Re.av_agg (zaG.1 hw x hmem)
  have hcl8:8≤d.length:=by omega
  have htk:List.take 8 d=d:=List.take_of_length_le (by omega)
  have hg:(Re.avs l)[i]? = some (.agg d):=by rw [zdO hi',←hx,hcs]
  have hne:Re.avs l ≠ []:=by rw [Re.avs_map];simp;intro e;subst e;simp at hi'
  obtain ⟨p,hcall⟩:=ih x hmem
  rw [hcs] at hcall
  have v2':=v2
  rw [zaU hne] at v2'
  simp only [List.cons_append,List.nil_append] at v2'
  have hw1:IntKind.i64.wrap ((i:Int)+1)=(i:Int)+1:=zak _ (by omega)
  have heit:=fun H=>zoN (bar:=bar) (H:=H) (n:=s.length+1) (f:=f) (g:=x.tab s) (by omega)
  have htl:List.take (s.length+1) (zax (s.length+1) f)=zax (s.length+1) f:=List.take_of_length_le (by rw [zar];exact Nat.le_refl _)
  rw [zah hs a46l22.eq_1]
  cases p <;>
   (simp [zad hs,zaa hs,zab hs,zac hs,zo7,zrY,zrX,v1,v2',v5,v9,zaq,hi',hg,hcl,hcl8,htk,hcall,hw1,heit,zar,htl]
    refine (ihr (i+1) (za2 f (x.tab s)) _ (by simp at hi;omega) hr'.symm ?_ ?_ ?_ ?_).mono fun e t h=>by simpa [Re.tabAlt,v2'] using h
    ·simp [v1]
    ·simp [v2',zaU hne]
    ·simp
    ·simp)
theorem zFy {bar:Nat} {H:Heap} {s:List UInt8} {c0 c1 c2 c3 c4 c6 c7:AV} {mn:Int} (hmn:mn≤1000) {x:Nat→Nat→Bool} (hl:s.length≤900) :
  ∀ (m:Nat) (i:Int) (f:Nat→Nat→Bool) (v:Nat→AV),0≤i→i+m=mn→v 2= .box [c0,c1,c2,c3,c4, .int .i64 mn,c6,c7]→(∃ p,v 10= .slc p (zax (s.length+1) x))→v 11= .int .i64 i→v 5= .slc .own (zax (s.length+1) f) →
   Wp (evI fsT SA.sp bar (.loop a46l29) (mkE 22847157054575562436918159888043788588013600759 v,H)) (fun e t=>e= .exit 6∧ ∃ v',t=(mkE 22847157054575562436918159888043788588013600759 v',H)∧v' 2= .box [c0,c1,c2,c3,c4, .int .i64 mn,c6,c7]∧(∃ p,v' 10= .slc p (zax (s.length+1) x))∧v' 5= .slc .own (zax (s.length+1) (zfP (s.length+1) x m f))):=by
 have hs:=SA.mono
 intro m
 induction m with
 | zero =>
  intro i f v h0 hi v2 ⟨p,v10⟩ v11 v5
  have hi': ¬ i<mn:=by omega
  rw [zah hs a46l29.eq_1]
  simp [zad hs,zaa hs,zab hs,zac hs,zzB,v2,v11,hi']
  exact ⟨_,rfl,by simp [v2],⟨p,by simp [v10]⟩,by simp [v5,zfP]⟩
 | succ m ih =>
  intro i f v h0 hi v2 ⟨p,v10⟩ v11 v5
  have hi':i<mn:=by omega
  have hw1:IntKind.i64.wrap (i+1)=i+1:=zak _ (by omega)
  have hthen:=fun H=>zlX (bar:=bar) (H:=H) (n:=s.length+1) (f:=f) (g:=x) (by omega)
  have htl: ∀ f,List.take (s.length+1) (zax (s.length+1) f)=zax (s.length+1) f:=fun f=>List.take_of_length_le (by rw [zar];exact Nat.le_refl _)
  rw [zah hs a46l29.eq_1]
  cases p <;>
   (simp [zad hs,zaa hs,zab hs,zac hs,zzB,zEj,zEi,v2,v5,v10,v11,hi',hw1,hthen,zar,htl]
    refine (ih (i+1) (zeL (s.length+1) f x) _ (by omega) (by omega) ?_ ?_ ?_ ?_).mono fun e t h=>by simpa [zfP] using h
    ·simp [v2]
    ·simp [v10]
    ·simp
    ·simp)
theorem zBY {bar:Nat} {H:Heap} {s:List UInt8} {c0 c1 c2 c3 c4 c5 c7:AV} {mx:Int} (hmx:mx≤1000) {x:Nat→Nat→Bool} (hl:s.length≤900) :
  ∀ (m:Nat) (i:Int) (now out:Nat→Nat→Bool) (v:Nat→AV),0≤i→i+m=mx→v 2= .box [c0,c1,c2,c3,c4,c5, .int .i64 mx,c7]→(∃ p,v 10= .slc p (zax (s.length+1) x))→v 13= .int .i64 i→(∃ p,v 12= .slc p (zax (s.length+1) now))→(∃ p,v 5= .slc p (zax (s.length+1) out)) →
   Wp (evI fsT SA.sp bar (.loop a46l38) (mkE 22847157054575562436918159888043788588013600759 v,H)) (fun e t=>e= .exit 8∧ ∃ v',t=(mkE 22847157054575562436918159888043788588013600759 v',H)∧ ∃ p,v' 5= .slc p (zax (s.length+1) (zra (s.length+1) x m now out))):=by
 have hs:=SA.mono
 intro m
 induction m with
 | zero =>
  intro i now out v h0 hi v2 ⟨p,v10⟩ v13 ⟨p2,v12⟩ ⟨p3,v5⟩
  have hi': ¬ i<mx:=by omega
  rw [zah hs a46l38.eq_1]
  simp [zad hs,zaa hs,zab hs,zac hs,zzy,v2,v13,hi']
  exact ⟨_,rfl,p3,by simp [v5,zra]⟩
 | succ m ih =>
  intro i now out v h0 hi v2 ⟨p,v10⟩ v13 ⟨p2,v12⟩ ⟨p3,v5⟩
  have hi':i<mx:=by omega
  have hw1:IntKind.i64.wrap (i+1)=i+1:=zak _ (by omega)
  have hthen:=fun H=>zlX (bar:=bar) (H:=H) (n:=s.length+1) (f:=now) (g:=x) (by omega)
  have heit:=fun H=>zoN (bar:=bar) (H:=H) (n:=s.length+1) (f:=out) (g:=zeL (s.length+1) now x) (by omega)
  have htl: ∀ f,List.take (s.length+1) (zax (s.length+1) f)=zax (s.length+1) f:=fun f=>List.take_of_length_le (by rw [zar];exact Nat.le_refl _)
  rw [zah hs a46l38.eq_1]
  cases p<;>cases p2<;>cases p3 <;>
   (simp [zad hs,zaa hs,zab hs,zac hs,zzy,zEh,zEg,zEf,v2,v5,v10,v12,v13,hi',hw1,hthen,heit,zar,htl]
    refine (ih (i+1) _ _ _ (by omega) (by omega) ?_ ?_ ?_ ?_ ?_).mono fun e t h=>by simpa [zra] using h
    ·simp [v2]
    ·simp [v10]
    ·simp
    ·simp
    ·simp)
end
section
theorem zFB {fs:Nat→Option AFunc} {sp:Nat→(Nat→CallF)→Nat→CallF} (hs:zbQ sp) {f:Nat} {F:AFunc} (hf:fs f=some F) {xs:List AV} {Q:Out→Prop} (hp:F.pure=true) (hc:zcI xs=true) (hn:Nat.beq xs.length F.np=true)
  (h:Wp (evI fs sp 0 F.body (zaw F.vars xs,[])) (fin F.res (thaw 0 Q))): ∃ o,Q o∧ ∀ (bar:Nat) (H:Heap),Rn fs sp bar f xs H=some (o,H):=by
 obtain ⟨o,K,h1,h2⟩:=zpv (Q:=thaw 0 Q) hn h
 cases o with
 | ret v=>obtain ⟨u,h3,h4⟩:=h2;exact ⟨.ret u,h4,fun bar H=>by rw [zxk hs hf,hp,hc];simp only [cond_true,h1,zeE,h3]⟩
 | pan v=>obtain ⟨u,h3,h4⟩:=h2;exact ⟨.pan u,h4,fun bar H=>by rw [zxk hs hf,hp,hc];simp only [cond_true,h1,zeE,h3]⟩
theorem zIf (s:List UInt8) (k:Int) (set:List Nat) (mn mx:Int) (l:List Re):(Re.mk k set mn mx l).tab s=if k=4 then Re.tabCat s l (ze2 s k set) else if k=5 then Re.tabAlt s l (ze2 s k set) else if k=6 then Re.tabRep s mn mx (ze2 s k set) l else ze2 s k set:=by
 unfold Re.tab;rfl
theorem zBh {s:List UInt8} (hl:s.length≤900) {k:Int} {set:List Nat} {mn mx:Int} {l:List Re} {within deep:Int} (hc:(Re.mk k set mn mx l).can within deep=true) (hw:(Re.mk k set mn mx l).wide) (ih: ∀ x∈l,zxj s x):zxj s (.mk k set mn mx l):=by
 have hs:=SA.mono
 obtain ⟨r1,r2,r3,r4,r5,r6,r7⟩:=ziz hc
 unfold Re.wide at hw
 obtain ⟨h4,hlen,⟨m1,m2,m3,m4⟩,hwl⟩:=hw
 obtain ⟨a,b,c,d,rfl⟩:=four h4
 suffices h: ∃ o,(∃ p,o=Out.ret (.slc p (zax (s.length+1) ((Re.mk k [a,b,c,d] mn mx l).tab s))))∧ ∀ (bar:Nat) (H:Heap),Rn fsT SA.sp bar 46 [(Re.mk k [a,b,c,d] mn mx l).av, .str s] H=some (o,H) by
  obtain ⟨o,⟨p,rfl⟩,h⟩:=h
  exact ⟨p,h⟩
 have hclo:zcI [(Re.mk k [a,b,c,d] mn mx l).av,AV.str s]=true:=by simp only [zcI,zeI];rfl
 refine zFB hs zI4 rfl hclo rfl ?_
 rw [env46,zIf]
 have hz:(Re.mk k [a,b,c,d] mn mx l).av= .agg [.int .i64 k,u64 a,u64 b,u64 c,u64 d, .int .i64 mn, .int .i64 mx,rowOf (Re.avs l)]:=by rw [Re.av];rfl
 rw [hz]
 simp [zLN,zLM,zLL,a46,zad hs,zaa hs,zab hs]
 refine (zy8 (bar:=0) (H:= []) (s:=s) (k:=k) (mn:=mn) (mx:=mx) (a:=a) (b:=b) (c:=c) (d:=d) (R:=rowOf (Re.avs l)) hl ⟨r3,r4⟩ (s.length+1) 0 _ (by omega) ?_ ?_ ?_ ?_).mono fun e t h=> ?_
 ·simp
 ·simp
 ·simp
 ·simp [ziR]
 obtain ⟨rfl,u,rfl,u1,u2,u5⟩:=h
 have htl: ∀ f,List.take (s.length+1) (zax (s.length+1) f)=zax (s.length+1) f:=fun f=>List.take_of_length_le (by rw [zar];exact Nat.le_refl _)
 have hfr:=fun p f=>zpL [] p (s.length+1) f
 -- the end
 have fin2: ∀ (w:Nat→AV) (g:Nat→Nat→Bool),(∃ p,w 5= .slc p (zax (s.length+1) g))→Wp (evI fsT SA.sp 0 (.seq (.region zvB) .ret) (mkE 22847157054575562436918159888043788588013600759 w,[])) (fin [.tmp 4] (thaw 0 fun o=> ∃ p,o=Out.ret (.slc p (zax (s.length+1) g)))):=fun w g ⟨p,hw⟩=>by
  cases p<;>simp [zvB,zad hs,zaa hs,hw,zar,htl,hfr]
 by_cases k4:k=4
 ·subst k4
  simp [zr4,zr3,zad hs,zaa hs,zac hs,zab hs,u2]
  refine (zGO (bar:=0) (H:= []) (cs:= [.int .i64 4,u64 a,u64 b,u64 c,u64 d, .int .i64 mn, .int .i64 mx]) rfl hwl hl (by omega) ih l 0 (ze2 s 4 [a,b,c,d]) _ (by simp) rfl ?_ ?_ ?_ ?_).mono fun e t h=> ?_
  ·simp [u1]
  ·simp [u2]
  ·simp
  ·simp [u5]
  obtain ⟨rfl,w,rfl,w1,w2,w5⟩:=h
  simp [u2] at w2
  simp [zr0,zrZ,zo7,zrY,zrX,zrW,zad hs,zaa hs,zac hs,zab hs,w2]
  have h:=fun w (hw: ∃ p,w 5= .slc p (zax (s.length+1) (Re.tabCat s l (ze2 s 4 [a,b,c,d]))))=>fin2 w _ hw
  simp only [zad hs,zaa hs] at h
  refine h _ ⟨.own,?_⟩
  simp [w5]
 by_cases k5:k=5
 ·subst k5
  simp [zr4,zr3,zo8,zr2,zr1,zr0,zrZ,zad hs,zaa hs,zac hs,zab hs,u2]
  refine (zGV (bar:=0) (H:= []) (cs:= [.int .i64 5,u64 a,u64 b,u64 c,u64 d, .int .i64 mn, .int .i64 mx]) rfl hwl hl (by omega) ih l 0 (ze2 s 5 [a,b,c,d]) _ (by simp) rfl ?_ ?_ ?_ ?_).mono fun e t h=> ?_
  ·simp [u1]
  ·simp [u2]
  ·simp
  ·simp [u5]
  obtain ⟨rfl,w,rfl,w1,w2,w5⟩:=h
  simp [u2] at w2
  simp [zrW,zad hs,zaa hs,zac hs,zab hs,w2]
  have h:=fun w (hw: ∃ p,w 5= .slc p (zax (s.length+1) (Re.tabAlt s l (ze2 s 5 [a,b,c,d]))))=>fin2 w _ hw
  simp only [zad hs,zaa hs] at h
  refine h _ ⟨.own,?_⟩
  simp [w5]
 by_cases k6:k=6
 ·subst k6
  obtain ⟨q1,q2,q3,q4,q5⟩:=r6 rfl
  obtain ⟨x,rfl⟩: ∃ x,l= [x]:=by
   match l,q1 with
   | [x],_=>exact ⟨x,rfl⟩
  obtain ⟨p,hx⟩:=ih x (by simp)
  obtain ⟨e,hcs,hcl⟩:=Re.av_agg (zaG.1 hwl x (by simp))
  have hcl8:8≤e.length:=by omega
  have htk:List.take 8 e=e:=List.take_of_length_le (by omega)
  have hrow:rowOf (Re.avs [x])= .slc .ro [.agg e]:=by simp only [Re.avs,rowOf,hcs]
  rw [hcs] at hx
  rw [hrow] at u2
  have hx0:=hx 0 []
  have hrep:=fun v=>zFy (bar:=0) (H:= []) (s:=s) (c0:= .int .i64 6) (c1:=u64 a) (c2:=u64 b) (c3:=u64 c) (c4:=u64 d) (c6:= .int .i64 mx) (c7:= .slc .ro [.agg e]) (mn:=mn) (by omega) (x:=x.tab s) hl mn.toNat 0 (ze2 s 6 [a,b,c,d]) v (by omega) (by omega)
  have hoft:=fun H=>zyk (bar:=0) (H:=H) (n:=s.length+1) (f:=x.tab s) (by omega)
  have hthen:=fun f g H=>zlX (bar:=0) (H:=H) (n:=s.length+1) (f:=f) (g:=g) (by omega)
  -- behind the first rounds
  have tail: ∀ w:Nat→AV,w 2= .box [.int .i64 6,u64 a,u64 b,u64 c,u64 d, .int .i64 mn, .int .i64 mx, .slc .ro [.agg e]]→(∃ p,w 10= .slc p (zax (s.length+1) (x.tab s)))→w 5= .slc .own (zax (s.length+1) (zfP (s.length+1) (x.tab s) mn.toNat (ze2 s 6 [a,b,c,d]))) →
    Wp (evI fsT SA.sp 0 (.seq (.seq (.seq (.region zvD) (.cond true (.v 143) (.seq (.region zvC) .ret) .skip)) (.seq (.region zzA) (.seq (.region zzz) (.block 8 (.loop a46l38))))) (.seq (.region zvB) .ret)) (mkE 22847157054575562436918159888043788588013600759 w,[]))
     (fin [.tmp 4] (thaw 0 fun o=> ∃ p,o=Out.ret (.slc p (zax (s.length+1) (Re.tabRep s mn mx (ze2 s 6 [a,b,c,d]) [x]))))):=fun w w2 ⟨p,w10⟩ w5=>by
   by_cases hneg:mx<0
   ·simp only [Re.tabRep,if_pos hneg]
    cases p<;>simp [zvD,zvC,zad hs,zaa hs,zac hs,w2,w5,w10,hneg,hoft,hthen,zar,htl,hfr]
   ·simp only [Re.tabRep,if_neg hneg]
    simp [zvD,zvC,zzA,zzz,zad hs,zaa hs,zac hs,zab hs,w2,w5,hneg]
    refine (zBY (bar:=0) (H:= []) (s:=s) (c0:= .int .i64 6) (c1:=u64 a) (c2:=u64 b) (c3:=u64 c) (c4:=u64 d) (c5:= .int .i64 mn) (c7:= .slc .ro [.agg e]) (mx:=mx) (by omega) (x:=x.tab s) hl (mx-mn).toNat mn (zfP (s.length+1) (x.tab s) mn.toNat (ze2 s 6 [a,b,c,d])) (zfP (s.length+1) (x.tab s) mn.toNat (ze2 s 6 [a,b,c,d])) _ (by omega) (by omega) ?_ ?_ ?_ ?_ ?_).mono fun e t h=> ?_
    ·simp [w2]
    ·exact ⟨p,by simp [w10]⟩
    ·simp
    ·simp [zar,htl]
    ·simp [w5]
    obtain ⟨rfl,w',rfl,w5'⟩:=h
    have h:=fin2 w' _ w5'
    simpa [zad hs,zaa hs] using h
  have htail:=tail
  simp only [zad hs,zaa hs] at htail
  cases p <;>
   (simp [zr4,zr3,zo8,zr2,zr1,zr0,zrZ,zo7,zrY,zrX,zrW,zEl,zEk,zad hs,zaa hs,zac hs,zab hs,u1,u2,hcl,hcl8,htk,hx0]
    refine (hrep _ ?_ ?_ ?_ ?_).mono fun e t h=> ?_
    ·simp [u2]
    ·simp
    ·simp
    ·simp [u5]
    obtain ⟨rfl,w,rfl,w2,w10,w5⟩:=h
    have h:=htail w w2 w10 w5
    simpa [zad hs,zaa hs] using h)
 have e4:(k==4)=false:=by simpa using k4
 have e5:(k==5)=false:=by simpa using k5
 have e6:(k==6)=false:=by simpa using k6
 rw [if_neg k4,if_neg k5,if_neg k6]
 simp [zr4,zr3,zo8,zr2,zr1,zr0,zrZ,zo7,zrY,zrX,zrW,zad hs,zaa hs,zac hs,u2,e4,e5,e6]
 have h:=fun w (hw: ∃ p,w 5= .slc p (zax (s.length+1) (ze2 s k [a,b,c,d])))=>fin2 w _ hw
 simp only [zad hs,zaa hs] at h
 refine h _ ⟨.own,?_⟩
 simp [u5]
mutual
theorem zxB {s:List UInt8} (hl:s.length≤900): ∀ (r:Re) (within deep:Int),r.can within deep=true→r.wide→zxj s r
 | .mk k set mn mx l,within,deep,hc,hw=>by
  obtain ⟨r1,r2,r3,r4,r5,r6,r7⟩:=ziz hc
  have hwl:Re.wideL l:=by unfold Re.wide at hw;exact hw.2.2.2
  refine zBh hl hc hw ?_
  by_cases h:k<4
  ·rw [r2 h];intro x hx;cases hx
  ·exact zuR hl l k deep r7 hwl
theorem zuR {s:List UInt8} (hl:s.length≤900): ∀ (l:List Re) (k deep:Int),Re.canL l k deep=true→Re.wideL l→ ∀ x∈l,zxj s x
 | [],_,_,_,_=>by intro x hx;cases hx
 | x::l,k,deep,hc,hw=>by
  simp only [Re.canL,Bool.and_eq_true] at hc
  intro y hy
  rcases List.mem_cons.1 hy with e | hy
  ·rw [e];exact zxB hl x k (deep+1) hc.1 hw.1
  ·exact zuR hl l k deep hc.2 hw.2 y hy
end
end
end Go.Ak
