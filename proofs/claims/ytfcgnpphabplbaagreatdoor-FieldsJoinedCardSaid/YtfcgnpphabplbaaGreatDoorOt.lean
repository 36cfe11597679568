/- What the document's New and Light compute. -/
import Derived.Test.YtfcgnpphabplbaaGreatDoorOs
set_option linter.unusedVariables false
set_option linter.unusedSimpArgs false
namespace Go.Ak
attribute [local simp] zcx zd7 zd8 zfV zbm zc2 zaG za9 za0 zba zbs zbK zbL zbg zcJ zdJ zdK zcB zcC
 zaN zcN wanted zbb opd zkt live zcD zde zbA zcA ziq put zes esc zqx ztJ args drop1 zg1 zuW zuV ztH zou rd wr zbE sub AV.cells pack one setCells zeH znX zc3 roOf zaL zfw zav zau zey zbw newRow newObj step zcF zbM contents take flat look lim zex bound zec zeu eqS eqL eqA ver
 zcI zdI zdH zcG zcH
 List.getElem?_cons_zero List.getElem?_cons_succ zdl zbp zaE zaF zcE
attribute [local simp] sR sT cV bL mvV mvL mgV mgL asL asI asB ldN ldV ldL ldG stV stL fdL fdV fdG fgL nlC nlG bnI bvI bnL bvL bxI bxU bgI bgL exT lnS lgS clA clB clC clI pkT pkF pvT pvF pgT pgF ixL axV bxV apL
attribute [-simp] getElem?_pos
section
def zaI (k:Int) (set:List Nat) (mn mx:Int) (len:Nat) (deep:Int):Bool :=
 decide (100<deep)||(decide (k<0)||(decide (6<k)||((decide (k≠1)&&decide (set≠zbH))||((decide (k≠6)&&(decide (mn≠0)||decide (mx≠0)))||(decide (k<4)&&decide (0<len))))))
def zbj (k within:Int) (len:Nat):Bool:=(decide (k=0)&&decide (within=4))||((decide (k=4)||decide (k=5))&&(decide (k=within)||decide (len<2)))
def zbJ (k mn mx:Int) (len:Nat):Bool:=decide (k=6)&&(decide (len≠1)||(decide (mn<0)||(decide (50<mn)||(decide (50<mx)||(decide (mx<mn)&&decide (mx ≠ -1))))))
theorem zyR (k:Int) (set:List Nat) (mn mx:Int) (l:List Re) (within deep:Int):(Re.mk k set mn mx l).can within deep =
  if zaI k set mn mx l.length deep then false else if zbj k within l.length then false else if zbJ k mn mx l.length then false else Re.canL l k deep:=by
 unfold Re.can
 by_cases hb:za8 k set mn mx deep=true
 ·rw [if_pos hb]
  have:zaI k set mn mx l.length deep=true:=by
   simp only [za8,Bool.or_eq_true] at hb
   simp only [zaI,Bool.or_eq_true]
   rcases hb with (hb | hb) | hb
   ·exact .inl hb
   ·exact .inr (.inr (.inr (.inl hb)))
   ·exact .inr (.inr (.inr (.inr (.inl (by simpa using hb)))))
  rw [if_pos this]
 ·rw [if_neg hb]
  simp only [za8,Bool.or_eq_true,not_or,Bool.not_eq_true] at hb
  obtain ⟨⟨hb1,hb2⟩,hb3⟩:=hb
  have hh:zaI k set mn mx l.length deep=(decide (k<0)||(decide (6<k)||(decide (k<4)&&decide (0<l.length)))):=by
   simp only [zaI,hb1,hb2,hb3,Bool.false_or]
  rw [hh]
  by_cases e0:k=0
  ·subst e0
   by_cases hl:l.length=0
   ·have:l= []:=List.eq_nil_of_length_eq_zero hl
    subst this
    by_cases h4:within=4<;>simp [zbj,zbJ,Re.canL,h4]
   ·have:0<l.length:=by omega
    simp [hl,this]
  by_cases e123:k=1∨k=2∨k=3
  ·rw [if_neg e0,if_pos e123]
   by_cases hl:l.length=0
   ·have:l= []:=List.eq_nil_of_length_eq_zero hl
    subst this
    rcases e123 with rfl | rfl | rfl<;>simp [zbj,zbJ,Re.canL]
   ·have:0<l.length:=by omega
    rcases e123 with rfl | rfl | rfl<;>simp [hl,this]
  rw [if_neg e0,if_neg e123]
  by_cases e45:k=4∨k=5
  ·rw [if_pos e45]
   by_cases hw:within=k
   ·subst hw
    rcases e45 with rfl | rfl<;>simp [zbj]
   ·have hw': ¬ k=within:=fun e=>hw e.symm
    by_cases h2:l.length<2
    ·rcases e45 with rfl | rfl<;>simp [zbj,h2]
    ·rcases e45 with rfl | rfl<;>simp [zbj,zbJ,h2,hw,hw']
  rw [if_neg e45]
  by_cases e6:k=6
  ·subst e6
   rw [if_pos rfl]
   have hr:zbJ 6 mn mx l.length=zcw l.length mn mx:=by
    rw [Bool.eq_iff_iff]
    simp only [zbJ,zcw,Bool.or_eq_true,Bool.and_eq_true,decide_eq_true_eq,true_and]
    omega
   have hk:zbj 6 within l.length=false:=by simp [zbj]
   rw [hk,hr]
   simp
  ·rw [if_neg e6]
   have:(decide (k<0)||(decide (6<k)||(decide (k<4)&&decide (0<l.length))))=true:=by
    simp only [Bool.or_eq_true,Bool.and_eq_true,decide_eq_true_eq]
    omega
   rw [if_pos this]
theorem zxy {bar:Nat} {k mn mx deep:Int} {a b c d:Nat} {l:List Re} {v:Nat→AV} {H:Heap} {Q:AExit→EH→Prop} (v2:v 2= .int .i64 deep) (v7:v 7= .int .i64 k)
  (v3:v 3= .box [.int .i64 k,u64 a,u64 b,u64 c,u64 d, .int .i64 mn, .int .i64 mx,rowOf (Re.avs l)])
  (hQ:Q .norm (mkE 2722944318552834909416890706682699579855 (st v 54 (.bool (zaI k [a,b,c,d] mn mx l.length deep))),H)):Ws (zaN (Rn fsT SA.sp bar) bar zh7 ⟨mkE 2722944318552834909416890706682699579855 v,[],[],H⟩) Q:=by
 have hz:=zHC a b c d
 by_cases c1:100<deep
 ·have hb:zaI k [a,b,c,d] mn mx l.length deep=true:=by simp [zaI,c1]
  rw [hb] at hQ
  simp [zh7,v2,v3,v7,c1,hQ]
 by_cases c2:k<0
 ·have hb:zaI k [a,b,c,d] mn mx l.length deep=true:=by simp [zaI,c2]
  rw [hb] at hQ
  simp [zh7,v2,v3,v7,c1,c2,hQ]
 by_cases c3:6<k
 ·have hb:zaI k [a,b,c,d] mn mx l.length deep=true:=by simp [zaI,c3]
  rw [hb] at hQ
  simp [zh7,v2,v3,v7,c1,c2,c3,hQ]
 have hrow:(l= []∧rowOf (Re.avs l)= .nils)∨(0<l.length∧rowOf (Re.avs l)= .slc .ro (Re.avs l)):=by
  cases l with
  | nil=>exact .inl ⟨rfl,rfl⟩
  | cons x l=>exact .inr ⟨by simp,rfl⟩
 by_cases c4:k=1
 ·subst c4
  by_cases c5:mn=0
  ·subst c5
   by_cases c6:mx=0
   ·subst c6
    rcases hrow with ⟨rfl,hrow⟩ | ⟨hl,hrow⟩
    ·have hb:zaI 1 [a,b,c,d] 0 0 ([]:List Re).length deep=false:=by simp [zaI,c1]
     rw [hb] at hQ
     simp [zh7,v2,v3,v7,c1,c2,c3,hrow,hQ]
    ·have hb:zaI 1 [a,b,c,d] 0 0 l.length deep=true:=by simp [zaI,hl]
     rw [hb] at hQ
     have hl':(0:Int)<(l.length:Int):=by omega
     simp [zh7,v2,v3,v7,c1,c2,c3,hrow,zaq,hl,hl',hQ]
   ·have hb:zaI 1 [a,b,c,d] 0 mx l.length deep=true:=by simp [zaI,c6]
    rw [hb] at hQ
    have c6':(mx != 0)=true:=by simpa using c6
    simp [zh7,v2,v3,v7,c1,c2,c3,c6',hQ]
  ·have hb:zaI 1 [a,b,c,d] mn mx l.length deep=true:=by simp [zaI,c5]
   rw [hb] at hQ
   have c5':(mn != 0)=true:=by simpa using c5
   simp [zh7,v2,v3,v7,c1,c2,c3,c5',hQ]
 have c4':(k != 1)=true:=by simpa using c4
 cases hzz:((a:Int)==0&&((b:Int)==0&&((c:Int)==0&&(d:Int)==0))) with
 | false =>
  have hb:zaI k [a,b,c,d] mn mx l.length deep=true:=by simp only [zaI,hz,hzz];simp [c4]
  rw [hb] at hQ
  simp [zh7,v2,v3,v7,c1,c2,c3,c4',List.replicate_succ,hzz,hQ]
 | true =>
  have hzd:decide ([a,b,c,d]≠zbH)=false:=by rw [hz,hzz];rfl
  by_cases c7:k=6
  ·subst c7
   have hb:zaI 6 [a,b,c,d] mn mx l.length deep=false:=by simp only [zaI,hzd];simp [c1]
   rw [hb] at hQ
   simp [zh7,v2,v3,v7,c1,c2,c3,List.replicate_succ,hzz,hQ]
  have c7':(k != 6)=true:=by simpa using c7
  by_cases c5:mn=0
  ·subst c5
   by_cases c6:mx=0
   ·subst c6
    by_cases c8:k<4
    ·rcases hrow with ⟨rfl,hrow⟩ | ⟨hl,hrow⟩
     ·have hb:zaI k [a,b,c,d] 0 0 ([]:List Re).length deep=false:=by simp only [zaI,hzd];simp [c1];omega
      rw [hb] at hQ
      simp [zh7,v2,v3,v7,c1,c2,c3,c4',c7',c8,List.replicate_succ,hzz,hrow,hQ]
     ·have hb:zaI k [a,b,c,d] 0 0 l.length deep=true:=by simp [zaI,hl,c8]
      rw [hb] at hQ
      have hl':(0:Int)<(l.length:Int):=by omega
      simp [zh7,v2,v3,v7,c1,c2,c3,c4',c7',c8,List.replicate_succ,hzz,hrow,zaq,hl,hl',hQ]
    ·have hb:zaI k [a,b,c,d] 0 0 l.length deep=false:=by simp only [zaI,hzd];simp [c1];omega
     rw [hb] at hQ
     simp [zh7,v2,v3,v7,c1,c2,c3,c4',c7',c8,List.replicate_succ,hzz,hQ]
   ·have hb:zaI k [a,b,c,d] 0 mx l.length deep=true:=by simp [zaI,c6,c7]
    rw [hb] at hQ
    have c6':(mx != 0)=true:=by simpa using c6
    simp [zh7,v2,v3,v7,c1,c2,c3,c4',c7',c6',List.replicate_succ,hzz,hQ]
  ·have hb:zaI k [a,b,c,d] mn mx l.length deep=true:=by simp [zaI,c5,c7]
   rw [hb] at hQ
   have c5':(mn != 0)=true:=by simpa using c5
   simp [zh7,v2,v3,v7,c1,c2,c3,c4',c7',c5',List.replicate_succ,hzz,hQ]
theorem zxx {bar:Nat} {k within:Int} {l:List Re} {v:Nat→AV} {H:Heap} {Q:AExit→EH→Prop} (v1:v 1= .int .i64 within) (v7:v 7= .int .i64 k)
  {a b c d:Nat} {mn mx:Int} (v3:v 3= .box [.int .i64 k,u64 a,u64 b,u64 c,u64 d, .int .i64 mn, .int .i64 mx,rowOf (Re.avs l)])
  (hQ:Q .norm (mkE 2722944318552834909416890706682699579855 (st v 79 (.bool (zbj k within l.length))),H)):Ws (zaN (Rn fsT SA.sp bar) bar zpR ⟨mkE 2722944318552834909416890706682699579855 v,[],[],H⟩) Q:=by
 have hrow:(l= []∧rowOf (Re.avs l)= .nils)∨(l ≠ []∧rowOf (Re.avs l)= .slc .ro (Re.avs l)):=by
  cases l with
  | nil=>exact .inl ⟨rfl,rfl⟩
  | cons x l=>exact .inr ⟨by simp,rfl⟩
 by_cases e0:k=0
 ·subst e0
  by_cases ew:within=4
  ·have hb:zbj 0 within l.length=true:=by simp [zbj,ew]
   rw [hb] at hQ
   simp [zpR,v1,v3,v7,ew,hQ]
  ·have hb:zbj 0 within l.length=false:=by simp [zbj,ew]
   rw [hb] at hQ
   have ew':(within==4)=false:=by simpa using ew
   simp [zpR,v1,v3,v7,ew',hQ]
 have e0':(k==0)=false:=by simpa using e0
 by_cases e45:k=4∨k=5
 ·by_cases ew:within=k
  ·have hb:zbj k within l.length=true:=by subst ew;rcases e45 with rfl | rfl<;>simp [zbj]
   rw [hb] at hQ
   subst ew
   rcases e45 with rfl | rfl<;>simp [zpR,v1,v3,v7,hQ]
  ·have ew': ¬ k=within:=fun e=>ew e.symm
   have ew2:(k==within)=false:=by simpa using ew'
   rcases hrow with ⟨rfl,hrow⟩ | ⟨hl,hrow⟩
   ·have hb:zbj k within ([]:List Re).length=true:=by rcases e45 with rfl | rfl<;>simp [zbj]
    rw [hb] at hQ
    rcases e45 with rfl | rfl<;>simp [zpR,v1,v3,v7,ew2,hrow,hQ]
   ·by_cases e2:l.length<2
    ·have hb:zbj k within l.length=true:=by rcases e45 with rfl | rfl<;>simp [zbj,e2]
     rw [hb] at hQ
     have e2':(l.length:Int)<2:=by omega
     rcases e45 with rfl | rfl<;>simp [zpR,v1,v3,v7,ew2,hrow,zaq,e2,e2',hQ]
    ·have hb:zbj k within l.length=false:=by rcases e45 with rfl | rfl<;>simp [zbj,e2,ew']
     rw [hb] at hQ
     have e2': ¬ (l.length:Int)<2:=by omega
     rcases e45 with rfl | rfl<;>simp [zpR,v1,v3,v7,ew2,hrow,zaq,e2,e2',hQ]
 ·have hb:zbj k within l.length=false:=by simp [zbj,e0];omega
  rw [hb] at hQ
  have e4:(k==4)=false:=by simp;omega
  have e5:(k==5)=false:=by simp;omega
  simp [zpR,v1,v3,v7,e0',e4,e5,hQ]
theorem zBg {bar:Nat} {k mn mx:Int} {a b c d:Nat} {l:List Re} {v:Nat→AV} {H:Heap} {Q:AExit→EH→Prop} (v7:v 7= .int .i64 k)
  (v3:v 3= .box [.int .i64 k,u64 a,u64 b,u64 c,u64 d, .int .i64 mn, .int .i64 mx,rowOf (Re.avs l)])
  (hQ:Q .norm (mkE 2722944318552834909416890706682699579855 (st v 114 (.bool (zbJ k mn mx l.length))),H)):Ws (zaN (Rn fsT SA.sp bar) bar zmI ⟨mkE 2722944318552834909416890706682699579855 v,[],[],H⟩) Q:=by
 by_cases e6:k=6
 ·subst e6
  match l,v3,hQ with
  | [],v3,hQ =>
   have hb:zbJ 6 mn mx ([]:List Re).length=true:=by simp [zbJ]
   rw [hb] at hQ
   simp [zmI,v3,v7,hQ,rowOf,Re.avs]
  | x::y::l,v3,hQ =>
   have hb:zbJ 6 mn mx (x::y::l).length=true:=by simp [zbJ]
   rw [hb] at hQ
   have hlen:((((Re.avs l).length:Int)+1+1) != 1)=true:=by simp;omega
   simp [zmI,v3,v7,hQ,rowOf,Re.avs,hlen]
  | [x],v3,hQ =>
   by_cases c1:mn<0
   ·have hb:zbJ 6 mn mx [x].length=true:=by simp [zbJ,c1]
    rw [hb] at hQ
    simp [zmI,v3,v7,hQ,rowOf,Re.avs,c1]
   by_cases c2:50<mn
   ·have hb:zbJ 6 mn mx [x].length=true:=by simp [zbJ,c2]
    rw [hb] at hQ
    simp [zmI,v3,v7,hQ,rowOf,Re.avs,c1,c2]
   by_cases c3:50<mx
   ·have hb:zbJ 6 mn mx [x].length=true:=by simp [zbJ,c3]
    rw [hb] at hQ
    simp [zmI,v3,v7,hQ,rowOf,Re.avs,c1,c2,c3]
   by_cases c4:mx<mn
   ·by_cases c5:mx= -1
    ·have hb:zbJ 6 mn mx [x].length=false:=by simp [zbJ,c1,c2,c3,c5]
     rw [hb] at hQ
     simp [zmI,v3,v7,hQ,rowOf,Re.avs,c1,c2,c3,c4]
     simpa [c5] using hQ
    ·have hb:zbJ 6 mn mx [x].length=true:=by simp [zbJ,c4,c5]
     rw [hb] at hQ
     have c5':(mx != -1)=true:=by simpa using c5
     simp [zmI,v3,v7,hQ,rowOf,Re.avs,c1,c2,c3,c4,c5']
   ·have hb:zbJ 6 mn mx [x].length=false:=by simp [zbJ,c1,c2,c3,c4]
    rw [hb] at hQ
    simp [zmI,v3,v7,hQ,rowOf,Re.avs,c1,c2,c3,c4]
 ·have hb:zbJ k mn mx l.length=false:=by simp [zbJ,e6]
  rw [hb] at hQ
  have e6':(k==6)=false:=by simpa using e6
  simp [zmI,v7,e6',hQ]
end
section
theorem zxw {bar:Nat} {l:List Re} {k deep:Int} {H:Heap} {cs:List AV} (hc7:cs.length=7) (hw:Re.wideL l) (hlen:l.length<1000000) (hd:0≤deep∧deep≤1000)
  (ih: ∀ x∈l,Rn fsT SA.sp bar 70 [x.av, .int .i64 k, .int .i64 (deep+1)] H=some (.ret (.bool (x.can k (deep+1))),H)) :
  ∀ (rest:List Re) (i:Nat) (v:Nat→AV),i≤l.length→l.drop i=rest→v 2= .int .i64 deep→v 7= .int .i64 k→v 3= .box (cs ++ [rowOf (Re.avs l)])→v 8=num i →
   Wp (evI fsT SA.sp bar (.loop a70l13) (mkE 2722944318552834909416890706682699579855 v,H)) (fun e t=>(Re.canL rest k deep=true∧e= .exit 0∧ ∃ v',t=(mkE 2722944318552834909416890706682699579855 v',H))∨(Re.canL rest k deep=false∧e= .ret∧ ∃ v',t=(mkE 2722944318552834909416890706682699579855 v',H)∧v' 6= .bool false)):=by
 have hs:=SA.mono
 obtain ⟨c0,c1,c2,c3,c4,c5,c6,rfl⟩: ∃ c0 c1 c2 c3 c4 c5 c6,cs= [c0,c1,c2,c3,c4,c5,c6]:=by
  match cs,hc7 with
  | [c0,c1,c2,c3,c4,c5,c6],_=>exact ⟨c0,c1,c2,c3,c4,c5,c6,rfl⟩
 intro rest
 induction rest with
 | nil =>
  intro i v hi hr v2 v7 v3 v8
  have hi':i=l.length:=by
   have:=congrArg List.length hr
   rw [List.length_drop] at this;simp at this;omega
  subst hi'
  have hrow:(l= []∧rowOf (Re.avs l)= .nils)∨rowOf (Re.avs l)= .slc .ro (Re.avs l):=by
   cases l with
   | nil=>exact .inl ⟨rfl,rfl⟩
   | cons x l=>exact .inr rfl
  rw [zaj hs a70l13.eq_1]
  rcases hrow with ⟨rfl,hrow⟩ | hrow
  all_goals
   rw [hrow] at v3
   simp only [List.cons_append,List.nil_append] at v3
   simp [zad hs,zaa hs,zab hs,zac hs,zCA,v3,v8,zaq]
   exact ⟨rfl,_,rfl⟩
 | cons x rest ihr =>
  intro i v hi hr v2 v7 v3 v8
  have hi':i<l.length:=by
   have:=congrArg List.length hr
   rw [List.length_drop] at this;simp at this;omega
  have hdc:=List.drop_eq_getElem_cons hi'
  rw [hr] at hdc
  obtain ⟨hx,hr'⟩:=List.cons.inj hdc
  have hmem:x∈l:=hx▸List.getElem_mem hi'
  obtain ⟨d,hcs,hcl⟩:=Re.av_agg (zaC.1 hw x hmem)
  have hcl8:8≤d.length:=by omega
  have htk:List.take 8 d=d:=List.take_of_length_le (by omega)
  have hg:(Re.avs l)[i]? = some (.agg d):=by rw [zeo hi',←hx,hcs]
  have hne:Re.avs l ≠ []:=by rw [Re.avs_map];simp;intro e;subst e;simp at hi'
  have hcall:=ih x hmem
  rw [hcs] at hcall
  have v3':=v3
  rw [za3 hne] at v3'
  simp only [List.cons_append,List.nil_append] at v3'
  have hw1:IntKind.i64.wrap ((i:Int)+1)=(i:Int)+1:=zal _ (by omega)
  have hwd:IntKind.i64.wrap (deep+1)=deep+1:=zal _ (by omega)
  rw [zaj hs a70l13.eq_1]
  cases hcx:x.can k (deep+1) with
  | false =>
   rw [hcx] at hcall
   have hu:Re.canL (x::rest) k deep=false:=by simp [Re.canL,hcx]
   rw [hu]
   simp [zad hs,zaa hs,zab hs,zac hs,zCA,zy7,zy6,zy5,v2,v3',v7,v8,zaq,hi',hg,hcl,hcl8,htk,hcall,hw1,hwd]
   exact ⟨_,rfl,by simp⟩
  | true =>
   rw [hcx] at hcall
   have hu:Re.canL (x::rest) k deep=Re.canL rest k deep:=by simp [Re.canL,hcx]
   rw [hu]
   simp [zad hs,zaa hs,zab hs,zac hs,zCA,zy7,zy6,zy5,v2,v3',v7,v8,zaq,hi',hg,hcl,hcl8,htk,hcall,hw1,hwd]
   refine (ihr (i+1) _ (by omega) hr'.symm ?_ ?_ ?_ ?_).mono fun e t h=>by simpa using h
   ·simp [v2]
   ·simp [v7]
   ·simp [v3',za3 hne]
   ·simp
theorem zxv {k:Int} {set:List Nat} {mn mx:Int} {l:List Re} {within deep:Int} (hw:(Re.mk k set mn mx l).wide) (hd:0≤deep∧deep≤1000)
  (ih: ∀ x∈l,∀ w d,0≤d→d≤1000→ ∀ bar H,Rn fsT SA.sp bar 70 [x.av, .int .i64 w, .int .i64 d] H=some (.ret (.bool (x.can w d)),H)) (bar:Nat) (H:Heap) :
  Rn fsT SA.sp bar 70 [(Re.mk k set mn mx l).av, .int .i64 within, .int .i64 deep] H=some (.ret (.bool ((Re.mk k set mn mx l).can within deep)),H):=by
 have hs:=SA.mono
 unfold Re.wide at hw
 obtain ⟨h4,hlen,hm,hwl⟩:=hw
 obtain ⟨a,b,c,d,rfl⟩:=four h4
 refine zao hs zId rfl (by simp only [zdv,zfG,clo];rfl) rfl ?_
 rw [env70,zyR]
 simp [a70,zKG,zKF,zad hs,zaa hs,Re.av]
 refine zxy (k:=k) (mn:=mn) (mx:=mx) (deep:=deep) (a:=a) (b:=b) (c:=c) (d:=d) (l:=l) ?_ ?_ ?_ ?_
 ·simp
 ·simp
 ·simp
 cases hb:zaI k [a,b,c,d] mn mx l.length deep with
 | true=>simp [zKE,zad hs,zaa hs,zac hs]
 | false =>
  have hd1:deep≤100:=by
   simp only [zaI,Bool.or_eq_false_iff,decide_eq_false_iff_not] at hb
   omega
  simp [zad hs,zaa hs,zac hs]
  refine zxx (k:=k) (within:=within) (mn:=mn) (mx:=mx) (a:=a) (b:=b) (c:=c) (d:=d) (l:=l) ?_ ?_ ?_ ?_
  ·simp
  ·simp
  ·simp
  cases hk:zbj k within l.length with
  | true=>simp [zKD,zad hs,zaa hs,zac hs]
  | false =>
   simp [zad hs,zaa hs,zac hs]
   refine zBg (k:=k) (mn:=mn) (mx:=mx) (a:=a) (b:=b) (c:=c) (d:=d) (l:=l) ?_ ?_ ?_
   ·simp
   ·simp
   cases hr:zbJ k mn mx l.length with
   | true=>simp [zKC,zad hs,zaa hs,zac hs]
   | false =>
    simp [zKB,zad hs,zaa hs,zab hs,zac hs]
    refine (zxw (cs:= [.int .i64 k,u64 a,u64 b,u64 c,u64 d, .int .i64 mn, .int .i64 mx]) (bar:=0) (H:= []) rfl hwl hlen hd (fun x hx=>ih x hx k (deep+1) (by omega) (by omega) 0 []) l 0 _ (Nat.zero_le _) rfl ?_ ?_ ?_ ?_).mono fun e t h=> ?_
    ·simp
    ·simp
    ·simp
    ·simp
    ·rcases h with ⟨h1,rfl,v',rfl⟩ | ⟨h1,rfl,v',rfl,h2⟩
     ·simp [zDF,zad hs,zaa hs,h1]
     ·simp [h1,h2]
mutual
theorem zuI: ∀ (r:Re),r.wide→ ∀ (within deep:Int),0≤deep→deep≤1000→ ∀ (bar:Nat) (H:Heap),Rn fsT SA.sp bar 70 [r.av, .int .i64 within, .int .i64 deep] H=some (.ret (.bool (r.can within deep)),H)
 | .mk k set mn mx l,hw,within,deep,h0,h1,bar,H=>zxv hw ⟨h0,h1⟩ (fun x hx w d d0 d1 bar H=>zqR l (by unfold Re.wide at hw;exact hw.2.2.2) x hx w d d0 d1 bar H) bar H
theorem zqR: ∀ (l:List Re),Re.wideL l→ ∀ x∈l,∀ (within deep:Int),0≤deep→deep≤1000→ ∀ (bar:Nat) (H:Heap),Rn fsT SA.sp bar 70 [x.av, .int .i64 within, .int .i64 deep] H=some (.ret (.bool (x.can within deep)),H)
 | [],_=>fun x hx=>by cases hx
 | y::l,hw=>fun x hx w d d0 d1 bar H=>by
  unfold Re.wideL at hw
  rcases List.mem_cons.1 hx with e | h
  ·rw [e];exact zuI y hw.1 w d d0 d1 bar H
  ·exact zqR l hw.2 x h w d d0 d1 bar H
end
end
section
theorem zlO {k:Int} {set:List Nat} {mn mx:Int} {l:List Re} {within deep:Int} (h:(Re.mk k set mn mx l).can within deep=true) :
  deep≤100∧(k<4→l= [])∧0≤k∧k≤6∧(k=5→2≤l.length)∧(k=6→l.length=1∧0≤mn∧mn≤50∧mx≤50∧(mn≤mx∨mx= -1))∧Re.canL l k deep=true:=by
 rw [zyR] at h
 split at h
 ·cases h
 rename_i h1
 split at h
 ·cases h
 rename_i h2
 split at h
 ·cases h
 rename_i h3
 simp only [zaI,Bool.or_eq_true,Bool.and_eq_true,decide_eq_true_eq,not_or,not_and] at h1
 simp only [zbj,Bool.or_eq_true,Bool.and_eq_true,decide_eq_true_eq,not_or,not_and] at h2
 simp only [zbJ,Bool.or_eq_true,Bool.and_eq_true,decide_eq_true_eq,not_or,not_and] at h3
 obtain ⟨a1,a2,a3,a4,a5,a6⟩:=h1
 refine ⟨by omega,fun e=> ?_,by omega,by omega,fun e=> ?_,fun e=> ?_,h⟩
 ·have:=a6 e
  exact List.eq_nil_of_length_eq_zero (by omega)
 ·have:=h2.2 (.inr e)
  omega
 ·have:=h3 e
  omega
def Re.rcap (r:Re):Nat:=if r.cap≤500 then r.cap else 1000
theorem zsV {bar:Nat} {l:List Re} {cs:List AV} {H:Heap} (hc7:cs.length=7) (hw:Re.wideL l) (hlen:l.length<1000000)
  (ih: ∀ x∈l,Rn fsT SA.sp bar 71 [x.av] H=some (.ret (num x.rcap),H)) :
  ∀ (rest:List Re) (i n:Nat) (v:Nat→AV),i≤l.length→l.drop i=rest→n≤500→v 1= .box (cs ++ [rowOf (Re.avs l)])→v 3=num n→v 4=num i →
   Wp (evI fsT SA.sp bar (.loop a71l10) (mkE 2361255369402436685855 v,H)) (fun e t=>(Re.capL n rest≤500∧e= .exit 0∧ ∃ v',t=(mkE 2361255369402436685855 v',H)∧v' 1=v 1∧v' 3=num (Re.capL n rest))∨(¬ Re.capL n rest≤500∧e= .ret∧ ∃ v',t=(mkE 2361255369402436685855 v',H)∧v' 2= .int .i64 1000)):=by
 have hs:=SA.mono
 obtain ⟨c0,c1,c2,c3,c4,c5,c6,rfl⟩: ∃ c0 c1 c2 c3 c4 c5 c6,cs= [c0,c1,c2,c3,c4,c5,c6]:=by
  match cs,hc7 with
  | [c0,c1,c2,c3,c4,c5,c6],_=>exact ⟨c0,c1,c2,c3,c4,c5,c6,rfl⟩
 intro rest
 induction rest with
 | nil =>
  intro i n v hi hr hn v1 v3 v4
  have hi':i=l.length:=by
   have:=congrArg List.length hr
   rw [List.length_drop] at this;simp at this;omega
  subst hi'
  have hrow:(l= []∧rowOf (Re.avs l)= .nils)∨rowOf (Re.avs l)= .slc .ro (Re.avs l):=by
   cases l with
   | nil=>exact .inl ⟨rfl,rfl⟩
   | cons x l=>exact .inr rfl
  have hcl:Re.capL n []=n:=rfl
  rw [zaj hs a71l10.eq_1,hcl]
  rcases hrow with ⟨rfl,hrow⟩ | hrow
  all_goals
   have v1':=v1
   rw [hrow] at v1'
   simp only [List.cons_append,List.nil_append] at v1'
   simp [zad hs,zaa hs,zab hs,zac hs,zCz,v1',v4,zaq]
   exact ⟨hn,_,rfl,by simp [v1'],by simp [v3]⟩
 | cons x rest ihr =>
  intro i n v hi hr hn v1 v3 v4
  have hi':i<l.length:=by
   have:=congrArg List.length hr
   rw [List.length_drop] at this;simp at this;omega
  have hdc:=List.drop_eq_getElem_cons hi'
  rw [hr] at hdc
  obtain ⟨hx,hr'⟩:=List.cons.inj hdc
  have hmem:x∈l:=hx▸List.getElem_mem hi'
  obtain ⟨d,hcs,hcl⟩:=Re.av_agg (zaC.1 hw x hmem)
  have hcl8:8≤d.length:=by omega
  have htk:List.take 8 d=d:=List.take_of_length_le (by omega)
  have hg:(Re.avs l)[i]? = some (.agg d):=by rw [zeo hi',←hx,hcs]
  have hne:Re.avs l ≠ []:=by rw [Re.avs_map];simp;intro e;subst e;simp at hi'
  have hcall:=ih x hmem
  rw [hcs] at hcall
  have v1':=v1
  rw [za3 hne] at v1'
  simp only [List.cons_append,List.nil_append] at v1'
  have hw1:IntKind.i64.wrap ((i:Int)+1)=(i:Int)+1:=zal _ (by omega)
  have hrc:x.rcap≤1000:=by unfold Re.rcap;split<;>omega
  have hw2:IntKind.i64.wrap ((n:Int)+(x.rcap:Int))=(n:Int)+(x.rcap:Int):=zal _ (by omega)
  rw [zaj hs a71l10.eq_1]
  by_cases hb:n+x.cap>500
  ·have hu:Re.capL n (x::rest)=n+x.cap:=by simp [Re.capL,hb]
   have hx5:(500:Int)<(n:Int)+(x.rcap:Int):=by unfold Re.rcap;split<;>omega
   rw [hu]
   simp [zad hs,zaa hs,zab hs,zac hs,zCz,zGT,zGS,zGR,zGQ,v1',v3,v4,zaq,hi',hg,hcl,hcl8,htk,hcall,hw1,hw2,hx5]
   exact ⟨by omega,_,rfl,by simp⟩
  ·have hu:Re.capL n (x::rest)=Re.capL (n+x.cap) rest:=by simp [Re.capL,hb]
   have hxc:x.rcap=x.cap:=by unfold Re.rcap;rw [if_pos (by omega)]
   rw [hxc] at hcall hw2
   have hx5: ¬ (500:Int)<(n:Int)+(x.cap:Int):=by omega
   rw [hu]
   simp [zad hs,zaa hs,zab hs,zac hs,zCz,zGT,zGS,zGR,zGQ,v1',v3,v4,zaq,hi',hg,hcl,hcl8,htk,hcall,hw1,hw2,hx5]
   refine (ihr (i+1) (n+x.cap) _ (by omega) hr'.symm (by omega) ?_ ?_ ?_).mono fun e t h=> ?_
   ·simp [v1',za3 hne]
   ·simp
   ·simp
   ·rcases h with ⟨e1,e2,v',e3,e4,e5⟩ | ⟨e1,e2,v',e3,e4⟩
    ·exact .inl ⟨e1,e2,v',e3,by rw [e4];simp [v1'],e5⟩
    ·exact .inr ⟨by omega,e2,v',e3,e4⟩
theorem zsU {k:Int} {set:List Nat} {mn mx:Int} {l:List Re} {within deep:Int} (hc:(Re.mk k set mn mx l).can within deep=true) (hw:(Re.mk k set mn mx l).wide)
  (ih: ∀ x∈l,Rn fsT SA.sp 0 71 [x.av] []=some (.ret (num x.rcap),[])) (bar:Nat) (H:Heap):Rn fsT SA.sp bar 71 [(Re.mk k set mn mx l).av] H=some (.ret (num (Re.mk k set mn mx l).rcap),H):=by
 have hs:=SA.mono
 obtain ⟨r1,r2,r3,r4,r5,r6,r7⟩:=zlO hc
 unfold Re.wide at hw
 obtain ⟨h4,hlen,⟨m1,m2,m3,m4⟩,hwl⟩:=hw
 obtain ⟨a,b,c,d,rfl⟩:=four h4
 refine zao hs zIc rfl (by simp only [zdv,zfG];rfl) rfl ?_
 rw [env71]
 by_cases e13:k=1∨k=2∨k=3
 ·have hl:=r2 (by omega)
  subst hl
  have hcp:(Re.mk k [a,b,c,d] mn mx []).rcap=1:=by
   unfold Re.rcap
   have:(Re.mk k [a,b,c,d] mn mx []).cap=1:=by unfold Re.cap;rw [if_neg (by simp [Re.capL]),if_pos e13]
   rw [this];rfl
  rw [hcp]
  have k1:1≤k:=by omega
  have k3:k≤3:=by omega
  simp [a71,zy4,zy3,zy2,zad hs,zaa hs,zac hs,Re.av,k1,k3]
 have hin:=fun v=>zsV (cs:= [.int .i64 k,u64 a,u64 b,u64 c,u64 d, .int .i64 mn, .int .i64 mx]) (bar:=0) (H:= []) rfl hwl hlen ih l 0 0 v (Nat.zero_le _) rfl (by omega)
 have test: ∀ (X:ACode) (Q:AExit→EH→Prop),Wp (evI fsT SA.sp 0 X (mkE 2361255369402436685855 (st (st (st (st (st noV 0 (Re.mk k [a,b,c,d] mn mx l).av) 1 (.box [.int .i64 k,u64 a,u64 b,u64 c,u64 d, .int .i64 mn, .int .i64 mx,rowOf (Re.avs l)])) 2 (.int .i64 0)) 12 (.bool false)) 12 .undef),[])) Q →
   Wp (evI fsT SA.sp 0 (.seq (.region zy4) (.seq (.seq (.region zy3) (.cond true (.v 12) (.seq (.region zy2) .ret) .skip)) X)) (mkE 2361255369402436685855 (st noV 0 (Re.mk k [a,b,c,d] mn mx l).av),[])) Q:=fun X Q h=>by
  by_cases k1:1≤k
  ·have k3: ¬ k≤3:=by omega
   simp [zy4,zy3,zy2,zad hs,zaa hs,zac hs,Re.av,k1,k3]
   simpa [Re.av] using h
  ·simp [zy4,zy3,zy2,zad hs,zaa hs,zac hs,Re.av,k1]
   simpa [Re.av] using h
 unfold a71
 simp only
 refine test _ _ ?_
 simp [zKA,zKz,zad hs,zaa hs,zac hs,zab hs]
 refine (hin _ ?_ ?_ ?_).mono fun e t h=> ?_
 ·simp
 ·simp
 ·simp
 rcases h with ⟨h5,rfl,v',rfl,q1,q3⟩ | ⟨h5,rfl,v',rfl,q2⟩
 ·simp at q1
  generalize hC:Re.capL 0 l=C at h5 q3
  have done: ∀ (m:Nat) (w:Nat→AV),w 3=num m→(Re.mk k [a,b,c,d] mn mx l).cap=m →
    Wp (evI fsT SA.sp 0 (.seq (.seq (.region zvh) (.cond true (.v 71) (.seq (.region zvg) .ret) .skip)) (.seq (.region zvf) .ret)) (mkE 2361255369402436685855 w,[])) (fin [.tmp 2] (thaw 0 (· = .ret (num (Re.mk k [a,b,c,d] mn mx l).rcap)))):=fun m w w3 hm=>by
   by_cases h:m≤500
   ·have hm': ¬ (500:Int)<(m:Int):=by omega
    have hcp:(Re.mk k [a,b,c,d] mn mx l).rcap=m:=by unfold Re.rcap;rw [hm,if_pos h]
    rw [hcp]
    simp [zvh,zvg,zvf,zad hs,zaa hs,zac hs,w3,hm']
   ·have hm':(500:Int)<(m:Int):=by omega
    have hcp:(Re.mk k [a,b,c,d] mn mx l).rcap=1000:=by unfold Re.rcap;rw [hm,if_neg h]
    rw [hcp]
    simp [zvh,zvg,zvf,zad hs,zaa hs,zac hs,w3,hm']
  have hcap0:(Re.mk k [a,b,c,d] mn mx l).cap=if k=5 then C+l.length-1 else if k=6 then (if mx<0 then mn.toNat*C+C+1 else mn.toNat*C+(mx-mn).toNat*(C+1)) else C:=by
   unfold Re.cap
   rw [hC,if_neg (by omega),if_neg e13]
  have done':=done
  simp only [zad hs,zaa hs] at done'
  by_cases e5:k=5
  ·subst e5
   have hl2:=r5 rfl
   have hne:Re.avs l ≠ []:=by rw [Re.avs_map];simp;intro e;subst e;simp at hl2
   have hrow:=za3 hne
   rw [hrow] at q1
   rw [if_pos rfl] at hcap0
   have hw1:IntKind.i64.wrap ((C:Int)+(l.length:Int))=(C:Int)+(l.length:Int):=zal _ (by omega)
   have hw2:IntKind.i64.wrap ((C:Int)+(l.length:Int)-1)=(C:Int)+(l.length:Int)-1:=zal _ (by omega)
   have hm:num (C+l.length-1)= .int .i64 ((C:Int)+(l.length:Int)-1):=by simp only [num,AV.int.injEq,true_and];omega
   simp [zrK,zrJ,zrI,zrH,zrG,zrF,zad hs,zaa hs,zac hs,q1,q3,zaq,hw1,hw2]
   refine done' (C+l.length-1) _ ?_ hcap0
   rw [hm];simp
  have e5':(k==5)=false:=by simpa using e5
  rw [if_neg e5] at hcap0
  by_cases e6:k=6
  ·subst e6
   obtain ⟨s1,s2,s3,s4,s5⟩:=r6 rfl
   have hcap1:=hcap0
   rw [if_pos rfl] at hcap1
   obtain ⟨N,rfl⟩: ∃ N:Nat,mn=(N:Int):=⟨mn.toNat,by omega⟩
   have hN:N≤50:=by omega
   have e1:=Nat.mul_le_mul hN h5
   obtain ⟨D,hD⟩: ∃ D,N*C=D:=⟨_,rfl⟩
   rw [hD] at e1
   have hDI:(N:Int)*(C:Int)=(D:Int):=by rw [←hD];push_cast;rfl
   have hwD:IntKind.i64.wrap (D:Int)=(D:Int):=zal _ (by omega)
   by_cases hmx:mx<0
   ·rw [if_pos hmx] at hcap1
    have hw2:IntKind.i64.wrap ((D:Int)+(C:Int))=(D:Int)+C:=zal _ (by omega)
    have hw3:IntKind.i64.wrap ((D:Int)+(C:Int)+1)=(D:Int)+C+1:=zal _ (by omega)
    simp [zrK,zrJ,zrI,zrH,zrG,zrF,zad hs,zaa hs,zac hs,q1,q3,hmx,hDI,hwD,hw2,hw3]
    refine done' (D+C+1) _ ?_ (by rw [hcap1];simp [hD])
    simp
   ·rw [if_neg hmx] at hcap1
    obtain ⟨M,rfl⟩: ∃ M:Nat,mx=(M:Int):=⟨mx.toNat,by omega⟩
    have hNM:N≤M:=by omega
    obtain ⟨E,hE⟩: ∃ E,(M-N)*(C+1)=E:=⟨_,rfl⟩
    have e2:=Nat.mul_le_mul (show M-N≤50 by omega) (show C+1≤501 by omega)
    rw [hE] at e2
    have hEI:((M-N:Nat):Int)*((C:Int)+1)=(E:Int):=by rw [←hE];push_cast;rfl
    have hw0:IntKind.i64.wrap ((M:Int)-(N:Int))=((M-N:Nat):Int):=by rw [zal _ (by omega)];omega
    have hw2:IntKind.i64.wrap ((C:Int)+1)=(C:Int)+1:=zal _ (by omega)
    have hwE:IntKind.i64.wrap (E:Int)=(E:Int):=zal _ (by omega)
    have hw4:IntKind.i64.wrap ((D:Int)+(E:Int))=(D:Int)+E:=zal _ (by omega)
    have hmx': ¬ (M:Int)<0:=by omega
    have hMN:((M:Int)-(N:Int)).toNat=M-N:=by omega
    simp [zrK,zrJ,zrI,zrH,zrG,zrF,zad hs,zaa hs,zac hs,q1,q3,hmx',hDI,hEI,hwD,hwE,hw0,hw2,hw4]
    refine done' (D+E) _ ?_ (by rw [hcap1,hMN];simp [hD,hE])
    simp
  ·have e6':(k==6)=false:=by simpa using e6
   rw [if_neg e6] at hcap0
   simp [zrK,zrJ,zrI,zrH,zrG,zrF,zad hs,zaa hs,zac hs,q1,q3,e5',e6']
   refine done' C _ ?_ hcap0
   simp [q3]
 ·have hcp:(Re.mk k [a,b,c,d] mn mx l).rcap=1000:=by
   have h:(Re.mk k [a,b,c,d] mn mx l).cap=Re.capL 0 l:=by unfold Re.cap;rw [if_pos (by omega)]
   unfold Re.rcap
   rw [h,if_neg h5]
  rw [hcp]
  simp [q2]
mutual
theorem znZ: ∀ (r:Re) (within deep:Int),r.can within deep=true→r.wide→ ∀ (bar:Nat) (H:Heap),Rn fsT SA.sp bar 71 [r.av] H=some (.ret (num r.rcap),H)
 | .mk k set mn mx l,within,deep,hc,hw,bar,H=>zsU hc hw (fun x hx=>zma l k deep (zlO hc).2.2.2.2.2.2 (by unfold Re.wide at hw;exact hw.2.2.2) x hx) bar H
theorem zma: ∀ (l:List Re) (k deep:Int),Re.canL l k deep=true→Re.wideL l→ ∀ x∈l,Rn fsT SA.sp 0 71 [x.av] []=some (.ret (num x.rcap),[])
 | [],_,_,_,_=>fun x hx=>by cases hx
 | y::l,k,deep,hc,hw=>fun x hx=>by
  unfold Re.wideL at hw
  simp only [Re.canL,Bool.and_eq_true] at hc
  rcases List.mem_cons.1 hx with e | h
  ·rw [e];exact znZ y k (deep+1) hc.1 hw.1 0 []
  ·exact zma l k deep hc.2 hw.2 x h
end
theorem zl7 {bar:Nat} {r:Re} (hw:r.wide) (H:Heap):Rn fsT SA.sp bar 45 [r.av] H=some (.ret (num r.states),H):=by
 have hs:=SA.mono
 have hC:=zuI r hw (-1) 1 (by omega) (by omega) 0 []
 have hcnt:=fun h=>znZ r (-1) 1 h hw 0 []
 obtain ⟨c,hcs,hcl⟩:=Re.av_agg hw
 refine zao hs zIo rfl (by simp only [zdv,zfG];rfl) rfl ?_
 rw [env45]
 rw [hcs] at hC hcnt ⊢
 have hcl8:8≤c.length:=by omega
 have htk:List.take 8 c=c:=List.take_of_length_le (by omega)
 unfold Re.states
 cases hcan:r.can (-1) 1 with
 | false =>
  rw [hcan] at hC
  simp [a45,zCN,zCM,zCL,zCK,zCJ,zCI,zCH,zad hs,zaa hs,zac hs,hcl,hcl8,htk,hC]
 | true =>
  rw [hcan] at hC
  have hcnt:=hcnt hcan
  unfold Re.rcap at hcnt
  by_cases h5:r.cap≤500
  ·rw [if_pos h5] at hcnt
   have h5': ¬ (500:Int)<(r.cap:Int):=by omega
   have hw1:IntKind.i64.wrap ((r.cap:Int)+1)=(r.cap:Int)+1:=zal _ (by omega)
   have hm:min r.cap 500=r.cap:=by omega
   simp [a45,zCN,zCM,zCL,zCK,zCJ,zCI,zCH,zad hs,zaa hs,zac hs,hcl,hcl8,htk,hC,hcnt,h5',hw1,hm]
  ·rw [if_neg h5] at hcnt
   have hm:min r.cap 500=500:=by omega
   have h1000:(num 1000)= .int .i64 1000:=rfl
   rw [h1000] at hcnt
   have hw1:IntKind.i64.wrap 501=501:=by decide
   simp [a45,zCN,zCM,zCL,zCK,zCJ,zCI,zCH,zad hs,zaa hs,zac hs,hcl,hcl8,htk,hC,hcnt,hw1,hm]
end
section
theorem zsQ {bar:Nat} {l:List Re} {cs:List AV} {H:Heap} (hc7:cs.length=7) (hw:Re.wideL l) (hlen:l.length<1000000)
  (ih: ∀ x∈l,∀ d m:Int,∃ n:Int,Rn fsT SA.sp bar 85 [x.av, .int .i64 d, .int .i64 m] H=some (.ret (.int .i64 n),H)) (deep most:Int) :
  ∀ (k i:Nat) (n:Int) (v:Nat→AV),i+k=l.length→v 1= .int .i64 deep→v 2= .int .i64 most→v 3= .box (cs ++ [rowOf (Re.avs l)])→v 7= .int .i64 n→v 8=num i →
   Wp (evI fsT SA.sp bar (.loop a85l6) (mkE 549760008655 v,H)) (fun e t=>e= .exit 0∧ ∃ v',t=(mkE 549760008655 v',H)∧v' 1=v 1∧v' 2=v 2∧ ∃ n':Int,v' 7= .int .i64 n'):=by
 have hs:=SA.mono
 obtain ⟨c0,c1,c2,c3,c4,c5,c6,rfl⟩: ∃ c0 c1 c2 c3 c4 c5 c6,cs= [c0,c1,c2,c3,c4,c5,c6]:=by
  match cs,hc7 with
  | [c0,c1,c2,c3,c4,c5,c6],_=>exact ⟨c0,c1,c2,c3,c4,c5,c6,rfl⟩
 intro k
 induction k with
 | zero =>
  intro i n v hi v1 v2 v3 v7 v8
  have hi':i=l.length:=by omega
  subst hi'
  have hrow:(l= []∧rowOf (Re.avs l)= .nils)∨rowOf (Re.avs l)= .slc .ro (Re.avs l):=by
   cases l with
   | nil=>exact .inl ⟨rfl,rfl⟩
   | cons x l=>exact .inr rfl
  rw [zaj hs a85l6.eq_1]
  rcases hrow with ⟨rfl,hrow⟩ | hrow
  all_goals
   rw [hrow] at v3
   simp only [List.cons_append,List.nil_append] at v3
   simp [zad hs,zaa hs,zab hs,zac hs,zy1,v1,v2,v3,v7,v8,zaq]
   exact ⟨_,rfl,by simp [v1],by simp [v2],n,by simp [v7]⟩
 | succ k ihr =>
  intro i n v hi v1 v2 v3 v7 v8
  have hi':i<l.length:=by omega
  have hmem:l[i]∈l:=List.getElem_mem hi'
  obtain ⟨d,hcs,hcl⟩:=Re.av_agg (zaC.1 hw l[i] hmem)
  have hcl8:8≤d.length:=by omega
  have htk:List.take 8 d=d:=List.take_of_length_le (by omega)
  have hg:(Re.avs l)[i]? = some (.agg d):=by rw [zeo hi',hcs]
  have hne:Re.avs l ≠ []:=by rw [Re.avs_map];simp;intro e;subst e;simp at hi'
  obtain ⟨m,hcall⟩:=ih l[i] hmem (IntKind.i64.wrap (deep-1)) (IntKind.i64.wrap (most-n))
  rw [hcs] at hcall
  have v3':=v3
  rw [za3 hne] at v3'
  simp only [List.cons_append,List.nil_append] at v3'
  have hw1:IntKind.i64.wrap ((i:Int)+1)=(i:Int)+1:=zal _ (by omega)
  rw [zaj hs a85l6.eq_1]
  by_cases h1:n≤most
  ·by_cases h2:0<deep
   ·simp [zad hs,zaa hs,zab hs,zac hs,zy1,zCx,zCw,v1,v2,v3',v7,v8,zaq,hi',h1,h2,hg,hcl,hcl8,htk,hcall,hw1]
    refine (ihr (i+1) (IntKind.i64.wrap (n+m)) _ (by omega) ?_ ?_ ?_ ?_ ?_).mono fun e t h=> ?_
    ·simp [v1]
    ·simp [v2]
    ·simp [v3',za3 hne]
    ·simp
    ·simp
    ·obtain ⟨e1,v',e2,e3,e4,e5⟩:=h
     exact ⟨e1,v',e2,by rw [e3];simp [v1],by rw [e4];simp [v2],e5⟩
   ·simp [zad hs,zaa hs,zab hs,zac hs,zy1,zCx,zCw,v1,v2,v3',v7,v8,zaq,hi',h1,h2]
    exact ⟨_,rfl,by simp [v1],by simp [v2],n,by simp [v7]⟩
  ·simp [zad hs,zaa hs,zab hs,zac hs,zy1,zCx,zCw,v1,v2,v3',v7,v8,zaq,hi',h1]
   exact ⟨_,rfl,by simp [v1],by simp [v2],n,by simp [v7]⟩
theorem zsP {k:Int} {set:List Nat} {mn mx:Int} {l:List Re} (hw:(Re.mk k set mn mx l).wide)
  (ih: ∀ x∈l,∀ d m:Int,∃ n:Int,Rn fsT SA.sp 0 85 [x.av, .int .i64 d, .int .i64 m] []=some (.ret (.int .i64 n),[])) (deep most:Int) :
  ∃ n:Int,∀ (bar:Nat) (H:Heap),Rn fsT SA.sp bar 85 [(Re.mk k set mn mx l).av, .int .i64 deep, .int .i64 most] H=some (.ret (.int .i64 n),H):=by
 have hs:=SA.mono
 unfold Re.wide at hw
 obtain ⟨h4,hlen,hm,hwl⟩:=hw
 obtain ⟨a,b,c,d,rfl⟩:=four h4
 have hin:=fun v=>zsQ (cs:= [.int .i64 k,u64 a,u64 b,u64 c,u64 d, .int .i64 mn, .int .i64 mx]) (bar:=0) (H:= []) rfl hwl hlen ih deep most l.length 0 1 v (by omega)
 have key:Wp (evI fsT SA.sp 0 a85.body (zat a85.vars [(Re.mk k [a,b,c,d] mn mx l).av, .int .i64 deep, .int .i64 most],[])) (fin a85.res (thaw 0 (fun o=> ∃ n:Int,o= .ret (.int .i64 n)))):=by
  rw [env85]
  simp [a85,zKu,zKt,zKs,zad hs,zaa hs,zab hs,Re.av]
  refine (hin _ ?_ ?_ ?_ ?_ ?_).mono fun e t h=> ?_
  ·simp
  ·simp
  ·simp
  ·simp
  ·simp
  obtain ⟨rfl,v',rfl,q1,q2,n',q7⟩:=h
  simp at q1 q2
  by_cases h:deep≤0
  ·simp [zad hs,zaa hs,zac hs,zGH,zGG,zGF,q1,q2,h]
  ·simp [zad hs,zaa hs,zac hs,zGH,zGG,zGF,q1,q7,h]
 have hc:zdv [(Re.mk k [a,b,c,d] mn mx l).av, .int .i64 deep, .int .i64 most]=true:=by simp only [zdv,zfG,clo];rfl
 obtain ⟨o,K,q,⟨n,rfl⟩,rfl⟩:=zAF (bar:=0) (H:= []) hs zDv rfl hc rfl key
 obtain ⟨m,hm⟩:=(zgR hs).1 q
 exact ⟨n,fun bar H=>zuL hs zDv rfl hc hm bar H⟩
mutual
theorem znW: ∀ (r:Re),r.wide→ ∀ deep most:Int,∃ n:Int,∀ (bar:Nat) (H:Heap),Rn fsT SA.sp bar 85 [r.av, .int .i64 deep, .int .i64 most] H=some (.ret (.int .i64 n),H)
 | .mk k set mn mx l,hw,deep,most=>zsP hw (fun x hx d m=>zl8 l (by unfold Re.wide at hw;exact hw.2.2.2) x hx d m) deep most
theorem zl8: ∀ (l:List Re),Re.wideL l→ ∀ x∈l,∀ d m:Int,∃ n:Int,Rn fsT SA.sp 0 85 [x.av, .int .i64 d, .int .i64 m] []=some (.ret (.int .i64 n),[])
 | [],_=>fun x hx=>by cases hx
 | y::l,hw=>fun x hx d m=>by
  unfold Re.wideL at hw
  rcases List.mem_cons.1 hx with e | h
  ·rw [e]
   obtain ⟨n,h⟩:=znW y hw.1 d m
   exact ⟨n,h 0 []⟩
  ·exact zl8 l hw.2 x h d m
end
theorem zvW {r:Re} (hw:r.wide): ∃ b:Bool,∀ (bar:Nat) (H:Heap),Rn fsT SA.sp bar 63 [r.av] H=some (.ret (.bool b),H):=by
 have hs:=SA.mono
 obtain ⟨n,hn⟩:=znW r hw 150 400
 have hn:=hn 0 []
 refine ⟨decide (n≤400),fun bar H=> ?_⟩
 obtain ⟨c,hcs,hcl⟩:=Re.av_agg hw
 refine zao hs zIh rfl (by simp only [zdv,zfG];rfl) rfl ?_
 rw [env63]
 rw [hcs] at hn ⊢
 have hcl8:8≤c.length:=by omega
 have htk:List.take 8 c=c:=List.take_of_length_le (by omega)
 simp [a63,zKK,zKJ,zad hs,zaa hs,zac hs,hcl,hcl8,htk,hn]
theorem zvY {r:Re} (hw:r.wide): ∃ b:Bool,∀ (bar:Nat) (H:Heap),Rn fsT SA.sp bar 38 [r.av] H=some (.ret (.bool b),H):=by
 have hs:=SA.mono
 obtain ⟨b,hb⟩:=zvW hw
 have hb:=hb 0 []
 have hst:=zl7 (bar:=0) hw []
 obtain ⟨c,hcs,hcl⟩:=Re.av_agg hw
 refine ⟨b&&decide (r.states≤300),fun bar H=> ?_⟩
 refine zao hs zIs rfl (by simp only [zdv,zfG];rfl) rfl ?_
 rw [env38]
 rw [hcs] at hb hst ⊢
 have hcl8:8≤c.length:=by omega
 have htk:List.take 8 c=c:=List.take_of_length_le (by omega)
 cases b with
 | false=>simp [a38,zCX,zCW,zad hs,zaa hs,zac hs,hcl,hcl8,htk,hb]
 | true =>
  by_cases h:r.states≤300
  ·have h':(r.states:Int)≤300:=by omega
   simp [a38,zCX,zCW,zad hs,zaa hs,zac hs,hcl,hcl8,htk,hb,hst,h,h']
  ·have h': ¬ (r.states:Int)≤300:=by omega
   simp [a38,zCX,zCW,zad hs,zaa hs,zac hs,hcl,hcl8,htk,hb,hst,h,h']
def zwW (s:List UInt8):PR Re:=match zfy s with
 | .er a w=> .er a w
 | .ok y j=>if y.states=0 then .er 0 1 else if 500<y.states then .er 0 2 else .ok y j
theorem zkr {s:List UInt8} {y:Re} {j:Nat} (h:zfy s= .ok y j):y.wide:=by
 unfold zfy at h
 split at h
 ·cases h
 rename_i hl
 have hpl:=(zbf (s:=s) (by omega) (zh6 s 0)).1 0 0 (by omega) (by unfold zh6;omega)
 split at h
 ·cases h
 ·rename_i ls k hx
  rw [hx] at hpl
  obtain ⟨b1,b2,b3,b4,b5,_⟩:=hpl
  simp only [PR.ok.injEq] at h
  obtain ⟨rfl,rfl⟩:=h
  exact (zbx (m:=k-0+1) (.inr rfl) b3 b4 (by omega) (by omega)).wide
theorem zpe {s:List UInt8} {a w:Nat} (h:zfy s= .er a w):w≠0:=by
 unfold zfy at h
 split at h
 ·simp only [PR.er.injEq] at h;omega
 rename_i hl
 have hpl:=(zbf (s:=s) (by omega) (zh6 s 0)).1 0 0 (by omega) (by unfold zh6;omega)
 split at h
 ·rename_i a' w' hx
  rw [hx] at hpl
  simp only [PR.er.injEq] at h
  obtain ⟨rfl,rfl⟩:=h
  rcases hpl with ⟨_,h | h | h | h | h⟩<;>omega
 ·cases h
theorem zx2 {s:List UInt8} {y:Re} {j:Nat} (h:zwW s= .ok y j):y.wide:=by
 unfold zwW at h
 split at h
 ·cases h
 rename_i z k hx
 split at h
 ·cases h
 split at h
 ·cases h
 simp only [PR.ok.injEq] at h
 obtain ⟨rfl,rfl⟩:=h
 exact zkr hx
theorem zx3 {s:List UInt8} {a w:Nat} (h:zwW s= .er a w):w≠0:=by
 unfold zwW at h
 split at h
 ·rename_i a' w' hx
  simp only [PR.er.injEq] at h
  obtain ⟨rfl,rfl⟩:=h
  exact zpe hx
 split at h
 ·simp only [PR.er.injEq] at h;omega
 split at h
 ·simp only [PR.er.injEq] at h;omega
 cases h
theorem zEY {bar:Nat} {H:Heap} (s:List UInt8):Rn fsT SA.sp bar 14 [.str s] H=some (.ret (zbP (zwW s)),H):=by
 have hs:=SA.mono
 have hp:=zxt (bar:=0) (H:= []) s
 have hz:emptyRe.av= .agg [.int .i64 0, .int .u64 0, .int .u64 0, .int .u64 0, .int .u64 0, .int .i64 0, .int .i64 0, .nils]:=rfl
 refine zao hs zIw rfl rfl rfl ?_
 rw [env14]
 unfold zwW
 cases hx:zfy s with
 | er a w =>
  have hw:=zpe hx
  have hw2:((w:Int)==0)=false:=by simp;omega
  rw [hx] at hp
  simp only [zbP,hz] at hp ⊢
  simp [a14,zzK,zzJ,zzI,zzH,zzG,zzF,zzE,zad hs,zaa hs,zac hs,hp,hw,hw2,frz,zbd]
 | ok y j =>
  have hyw:=zkr hx
  have hst:=zl7 (bar:=0) hyw []
  have hfr:=fun H=>zg6 0 H y
  rw [hx] at hp
  obtain ⟨c1,c2,c3,c4,c5,c6,hcs⟩:=Re.av_eight hyw
  have hft: ∀ H,frz 0 H (.tup [y.av, .int .i64 0, .int .i64 0])=some (.tup [y.av, .int .i64 0, .int .i64 0]):=fun H=>by
   have h1:=hfr H
   generalize y.av=x at h1 ⊢
   simp [frz,zbd,h1]
  simp only [zbP] at hp ⊢
  rw [hcs] at hp hst hft
  replace hp:Rn fsT SA.sp 0 44 [.str s] []=some (.ret (.tup [.agg [.int .i64 y.k,c1,c2,c3,c4,c5,c6,rowOf (Re.avs y.l)], .int .i64 0, .int .i64 0]),[]):=hp
  by_cases h0:y.states=0
  ·rw [if_pos h0]
   rw [h0] at hst
   simp only [hz]
   simp [a14,zzK,zzJ,zzI,zzH,zzG,zzF,zzE,zad hs,zaa hs,zac hs,hp,hst,frz,zbd]
  ·have h0':((y.states:Int)==0)=false:=by simp;omega
   rw [if_neg h0]
   by_cases h5:500<y.states
   ·have h5':(500:Int)<(y.states:Int):=by omega
    rw [if_pos h5]
    simp only [hz]
    simp [a14,zzK,zzJ,zzI,zzH,zzG,zzF,zzE,zad hs,zaa hs,zac hs,hp,hst,h0,h0',h5',frz,zbd]
   ·have h5': ¬ (500:Int)<(y.states:Int):=by omega
    rw [if_neg h5]
    simp only [hcs]
    simp [a14,zzK,zzJ,zzI,zzH,zzG,zzF,zzE,zad hs,zaa hs,zac hs,hp,hst,h0,h0',h5',hft]
theorem zx7 (s:List UInt8): ∃ b:Bool,∀ (bar:Nat) (H:Heap),Rn fsT SA.sp bar 8 [.str s] H=some (.ret (.bool b),H):=by
 have hs:=SA.mono
 have hp:=zEY (bar:=0) (H:= []) s
 have hz:emptyRe.av= .agg [.int .i64 0, .int .u64 0, .int .u64 0, .int .u64 0, .int .u64 0, .int .i64 0, .int .i64 0, .nils]:=rfl
 cases hx:zwW s with
 | er a w =>
  have hw:=zx3 hx
  have hw2:((w:Int) != 0)=true:=by simp [bne];omega
  rw [hx] at hp
  simp only [zbP,hz] at hp
  refine ⟨true,fun bar H=>zao hs zIb rfl rfl rfl ?_⟩
  rw [env8]
  simp [a8,a8r0,a8r1,a8r2,zad hs,zaa hs,zac hs,hp,hw,hw2]
 | ok y j =>
  have hyw:=zx2 hx
  rw [hx] at hp
  obtain ⟨b,hb⟩:=zvY hyw
  have hb:=hb 0 []
  obtain ⟨c1,c2,c3,c4,c5,c6,hcs⟩:=Re.av_eight hyw
  simp only [zbP] at hp
  rw [hcs] at hp hb
  replace hp:Rn fsT SA.sp 0 14 [.str s] []=some (.ret (.tup [.agg [.int .i64 y.k,c1,c2,c3,c4,c5,c6,rowOf (Re.avs y.l)], .int .i64 0, .int .i64 0]),[]):=hp
  refine ⟨b,fun bar H=>zao hs zIb rfl rfl rfl ?_⟩
  rw [env8]
  simp [a8,a8r0,a8r1,a8r2,zad hs,zaa hs,zac hs,hp,hb]
end
end Go.Ak
