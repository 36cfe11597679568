/- What the program's reader of patterns computes. -/
import Derived.Test.YtfcgnpphabplbaaGreatDoorOo
import Derived.Test.YtfcgnpphabplbaaGreatDoorOn
set_option linter.unusedVariables false
set_option linter.unusedSimpArgs false
namespace Go.Ak
attribute [local simp] zcx zd7 zd8 zfV zbm zc2 zaG za9 za0 zba zbs zbK zbL zbg zcJ zdJ zdK zcB zcC
 zaN zcN wanted zbb opd zkt live zcD zde zbA zcA ziq put zes esc zqx ztJ args drop1 zg1 zuW zuV ztH zou rd wr zbE sub AV.cells pack one setCells zeH znX zc3 roOf zaL zfw zav zau zey zbw newRow newObj step zcF zbM contents take flat look lim zex bound zec zeu eqS eqL eqA ver
 zcI zdI zdH zcG zcH
 List.getElem?_cons_zero List.getElem?_cons_succ zdl zbp zaE zaF zcE
attribute [local simp] sR sT cV bL mvV mvL mgV mgL asL asI asB ldN ldV ldL ldG stV stL fdL fdV fdG fgL nlC nlG bnI bvI bnL bvL bxI bxU bgI bgL exT lnS lgS clA clB clC clI pkT pkF pvT pvF pgT pgF ixL axV bxV apL
attribute [-simp] getElem?_pos
section
def zpg (J:List Re):AV:=match J with
 | []=> .nils
 | J=> .slc .own (Re.avs J)
theorem zee:zpg []= .nils:=rfl
theorem ze5 {J:List Re} (h:J ≠ []):zpg J= .slc .own (Re.avs J):=by
 cases J with
 | nil=>exact absurd rfl h
 | cons x J=>rfl
theorem zti {bar:Nat} {k:Int} {a:AV} {l:List Re} (ha:zDk a l) (hw:Re.wideL l) (hlen:(joinL k l).length+l.length<1000000) {H:Heap} :
  ∀ (rest:List Re) (i:Nat) (v:Nat→AV),i≤l.length→l.drop i=rest→v 0= .int .i64 k→v 18=a→v 19=num l.length→v 20=num i→v 5=zpg (joinL k (l.take i)) →
   Wp (evI fsT SA.sp bar (.loop a89l15) (mkE 70643760244403 v,H)) (fun e t=>e= .exit 1∧ ∃ v',t=(mkE 70643760244403 v',H)∧v' 0= .int .i64 k∧v' 4=v 4∧v' 5=zpg (joinL k l)):=by
 have hs:=SA.mono
 intro rest
 induction rest with
 | nil =>
  intro i v hi hr v0 v18 v19 v20 v5
  have hi':i=l.length:=by
   have:=congrArg List.length hr
   rw [List.length_drop] at this;simp at this;omega
  subst hi'
  rw [zaj hs a89l15.eq_1]
  simp [zad hs,zaa hs,zab hs,zac hs,zmF,v19,v20]
  exact ⟨_,rfl,by simpa using v0,by simp,by simpa using v5⟩
 | cons x rest ihr =>
  intro i v hi hr v0 v18 v19 v20 v5
  have hi':i<l.length:=by
   have:=congrArg List.length hr
   rw [List.length_drop] at this;simp at this;omega
  have hlt:(i:Int)<(l.length:Int):=by omega
  have hdc:=List.drop_eq_getElem_cons hi'
  rw [hr] at hdc
  obtain ⟨hx,hr'⟩:=List.cons.inj hdc
  have hmem:x∈l:=hx▸List.getElem_mem hi'
  have hxw:=zaC.1 hw x hmem
  obtain ⟨c1,c2,c3,c4,c5,c6,hcs⟩:=Re.av_eight hxw
  have hg:(Re.avs l)[i]? = some (.agg [.int .i64 x.k,c1,c2,c3,c4,c5,c6,rowOf (Re.avs x.l)]):=by rw [zeo hi',←hx,hcs]
  have ha':a= .slc .ro (Re.avs l):=by
   rcases ha with h | ⟨rfl,_⟩
   ·exact h
   ·simp at hi'
  subst ha'
  have htake:l.take (i+1)=l.take i ++ [x]:=by rw [List.take_succ_eq_append_getElem hi',hx]
  have hju:joinL k (l.take (i+1))=joinL k (l.take i)++x.part k:=by rw [htake,zc4];simp [joinL]
  have hsplit:joinL k l=joinL k (l.take (i+1))++joinL k (l.drop (i+1)):=by rw [←zc4,List.take_append_drop]
  have hll:(joinL k (l.take i)).length+(x.part k).length≤(joinL k l).length:=by
   rw [hsplit,hju];simp only [List.length_append];omega
  have hwt:Re.wideL (joinL k (l.take i)):=zeC (zaC.2 fun y hy=>zaC.1 hw y (List.mem_of_mem_take hy))
  have hok:=zcZ hwt
  have hw1:IntKind.i64.wrap ((i:Int)+1)=(i:Int)+1:=zal _ (by omega)
  have hgo: ∀ v',v' 0= .int .i64 k→v' 18= .slc .ro (Re.avs l)→v' 19=num l.length→v' 20=num (i+1)→v' 4=v 4→v' 5=zpg (joinL k (l.take (i+1))) →
    Wp (evI fsT SA.sp bar (.loop a89l15) (mkE 70643760244403 v',H)) (fun e t=>e= .exit 1∧ ∃ v',t=(mkE 70643760244403 v',H)∧v' 0= .int .i64 k∧v' 4=v 4∧v' 5=zpg (joinL k l)):=fun v' w0 w18 w19 w20 w4 w5=>by
   rw [←w4]
   exact ihr (i+1) v' (by omega) hr'.symm w0 w18 w19 w20 w5
  rw [hju] at hgo
  have hown: ∀ ys:List Re,ys ≠ []→zpg (joinL k (l.take i)++ys)= .slc .own (Re.avs (joinL k (l.take i))++Re.avs ys):=fun ys hy=>by
   rw [ze5 (by simp [hy]),zbO]
  rw [zaj hs a89l15.eq_1]
  by_cases hk:x.k=k
  ·have hp:x.part k=x.l:=by simp [Re.part,hk]
   have hok2:zpn 8 (Re.avs x.l)=true:=zcZ (by rw [←hp];exact zlR hxw)
   rw [hp] at hll hju hgo
   have hle:((joinL k (l.take i)).length+x.l.length)*8≤4294967296:=by omega
   have hle2:x.l.length*8≤4294967296:=by omega
   have hk1:(x.k==k)=true:=by simp [hk]
   cases hxl:x.l with
   | nil =>
    rw [hxl] at hgo hg
    simp only [List.append_nil] at hgo
    have hrow:rowOf (Re.avs [])= .nils:=rfl
    rw [hrow] at hg
    cases hJ:joinL k (l.take i) with
    | nil =>
     rw [hJ] at v5 hgo
     simp [zad hs,zaa hs,zab hs,zac hs,zmF,znE,zim,zil,zik,zij,zii,v0,v18,v19,v20,v5,zaq,hi',hlt,hg,hk1,hw1,zee]
     refine (hgo _ ?_ ?_ ?_ ?_ ?_ ?_).mono fun e t h=>by simpa using h
     all_goals simp [v0,v18,v19,zee]
    | cons y J =>
     rw [hJ] at v5 hgo hok hle
     rw [ze5 (by simp)] at v5 hgo
     rw [hxl] at hle
     simp only [List.length_nil,Nat.add_zero,List.length_cons] at hle
     simp only [Re.avs] at v5 hok hgo
     simp [zad hs,zaa hs,zab hs,zac hs,zmF,znE,zim,zil,zik,zij,zii,v0,v18,v19,v20,v5,zaq,hi',hlt,hg,hk1,hw1,hok,hle]
     refine (hgo _ ?_ ?_ ?_ ?_ ?_ ?_).mono fun e t h=>by simpa using h
     all_goals simp [v0,v18,v19]
   | cons z zs =>
    have hne:x.l ≠ []:=by rw [hxl];simp
    have hrow:rowOf (Re.avs x.l)= .slc .ro (Re.avs x.l):=by rw [hxl];rfl
    have havs:Re.avs x.l=z.av::Re.avs zs:=by rw [hxl];rfl
    have hz1:(Re.avs zs).length+1=x.l.length:=by rw [zaq,hxl];rfl
    rw [hrow] at hg
    have hown':=hown x.l hne
    rw [hown'] at hgo
    cases hJ:joinL k (l.take i) with
    | nil =>
     rw [hJ] at v5 hgo
     have hle3:(zs.length+1)*8≤4294967296:=by rw [zaq] at hz1;omega
     rw [havs] at hg hok2 hgo
     simp [zad hs,zaa hs,zab hs,zac hs,zmF,znE,zim,zil,zik,zij,zii,v0,v18,v19,v20,v5,zaq,hi',hlt,hg,hk1,hw1,zee,hok2,hle3]
     refine (hgo _ ?_ ?_ ?_ ?_ ?_ ?_).mono fun e t h=>by simpa using h
     all_goals simp [v0,v18,v19,Re.avs]
    | cons y J =>
     rw [hJ] at v5 hgo hok hle
     rw [ze5 (by simp)] at v5
     have hle3:(J.length+1+(zs.length+1))*8≤4294967296:=by rw [zaq] at hz1;simp only [List.length_cons] at hle;omega
     rw [havs] at hg hok2 hgo
     simp only [Re.avs] at v5 hok hgo
     simp [zad hs,zaa hs,zab hs,zac hs,zmF,znE,zim,zil,zik,zij,zii,v0,v18,v19,v20,v5,zaq,hi',hlt,hg,hk1,hw1,hok,hok2,hle3]
     refine (hgo _ ?_ ?_ ?_ ?_ ?_ ?_).mono fun e t h=>by simpa using h
     all_goals simp [v0,v18,v19]
  ·have hk':(x.k==k)=false:=by simpa using hk
   -- x itself, or nothing
   by_cases hskip:x.k=0∧k≠5
   ·have h0':(x.k != 0)=false:=by simp [hskip.1]
    have h5':(k==5)=false:=by simpa using hskip.2
    have hp:x.part k= []:=by unfold Re.part;rw [if_neg hk,if_neg (by omega)]
    rw [hp,List.append_nil] at hgo
    simp [zad hs,zaa hs,zab hs,zac hs,zmF,znE,zim,zil,zik,zij,zii,v0,v18,v19,v20,zaq,hi',hlt,hg,hk',h0',h5',hw1]
    refine (hgo _ ?_ ?_ ?_ ?_ ?_ ?_).mono fun e t h=>by simpa using h
    all_goals simp [v0,v18,v19,v5]
   ·have hp:x.part k= [x]:=by unfold Re.part;rw [if_neg hk,if_pos (by omega)]
    rw [hp] at hll hgo
    rw [hown [x] (by simp)] at hgo
    simp only [Re.avs,hcs] at hgo
    have hle:((joinL k (l.take i)).length+1)*8≤4294967296:=by simp only [List.length_cons,List.length_nil] at hll;omega
    have hcond:(x.k != 0)=true∨((x.k != 0)=false∧(k==5)=true):=by
     by_cases h0:x.k=0
     ·exact .inr ⟨by simp [h0],by simp;omega⟩
     ·exact .inl (by simpa using h0)
    cases hJ:joinL k (l.take i) with
    | nil =>
     rw [hJ] at v5 hgo
     rcases hcond with h0' | ⟨h0',h5'⟩
     ·simp [zad hs,zaa hs,zab hs,zac hs,zmF,znE,zim,zil,zik,zij,zii,v0,v18,v19,v20,v5,zaq,hi',hlt,hg,hk',h0',hw1,zee]
      refine (hgo _ ?_ ?_ ?_ ?_ ?_ ?_).mono fun e t h=>by simpa using h
      all_goals simp [v0,v18,v19,Re.avs]
     ·simp [zad hs,zaa hs,zab hs,zac hs,zmF,znE,zim,zil,zik,zij,zii,v0,v18,v19,v20,v5,zaq,hi',hlt,hg,hk',h0',h5',hw1,zee]
      refine (hgo _ ?_ ?_ ?_ ?_ ?_ ?_).mono fun e t h=>by simpa using h
      all_goals simp [v0,v18,v19,Re.avs]
    | cons y J =>
     rw [hJ] at v5 hgo hok hle
     rw [ze5 (by simp)] at v5
     simp only [Re.avs] at v5 hok hgo
     simp only [List.length_cons] at hle
     rcases hcond with h0' | ⟨h0',h5'⟩
     ·simp [zad hs,zaa hs,zab hs,zac hs,zmF,znE,zim,zil,zik,zij,zii,v0,v18,v19,v20,v5,zaq,hi',hlt,hg,hk',h0',hw1,hok,hle]
      refine (hgo _ ?_ ?_ ?_ ?_ ?_ ?_).mono fun e t h=>by simpa using h
      all_goals simp [v0,v18,v19]
     ·simp [zad hs,zaa hs,zab hs,zac hs,zmF,znE,zim,zil,zik,zij,zii,v0,v18,v19,v20,v5,zaq,hi',hlt,hg,hk',h0',h5',hw1,hok,hle]
      refine (hgo _ ?_ ?_ ?_ ?_ ?_ ?_).mono fun e t h=>by simpa using h
      all_goals simp [v0,v18,v19]
theorem zpA {a:AV} {l:List Re} (ha:zDk a l) (k:Int):zdv [.int .i64 k,a]=true:=by
 rcases ha with rfl | ⟨rfl,rfl⟩
 ·simp [zdv,clo,zlN]
 ·simp [zdv,clo]
theorem zmi {bar:Nat} {H:Heap} {k:Int} {a:AV} (ha:zDk a []):Rn fsT SA.sp bar 89 [.int .i64 k,a] H=some (.ret emptyRe.av,H):=by
 have hs:=SA.mono
 have hres:=zg6 0 [] emptyRe
 simp only [emptyRe,Re.av,zbH,Re.avs,rowOf,List.map_cons,List.map_nil,List.cons_append,List.nil_append] at hres
 have ha':a= .slc .ro []∨a= .nils:=by
  rcases ha with h | ⟨_,h⟩
  ·exact .inl h
  ·exact .inr h
 refine zao hs zyj rfl (zpA ha k) rfl ?_
 rw [zGd]
 rcases ha' with rfl | rfl
 all_goals
  simp [zCo,zCn,zCm,zCl,a89,zad hs,zaa hs,zab hs,zac hs,emptyRe,Re.av,zbH,Re.avs,rowOf]
  exact hres
theorem zn9 {bar:Nat} {H:Heap} {k:Int} {x:Re} (hx:x.wide):Rn fsT SA.sp bar 89 [.int .i64 k, .slc .ro [x.av]] H=some (.ret x.av,H):=by
 have hs:=SA.mono
 have hres:=zg6 0 [] x
 obtain ⟨c1,c2,c3,c4,c5,c6,hcs⟩:=Re.av_eight hx
 rw [hcs] at hres
 refine zao hs zyj rfl (zpA (l:= [x]) (.inl rfl) k) rfl ?_
 rw [zGd]
 simp [zCo,zCn,zCm,zCl,zGB,zGA,a89,zad hs,zaa hs,zab hs,zac hs,hcs]
 exact hres
theorem zwo {bar:Nat} {H:Heap} {k:Int} {a:AV} {l:List Re} (ha:zDk a l) (hw:Re.wideL l) (hlen:(joinL k l).length+l.length<1000000) (hone: ∀ x,l= [x]→zaQ k l=x):Rn fsT SA.sp bar 89 [.int .i64 k,a] H=some (.ret (zaQ k l).av,H):=by
 have hs:=SA.mono
 match l,ha,hw,hlen,hone with
 | [],ha,_,_,_=>exact zmi ha
 | [x],ha,hw,_,hone =>
  rcases ha with rfl | ⟨h,_⟩
  ·rw [hone x rfl];exact zn9 (by simpa [Re.wideL] using hw)
  ·simp at h
 | x::y::t,ha,hw,hlen,_ =>
  have ha':a= .slc .ro (Re.avs (x::y::t)):=by
   rcases ha with h | ⟨h,_⟩
   ·exact h
   ·simp at h
  have hl:((Re.avs (x::y::t)).length:Int)=(t.length:Int)+1+1:=by simp [zaq]
  have hl0:((t.length:Int)+1+1==0)=false:=by simp;omega
  have hl1:((t.length:Int)+1+1==1)=false:=by simp;omega
  have hw2:=zeC (k:=k) hw
  refine zao hs zyj rfl (zpA ha k) rfl ?_
  rw [zGd]
  subst ha'
  simp only [Re.avs] at hl ⊢
  simp [zCo,zCn,zCm,zCl,zGB,zGA,zKo,zKn,a89,zad hs,zaa hs,zab hs,zac hs,zaq,hl0,hl1]
  refine (zti (bar:=0) (a:= .slc .ro (Re.avs (x::y::t))) (k:=k) (.inl rfl) hw hlen (x::y::t) 0 _ (by simp) rfl ?_ ?_ ?_ ?_ ?_).mono fun e t' h=> ?_
  ·simp
  ·simp [Re.avs]
  ·simp
  ·simp
  ·simp [joinL,zee]
  ·obtain ⟨rfl,v',rfl,w0,w4,w5⟩:=h
   simp at w4
   unfold zaQ
   generalize joinL k (x::y::t)=J at w5 hw2
   match J,w5,hw2 with
   | [],w5,hw2 =>
    have h1:=zmi (bar:=0) (H:= []) (k:=k) (a:= .nils) (.inr ⟨rfl,rfl⟩)
    have hres:=zg6 0 [] emptyRe
    simp only [emptyRe,Re.av,zbH,Re.avs,rowOf,List.map_cons,List.map_nil,List.cons_append,List.nil_append] at h1 hres
    rw [zee] at w5
    simp [zve,zvd,zvc,zad hs,zaa hs,zac hs,w0,w4,w5,h1,oneOf,emptyRe,Re.av,zbH,rowOf,Re.avs]
    exact hres
   | [z],w5,hw2 =>
    have hz:z.wide:=by simpa [Re.wideL] using hw2
    have h1:=zn9 (bar:=0) (H:= []) (k:=k) hz
    have hres:=zg6 0 [] z
    obtain ⟨c1,c2,c3,c4,c5,c6,hcs⟩:=Re.av_eight hz
    rw [hcs] at h1 hres
    rw [ze5 (by simp)] at w5
    simp only [Re.avs,hcs] at w5
    simp [zve,zvd,zvc,zad hs,zaa hs,zac hs,w0,w4,w5,h1,oneOf,hcs]
    exact hres
   | z1::z2::J,w5,hw2 =>
    have hres:=zg6 0 [] (oneOf k (z1::z2::J))
    simp only [oneOf,Re.av,zbH,rowOf,Re.avs,List.map_cons,List.map_nil,List.cons_append,List.nil_append] at hres
    have hl2: ¬ ((J.length:Int)+1+1<2):=by omega
    have htk:List.take J.length (Re.avs J)=Re.avs J:=List.take_of_length_le (by simp [zaq])
    rw [ze5 (by simp)] at w5
    simp only [Re.avs] at w5
    simp [zve,zvd,zvc,zad hs,zaa hs,zac hs,w0,w4,w5,oneOf,hl2,zaq,htk,Re.av,zbH,rowOf,Re.avs]
    exact hres
theorem zye {k:Int} (hk:k=4∨k=5) {x:Re} (h:x.plain):zaQ k [x]=x:=by
 unfold zaQ joinL
 simp only [List.flatMap_cons,List.flatMap_nil,List.append_nil]
 unfold Re.part
 by_cases e:x.k=k
 ·rw [if_pos e]
  have h2:x= .mk k zbH 0 0 x.l∧2≤x.l.length:=by
   rcases hk with rfl | rfl
   ·exact h.2.1 e
   ·exact h.2.2 e
  obtain ⟨h3,h4⟩:=h2
  match hl:x.l,h4 with
  | a::b::t,_ =>
   show Re.mk k zbH 0 0 (a::b::t)=x
   rw [←hl];exact h3.symm
 ·rw [if_neg e]
  split
  ·rfl
  ·rename_i h5
   have:x.k=0:=by omega
   exact (h.1 this).symm
end
section
theorem zg0 {bar:Nat} {H:Heap} {r:Nat} {s:List UInt8} {i:Nat} (h:Rd H r s i) (hi:i≤s.length) (hc:s[i]? = none):Rn fsT SA.sp bar 98 [.ptr r 0] H=some (.ret (.tup [.int .u8 0, .bool false]),H):=by
 have hs:=SA.mono
 have e:i=s.length:=by have:=List.getElem?_eq_none_iff.1 hc;omega
 unfold Rd at h
 refine zcX hs zDr rfl rfl rfl ?_
 rw [zIz]
 simp [a98,zGu,zGw,zGt,zGv,zad hs,zaa hs,zai hs,zac hs,h,e,frz,zbd]
theorem zeJ {bar:Nat} {H:Heap} {r:Nat} {s:List UInt8} {i:Nat} {c:UInt8} (h:Rd H r s i) (hc:s[i]? = some c):Rn fsT SA.sp bar 98 [.ptr r 0] H=some (.ret (.tup [.int .u8 c.toNat, .bool true]),H):=by
 have hs:=SA.mono
 have hlt:=zaK hc
 have e:((i:Int)==(s.length:Int))=false:=by simp;omega
 have e2: ¬ i=s.length:=by omega
 unfold Rd at h
 refine zcX hs zDr rfl rfl rfl ?_
 rw [zIz]
 simp [a98,zGu,zGw,zGt,zGv,zad hs,zaa hs,zai hs,zac hs,h,e,e2,hc,frz,zbd]
theorem zf3 {bar:Nat} {H:Heap} {r:Nat} {s:List UInt8} {i:Nat} {c:UInt8} (h:Rd H r s i) (hb:bar≤r) (hl:s.length≤1000000) (hc:s[i]? = some c):Rn fsT SA.sp bar 88 [.ptr r 0, .int .u8 c.toNat] H=some (.ret (.bool true),H.set r (some [.str s,num (i+1)])):=by
 have hs:=SA.mono
 have hlt:=zaK hc
 have hw:IntKind.i64.wrap ((i:Int)+1)=(i:Int)+1:=zal _ (by omega)
 have hp:=zeJ (bar:=bar) h hc
 have hrl:=zas h
 unfold Rd at h
 refine zh8.1 (zaO hs zDu rfl rfl ?_)
 rw [zIC]
 simp [a88,zCu,zCt,zCs,zCr,zCq,zCp,zad hs,zaa hs,zai hs,zac hs,zab hs,h,hp,hw,hb]
 rfl
theorem ziw {bar:Nat} {H:Heap} {r:Nat} {s:List UInt8} {i:Nat} {c:UInt8} (h:Rd H r s i) (hi:i≤s.length) (hc:s[i]? ≠ some c):Rn fsT SA.sp bar 88 [.ptr r 0, .int .u8 c.toNat] H=some (.ret (.bool false),H):=by
 have hs:=SA.mono
 refine zh8.1 (zaO hs zDu rfl rfl ?_)
 rw [zIC]
 cases hd:s[i]? with
 | none =>
  have hp:=zg0 (bar:=bar) h hi hd
  simp [a88,zCu,zCt,zCs,zCr,zCq,zCp,zad hs,zaa hs,zai hs,zac hs,zab hs,hp]
 | some d =>
  have hp:=zeJ (bar:=bar) h hd
  have hne: ¬ d=c:=fun e=>hc (by rw [hd,e])
  have e:((d.toNat:Int)==(c.toNat:Int))=false:=by
   have: ¬ d.toNat=c.toNat:=fun e=>hne (UInt8.toNat_inj.1 e)
   simp;omega
  have e2: ¬ d.toNat=c.toNat:=fun e=>hne (UInt8.toNat_inj.1 e)
  simp [a88,zCu,zCt,zCs,zCr,zCq,zCp,zad hs,zaa hs,zai hs,zac hs,zab hs,hp,e,e2]
def zi3 (a w:Nat):AV:= .ifc 1 (.agg [num a,num w])
theorem zps {bar:Nat} {H:Heap} {r a w:Nat} (h:r<H.length):Rn fsT SA.sp bar 113 [.ptr r 0,num a,num w] H=some (.pan (zi3 a w),H):=by
 have hs:=SA.mono
 refine zh8.1 ((zvA (Q:=fun o=>o= .pan (zi3 a w)) hs zF0 rfl rfl rfl ?_).mono fun o K h=>h)
 rw [zJe]
 simp [a113,zEA,zad hs,zaa hs,frz,zbd,zi3]
theorem zf5 {c:UInt8}:(c<48)↔((c.toNat:Int)<48):=by rw [UInt8.lt_iff_toNat_lt];simp;omega
theorem zh3 {c:UInt8}:(57<c)↔((57:Int)<(c.toNat:Int)):=by rw [UInt8.lt_iff_toNat_lt];simp;omega
theorem zn2 {bar:Nat} {H:Heap} {r:Nat} {s:List UInt8} {i:Nat} (h:Rd H r s i) (hb:bar≤r) (hi:i≤s.length) (hl:s.length≤1000000) :
  Rn fsT SA.sp bar 118 [.ptr r 0] H=some (.ret (.tup [num (zeF s i).1, .bool (zcz (zeF s i))]),H.set r (some [.str s,num (i+(zeF s i).2)])):=by
 have hs:=SA.mono
 have hrl:=zas h
 have h0:=zea h
 have hw:IntKind.i64.wrap ((i:Int)+1)=(i:Int)+1:=zal _ (by omega)
 have hw2:IntKind.i64.wrap ((i:Int)+1+1)=(i:Int)+1+1:=zal _ (by omega)
 have w00:IntKind.i64.wrap 0=0:=by decide
 have w1:IntKind.i64.wrap 1=1:=by decide
 have w2:IntKind.i64.wrap 2=2:=by decide
 have h':=h
 unfold Rd at h'
 -- the end: the number told
 refine zh8.1 (zaO hs zFV rfl rfl ?_)
 rw [zI9]
 simp [a118,zEv,zEu,zad hs,zaa hs,zab hs]
 rw [zaj hs a118l8.eq_1]
 cases hc:s[i]? with
 | none =>
  have hp:=zg0 (bar:=bar) h hi hc
  have e:zeF s i=(0,0):=by simp [zeF,hc]
  simp [zad hs,zaa hs,zab hs,zac hs,zfL,zgP,zgO,zgN,zgM,zgL,zld,hp,e,zcz,h0]
 | some c =>
  have hp:=zeJ (bar:=bar) h hc
  have hlt:=zaK hc
  have hcl:=c.toNat_lt
  by_cases hd1:c<48
  ·have e:zeF s i=(0,0):=by simp [zeF,hc,hd1]
   have hd1':=zf5.1 hd1
   simp [zad hs,zaa hs,zab hs,zac hs,zfL,zgP,zgO,zgN,zgM,zgL,zld,hp,e,zcz,h0,hd1']
  ·have hd1': ¬ ((c.toNat:Int)<48):=fun e=>hd1 (zf5.2 e)
   by_cases hd2:57<c
   ·have e:zeF s i=(0,0):=by simp [zeF,hc,hd2]
    have hd2':=zh3.1 hd2
    simp [zad hs,zaa hs,zab hs,zac hs,zfL,zgP,zgO,zgN,zgM,zgL,zld,hp,e,zcz,h0,hd1',hd2']
   ·have hd2': ¬ ((57:Int)<(c.toNat:Int)):=fun e=>hd2 (zh3.2 e)
    have ws:IntKind.u8.wrap ((c.toNat:Int)-48)=(c.toNat:Int)-48:=by
     have:(c.toNat:Int)-48=((c.toNat-48:Nat):Int):=by omega
     rw [this];exact zu3 _ (by omega) _ rfl
    have wc:IntKind.i64.wrap ((c.toNat:Int)-48)=(c.toNat:Int)-48:=zal _ (by omega)
    have hR:=h.set (i+1)
    have hn1:num (i+1)= .int .i64 ((i:Int)+1):=rfl
    have hR':=hR
    unfold Rd at hR'
    rw [hn1] at hR'
    cases hd:s[i+1]? with
    | none =>
     have hp2:=zg0 (bar:=bar) hR (by omega) hd
     rw [hn1] at hp2
     have e:zeF s i=(c.toNat-48,1):=by simp [zeF,hc,hd1,hd2,hd]
     have e2:(((c.toNat-48:Nat)):Int)=(c.toNat:Int)-48:=by omega
     simp [zad hs,zaa hs,zab hs,zac hs,zfL,zgP,zgO,zgN,zgM,zgL,hp,h',hd1',hd2',ws,wc,w00,w1,hw,hb,hrl,zae]
     rw [zaj hs a118l8.eq_1]
     simp [zad hs,zaa hs,zab hs,zac hs,zfL,zgP,zgO,zgN,zgM,zgL,zld,hp2,e,zcz,e2]
     exact ⟨by omega,rfl⟩
    | some d =>
     have hlt2:=zaK hd
     have hdl:=d.toNat_lt
     have hp2:=zeJ (bar:=bar) hR hd
     rw [hn1] at hp2
     have e2:(((c.toNat-48:Nat)):Int)=(c.toNat:Int)-48:=by omega
     by_cases he1:d<48
     ·have e:zeF s i=(c.toNat-48,1):=by simp [zeF,hc,hd1,hd2,hd,he1]
      have he1':=zf5.1 he1
      simp [zad hs,zaa hs,zab hs,zac hs,zfL,zgP,zgO,zgN,zgM,zgL,hp,h',hd1',hd2',ws,wc,w00,w1,hw,hb,hrl,zae]
      rw [zaj hs a118l8.eq_1]
      simp [zad hs,zaa hs,zab hs,zac hs,zfL,zgP,zgO,zgN,zgM,zgL,zld,hp2,e,zcz,e2,he1']
      exact ⟨by omega,rfl⟩
     ·have he1': ¬ ((d.toNat:Int)<48):=fun e=>he1 (zf5.2 e)
      by_cases he2:57<d
      ·have e:zeF s i=(c.toNat-48,1):=by simp [zeF,hc,hd1,hd2,hd,he2]
       have he2':=zh3.1 he2
       simp [zad hs,zaa hs,zab hs,zac hs,zfL,zgP,zgO,zgN,zgM,zgL,hp,h',hd1',hd2',ws,wc,w00,w1,hw,hb,hrl,zae]
       rw [zaj hs a118l8.eq_1]
       simp [zad hs,zaa hs,zab hs,zac hs,zfL,zgP,zgO,zgN,zgM,zgL,zld,hp2,e,zcz,e2,he1',he2']
       exact ⟨by omega,rfl⟩
      ·have he2': ¬ ((57:Int)<(d.toNat:Int)):=fun e=>he2 (zh3.2 e)
       have e:zeF s i=(10*(c.toNat-48)+(d.toNat-48),2):=by simp [zeF,hc,hd1,hd2,hd,he1,he2]
       have ws2:IntKind.u8.wrap ((d.toNat:Int)-48)=(d.toNat:Int)-48:=by
        have:(d.toNat:Int)-48=((d.toNat-48:Nat):Int):=by omega
        rw [this];exact zu3 _ (by omega) _ rfl
       have wc2:IntKind.i64.wrap ((d.toNat:Int)-48)=(d.toNat:Int)-48:=zal _ (by omega)
       have wm:IntKind.i64.wrap (10*((c.toNat:Int)-48))=10*((c.toNat:Int)-48):=zal _ (by omega)
       have wa:IntKind.i64.wrap (10*((c.toNat:Int)-48)+((d.toNat:Int)-48))=10*((c.toNat:Int)-48)+((d.toNat:Int)-48):=zal _ (by omega)
       have e3:num (10*(c.toNat-48)+(d.toNat-48))= .int .i64 (10*((c.toNat:Int)-48)+((d.toNat:Int)-48)):=by simp [num];omega
       have e4:num (i+2)= .int .i64 ((i:Int)+1+1):=by simp [num];omega
       have hset:(H.set r (some [.str s, .int .i64 ((i:Int)+1)])).set r (some [.str s, .int .i64 ((i:Int)+1+1)])=H.set r (some [.str s, .int .i64 ((i:Int)+1+1)]):=List.set_set ..
       rw [e,e3,e4]
       simp [zad hs,zaa hs,zab hs,zac hs,zfL,zgP,zgO,zgN,zgM,zgL,hp,h',hd1',hd2',ws,wc,w00,w1,hw,hb,hrl,zae]
       rw [zaj hs a118l8.eq_1]
       simp [zad hs,zaa hs,zab hs,zac hs,zfL,zgP,zgO,zgN,zgM,zgL,hp2,he1',he2',ws2,wc2,wm,wa,w2,hw2,hb,hrl,zae,hset]
       rw [zaj hs a118l8.eq_1]
       simp [zad hs,zaa hs,zab hs,zac hs,zfL,zld,zcz]
       omega
theorem zxV {bar:Nat} {H:Heap} (c:UInt8):Rn fsT SA.sp bar 117 [.int .u8 c.toNat] H=some (.ret (zi5 (zak c c)).av,H):=by
 have hs:=SA.mono
 have h:=zHt (bar:=0) (H:= []) noB c c
 rw [zx0] at h
 rw [zct,zct] at h
 have hz: ∀ i,zaB noB i 64=0:=fun i=>by
  have:=zET
  unfold zDi zbH at this
  apply Nat.eq_of_testBit_eq
  intro j;rw [zaW];simp [noB]
 simp only [hz] at h
 replace h:Rn fsT SA.sp 0 128 [.agg [.int .u64 0, .int .u64 0, .int .u64 0, .int .u64 0], .int .u8 c.toNat, .int .u8 c.toNat] []=some (.ret (.agg [u64 (zaB (zak c c) 0 64),u64 (zaB (zak c c) 1 64),u64 (zaB (zak c c) 2 64),u64 (zaB (zak c c) 3 64)]),[]):=h
 have hres:=zg6 0 [] (zi5 (zak c c))
 have hav:(zi5 (zak c c)).av= .agg [.int .i64 1,u64 (zaB (zak c c) 0 64),u64 (zaB (zak c c) 1 64),u64 (zaB (zak c c) 2 64),u64 (zaB (zak c c) 3 64), .int .i64 0, .int .i64 0, .nils]:=rfl
 rw [hav] at hres ⊢
 refine zao hs zFW rfl rfl rfl ?_
 rw [zJa]
 simp [a117,zEx,zEw,zad hs,zaa hs,h]
 exact hres
def zhM {α:Type} (s:List UInt8) (r:Nat) (H:Heap) (f:α→AV) (x:PR α) (o:Out) (H':Heap):Prop :=
 match x with
 | .er a w=>o= .pan (zi3 a w)∧ ∃ j:Nat,H'=H.set r (some [.str s,num j])
 | .ok a j=>o= .ret (f a)∧H'=H.set r (some [.str s,num j])
theorem zaP {α:Type} (s:List UInt8) (r:Nat) (H:Heap) (f:α→AV) (a w:Nat):zhM s r H f (.er a w)=fun o H'=>o= .pan (zi3 a w)∧ ∃ j:Nat,H'=H.set r (some [.str s,num j]):=rfl
theorem zbe {α:Type} (s:List UInt8) (r:Nat) (H:Heap) (f:α→AV) (a:α) (j:Nat):zhM s r H f (.ok a j)=fun o H'=>o= .ret (f a)∧H'=H.set r (some [.str s,num j]):=rfl
def zsB (s:List UInt8) (i:Nat):PR UInt8:=match s[i]? with
 | none=> .er i 3
 | some d=> .ok (zcM d) (i+1)
theorem zvJ {bar:Nat} {H:Heap} {r:Nat} {s:List UInt8} {i:Nat} (h:Rd H r s i) (hb:bar≤r) (hi:i≤s.length) (hl:s.length≤1000000):Wc (Rn fsT SA.sp bar 116 [.ptr r 0] H) (zhM s r H (fun c:UInt8=> .int .u8 c.toNat) (zsB s i)):=by
 have hs:=SA.mono
 have hrl:=zas h
 have hw:IntKind.i64.wrap ((i:Int)+1)=(i:Int)+1:=zal _ (by omega)
 have h':=h
 unfold Rd at h'
 refine zaO hs zFX rfl rfl ?_
 rw [zJb]
 unfold zsB
 cases hd:s[i]? with
 | none =>
  have hp:=zg0 (bar:=bar) h hi hd
  have hf:=zps (bar:=bar) (a:=i) (w:=3) hrl
  simp only [num,Int.cast_ofNat_Int] at hf
  rw [zaP]
  simp [a116,zsl,zsk,zsj,zsi,zsh,zsg,zsf,zse,zsd,zsc,zm8,zad hs,zaa hs,zai hs,zac hs,zab hs,h',hp,hf]
  exact ⟨i,(zea h).symm⟩
 | some d =>
  have hp:=zeJ (bar:=bar) h hd
  rw [zbe]
  have d110:((d.toNat:Int)==110)=decide (d=110):=by
   by_cases q:d=110
   ·subst q;rfl
   ·have: ¬ d.toNat=110:=fun e=>q (UInt8.toNat_inj.1 (by simpa using e))
    simp [q];omega
  have d116:((d.toNat:Int)==116)=decide (d=116):=by
   by_cases q:d=116
   ·subst q;rfl
   ·have: ¬ d.toNat=116:=fun e=>q (UInt8.toNat_inj.1 (by simpa using e))
    simp [q];omega
  by_cases q1:d=110
  ·subst q1
   simp [a116,zsl,zsk,zsj,zsi,zsh,zsg,zsf,zse,zsd,zsc,zm8,zad hs,zaa hs,zai hs,zac hs,zab hs,h',hp,hw,hb,zcM]
   rfl
  ·by_cases q2:d=116
   ·subst q2
    simp [a116,zsl,zsk,zsj,zsi,zsh,zsg,zsf,zse,zsd,zsc,zm8,zad hs,zaa hs,zai hs,zac hs,zab hs,h',hp,hw,hb,zcM]
    rfl
   ·simp only [q1,q2,decide_false] at d110 d116
    simp [a116,zsl,zsk,zsj,zsi,zsh,zsg,zsf,zse,zsd,zsc,zm8,zad hs,zaa hs,zai hs,zac hs,zab hs,h',hp,hw,hb,zcM,q1,q2,d110,d116]
    rfl
end
section
def zxa (s:List UInt8) (at' i:Nat):PR (Nat×Int):=match zer s i with
 | none=> .er at' 50
 | some (mn,mx,j)=> .ok (mn,mx) j
theorem zw9 {bar:Nat} {H:Heap} {r:Nat} {s:List UInt8} {i at':Nat} (h:Rd H r s i) (hb:bar≤r) (hi:i≤s.length) (hl:s.length≤1000000) :
  Wc (Rn fsT SA.sp bar 106 [.ptr r 0,num at'] H) (zhM s r H (fun x:Nat×Int=> .tup [num x.1, .int .i64 x.2]) (zxa s at' i)):=by
 have hs:=SA.mono
 have hrl:=zas h
 have hn:=zn2 (bar:=bar) h hb hi hl
 have hpl:=zeE (s:=s) i hi
 unfold zxa zer
 simp only
 generalize ha:zeF s i=a at hn hpl
 have hR:=h.set (i+a.2)
 have hf: ∀ H:Heap,r<H.length→Rn fsT SA.sp bar 113 [.ptr r 0,num at', .int .i64 50] H=some (.pan (zi3 at' 50),H):=fun H hr=>by
  have:=zps (bar:=bar) (H:=H) (a:=at') (w:=50) hr
  simpa only [num,Int.cast_ofNat_Int] using this
 have c44:(.int .u8 44:AV)= .int .u8 (44:UInt8).toNat:=rfl
 have c125:(.int .u8 125:AV)= .int .u8 (125:UInt8).toNat:=rfl
 refine zaO hs zF5 rfl rfl ?_
 rw [zJj]
 by_cases hcomma:zcz a=true∧s[i+a.2]? = some 44
 ·obtain ⟨hok,hcm⟩:=hcomma
  rw [if_pos ⟨hok,hcm⟩]
  have hlt:=zaK hcm
  have g1:=zf3 (bar:=bar) hR hb hl hcm
  simp only [List.set_set] at g1
  rw [←c44] at g1
  have hR2:=h.set (i+a.2+1)
  rw [hok] at hn
  by_cases hbr:s[i+a.2+1]? = some 125
  ·rw [if_pos hbr,zbe]
   have g2:=zf3 (bar:=bar) hR2 hb hl hbr
   simp only [List.set_set] at g2
   rw [←c125] at g2
   simp [a106,zke,zkd,zkc,zkb,zka,zj9,zj8,zj7,zj6,zj5,zad hs,zaa hs,zai hs,zac hs,zab hs,hn,g1,g2]
  ·rw [if_neg hbr]
   have g2:=ziw (bar:=bar) hR2 (by omega) hbr
   rw [←c125] at g2
   have hn2:=zn2 (bar:=bar) hR2 hb (by omega) hl
   have hpl2:=zeE (s:=s) (i+a.2+1) (by omega)
   simp only [List.set_set] at hn2
   generalize hb2:zeF s (i+a.2+1)=b at hn2 hpl2
   have hR3:=h.set (i+a.2+1+b.2)
   by_cases hall:zcz b=true∧a.1≤b.1∧s[i+a.2+1+b.2]? = some 125
   ·obtain ⟨k1,k2,k3⟩:=hall
    rw [if_pos ⟨k1,k2,k3⟩,zbe]
    have g3:=zf3 (bar:=bar) hR3 hb hl k3
    simp only [List.set_set] at g3
    rw [←c125] at g3
    rw [k1] at hn2
    have k2': ¬ ((b.1:Int)<(a.1:Int)):=by omega
    simp [a106,zke,zkd,zkc,zkb,zka,zj9,zj8,zj7,zj6,zj5,zad hs,zaa hs,zai hs,zac hs,zab hs,hn,g1,g2,hn2,g3,k2']
   ·rw [if_neg hall,zaP]
    by_cases k1:zcz b=true
    ·rw [k1] at hn2
     by_cases k2:a.1≤b.1
     ·have k2': ¬ ((b.1:Int)<(a.1:Int)):=by omega
      have k3: ¬ s[i+a.2+1+b.2]? = some 125:=fun e=>hall ⟨k1,k2,e⟩
      have g3:=ziw (bar:=bar) hR3 (by omega) k3
      rw [←c125] at g3
      have hf3:=hf _ (zas hR3)
      simp [a106,zke,zkd,zkc,zkb,zka,zj9,zj8,zj7,zj6,zj5,zad hs,zaa hs,zai hs,zac hs,zab hs,hn,g1,g2,hn2,g3,k2',hf3]
      exact ⟨_,rfl⟩
     ·have k2':((b.1:Int)<(a.1:Int)):=by omega
      have hf3:=hf _ (zas hR3)
      simp [a106,zke,zkd,zkc,zkb,zka,zj9,zj8,zj7,zj6,zj5,zad hs,zaa hs,zai hs,zac hs,zab hs,hn,g1,g2,hn2,k2',hf3]
      exact ⟨_,rfl⟩
    ·have k1':zcz b=false:=by simpa using k1
     rw [k1'] at hn2
     have hf3:=hf _ (zas hR3)
     simp [a106,zke,zkd,zkc,zkb,zka,zj9,zj8,zj7,zj6,zj5,zad hs,zaa hs,zai hs,zac hs,zab hs,hn,g1,g2,hn2,hf3]
     exact ⟨_,rfl⟩
 ·rw [if_neg hcomma]
  have hirr: ¬ ((a.1:Int)<(a.1:Int)):=by omega
  by_cases hok:zcz a=true
  ·have hcm: ¬ s[i+a.2]? = some 44:=fun e=>hcomma ⟨hok,e⟩
   have g1:=ziw (bar:=bar) hR (by omega) hcm
   rw [←c44] at g1
   rw [hok] at hn
   by_cases hbr:s[i+a.2]? = some 125
   ·rw [if_pos ⟨hok,hbr⟩,zbe]
    have g2:=zf3 (bar:=bar) hR hb hl hbr
    simp only [List.set_set] at g2
    rw [←c125] at g2
    simp [a106,zke,zkd,zkc,zkb,zka,zj9,zj8,zj7,zj6,zj5,zad hs,zaa hs,zai hs,zac hs,zab hs,hn,g1,g2]
   ·rw [if_neg (fun e=>hbr e.2),zaP]
    have g2:=ziw (bar:=bar) hR (by omega) hbr
    rw [←c125] at g2
    have hf2:=hf _ (zas hR)
    simp [a106,zke,zkd,zkc,zkb,zka,zj9,zj8,zj7,zj6,zj5,zad hs,zaa hs,zai hs,zac hs,zab hs,hn,g1,g2,hf2]
    exact ⟨_,rfl⟩
  ·have hok':zcz a=false:=by simpa using hok
   rw [if_neg (fun e=>hok e.1),zaP]
   rw [hok'] at hn
   have hf2:=hf _ (zas hR)
   simp [a106,zke,zkd,zkc,zkb,zka,zj9,zj8,zj7,zj6,zj5,zad hs,zaa hs,zai hs,zac hs,zab hs,hn,hf2]
   exact ⟨_,rfl⟩
end
section
def zDm (s:List UInt8) (n i deep:Nat):PR Re:=match zbC s n i deep with
 | .er a w=> .er a w
 | .ok ls j=> .ok (zaQ 5 ls) j
def zwT (s:List UInt8) (n:Nat):Prop:= ∀ (bar:Nat) (H:Heap) (r i deep:Nat),Rd H r s i→bar≤r→i≤s.length→3*(s.length+1-i)≤n→deep≤20 →
 Wc (Rn fsT SA.sp bar 86 [.ptr r 0,num deep] H) (zhM s r H Re.av (zDm s n i deep))
theorem zdf {c:UInt8} (k:UInt8) (h: ¬ c=k):((c.toNat:Int)==(k.toNat:Int))=false:=by
 have: ¬ c.toNat=k.toNat:=fun e=>h (UInt8.toNat_inj.1 e)
 simp;omega
theorem zcW (p:Nat→Bool):(zi5 p).av= .agg [.int .i64 1,u64 (zaB p 0 64),u64 (zaB p 1 64),u64 (zaB p 2 64),u64 (zaB p 3 64), .int .i64 0, .int .i64 0, .nils]:=rfl
theorem zjf (k:Int):(zx8 k).av= .agg [.int .i64 k, .int .u64 0, .int .u64 0, .int .u64 0, .int .u64 0, .int .i64 0, .int .i64 0, .nils]:=rfl
set_option maxHeartbeats 1000000 in
theorem zB9 {s:List UInt8} {n:Nat} (hs':s.length≤400) (hC:zwT s n) {bar:Nat} {H:Heap} {r i deep:Nat} (h:Rd H r s i) (hb:bar≤r) (hi:i<s.length) (hf:3*(s.length+1-i)≤n+3) (hd:deep≤20) :
  Wc (Rn fsT SA.sp bar 105 [.ptr r 0,num deep] H) (zhM s r H Re.av (zkI s (n+1) i deep)):=by
 have hs:=SA.mono
 have hrl:=zas h
 obtain ⟨c,hc⟩: ∃ c,s[i]? = some c:=⟨s[i],List.getElem?_eq_getElem hi⟩
 have hp:=zeJ (bar:=bar) h hc
 have hfl: ∀ (H:Heap) (a w:Nat),r<H.length→Rn fsT SA.sp bar 113 [.ptr r 0,num a, .int .i64 w] H=some (.pan (zi3 a w),H):=fun H a w hr=>zps (bar:=bar) (H:=H) (a:=a) (w:=w) hr
 have f50:=fun H hr=>hfl H i 50 hr
 have f4:=fun H hr=>hfl H i 4 hr
 have f2:=fun H hr=>hfl H i 2 hr
 simp only [Int.cast_ofNat_Int] at f50 f4 f2
 have hw:IntKind.i64.wrap ((i:Int)+1)=(i:Int)+1:=zal _ (by omega)
 have hn1:num (i+1)= .int .i64 ((i:Int)+1):=rfl
 have h':=h
 unfold Rd at h'
 have hsame:=zea h
 refine zaO hs zF6 rfl rfl ?_
 rw [zJk]
 unfold zkI
 rw [hc]
 simp only
 by_cases c42:c=42
 ·subst c42
  rw [if_pos (by simp),zaP]
  simp [zdE,zdD,zdC,zdB,zdA,zdz,zdy,zdx,zgQ,a105,zad hs,zaa hs,zai hs,zac hs,zab hs,h',hp,f50,hrl]
  exact ⟨i,hsame.symm⟩
 by_cases c43:c=43
 ·subst c43
  rw [if_pos (by simp),zaP]
  simp [zdE,zdD,zdC,zdB,zdA,zdz,zdy,zdx,zgQ,a105,zad hs,zaa hs,zai hs,zac hs,zab hs,h',hp,f50,hrl]
  exact ⟨i,hsame.symm⟩
 by_cases c63:c=63
 ·subst c63
  rw [if_pos (by simp),zaP]
  simp [zdE,zdD,zdC,zdB,zdA,zdz,zdy,zdx,zgQ,a105,zad hs,zaa hs,zai hs,zac hs,zab hs,h',hp,f50,hrl]
  exact ⟨i,hsame.symm⟩
 by_cases c123:c=123
 ·subst c123
  rw [if_pos (by simp),zaP]
  simp [zdE,zdD,zdC,zdB,zdA,zdz,zdy,zdx,zgQ,a105,zad hs,zaa hs,zai hs,zac hs,zab hs,h',hp,f50,hrl]
  exact ⟨i,hsame.symm⟩
 rw [if_neg (by simp [c42,c43,c63,c123])]
 have n42:((c.toNat:Int)==42)=false:=zdf 42 c42
 have n43:((c.toNat:Int)==43)=false:=zdf 43 c43
 have n63:((c.toNat:Int)==63)=false:=zdf 63 c63
 have n123:((c.toNat:Int)==123)=false:=zdf 123 c123
 by_cases c41:c=41
 ·subst c41
  rw [if_pos rfl,zaP]
  simp [zdE,zdD,zdC,zdB,zdA,zdz,zdy,zdx,zgQ,zfk,zhK,a105,zad hs,zaa hs,zai hs,zac hs,zab hs,h',hp,f4,hrl]
  exact ⟨i,hsame.symm⟩
 rw [if_neg c41]
 have n41:((c.toNat:Int)==41)=false:=zdf 41 c41
 by_cases c91:c=91
 ·subst c91
  rw [if_pos rfl]
  have hbr:=ztD (bar:=bar) (H:=H) (s:=s) (i:=i) (by omega) hc
  have hpl:=zhc (s:=s) hi
  cases hx:zjt s i with
  | er a w =>
   rw [hx] at hbr hpl
   simp only [zcK] at hbr
   have hz:ze4 noB= .agg [u64 0,u64 0,u64 0,u64 0]:=rfl
   rw [hz] at hbr
   simp only
   rw [zaP]
   have fw:=fun H hr=>hfl H i w hr
   rcases hpl with rfl | rfl | rfl
   all_goals
    simp only [Int.cast_ofNat_Int,num] at fw hbr
    simp [zdE,zdD,zdC,zdB,zdA,zdz,zdy,zdx,zgQ,zfk,zhK,zdO,ziZ,ziY,ziX,a105,zad hs,zaa hs,zai hs,zac hs,zab hs,h',hp,hbr,fw,hrl]
    exact ⟨i,hsame.symm⟩
  | ok p j =>
   rw [hx] at hbr hpl
   simp only [zcK,zct] at hbr
   simp only
   rw [zbe,zcW]
   simp [zdE,zdD,zdC,zdB,zdA,zdz,zdy,zdx,zgQ,zfk,zhK,zdO,ziZ,ziY,ziX,zkP,zkO,a105,zad hs,zaa hs,zai hs,zac hs,zab hs,h',hp,hbr,hb]
 rw [if_neg c91]
 have n91:((c.toNat:Int)==91)=false:=zdf 91 c91
 by_cases c40:c=40
 ·subst c40
  rw [if_pos rfl]
  by_cases h20:20≤deep
  ·have h20':(20:Int)≤(deep:Int):=by omega
   rw [if_pos h20,zaP]
   have e:r<(H.set r (some [.str s, .int .i64 ((i:Int)+1)])).length:=by simpa using hrl
   simp [zdE,zdD,zdC,zdB,zdA,zdz,zdy,zdx,zgQ,zfk,zhK,zdO,ziZ,ziY,ziX,zkP,zkO,ze3,ze2,ze1,znt,zns,a105,zad hs,zaa hs,zai hs,zac hs,zab hs,h',hp,hw,hb,f2,hrl,h20']
   exact ⟨i+1,rfl⟩
  ·have h20': ¬ (20:Int)≤(deep:Int):=by omega
   have hwd:IntKind.i64.wrap ((deep:Int)+1)=(deep:Int)+1:=zal _ (by omega)
   rw [if_neg h20]
   have hR:=h.set (i+1)
   obtain ⟨o,K,q1,q2⟩:=hC bar _ r (i+1) (deep+1) hR hb (by omega) (by omega) (by omega)
   have hdn:num (deep+1)= .int .i64 ((deep:Int)+1):=rfl
   rw [hn1,hdn] at q1
   unfold zDm at q2
   have hplc:=(zbf (s:=s) hs' n).1 (i+1) (deep+1) (by omega) (by omega)
   cases hx:zbC s n (i+1) (deep+1) with
   | er a w =>
    rw [hx] at q2
    obtain ⟨rfl,j,rfl⟩:=q2
    simp only
    rw [zaP]
    simp [zdE,zdD,zdC,zdB,zdA,zdz,zdy,zdx,zgQ,zfk,zhK,zdO,ziZ,ziY,ziX,zkP,zkO,ze3,ze2,ze1,znt,zns,zqv,a105,zad hs,zaa hs,zai hs,zac hs,zab hs,h',hp,hw,hb,hrl,h20',hwd,q1]
    exact ⟨j,rfl⟩
   | ok ls j =>
    rw [hx] at q2 hplc
    obtain ⟨rfl,rfl⟩:=q2
    obtain ⟨b1,b2,b3,b4,b5,_⟩:=hplc
    simp only [List.set_set] at q1
    have htree:Tree (j-(i+1)+1) (zaQ 5 ls):=zbx (.inr rfl) b3 b4 (by omega) (by omega)
    obtain ⟨c1,c2,c3,c4,c5,c6,hcs⟩:=Re.av_eight htree.wide
    rw [hcs] at q1
    have hR2:=h.set j
    simp only
    by_cases hcl:s[j]? = some 41
    ·have g:=zf3 (bar:=bar) hR2 hb (by omega) hcl
     simp only [List.set_set] at g
     replace g:Rn fsT SA.sp bar 88 [.ptr r 0, .int .u8 41] (H.set r (some [.str s,num j]))=_:=g
     rw [if_pos hcl,zbe,hcs]
     simp [zdE,zdD,zdC,zdB,zdA,zdz,zdy,zdx,zgQ,zfk,zhK,zdO,ziZ,ziY,ziX,zkP,zkO,ze3,ze2,ze1,znt,zns,zqv,zup,zuo,zun,a105,zad hs,zaa hs,zai hs,zac hs,zab hs,h',hp,hw,hb,hrl,h20',hwd,q1,g]
    ·have g:=ziw (bar:=bar) hR2 (by omega) hcl
     replace g:Rn fsT SA.sp bar 88 [.ptr r 0, .int .u8 41] (H.set r (some [.str s,num j]))=_:=g
     have fj:=fun H hr=>hfl H j 3 hr
     simp only [Int.cast_ofNat_Int] at fj
     have hR2':=hR2
     unfold Rd at hR2'
     rw [if_neg hcl,zaP]
     simp [zdE,zdD,zdC,zdB,zdA,zdz,zdy,zdx,zgQ,zfk,zhK,zdO,ziZ,ziY,ziX,zkP,zkO,ze3,ze2,ze1,znt,zns,zqv,zup,zuo,zun,a105,zad hs,zaa hs,zai hs,zac hs,zab hs,h',hp,hw,hb,hrl,h20',hwd,q1,g,hR2',fj]
     exact ⟨j,rfl⟩
 rw [if_neg c40]
 have n40:((c.toNat:Int)==40)=false:=zdf 40 c40
 by_cases c46:c=46
 ·subst c46
  have hnot:=zHn (bar:=bar) (H:=H.set r (some [.str s, .int .i64 ((i:Int)+1)])) noB
  rw [zct (zq1 noB)] at hnot
  have hz:ze4 noB= .agg [.int .u64 0, .int .u64 0, .int .u64 0, .int .u64 0]:=rfl
  rw [hz] at hnot
  rw [if_pos rfl,zbe,zcW]
  simp [zdE,zdD,zdC,zdB,zdA,zdz,zdy,zdx,zfk,zdO,ze3,ze2,ze1,ziW,zkN,a105,zad hs,zaa hs,zai hs,zac hs,zab hs,h',hp,hw,hb,hnot]
  rfl
 rw [if_neg c46]
 have n46:((c.toNat:Int)==46)=false:=zdf 46 c46
 by_cases c94:c=94
 ·subst c94
  rw [if_pos rfl,zbe,zjf]
  simp [zdE,zdD,zdC,zdB,zdA,zdz,zdy,zdx,zfk,zdO,ze3,ze2,ze1,ziW,zkN,zkM,znr,a105,zad hs,zaa hs,zai hs,zac hs,zab hs,h',hp,hw,hb]
  rfl
 rw [if_neg c94]
 have n94:((c.toNat:Int)==94)=false:=zdf 94 c94
 by_cases c36:c=36
 ·subst c36
  rw [if_pos rfl,zbe,zjf]
  simp [zdE,zdD,zdC,zdB,zdA,zdz,zdy,zdx,zfk,zdO,ze3,ze2,ze1,ziW,zkN,zkM,znr,znq,zqu,a105,zad hs,zaa hs,zai hs,zac hs,zab hs,h',hp,hw,hb]
  rfl
 rw [if_neg c36]
 have n36:((c.toNat:Int)==36)=false:=zdf 36 c36
 by_cases c92:c=92
 ·subst c92
  rw [if_pos rfl]
  obtain ⟨o,K,q1,q2⟩:=zvJ (bar:=bar) (h.set (i+1)) hb (by omega) (by omega)
  unfold zsB at q2
  rw [hn1] at q1
  cases hx:s[i+1]? with
  | none =>
   rw [hx] at q2
   obtain ⟨rfl,j,rfl⟩:=q2
   simp only
   rw [zaP]
   simp [zdE,zdD,zdC,zdB,zdA,zdz,zdy,zdx,zfk,zdO,ze3,ze2,ze1,ziW,zkN,zkM,znr,znq,zqu,zqt,zum,a105,zad hs,zaa hs,zai hs,zac hs,zab hs,h',hp,hw,hb,q1]
   exact ⟨j,rfl⟩
  | some d =>
   rw [hx] at q2
   obtain ⟨rfl,rfl⟩:=q2
   have hone:=zxV (bar:=bar) (H:=H.set r (some [.str s,num (i+1+1)])) (zcM d)
   simp only [List.set_set] at q1
   rw [zcW] at hone
   simp only
   rw [zbe,zcW]
   simp [zdE,zdD,zdC,zdB,zdA,zdz,zdy,zdx,zfk,zdO,ze3,ze2,ze1,ziW,zkN,zkM,znr,znq,zqu,zqt,zum,a105,zad hs,zaa hs,zai hs,zac hs,zab hs,h',hp,hw,hb,q1,hone]
 ·rw [if_neg c92,zbe]
  have n92:((c.toNat:Int)==92)=false:=zdf 92 c92
  have hone:=zxV (bar:=bar) (H:=H.set r (some [.str s, .int .i64 ((i:Int)+1)])) c
  rw [zcW] at hone ⊢
  simp [zdE,zdD,zdC,zdB,zdA,zdz,zdy,zdx,zfk,zdO,ze3,ze2,ze1,ziW,zkM,znq,zqt,zAt,a105,zad hs,zaa hs,zai hs,zac hs,zab hs,h',hp,hw,hb,hone,n42,n43,n63,n123,n41,n91,n40,n46,n94,n36,n92]
  rfl
end
section
def zqw (s:List UInt8) (r:Nat) (H:Heap) (x:PR Re) (e:AExit) (t:EH):Prop :=
 match x with
 | .er a w=>e= .pan (zi3 a w)∧ ∃ E,∃ j:Nat,t=(E,H.set r (some [.str s,num j]))
 | .ok y j=>e= .ret∧ ∃ v',t=(mkE 76677619 v',H.set r (some [.str s,num j]))∧v' 4= .box y.av.cells
theorem zv3 (s:List UInt8) (r:Nat) (H:Heap) (a w:Nat):zqw s r H (.er a w)=fun e t=>e= .pan (zi3 a w)∧ ∃ E,∃ j:Nat,t=(E,H.set r (some [.str s,num j])):=rfl
theorem zv2 (s:List UInt8) (r:Nat) (H:Heap) (y:Re) (j:Nat):zqw s r H (.ok y j)=fun e t=>e= .ret∧ ∃ v',t=(mkE 76677619 v',H.set r (some [.str s,num j]))∧v' 4= .box y.av.cells:=rfl
theorem zuG (mn:Nat) (mx:Int) (x:Re):(zfm mn mx x).av= .agg [.int .i64 6, .int .u64 0, .int .u64 0, .int .u64 0, .int .u64 0,num mn, .int .i64 mx, .slc .ro [x.av]]:=rfl
theorem znY {s:List UInt8} {i:Nat} (n:Nat) (x:Re) (k42: ¬ s[i]? = some 42) (k43: ¬ s[i]? = some 43) (k63: ¬ s[i]? = some 63) (k123: ¬ s[i]? = some 123):zcO s (n+1) x i= .ok x i:=by
 unfold zcO
 cases hc:s[i]? with
 | none=>rfl
 | some c =>
  rw [hc] at k42 k43 k63 k123
  simp only [Option.some.injEq] at k42 k43 k63 k123
  simp only [k42,k43,k63,k123,if_false]
set_option maxHeartbeats 1000000 in
theorem zxr {s:List UInt8} (hs':s.length≤400) {bar:Nat} {H:Heap} {r:Nat} (hr:r<H.length) (hb:bar≤r): ∀ (n:Nat) (x:Re) (i:Nat) (v:Nat→AV),i≤s.length→s.length<n+i→x.wide→v 0= .ptr r 0→v 4= .box [.int .i64 0, .int .u64 0, .int .u64 0, .int .u64 0, .int .u64 0, .int .i64 0, .int .i64 0, .nils]→v 5= .box x.av.cells →
  Wp (evI fsT SA.sp bar (.loop a99l13) (mkE 76677619 v,H.set r (some [.str s,num i]))) (zqw s r H (zcO s n x i)):=by
 have hs:=SA.mono
 intro n
 induction n with
 | zero=>intro x i v h1 h2;omega
 | succ n ih =>
  intro x i v h1 h2 hx v0 v4 v5
  have hR:Rd (H.set r (some [.str s,num i])) r s i:=zae _ hr
  have hR':=hR
  unfold Rd at hR'
  obtain ⟨c1,c2,c3,c4,c5,c6,hcs⟩:=Re.av_eight hx
  rw [hcs] at v5
  simp only [AV.cells] at v5
  have step: ∀ (mn:Nat) (mx:Int) (j:Nat) (w:Nat→AV),i<j→j≤s.length→mn≤50→ -1≤mx∧mx≤50→w 0= .ptr r 0→w 4= .box [.int .i64 0, .int .u64 0, .int .u64 0, .int .u64 0, .int .u64 0, .int .i64 0, .int .i64 0, .nils] →
    w 5= .box [.int .i64 6, .int .u64 0, .int .u64 0, .int .u64 0, .int .u64 0,num mn, .int .i64 mx, .slc .ro [.agg [.int .i64 x.k,c1,c2,c3,c4,c5,c6,rowOf (Re.avs x.l)]]] →
    Wp (evI fsT SA.sp bar (.loop a99l13) (mkE 76677619 w,H.set r (some [.str s,num j]))) (zqw s r H (zcO s n (zfm mn mx x) j)):=fun mn mx j w hj hl a b w0 w4 w5=>by
   refine ih (zfm mn mx x) j w hl (by omega) ?_ w0 w4 (by rw [w5,zuG,hcs];rfl)
   simp only [zfm,Re.wide,Re.wideL,and_true]
   exact ⟨rfl,by simp,by omega,hx⟩
  have gno: ∀ c:UInt8,s[i]? ≠ some c→Rn fsT SA.sp bar 88 [.ptr r 0, .int .u8 c.toNat] (H.set r (some [.str s,num i]))=some (.ret (.bool false),H.set r (some [.str s,num i])):=fun c hc=>ziw hR h1 hc
  have gyes: ∀ c:UInt8,s[i]? = some c→Rn fsT SA.sp bar 88 [.ptr r 0, .int .u8 c.toNat] (H.set r (some [.str s,num i]))=some (.ret (.bool true),H.set r (some [.str s,num (i+1)])):=fun c hc=>by
   have:=zf3 (bar:=bar) hR hb (by omega) hc
   simpa only [List.set_set] using this
  rw [zaj hs a99l13.eq_1]
  by_cases k42:s[i]? = some 42
  ·have g:Rn fsT SA.sp bar 88 [.ptr r 0, .int .u8 42] (H.set r (some [.str s,num i]))=_:=gyes 42 k42
   have hlt:=zaK k42
   unfold zcO
   rw [k42]
   simp only [if_true]
   simp [zad hs,zaa hs,zab hs,zac hs,ztR,ztQ,ztP,ztO,ztN,ztM,ztL,ztK,zmE,zmD,zmC,v0,v4,v5,hR',g,zbw]
   refine step 0 (-1) (i+1) _ (by omega) hlt (by omega) (by omega) ?_ ?_ ?_
   ·simp [v0]
   ·simp [v4]
   ·simp
  have g42:Rn fsT SA.sp bar 88 [.ptr r 0, .int .u8 42] (H.set r (some [.str s,num i]))=_:=gno 42 k42
  by_cases k43:s[i]? = some 43
  ·have g:Rn fsT SA.sp bar 88 [.ptr r 0, .int .u8 43] (H.set r (some [.str s,num i]))=_:=gyes 43 k43
   have hlt:=zaK k43
   unfold zcO
   rw [k43]
   simp only [show ¬ ((43:UInt8)=42) by decide,if_true,if_false]
   simp [zad hs,zaa hs,zab hs,zac hs,ztR,ztQ,ztP,ztO,ztN,ztM,ztL,ztK,zmE,zmD,zmC,v0,v4,v5,hR',g42,g,zbw]
   refine step 1 (-1) (i+1) _ (by omega) hlt (by omega) (by omega) ?_ ?_ ?_
   ·simp [v0]
   ·simp [v4]
   ·simp
  have g43:Rn fsT SA.sp bar 88 [.ptr r 0, .int .u8 43] (H.set r (some [.str s,num i]))=_:=gno 43 k43
  by_cases k63:s[i]? = some 63
  ·have g:Rn fsT SA.sp bar 88 [.ptr r 0, .int .u8 63] (H.set r (some [.str s,num i]))=_:=gyes 63 k63
   have hlt:=zaK k63
   unfold zcO
   rw [k63]
   simp only [show ¬ ((63:UInt8)=42) by decide,show ¬ ((63:UInt8)=43) by decide,if_true,if_false]
   simp [zad hs,zaa hs,zab hs,zac hs,ztR,ztQ,ztP,ztO,ztN,ztM,ztL,ztK,zmE,zmD,zmC,v0,v4,v5,hR',g42,g43,g,zbw]
   refine step 0 1 (i+1) _ (by omega) hlt (by omega) (by omega) ?_ ?_ ?_
   ·simp [v0]
   ·simp [v4]
   ·simp
  have g63:Rn fsT SA.sp bar 88 [.ptr r 0, .int .u8 63] (H.set r (some [.str s,num i]))=_:=gno 63 k63
  by_cases k123:s[i]? = some 123
  ·have g:Rn fsT SA.sp bar 88 [.ptr r 0, .int .u8 123] (H.set r (some [.str s,num i]))=_:=gyes 123 k123
   have hlt:=zaK k123
   have hR2:Rd (H.set r (some [.str s,num (i+1)])) r s (i+1):=zae _ hr
   obtain ⟨o,K,q1,q2⟩:=zw9 (bar:=bar) (at':=i) hR2 hb (by omega) (by omega)
   unfold zcO
   rw [k123]
   simp only [show ¬ ((123:UInt8)=42) by decide,show ¬ ((123:UInt8)=43) by decide,show ¬ ((123:UInt8)=63) by decide,if_true,if_false]
   unfold zxa at q2
   cases ht:zer s (i+1) with
   | none =>
    rw [ht] at q2
    obtain ⟨rfl,j,rfl⟩:=q2
    simp only
    rw [zv3]
    simp [zad hs,zaa hs,zab hs,zac hs,ztR,ztQ,ztP,ztO,ztN,ztM,ztL,ztK,zmE,zmD,zmC,v0,v4,v5,hR',g42,g43,g63,g,q1,zbw]
    exact ⟨j,rfl⟩
   | some q =>
    obtain ⟨mn,mx,j⟩:=q
    rw [ht] at q2
    obtain ⟨rfl,rfl⟩:=q2
    have hpl:=zgT (s:=s) (by omega) ht
    simp only [List.set_set] at q1
    simp only
    simp [zad hs,zaa hs,zab hs,zac hs,ztR,ztQ,ztP,ztO,ztN,ztM,ztL,ztK,zmE,zmD,zmC,v0,v4,v5,hR',g42,g43,g63,g,q1,zbw]
    refine step mn mx j _ (by omega) hpl.2.1 hpl.2.2.1 hpl.2.2.2 ?_ ?_ ?_
    ·simp [v0]
    ·simp [v4]
    ·simp
  have g123:Rn fsT SA.sp bar 88 [.ptr r 0, .int .u8 123] (H.set r (some [.str s,num i]))=_:=gno 123 k123
  have e0:=znY n x k42 k43 k63 k123
  rw [e0,zv2]
  simp [zad hs,zaa hs,zab hs,zac hs,ztR,ztQ,ztP,ztO,ztN,ztM,ztL,ztK,zmE,zmD,zmC,v0,v4,v5,hR',g42,g43,g63,g123]
  refine ⟨_,rfl,?_⟩
  simp [hcs]
def zme (s:List UInt8) (n i deep:Nat):PR Re:=match zkI s n i deep with
 | .er a w=> .er a w
 | .ok x j=>zcO s (s.length+1) x j
theorem zxC {s:List UInt8} {n:Nat} (hs':s.length≤400) (hC:zwT s n) {bar:Nat} {H:Heap} {r i deep:Nat} (h:Rd H r s i) (hb:bar≤r) (hi:i<s.length) (hf:3*(s.length+1-i)≤n+3) (hd:deep≤20) :
  Wc (Rn fsT SA.sp bar 99 [.ptr r 0,num deep] H) (zhM s r H Re.av (zme s (n+1) i deep)):=by
 have hs:=SA.mono
 have hrl:=zas h
 obtain ⟨o,K,q1,q2⟩:=zB9 hs' hC h hb hi hf hd
 have hpl:=(zbf (s:=s) hs' (n+1)).2.2 i deep hi (by omega)
 refine zaO hs zH1 rfl rfl ?_
 rw [env99]
 unfold zme
 cases hx:zkI s (n+1) i deep with
 | er a w =>
  rw [hx] at q2
  obtain ⟨rfl,j,rfl⟩:=q2
  simp only
  rw [zaP]
  simp [zGs,zGr,a99,zad hs,zaa hs,zab hs,q1]
  exact ⟨j,rfl⟩
 | ok x j =>
  rw [hx] at q2 hpl
  obtain ⟨rfl,rfl⟩:=q2
  obtain ⟨p1,p2,p3⟩:=hpl
  have hxw:=p3.wide
  obtain ⟨c1,c2,c3,c4,c5,c6,hcs⟩:=Re.av_eight hxw
  rw [hcs] at q1
  simp only
  simp [zGs,zGr,a99,zad hs,zaa hs,zab hs,q1]
  refine (zxr hs' hrl hb (s.length+1) x j _ p2 (by omega) hxw ?_ ?_ ?_).mono fun e t ht=> ?_
  ·simp
  ·simp
  ·simp [hcs]
  ·have hpl2:=zdF (s:=s) (s.length+1) x j (j-i) p2 (by omega) (by omega) p3
   cases hy:zcO s (s.length+1) x j with
   | er a w =>
    rw [hy] at ht
    obtain ⟨rfl,E,k,rfl⟩:=ht
    rw [zaP]
    simp
    exact ⟨k,rfl⟩
   | ok y k =>
    rw [hy] at ht hpl2
    obtain ⟨rfl,v',rfl,k4⟩:=ht
    obtain ⟨c1,c2,c3,c4,c5,c6,hcs⟩:=Re.av_eight hpl2.2.2.wide
    rw [hcs] at k4
    rw [zbe,hcs]
    simp only [AV.cells] at k4
    simp [k4]
end
section
def zDf (s:List UInt8) (r:Nat) (H:Heap) (x:PR Re) (e:AExit) (t:EH):Prop :=
 match x with
 | .er a w=>e= .pan (zi3 a w)∧ ∃ E,∃ j:Nat,t=(E,H.set r (some [.str s,num j]))
 | .ok y j=>e= .ret∧ ∃ v',t=(mkE 67109107 v',H.set r (some [.str s,num j]))∧v' 4= .box y.av.cells
theorem zB7 (s:List UInt8) (r:Nat) (H:Heap) (a w:Nat):zDf s r H (.er a w)=fun e t=>e= .pan (zi3 a w)∧ ∃ E,∃ j:Nat,t=(E,H.set r (some [.str s,num j])):=rfl
theorem zpH (s:List UInt8) (r:Nat) (H:Heap) (y:Re) (j:Nat):zDf s r H (.ok y j)=fun e t=>e= .ret∧ ∃ v',t=(mkE 67109107 v',H.set r (some [.str s,num j]))∧v' 4= .box y.av.cells:=rfl
def Parts (k:Int) (m:Nat) (acc:List Re):Prop:=(∀ x∈acc,Tree 1000 x)∧(joinL k acc).length≤m∧acc.length≤m
theorem Parts.snoc {k:Int} {m n:Nat} {acc:List Re} {x:Re} (h:Parts k m acc) (hx:Tree n x) (hn:1≤n∧n≤1000):Parts k (m+n) (acc ++ [x]):=by
 obtain ⟨h1,h2,h3⟩:=h
 refine ⟨fun y hy=> ?_,?_,?_⟩
 ·rcases List.mem_append.1 hy with h | h
  ·exact h1 y h
  ·simp only [List.mem_singleton] at h;subst h;exact hx.mono hn.2
 ·rw [zc4,List.length_append]
  have:=hx.part k
  simp only [joinL,List.flatMap_cons,List.flatMap_nil,List.append_nil] at this ⊢
  simp only [joinL] at h2
  omega
 ·simp only [List.length_append,List.length_cons,List.length_nil];omega
theorem Parts.mono {k:Int} {m n:Nat} {acc:List Re} (h:Parts k m acc) (l:m≤n):Parts k n acc:=⟨h.1,Nat.le_trans h.2.1 l,Nat.le_trans h.2.2 l⟩
theorem Parts.joined {k:Int} {m:Nat} {acc:List Re} (h:Parts k m acc) (hk:k=4∨k=5) (hm:m≤1000) (bar:Nat) (H:Heap) (a:AV) (ha:zDk a acc):Rn fsT SA.sp bar 89 [.int .i64 k,a] H=some (.ret (zaQ k acc).av,H):=by
 obtain ⟨h1,h2,h3⟩:=h
 refine zwo ha (zaC.2 fun x hx=>(h1 x hx).wide) (by omega) fun x hx=> ?_
 subst hx
 exact zye hk (h1 x (by simp)).plain
theorem Parts.wide {k:Int} {m:Nat} {acc:List Re} (h:Parts k m acc) (hk:k=4∨k=5) (hm:m≤1000):(zaQ k acc).wide:=(zbx hk h.1 (Nat.le_trans h.2.1 hm) (by omega) (by omega)).wide
theorem Parts.rowWide {k:Int} {m:Nat} {acc:List Re} (h:Parts k m acc):Re.wideL acc:=zaC.2 fun x hx=>(h.1 x hx).wide
def brF (s:List UInt8) (acc:List Re) (n i deep:Nat):PR Re:=match zbq s n i deep with
 | .er a w=> .er a w
 | .ok l j=> .ok (zaQ 4 (acc++l)) j
set_option maxHeartbeats 1000000 in
theorem ztC {s:List UInt8} (hs':s.length≤400) {N:Nat} (hC: ∀ m,m<N→zwT s m) {bar:Nat} {H:Heap} {r deep:Nat} (hr:r<H.length) (hb:bar≤r) (hd:deep≤20) :
  ∀ (n i:Nat) (acc:List Re) (v:Nat→AV),n≤N→i≤s.length→3*(s.length+1-i)≤n+1→Parts 4 i acc→v 0= .ptr r 0→v 1=num deep →
   v 4= .box [.int .i64 0, .int .u64 0, .int .u64 0, .int .u64 0, .int .u64 0, .int .i64 0, .int .i64 0, .nils]→v 5=zpg acc →
   Wp (evI fsT SA.sp bar (.loop a87l6) (mkE 67109107 v,H.set r (some [.str s,num i]))) (zDf s r H (brF s acc n i deep)):=by
 have hs:=SA.mono
 intro n
 induction n with
 | zero=>intro i acc v hN h1 h2;omega
 | succ n ih =>
  intro i acc v hN h1 h2 hacc v0 v1 v4 v5
  have hR:Rd (H.set r (some [.str s,num i])) r s i:=zae _ hr
  have hj:=hacc.joined (.inl rfl) (by omega) bar (H.set r (some [.str s,num i]))
  have hjw:=hacc.wide (.inl rfl) (by omega)
  obtain ⟨c1,c2,c3,c4,c5,c6,hcs⟩:=Re.av_eight hjw
  rw [hcs] at hj
  have hok:=zcZ hacc.rowWide
  have stop:stops s i deep=true→brF s acc (n+1) i deep= .ok (zaQ 4 acc) i:=fun h=>by
   unfold brF zbq
   rw [if_pos h]
   simp
  rw [zaj hs a87l6.eq_1]
  -- where the branch ends
  have ends:stops s i deep=true→(∀ (Q:AExit→EH→Prop),(∀ v':Nat→AV,v' 4= .box (zaQ 4 acc).av.cells→Q .ret (mkE 67109107 v',H.set r (some [.str s,num i])))→True):=fun _ _ _=>trivial
  have hrow:(acc= []∧v 5= .nils)∨(acc ≠ []∧v 5= .slc .own (Re.avs acc)):=by
   cases acc with
   | nil=>exact .inl ⟨rfl,v5⟩
   | cons y l=>exact .inr ⟨by simp,by rw [v5,ze5 (by simp)]⟩
  have jn:=hj .nils
  have jr:=hj (.slc .ro (Re.avs acc)) (.inl rfl)
  have htk:List.take acc.length (Re.avs acc)=Re.avs acc:=List.take_of_length_le (by simp [zaq])
  have dl0:deep=0∨0<deep:=Nat.eq_zero_or_pos _
  cases hc:s[i]? with
  | none =>
   have hp:=zg0 (bar:=bar) hR h1 hc
   rw [stop (by simp [stops,hc]),zpH,hcs]
   rcases hrow with ⟨rfl,v5'⟩ | ⟨hne,v5'⟩
   ·have jn:=jn (.inr ⟨rfl,rfl⟩)
    simp [zad hs,zaa hs,zab hs,zac hs,ziH,ziG,ziF,ziE,v0,v1,v4,v5',hp,jn]
    exact ⟨_,rfl,by simp⟩
   ·simp [zad hs,zaa hs,zab hs,zac hs,ziH,ziG,ziF,ziE,v0,v1,v4,v5',hp,jr,zaq,htk,hok]
    exact ⟨_,rfl,by simp⟩
  | some c =>
   have hp:=zeJ (bar:=bar) hR hc
   have hlt:=zaK hc
   by_cases c124:c=124
   ·subst c124
    rw [stop (by simp [stops,hc]),zpH,hcs]
    rcases hrow with ⟨rfl,v5'⟩ | ⟨hne,v5'⟩
    ·have jn:=jn (.inr ⟨rfl,rfl⟩)
     simp [zad hs,zaa hs,zab hs,zac hs,ziH,ziG,ziF,ziE,v0,v1,v4,v5',hp,jn]
     exact ⟨_,rfl,by simp⟩
    ·simp [zad hs,zaa hs,zab hs,zac hs,ziH,ziG,ziF,ziE,v0,v1,v4,v5',hp,jr,zaq,htk,hok]
     exact ⟨_,rfl,by simp⟩
   have n124:((c.toNat:Int)==124)=false:=zdf 124 c124
   by_cases c41:c=41∧0<deep
   ·obtain ⟨rfl,hd0⟩:=c41
    have hd0':(0:Int)<(deep:Int):=by omega
    rw [stop (by simp [stops,hc,hd0]),zpH,hcs]
    rcases hrow with ⟨rfl,v5'⟩ | ⟨hne,v5'⟩
    ·have jn:=jn (.inr ⟨rfl,rfl⟩)
     simp [zad hs,zaa hs,zab hs,zac hs,ziH,ziG,ziF,ziE,v0,v1,v4,v5',hp,jn,hd0',hd0]
     exact ⟨_,rfl,by simp⟩
    ·simp [zad hs,zaa hs,zab hs,zac hs,ziH,ziG,ziF,ziE,v0,v1,v4,v5',hp,jr,zaq,htk,hok,hd0',hd0]
     exact ⟨_,rfl,by simp⟩
   -- a piece more
   have hst:stops s i deep=false:=by
    simp only [stops,hc,Bool.or_eq_false_iff,decide_eq_false_iff_not,Bool.and_eq_false_iff]
    refine ⟨c124,?_⟩
    by_cases e:c=41
    ·exact .inr fun h=>c41 ⟨e,h⟩
    ·exact .inl e
   obtain ⟨m,rfl⟩: ∃ m,n=m+1:=⟨n-1,by omega⟩
   obtain ⟨o,K,q1,q2⟩:=zxC hs' (hC m (by omega)) hR hb hlt (by omega) hd
   have hapl:=(zbf (s:=s) hs' (m+1)).2.2 i deep hlt (by omega)
   have e0:brF s acc (m+1+1) i deep=match zme s (m+1) i deep with
     | .er a w=> .er a w
     | .ok y k=>brF s (acc ++ [y]) (m+1) k deep:=by
    unfold brF zme
    rw [zbq,if_neg (by simp [hst])]
    cases zkI s (m+1) i deep with
    | er a w=>rfl
    | ok x j =>
     simp only
     cases zcO s (s.length+1) x j with
     | er a w=>rfl
     | ok y k =>
      simp only
      cases zbq s (m+1) k deep with
      | er a w=>rfl
      | ok ys l=>simp
   have hppl:(zme s (m+1) i deep).sat (fun y k=>i<k∧k≤s.length∧Tree (k-i) y) (zov s):=by
    unfold zme
    cases hx:zkI s (m+1) i deep with
    | er a w=>rw [hx] at hapl;exact hapl
    | ok x j =>
     rw [hx] at hapl
     obtain ⟨p1,p2,p3⟩:=hapl
     have hr:=zdF (s:=s) (s.length+1) x j (j-i) p2 (by omega) (by omega) p3
     simp only
     cases hy:zcO s (s.length+1) x j with
     | er a w=>rw [hy] at hr;exact hr
     | ok y k =>
      rw [hy] at hr
      obtain ⟨r1,r2,r3⟩:=hr
      exact ⟨by omega,r2,r3.mono (by omega)⟩
   rw [e0]
   -- the test answers no
   have test:((decide (c=41))&&decide (0<deep))=false:=by
    by_cases e:c=41
    ·have: ¬ 0<deep:=fun h=>c41 ⟨e,h⟩
     simp [this]
    ·simp [e]
   cases hx:zme s (m+1) i deep with
   | er a w =>
    rw [hx] at q2
    obtain ⟨rfl,j,rfl⟩:=q2
    simp only [List.set_set] at q1
    simp only
    rw [zB7]
    by_cases e:c=41
    ·subst e
     have hd0:deep=0:=by have: ¬ 0<deep:=fun h=>c41 ⟨rfl,h⟩;omega
     subst hd0
     rcases hrow with ⟨rfl,v5'⟩ | ⟨hne,v5'⟩
     ·simp [zad hs,zaa hs,zab hs,zac hs,ziH,ziG,ziF,ziE,v0,v1,v4,v5',hp,n124,q1]
      exact ⟨j,rfl⟩
     ·simp [zad hs,zaa hs,zab hs,zac hs,ziH,ziG,ziF,ziE,v0,v1,v4,v5',hp,n124,q1]
      exact ⟨j,rfl⟩
    ·have n41:((c.toNat:Int)==41)=false:=zdf 41 e
     rcases hrow with ⟨rfl,v5'⟩ | ⟨hne,v5'⟩
     ·simp [zad hs,zaa hs,zab hs,zac hs,ziH,ziG,ziF,ziE,v0,v1,v4,v5',hp,n124,n41,q1]
      exact ⟨j,rfl⟩
     ·simp [zad hs,zaa hs,zab hs,zac hs,ziH,ziG,ziF,ziE,v0,v1,v4,v5',hp,n124,n41,q1]
      exact ⟨j,rfl⟩
   | ok y k =>
    rw [hx] at q2 hppl
    obtain ⟨rfl,rfl⟩:=q2
    obtain ⟨g1,g2,g3⟩:=hppl
    simp only [List.set_set] at q1
    simp only
    have hyw:=g3.wide
    obtain ⟨d1,d2,d3,d4,d5,d6,hds⟩:=Re.av_eight hyw
    rw [hds] at q1
    have hacc2:Parts 4 k (acc ++ [y]):=(hacc.snoc g3 (by omega)).mono (by omega)
    have hown:zpg (acc ++ [y])= .slc .own (Re.avs acc ++ [.agg [.int .i64 y.k,d1,d2,d3,d4,d5,d6,rowOf (Re.avs y.l)]]):=by
     rw [ze5 (by simp),←zbO];simp [Re.avs,hds]
    have hlen:=hacc.2.2
    have hle:(acc.length+1)*8≤4294967296:=by omega
    have next: ∀ w:Nat→AV,w 0= .ptr r 0→w 1=num deep→w 4= .box [.int .i64 0, .int .u64 0, .int .u64 0, .int .u64 0, .int .u64 0, .int .i64 0, .int .i64 0, .nils]→w 5= .slc .own (Re.avs acc ++ [.agg [.int .i64 y.k,d1,d2,d3,d4,d5,d6,rowOf (Re.avs y.l)]]) →
      Wp (evI fsT SA.sp bar (.loop a87l6) (mkE 67109107 w,H.set r (some [.str s,num k]))) (zDf s r H (brF s (acc ++ [y]) (m+1) k deep)):=fun w w0 w1 w4 w5 =>
     ih k (acc ++ [y]) w (by omega) g2 (by omega) hacc2 w0 w1 w4 (by rw [w5,hown])
    by_cases e:c=41
    ·subst e
     have hd0:deep=0:=by have: ¬ 0<deep:=fun h=>c41 ⟨rfl,h⟩;omega
     subst hd0
     rcases hrow with ⟨rfl,v5'⟩ | ⟨hne,v5'⟩
     ·simp [zad hs,zaa hs,zab hs,zac hs,ziH,ziG,ziF,ziE,v0,v1,v4,v5',hp,n124,q1,zbw]
      refine next _ ?_ ?_ ?_ ?_
      all_goals simp [v0,v1,v4,Re.avs]
     ·simp [zad hs,zaa hs,zab hs,zac hs,ziH,ziG,ziF,ziE,v0,v1,v4,v5',hp,n124,q1,zbw,hok,zaq,hle]
      refine next _ ?_ ?_ ?_ ?_
      all_goals simp [v0,v1,v4]
    ·have n41:((c.toNat:Int)==41)=false:=zdf 41 e
     rcases hrow with ⟨rfl,v5'⟩ | ⟨hne,v5'⟩
     ·simp [zad hs,zaa hs,zab hs,zac hs,ziH,ziG,ziF,ziE,v0,v1,v4,v5',hp,n124,n41,q1,zbw]
      refine next _ ?_ ?_ ?_ ?_
      all_goals simp [v0,v1,v4,Re.avs]
     ·simp [zad hs,zaa hs,zab hs,zac hs,ziH,ziG,ziF,ziE,v0,v1,v4,v5',hp,n124,n41,q1,zbw,hok,zaq,hle]
      refine next _ ?_ ?_ ?_ ?_
      all_goals simp [v0,v1,v4]
end
section
theorem zoq {s:List UInt8} (hs':s.length≤400) {N:Nat} (hC: ∀ m,m<N→zwT s m) {bar:Nat} {H:Heap} {r i deep n:Nat} (h:Rd H r s i) (hb:bar≤r) (hi:i≤s.length) (hn:n≤N) (hf:3*(s.length+1-i)≤n+1) (hd:deep≤20) :
  Wc (Rn fsT SA.sp bar 87 [.ptr r 0,num deep] H) (zhM s r H Re.av (brF s [] n i deep)):=by
 have hs:=SA.mono
 have hrl:=zas h
 have hsame:=zea h
 have hpl:=(zbf (s:=s) hs' n).2.1 i deep hi (by omega)
 have hwy: ∀ y j,brF s [] n i deep= .ok y j→y.wide:=fun y j e=>by
  unfold brF at e
  cases hx:zbq s n i deep with
  | er a w=>rw [hx] at e;cases e
  | ok l k =>
   rw [hx] at e hpl
   simp only [List.nil_append,PR.ok.injEq] at e
   obtain ⟨rfl,rfl⟩:=e
   obtain ⟨b1,b2,b3,b4,b5⟩:=hpl
   exact (zbx (m:=k-i+1) (.inl rfl) (fun x hx=>(b3 x hx).mono (by omega)) (by omega) (by omega) (by omega)).wide
 refine zaO hs zH5 rfl rfl ?_
 rw [env87]
 simp [zKq,zKp,a87,zad hs,zaa hs,zab hs]
 have key:=ztC hs' hC (bar:=bar) (H:=H) hrl hb hd n i [] (st (st (st (st noV 0 (.ptr r 0)) 1 (num deep)) 4 (.box [.int .i64 0, .int .u64 0, .int .u64 0, .int .u64 0, .int .u64 0, .int .i64 0, .int .i64 0, .nils])) 5 .nils) hn hi hf ⟨by simp,by simp [joinL],by simp⟩
  (by simp) (by simp) (by simp) (by simp [zee])
 rw [hsame] at key
 refine key.mono fun e t ht=> ?_
 cases hx:brF s [] n i deep with
 | er a w =>
  rw [hx] at ht
  obtain ⟨rfl,E,j,rfl⟩:=ht
  rw [zaP]
  simp
  exact ⟨j,rfl⟩
 | ok y j =>
  rw [hx] at ht
  obtain ⟨rfl,v',rfl,k4⟩:=ht
  obtain ⟨c1,c2,c3,c4,c5,c6,hcs⟩:=Re.av_eight (hwy y j hx)
  rw [hcs] at k4
  rw [zbe,hcs]
  simp only [AV.cells] at k4
  simp [k4]
def zlg (s:List UInt8) (n j deep:Nat):PR (List Re):=if s[j]? = some 124 then zbC s n (j+1) deep else .ok [] j
theorem ze8 (s:List UInt8) (n i deep:Nat):zbC s (n+1) i deep=match zbq s n i deep with
  | .er a w=> .er a w
  | .ok l j=>match zlg s n j deep with
   | .er a w=> .er a w
   | .ok ls k=> .ok (zaQ 4 l::ls) k:=by
 rw [zbC]
 cases zbq s n i deep with
 | er a w=>rfl
 | ok l j =>
  simp only [zlg]
  split
  ·cases zbC s n (j+1) deep<;>rfl
  ·rfl
def zvC (s:List UInt8) (r:Nat) (H:Heap) (acc:List Re) (v:Nat→AV) (x:PR (List Re)) (e:AExit) (t:EH):Prop :=
 match x with
 | .er a w=>e= .pan (zi3 a w)∧ ∃ E,∃ j:Nat,t=(E,H.set r (some [.str s,num j]))
 | .ok ls j=>e= .exit 0∧ ∃ v',t=(mkE 2099 v',H.set r (some [.str s,num j]))∧v' 4=v 4∧v' 5= .slc .own (Re.avs (acc++ls))∧Parts 5 (j+1) (acc++ls)∧j≤s.length
theorem zxE (s:List UInt8) (r:Nat) (H:Heap) (acc:List Re) (v:Nat→AV) (a w:Nat):zvC s r H acc v (.er a w)=fun e t=>e= .pan (zi3 a w)∧ ∃ E,∃ j:Nat,t=(E,H.set r (some [.str s,num j])):=rfl
theorem zxD (s:List UInt8) (r:Nat) (H:Heap) (acc:List Re) (v:Nat→AV) (ls:List Re) (j:Nat):zvC s r H acc v (.ok ls j)=fun e t=>e= .exit 0∧ ∃ v',t=(mkE 2099 v',H.set r (some [.str s,num j]))∧v' 4=v 4∧v' 5= .slc .own (Re.avs (acc++ls))∧Parts 5 (j+1) (acc++ls)∧j≤s.length:=rfl
set_option maxHeartbeats 1000000 in
theorem zBi {s:List UInt8} (hs':s.length≤400) {N:Nat} (hC: ∀ m,m<N→zwT s m) {bar:Nat} {H:Heap} {r deep:Nat} (hr:r<H.length) (hb:bar≤r) (hd:deep≤20) :
  ∀ (n j:Nat) (acc:List Re) (v:Nat→AV),n≤N→j≤s.length→3*(s.length-j)≤n→Parts 5 (j+1) acc→acc ≠ []→v 0= .ptr r 0→v 1=num deep→v 5= .slc .own (Re.avs acc) →
   Wp (evI fsT SA.sp bar (.loop a86l4) (mkE 2099 v,H.set r (some [.str s,num j]))) (zvC s r H acc v (zlg s n j deep)):=by
 have hs:=SA.mono
 intro n
 induction n using Nat.strongRecOn with
 | ind n ih =>
 intro j acc v hN h1 h2 hacc hne v0 v1 v5
 have hR:Rd (H.set r (some [.str s,num j])) r s j:=zae _ hr
 have hok:=zcZ hacc.rowWide
 rw [zaj hs a86l4.eq_1]
 unfold zlg
 by_cases hc:s[j]? = some 124
 ·rw [if_pos hc]
  have hlt:=zaK hc
  have g:=zf3 (bar:=bar) hR hb (by omega) hc
  simp only [List.set_set] at g
  replace g:Rn fsT SA.sp bar 88 [.ptr r 0, .int .u8 124] (H.set r (some [.str s,num j]))=_:=g
  obtain ⟨m,rfl⟩: ∃ m,n=m+1:=⟨n-1,by omega⟩
  have hR2:Rd (H.set r (some [.str s,num (j+1)])) r s (j+1):=zae _ hr
  obtain ⟨o,K,q1,q2⟩:=zoq hs' hC hR2 hb (by omega) (show m≤N by omega) (by omega) hd
  have hbpl:=(zbf (s:=s) hs' m).2.1 (j+1) deep (by omega) (by omega)
  rw [ze8]
  unfold brF at q2
  simp only [List.set_set,List.nil_append] at q1 q2
  cases hx:zbq s m (j+1) deep with
  | er a w =>
   rw [hx] at q2
   obtain ⟨rfl,k,rfl⟩:=q2
   simp only [List.set_set] at q1
   simp only
   rw [zxE]
   simp [zad hs,zaa hs,zab hs,zac hs,zCv,zGC,v0,v1,v5,g,q1]
   exact ⟨k,rfl⟩
  | ok l k =>
   rw [hx] at q2 hbpl
   obtain ⟨rfl,rfl⟩:=q2
   obtain ⟨b1,b2,b3,b4,b5⟩:=hbpl
   simp only [List.set_set] at q1
   have ht:Tree (k-(j+1)+1) (zaQ 4 l):=zbx (.inl rfl) (fun x hx=>(b3 x hx).mono (by omega)) (by omega) (by omega) (by omega)
   obtain ⟨d1,d2,d3,d4,d5,d6,hds⟩:=Re.av_eight ht.wide
   rw [hds] at q1
   have hacc2:Parts 5 (k+1) (acc ++ [zaQ 4 l]):=(hacc.snoc ht (by omega)).mono (by omega)
   have hlen:=hacc.2.2
   have hle:(acc.length+1)*8≤4294967296:=by omega
   have hav:Re.avs (acc ++ [zaQ 4 l])=Re.avs acc ++ [.agg [.int .i64 (zaQ 4 l).k,d1,d2,d3,d4,d5,d6,rowOf (Re.avs (zaQ 4 l).l)]]:=by
    rw [←zbO];simp [Re.avs,hds]
   simp only
   have next: ∀ w:Nat→AV,w 0= .ptr r 0→w 1=num deep→w 4=v 4→w 5= .slc .own (Re.avs acc ++ [.agg [.int .i64 (zaQ 4 l).k,d1,d2,d3,d4,d5,d6,rowOf (Re.avs (zaQ 4 l).l)]]) →
     Wp (evI fsT SA.sp bar (.loop a86l4) (mkE 2099 w,H.set r (some [.str s,num k]))) (zvC s r H acc v (match zlg s m k deep with | .er a w=> .er a w | .ok ls k=> .ok (zaQ 4 l::ls) k)):=fun w w0 w1 w4 w5=>by
    refine (ih m (by omega) k (acc ++ [zaQ 4 l]) w (by omega) b2 (by omega) hacc2 (by simp) w0 w1 (by rw [w5,hav])).mono fun e t h=> ?_
    cases hy:zlg s m k deep with
    | er a b=>rw [hy] at h;exact h
    | ok ls z =>
     rw [hy] at h
     obtain ⟨h1,v',h2,h3,h4,h5,h6⟩:=h
     simp only [List.append_assoc,List.cons_append,List.nil_append] at h4 h5
     exact ⟨h1,v',h2,h3.trans w4,h4,h5,h6⟩
   simp [zad hs,zaa hs,zab hs,zac hs,zCv,zGC,v0,v1,v5,g,q1,zbw,hok,zaq,hle]
   refine next _ ?_ ?_ ?_ ?_
   all_goals simp [v0,v1]
 ·rw [if_neg hc,zxD]
  have g:=ziw (bar:=bar) hR h1 hc
  replace g:Rn fsT SA.sp bar 88 [.ptr r 0, .int .u8 124] (H.set r (some [.str s,num j]))=_:=g
  simp [zad hs,zaa hs,zab hs,zac hs,zCv,v0,g]
  exact ⟨_,rfl,by simp,by simp [v5],hacc,h1⟩
theorem zE0 {s:List UInt8} (hs':s.length≤400): ∀ n,zwT s n:=by
 have hs:=SA.mono
 intro n
 induction n using Nat.strongRecOn with
 | ind n ih =>
 intro bar H r i deep h hb hi hf hd
 obtain ⟨m,rfl⟩: ∃ m,n=m+1:=⟨n-1,by omega⟩
 have hrl:=zas h
 obtain ⟨o,K,q1,q2⟩:=zoq hs' ih h hb hi (show m≤m+1 by omega) (by omega) hd
 have hbpl:=(zbf (s:=s) hs' m).2.1 i deep hi (by omega)
 refine zaO hs zH6 rfl rfl ?_
 rw [env86]
 unfold zDm
 rw [ze8]
 unfold brF at q2
 simp only [List.nil_append] at q2
 cases hx:zbq s m i deep with
 | er a w =>
  rw [hx] at q2
  obtain ⟨rfl,k,rfl⟩:=q2
  simp only
  rw [zaP]
  simp [zGE,zGD,a86,zad hs,zaa hs,zab hs,q1]
  exact ⟨k,rfl⟩
 | ok l k =>
  rw [hx] at q2 hbpl
  obtain ⟨rfl,rfl⟩:=q2
  obtain ⟨b1,b2,b3,b4,b5⟩:=hbpl
  have ht:Tree (k-i+1) (zaQ 4 l):=zbx (.inl rfl) (fun x hx=>(b3 x hx).mono (by omega)) (by omega) (by omega) (by omega)
  obtain ⟨d1,d2,d3,d4,d5,d6,hds⟩:=Re.av_eight ht.wide
  rw [hds] at q1
  have hacc:Parts 5 (k+1) [zaQ 4 l]:=by
   have h0:Parts 5 0 []:=⟨by simp,by simp [joinL],by simp⟩
   have:=h0.snoc ht (by omega)
   simpa using this.mono (show 0+(k-i+1)≤k+1 by omega)
  simp [zGE,zGD,a86,zad hs,zaa hs,zab hs,q1,zbw]
  refine (zBi hs' ih (bar:=bar) (H:=H) hrl hb hd m k [zaQ 4 l] _ (by omega) b2 (by omega) hacc (by simp) ?_ ?_ ?_).mono fun e t ht=> ?_
  ·simp
  ·simp
  ·simp [Re.avs,hds]
  ·cases hy:zlg s m k deep with
   | er a w =>
    rw [hy] at ht
    obtain ⟨rfl,E,j,rfl⟩:=ht
    simp only
    rw [zaP]
    simp
    exact ⟨j,rfl⟩
   | ok ls j =>
    rw [hy] at ht
    obtain ⟨rfl,v',rfl,k4,k5,hp,hj⟩:=ht
    have hjn:=hp.joined (.inr rfl) (by omega) bar (H.set r (some [.str s,num j])) _ (.inl rfl)
    have hjw:=hp.wide (.inr rfl) (by omega)
    obtain ⟨c1,c2,c3,c4,c5,c6,hcs⟩:=Re.av_eight hjw
    simp only [List.cons_append,List.nil_append] at hjn hcs k5 hp
    rw [hcs] at hjn
    simp only
    rw [zbe,hcs]
    simp at k4
    have hok:=zcZ hp.rowWide
    have htk:List.take (zaQ 4 l::ls).length (Re.avs (zaQ 4 l::ls))=Re.avs (zaQ 4 l::ls):=List.take_of_length_le (by simp [zaq])
    have hal:(Re.avs (zaQ 4 l::ls)).length=(zaQ 4 l::ls).length:=zaq _
    generalize zaQ 4 l::ls=A at *
    simp [zKr,zad hs,zaa hs,k4,k5,hjn,hal,htk]
def zbP (x:PR Re):AV :=
 match x with
 | .er a w=> .tup [emptyRe.av,num a,num w]
 | .ok y _=> .tup [y.av,num 0,num 0]
theorem zxF {bar:Nat} {H:Heap} (s:List UInt8):Rn fsT SA.sp bar 41 [.str s] H=some (.ret (zbP (zfy s)),H):=by
 have hz:emptyRe.av=zut:=rfl
 have hm:Mono fun n=>zfl (run fsT spF n) [.str s] H:=fun n m r l e=>zkT (fun b=>zet SA.mono n m b l) _ _ _ e
 rw [zDa,zfA hm]
 by_cases hl:400<s.length
 ·refine ⟨0,?_⟩
  have:Nat.ble s.length 400=false:=by
   cases h:Nat.ble s.length 400
   ·rfl
   ·have:=Nat.le_of_ble_eq_true h;omega
  simp only [zfl,this,cond_false,zfy,if_pos hl,zbP,hz]
  rfl
 ·have hle:Nat.ble s.length 400=true:=by rw [Nat.ble_eq];omega
  obtain ⟨o,K,q1,q2⟩:=zE0 (s:=s) (by omega) (zh6 s 0) 0 [some [.str s,num 0]] 0 0 0 rfl (Nat.le_refl _) (Nat.zero_le _) (by unfold zh6;omega) (Nat.zero_le _)
  obtain ⟨n,hn⟩:=(zgR SA.mono).1 q1
  refine ⟨n,?_⟩
  have hn':run fsT spF n 0 86 [.ptr 0 0, .int .i64 0] [some [.str s, .int .i64 0]]=some (o,K):=hn
  simp only [zfl,hle,cond_true,hn',zfy,if_neg hl]
  unfold zDm at q2
  have hpl:=(zbf (s:=s) (by omega) (zh6 s 0)).1 0 0 (by omega) (by unfold zh6;omega)
  cases hx:zbC s (zh6 s 0) 0 0 with
  | er a w =>
   rw [hx] at q2
   obtain ⟨rfl,j,rfl⟩:=q2
   simp only [zi3,num,zbP,hz]
  | ok ls j =>
   rw [hx] at q2 hpl
   obtain ⟨rfl,rfl⟩:=q2
   obtain ⟨b1,b2,b3,b4,b5,_⟩:=hpl
   have ht:Tree (j-0+1) (zaQ 5 ls):=zbx (.inr rfl) b3 b4 (by omega) (by omega)
   obtain ⟨c1,c2,c3,c4,c5,c6,hcs⟩:=Re.av_eight ht.wide
   have hfr:=zg6 0 (List.set [some [AV.str s,num 0]] 0 (some [AV.str s,num j])) (zaQ 5 ls)
   simp only [zbP]
   rw [hfr,hcs]
   rfl
end
end Go.Ak
