/- What the program's reader of patterns computes. -/
import Derived.Test.YtfcgnpphabplbaaGreatDoorMn
import Derived.Test.YtfcgnpphabplbaaGreatDoorMm
set_option linter.unusedVariables false
set_option linter.unusedSimpArgs false
namespace Go.Ak
attribute [local simp] zbN zda zdb zeJ zbh zcO zaE zaX zaP zaY zbg zbv zbw za9 zb2 zc7 zc8 zbT zbU
 zaN zcS wanted zbl opd zjq live zbW zcT zbm zbS zhi put zdE esc zn7 zqD args drop1 zgh zqB zqA zqC zmS rd wr zbH sub AV.cells pack one setCells zet zmt zcV roOf zaL zeW zav zat zdA za6 newRow newObj step zbY zbx contents take flat look lim zd4 bound zdo zdH eqS eqL eqA ver
 zb1 zc6 zc5 zbZ zb0
 List.getElem?_cons_zero List.getElem?_cons_succ zc4 zbd zaB zaC zbX
attribute [local simp] sR sT cV bL mvV mvL mgV mgL asL asI asB ldN ldV ldL ldG stV stL fdL fdV fdG fgL nlC nlG bnI bvI bnL bvL bxI bxU bgI bgL exT lnS lgS clA clB clC clI pkT pkF pvT pvF pgT pgF ixL axV bxV apL
attribute [-simp] getElem?_pos
section
def zpB (J:List Re):AV:=match J with
 | []=> .nils
 | J=> .slc .own (Re.avs J)
theorem zeu:zpB []= .nils:=rfl
theorem zfk {J:List Re} (h:J ≠ []):zpB J= .slc .own (Re.avs J):=by
 cases J with
 | nil=>exact absurd rfl h
 | cons x J=>rfl
theorem ztD {bar:Nat} {k:Int} {a:AV} {l:List Re} (ha:zDE a l) (hw:Re.wideL l) (hlen:(joinL k l).length+l.length<1000000) {H:Heap} :
  ∀ (rest:List Re) (i:Nat) (v:Nat→AV),i≤l.length→l.drop i=rest→v 0= .int .i64 k→v 18=a→v 19=num l.length→v 20=num i→v 5=zpB (joinL k (l.take i)) →
   Wp (evI fsT SA.sp bar (.loop a89l15) (mkE 70643760244403 v,H)) (fun e t=>e= .exit 1∧ ∃ v',t=(mkE 70643760244403 v',H)∧v' 0= .int .i64 k∧v' 4=v 4∧v' 5=zpB (joinL k l)):=by
 have hs:=SA.mono
 intro rest
 induction rest with
 | nil =>
  intro i v hi hr v0 v18 v19 v20 v5
  have hi':i=l.length:=by
   have:=congrArg List.length hr
   rw [List.length_drop] at this;simp at this;omega
  subst hi'
  rw [zah hs a89l15.eq_1]
  simp [zad hs,zaa hs,zab hs,zac hs,zmY,v19,v20]
  exact ⟨_,rfl,by simpa using v0,by simp,by simpa using v5⟩
 | cons x rest ihr =>
  intro i v hi hr v0 v18 v19 v20 v5
  have hi':i<l.length:=by
   have:=congrArg List.length hr
   rw [List.length_drop] at this;simp at this;omega
  have hlt:(i:Int)<(l.length:Int):=by omega
  have hdc:=List.drop_eq_getElem_cons hi'
  rw [hr] at hdc
  obtain ⟨hx,hr'⟩:=List.cons.inj hdc
  have hmem:x∈l:=hx▸List.getElem_mem hi'
  have hxw:=zaG.1 hw x hmem
  obtain ⟨c1,c2,c3,c4,c5,c6,hcs⟩:=Re.av_eight hxw
  have hg:(Re.avs l)[i]? = some (.agg [.int .i64 x.k,c1,c2,c3,c4,c5,c6,rowOf (Re.avs x.l)]):=by rw [zdO hi',←hx,hcs]
  have ha':a= .slc .ro (Re.avs l):=by
   rcases ha with h | ⟨rfl,_⟩
   ·exact h
   ·simp at hi'
  subst ha'
  have htake:l.take (i+1)=l.take i ++ [x]:=by rw [List.take_succ_eq_append_getElem hi',hx]
  have hju:joinL k (l.take (i+1))=joinL k (l.take i)++x.part k:=by rw [htake,zdp];simp [joinL]
  have hsplit:joinL k l=joinL k (l.take (i+1))++joinL k (l.drop (i+1)):=by rw [←zdp,List.take_append_drop]
  have hll:(joinL k (l.take i)).length+(x.part k).length≤(joinL k l).length:=by
   rw [hsplit,hju];simp only [List.length_append];omega
  have hwt:Re.wideL (joinL k (l.take i)):=zeR (zaG.2 fun y hy=>zaG.1 hw y (List.mem_of_mem_take hy))
  have hok:=zdk hwt
  have hw1:IntKind.i64.wrap ((i:Int)+1)=(i:Int)+1:=zak _ (by omega)
  have hgo: ∀ v',v' 0= .int .i64 k→v' 18= .slc .ro (Re.avs l)→v' 19=num l.length→v' 20=num (i+1)→v' 4=v 4→v' 5=zpB (joinL k (l.take (i+1))) →
    Wp (evI fsT SA.sp bar (.loop a89l15) (mkE 70643760244403 v',H)) (fun e t=>e= .exit 1∧ ∃ v',t=(mkE 70643760244403 v',H)∧v' 0= .int .i64 k∧v' 4=v 4∧v' 5=zpB (joinL k l)):=fun v' w0 w18 w19 w20 w4 w5=>by
   rw [←w4]
   exact ihr (i+1) v' (by omega) hr'.symm w0 w18 w19 w20 w5
  rw [hju] at hgo
  have hown: ∀ ys:List Re,ys ≠ []→zpB (joinL k (l.take i)++ys)= .slc .own (Re.avs (joinL k (l.take i))++Re.avs ys):=fun ys hy=>by
   rw [zfk (by simp [hy]),zb6]
  rw [zah hs a89l15.eq_1]
  by_cases hk:x.k=k
  ·have hp:x.part k=x.l:=by simp [Re.part,hk]
   have hok2:zjM 8 (Re.avs x.l)=true:=zdk (by rw [←hp];exact zmb hxw)
   rw [hp] at hll hju hgo
   have hle:((joinL k (l.take i)).length+x.l.length)*8≤4294967296:=by omega
   have hle2:x.l.length*8≤4294967296:=by omega
   have hk1:(x.k==k)=true:=by simp [hk]
   cases hxl:x.l with
   | nil =>
    rw [hxl] at hgo hg
    simp only [List.append_nil] at hgo
    have hrow:rowOf (Re.avs [])= .nils:=rfl
    rw [hrow] at hg
    cases hJ:joinL k (l.take i) with
    | nil =>
     rw [hJ] at v5 hgo
     simp [zad hs,zaa hs,zab hs,zac hs,zmY,zn9,ziN,ziM,ziL,ziK,ziJ,v0,v18,v19,v20,v5,zaq,hi',hlt,hg,hk1,hw1,zeu]
     refine (hgo _ ?_ ?_ ?_ ?_ ?_ ?_).mono fun e t h=>by simpa using h
     all_goals simp [v0,v18,v19,zeu]
    | cons y J =>
     rw [hJ] at v5 hgo hok hle
     rw [zfk (by simp)] at v5 hgo
     rw [hxl] at hle
     simp only [List.length_nil,Nat.add_zero,List.length_cons] at hle
     simp only [Re.avs] at v5 hok hgo
     simp [zad hs,zaa hs,zab hs,zac hs,zmY,zn9,ziN,ziM,ziL,ziK,ziJ,v0,v18,v19,v20,v5,zaq,hi',hlt,hg,hk1,hw1,hok,hle]
     refine (hgo _ ?_ ?_ ?_ ?_ ?_ ?_).mono fun e t h=>by simpa using h
     all_goals simp [v0,v18,v19]
   | cons z zs =>
    have hne:x.l ≠ []:=by rw [hxl];simp
    have hrow:rowOf (Re.avs x.l)= .slc .ro (Re.avs x.l):=by rw [hxl];rfl
    have havs:Re.avs x.l=z.av::Re.avs zs:=by rw [hxl];rfl
    have hz1:(Re.avs zs).length+1=x.l.length:=by rw [zaq,hxl];rfl
    rw [hrow] at hg
    have hown':=hown x.l hne
    rw [hown'] at hgo
    cases hJ:joinL k (l.take i) with
    | nil =>
     rw [hJ] at v5 hgo
     have hle3:(zs.length+1)*8≤4294967296:=by rw [zaq] at hz1;omega
     rw [havs] at hg hok2 hgo
     simp [zad hs,zaa hs,zab hs,zac hs,zmY,zn9,ziN,ziM,ziL,ziK,ziJ,v0,v18,v19,v20,v5,zaq,hi',hlt,hg,hk1,hw1,zeu,hok2,hle3]
     refine (hgo _ ?_ ?_ ?_ ?_ ?_ ?_).mono fun e t h=>by simpa using h
     all_goals simp [v0,v18,v19,Re.avs]
    | cons y J =>
     rw [hJ] at v5 hgo hok hle
     rw [zfk (by simp)] at v5
     have hle3:(J.length+1+(zs.length+1))*8≤4294967296:=by rw [zaq] at hz1;simp only [List.length_cons] at hle;omega
     rw [havs] at hg hok2 hgo
     simp only [Re.avs] at v5 hok hgo
     simp [zad hs,zaa hs,zab hs,zac hs,zmY,zn9,ziN,ziM,ziL,ziK,ziJ,v0,v18,v19,v20,v5,zaq,hi',hlt,hg,hk1,hw1,hok,hok2,hle3]
     refine (hgo _ ?_ ?_ ?_ ?_ ?_ ?_).mono fun e t h=>by simpa using h
     all_goals simp [v0,v18,v19]
  ·have hk':(x.k==k)=false:=by simpa using hk
   -- x itself, or nothing
   by_cases hskip:x.k=0∧k≠5
   ·have h0':(x.k != 0)=false:=by simp [hskip.1]
    have h5':(k==5)=false:=by simpa using hskip.2
    have hp:x.part k= []:=by unfold Re.part;rw [if_neg hk,if_neg (by omega)]
    rw [hp,List.append_nil] at hgo
    simp [zad hs,zaa hs,zab hs,zac hs,zmY,zn9,ziN,ziM,ziL,ziK,ziJ,v0,v18,v19,v20,zaq,hi',hlt,hg,hk',h0',h5',hw1]
    refine (hgo _ ?_ ?_ ?_ ?_ ?_ ?_).mono fun e t h=>by simpa using h
    all_goals simp [v0,v18,v19,v5]
   ·have hp:x.part k= [x]:=by unfold Re.part;rw [if_neg hk,if_pos (by omega)]
    rw [hp] at hll hgo
    rw [hown [x] (by simp)] at hgo
    simp only [Re.avs,hcs] at hgo
    have hle:((joinL k (l.take i)).length+1)*8≤4294967296:=by simp only [List.length_cons,List.length_nil] at hll;omega
    have hcond:(x.k != 0)=true∨((x.k != 0)=false∧(k==5)=true):=by
     by_cases h0:x.k=0
     ·exact .inr ⟨by simp [h0],by simp;omega⟩
     ·exact .inl (by simpa using h0)
    cases hJ:joinL k (l.take i) with
    | nil =>
     rw [hJ] at v5 hgo
     rcases hcond with h0' | ⟨h0',h5'⟩
     ·simp [zad hs,zaa hs,zab hs,zac hs,zmY,zn9,ziN,ziM,ziL,ziK,ziJ,v0,v18,v19,v20,v5,zaq,hi',hlt,hg,hk',h0',hw1,zeu]
      refine (hgo _ ?_ ?_ ?_ ?_ ?_ ?_).mono fun e t h=>by simpa using h
      all_goals simp [v0,v18,v19,Re.avs]
     ·simp [zad hs,zaa hs,zab hs,zac hs,zmY,zn9,ziN,ziM,ziL,ziK,ziJ,v0,v18,v19,v20,v5,zaq,hi',hlt,hg,hk',h0',h5',hw1,zeu]
      refine (hgo _ ?_ ?_ ?_ ?_ ?_ ?_).mono fun e t h=>by simpa using h
      all_goals simp [v0,v18,v19,Re.avs]
    | cons y J =>
     rw [hJ] at v5 hgo hok hle
     rw [zfk (by simp)] at v5
     simp only [Re.avs] at v5 hok hgo
     simp only [List.length_cons] at hle
     rcases hcond with h0' | ⟨h0',h5'⟩
     ·simp [zad hs,zaa hs,zab hs,zac hs,zmY,zn9,ziN,ziM,ziL,ziK,ziJ,v0,v18,v19,v20,v5,zaq,hi',hlt,hg,hk',h0',hw1,hok,hle]
      refine (hgo _ ?_ ?_ ?_ ?_ ?_ ?_).mono fun e t h=>by simpa using h
      all_goals simp [v0,v18,v19]
     ·simp [zad hs,zaa hs,zab hs,zac hs,zmY,zn9,ziN,ziM,ziL,ziK,ziJ,v0,v18,v19,v20,v5,zaq,hi',hlt,hg,hk',h0',h5',hw1,hok,hle]
      refine (hgo _ ?_ ?_ ?_ ?_ ?_ ?_).mono fun e t h=>by simpa using h
      all_goals simp [v0,v18,v19]
theorem zpV {a:AV} {l:List Re} (ha:zDE a l) (k:Int):zcI [.int .i64 k,a]=true:=by
 rcases ha with rfl | ⟨rfl,rfl⟩
 ·simp [zcI,clo,zl9]
 ·simp [zcI,clo]
theorem zmA {bar:Nat} {H:Heap} {k:Int} {a:AV} (ha:zDE a []):Rn fsT SA.sp bar 89 [.int .i64 k,a] H=some (.ret emptyRe.av,H):=by
 have hs:=SA.mono
 have hres:=zhx 0 [] emptyRe
 simp only [emptyRe,Re.av,zb3,Re.avs,rowOf,List.map_cons,List.map_nil,List.cons_append,List.nil_append] at hres
 have ha':a= .slc .ro []∨a= .nils:=by
  rcases ha with h | ⟨_,h⟩
  ·exact .inl h
  ·exact .inr h
 refine zan hs zyA rfl (zpV ha k) rfl ?_
 rw [zGJ]
 rcases ha' with rfl | rfl
 all_goals
  simp [zCF,zCE,zCD,zCC,a89,zad hs,zaa hs,zab hs,zac hs,emptyRe,Re.av,zb3,Re.avs,rowOf]
  exact hres
theorem zoE {bar:Nat} {H:Heap} {k:Int} {x:Re} (hx:x.wide):Rn fsT SA.sp bar 89 [.int .i64 k, .slc .ro [x.av]] H=some (.ret x.av,H):=by
 have hs:=SA.mono
 have hres:=zhx 0 [] x
 obtain ⟨c1,c2,c3,c4,c5,c6,hcs⟩:=Re.av_eight hx
 rw [hcs] at hres
 refine zan hs zyA rfl (zpV (l:= [x]) (.inl rfl) k) rfl ?_
 rw [zGJ]
 simp [zCF,zCE,zCD,zCC,zG8,zG7,a89,zad hs,zaa hs,zab hs,zac hs,hcs]
 exact hres
theorem zwJ {bar:Nat} {H:Heap} {k:Int} {a:AV} {l:List Re} (ha:zDE a l) (hw:Re.wideL l) (hlen:(joinL k l).length+l.length<1000000) (hone: ∀ x,l= [x]→zaW k l=x):Rn fsT SA.sp bar 89 [.int .i64 k,a] H=some (.ret (zaW k l).av,H):=by
 have hs:=SA.mono
 match l,ha,hw,hlen,hone with
 | [],ha,_,_,_=>exact zmA ha
 | [x],ha,hw,_,hone =>
  rcases ha with rfl | ⟨h,_⟩
  ·rw [hone x rfl];exact zoE (by simpa [Re.wideL] using hw)
  ·simp at h
 | x::y::t,ha,hw,hlen,_ =>
  have ha':a= .slc .ro (Re.avs (x::y::t)):=by
   rcases ha with h | ⟨h,_⟩
   ·exact h
   ·simp at h
  have hl:((Re.avs (x::y::t)).length:Int)=(t.length:Int)+1+1:=by simp [zaq]
  have hl0:((t.length:Int)+1+1==0)=false:=by simp;omega
  have hl1:((t.length:Int)+1+1==1)=false:=by simp;omega
  have hw2:=zeR (k:=k) hw
  refine zan hs zyA rfl (zpV ha k) rfl ?_
  rw [zGJ]
  subst ha'
  simp only [Re.avs] at hl ⊢
  simp [zCF,zCE,zCD,zCC,zG8,zG7,zKP,zKO,a89,zad hs,zaa hs,zab hs,zac hs,zaq,hl0,hl1]
  refine (ztD (bar:=0) (a:= .slc .ro (Re.avs (x::y::t))) (k:=k) (.inl rfl) hw hlen (x::y::t) 0 _ (by simp) rfl ?_ ?_ ?_ ?_ ?_).mono fun e t' h=> ?_
  ·simp
  ·simp [Re.avs]
  ·simp
  ·simp
  ·simp [joinL,zeu]
  ·obtain ⟨rfl,v',rfl,w0,w4,w5⟩:=h
   simp at w4
   unfold zaW
   generalize joinL k (x::y::t)=J at w5 hw2
   match J,w5,hw2 with
   | [],w5,hw2 =>
    have h1:=zmA (bar:=0) (H:= []) (k:=k) (a:= .nils) (.inr ⟨rfl,rfl⟩)
    have hres:=zhx 0 [] emptyRe
    simp only [emptyRe,Re.av,zb3,Re.avs,rowOf,List.map_cons,List.map_nil,List.cons_append,List.nil_append] at h1 hres
    rw [zeu] at w5
    simp [zvu,zvt,zvs,zad hs,zaa hs,zac hs,w0,w4,w5,h1,oneOf,emptyRe,Re.av,zb3,rowOf,Re.avs]
    exact hres
   | [z],w5,hw2 =>
    have hz:z.wide:=by simpa [Re.wideL] using hw2
    have h1:=zoE (bar:=0) (H:= []) (k:=k) hz
    have hres:=zhx 0 [] z
    obtain ⟨c1,c2,c3,c4,c5,c6,hcs⟩:=Re.av_eight hz
    rw [hcs] at h1 hres
    rw [zfk (by simp)] at w5
    simp only [Re.avs,hcs] at w5
    simp [zvu,zvt,zvs,zad hs,zaa hs,zac hs,w0,w4,w5,h1,oneOf,hcs]
    exact hres
   | z1::z2::J,w5,hw2 =>
    have hres:=zhx 0 [] (oneOf k (z1::z2::J))
    simp only [oneOf,Re.av,zb3,rowOf,Re.avs,List.map_cons,List.map_nil,List.cons_append,List.nil_append] at hres
    have hl2: ¬ ((J.length:Int)+1+1<2):=by omega
    have htk:List.take J.length (Re.avs J)=Re.avs J:=List.take_of_length_le (by simp [zaq])
    rw [zfk (by simp)] at w5
    simp only [Re.avs] at w5
    simp [zvu,zvt,zvs,zad hs,zaa hs,zac hs,w0,w4,w5,oneOf,hl2,zaq,htk,Re.av,zb3,rowOf,Re.avs]
    exact hres
theorem zyx {k:Int} (hk:k=4∨k=5) {x:Re} (h:x.plain):zaW k [x]=x:=by
 unfold zaW joinL
 simp only [List.flatMap_cons,List.flatMap_nil,List.append_nil]
 unfold Re.part
 by_cases e:x.k=k
 ·rw [if_pos e]
  have h2:x= .mk k zb3 0 0 x.l∧2≤x.l.length:=by
   rcases hk with rfl | rfl
   ·exact h.2.1 e
   ·exact h.2.2 e
  obtain ⟨h3,h4⟩:=h2
  match hl:x.l,h4 with
  | a::b::t,_ =>
   show Re.mk k zb3 0 0 (a::b::t)=x
   rw [←hl];exact h3.symm
 ·rw [if_neg e]
  split
  ·rfl
  ·rename_i h5
   have:x.k=0:=by omega
   exact (h.1 this).symm
end
section
theorem zhs {bar:Nat} {H:Heap} {r:Nat} {s:List UInt8} {i:Nat} (h:Rd H r s i) (hi:i≤s.length) (hc:s[i]? = none):Rn fsT SA.sp bar 98 [.ptr r 0] H=some (.ret (.tup [.int .u8 0, .bool false]),H):=by
 have hs:=SA.mono
 have e:i=s.length:=by have:=List.getElem?_eq_none_iff.1 hc;omega
 unfold Rd at h
 refine zeN hs zDL rfl rfl rfl ?_
 rw [zJh]
 simp [a98,zG1,zG3,zG0,zG2,zad hs,zaa hs,zai hs,zac hs,h,e,frz,zbG]
theorem zeX {bar:Nat} {H:Heap} {r:Nat} {s:List UInt8} {i:Nat} {c:UInt8} (h:Rd H r s i) (hc:s[i]? = some c):Rn fsT SA.sp bar 98 [.ptr r 0] H=some (.ret (.tup [.int .u8 c.toNat, .bool true]),H):=by
 have hs:=SA.mono
 have hlt:=zaT hc
 have e:((i:Int)==(s.length:Int))=false:=by simp;omega
 have e2: ¬ i=s.length:=by omega
 unfold Rd at h
 refine zeN hs zDL rfl rfl rfl ?_
 rw [zJh]
 simp [a98,zG1,zG3,zG0,zG2,zad hs,zaa hs,zai hs,zac hs,h,e,e2,hc,frz,zbG]
theorem zgs {bar:Nat} {H:Heap} {r:Nat} {s:List UInt8} {i:Nat} {c:UInt8} (h:Rd H r s i) (hb:bar≤r) (hl:s.length≤1000000) (hc:s[i]? = some c):Rn fsT SA.sp bar 88 [.ptr r 0, .int .u8 c.toNat] H=some (.ret (.bool true),H.set r (some [.str s,num (i+1)])):=by
 have hs:=SA.mono
 have hlt:=zaT hc
 have hw:IntKind.i64.wrap ((i:Int)+1)=(i:Int)+1:=zak _ (by omega)
 have hp:=zeX (bar:=bar) h hc
 have hrl:=zau h
 unfold Rd at h
 refine znX.1 (zbf hs zDO rfl rfl ?_)
 rw [zJk]
 simp [a88,zCL,zCK,zCJ,zCI,zCH,zCG,zad hs,zaa hs,zai hs,zac hs,zab hs,h,hp,hw,hb]
 rfl
theorem ziX {bar:Nat} {H:Heap} {r:Nat} {s:List UInt8} {i:Nat} {c:UInt8} (h:Rd H r s i) (hi:i≤s.length) (hc:s[i]? ≠ some c):Rn fsT SA.sp bar 88 [.ptr r 0, .int .u8 c.toNat] H=some (.ret (.bool false),H):=by
 have hs:=SA.mono
 refine znX.1 (zbf hs zDO rfl rfl ?_)
 rw [zJk]
 cases hd:s[i]? with
 | none =>
  have hp:=zhs (bar:=bar) h hi hd
  simp [a88,zCL,zCK,zCJ,zCI,zCH,zCG,zad hs,zaa hs,zai hs,zac hs,zab hs,hp]
 | some d =>
  have hp:=zeX (bar:=bar) h hd
  have hne: ¬ d=c:=fun e=>hc (by rw [hd,e])
  have e:((d.toNat:Int)==(c.toNat:Int))=false:=by
   have: ¬ d.toNat=c.toNat:=fun e=>hne (UInt8.toNat_inj.1 e)
   simp;omega
  have e2: ¬ d.toNat=c.toNat:=fun e=>hne (UInt8.toNat_inj.1 e)
  simp [a88,zCL,zCK,zCJ,zCI,zCH,zCG,zad hs,zaa hs,zai hs,zac hs,zab hs,hp,e,e2]
def zjv (a w:Nat):AV:= .ifc 1 (.agg [num a,num w])
theorem zpP {bar:Nat} {H:Heap} {r a w:Nat} (h:r<H.length):Rn fsT SA.sp bar 113 [.ptr r 0,num a,num w] H=some (.pan (zjv a w),H):=by
 have hs:=SA.mono
 refine znX.1 ((zvY (Q:=fun o=>o= .pan (zjv a w)) hs zGv rfl rfl rfl ?_).mono fun o K h=>h)
 rw [zJP]
 simp [a113,zFb,zad hs,zaa hs,frz,zbG,zjv]
theorem zgu {c:UInt8}:(c<48)↔((c.toNat:Int)<48):=by rw [UInt8.lt_iff_toNat_lt];simp;omega
theorem ziw {c:UInt8}:(57<c)↔((57:Int)<(c.toNat:Int)):=by rw [UInt8.lt_iff_toNat_lt];simp;omega
theorem zoy {bar:Nat} {H:Heap} {r:Nat} {s:List UInt8} {i:Nat} (h:Rd H r s i) (hb:bar≤r) (hi:i≤s.length) (hl:s.length≤1000000) :
  Rn fsT SA.sp bar 118 [.ptr r 0] H=some (.ret (.tup [num (zeU s i).1, .bool (zcW (zeU s i))]),H.set r (some [.str s,num (i+(zeU s i).2)])):=by
 have hs:=SA.mono
 have hrl:=zau h
 have h0:=zes h
 have hw:IntKind.i64.wrap ((i:Int)+1)=(i:Int)+1:=zak _ (by omega)
 have hw2:IntKind.i64.wrap ((i:Int)+1+1)=(i:Int)+1+1:=zak _ (by omega)
 have w00:IntKind.i64.wrap 0=0:=by decide
 have w1:IntKind.i64.wrap 1=1:=by decide
 have w2:IntKind.i64.wrap 2=2:=by decide
 have h':=h
 unfold Rd at h'
 -- the end: the number told
 refine znX.1 (zbf hs zGq rfl rfl ?_)
 rw [zJK]
 simp [a118,zE6,zE5,zad hs,zaa hs,zab hs]
 rw [zah hs a118l8.eq_1]
 cases hc:s[i]? with
 | none =>
  have hp:=zhs (bar:=bar) h hi hc
  have e:zeU s i=(0,0):=by simp [zeU,hc]
  simp [zad hs,zaa hs,zab hs,zac hs,zf7,zhf,zhe,zhd,zhc,zhb,zlD,hp,e,zcW,h0]
 | some c =>
  have hp:=zeX (bar:=bar) h hc
  have hlt:=zaT hc
  have hcl:=c.toNat_lt
  by_cases hd1:c<48
  ·have e:zeU s i=(0,0):=by simp [zeU,hc,hd1]
   have hd1':=zgu.1 hd1
   simp [zad hs,zaa hs,zab hs,zac hs,zf7,zhf,zhe,zhd,zhc,zhb,zlD,hp,e,zcW,h0,hd1']
  ·have hd1': ¬ ((c.toNat:Int)<48):=fun e=>hd1 (zgu.2 e)
   by_cases hd2:57<c
   ·have e:zeU s i=(0,0):=by simp [zeU,hc,hd2]
    have hd2':=ziw.1 hd2
    simp [zad hs,zaa hs,zab hs,zac hs,zf7,zhf,zhe,zhd,zhc,zhb,zlD,hp,e,zcW,h0,hd1',hd2']
   ·have hd2': ¬ ((57:Int)<(c.toNat:Int)):=fun e=>hd2 (ziw.2 e)
    have ws:IntKind.u8.wrap ((c.toNat:Int)-48)=(c.toNat:Int)-48:=by
     have:(c.toNat:Int)-48=((c.toNat-48:Nat):Int):=by omega
     rw [this];exact zvi _ (by omega) _ rfl
    have wc:IntKind.i64.wrap ((c.toNat:Int)-48)=(c.toNat:Int)-48:=zak _ (by omega)
    have hR:=h.set (i+1)
    have hn1:num (i+1)= .int .i64 ((i:Int)+1):=rfl
    have hR':=hR
    unfold Rd at hR'
    rw [hn1] at hR'
    cases hd:s[i+1]? with
    | none =>
     have hp2:=zhs (bar:=bar) hR (by omega) hd
     rw [hn1] at hp2
     have e:zeU s i=(c.toNat-48,1):=by simp [zeU,hc,hd1,hd2,hd]
     have e2:(((c.toNat-48:Nat)):Int)=(c.toNat:Int)-48:=by omega
     simp [zad hs,zaa hs,zab hs,zac hs,zf7,zhf,zhe,zhd,zhc,zhb,hp,h',hd1',hd2',ws,wc,w00,w1,hw,hb,hrl,zae]
     rw [zah hs a118l8.eq_1]
     simp [zad hs,zaa hs,zab hs,zac hs,zf7,zhf,zhe,zhd,zhc,zhb,zlD,hp2,e,zcW,e2]
     exact ⟨by omega,rfl⟩
    | some d =>
     have hlt2:=zaT hd
     have hdl:=d.toNat_lt
     have hp2:=zeX (bar:=bar) hR hd
     rw [hn1] at hp2
     have e2:(((c.toNat-48:Nat)):Int)=(c.toNat:Int)-48:=by omega
     by_cases he1:d<48
     ·have e:zeU s i=(c.toNat-48,1):=by simp [zeU,hc,hd1,hd2,hd,he1]
      have he1':=zgu.1 he1
      simp [zad hs,zaa hs,zab hs,zac hs,zf7,zhf,zhe,zhd,zhc,zhb,hp,h',hd1',hd2',ws,wc,w00,w1,hw,hb,hrl,zae]
      rw [zah hs a118l8.eq_1]
      simp [zad hs,zaa hs,zab hs,zac hs,zf7,zhf,zhe,zhd,zhc,zhb,zlD,hp2,e,zcW,e2,he1']
      exact ⟨by omega,rfl⟩
     ·have he1': ¬ ((d.toNat:Int)<48):=fun e=>he1 (zgu.2 e)
      by_cases he2:57<d
      ·have e:zeU s i=(c.toNat-48,1):=by simp [zeU,hc,hd1,hd2,hd,he2]
       have he2':=ziw.1 he2
       simp [zad hs,zaa hs,zab hs,zac hs,zf7,zhf,zhe,zhd,zhc,zhb,hp,h',hd1',hd2',ws,wc,w00,w1,hw,hb,hrl,zae]
       rw [zah hs a118l8.eq_1]
       simp [zad hs,zaa hs,zab hs,zac hs,zf7,zhf,zhe,zhd,zhc,zhb,zlD,hp2,e,zcW,e2,he1',he2']
       exact ⟨by omega,rfl⟩
      ·have he2': ¬ ((57:Int)<(d.toNat:Int)):=fun e=>he2 (ziw.2 e)
       have e:zeU s i=(10*(c.toNat-48)+(d.toNat-48),2):=by simp [zeU,hc,hd1,hd2,hd,he1,he2]
       have ws2:IntKind.u8.wrap ((d.toNat:Int)-48)=(d.toNat:Int)-48:=by
        have:(d.toNat:Int)-48=((d.toNat-48:Nat):Int):=by omega
        rw [this];exact zvi _ (by omega) _ rfl
       have wc2:IntKind.i64.wrap ((d.toNat:Int)-48)=(d.toNat:Int)-48:=zak _ (by omega)
       have wm:IntKind.i64.wrap (10*((c.toNat:Int)-48))=10*((c.toNat:Int)-48):=zak _ (by omega)
       have wa:IntKind.i64.wrap (10*((c.toNat:Int)-48)+((d.toNat:Int)-48))=10*((c.toNat:Int)-48)+((d.toNat:Int)-48):=zak _ (by omega)
       have e3:num (10*(c.toNat-48)+(d.toNat-48))= .int .i64 (10*((c.toNat:Int)-48)+((d.toNat:Int)-48)):=by simp [num];omega
       have e4:num (i+2)= .int .i64 ((i:Int)+1+1):=by simp [num];omega
       have hset:(H.set r (some [.str s, .int .i64 ((i:Int)+1)])).set r (some [.str s, .int .i64 ((i:Int)+1+1)])=H.set r (some [.str s, .int .i64 ((i:Int)+1+1)]):=List.set_set ..
       rw [e,e3,e4]
       simp [zad hs,zaa hs,zab hs,zac hs,zf7,zhf,zhe,zhd,zhc,zhb,hp,h',hd1',hd2',ws,wc,w00,w1,hw,hb,hrl,zae]
       rw [zah hs a118l8.eq_1]
       simp [zad hs,zaa hs,zab hs,zac hs,zf7,zhf,zhe,zhd,zhc,zhb,hp2,he1',he2',ws2,wc2,wm,wa,w2,hw2,hb,hrl,zae,hset]
       rw [zah hs a118l8.eq_1]
       simp [zad hs,zaa hs,zab hs,zac hs,zf7,zlD,zcW]
       omega
theorem zyi {bar:Nat} {H:Heap} (c:UInt8):Rn fsT SA.sp bar 117 [.int .u8 c.toNat] H=some (.ret (zjy (zal c c)).av,H):=by
 have hs:=SA.mono
 have h:=zH2 (bar:=0) (H:= []) noB c c
 rw [zvd] at h
 rw [zcM,zcM] at h
 have hz: ∀ i,zaK noB i 64=0:=fun i=>by
  have:=zFt
  unfold zDC zb3 at this
  apply Nat.eq_of_testBit_eq
  intro j;rw [za5];simp [noB]
 simp only [hz] at h
 replace h:Rn fsT SA.sp 0 128 [.agg [.int .u64 0, .int .u64 0, .int .u64 0, .int .u64 0], .int .u8 c.toNat, .int .u8 c.toNat] []=some (.ret (.agg [u64 (zaK (zal c c) 0 64),u64 (zaK (zal c c) 1 64),u64 (zaK (zal c c) 2 64),u64 (zaK (zal c c) 3 64)]),[]):=h
 have hres:=zhx 0 [] (zjy (zal c c))
 have hav:(zjy (zal c c)).av= .agg [.int .i64 1,u64 (zaK (zal c c) 0 64),u64 (zaK (zal c c) 1 64),u64 (zaK (zal c c) 2 64),u64 (zaK (zal c c) 3 64), .int .i64 0, .int .i64 0, .nils]:=rfl
 rw [hav] at hres ⊢
 refine zan hs zGr rfl rfl rfl ?_
 rw [zJL]
 simp [a117,zE8,zE7,zad hs,zaa hs,h]
 exact hres
def zib {α:Type} (s:List UInt8) (r:Nat) (H:Heap) (f:α→AV) (x:PR α) (o:Out) (H':Heap):Prop :=
 match x with
 | .er a w=>o= .pan (zjv a w)∧ ∃ j:Nat,H'=H.set r (some [.str s,num j])
 | .ok a j=>o= .ret (f a)∧H'=H.set r (some [.str s,num j])
theorem zaV {α:Type} (s:List UInt8) (r:Nat) (H:Heap) (f:α→AV) (a w:Nat):zib s r H f (.er a w)=fun o H'=>o= .pan (zjv a w)∧ ∃ j:Nat,H'=H.set r (some [.str s,num j]):=rfl
theorem zbo {α:Type} (s:List UInt8) (r:Nat) (H:Heap) (f:α→AV) (a:α) (j:Nat):zib s r H f (.ok a j)=fun o H'=>o= .ret (f a)∧H'=H.set r (some [.str s,num j]):=rfl
def zsO (s:List UInt8) (i:Nat):PR UInt8:=match s[i]? with
 | none=> .er i 3
 | some d=> .ok (zc1 d) (i+1)
theorem zv8 {bar:Nat} {H:Heap} {r:Nat} {s:List UInt8} {i:Nat} (h:Rd H r s i) (hb:bar≤r) (hi:i≤s.length) (hl:s.length≤1000000):Wc (Rn fsT SA.sp bar 116 [.ptr r 0] H) (zib s r H (fun c:UInt8=> .int .u8 c.toNat) (zsO s i)):=by
 have hs:=SA.mono
 have hrl:=zau h
 have hw:IntKind.i64.wrap ((i:Int)+1)=(i:Int)+1:=zak _ (by omega)
 have h':=h
 unfold Rd at h'
 refine zbf hs zGs rfl rfl ?_
 rw [zJM]
 unfold zsO
 cases hd:s[i]? with
 | none =>
  have hp:=zhs (bar:=bar) h hi hd
  have hf:=zpP (bar:=bar) (a:=i) (w:=3) hrl
  simp only [num,Int.cast_ofNat_Int] at hf
  rw [zaV]
  simp [a116,zsy,zsx,zsw,zsv,zsu,zst,zss,zsr,zsq,zsp,znB,zad hs,zaa hs,zai hs,zac hs,zab hs,h',hp,hf]
  exact ⟨i,(zes h).symm⟩
 | some d =>
  have hp:=zeX (bar:=bar) h hd
  rw [zbo]
  have d110:((d.toNat:Int)==110)=decide (d=110):=by
   by_cases q:d=110
   ·subst q;rfl
   ·have: ¬ d.toNat=110:=fun e=>q (UInt8.toNat_inj.1 (by simpa using e))
    simp [q];omega
  have d116:((d.toNat:Int)==116)=decide (d=116):=by
   by_cases q:d=116
   ·subst q;rfl
   ·have: ¬ d.toNat=116:=fun e=>q (UInt8.toNat_inj.1 (by simpa using e))
    simp [q];omega
  by_cases q1:d=110
  ·subst q1
   simp [a116,zsy,zsx,zsw,zsv,zsu,zst,zss,zsr,zsq,zsp,znB,zad hs,zaa hs,zai hs,zac hs,zab hs,h',hp,hw,hb,zc1]
   rfl
  ·by_cases q2:d=116
   ·subst q2
    simp [a116,zsy,zsx,zsw,zsv,zsu,zst,zss,zsr,zsq,zsp,znB,zad hs,zaa hs,zai hs,zac hs,zab hs,h',hp,hw,hb,zc1]
    rfl
   ·simp only [q1,q2,decide_false] at d110 d116
    simp [a116,zsy,zsx,zsw,zsv,zsu,zst,zss,zsr,zsq,zsp,znB,zad hs,zaa hs,zai hs,zac hs,zab hs,h',hp,hw,hb,zc1,q1,q2,d110,d116]
    rfl
end
section
def zxy (s:List UInt8) (at' i:Nat):PR (Nat×Int):=match zeG s i with
 | none=> .er at' 50
 | some (mn,mx,j)=> .ok (mn,mx) j
theorem zxx {bar:Nat} {H:Heap} {r:Nat} {s:List UInt8} {i at':Nat} (h:Rd H r s i) (hb:bar≤r) (hi:i≤s.length) (hl:s.length≤1000000) :
  Wc (Rn fsT SA.sp bar 106 [.ptr r 0,num at'] H) (zib s r H (fun x:Nat×Int=> .tup [num x.1, .int .i64 x.2]) (zxy s at' i)):=by
 have hs:=SA.mono
 have hrl:=zau h
 have hn:=zoy (bar:=bar) h hb hi hl
 have hpl:=zeT (s:=s) i hi
 unfold zxy zeG
 simp only
 generalize ha:zeU s i=a at hn hpl
 have hR:=h.set (i+a.2)
 have hf: ∀ H:Heap,r<H.length→Rn fsT SA.sp bar 113 [.ptr r 0,num at', .int .i64 50] H=some (.pan (zjv at' 50),H):=fun H hr=>by
  have:=zpP (bar:=bar) (H:=H) (a:=at') (w:=50) hr
  simpa only [num,Int.cast_ofNat_Int] using this
 have c44:(.int .u8 44:AV)= .int .u8 (44:UInt8).toNat:=rfl
 have c125:(.int .u8 125:AV)= .int .u8 (125:UInt8).toNat:=rfl
 refine zbf hs zGA rfl rfl ?_
 rw [zJU]
 by_cases hcomma:zcW a=true∧s[i+a.2]? = some 44
 ·obtain ⟨hok,hcm⟩:=hcomma
  rw [if_pos ⟨hok,hcm⟩]
  have hlt:=zaT hcm
  have g1:=zgs (bar:=bar) hR hb hl hcm
  simp only [List.set_set] at g1
  rw [←c44] at g1
  have hR2:=h.set (i+a.2+1)
  rw [hok] at hn
  by_cases hbr:s[i+a.2+1]? = some 125
  ·rw [if_pos hbr,zbo]
   have g2:=zgs (bar:=bar) hR2 hb hl hbr
   simp only [List.set_set] at g2
   rw [←c125] at g2
   simp [a106,zkO,zkN,zkM,zkL,zkK,zkJ,zkI,zkH,zkG,zkF,zad hs,zaa hs,zai hs,zac hs,zab hs,hn,g1,g2]
  ·rw [if_neg hbr]
   have g2:=ziX (bar:=bar) hR2 (by omega) hbr
   rw [←c125] at g2
   have hn2:=zoy (bar:=bar) hR2 hb (by omega) hl
   have hpl2:=zeT (s:=s) (i+a.2+1) (by omega)
   simp only [List.set_set] at hn2
   generalize hb2:zeU s (i+a.2+1)=b at hn2 hpl2
   have hR3:=h.set (i+a.2+1+b.2)
   by_cases hall:zcW b=true∧a.1≤b.1∧s[i+a.2+1+b.2]? = some 125
   ·obtain ⟨k1,k2,k3⟩:=hall
    rw [if_pos ⟨k1,k2,k3⟩,zbo]
    have g3:=zgs (bar:=bar) hR3 hb hl k3
    simp only [List.set_set] at g3
    rw [←c125] at g3
    rw [k1] at hn2
    have k2': ¬ ((b.1:Int)<(a.1:Int)):=by omega
    simp [a106,zkO,zkN,zkM,zkL,zkK,zkJ,zkI,zkH,zkG,zkF,zad hs,zaa hs,zai hs,zac hs,zab hs,hn,g1,g2,hn2,g3,k2']
   ·rw [if_neg hall,zaV]
    by_cases k1:zcW b=true
    ·rw [k1] at hn2
     by_cases k2:a.1≤b.1
     ·have k2': ¬ ((b.1:Int)<(a.1:Int)):=by omega
      have k3: ¬ s[i+a.2+1+b.2]? = some 125:=fun e=>hall ⟨k1,k2,e⟩
      have g3:=ziX (bar:=bar) hR3 (by omega) k3
      rw [←c125] at g3
      have hf3:=hf _ (zau hR3)
      simp [a106,zkO,zkN,zkM,zkL,zkK,zkJ,zkI,zkH,zkG,zkF,zad hs,zaa hs,zai hs,zac hs,zab hs,hn,g1,g2,hn2,g3,k2',hf3]
      exact ⟨_,rfl⟩
     ·have k2':((b.1:Int)<(a.1:Int)):=by omega
      have hf3:=hf _ (zau hR3)
      simp [a106,zkO,zkN,zkM,zkL,zkK,zkJ,zkI,zkH,zkG,zkF,zad hs,zaa hs,zai hs,zac hs,zab hs,hn,g1,g2,hn2,k2',hf3]
      exact ⟨_,rfl⟩
    ·have k1':zcW b=false:=by simpa using k1
     rw [k1'] at hn2
     have hf3:=hf _ (zau hR3)
     simp [a106,zkO,zkN,zkM,zkL,zkK,zkJ,zkI,zkH,zkG,zkF,zad hs,zaa hs,zai hs,zac hs,zab hs,hn,g1,g2,hn2,hf3]
     exact ⟨_,rfl⟩
 ·rw [if_neg hcomma]
  have hirr: ¬ ((a.1:Int)<(a.1:Int)):=by omega
  by_cases hok:zcW a=true
  ·have hcm: ¬ s[i+a.2]? = some 44:=fun e=>hcomma ⟨hok,e⟩
   have g1:=ziX (bar:=bar) hR (by omega) hcm
   rw [←c44] at g1
   rw [hok] at hn
   by_cases hbr:s[i+a.2]? = some 125
   ·rw [if_pos ⟨hok,hbr⟩,zbo]
    have g2:=zgs (bar:=bar) hR hb hl hbr
    simp only [List.set_set] at g2
    rw [←c125] at g2
    simp [a106,zkO,zkN,zkM,zkL,zkK,zkJ,zkI,zkH,zkG,zkF,zad hs,zaa hs,zai hs,zac hs,zab hs,hn,g1,g2]
   ·rw [if_neg (fun e=>hbr e.2),zaV]
    have g2:=ziX (bar:=bar) hR (by omega) hbr
    rw [←c125] at g2
    have hf2:=hf _ (zau hR)
    simp [a106,zkO,zkN,zkM,zkL,zkK,zkJ,zkI,zkH,zkG,zkF,zad hs,zaa hs,zai hs,zac hs,zab hs,hn,g1,g2,hf2]
    exact ⟨_,rfl⟩
  ·have hok':zcW a=false:=by simpa using hok
   rw [if_neg (fun e=>hok e.1),zaV]
   rw [hok'] at hn
   have hf2:=hf _ (zau hR)
   simp [a106,zkO,zkN,zkM,zkL,zkK,zkJ,zkI,zkH,zkG,zkF,zad hs,zaa hs,zai hs,zac hs,zab hs,hn,hf2]
   exact ⟨_,rfl⟩
end
section
def zDG (s:List UInt8) (n i deep:Nat):PR Re:=match zbP s n i deep with
 | .er a w=> .er a w
 | .ok ls j=> .ok (zaW 5 ls) j
def zxl (s:List UInt8) (n:Nat):Prop:= ∀ (bar:Nat) (H:Heap) (r i deep:Nat),Rd H r s i→bar≤r→i≤s.length→3*(s.length+1-i)≤n→deep≤20 →
 Wc (Rn fsT SA.sp bar 86 [.ptr r 0,num deep] H) (zib s r H Re.av (zDG s n i deep))
theorem zdB {c:UInt8} (k:UInt8) (h: ¬ c=k):((c.toNat:Int)==(k.toNat:Int))=false:=by
 have: ¬ c.toNat=k.toNat:=fun e=>h (UInt8.toNat_inj.1 e)
 simp;omega
theorem zdi (p:Nat→Bool):(zjy p).av= .agg [.int .i64 1,u64 (zaK p 0 64),u64 (zaK p 1 64),u64 (zaK p 2 64),u64 (zaK p 3 64), .int .i64 0, .int .i64 0, .nils]:=rfl
theorem zjJ (k:Int):(zys k).av= .agg [.int .i64 k, .int .u64 0, .int .u64 0, .int .u64 0, .int .u64 0, .int .i64 0, .int .i64 0, .nils]:=rfl
set_option maxHeartbeats 1000000 in
theorem zCq {s:List UInt8} {n:Nat} (hs':s.length≤400) (hC:zxl s n) {bar:Nat} {H:Heap} {r i deep:Nat} (h:Rd H r s i) (hb:bar≤r) (hi:i<s.length) (hf:3*(s.length+1-i)≤n+3) (hd:deep≤20) :
  Wc (Rn fsT SA.sp bar 105 [.ptr r 0,num deep] H) (zib s r H Re.av (zlk s (n+1) i deep)):=by
 have hs:=SA.mono
 have hrl:=zau h
 obtain ⟨c,hc⟩: ∃ c,s[i]? = some c:=⟨s[i],List.getElem?_eq_getElem hi⟩
 have hp:=zeX (bar:=bar) h hc
 have hfl: ∀ (H:Heap) (a w:Nat),r<H.length→Rn fsT SA.sp bar 113 [.ptr r 0,num a, .int .i64 w] H=some (.pan (zjv a w),H):=fun H a w hr=>zpP (bar:=bar) (H:=H) (a:=a) (w:=w) hr
 have f50:=fun H hr=>hfl H i 50 hr
 have f4:=fun H hr=>hfl H i 4 hr
 have f2:=fun H hr=>hfl H i 2 hr
 simp only [Int.cast_ofNat_Int] at f50 f4 f2
 have hw:IntKind.i64.wrap ((i:Int)+1)=(i:Int)+1:=zak _ (by omega)
 have hn1:num (i+1)= .int .i64 ((i:Int)+1):=rfl
 have h':=h
 unfold Rd at h'
 have hsame:=zes h
 refine zbf hs zGB rfl rfl ?_
 rw [zJV]
 unfold zlk
 rw [hc]
 simp only
 by_cases c42:c=42
 ·subst c42
  rw [if_pos (by simp),zaV]
  simp [zd2,zd1,zd0,zdZ,zdY,zdX,zdW,zdV,zhg,a105,zad hs,zaa hs,zai hs,zac hs,zab hs,h',hp,f50,hrl]
  exact ⟨i,hsame.symm⟩
 by_cases c43:c=43
 ·subst c43
  rw [if_pos (by simp),zaV]
  simp [zd2,zd1,zd0,zdZ,zdY,zdX,zdW,zdV,zhg,a105,zad hs,zaa hs,zai hs,zac hs,zab hs,h',hp,f50,hrl]
  exact ⟨i,hsame.symm⟩
 by_cases c63:c=63
 ·subst c63
  rw [if_pos (by simp),zaV]
  simp [zd2,zd1,zd0,zdZ,zdY,zdX,zdW,zdV,zhg,a105,zad hs,zaa hs,zai hs,zac hs,zab hs,h',hp,f50,hrl]
  exact ⟨i,hsame.symm⟩
 by_cases c123:c=123
 ·subst c123
  rw [if_pos (by simp),zaV]
  simp [zd2,zd1,zd0,zdZ,zdY,zdX,zdW,zdV,zhg,a105,zad hs,zaa hs,zai hs,zac hs,zab hs,h',hp,f50,hrl]
  exact ⟨i,hsame.symm⟩
 rw [if_neg (by simp [c42,c43,c63,c123])]
 have n42:((c.toNat:Int)==42)=false:=zdB 42 c42
 have n43:((c.toNat:Int)==43)=false:=zdB 43 c43
 have n63:((c.toNat:Int)==63)=false:=zdB 63 c63
 have n123:((c.toNat:Int)==123)=false:=zdB 123 c123
 by_cases c41:c=41
 ·subst c41
  rw [if_pos rfl,zaV]
  simp [zd2,zd1,zd0,zdZ,zdY,zdX,zdW,zdV,zhg,zfz,zh9,a105,zad hs,zaa hs,zai hs,zac hs,zab hs,h',hp,f4,hrl]
  exact ⟨i,hsame.symm⟩
 rw [if_neg c41]
 have n41:((c.toNat:Int)==41)=false:=zdB 41 c41
 by_cases c91:c=91
 ·subst c91
  rw [if_pos rfl]
  have hbr:=ztX (bar:=bar) (H:=H) (s:=s) (i:=i) (by omega) hc
  have hpl:=zhC (s:=s) hi
  cases hx:zjW s i with
  | er a w =>
   rw [hx] at hbr hpl
   simp only [zcY] at hbr
   have hz:zfi noB= .agg [u64 0,u64 0,u64 0,u64 0]:=rfl
   rw [hz] at hbr
   simp only
   rw [zaV]
   have fw:=fun H hr=>hfl H i w hr
   rcases hpl with rfl | rfl | rfl
   all_goals
    simp only [Int.cast_ofNat_Int,num] at fw hbr
    simp [zd2,zd1,zd0,zdZ,zdY,zdX,zdW,zdV,zhg,zfz,zh9,zd9,zjo,zjn,zjm,a105,zad hs,zaa hs,zai hs,zac hs,zab hs,h',hp,hbr,fw,hrl]
    exact ⟨i,hsame.symm⟩
  | ok p j =>
   rw [hx] at hbr hpl
   simp only [zcY,zcM] at hbr
   simp only
   rw [zbo,zdi]
   simp [zd2,zd1,zd0,zdZ,zdY,zdX,zdW,zdV,zhg,zfz,zh9,zd9,zjo,zjn,zjm,zlr,zlq,a105,zad hs,zaa hs,zai hs,zac hs,zab hs,h',hp,hbr,hb]
 rw [if_neg c91]
 have n91:((c.toNat:Int)==91)=false:=zdB 91 c91
 by_cases c40:c=40
 ·subst c40
  rw [if_pos rfl]
  by_cases h20:20≤deep
  ·have h20':(20:Int)≤(deep:Int):=by omega
   rw [if_pos h20,zaV]
   have e:r<(H.set r (some [.str s, .int .i64 ((i:Int)+1)])).length:=by simpa using hrl
   simp [zd2,zd1,zd0,zdZ,zdY,zdX,zdW,zdV,zhg,zfz,zh9,zd9,zjo,zjn,zjm,zlr,zlq,zfh,zfg,zff,znW,znV,a105,zad hs,zaa hs,zai hs,zac hs,zab hs,h',hp,hw,hb,f2,hrl,h20']
   exact ⟨i+1,rfl⟩
  ·have h20': ¬ (20:Int)≤(deep:Int):=by omega
   have hwd:IntKind.i64.wrap ((deep:Int)+1)=(deep:Int)+1:=zak _ (by omega)
   rw [if_neg h20]
   have hR:=h.set (i+1)
   obtain ⟨o,K,q1,q2⟩:=hC bar _ r (i+1) (deep+1) hR hb (by omega) (by omega) (by omega)
   have hdn:num (deep+1)= .int .i64 ((deep:Int)+1):=rfl
   rw [hn1,hdn] at q1
   unfold zDG at q2
   have hplc:=(zbp (s:=s) hs' n).1 (i+1) (deep+1) (by omega) (by omega)
   cases hx:zbP s n (i+1) (deep+1) with
   | er a w =>
    rw [hx] at q2
    obtain ⟨rfl,j,rfl⟩:=q2
    simp only
    rw [zaV]
    simp [zd2,zd1,zd0,zdZ,zdY,zdX,zdW,zdV,zhg,zfz,zh9,zd9,zjo,zjn,zjm,zlr,zlq,zfh,zfg,zff,znW,znV,zqy,a105,zad hs,zaa hs,zai hs,zac hs,zab hs,h',hp,hw,hb,hrl,h20',hwd,q1]
    exact ⟨j,rfl⟩
   | ok ls j =>
    rw [hx] at q2 hplc
    obtain ⟨rfl,rfl⟩:=q2
    obtain ⟨b1,b2,b3,b4,b5,_⟩:=hplc
    simp only [List.set_set] at q1
    have htree:Tree (j-(i+1)+1) (zaW 5 ls):=zbI (.inr rfl) b3 b4 (by omega) (by omega)
    obtain ⟨c1,c2,c3,c4,c5,c6,hcs⟩:=Re.av_eight htree.wide
    rw [hcs] at q1
    have hR2:=h.set j
    simp only
    by_cases hcl:s[j]? = some 41
    ·have g:=zgs (bar:=bar) hR2 hb (by omega) hcl
     simp only [List.set_set] at g
     replace g:Rn fsT SA.sp bar 88 [.ptr r 0, .int .u8 41] (H.set r (some [.str s,num j]))=_:=g
     rw [if_pos hcl,zbo,hcs]
     simp [zd2,zd1,zd0,zdZ,zdY,zdX,zdW,zdV,zhg,zfz,zh9,zd9,zjo,zjn,zjm,zlr,zlq,zfh,zfg,zff,znW,znV,zqy,zuG,zuF,zuE,a105,zad hs,zaa hs,zai hs,zac hs,zab hs,h',hp,hw,hb,hrl,h20',hwd,q1,g]
    ·have g:=ziX (bar:=bar) hR2 (by omega) hcl
     replace g:Rn fsT SA.sp bar 88 [.ptr r 0, .int .u8 41] (H.set r (some [.str s,num j]))=_:=g
     have fj:=fun H hr=>hfl H j 3 hr
     simp only [Int.cast_ofNat_Int] at fj
     have hR2':=hR2
     unfold Rd at hR2'
     rw [if_neg hcl,zaV]
     simp [zd2,zd1,zd0,zdZ,zdY,zdX,zdW,zdV,zhg,zfz,zh9,zd9,zjo,zjn,zjm,zlr,zlq,zfh,zfg,zff,znW,znV,zqy,zuG,zuF,zuE,a105,zad hs,zaa hs,zai hs,zac hs,zab hs,h',hp,hw,hb,hrl,h20',hwd,q1,g,hR2',fj]
     exact ⟨j,rfl⟩
 rw [if_neg c40]
 have n40:((c.toNat:Int)==40)=false:=zdB 40 c40
 by_cases c46:c=46
 ·subst c46
  have hnot:=zHY (bar:=bar) (H:=H.set r (some [.str s, .int .i64 ((i:Int)+1)])) noB
  rw [zcM (zq7 noB)] at hnot
  have hz:zfi noB= .agg [.int .u64 0, .int .u64 0, .int .u64 0, .int .u64 0]:=rfl
  rw [hz] at hnot
  rw [if_pos rfl,zbo,zdi]
  simp [zd2,zd1,zd0,zdZ,zdY,zdX,zdW,zdV,zfz,zd9,zfh,zfg,zff,zjl,zlp,a105,zad hs,zaa hs,zai hs,zac hs,zab hs,h',hp,hw,hb,hnot]
  rfl
 rw [if_neg c46]
 have n46:((c.toNat:Int)==46)=false:=zdB 46 c46
 by_cases c94:c=94
 ·subst c94
  rw [if_pos rfl,zbo,zjJ]
  simp [zd2,zd1,zd0,zdZ,zdY,zdX,zdW,zdV,zfz,zd9,zfh,zfg,zff,zjl,zlp,zlo,znU,a105,zad hs,zaa hs,zai hs,zac hs,zab hs,h',hp,hw,hb]
  rfl
 rw [if_neg c94]
 have n94:((c.toNat:Int)==94)=false:=zdB 94 c94
 by_cases c36:c=36
 ·subst c36
  rw [if_pos rfl,zbo,zjJ]
  simp [zd2,zd1,zd0,zdZ,zdY,zdX,zdW,zdV,zfz,zd9,zfh,zfg,zff,zjl,zlp,zlo,znU,znT,zqx,a105,zad hs,zaa hs,zai hs,zac hs,zab hs,h',hp,hw,hb]
  rfl
 rw [if_neg c36]
 have n36:((c.toNat:Int)==36)=false:=zdB 36 c36
 by_cases c92:c=92
 ·subst c92
  rw [if_pos rfl]
  obtain ⟨o,K,q1,q2⟩:=zv8 (bar:=bar) (h.set (i+1)) hb (by omega) (by omega)
  unfold zsO at q2
  rw [hn1] at q1
  cases hx:s[i+1]? with
  | none =>
   rw [hx] at q2
   obtain ⟨rfl,j,rfl⟩:=q2
   simp only
   rw [zaV]
   simp [zd2,zd1,zd0,zdZ,zdY,zdX,zdW,zdV,zfz,zd9,zfh,zfg,zff,zjl,zlp,zlo,znU,znT,zqx,zqw,zuD,a105,zad hs,zaa hs,zai hs,zac hs,zab hs,h',hp,hw,hb,q1]
   exact ⟨j,rfl⟩
  | some d =>
   rw [hx] at q2
   obtain ⟨rfl,rfl⟩:=q2
   have hone:=zyi (bar:=bar) (H:=H.set r (some [.str s,num (i+1+1)])) (zc1 d)
   simp only [List.set_set] at q1
   rw [zdi] at hone
   simp only
   rw [zbo,zdi]
   simp [zd2,zd1,zd0,zdZ,zdY,zdX,zdW,zdV,zfz,zd9,zfh,zfg,zff,zjl,zlp,zlo,znU,znT,zqx,zqw,zuD,a105,zad hs,zaa hs,zai hs,zac hs,zab hs,h',hp,hw,hb,q1,hone]
 ·rw [if_neg c92,zbo]
  have n92:((c.toNat:Int)==92)=false:=zdB 92 c92
  have hone:=zyi (bar:=bar) (H:=H.set r (some [.str s, .int .i64 ((i:Int)+1)])) c
  rw [zdi] at hone ⊢
  simp [zd2,zd1,zd0,zdZ,zdY,zdX,zdW,zdV,zfz,zd9,zfh,zfg,zff,zjl,zlo,znT,zqw,zAO,a105,zad hs,zaa hs,zai hs,zac hs,zab hs,h',hp,hw,hb,hone,n42,n43,n63,n123,n41,n91,n40,n46,n94,n36,n92]
  rfl
end
section
def zqz (s:List UInt8) (r:Nat) (H:Heap) (x:PR Re) (e:AExit) (t:EH):Prop :=
 match x with
 | .er a w=>e= .pan (zjv a w)∧ ∃ E,∃ j:Nat,t=(E,H.set r (some [.str s,num j]))
 | .ok y j=>e= .ret∧ ∃ v',t=(mkE 76677619 v',H.set r (some [.str s,num j]))∧v' 4= .box y.av.cells
theorem zwr (s:List UInt8) (r:Nat) (H:Heap) (a w:Nat):zqz s r H (.er a w)=fun e t=>e= .pan (zjv a w)∧ ∃ E,∃ j:Nat,t=(E,H.set r (some [.str s,num j])):=rfl
theorem zwq (s:List UInt8) (r:Nat) (H:Heap) (y:Re) (j:Nat):zqz s r H (.ok y j)=fun e t=>e= .ret∧ ∃ v',t=(mkE 76677619 v',H.set r (some [.str s,num j]))∧v' 4= .box y.av.cells:=rfl
theorem zuZ (mn:Nat) (mx:Int) (x:Re):(zfC mn mx x).av= .agg [.int .i64 6, .int .u64 0, .int .u64 0, .int .u64 0, .int .u64 0,num mn, .int .i64 mx, .slc .ro [x.av]]:=rfl
theorem zot {s:List UInt8} {i:Nat} (n:Nat) (x:Re) (k42: ¬ s[i]? = some 42) (k43: ¬ s[i]? = some 43) (k63: ¬ s[i]? = some 63) (k123: ¬ s[i]? = some 123):zc2 s (n+1) x i= .ok x i:=by
 unfold zc2
 cases hc:s[i]? with
 | none=>rfl
 | some c =>
  rw [hc] at k42 k43 k63 k123
  simp only [Option.some.injEq] at k42 k43 k63 k123
  simp only [k42,k43,k63,k123,if_false]
set_option maxHeartbeats 1000000 in
theorem zxM {s:List UInt8} (hs':s.length≤400) {bar:Nat} {H:Heap} {r:Nat} (hr:r<H.length) (hb:bar≤r): ∀ (n:Nat) (x:Re) (i:Nat) (v:Nat→AV),i≤s.length→s.length<n+i→x.wide→v 0= .ptr r 0→v 4= .box [.int .i64 0, .int .u64 0, .int .u64 0, .int .u64 0, .int .u64 0, .int .i64 0, .int .i64 0, .nils]→v 5= .box x.av.cells →
  Wp (evI fsT SA.sp bar (.loop a99l13) (mkE 76677619 v,H.set r (some [.str s,num i]))) (zqz s r H (zc2 s n x i)):=by
 have hs:=SA.mono
 intro n
 induction n with
 | zero=>intro x i v h1 h2;omega
 | succ n ih =>
  intro x i v h1 h2 hx v0 v4 v5
  have hR:Rd (H.set r (some [.str s,num i])) r s i:=zae _ hr
  have hR':=hR
  unfold Rd at hR'
  obtain ⟨c1,c2,c3,c4,c5,c6,hcs⟩:=Re.av_eight hx
  rw [hcs] at v5
  simp only [AV.cells] at v5
  have step: ∀ (mn:Nat) (mx:Int) (j:Nat) (w:Nat→AV),i<j→j≤s.length→mn≤50→ -1≤mx∧mx≤50→w 0= .ptr r 0→w 4= .box [.int .i64 0, .int .u64 0, .int .u64 0, .int .u64 0, .int .u64 0, .int .i64 0, .int .i64 0, .nils] →
    w 5= .box [.int .i64 6, .int .u64 0, .int .u64 0, .int .u64 0, .int .u64 0,num mn, .int .i64 mx, .slc .ro [.agg [.int .i64 x.k,c1,c2,c3,c4,c5,c6,rowOf (Re.avs x.l)]]] →
    Wp (evI fsT SA.sp bar (.loop a99l13) (mkE 76677619 w,H.set r (some [.str s,num j]))) (zqz s r H (zc2 s n (zfC mn mx x) j)):=fun mn mx j w hj hl a b w0 w4 w5=>by
   refine ih (zfC mn mx x) j w hl (by omega) ?_ w0 w4 (by rw [w5,zuZ,hcs];rfl)
   simp only [zfC,Re.wide,Re.wideL,and_true]
   exact ⟨rfl,by simp,by omega,hx⟩
  have gno: ∀ c:UInt8,s[i]? ≠ some c→Rn fsT SA.sp bar 88 [.ptr r 0, .int .u8 c.toNat] (H.set r (some [.str s,num i]))=some (.ret (.bool false),H.set r (some [.str s,num i])):=fun c hc=>ziX hR h1 hc
  have gyes: ∀ c:UInt8,s[i]? = some c→Rn fsT SA.sp bar 88 [.ptr r 0, .int .u8 c.toNat] (H.set r (some [.str s,num i]))=some (.ret (.bool true),H.set r (some [.str s,num (i+1)])):=fun c hc=>by
   have:=zgs (bar:=bar) hR hb (by omega) hc
   simpa only [List.set_set] using this
  rw [zah hs a99l13.eq_1]
  by_cases k42:s[i]? = some 42
  ·have g:Rn fsT SA.sp bar 88 [.ptr r 0, .int .u8 42] (H.set r (some [.str s,num i]))=_:=gyes 42 k42
   have hlt:=zaT k42
   unfold zc2
   rw [k42]
   simp only [if_true]
   simp [zad hs,zaa hs,zab hs,zac hs,zt8,zt7,zt6,zt5,zt4,zt3,zt2,zt1,zmX,zmW,zmV,v0,v4,v5,hR',g,za6]
   refine step 0 (-1) (i+1) _ (by omega) hlt (by omega) (by omega) ?_ ?_ ?_
   ·simp [v0]
   ·simp [v4]
   ·simp
  have g42:Rn fsT SA.sp bar 88 [.ptr r 0, .int .u8 42] (H.set r (some [.str s,num i]))=_:=gno 42 k42
  by_cases k43:s[i]? = some 43
  ·have g:Rn fsT SA.sp bar 88 [.ptr r 0, .int .u8 43] (H.set r (some [.str s,num i]))=_:=gyes 43 k43
   have hlt:=zaT k43
   unfold zc2
   rw [k43]
   simp only [show ¬ ((43:UInt8)=42) by decide,if_true,if_false]
   simp [zad hs,zaa hs,zab hs,zac hs,zt8,zt7,zt6,zt5,zt4,zt3,zt2,zt1,zmX,zmW,zmV,v0,v4,v5,hR',g42,g,za6]
   refine step 1 (-1) (i+1) _ (by omega) hlt (by omega) (by omega) ?_ ?_ ?_
   ·simp [v0]
   ·simp [v4]
   ·simp
  have g43:Rn fsT SA.sp bar 88 [.ptr r 0, .int .u8 43] (H.set r (some [.str s,num i]))=_:=gno 43 k43
  by_cases k63:s[i]? = some 63
  ·have g:Rn fsT SA.sp bar 88 [.ptr r 0, .int .u8 63] (H.set r (some [.str s,num i]))=_:=gyes 63 k63
   have hlt:=zaT k63
   unfold zc2
   rw [k63]
   simp only [show ¬ ((63:UInt8)=42) by decide,show ¬ ((63:UInt8)=43) by decide,if_true,if_false]
   simp [zad hs,zaa hs,zab hs,zac hs,zt8,zt7,zt6,zt5,zt4,zt3,zt2,zt1,zmX,zmW,zmV,v0,v4,v5,hR',g42,g43,g,za6]
   refine step 0 1 (i+1) _ (by omega) hlt (by omega) (by omega) ?_ ?_ ?_
   ·simp [v0]
   ·simp [v4]
   ·simp
  have g63:Rn fsT SA.sp bar 88 [.ptr r 0, .int .u8 63] (H.set r (some [.str s,num i]))=_:=gno 63 k63
  by_cases k123:s[i]? = some 123
  ·have g:Rn fsT SA.sp bar 88 [.ptr r 0, .int .u8 123] (H.set r (some [.str s,num i]))=_:=gyes 123 k123
   have hlt:=zaT k123
   have hR2:Rd (H.set r (some [.str s,num (i+1)])) r s (i+1):=zae _ hr
   obtain ⟨o,K,q1,q2⟩:=zxx (bar:=bar) (at':=i) hR2 hb (by omega) (by omega)
   unfold zc2
   rw [k123]
   simp only [show ¬ ((123:UInt8)=42) by decide,show ¬ ((123:UInt8)=43) by decide,show ¬ ((123:UInt8)=63) by decide,if_true,if_false]
   unfold zxy at q2
   cases ht:zeG s (i+1) with
   | none =>
    rw [ht] at q2
    obtain ⟨rfl,j,rfl⟩:=q2
    simp only
    rw [zwr]
    simp [zad hs,zaa hs,zab hs,zac hs,zt8,zt7,zt6,zt5,zt4,zt3,zt2,zt1,zmX,zmW,zmV,v0,v4,v5,hR',g42,g43,g63,g,q1,za6]
    exact ⟨j,rfl⟩
   | some q =>
    obtain ⟨mn,mx,j⟩:=q
    rw [ht] at q2
    obtain ⟨rfl,rfl⟩:=q2
    have hpl:=zhl (s:=s) (by omega) ht
    simp only [List.set_set] at q1
    simp only
    simp [zad hs,zaa hs,zab hs,zac hs,zt8,zt7,zt6,zt5,zt4,zt3,zt2,zt1,zmX,zmW,zmV,v0,v4,v5,hR',g42,g43,g63,g,q1,za6]
    refine step mn mx j _ (by omega) hpl.2.1 hpl.2.2.1 hpl.2.2.2 ?_ ?_ ?_
    ·simp [v0]
    ·simp [v4]
    ·simp
  have g123:Rn fsT SA.sp bar 88 [.ptr r 0, .int .u8 123] (H.set r (some [.str s,num i]))=_:=gno 123 k123
  have e0:=zot n x k42 k43 k63 k123
  rw [e0,zwq]
  simp [zad hs,zaa hs,zab hs,zac hs,zt8,zt7,zt6,zt5,zt4,zt3,zt2,zt1,zmX,zmW,zmV,v0,v4,v5,hR',g42,g43,g63,g123]
  refine ⟨_,rfl,?_⟩
  simp [hcs]
def zmx (s:List UInt8) (n i deep:Nat):PR Re:=match zlk s n i deep with
 | .er a w=> .er a w
 | .ok x j=>zc2 s (s.length+1) x j
theorem zxY {s:List UInt8} {n:Nat} (hs':s.length≤400) (hC:zxl s n) {bar:Nat} {H:Heap} {r i deep:Nat} (h:Rd H r s i) (hb:bar≤r) (hi:i<s.length) (hf:3*(s.length+1-i)≤n+3) (hd:deep≤20) :
  Wc (Rn fsT SA.sp bar 99 [.ptr r 0,num deep] H) (zib s r H Re.av (zmx s (n+1) i deep)):=by
 have hs:=SA.mono
 have hrl:=zau h
 obtain ⟨o,K,q1,q2⟩:=zCq hs' hC h hb hi hf hd
 have hpl:=(zbp (s:=s) hs' (n+1)).2.2 i deep hi (by omega)
 refine zbf hs zID rfl rfl ?_
 rw [env99]
 unfold zmx
 cases hx:zlk s (n+1) i deep with
 | er a w =>
  rw [hx] at q2
  obtain ⟨rfl,j,rfl⟩:=q2
  simp only
  rw [zaV]
  simp [zGZ,zGY,a99,zad hs,zaa hs,zab hs,q1]
  exact ⟨j,rfl⟩
 | ok x j =>
  rw [hx] at q2 hpl
  obtain ⟨rfl,rfl⟩:=q2
  obtain ⟨p1,p2,p3⟩:=hpl
  have hxw:=p3.wide
  obtain ⟨c1,c2,c3,c4,c5,c6,hcs⟩:=Re.av_eight hxw
  rw [hcs] at q1
  simp only
  simp [zGZ,zGY,a99,zad hs,zaa hs,zab hs,q1]
  refine (zxM hs' hrl hb (s.length+1) x j _ p2 (by omega) hxw ?_ ?_ ?_).mono fun e t ht=> ?_
  ·simp
  ·simp
  ·simp [hcs]
  ·have hpl2:=zd3 (s:=s) (s.length+1) x j (j-i) p2 (by omega) (by omega) p3
   cases hy:zc2 s (s.length+1) x j with
   | er a w =>
    rw [hy] at ht
    obtain ⟨rfl,E,k,rfl⟩:=ht
    rw [zaV]
    simp
    exact ⟨k,rfl⟩
   | ok y k =>
    rw [hy] at ht hpl2
    obtain ⟨rfl,v',rfl,k4⟩:=ht
    obtain ⟨c1,c2,c3,c4,c5,c6,hcs⟩:=Re.av_eight hpl2.2.2.wide
    rw [hcs] at k4
    rw [zbo,hcs]
    simp only [AV.cells] at k4
    simp [k4]
end
section
def zDz (s:List UInt8) (r:Nat) (H:Heap) (x:PR Re) (e:AExit) (t:EH):Prop :=
 match x with
 | .er a w=>e= .pan (zjv a w)∧ ∃ E,∃ j:Nat,t=(E,H.set r (some [.str s,num j]))
 | .ok y j=>e= .ret∧ ∃ v',t=(mkE 67109107 v',H.set r (some [.str s,num j]))∧v' 4= .box y.av.cells
theorem zCn (s:List UInt8) (r:Nat) (H:Heap) (a w:Nat):zDz s r H (.er a w)=fun e t=>e= .pan (zjv a w)∧ ∃ E,∃ j:Nat,t=(E,H.set r (some [.str s,num j])):=rfl
theorem zp2 (s:List UInt8) (r:Nat) (H:Heap) (y:Re) (j:Nat):zDz s r H (.ok y j)=fun e t=>e= .ret∧ ∃ v',t=(mkE 67109107 v',H.set r (some [.str s,num j]))∧v' 4= .box y.av.cells:=rfl
def Parts (k:Int) (m:Nat) (acc:List Re):Prop:=(∀ x∈acc,Tree 1000 x)∧(joinL k acc).length≤m∧acc.length≤m
theorem Parts.snoc {k:Int} {m n:Nat} {acc:List Re} {x:Re} (h:Parts k m acc) (hx:Tree n x) (hn:1≤n∧n≤1000):Parts k (m+n) (acc ++ [x]):=by
 obtain ⟨h1,h2,h3⟩:=h
 refine ⟨fun y hy=> ?_,?_,?_⟩
 ·rcases List.mem_append.1 hy with h | h
  ·exact h1 y h
  ·simp only [List.mem_singleton] at h;subst h;exact hx.mono hn.2
 ·rw [zdp,List.length_append]
  have:=hx.part k
  simp only [joinL,List.flatMap_cons,List.flatMap_nil,List.append_nil] at this ⊢
  simp only [joinL] at h2
  omega
 ·simp only [List.length_append,List.length_cons,List.length_nil];omega
theorem Parts.mono {k:Int} {m n:Nat} {acc:List Re} (h:Parts k m acc) (l:m≤n):Parts k n acc:=⟨h.1,Nat.le_trans h.2.1 l,Nat.le_trans h.2.2 l⟩
theorem Parts.joined {k:Int} {m:Nat} {acc:List Re} (h:Parts k m acc) (hk:k=4∨k=5) (hm:m≤1000) (bar:Nat) (H:Heap) (a:AV) (ha:zDE a acc):Rn fsT SA.sp bar 89 [.int .i64 k,a] H=some (.ret (zaW k acc).av,H):=by
 obtain ⟨h1,h2,h3⟩:=h
 refine zwJ ha (zaG.2 fun x hx=>(h1 x hx).wide) (by omega) fun x hx=> ?_
 subst hx
 exact zyx hk (h1 x (by simp)).plain
theorem Parts.wide {k:Int} {m:Nat} {acc:List Re} (h:Parts k m acc) (hk:k=4∨k=5) (hm:m≤1000):(zaW k acc).wide:=(zbI hk h.1 (Nat.le_trans h.2.1 hm) (by omega) (by omega)).wide
theorem Parts.rowWide {k:Int} {m:Nat} {acc:List Re} (h:Parts k m acc):Re.wideL acc:=zaG.2 fun x hx=>(h.1 x hx).wide
def brF (s:List UInt8) (acc:List Re) (n i deep:Nat):PR Re:=match zbA s n i deep with
 | .er a w=> .er a w
 | .ok l j=> .ok (zaW 4 (acc++l)) j
set_option maxHeartbeats 1000000 in
theorem ztW {s:List UInt8} (hs':s.length≤400) {N:Nat} (hC: ∀ m,m<N→zxl s m) {bar:Nat} {H:Heap} {r deep:Nat} (hr:r<H.length) (hb:bar≤r) (hd:deep≤20) :
  ∀ (n i:Nat) (acc:List Re) (v:Nat→AV),n≤N→i≤s.length→3*(s.length+1-i)≤n+1→Parts 4 i acc→v 0= .ptr r 0→v 1=num deep →
   v 4= .box [.int .i64 0, .int .u64 0, .int .u64 0, .int .u64 0, .int .u64 0, .int .i64 0, .int .i64 0, .nils]→v 5=zpB acc →
   Wp (evI fsT SA.sp bar (.loop a87l6) (mkE 67109107 v,H.set r (some [.str s,num i]))) (zDz s r H (brF s acc n i deep)):=by
 have hs:=SA.mono
 intro n
 induction n with
 | zero=>intro i acc v hN h1 h2;omega
 | succ n ih =>
  intro i acc v hN h1 h2 hacc v0 v1 v4 v5
  have hR:Rd (H.set r (some [.str s,num i])) r s i:=zae _ hr
  have hj:=hacc.joined (.inl rfl) (by omega) bar (H.set r (some [.str s,num i]))
  have hjw:=hacc.wide (.inl rfl) (by omega)
  obtain ⟨c1,c2,c3,c4,c5,c6,hcs⟩:=Re.av_eight hjw
  rw [hcs] at hj
  have hok:=zdk hacc.rowWide
  have stop:stops s i deep=true→brF s acc (n+1) i deep= .ok (zaW 4 acc) i:=fun h=>by
   unfold brF zbA
   rw [if_pos h]
   simp
  rw [zah hs a87l6.eq_1]
  -- where the branch ends
  have ends:stops s i deep=true→(∀ (Q:AExit→EH→Prop),(∀ v':Nat→AV,v' 4= .box (zaW 4 acc).av.cells→Q .ret (mkE 67109107 v',H.set r (some [.str s,num i])))→True):=fun _ _ _=>trivial
  have hrow:(acc= []∧v 5= .nils)∨(acc ≠ []∧v 5= .slc .own (Re.avs acc)):=by
   cases acc with
   | nil=>exact .inl ⟨rfl,v5⟩
   | cons y l=>exact .inr ⟨by simp,by rw [v5,zfk (by simp)]⟩
  have jn:=hj .nils
  have jr:=hj (.slc .ro (Re.avs acc)) (.inl rfl)
  have htk:List.take acc.length (Re.avs acc)=Re.avs acc:=List.take_of_length_le (by simp [zaq])
  have dl0:deep=0∨0<deep:=Nat.eq_zero_or_pos _
  cases hc:s[i]? with
  | none =>
   have hp:=zhs (bar:=bar) hR h1 hc
   rw [stop (by simp [stops,hc]),zp2,hcs]
   rcases hrow with ⟨rfl,v5'⟩ | ⟨hne,v5'⟩
   ·have jn:=jn (.inr ⟨rfl,rfl⟩)
    simp [zad hs,zaa hs,zab hs,zac hs,zi7,zi6,zi5,zi4,v0,v1,v4,v5',hp,jn]
    exact ⟨_,rfl,by simp⟩
   ·simp [zad hs,zaa hs,zab hs,zac hs,zi7,zi6,zi5,zi4,v0,v1,v4,v5',hp,jr,zaq,htk,hok]
    exact ⟨_,rfl,by simp⟩
  | some c =>
   have hp:=zeX (bar:=bar) hR hc
   have hlt:=zaT hc
   by_cases c124:c=124
   ·subst c124
    rw [stop (by simp [stops,hc]),zp2,hcs]
    rcases hrow with ⟨rfl,v5'⟩ | ⟨hne,v5'⟩
    ·have jn:=jn (.inr ⟨rfl,rfl⟩)
     simp [zad hs,zaa hs,zab hs,zac hs,zi7,zi6,zi5,zi4,v0,v1,v4,v5',hp,jn]
     exact ⟨_,rfl,by simp⟩
    ·simp [zad hs,zaa hs,zab hs,zac hs,zi7,zi6,zi5,zi4,v0,v1,v4,v5',hp,jr,zaq,htk,hok]
     exact ⟨_,rfl,by simp⟩
   have n124:((c.toNat:Int)==124)=false:=zdB 124 c124
   by_cases c41:c=41∧0<deep
   ·obtain ⟨rfl,hd0⟩:=c41
    have hd0':(0:Int)<(deep:Int):=by omega
    rw [stop (by simp [stops,hc,hd0]),zp2,hcs]
    rcases hrow with ⟨rfl,v5'⟩ | ⟨hne,v5'⟩
    ·have jn:=jn (.inr ⟨rfl,rfl⟩)
     simp [zad hs,zaa hs,zab hs,zac hs,zi7,zi6,zi5,zi4,v0,v1,v4,v5',hp,jn,hd0',hd0]
     exact ⟨_,rfl,by simp⟩
    ·simp [zad hs,zaa hs,zab hs,zac hs,zi7,zi6,zi5,zi4,v0,v1,v4,v5',hp,jr,zaq,htk,hok,hd0',hd0]
     exact ⟨_,rfl,by simp⟩
   -- a piece more
   have hst:stops s i deep=false:=by
    simp only [stops,hc,Bool.or_eq_false_iff,decide_eq_false_iff_not,Bool.and_eq_false_iff]
    refine ⟨c124,?_⟩
    by_cases e:c=41
    ·exact .inr fun h=>c41 ⟨e,h⟩
    ·exact .inl e
   obtain ⟨m,rfl⟩: ∃ m,n=m+1:=⟨n-1,by omega⟩
   obtain ⟨o,K,q1,q2⟩:=zxY hs' (hC m (by omega)) hR hb hlt (by omega) hd
   have hapl:=(zbp (s:=s) hs' (m+1)).2.2 i deep hlt (by omega)
   have e0:brF s acc (m+1+1) i deep=match zmx s (m+1) i deep with
     | .er a w=> .er a w
     | .ok y k=>brF s (acc ++ [y]) (m+1) k deep:=by
    unfold brF zmx
    rw [zbA,if_neg (by simp [hst])]
    cases zlk s (m+1) i deep with
    | er a w=>rfl
    | ok x j =>
     simp only
     cases zc2 s (s.length+1) x j with
     | er a w=>rfl
     | ok y k =>
      simp only
      cases zbA s (m+1) k deep with
      | er a w=>rfl
      | ok ys l=>simp
   have hppl:(zmx s (m+1) i deep).sat (fun y k=>i<k∧k≤s.length∧Tree (k-i) y) (zo1 s):=by
    unfold zmx
    cases hx:zlk s (m+1) i deep with
    | er a w=>rw [hx] at hapl;exact hapl
    | ok x j =>
     rw [hx] at hapl
     obtain ⟨p1,p2,p3⟩:=hapl
     have hr:=zd3 (s:=s) (s.length+1) x j (j-i) p2 (by omega) (by omega) p3
     simp only
     cases hy:zc2 s (s.length+1) x j with
     | er a w=>rw [hy] at hr;exact hr
     | ok y k =>
      rw [hy] at hr
      obtain ⟨r1,r2,r3⟩:=hr
      exact ⟨by omega,r2,r3.mono (by omega)⟩
   rw [e0]
   -- the test answers no
   have test:((decide (c=41))&&decide (0<deep))=false:=by
    by_cases e:c=41
    ·have: ¬ 0<deep:=fun h=>c41 ⟨e,h⟩
     simp [this]
    ·simp [e]
   cases hx:zmx s (m+1) i deep with
   | er a w =>
    rw [hx] at q2
    obtain ⟨rfl,j,rfl⟩:=q2
    simp only [List.set_set] at q1
    simp only
    rw [zCn]
    by_cases e:c=41
    ·subst e
     have hd0:deep=0:=by have: ¬ 0<deep:=fun h=>c41 ⟨rfl,h⟩;omega
     subst hd0
     rcases hrow with ⟨rfl,v5'⟩ | ⟨hne,v5'⟩
     ·simp [zad hs,zaa hs,zab hs,zac hs,zi7,zi6,zi5,zi4,v0,v1,v4,v5',hp,n124,q1]
      exact ⟨j,rfl⟩
     ·simp [zad hs,zaa hs,zab hs,zac hs,zi7,zi6,zi5,zi4,v0,v1,v4,v5',hp,n124,q1]
      exact ⟨j,rfl⟩
    ·have n41:((c.toNat:Int)==41)=false:=zdB 41 e
     rcases hrow with ⟨rfl,v5'⟩ | ⟨hne,v5'⟩
     ·simp [zad hs,zaa hs,zab hs,zac hs,zi7,zi6,zi5,zi4,v0,v1,v4,v5',hp,n124,n41,q1]
      exact ⟨j,rfl⟩
     ·simp [zad hs,zaa hs,zab hs,zac hs,zi7,zi6,zi5,zi4,v0,v1,v4,v5',hp,n124,n41,q1]
      exact ⟨j,rfl⟩
   | ok y k =>
    rw [hx] at q2 hppl
    obtain ⟨rfl,rfl⟩:=q2
    obtain ⟨g1,g2,g3⟩:=hppl
    simp only [List.set_set] at q1
    simp only
    have hyw:=g3.wide
    obtain ⟨d1,d2,d3,d4,d5,d6,hds⟩:=Re.av_eight hyw
    rw [hds] at q1
    have hacc2:Parts 4 k (acc ++ [y]):=(hacc.snoc g3 (by omega)).mono (by omega)
    have hown:zpB (acc ++ [y])= .slc .own (Re.avs acc ++ [.agg [.int .i64 y.k,d1,d2,d3,d4,d5,d6,rowOf (Re.avs y.l)]]):=by
     rw [zfk (by simp),←zb6];simp [Re.avs,hds]
    have hlen:=hacc.2.2
    have hle:(acc.length+1)*8≤4294967296:=by omega
    have next: ∀ w:Nat→AV,w 0= .ptr r 0→w 1=num deep→w 4= .box [.int .i64 0, .int .u64 0, .int .u64 0, .int .u64 0, .int .u64 0, .int .i64 0, .int .i64 0, .nils]→w 5= .slc .own (Re.avs acc ++ [.agg [.int .i64 y.k,d1,d2,d3,d4,d5,d6,rowOf (Re.avs y.l)]]) →
      Wp (evI fsT SA.sp bar (.loop a87l6) (mkE 67109107 w,H.set r (some [.str s,num k]))) (zDz s r H (brF s (acc ++ [y]) (m+1) k deep)):=fun w w0 w1 w4 w5 =>
     ih k (acc ++ [y]) w (by omega) g2 (by omega) hacc2 w0 w1 w4 (by rw [w5,hown])
    by_cases e:c=41
    ·subst e
     have hd0:deep=0:=by have: ¬ 0<deep:=fun h=>c41 ⟨rfl,h⟩;omega
     subst hd0
     rcases hrow with ⟨rfl,v5'⟩ | ⟨hne,v5'⟩
     ·simp [zad hs,zaa hs,zab hs,zac hs,zi7,zi6,zi5,zi4,v0,v1,v4,v5',hp,n124,q1,za6]
      refine next _ ?_ ?_ ?_ ?_
      all_goals simp [v0,v1,v4,Re.avs]
     ·simp [zad hs,zaa hs,zab hs,zac hs,zi7,zi6,zi5,zi4,v0,v1,v4,v5',hp,n124,q1,za6,hok,zaq,hle]
      refine next _ ?_ ?_ ?_ ?_
      all_goals simp [v0,v1,v4]
    ·have n41:((c.toNat:Int)==41)=false:=zdB 41 e
     rcases hrow with ⟨rfl,v5'⟩ | ⟨hne,v5'⟩
     ·simp [zad hs,zaa hs,zab hs,zac hs,zi7,zi6,zi5,zi4,v0,v1,v4,v5',hp,n124,n41,q1,za6]
      refine next _ ?_ ?_ ?_ ?_
      all_goals simp [v0,v1,v4,Re.avs]
     ·simp [zad hs,zaa hs,zab hs,zac hs,zi7,zi6,zi5,zi4,v0,v1,v4,v5',hp,n124,n41,q1,za6,hok,zaq,hle]
      refine next _ ?_ ?_ ?_ ?_
      all_goals simp [v0,v1,v4]
end
section
theorem zoY {s:List UInt8} (hs':s.length≤400) {N:Nat} (hC: ∀ m,m<N→zxl s m) {bar:Nat} {H:Heap} {r i deep n:Nat} (h:Rd H r s i) (hb:bar≤r) (hi:i≤s.length) (hn:n≤N) (hf:3*(s.length+1-i)≤n+1) (hd:deep≤20) :
  Wc (Rn fsT SA.sp bar 87 [.ptr r 0,num deep] H) (zib s r H Re.av (brF s [] n i deep)):=by
 have hs:=SA.mono
 have hrl:=zau h
 have hsame:=zes h
 have hpl:=(zbp (s:=s) hs' n).2.1 i deep hi (by omega)
 have hwy: ∀ y j,brF s [] n i deep= .ok y j→y.wide:=fun y j e=>by
  unfold brF at e
  cases hx:zbA s n i deep with
  | er a w=>rw [hx] at e;cases e
  | ok l k =>
   rw [hx] at e hpl
   simp only [List.nil_append,PR.ok.injEq] at e
   obtain ⟨rfl,rfl⟩:=e
   obtain ⟨b1,b2,b3,b4,b5⟩:=hpl
   exact (zbI (m:=k-i+1) (.inl rfl) (fun x hx=>(b3 x hx).mono (by omega)) (by omega) (by omega) (by omega)).wide
 refine zbf hs zIH rfl rfl ?_
 rw [env87]
 simp [zKR,zKQ,a87,zad hs,zaa hs,zab hs]
 have key:=ztW hs' hC (bar:=bar) (H:=H) hrl hb hd n i [] (st (st (st (st noV 0 (.ptr r 0)) 1 (num deep)) 4 (.box [.int .i64 0, .int .u64 0, .int .u64 0, .int .u64 0, .int .u64 0, .int .i64 0, .int .i64 0, .nils])) 5 .nils) hn hi hf ⟨by simp,by simp [joinL],by simp⟩
  (by simp) (by simp) (by simp) (by simp [zeu])
 rw [hsame] at key
 refine key.mono fun e t ht=> ?_
 cases hx:brF s [] n i deep with
 | er a w =>
  rw [hx] at ht
  obtain ⟨rfl,E,j,rfl⟩:=ht
  rw [zaV]
  simp
  exact ⟨j,rfl⟩
 | ok y j =>
  rw [hx] at ht
  obtain ⟨rfl,v',rfl,k4⟩:=ht
  obtain ⟨c1,c2,c3,c4,c5,c6,hcs⟩:=Re.av_eight (hwy y j hx)
  rw [hcs] at k4
  rw [zbo,hcs]
  simp only [AV.cells] at k4
  simp [k4]
def zlF (s:List UInt8) (n j deep:Nat):PR (List Re):=if s[j]? = some 124 then zbP s n (j+1) deep else .ok [] j
theorem zfo (s:List UInt8) (n i deep:Nat):zbP s (n+1) i deep=match zbA s n i deep with
  | .er a w=> .er a w
  | .ok l j=>match zlF s n j deep with
   | .er a w=> .er a w
   | .ok ls k=> .ok (zaW 4 l::ls) k:=by
 rw [zbP]
 cases zbA s n i deep with
 | er a w=>rfl
 | ok l j =>
  simp only [zlF]
  split
  ·cases zbP s n (j+1) deep<;>rfl
  ·rfl
def zv0 (s:List UInt8) (r:Nat) (H:Heap) (acc:List Re) (v:Nat→AV) (x:PR (List Re)) (e:AExit) (t:EH):Prop :=
 match x with
 | .er a w=>e= .pan (zjv a w)∧ ∃ E,∃ j:Nat,t=(E,H.set r (some [.str s,num j]))
 | .ok ls j=>e= .exit 0∧ ∃ v',t=(mkE 2099 v',H.set r (some [.str s,num j]))∧v' 4=v 4∧v' 5= .slc .own (Re.avs (acc++ls))∧Parts 5 (j+1) (acc++ls)∧j≤s.length
theorem zx0 (s:List UInt8) (r:Nat) (H:Heap) (acc:List Re) (v:Nat→AV) (a w:Nat):zv0 s r H acc v (.er a w)=fun e t=>e= .pan (zjv a w)∧ ∃ E,∃ j:Nat,t=(E,H.set r (some [.str s,num j])):=rfl
theorem zxZ (s:List UInt8) (r:Nat) (H:Heap) (acc:List Re) (v:Nat→AV) (ls:List Re) (j:Nat):zv0 s r H acc v (.ok ls j)=fun e t=>e= .exit 0∧ ∃ v',t=(mkE 2099 v',H.set r (some [.str s,num j]))∧v' 4=v 4∧v' 5= .slc .own (Re.avs (acc++ls))∧Parts 5 (j+1) (acc++ls)∧j≤s.length:=rfl
set_option maxHeartbeats 1000000 in
theorem zBC {s:List UInt8} (hs':s.length≤400) {N:Nat} (hC: ∀ m,m<N→zxl s m) {bar:Nat} {H:Heap} {r deep:Nat} (hr:r<H.length) (hb:bar≤r) (hd:deep≤20) :
  ∀ (n j:Nat) (acc:List Re) (v:Nat→AV),n≤N→j≤s.length→3*(s.length-j)≤n→Parts 5 (j+1) acc→acc ≠ []→v 0= .ptr r 0→v 1=num deep→v 5= .slc .own (Re.avs acc) →
   Wp (evI fsT SA.sp bar (.loop a86l4) (mkE 2099 v,H.set r (some [.str s,num j]))) (zv0 s r H acc v (zlF s n j deep)):=by
 have hs:=SA.mono
 intro n
 induction n using Nat.strongRecOn with
 | ind n ih =>
 intro j acc v hN h1 h2 hacc hne v0 v1 v5
 have hR:Rd (H.set r (some [.str s,num j])) r s j:=zae _ hr
 have hok:=zdk hacc.rowWide
 rw [zah hs a86l4.eq_1]
 unfold zlF
 by_cases hc:s[j]? = some 124
 ·rw [if_pos hc]
  have hlt:=zaT hc
  have g:=zgs (bar:=bar) hR hb (by omega) hc
  simp only [List.set_set] at g
  replace g:Rn fsT SA.sp bar 88 [.ptr r 0, .int .u8 124] (H.set r (some [.str s,num j]))=_:=g
  obtain ⟨m,rfl⟩: ∃ m,n=m+1:=⟨n-1,by omega⟩
  have hR2:Rd (H.set r (some [.str s,num (j+1)])) r s (j+1):=zae _ hr
  obtain ⟨o,K,q1,q2⟩:=zoY hs' hC hR2 hb (by omega) (show m≤N by omega) (by omega) hd
  have hbpl:=(zbp (s:=s) hs' m).2.1 (j+1) deep (by omega) (by omega)
  rw [zfo]
  unfold brF at q2
  simp only [List.set_set,List.nil_append] at q1 q2
  cases hx:zbA s m (j+1) deep with
  | er a w =>
   rw [hx] at q2
   obtain ⟨rfl,k,rfl⟩:=q2
   simp only [List.set_set] at q1
   simp only
   rw [zx0]
   simp [zad hs,zaa hs,zab hs,zac hs,zCM,zG9,v0,v1,v5,g,q1]
   exact ⟨k,rfl⟩
  | ok l k =>
   rw [hx] at q2 hbpl
   obtain ⟨rfl,rfl⟩:=q2
   obtain ⟨b1,b2,b3,b4,b5⟩:=hbpl
   simp only [List.set_set] at q1
   have ht:Tree (k-(j+1)+1) (zaW 4 l):=zbI (.inl rfl) (fun x hx=>(b3 x hx).mono (by omega)) (by omega) (by omega) (by omega)
   obtain ⟨d1,d2,d3,d4,d5,d6,hds⟩:=Re.av_eight ht.wide
   rw [hds] at q1
   have hacc2:Parts 5 (k+1) (acc ++ [zaW 4 l]):=(hacc.snoc ht (by omega)).mono (by omega)
   have hlen:=hacc.2.2
   have hle:(acc.length+1)*8≤4294967296:=by omega
   have hav:Re.avs (acc ++ [zaW 4 l])=Re.avs acc ++ [.agg [.int .i64 (zaW 4 l).k,d1,d2,d3,d4,d5,d6,rowOf (Re.avs (zaW 4 l).l)]]:=by
    rw [←zb6];simp [Re.avs,hds]
   simp only
   have next: ∀ w:Nat→AV,w 0= .ptr r 0→w 1=num deep→w 4=v 4→w 5= .slc .own (Re.avs acc ++ [.agg [.int .i64 (zaW 4 l).k,d1,d2,d3,d4,d5,d6,rowOf (Re.avs (zaW 4 l).l)]]) →
     Wp (evI fsT SA.sp bar (.loop a86l4) (mkE 2099 w,H.set r (some [.str s,num k]))) (zv0 s r H acc v (match zlF s m k deep with | .er a w=> .er a w | .ok ls k=> .ok (zaW 4 l::ls) k)):=fun w w0 w1 w4 w5=>by
    refine (ih m (by omega) k (acc ++ [zaW 4 l]) w (by omega) b2 (by omega) hacc2 (by simp) w0 w1 (by rw [w5,hav])).mono fun e t h=> ?_
    cases hy:zlF s m k deep with
    | er a b=>rw [hy] at h;exact h
    | ok ls z =>
     rw [hy] at h
     obtain ⟨h1,v',h2,h3,h4,h5,h6⟩:=h
     simp only [List.append_assoc,List.cons_append,List.nil_append] at h4 h5
     exact ⟨h1,v',h2,h3.trans w4,h4,h5,h6⟩
   simp [zad hs,zaa hs,zab hs,zac hs,zCM,zG9,v0,v1,v5,g,q1,za6,hok,zaq,hle]
   refine next _ ?_ ?_ ?_ ?_
   all_goals simp [v0,v1]
 ·rw [if_neg hc,zxZ]
  have g:=ziX (bar:=bar) hR h1 hc
  replace g:Rn fsT SA.sp bar 88 [.ptr r 0, .int .u8 124] (H.set r (some [.str s,num j]))=_:=g
  simp [zad hs,zaa hs,zab hs,zac hs,zCM,v0,g]
  exact ⟨_,rfl,by simp,by simp [v5],hacc,h1⟩
theorem zFD {s:List UInt8} (hs':s.length≤400): ∀ n,zxl s n:=by
 have hs:=SA.mono
 intro n
 induction n using Nat.strongRecOn with
 | ind n ih =>
 intro bar H r i deep h hb hi hf hd
 obtain ⟨m,rfl⟩: ∃ m,n=m+1:=⟨n-1,by omega⟩
 have hrl:=zau h
 obtain ⟨o,K,q1,q2⟩:=zoY hs' ih h hb hi (show m≤m+1 by omega) (by omega) hd
 have hbpl:=(zbp (s:=s) hs' m).2.1 i deep hi (by omega)
 refine zbf hs zII rfl rfl ?_
 rw [env86]
 unfold zDG
 rw [zfo]
 unfold brF at q2
 simp only [List.nil_append] at q2
 cases hx:zbA s m i deep with
 | er a w =>
  rw [hx] at q2
  obtain ⟨rfl,k,rfl⟩:=q2
  simp only
  rw [zaV]
  simp [zHb,zHa,a86,zad hs,zaa hs,zab hs,q1]
  exact ⟨k,rfl⟩
 | ok l k =>
  rw [hx] at q2 hbpl
  obtain ⟨rfl,rfl⟩:=q2
  obtain ⟨b1,b2,b3,b4,b5⟩:=hbpl
  have ht:Tree (k-i+1) (zaW 4 l):=zbI (.inl rfl) (fun x hx=>(b3 x hx).mono (by omega)) (by omega) (by omega) (by omega)
  obtain ⟨d1,d2,d3,d4,d5,d6,hds⟩:=Re.av_eight ht.wide
  rw [hds] at q1
  have hacc:Parts 5 (k+1) [zaW 4 l]:=by
   have h0:Parts 5 0 []:=⟨by simp,by simp [joinL],by simp⟩
   have:=h0.snoc ht (by omega)
   simpa using this.mono (show 0+(k-i+1)≤k+1 by omega)
  simp [zHb,zHa,a86,zad hs,zaa hs,zab hs,q1,za6]
  refine (zBC hs' ih (bar:=bar) (H:=H) hrl hb hd m k [zaW 4 l] _ (by omega) b2 (by omega) hacc (by simp) ?_ ?_ ?_).mono fun e t ht=> ?_
  ·simp
  ·simp
  ·simp [Re.avs,hds]
  ·cases hy:zlF s m k deep with
   | er a w =>
    rw [hy] at ht
    obtain ⟨rfl,E,j,rfl⟩:=ht
    simp only
    rw [zaV]
    simp
    exact ⟨j,rfl⟩
   | ok ls j =>
    rw [hy] at ht
    obtain ⟨rfl,v',rfl,k4,k5,hp,hj⟩:=ht
    have hjn:=hp.joined (.inr rfl) (by omega) bar (H.set r (some [.str s,num j])) _ (.inl rfl)
    have hjw:=hp.wide (.inr rfl) (by omega)
    obtain ⟨c1,c2,c3,c4,c5,c6,hcs⟩:=Re.av_eight hjw
    simp only [List.cons_append,List.nil_append] at hjn hcs k5 hp
    rw [hcs] at hjn
    simp only
    rw [zbo,hcs]
    simp at k4
    have hok:=zdk hp.rowWide
    have htk:List.take (zaW 4 l::ls).length (Re.avs (zaW 4 l::ls))=Re.avs (zaW 4 l::ls):=List.take_of_length_le (by simp [zaq])
    have hal:(Re.avs (zaW 4 l::ls)).length=(zaW 4 l::ls).length:=zaq _
    generalize zaW 4 l::ls=A at *
    simp [zKS,zad hs,zaa hs,k4,k5,hjn,hal,htk]
def zbK (x:PR Re):AV :=
 match x with
 | .er a w=> .tup [emptyRe.av,num a,num w]
 | .ok y _=> .tup [y.av,num 0,num 0]
theorem zx2 {bar:Nat} {H:Heap} (s:List UInt8):Rn fsT SA.sp bar 41 [.str s] H=some (.ret (zbK (zfS s)),H):=by
 have hz:emptyRe.av=zuM:=rfl
 have hm:Mono fun n=>zfB (run fsT spE n) [.str s] H:=fun n m r l e=>zlv (fun b=>zeH SA.mono n m b l) _ _ _ e
 rw [zDw,zfU hm]
 by_cases hl:400<s.length
 ·refine ⟨0,?_⟩
  have:Nat.ble s.length 400=false:=by
   cases h:Nat.ble s.length 400
   ·rfl
   ·have:=Nat.le_of_ble_eq_true h;omega
  simp only [zfB,this,cond_false,zfS,if_pos hl,zbK,hz]
  rfl
 ·have hle:Nat.ble s.length 400=true:=by rw [Nat.ble_eq];omega
  obtain ⟨o,K,q1,q2⟩:=zFD (s:=s) (by omega) (ziA s 0) 0 [some [.str s,num 0]] 0 0 0 rfl (Nat.le_refl _) (Nat.zero_le _) (by unfold ziA;omega) (Nat.zero_le _)
  obtain ⟨n,hn⟩:=(zhh SA.mono).1 q1
  refine ⟨n,?_⟩
  have hn':run fsT spE n 0 86 [.ptr 0 0, .int .i64 0] [some [.str s, .int .i64 0]]=some (o,K):=hn
  simp only [zfB,hle,cond_true,hn',zfS,if_neg hl]
  unfold zDG at q2
  have hpl:=(zbp (s:=s) (by omega) (ziA s 0)).1 0 0 (by omega) (by unfold ziA;omega)
  cases hx:zbP s (ziA s 0) 0 0 with
  | er a w =>
   rw [hx] at q2
   obtain ⟨rfl,j,rfl⟩:=q2
   simp only [zjv,num,zbK,hz]
  | ok ls j =>
   rw [hx] at q2 hpl
   obtain ⟨rfl,rfl⟩:=q2
   obtain ⟨b1,b2,b3,b4,b5,_⟩:=hpl
   have ht:Tree (j-0+1) (zaW 5 ls):=zbI (.inr rfl) b3 b4 (by omega) (by omega)
   obtain ⟨c1,c2,c3,c4,c5,c6,hcs⟩:=Re.av_eight ht.wide
   have hfr:=zhx 0 (List.set [some [AV.str s,num 0]] 0 (some [AV.str s,num j])) (zaW 5 ls)
   simp only [zbK]
   rw [hfr,hcs]
   rfl
end
end Go.Ak
