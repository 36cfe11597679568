/- What a pattern's New, Find, Is and All compute. -/
import Derived.Test.YtfcgnpphabplbaaGreatDoorOt
import Derived.Test.YtfcgnpphabplbaaGreatDoorOd
import Derived.Test.YtfcgnpphabplbaaGreatDoorOi
set_option linter.unusedVariables false
set_option linter.unusedSimpArgs false
namespace Go.Ak
attribute [local simp] zcx zd7 zd8 zfV zbm zc2 zaG za9 za0 zba zbs zbK zbL zbg zcJ zdJ zdK zcB zcC
 zaN zcN wanted zbb opd zkt live zcD zde zbA zcA ziq put zes esc zqx ztJ args drop1 zg1 zuW zuV ztH zou rd wr zbE sub AV.cells pack one setCells zeH znX zc3 roOf zaL zfw zav zau zey zbw newRow newObj step zcF zbM contents take flat look lim zex bound zec zeu eqS eqL eqA ver
 zcI zdI zdH zcG zcH
 List.getElem?_cons_zero List.getElem?_cons_succ zdl zbp zaE zaF zcE
attribute [local simp] sR sT cV bL mvV mvL mgV mgL asL asI asB ldN ldV ldL ldG stV stL fdL fdV fdG fgL nlC nlG bnI bvI bnL bvL bxI bxU bgI bgL exT lnS lgS clA clB clC clI pkT pkF pvT pvF pgT pgF ixL axV bxV apL
attribute [-simp] getElem?_pos
section
theorem capL_le: ∀ (l:List Re) (n:Nat),Re.capL n l≤500→ ∀ x∈l,x.cap≤500
 | [],_,_=>fun x hx=>by cases hx
 | y::l,n,h=>fun x hx=>by
  simp only [Re.capL] at h
  split at h
  ·omega
  ·rename_i h1
   rcases List.mem_cons.1 hx with rfl | hx
   ·omega
   ·exact capL_le l _ h x hx
theorem zrx {k:Int} {set:List Nat} {mn mx:Int} {l:List Re} (h:(Re.mk k set mn mx l).cap≤500): ∀ x∈l,x.cap≤500:=by
 refine capL_le l 0 ?_
 unfold Re.cap at h
 split at h<;>omega
theorem zit {r:Re} {w d:Int} (h:r.can w d=true) (hc:r.cap≤500):r.least≤500:=by
 have h1:=Re.least_cnt r (Re.can_fine r w d h)
 have h2:=Re.cap_cnt r w d h hc
 omega
theorem znB {bar:Nat} {l:List Re} {H:Heap} (hw:Re.wideL l) (hlen:l.length<1000000) (hsm:Re.leastSum l≤500)
  (ih: ∀ x∈l,Rn fsT SA.sp bar 66 [x.av] H=some (.ret (num x.least),H)) :
  ∀ (rest:List Re) (i n:Nat) (v:Nat→AV),i≤l.length→l.drop i=rest→n+Re.leastSum rest≤500→v 25=rowOf (Re.avs l)→v 26=num l.length→v 27=num i→v 3=num n →
   Wp (evI fsT SA.sp bar (.loop a66l13) (mkE 263952017659567 v,H)) (fun e t=>e= .exit 1∧ ∃ v',t=(mkE 263952017659567 v',H)∧v' 3=num (n+Re.leastSum rest)):=by
 have hs:=SA.mono
 intro rest
 induction rest with
 | nil =>
  intro i n v hi hr hn v25 v26 v27 v3
  have hi':i=l.length:=by
   have:=congrArg List.length hr
   rw [List.length_drop] at this;simp at this;omega
  subst hi'
  rw [zaj hs a66l13.eq_1]
  simp [zad hs,zaa hs,zab hs,zac hs,zG0,v26,v27]
  exact ⟨_,rfl,by simp [v3,Re.leastSum]⟩
 | cons x rest ihr =>
  intro i n v hi hr hn v25 v26 v27 v3
  have hi':i<l.length:=by
   have:=congrArg List.length hr
   rw [List.length_drop] at this;simp at this;omega
  have hdc:=List.drop_eq_getElem_cons hi'
  rw [hr] at hdc
  obtain ⟨hx,hr'⟩:=List.cons.inj hdc
  have hmem:x∈l:=hx▸List.getElem_mem hi'
  obtain ⟨c1,c2,c3,c4,c5,c6,hcs⟩:=Re.av_eight (zaC.1 hw x hmem)
  have hg:(Re.avs l)[i]? = some x.av:=by rw [zeo hi',←hx]
  have hne:Re.avs l ≠ []:=by rw [Re.avs_map];simp;intro e;subst e;simp at hi'
  have hcall:=ih x hmem
  rw [hcs] at hcall hg
  rw [za3 hne] at v25
  simp only [Re.leastSum] at hn
  have hw1:IntKind.i64.wrap ((i:Int)+1)=(i:Int)+1:=zal _ (by omega)
  have hw2:IntKind.i64.wrap ((n:Int)+(x.least:Int))=(n:Int)+(x.least:Int):=zal _ (by omega)
  rw [zaj hs a66l13.eq_1]
  simp [zad hs,zaa hs,zab hs,zac hs,zG0,zDN,zDM,zDL,v25,v26,v27,v3,hi',hg,hcall,hw1,hw2]
  refine (ihr (i+1) (n+x.least) _ (by omega) hr'.symm (by omega) ?_ ?_ ?_ ?_).mono fun e t h=> ?_
  ·simp [v25,za3 hne]
  ·simp [v26]
  ·simp
  ·simp
  ·obtain ⟨e1,v',e2,e3⟩:=h
   exact ⟨e1,v',e2,by rw [e3];simp only [Re.leastSum,Nat.add_assoc]⟩
def zwj (n:Nat):List Re→Nat
 | []=>n
 | x::l=>zwj (min n x.least) l
theorem zuY: ∀ (l:List Re) (n:Nat),l ≠ []→zwj n l=min n (Re.leastMin l)
 | [],_,h=>absurd rfl h
 | [x],n,_=>rfl
 | x::y::l,n,_=>by
  rw [zwj,zuY (y::l) _ (by simp)]
  simp only [Re.leastMin]
  omega
theorem zwi (x:Re) (l:List Re):zwj x.least (x::l)=Re.leastMin (x::l):=by
 rw [zuY _ _ (by simp)]
 have:=(zf2 x l).1
 omega
theorem znC {bar:Nat} {l:List Re} {H:Heap} (hw:Re.wideL l) (hlen:l.length<1000000)
  (ih: ∀ x∈l,Rn fsT SA.sp bar 66 [x.av] H=some (.ret (num x.least),H)) :
  ∀ (rest:List Re) (i n:Nat) (v:Nat→AV),i≤l.length→l.drop i=rest→v 44=rowOf (Re.avs l)→v 45=num l.length→v 46=num i→v 3=num n →
   Wp (evI fsT SA.sp bar (.loop a66l21) (mkE 263952017659567 v,H)) (fun e t=>e= .exit 3∧ ∃ v',t=(mkE 263952017659567 v',H)∧v' 3=num (zwj n rest)):=by
 have hs:=SA.mono
 intro rest
 induction rest with
 | nil =>
  intro i n v hi hr v44 v45 v46 v3
  have hi':i=l.length:=by
   have:=congrArg List.length hr
   rw [List.length_drop] at this;simp at this;omega
  subst hi'
  rw [zaj hs a66l21.eq_1]
  simp [zad hs,zaa hs,zab hs,zac hs,zzb,v45,v46]
  exact ⟨_,rfl,by simp [v3,zwj]⟩
 | cons x rest ihr =>
  intro i n v hi hr v44 v45 v46 v3
  have hi':i<l.length:=by
   have:=congrArg List.length hr
   rw [List.length_drop] at this;simp at this;omega
  have hdc:=List.drop_eq_getElem_cons hi'
  rw [hr] at hdc
  obtain ⟨hx,hr'⟩:=List.cons.inj hdc
  have hmem:x∈l:=hx▸List.getElem_mem hi'
  obtain ⟨c1,c2,c3,c4,c5,c6,hcs⟩:=Re.av_eight (zaC.1 hw x hmem)
  have hg:(Re.avs l)[i]? = some x.av:=by rw [zeo hi',←hx]
  have hne:Re.avs l ≠ []:=by rw [Re.avs_map];simp;intro e;subst e;simp at hi'
  have hcall:=ih x hmem
  rw [hcs] at hcall hg
  rw [za3 hne] at v44
  have hw1:IntKind.i64.wrap ((i:Int)+1)=(i:Int)+1:=zal _ (by omega)
  have hmin:min (n:Int) (x.least:Int)=((min n x.least:Nat):Int):=by omega
  rw [zaj hs a66l21.eq_1]
  simp [zad hs,zaa hs,zab hs,zac hs,zzb,zDI,zDH,zDG,v44,v45,v46,v3,hi',hg,hcall,hw1]
  refine (ihr (i+1) (min n x.least) _ (by omega) hr'.symm ?_ ?_ ?_ ?_).mono fun e t h=>h
  ·simp [v44,za3 hne]
  ·simp [v45]
  ·simp
  ·by_cases h:x.least<n
   ·have e:min n x.least=x.least:=by omega
    simp [h,e]
   ·have e:min n x.least=n:=by omega
    simp [h,e]
theorem zwm {k:Int} {set:List Nat} {mn mx:Int} {l:List Re} {within deep:Int} (hc:(Re.mk k set mn mx l).can within deep=true) (hcap:(Re.mk k set mn mx l).cap≤500) (hw:(Re.mk k set mn mx l).wide)
  (ih: ∀ x∈l,Rn fsT SA.sp 0 66 [x.av] []=some (.ret (num x.least),[])) (bar:Nat) (H:Heap):Rn fsT SA.sp bar 66 [(Re.mk k set mn mx l).av] H=some (.ret (num (Re.mk k set mn mx l).least),H):=by
 have hs:=SA.mono
 obtain ⟨r1,r2,r3,r4,r5,r6,r7⟩:=zlO hc
 have hsm:=zit hc hcap
 unfold Re.wide at hw
 obtain ⟨h4,hlen,⟨m1,m2,m3,m4⟩,hwl⟩:=hw
 obtain ⟨a,b,c,d,rfl⟩:=four h4
 refine zao hs zIf rfl (by simp only [zdv,zfG];rfl) rfl ?_
 rw [env66]
 by_cases e1:k=1
 ·subst e1
  have hl:(Re.mk 1 [a,b,c,d] mn mx l).least=1:=by simp [Re.least]
  rw [hl]
  simp [a66,zwQ,zwP,zwO,zwN,zza,zad hs,zaa hs,zab hs,zac hs,Re.av]
 have e1':(k==1)=false:=by simpa using e1
 by_cases e6:k=6
 ·subst e6
  obtain ⟨s1,s2,s3,s4,s5⟩:=r6 rfl
  obtain ⟨x,rfl⟩: ∃ x,l= [x]:=by
   match l,s1 with
   | [x],_=>exact ⟨x,rfl⟩
  have hx:=ih x (by simp)
  simp only [Re.wideL,and_true] at hwl
  obtain ⟨c1,c2,c3,c4,c5,c6,hcs⟩:=Re.av_eight hwl
  have hl:(Re.mk 6 [a,b,c,d] mn mx [x]).least=mn.toNat*x.least:=by simp [Re.least,Re.leastHead]
  rw [hl] at hsm ⊢
  obtain ⟨N,rfl⟩: ∃ N:Nat,mn=(N:Int):=⟨mn.toNat,by omega⟩
  have hxN:x.least≤500:=zit (zpF.1 r7 x (by simp)) (zrx hcap x (by simp))
  have hrow6:rowOf (Re.avs [x])= .slc .ro [x.av]:=rfl
  rw [hcs] at hx hrow6
  obtain ⟨D,hD⟩: ∃ D,N*x.least=D:=⟨_,rfl⟩
  simp only [Int.toNat_natCast] at hsm ⊢
  rw [hD] at hsm ⊢
  have hDI:(N:Int)*(x.least:Int)=(D:Int):=by rw [←hD];push_cast;rfl
  have hwD:IntKind.i64.wrap (D:Int)=(D:Int):=zal _ (by omega)
  simp [a66,zaz,zau,zav,zwQ,zwP,zwO,zwN,zza,zy9,zCC,zad hs,zaa hs,zai hs,zab hs,zac hs,Re.av,hrow6,hx,hDI,hwD]
 have e6':(k==6)=false:=by simpa using e6
 have hrow:(l= []∧rowOf (Re.avs l)= .nils)∨rowOf (Re.avs l)= .slc .ro (Re.avs l):=by
  cases l with
  | nil=>exact .inl ⟨rfl,rfl⟩
  | cons x l=>exact .inr rfl
 by_cases e4:k=4
 ·subst e4
  have hl:(Re.mk 4 [a,b,c,d] mn mx l).least=Re.leastSum l:=by simp [Re.least]
  rw [hl] at hsm ⊢
  rcases hrow with ⟨rfl,hrow⟩ | hrow
  all_goals
   simp [a66,zwQ,zwP,zwO,zwN,zza,zy9,zCC,zCB,zKH,zad hs,zaa hs,zai hs,zab hs,zac hs,Re.av,hrow]
   refine (znB (bar:=0) (H:= []) hwl hlen hsm ih _ 0 0 _ (Nat.zero_le _) (List.drop_zero) (by rw [Nat.zero_add];exact hsm) ?_ ?_ ?_ ?_).mono fun e t h=> ?_
   ·simp [hrow]
   ·simp [zaq]
   ·simp
   ·simp
   ·obtain ⟨rfl,v',rfl,q3⟩:=h
    simp [zvi,zad hs,zaa hs,q3]
 have e4':(k==4)=false:=by simpa using e4
 by_cases e5:k=5
 ·subst e5
  have hl2:=r5 rfl
  have hl:(Re.mk 5 [a,b,c,d] mn mx l).least=Re.leastMin l:=by simp [Re.least]
  rw [hl] at hsm ⊢
  obtain ⟨x,l',rfl⟩: ∃ x l',l=x::l':=by
   cases l with
   | nil=>simp at hl2
   | cons x l'=>exact ⟨x,l',rfl⟩
  have hx:=ih x (by simp)
  have hxw:x.wide:=by simp only [Re.wideL] at hwl;exact hwl.1
  obtain ⟨c1,c2,c3,c4,c5,c6,hcs⟩:=Re.av_eight hxw
  have hrow:rowOf (Re.avs (x::l'))= .slc .ro (Re.avs (x::l')):=rfl
  have h0:(Re.avs (x::l'))[0]? = some x.av:=rfl
  have hlen0:(Re.avs (x::l')).length=(x::l').length:=zaq _
  rw [hcs] at hx h0
  rw [←zwi]
  have hpos:0<(x::l').length:=by simp
  have hloop:=fun v=>znC (bar:=0) (H:= []) hwl hlen ih (x::l') 0 x.least v (Nat.zero_le _) rfl
  generalize x::l'=L at *
  simp [a66,zwQ,zwP,zwO,zwN,zza,zy9,zCC,zCB,zzc,zDK,zDJ,zad hs,zaa hs,zai hs,zab hs,zac hs,Re.av,hrow,hlen0,h0,hx,hpos]
  refine (hloop _ ?_ ?_ ?_ ?_).mono fun e t h=> ?_
  ·simp [hrow]
  ·simp
  ·simp
  ·simp
  ·obtain ⟨rfl,v',rfl,q3⟩:=h
   simp [zvi,zad hs,zaa hs,q3]
 have e5':(k==5)=false:=by simpa using e5
 have hl:(Re.mk k [a,b,c,d] mn mx l).least=0:=by simp [Re.least,e1,e4,e5,e6]
 rw [hl]
 simp [a66,zwQ,zwP,zwO,zwN,zy9,zCB,zzc,zvi,zad hs,zaa hs,zai hs,zab hs,zac hs,Re.av,e1',e4',e5',e6']
mutual
theorem zq3: ∀ (r:Re) (within deep:Int),r.can within deep=true→r.cap≤500→r.wide→ ∀ (bar:Nat) (H:Heap),Rn fsT SA.sp bar 66 [r.av] H=some (.ret (num r.least),H)
 | .mk k set mn mx l,within,deep,hc,hcap,hw,bar,H=>zwm hc hcap hw (fun x hx=>zn5 l k deep (zlO hc).2.2.2.2.2.2 (zrx hcap) (by unfold Re.wide at hw;exact hw.2.2.2) x hx) bar H
theorem zn5: ∀ (l:List Re) (k deep:Int),Re.canL l k deep=true→(∀ x∈l,x.cap≤500)→Re.wideL l→ ∀ x∈l,Rn fsT SA.sp 0 66 [x.av] []=some (.ret (num x.least),[])
 | [],_,_,_,_,_=>fun x hx=>by cases hx
 | y::l,k,deep,hc,hcap,hw=>fun x hx=>by
  unfold Re.wideL at hw
  simp only [Re.canL,Bool.and_eq_true] at hc
  rcases List.mem_cons.1 hx with e | h
  ·rw [e];exact zq3 y k (deep+1) hc.1 (hcap y (by simp)) hw.1 0 []
  ·exact zn5 l k deep hc.2 (fun z hz=>hcap z (List.mem_cons_of_mem _ hz)) hw.2 x h
end
theorem zAK {bar:Nat} {r:Re} (hw:r.wide) (hc:r.can (-1) 1=true) (hcap:r.cap≤500) (H:Heap):Rn fsT SA.sp bar 42 [r.av] H=some (.ret (num r.least),H):=by
 have hs:=SA.mono
 have h1:=ztB (S:=SA) r hw (-1) 1 (by omega) (by omega) 0 []
 rw [hc] at h1
 have h2:=zq3 r (-1) 1 hc hcap hw 0 []
 obtain ⟨c1,c2,c3,c4,c5,c6,hcs⟩:=Re.av_eight hw
 refine zao hs zIr rfl (by simp only [zdv,zfG];rfl) rfl ?_
 rw [env42]
 rw [hcs] at h1 h2 ⊢
 simp [a42,zKW,zKV,zKU,zKT,zad hs,zaa hs,zac hs,h1,h2]
end
end Go.Ak
namespace Go.Ak
def zx9:List Nat→Int
 | []=> -1
 | [a]=>a
 | _::b::l=>zx9 (b::l)
theorem zn6: ∀ (l:List Nat),l.Pairwise (· < ·)→(l= []∧zx9 l= -1)∨(∃ m∈l,zx9 l=(m:Int)∧ ∀ k∈l,k≤m)
 | [],_=> .inl ⟨rfl,rfl⟩
 | [a],_=> .inr ⟨a,by simp,rfl,fun k hk=>by simp at hk;omega⟩
 | a::b::l,h=>by
  obtain ⟨h1,h2⟩:=List.pairwise_cons.1 h
  rcases zn6 (b::l) h2 with ⟨e,_⟩ | ⟨m,m1,m2,m3⟩
  ·cases e
  ·refine .inr ⟨m,List.mem_cons_of_mem _ m1,m2,fun k hk=> ?_⟩
   rcases List.mem_cons.1 hk with rfl | hk
   ·exact Nat.le_of_lt (h1 m m1)
   ·exact m3 k hk
def eF (r:Re) (s:List UInt8) (i:Nat):Int:=zx9 (zpu (machine r).2 (machine r).1 s i)
theorem zyE {r:Re} (h:r.fine) {s:List UInt8} {i:Nat} (hi:i≤s.length):(eF r s i= -1∧ ∀ j,¬ r.M s i j)∨(∃ j:Nat,eF r s i=(j:Int)∧r.M s i j∧ ∀ k,r.M s i k→k≤j):=by
 obtain ⟨h1,h2⟩:=zrk h hi
 rcases zn6 _ h2 with ⟨e,e2⟩ | ⟨m,m1,m2,m3⟩
 ·refine .inl ⟨e2,fun j hj=> ?_⟩
  have:=(h1 j).2 hj
  rw [e] at this;cases this
 ·exact .inr ⟨m,m2,(h1 m).1 m1,fun k hk=>m3 k ((h1 k).2 hk)⟩
theorem zpx {r:Re} (h:r.fine) (s:List UInt8):Ahead (eF r s) s.length:=by
 intro i hi
 rcases zyE h hi with ⟨e,_⟩ | ⟨j,e,hm,_⟩
 ·exact .inl (by omega)
 ·have h1:=Re.least_ok s r i j hm
  have h2:=Re.M_stays s r i j (by omega) hm
  exact .inr (by omega)
theorem zBY {r:Re} (h:r.fine) {s:List UInt8} {i:Nat} (hi:i≤s.length) (hl:s.length<i+r.least):eF r s i<0:=by
 rcases zyE h hi with ⟨e,_⟩ | ⟨j,e,hm,_⟩
 ·omega
 ·have h1:=Re.least_ok s r i j hm
  have h2:=Re.M_stays s r i j (by omega) hm
  omega
theorem zmg {len:Nat}: ∀ {l:List (Nat×Nat)} {at':Nat} {last:Int},InOrder len at' last l→ -1≤last→(l.length:Int)+last≤len∨l= []
 | [],_,_,_,_=> .inr rfl
 | (f,t)::l,at',last,h,hl=>by
  obtain ⟨a,b,c,d,e⟩:=h
  rcases zmg e (by omega) with h1 | rfl
  ·left;simp only [List.length_cons];omega
  ·left;simp only [List.length_cons,List.length_nil];omega
def zqV (x:Nat×Nat):Int×Int:=(x.1,x.2)
theorem zhT {e:Nat→Int} {len:Nat} (he:Ahead e len) (hlen:len≤1000000) {find:Int→Option (Int×Int×Bool)}
  (hf: ∀ a:Nat,a≤len→find a=some (match zlM e (len+1-a) a with | none=>(0,0,false) | some (f,t)=>((f:Int),(t:Int),true))) :
  ∀ (n at':Nat) (last:Int),zg4 len at' last≤n→zbu find len n at' last=some ((zCc e len n at' last).map zqV)
 | 0,at',last,h=>by unfold zg4 at h;omega
 | n+1,at',last,h=>by
  rw [zbu,zCc]
  by_cases h0:len<at'
  ·have:decide ((at':Int)≤(len:Int))=false:=by simp;omega
   rw [this,if_pos h0];rfl
  ·have hd:decide ((at':Int)≤(len:Int))=true:=by simp;omega
   rw [hd,if_neg h0,hf at' (by omega)]
   simp only [cond_true]
   cases hq:zlM e (len+1-at') at' with
   | none=>rfl
   | some q =>
    obtain ⟨f,t⟩:=q
    obtain ⟨a1,a2,a3,_,_⟩:=zmn he _ at' (by omega) hq
    simp only [cond_true]
    by_cases hc:f=t∧(f:Int)=last
    ·have hcd:(decide ((f:Int)=(t:Int))&&decide ((f:Int)=last))=true:=by simp;omega
     have hw:RowKit.wrap64 ((f:Int)+1)=((f+1:Nat):Int):=by
      unfold RowKit.wrap64
      omega
     rw [hcd,if_pos hc,hw]
     simp only [cond_true]
     refine zhT he hlen hf n (f+1) last ?_
     unfold zg4 at h ⊢
     obtain ⟨c1,c2⟩:=hc
     have: ¬ ((f+1:Nat):Int)=last:=by omega
     rw [if_neg this]
     split at h<;>omega
    ·have hcd:(decide ((f:Int)=(t:Int))&&decide ((f:Int)=last))=false:=by
      rw [Bool.and_eq_false_iff]
      by_cases e1:f=t
      ·exact .inr (by simp;intro e2;exact hc ⟨e1,e2⟩)
      ·exact .inl (by simp;omega)
     rw [hcd,if_neg hc]
     simp only [cond_false]
     have ih:=zhT he hlen hf n t t (by
      unfold zg4 at h ⊢
      rw [if_pos rfl]
      split at h
      ·rename_i e1
       by_cases e2:t=at'
       ·exact absurd ⟨by omega,by omega⟩ hc
       ·omega
      ·omega)
     rw [ih]
     rfl
end Go.Ak
namespace Go.Ak
attribute [local simp] zcx zd7 zd8 zfV zbm zc2 zaG za9 za0 zba zbs zbK zbL zbg zcJ zdJ zdK zcB zcC
 zaN zcN wanted zbb opd zkt live zcD zde zbA zcA ziq put zes esc zqx ztJ args drop1 zg1 zuW zuV ztH zou rd wr zbE sub AV.cells pack one setCells zeH znX zc3 roOf zaL zfw zav zau zey zbw newRow newObj step zcF zbM contents take flat look lim zex bound zec zeu eqS eqL eqA ver
 zcI zdI zdH zcG zcH
 List.getElem?_cons_zero List.getElem?_cons_succ zdl zbp zaE zaF zcE
attribute [local simp] sR sT cV bL mvV mvL mgV mgL asL asI asB ldN ldV ldL ldG stV stL fdL fdV fdG fgL nlC nlG bnI bvI bnL bvL bxI bxU bgI bgL exT lnS lgS clA clB clC clI pkT pkF pvT pvF pgT pgF ixL axV bxV apL
attribute [-simp] getElem?_pos
section
theorem zya: ∀ l:List Nat,zth l=zx9 l
 | []=>rfl
 | [_]=>rfl
 | _::b::l=>zya (b::l)
structure Pat (H:Heap) (p:Nat) (t:List UInt8) (r:Re):Prop where
 fine:r.fine
 small:r.cnt≤499
 least:r.least≤500
 obj: ∃ pid q,hget H p=some (some [.str t, .ptr pid 0,num r.least])∧PC H pid q (machine r).2 (machine r).1
def zsp (s:List UInt8) (H:Heap) (x:PR Re) (o:Out) (H':Heap):Prop :=
 match x with
 | .er a w=>o= .ret (.tup [.nilp,num a,num w])∧H'=H
 | .ok r _=> ∃ p,o= .ret (.tup [.ptr p 0,num 0,num 0])∧H.length≤p∧(∀ i,i<H.length→hget H' i=hget H i)∧Pat H' p s r
theorem zHo {bar:Nat} {H:Heap} (s:List UInt8) (hb:bar≤H.length):Wc (Rn fsT SA.sp bar 10 [.str s] H) (zsp s H (zwW s)):=by
 have hs:=SA.mono
 have hz:emptyRe.av= .agg [.int .i64 0, .int .u64 0, .int .u64 0, .int .u64 0, .int .u64 0, .int .i64 0, .int .i64 0, .nils]:=rfl
 have hp:=fun H=>zxF (bar:=bar) (H:=H) s
 refine zaO hs zIx rfl rfl ?_
 rw [env10]
 unfold zwW
 cases hx:zfy s with
 | er a w =>
  have hw:=zpe hx
  have hw2:((w:Int) != 0)=true:=by simp [bne];omega
  rw [hx] at hp
  simp only [zbP,hz] at hp
  simp [zsp,zAc,zAb,zAa,zz9,a10,zad hs,zaa hs,zac hs,hp,hw,hw2]
 | ok r j =>
  have hrw:=zkr hx
  rw [hx] at hp
  obtain ⟨c1,c2,c3,c4,c5,c6,hcs⟩:=Re.av_eight hrw
  simp only [zbP] at hp
  obtain ⟨o,H1,q1,q2⟩:=zAN (S:=SA) (bar:=bar) (H:=H) hrw hb
  rw [hcs] at hp q1
  replace hp: ∀ H,Rn fsT SA.sp bar 41 [.str s] H=some (.ret (.tup [.agg [.int .i64 r.k,c1,c2,c3,c4,c5,c6,rowOf (Re.avs r.l)], .int .i64 0, .int .i64 0]),H):=hp
  rcases q2 with ⟨h0,rfl,rfl⟩ | ⟨h5,rfl,rfl⟩ | ⟨h0,h5,rfl,hF,q,hq,hPC⟩
  ·simp only
   rw [if_pos h0]
   simp [zsp,zAc,zAb,zAa,zz9,zC6,zC5,zC4,a10,zad hs,zaa hs,zac hs,hp,q1]
  ·simp only
   rw [if_neg (by omega),if_pos h5]
   simp [zsp,zAc,zAb,zAa,zz9,zC6,zC5,zC4,a10,zad hs,zaa hs,zac hs,hp,q1]
  ·simp only
   rw [if_neg (by omega),if_neg (by omega)]
   have hcan:r.can (-1) 1=true:=by
    cases h:r.can (-1) 1 with
    | true=>rfl
    | false=>simp [Re.states,h] at h0
   have hst:r.states=min r.cap 500+1:=by simp [Re.states,hcan]
   have hcap:r.cap≤499:=by omega
   have hfine:=Re.can_fine r (-1) 1 hcan
   have hcnt:=Re.cap_cnt r (-1) 1 hcan (by omega)
   have hleast:=zAK (bar:=bar) hrw hcan (by omega) H1
   have hle:=zit hcan (by omega)
   have hl1:H.length<H1.length:=zas hPC.pc
   rw [hcs] at hleast
   simp [zsp,zAc,zAb,zAa,zz9,zC6,zC5,zC4,zLc,a10,zad hs,zaa hs,zac hs,hp,q1,hleast]
   refine ⟨by omega,fun i hi=> ?_,hfine,by omega,hle,H.length,q,zbp _ _,hPC.app _⟩
   rw [za5 _ (by omega)]
   exact hF i hi
def zyw (x:Option (Nat×Nat)):AV:=match x with
 | none=> .tup [num 0,num 0, .bool false]
 | some (f,t)=> .tup [num f,num t, .bool true]
theorem zyv {bar:Nat} {H:Heap} {p:Nat} {t:List UInt8} {r:Re} (hP:Pat H p t r) {s:List UInt8} (hl:s.length≤100000) :
  ∀ (n at':Nat) (v:Nat→AV),at'+n=s.length+1→v 0= .ptr p 0→v 1= .str s→v 2=num at' →
   Wp (evI fsT SA.sp bar (.loop a43l8) (mkE 2148535239 v,H)) (fun e t'=>match zlM (eF r s) n at' with
    | none=>e= .exit 0∧ ∃ v',t'=(mkE 2148535239 v',H)
    | some (a,b)=>e= .ret∧ ∃ v',t'=(mkE 2148535239 v',H)∧v' 6=num a∧v' 7=num b∧v' 8= .bool true):=by
 have hs:=SA.mono
 obtain ⟨hfine,hsmall,hleast,pid,q,ho,hPC⟩:=hP
 obtain ⟨g1,g2,g3,g4⟩:=zg2 hfine
 intro n
 induction n with
 | zero =>
  intro at' v hn v0 v1 v2
  have hx: ¬ (at':Int)+(r.least:Int)≤(s.length:Int):=by omega
  have hw:IntKind.i64.wrap ((at':Int)+(r.least:Int))=(at':Int)+(r.least:Int):=zal _ (by omega)
  rw [zaj hs a43l8.eq_1]
  simp [zad hs,zaa hs,zab hs,zac hs,zzd,v0,v1,v2,ho,hw,hx,zlM]
  exact ⟨_,rfl⟩
 | succ n ih =>
  intro at' v hn v0 v1 v2
  have hat:at'≤s.length:=by omega
  have hw:IntKind.i64.wrap ((at':Int)+(r.least:Int))=(at':Int)+(r.least:Int):=zal _ (by omega)
  have hw1:IntKind.i64.wrap ((at':Int)+1)=(at':Int)+1:=zal _ (by omega)
  rw [zaj hs a43l8.eq_1]
  by_cases hx:(at':Int)+(r.least:Int)≤(s.length:Int)
  ·have hL:=zur (S:=SA) (bar:=bar) (s:=s) (at':=at') hPC g1 g2 (by omega) (by omega) hat
   have he:zth (zpu (machine r).2 (machine r).1 s at')=eF r s at':=zya _
   rw [he] at hL
   by_cases hx2:0≤eF r s at'
   ·have hfn:zlM (eF r s) (n+1) at'=some (at',(eF r s at').toNat):=by rw [zlM,if_pos hx2]
    have hb:num (eF r s at').toNat= .int .i64 (eF r s at'):=by simp only [num,AV.int.injEq,true_and];omega
    rw [hfn]
    simp [zad hs,zaa hs,zab hs,zac hs,zzd,zHb,zHa,zG9,v0,v1,v2,ho,hw,hx,hL,hx2]
    exact ⟨_,rfl,by simp,by simp;omega,by simp⟩
   ·have hfn:zlM (eF r s) (n+1) at'=zlM (eF r s) n (at'+1):=by rw [zlM,if_neg hx2]
    rw [hfn]
    simp [zad hs,zaa hs,zab hs,zac hs,zzd,zHb,zHa,zG9,zKP,v0,v1,v2,ho,hw,hx,hL,hx2,hw1]
    refine ih (at'+1) _ (by omega) ?_ ?_ ?_
    ·simp [v0]
    ·simp [v1]
    ·simp
  ·have hfn:zlM (eF r s) (n+1) at'=none:=by
    rw [zra]
    intro i h1 h2
    exact zBY hfine (by omega) (by omega)
   rw [hfn]
   simp [zad hs,zaa hs,zab hs,zac hs,zzd,v0,v1,v2,ho,hw,hx]
   exact ⟨_,rfl⟩
theorem zBP {bar:Nat} {H:Heap} {p:Nat} {t:List UInt8} {r:Re} (hP:Pat H p t r) {s:List UInt8} (hl:s.length≤100000) {at':Nat} (hat:at'≤s.length+1) :
  Rn fsT SA.sp bar 43 [.ptr p 0, .str s,num at'] H=some (.ret (zyw (zlM (eF r s) (s.length+1-at') at')),H):=by
 have hs:=SA.mono
 refine zcX hs zIq rfl rfl rfl ?_
 rw [env43]
 have hx: ¬ (at':Int)<0:=by omega
 simp [zKS,zKR,zKQ,a43,zad hs,zaa hs,zab hs,zac hs,hx]
 refine (zyv (bar:=H.length) hP hl (s.length+1-at') at' _ (by omega) ?_ ?_ ?_).mono fun e t' h=> ?_
 ·simp
 ·simp
 ·simp
 cases hq:zlM (eF r s) (s.length+1-at') at' with
 | none =>
  rw [hq] at h
  obtain ⟨rfl,v',rfl⟩:=h
  simp [zKO,zad hs,zaa hs,zyw,frz,zbd]
 | some x =>
  obtain ⟨a,b⟩:=x
  rw [hq] at h
  obtain ⟨rfl,v',rfl,q6,q7,q8⟩:=h
  simp [q6,q7,q8,zyw,frz,zbd]
def zln (r:Re) (s:List UInt8):List (Nat×Nat):=zCc (eF r s) s.length (zg4 s.length 0 (-1)) 0 (-1)
theorem zrD {r:Re} (h:r.fine) (s:List UInt8):InOrder s.length 0 (-1) (zln r s):=zkJ (zpx h s) _ 0 (-1) (by omega)
theorem zHs {bar:Nat} {H:Heap} {p:Nat} {t:List UInt8} {r:Re} (hP:Pat H p t r) {s:List UInt8} (hl:s.length≤100000) :
  Rn fsT SA.sp bar 11 [.ptr p 0, .str s] H=some (.ret (zuO ((zln r s).map zqV)),H):=by
 have hm:Mono fun n=>zo9 n (run fsT spF n) [.ptr p 0, .str s] H:=fun n m r l e=>znQ l (fun b=>zet SA.mono n m b l) _ _ _ e
 rw [zLe,zfA hm]
 -- every find is told by some bound
 have each: ∀ a:Nat,a≤s.length→ ∃ n,run fsT spF n H.length 43 [.ptr p 0, .str s,num a] H=some (.ret (zyw (zlM (eF r s) (s.length+1-a) a)),H):=fun a ha =>
  (zgR SA.mono).1 (zBP hP hl (by omega))
 have bound: ∀ m,m≤s.length+1→ ∃ N,∀ a,a<m→run fsT spF N H.length 43 [.ptr p 0, .str s,num a] H=some (.ret (zyw (zlM (eF r s) (s.length+1-a) a)),H):=by
  intro m
  induction m with
  | zero=>exact fun _=>⟨0,fun a ha=>by omega⟩
  | succ m ih =>
   intro hm
   obtain ⟨N,hN⟩:=ih (by omega)
   obtain ⟨n,hn⟩:=each m (by omega)
   refine ⟨max N n,fun a ha=> ?_⟩
   by_cases e:a=m
   ·subst e;exact zet SA.mono n (max N n) H.length (by omega) _ _ _ _ hn
   ·exact zet SA.mono N (max N n) H.length (by omega) _ _ _ _ (hN a (by omega))
 obtain ⟨N,hN⟩:=bound (s.length+1) (Nat.le_refl _)
 refine ⟨max N (zg4 s.length 0 (-1)),?_⟩
 have hfind: ∀ a:Nat,a≤s.length→zpq (run fsT spF (max N (zg4 s.length 0 (-1)))) p 0 s H a=some (match zlM (eF r s) (s.length+1-a) a with | none=>(0,0,false) | some (f,t)=>((f:Int),(t:Int),true)):=fun a ha=>by
  have h:=zet SA.mono N (max N (zg4 s.length 0 (-1))) H.length (by omega) _ _ _ _ (hN a (by omega))
  unfold zpq
  replace h:run fsT spF (max N (zg4 s.length 0 (-1))) H.length 43 [.ptr p 0, .str s, .int .i64 a] H=_:=h
  rw [h]
  cases hq:zlM (eF r s) (s.length+1-a) a with
  | none=>rfl
  | some x=>rfl
 have hparts:=zhT (zpx hP.fine s) (by omega) hfind (max N (zg4 s.length 0 (-1))) 0 (-1) (by omega)
 have hdet:zCc (eF r s) s.length (max N (zg4 s.length 0 (-1))) 0 (-1)=zln r s:=by
  have h1:=zhT (zpx hP.fine s) (by omega) hfind (zg4 s.length 0 (-1)) 0 (-1) (Nat.le_refl _)
  have h2:=zf1 (fun a r h=>h) (zg4 s.length 0 (-1)) (max N (zg4 s.length 0 (-1))) 0 (-1) _ (by omega) h1
  have h3:some ((zCc (eF r s) s.length (max N (zg4 s.length 0 (-1))) 0 (-1)).map zqV)=some ((zln r s).map zqV):=by rw [←hparts];exact h2
  have h4:=Option.some.inj h3
  refine (List.map_inj_right fun x y h=> ?_).1 h4
  obtain ⟨a,b⟩:=x
  obtain ⟨c,d⟩:=y
  simp only [zqV,Prod.mk.injEq] at h
  simp only [Prod.mk.injEq]
  omega
 rw [hdet] at hparts
 have hord:=zmg (zrD hP.fine s) (by omega)
 have hlen:Nat.ble ((zln r s).map zqV).length 1000000=true:=by
  rw [Nat.ble_eq,List.length_map]
  rcases hord with h | h
  ·omega
  ·rw [h];simp
 simp only [zo9]
 replace hparts:zbu (zpq (run fsT spF (max N (zg4 s.length 0 (-1)))) p 0 s H) (s.length:Int) (max N (zg4 s.length 0 (-1))) 0 (-1)=_:=hparts
 rw [hparts]
 simp only [hlen,cond_true]
end
end Go.Ak
