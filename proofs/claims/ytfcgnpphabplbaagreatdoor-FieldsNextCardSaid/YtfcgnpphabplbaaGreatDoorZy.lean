/- The document's Next; that the law answers true. -/
import Derived.Test.YtfcgnpphabplbaaGreatDoorZx
set_option linter.unusedVariables false
set_option linter.unusedSimpArgs false
namespace Go.Ak
attribute [local simp] zbI zc2 zc3 zey zbd zcH zaD zaW zaN zaX zbc zbt zbu za6 zbY zcZ zc0 zbP zbQ
 zaL zcL wanted zbh opd zi2 live zbS zcM zbk zbO zgZ put zdv esc znn zpZ args drop1 zf8 zpW zqn zpY zmb rd wr zbD sub AV.cells pack one setCells zek zlL zcO roOf zaK zeJ zav zat zdr zbi newRow newObj step zbU zbv contents take flat look lim zdV bound zdg zdy eqS eqL eqA ver
 zbX zcY zcX zbV zbW
 List.getElem?_cons_zero List.getElem?_cons_succ zcW zba zaA zaB zbT
attribute [local simp] sR sT cV bL mvV mvL mgV mgL asL asI asB ldN ldV ldL ldG stV stL fdL fdV fdG fgL nlC nlG bnI bvI bnL bvL bxI bxU bgI bgL exT lnS lgS clA clB clC clI pkT pkF pvT pvF pgT pgF ixL axV bxV apL
attribute [-simp] getElem?_pos
section
theorem zjd {bar:Nat} {H:Heap} {s:List UInt8} {i:Nat}:Rn fsT SA.sp bar 154 [.str s,num i] H=some (.ret (.int .u8 (match s[i]? with | some c=>c.toNat | none=>0)),H):=by
 have hs:=SA.mono
 refine zao hs zFw rfl rfl rfl ?_
 rw [zI1]
 by_cases h:i<s.length
 ·have hI:(i:Int)<(s.length:Int):=by omega
  have hc:s[i]? = some s[i]:=List.getElem?_eq_getElem h
  generalize s[i]=c at hc
  simp [a154,zzg,zzf,zze,zzd,zad hs,zaa hs,zac hs,h,hI,hc,frz,zbj]
 ·have hI: ¬ (i:Int)<(s.length:Int):=by omega
  have hc:s[i]? = none:=List.getElem?_eq_none (by omega)
  simp [a154,zzg,zzf,zze,zzd,zad hs,zaa hs,zac hs,h,hI,hc,frz,zbj]
theorem zAH {s:List UInt8} {i:Nat} {c:UInt8} (hc:s[i]? = some c):zf3 s i↔c=10∧(i+1=s.length∨s[i+1]? = some 10):=by
 constructor
 ·intro h
  have h1:=zwR h
  rw [zgc hc] at h1
  by_cases e:c=10
  ·refine ⟨e,?_⟩
   rcases h with h | h
   ·rw [zgc hc,if_pos e] at h
    right
    cases h2:s[i+1]? with
    | none=>rw [zh6 (List.getElem?_eq_none_iff.1 h2)] at h;omega
    | some d =>
     rw [zgc h2] at h
     by_cases e2:d=10
     ·rw [e2]
     ·rw [if_neg e2] at h;omega
   ·exact .inl h.2
  ·rw [if_neg e] at h1;omega
 ·rintro ⟨rfl,h | h⟩
  ·exact zwQ hc h
  ·exact zAG hc h
theorem zwW {bar:Nat} {H:Heap} {s rs:List UInt8} (hl:s.length≤1000000): ∀ (m i:Nat) (v:Nat→AV),i+m=s.length→v 0= .str s→v 1=num i→v 2= .str rs →
  Wp (evI fsT SA.sp bar (.loop a151l6) (mkE 1393966882245442077970300392704551965425607 v,H)) (fun e t=>e= .exit 0∧ ∃ v',t=(mkE 1393966882245442077970300392704551965425607 v',H)∧v' 0= .str s∧v' 1=num (i+zdC (s.drop i))∧v' 2= .str rs):=by
 have hs:=SA.mono
 intro m
 induction m with
 | zero =>
  intro i v hi v0 v1 v2
  have hc:s[i]? = none:=List.getElem?_eq_none (by omega)
  have hcall:=fun H=>zjd (bar:=bar) (H:=H) (s:=s) (i:=i)
  rw [hc] at hcall
  rw [zh6 (by omega)]
  rw [zah hs a151l6.eq_1]
  simp [zad hs,zaa hs,zab hs,zac hs,zon,zom,v0,v1,hcall]
  exact ⟨_,rfl,by simp [v0],by simp [v1],by simp [v2]⟩
 | succ m ih =>
  intro i v hi v0 v1 v2
  have hc:s[i]? = some (s[i]'(by omega)):=List.getElem?_eq_getElem _
  have hcall:=fun H=>zjd (bar:=bar) (H:=H) (s:=s) (i:=i)
  have hw1:IntKind.i64.wrap ((i:Int)+1)=(i:Int)+1:=zaj _ (by omega)
  generalize s[i]'(by omega)=c at hc
  rw [hc] at hcall
  simp only at hcall
  rw [zgc hc]
  rw [zah hs a151l6.eq_1]
  by_cases e:c=10
  ·have e10:((c.toNat:Int)==10)=true:=by rw [e];rfl
   rw [if_pos e]
   simp [zad hs,zaa hs,zab hs,zac hs,zon,zom,v0,v1,hcall,e10,hw1]
   refine (ih (i+1) _ (by omega) ?_ ?_ ?_).mono fun e t h=> ?_
   ·simp [v0]
   ·simp
   ·simp [v2]
   rw [Nat.add_assoc] at h
   exact h
  ·have e1: ¬ c.toNat=10:=fun q=>e (UInt8.toNat_inj.1 q)
   have e10:((c.toNat:Int)==10)=false:=by simp;omega
   rw [if_neg e]
   simp [zad hs,zaa hs,zab hs,zac hs,zon,zom,v0,v1,hcall,e10]
   exact ⟨_,rfl,by simp [v0],by simp [v1],by simp [v2]⟩
theorem zvp {bar:Nat} {H:Heap} {s:List UInt8} (hl:s.length≤1000000): ∀ (m i:Nat) (v:Nat→AV),i+m=s.length→v 0= .str s→v 11=num i →
  Wp (evI fsT SA.sp bar (.loop a151l16) (mkE 1393966882245442077970300392704551965425607 v,H)) (fun e t=>e= .exit 4∧ ∃ v',t=(mkE 1393966882245442077970300392704551965425607 v',H)∧v' 0= .str s∧v' 1=v 1∧v' 10=v 10∧v' 11=num (i+zdC (s.drop i))):=by
 have hs:=SA.mono
 intro m
 induction m with
 | zero =>
  intro i v hi v0 v1
  have hc:s[i]? = none:=List.getElem?_eq_none (by omega)
  have hcall:=fun H=>zjd (bar:=bar) (H:=H) (s:=s) (i:=i)
  rw [hc] at hcall
  rw [zh6 (by omega)]
  rw [zah hs a151l16.eq_1]
  simp [zad hs,zaa hs,zab hs,zac hs,zkH,zkG,v0,v1,hcall]
  exact ⟨_,rfl,by simp [v0],by simp,by simp,by simp [v1]⟩
 | succ m ih =>
  intro i v hi v0 v1
  have hc:s[i]? = some (s[i]'(by omega)):=List.getElem?_eq_getElem _
  have hcall:=fun H=>zjd (bar:=bar) (H:=H) (s:=s) (i:=i)
  have hw1:IntKind.i64.wrap ((i:Int)+1)=(i:Int)+1:=zaj _ (by omega)
  generalize s[i]'(by omega)=c at hc
  rw [hc] at hcall
  simp only at hcall
  rw [zgc hc]
  rw [zah hs a151l16.eq_1]
  by_cases e:c=10
  ·have e10:((c.toNat:Int)==10)=true:=by rw [e];rfl
   rw [if_pos e]
   simp [zad hs,zaa hs,zab hs,zac hs,zkH,zkG,v0,v1,hcall,e10,hw1]
   refine (ih (i+1) _ (by omega) ?_ ?_).mono fun e t h=> ?_
   ·simp [v0]
   ·simp
   rw [Nat.add_assoc] at h
   simpa using h
  ·have e1: ¬ c.toNat=10:=fun q=>e (UInt8.toNat_inj.1 q)
   have e10:((c.toNat:Int)==10)=false:=by simp;omega
   rw [if_neg e]
   simp [zad hs,zaa hs,zab hs,zac hs,zkH,zkG,v0,v1,hcall,e10]
   exact ⟨_,rfl,by simp [v0],by simp,by simp,by simp [v1]⟩
def zrU (s:List UInt8) (m i:Nat):Nat:=match zq2 s m i with | none=>s.length | some j=>j
theorem zBN {s:List UInt8} {b:Nat} (e: ¬ b=s.length):zob s b=((s.drop b).take (zrU s (s.length-b) b-b),zrU s (s.length-b) b+zdC (s.drop (zrU s (s.length-b) b)),true):=by
 unfold zob zrU
 rw [if_neg e]
 cases hq:zq2 s (s.length-b) b with
 | none=>simp only;rw [List.take_of_length_le (by simp),zh6 (Nat.le_refl _)];rfl
 | some j=>rfl
theorem zxG {bar:Nat} {H:Heap} {s:List UInt8} (hl:s.length≤1000000): ∀ (m i:Nat) (v:Nat→AV),i+m=s.length→v 0= .str s→v 10=num i →
  Wp (evI fsT SA.sp bar (.loop a151l12) (mkE 1393966882245442077970300392704551965425607 v,H)) (fun e t=>e= .exit 2∧ ∃ v',t=(mkE 1393966882245442077970300392704551965425607 v',H)∧v' 0= .str s∧v' 1=v 1∧v' 10=num (zrU s m i)):=by
 have hs:=SA.mono
 intro m
 induction m with
 | zero =>
  intro i v hi v0 v1
  have hi':i=s.length:=by omega
  subst hi'
  rw [zah hs a151l12.eq_1]
  simp [zad hs,zaa hs,zab hs,zac hs,zhA,zhz,v0,v1,zrU,zq2]
  exact ⟨_,rfl,by simp [v0],by simp,by simp [v1]⟩
 | succ m ih =>
  intro i v hi v0 v1
  have hi':i<s.length:=by omega
  have hiI:(i:Int)<(s.length:Int):=by omega
  have hc:s[i]? = some s[i]:=List.getElem?_eq_getElem _
  have hw1:IntKind.i64.wrap ((i:Int)+1)=(i:Int)+1:=zaj _ (by omega)
  have hwl:IntKind.i64.wrap ((s.length:Int)-1)=(s.length:Int)-1:=zaj _ (by omega)
  have h0:(0:Int)≤(i:Int)+1:=by omega
  have ht:((i:Int)+1).toNat=i+1:=by omega
  generalize s[i]=c at hc
  have hst:=zAH hc
  have goes: ¬ zf3 s i→ ∀ w:Nat→AV,w 0= .str s→w 1=v 1→w 10=num (i+1) →
    Wp (evI fsT SA.sp bar (.loop a151l12) (mkE 1393966882245442077970300392704551965425607 w,H)) (fun e t=>e= .exit 2∧ ∃ v',t=(mkE 1393966882245442077970300392704551965425607 v',H)∧v' 0= .str s∧v' 1=v 1∧v' 10=num (zrU s (m+1) i)):=fun hn w w0 w1 w10=>by
   have:=ih (i+1) w (by omega) w0 w10
   rw [w1] at this
   have e:zrU s (m+1) i=zrU s m (i+1):=by unfold zrU;rw [zq2,if_neg hn]
   rw [e];exact this
  have stops:zf3 s i→zrU s (m+1) i=i:=fun h=>by unfold zrU;rw [zq2,if_pos h]
  rw [zah hs a151l12.eq_1]
  by_cases e:c=10
  ·have e10:((c.toNat:Int)==10)=true:=by rw [e];rfl
   by_cases h3:i+1=s.length
   ·have hS:=stops (hst.2 ⟨e, .inl h3⟩)
    have h3I:((i:Int)==(s.length:Int)-1)=true:=by simp;omega
    simp [zad hs,zaa hs,zab hs,zac hs,zhA,zhz,v0,v1,hiI,hi',hc,e10,hwl,h3I]
    exact ⟨_,rfl,by simp [v0],by simp,by simp [v1,hS]⟩
   ·have h3I:((i:Int)==(s.length:Int)-1)=false:=by simp;omega
    have hd:s[i+1]? = some (s[i+1]'(by omega)):=List.getElem?_eq_getElem _
    generalize s[i+1]'(by omega)=d at hd
    by_cases e2:d=10
    ·have e20:((d.toNat:Int)==10)=true:=by rw [e2];rfl
     have hS:=stops (hst.2 ⟨e, .inr (by rw [hd,e2])⟩)
     simp [zad hs,zaa hs,zab hs,zac hs,zhA,zhz,v0,v1,hiI,hi',hc,e10,hwl,h3I,hw1,h0,ht,hd,e20]
     exact ⟨_,rfl,by simp [v0],by simp,by simp [v1,hS]⟩
    ·have e1: ¬ d.toNat=10:=fun q=>e2 (UInt8.toNat_inj.1 q)
     have e20:((d.toNat:Int)==10)=false:=by simp;omega
     have hS: ¬ zf3 s i:=fun h=>by
      obtain ⟨_,h | h⟩:=hst.1 h
      ·exact h3 h
      ·rw [hd] at h;exact e2 (Option.some.inj h)
     simp [zad hs,zaa hs,zab hs,zac hs,zhA,zhz,v0,v1,hiI,hi',hc,e10,hwl,h3I,hw1,h0,ht,hd,e20]
     refine goes hS _ ?_ ?_ ?_
     all_goals simp [v0]
  ·have e1: ¬ c.toNat=10:=fun q=>e (UInt8.toNat_inj.1 q)
   have e10:((c.toNat:Int)==10)=false:=by simp;omega
   have hS: ¬ zf3 s i:=fun h=>e (hst.1 h).1
   simp [zad hs,zaa hs,zab hs,zac hs,zhA,zhz,v0,v1,hiI,hi',hc,e10,hw1]
   refine goes hS _ ?_ ?_ ?_
   all_goals simp [v0]
theorem zvv {bar:Nat} {H:Heap} {s:List UInt8} (hl:s.length≤1000000) {a:Nat} (ha:a<s.length):Rn fsT SA.sp bar 151 [.str s,num a, .str []] H=some (.ret (znd (zjw s a)),H):=by
 have hs:=SA.mono
 have hx: ¬ (a:Int)<0:=by omega
 have hg: ¬ (s.length:Int)≤(a:Int):=by omega
 have hfl:=zlt (s.drop a)
 rw [List.length_drop] at hfl
 refine zao hs zo1 rfl rfl rfl ?_
 rw [zuD]
 simp [zkY,zkX,zkW,zoo,a151,zad hs,zaa hs,zab hs,zac hs,hx,hg,zpX,zlw]
 refine (zwW (bar:=0) (H:= []) (s:=s) (rs:= []) hl (s.length-a) a _ (by omega) ?_ ?_ ?_).mono fun e t h=> ?_
 ·simp
 ·simp
 ·simp
 obtain ⟨rfl,v',rfl,k0,k1,k2⟩:=h
 unfold zjw
 have hb:a+zdC (s.drop a)≤s.length:=by omega
 generalize a+zdC (s.drop a)=b at *
 by_cases e:b=s.length
 ·have hR:zob s b=([],b,false):=by unfold zob;rw [if_pos e]
  rw [hR]
  have eI:((b:Int)==(s.length:Int))=true:=by simp;omega
  simp [zro,zrn,zad hs,zaa hs,zab hs,zac hs,k0,k1,eI,znd,frz,zbj]
 ·rw [zBN e]
  have eI:((b:Int)==(s.length:Int))=false:=by simp;omega
  simp [zro,zrn,zu4,zad hs,zaa hs,zab hs,zac hs,k0,k1,eI]
  refine (zxG (bar:=0) (H:= []) (s:=s) hl (s.length-b) b _ (by omega) ?_ ?_).mono fun e t h=> ?_
  ·simp [k0]
  ·simp
  obtain ⟨rfl,u,rfl,q0,q1,q10⟩:=h
  simp [k1] at q1
  have hE:b≤zrU s (s.length-b) b∧zrU s (s.length-b) b≤s.length:=by
   unfold zrU
   cases hq:zq2 s (s.length-b) b with
   | none=>exact ⟨hb,Nat.le_refl _⟩
   | some j=>obtain ⟨b1,b2,_⟩:=zq1 _ _ hq;exact ⟨b1,by simp only;omega⟩
  generalize zrU s (s.length-b) b=j at *
  obtain ⟨g1,g2⟩:=hE
  simp [zpG,zad hs,zaa hs,zab hs,zac hs,q0,q1,q10]
  refine (zvp (bar:=0) (H:= []) (s:=s) hl (s.length-j) j _ (by omega) ?_ ?_).mono fun e t h=> ?_
  ·simp [q0]
  ·simp
  obtain ⟨rfl,u2,rfl,r0,r1,r10,r11⟩:=h
  simp [q1] at r1
  simp [q10] at r10
  simp [zpF,zad hs,zaa hs,zab hs,zac hs,r0,r1,r10,r11,g1,g2,znd,frz,zbj]
end
section
theorem zl6 {bar:Nat} {H:Heap} {s:List UInt8} (hl:s.length≤1000000) {c d:UInt8} {a i:Nat} (hai:a≤i) (hd:s[i]? = some d) (v:Nat→AV) (v0:v 0= .str s) (v1:v 1=num a) (v2:v 2= .str [c]) (v12:v 12=num i) {Q:AExit→EH→Prop}
  (miss:d≠c→ ∀ w:Nat→AV,w 0= .str s→w 1=num a→w 2= .str [c]→w 12=num (i+1)→Wp (evI fsT SA.sp bar (.loop a151l24) (mkE 1393966882245442077970300392704551965425607 w,H)) Q)
  (hit:d=c→ ∀ w:Nat→AV,w 6= .str ((s.drop a).take (i-a))→w 7=num (i+1)→w 8= .bool true→w 9=num 0→Q .ret (mkE 1393966882245442077970300392704551965425607 w,H)) :
  Wp (evI fsT SA.sp bar (.loop a151l24) (mkE 1393966882245442077970300392704551965425607 v,H)) Q:=by
 have hs:=SA.mono
 have hi:=(List.getElem?_eq_some_iff.1 hd).1
 have hw1:IntKind.i64.wrap ((i:Int)+1)=(i:Int)+1:=zaj _ (by omega)
 have hile:i≤s.length:=by omega
 rw [zah hs a151l24.eq_1]
 by_cases e:d=c
 ·have eI:((d.toNat:Int)==(c.toNat:Int))=true:=by rw [e];simp
  simp [zad hs,zaa hs,zai hs,zab hs,zac hs,zpE,zpH,zpD,zpC,v0,v1,v2,v12,hi,hile,hai,hd,e,hw1]
  refine hit e _ ?_ ?_ ?_ ?_
  all_goals simp
 ·have e1: ¬ d.toNat=c.toNat:=fun q=>e (UInt8.toNat_inj.1 q)
  have eI:((d.toNat:Int)==(c.toNat:Int))=false:=by simp;omega
  simp [zad hs,zaa hs,zai hs,zab hs,zac hs,zpE,zpH,zpD,zpC,v0,v1,v2,v12,hi,hd,eI,hw1]
  refine miss e _ ?_ ?_ ?_ ?_
  all_goals simp [v0,v1,v2]
theorem zBL {bar:Nat} {H:Heap} {s:List UInt8} (hl:s.length≤1000000) {c:UInt8} {a j:Nat} (hj:s[j]? = some c) (hno: ∀ k,a≤k→k<j→s[k]? ≠ some c): ∀ (m i:Nat) (v:Nat→AV),i+m=j→a≤i→v 0= .str s→v 1=num a→v 2= .str [c]→v 12=num i →
  Wp (evI fsT SA.sp bar (.loop a151l24) (mkE 1393966882245442077970300392704551965425607 v,H)) (fun e t=>e= .ret∧ ∃ v',t=(mkE 1393966882245442077970300392704551965425607 v',H)∧v' 6= .str ((s.drop a).take (j-a))∧v' 7=num (j+1)∧v' 8= .bool true∧v' 9=num 0):=by
 intro m
 induction m with
 | zero =>
  intro i v hi hai v0 v1 v2 v12
  have hi':i=j:=by omega
  subst hi'
  exact zl6 hl hai hj v v0 v1 v2 v12 (fun h=>absurd rfl h) fun _ w w6 w7 w8 w9=>⟨rfl,w,rfl,w6,w7,w8,w9⟩
 | succ m ih =>
  intro i v hi hai v0 v1 v2 v12
  have hjl:=(List.getElem?_eq_some_iff.1 hj).1
  have hd:s[i]? = some (s[i]'(by omega)):=List.getElem?_eq_getElem _
  have hne:=hno i hai (by omega)
  rw [hd] at hne
  exact zl6 hl hai hd v v0 v1 v2 v12 (fun _ w w0 w1 w2 w12=>ih (i+1) w (by omega) (by omega) w0 w1 w2 w12) fun h=>absurd (by rw [h]) hne
theorem zym {bar:Nat} {H:Heap} {s:List UInt8} (hl:s.length≤1000000) {c:UInt8} {a:Nat} (hno: ∀ k,a≤k→s[k]? ≠ some c): ∀ (m i:Nat) (v:Nat→AV),i+m=s.length→a≤i→v 0= .str s→v 1=num a→v 2= .str [c]→v 12=num i →
  Wp (evI fsT SA.sp bar (.loop a151l24) (mkE 1393966882245442077970300392704551965425607 v,H)) (fun e t=>e= .exit 6∧ ∃ v',t=(mkE 1393966882245442077970300392704551965425607 v',H)∧v' 0= .str s∧v' 1=num a):=by
 have hs:=SA.mono
 intro m
 induction m with
 | zero =>
  intro i v hi hai v0 v1 v2 v12
  have hi':i=s.length:=by omega
  subst hi'
  rw [zah hs a151l24.eq_1]
  simp [zad hs,zaa hs,zab hs,zac hs,zpE,zpH,zpD,zpC,v0,v12]
  exact ⟨_,rfl,by simp [v0],by simp [v1]⟩
 | succ m ih =>
  intro i v hi hai v0 v1 v2 v12
  have hd:s[i]? = some (s[i]'(by omega)):=List.getElem?_eq_getElem _
  have hne:=hno i hai
  rw [hd] at hne
  exact zl6 hl hai hd v v0 v1 v2 v12 (fun _ w w0 w1 w2 w12=>ih (i+1) w (by omega) (by omega) w0 w1 w2 w12) fun h=>absurd (by rw [h]) hne
theorem zvu {bar:Nat} {H:Heap} {s:List UInt8} (hl:s.length≤1000000) {c:UInt8} (h92:c≠92) {a:Nat} (ha:a<s.length):Rn fsT SA.sp bar 151 [.str s,num a, .str [c]] H=some (.ret (znd (zE2 s c a)),H):=by
 have hs:=SA.mono
 have hx: ¬ (a:Int)<0:=by omega
 have hg: ¬ (s.length:Int)≤(a:Int):=by omega
 have hale:a≤s.length:=by omega
 have e2: ¬ c.toNat=92:=fun e=>h92 (UInt8.toNat_inj.1 e)
 have htk:List.take (s.length-a) (s.drop a)=s.drop a:=List.take_of_length_le (by simp)
 refine zao hs zo1 rfl rfl rfl ?_
 rw [zuD]
 unfold zE2
 rcases zfb (s.drop a) c with q | ⟨n,h1,h2⟩
 ·have hn: ¬ (0:Int)≤Lib.indexByte (s.drop a) c:=by omega
  rw [if_neg hn]
  have hno: ∀ k,a≤k→s[k]? ≠ some c:=fun k hk h=>by
   have:=Lib.indexByte_none q (k-a)
   rw [List.getElem?_drop] at this
   have e:a+(k-a)=k:=by omega
   rw [e] at this
   exact this h
  simp [zkY,zkX,zkW,zoo,zon,zom,zro,zrn,zu4,zhA,zhz,zpG,zkH,zkG,zpF,zmB,ztw,a151,zad hs,zaa hs,zab hs,zac hs,hx,hg,zpX,zlw,e2,zf8]
  refine (zym (bar:=0) (H:= []) hl hno (s.length-a) a _ (by omega) (Nat.le_refl _) ?_ ?_ ?_ ?_).mono fun e t h=> ?_
  ·simp
  ·simp
  ·simp
  ·simp
  obtain ⟨rfl,v',rfl,k0,k1⟩:=h
  simp [zzm,zad hs,zaa hs,k0,k1,hale,htk,znd,frz,zbj]
 ·have hn:(0:Int)≤Lib.indexByte (s.drop a) c:=by omega
  have hnn:(Lib.indexByte (s.drop a) c).toNat=n:=by omega
  rw [if_pos hn,hnn]
  obtain ⟨g1,g2⟩:=Lib.indexByte_some h2
  rw [List.getElem?_drop] at g1
  have hno: ∀ k,a≤k→k<a+n→s[k]? ≠ some c:=fun k hk hk2 h=>by
   have:=g2 (k-a) (by omega)
   rw [List.getElem?_drop] at this
   have e:a+(k-a)=k:=by omega
   rw [e] at this
   exact this h
  simp [zkY,zkX,zkW,zoo,zon,zom,zro,zrn,zu4,zhA,zhz,zpG,zkH,zkG,zpF,zmB,ztw,a151,zad hs,zaa hs,zab hs,zac hs,hx,hg,zpX,zlw,e2,zf8]
  refine (zBL (bar:=0) (H:= []) hl g1 hno n a _ rfl (Nat.le_refl _) ?_ ?_ ?_ ?_).mono fun e t h=> ?_
  ·simp
  ·simp
  ·simp
  ·simp
  obtain ⟨rfl,v',rfl,k6,k7,k8,k9⟩:=h
  simp [k6,k7,k8,k9,znd,frz,zbj]
theorem zxQ {bar:Nat} {H:Heap} {s:List UInt8} (hl:s.length≤900) {a:Nat} (ha:a<s.length) {A:List AV} {N:Nat} (hN:A.length=N) (hN2:N≤1000000): ∀ (rest:List (Nat×Nat)) (i at':Nat) (last:Int) (v:Nat→AV),i+rest.length=N→A.drop i=zaS rest→InOrder (s.length-a) at' last rest→v 0= .str s→v 1=num a→v 16= .slc .own A→v 17=num i →
  Wp (evI fsT SA.sp bar (.loop a151l35) (mkE 1393966882245442077970300392704551965425607 v,H)) (fun e t=>match zie rest with
   | none=>e= .exit 8∧ ∃ v',t=(mkE 1393966882245442077970300392704551965425607 v',H)∧v' 0= .str s∧v' 1=num a
   | some (f,g)=>e= .ret∧ ∃ v',t=(mkE 1393966882245442077970300392704551965425607 v',H)∧v' 6= .str ((s.drop a).take f)∧v' 7=num (a+g)∧v' 8= .bool true∧v' 9=num 0):=by
 have hs:=SA.mono
 intro rest
 induction rest with
 | nil =>
  intro i at' last v hi hd ho v0 v1 v16 v17
  have hi':i=N:=by simpa using hi
  subst hi'
  rw [zah hs a151l35.eq_1]
  simp [zad hs,zaa hs,zab hs,zac hs,zpB,v16,v17,hN,zie]
  exact ⟨_,rfl,by simp [v0],by simp [v1]⟩
 | cons x rest ih =>
  obtain ⟨f,t⟩:=x
  intro i at' last v hi hd ho v0 v1 v16 v17
  obtain ⟨o1,o2,o3,o4,o5⟩:=ho
  simp only [List.length_cons] at hi
  have hiN:i<N:=by omega
  have hg:A[i]? = some (.agg [num f,num t]):=by
   have:(A.drop i)[0]? = some (.agg [num f,num t]):=by rw [hd];rfl
   simpa using this
  have hd2:A.drop (i+1)=zaS rest:=by
   have:(A.drop i).drop 1=zaS rest:=by rw [hd];rfl
   rw [List.drop_drop] at this
   exact this
  have hw1:IntKind.i64.wrap ((i:Int)+1)=(i:Int)+1:=zaj _ (by omega)
  rw [zah hs a151l35.eq_1]
  unfold zie
  by_cases h:f<t
  ·have hI:(f:Int)<(t:Int):=by omega
   have hw:IntKind.i64.wrap ((a:Int)+(f:Int))=(a:Int)+(f:Int):=zaj _ (by omega)
   have hwt:IntKind.i64.wrap ((a:Int)+(t:Int))=(a:Int)+(t:Int):=zaj _ (by omega)
   have h0:(0:Int)≤(a:Int)+(f:Int):=by omega
   have hle:a+f≤s.length:=by omega
   have hle2:(a:Int)≤(a:Int)+(f:Int):=by omega
   have ht:((a:Int)+(f:Int)).toNat=a+f:=by omega
   rw [if_pos h]
   simp [zad hs,zaa hs,zai hs,zab hs,zac hs,zpB,zty,ztx,zts,v0,v1,v16,v17,hN,hiN,hg,h,hI,hw,hwt,h0,hle,hle2,ht]
   exact ⟨_,rfl,by simp,by simp,by simp,by simp⟩
  ·have hI: ¬ (f:Int)<(t:Int):=by omega
   rw [if_neg h]
   simp [zad hs,zaa hs,zai hs,zab hs,zac hs,zpB,zty,ztx,zts,v0,v1,v16,v17,hN,hiN,hg,h,hI,hw1]
   refine ih (i+1) _ _ _ (by omega) hd2 o5 ?_ ?_ ?_ ?_
   all_goals simp [v0,v1,v16]
theorem zvt {bar:Nat} {H:Heap} {s rs:List UInt8} (hl:s.length≤900) {a:Nat} (ha:a<s.length) (hne:rs ≠ []) (h92:rs.length=1→rs= [92]):Rn fsT SA.sp bar 151 [.str s,num a, .str rs] H=some (.ret (zxD s rs a),H):=by
 have hs:=SA.mono
 have hx: ¬ (a:Int)<0:=by omega
 have hg: ¬ (s.length:Int)≤(a:Int):=by omega
 have hale:a≤s.length:=by omega
 have hb:zlw rs []=false:=by
  cases rs with
  | nil=>exact absurd rfl hne
  | cons c l=>rfl
 have h1:(((rs.length:Int)==1)=false∧True)∨(((rs.length:Int)==1)=true∧zlw rs [92]=true):=by
  by_cases e:rs.length=1
  ·right;rw [h92 e];exact ⟨rfl,rfl⟩
  ·left;exact ⟨by simp;omega,trivial⟩
 have htk:List.take (s.length-a) (s.drop a)=s.drop a:=List.take_of_length_le (by simp)
 have hnew:=fun H=>zw4 (bar:=0) (H:=H) rs
 have hz:emptyRe.av= .agg [.int .i64 0, .int .u64 0, .int .u64 0, .int .u64 0, .int .u64 0, .int .i64 0, .int .i64 0, .nils]:=rfl
 obtain ⟨o,K,q1,q2⟩:=zAr (bar:=0) (H:= []) rs (Nat.zero_le _)
 refine zao hs zo1 rfl rfl rfl ?_
 rw [zuD]
 unfold zxD
 cases hn:zss rs with
 | er p w =>
  have hw:=zsr hn
  have hw2:((w:Int) != 0)=true:=by simp [bne];omega
  rw [hn] at hnew
  simp only [zbF,hz] at hnew
  rcases h1 with ⟨h1,h2⟩ | ⟨h1,h2⟩ <;>
   simp [zkY,zkX,zkW,zoo,zmB,ztv,ztu,ztt,a151,zad hs,zaa hs,zab hs,zac hs,hx,hg,hb,h1,h2,hnew,hw2,zpX,frz,zbj]
 | ok r j =>
  have hc:=zBj hn
  have hwd:=zqm hn
  rw [hn] at q2 hnew
  obtain ⟨pid,rfl,hpl,hF,hP⟩:=q2
  simp only [zbF] at hnew
  have hdl:(s.drop a).length=s.length-a:=List.length_drop
  obtain ⟨c1,c2,c3,c4,c5,c6,hcs⟩:=Re.av_eight hwd
  have hrall:=fun H=>zAY (bar:=0) (H:=H) (s:=s.drop a) (by omega) hP.fine hc hwd
  rw [hcs] at hnew hrall
  have hord:=zme hP.fine (s.drop a)
  rw [hdl] at hord
  have hL:(zdf r (s.drop a)).length≤1000000:=by
   rcases zjf hord (by omega) with h | h
   ·omega
   ·rw [h];simp
  simp only [zHH]
  have hpl2:=zbo (zdf r (s.drop a))
  have htr:List.take (zdf r (s.drop a)).length (zaS (zdf r (s.drop a)))=zaS (zdf r (s.drop a)):=List.take_of_length_le (by rw [zbo];exact Nat.le_refl _)
  have hok:=ziD (zdf r (s.drop a))
  have hloop:=fun H v=>zxQ (bar:=0) (H:=H) hl ha hpl2 hL (zdf r (s.drop a)) 0 0 (-1) v (by omega) rfl hord
  generalize zdf r (s.drop a)=L at *
  generalize zaS L=A at *
  rcases h1 with ⟨h1,h2⟩ | ⟨h1,h2⟩
  all_goals
   simp [zkY,zkX,zkW,zoo,zmB,ztv,ztu,ztt,zzn,zzl,a151,zad hs,zaa hs,zai hs,zab hs,zac hs,hx,hg,hale,htk,hb,h1,h2,hnew,hrall,hpl2,htr,hok,zpX]
   refine (hloop _ _ ?_ ?_ ?_ ?_).mono fun e t h=> ?_
   ·simp
   ·simp
   ·simp
   ·simp
   cases hq:zie L with
   | none =>
    rw [hq] at h
    obtain ⟨rfl,v',rfl,k0,k1⟩:=h
    simp [zzk,zad hs,zaa hs,k0,k1,hale,htk,znd,frz,zbj]
   | some q =>
    obtain ⟨f,g⟩:=q
    rw [hq] at h
    obtain ⟨rfl,v',rfl,k6,k7,k8,k9⟩:=h
    simp [k6,k7,k8,k9,znd,frz,zbj]
theorem zxC {s rs:List UInt8} (hl:s.length≤900) (p:Int): ∃ x n b w,∀ bar H,Rn fsT SA.sp bar 80 [.str s, .int .i64 p, .str rs] H=some (.ret (.tup [.str x, .int .i64 n, .bool b, .int .i64 w]),H)∧Rn fsT SA.sp bar 151 [.str s, .int .i64 p, .str rs] H=some (.ret (.tup [.str x, .int .i64 n, .bool b, .int .i64 w]),H):=by
 have hs:=SA.mono
 by_cases h:p<0∨(s.length:Int)≤p
 ·refine ⟨[],0,false,0,fun bar H=>⟨?_,?_⟩⟩
  ·refine zao hs zuA rfl rfl rfl ?_
   rw [zBz]
   by_cases h1:p<0
   ·simp [zmn,zmm,zml,a80,zad hs,zaa hs,zab hs,zac hs,h1,frz,zbj]
   ·have h2:(s.length:Int)≤p:=by omega
    simp [zmn,zmm,zml,a80,zad hs,zaa hs,zab hs,zac hs,h1,h2,frz,zbj]
  ·refine zao hs zo1 rfl rfl rfl ?_
   rw [zuD]
   by_cases h1:p<0
   ·simp [zkY,zkX,zkW,a151,zad hs,zaa hs,zab hs,zac hs,h1,frz,zbj]
   ·have h2:(s.length:Int)≤p:=by omega
    simp [zkY,zkX,zkW,a151,zad hs,zaa hs,zab hs,zac hs,h1,h2,frz,zbj]
 ·obtain ⟨a,rfl⟩: ∃ a:Nat,p=a:=⟨p.toNat,by omega⟩
  have ha:a<s.length:=by omega
  have hne: ¬ a=s.length:=by omega
  rcases rs with _ | ⟨c,l⟩
  ·refine ⟨(zjw s a).1,(zjw s a).2.1,(zjw s a).2.2,0,fun bar H=>⟨?_,zvv (by omega) ha⟩⟩
   have:=zAq (bar:=bar) (H:=H) (s:=s) (by omega) (a:=a) (by omega)
   rw [if_neg hne] at this
   exact this
  ·by_cases hb:l= []∧c≠92
   ·obtain ⟨rfl,h92⟩:=hb
    refine ⟨(zE2 s c a).1,(zE2 s c a).2.1,(zE2 s c a).2.2,0,fun bar H=>⟨?_,zvu (by omega) h92 ha⟩⟩
    have:=zAp (bar:=bar) (H:=H) (s:=s) (by omega) h92 (a:=a) (by omega)
    rw [if_neg hne] at this
    exact this
   ·have h92:(c::l).length=1→c::l= [92]:=fun e=>by
     have el:l= []:=List.length_eq_zero_iff.1 (by simpa using e)
     have ec:c=92:=Classical.byContradiction fun e2=>hb ⟨el,e2⟩
     rw [el,ec]
    have k1:=fun bar H=>zAo (bar:=bar) (H:=H) hl ha (List.cons_ne_nil c l) h92
    have k2:=fun bar H=>zvt (bar:=bar) (H:=H) hl ha (List.cons_ne_nil c l) h92
    unfold zxD at k1 k2
    cases hn:zss (c::l) with
    | er p w =>
     simp only [hn] at k1 k2
     exact ⟨[],0,false,w,fun bar H=>⟨k1 bar H,k2 bar H⟩⟩
    | ok r j =>
     simp only [hn] at k1 k2
     exact ⟨(zHH s r a).1,(zHH s r a).2.1,(zHH s r a).2.2,0,fun bar H=>⟨k1 bar H,k2 bar H⟩⟩
theorem zvP (s:List UInt8): ∃ b:Bool,∀ (bar:Nat) (H:Heap),Rn fsT SA.sp bar 160 [.str s] H=some (.ret (.bool b),H):=by
 have hs:=SA.mono
 obtain ⟨b,hb⟩:=zxH s
 have hb0:=hb 0
 by_cases h:s.length<2
 ·refine ⟨true,fun bar H=> ?_⟩
  refine zao hs zxT rfl rfl rfl ?_
  rw [zDh]
  have hI:(s.length:Int)<2:=by omega
  simp [a160,zy9,zy8,zad hs,zaa hs,hI,frz,zbj]
 ·refine ⟨b,fun bar H=> ?_⟩
  refine zao hs zxT rfl rfl rfl ?_
  rw [zDh]
  have hI: ¬ (s.length:Int)<2:=by omega
  simp [a160,zy9,zy8,zad hs,zaa hs,hI,hb0,frz,zbj]
theorem znm (s:List UInt8) (p:Int) (rs:List UInt8):Wc (Rn fsT SA.sp 0 159 [.str s, .int .i64 p, .str rs] []) (fun o _=>o= .ret (.bool true)):=by
 have hs:=SA.mono
 have hlives:=fun H=>zFo 0 H
 suffices h:Rn fsT SA.sp 0 159 [.str s, .int .i64 p, .str rs] []=some (.ret (.bool true),[]) from ⟨_,_,h,rfl⟩
 obtain ⟨lt,hlt⟩:=zvP rs
 have hlt:=hlt 0
 refine zao hs zFu rfl rfl rfl ?_
 rw [zIZ]
 by_cases h30:30<s.length
 ·have h30':(30:Int)<(s.length:Int):=by omega
  simp [zu0,zuZ,zuY,a159,zad hs,zaa hs,zac hs,h30',hlives]
 have h30': ¬ (30:Int)<(s.length:Int):=by omega
 cases lt with
 | false=>simp [zu0,zuZ,zuY,a159,zad hs,zaa hs,zac hs,h30',hlt,hlives]
 | true =>
  obtain ⟨x,n,b,w,hn⟩:=zxC (s:=s) (rs:=rs) (by omega) p
  have k1:=fun H=>(hn 0 H).1
  have k2:=fun H=>(hn 0 H).2
  cases b <;>
   simp [a159,zu0,zuZ,zuY,zDS,zDR,zDQ,zad hs,zaa hs,zac hs,h30',hlt,k1,k2,zpX,zmc,hlives]
end
end Go.Ak
