/- The program's Next. -/
import Derived.Test.YtfcgnpphabplbaaGreatDoorZk
import Derived.Test.YtfcgnpphabplbaaGreatDoorZd
import Derived.Lib.IndexLaws
import Derived.Test.YtfcgnpphabplbaaGreatDoorZw
set_option linter.unusedVariables false
set_option linter.unusedSimpArgs false
namespace Go.Ak
attribute [local simp] zbI zc2 zc3 zey zbd zcH zaD zaW zaN zaX zbc zbt zbu za6 zbY zcZ zc0 zbP zbQ
 zaL zcL wanted zbh opd zi2 live zbS zcM zbk zbO zgZ put zdv esc znn zpZ args drop1 zf8 zpW zqn zpY zmb rd wr zbD sub AV.cells pack one setCells zek zlL zcO roOf zaK zeJ zav zat zdr zbi newRow newObj step zbU zbv contents take flat look lim zdV bound zdg zdy eqS eqL eqA ver
 zbX zcY zcX zbV zbW
 List.getElem?_cons_zero List.getElem?_cons_succ zcW zba zaA zaB zbT
attribute [local simp] sR sT cV bL mvV mvL mgV mgL asL asI asB ldN ldV ldL ldG stV stL fdL fdV fdG fgL nlC nlG bnI bvI bnL bvL bxI bxU bgI bgL exT lnS lgS clA clB clC clI pkT pkF pvT pvF pgT pgF ixL axV bxV apL
attribute [-simp] getElem?_pos
section
theorem zv3 {bar:Nat} {H:Heap} {s:List UInt8} (hl:s.length≤1000000) {a N:Nat} (hN:zdC (s.drop a)=N): ∀ (m k:Nat) (v:Nat→AV),a+k+m=s.length→k+zdC (s.drop (a+k))=N→v 0= .str s→v 1=num a→v 5=num k →
  Wp (evI fsT SA.sp bar (.loop a103l4) (mkE 524339 v,H)) (fun e t=>e= .exit 0∧ ∃ v',t=(mkE 524339 v',H)∧v' 5=num N):=by
 have hs:=SA.mono
 intro m
 induction m with
 | zero =>
  intro k v hk hf v0 v1 v5
  rw [zh6 (by omega)] at hf
  have hkN:k=N:=by omega
  subst hkN
  have hw:IntKind.i64.wrap ((a:Int)+(k:Int))=(a:Int)+(k:Int):=zaj _ (by omega)
  have hx: ¬ (a:Int)+(k:Int)<(s.length:Int):=by omega
  rw [zah hs a103l4.eq_1]
  simp [zad hs,zaa hs,zab hs,zac hs,zu8,v0,v1,v5,hw,hx]
  exact ⟨_,rfl,by simp [v5]⟩
 | succ m ih =>
  intro k v hk hf v0 v1 v5
  have hlt:a+k<s.length:=by omega
  have hw:IntKind.i64.wrap ((a:Int)+(k:Int))=(a:Int)+(k:Int):=zaj _ (by omega)
  have hw1:IntKind.i64.wrap ((k:Int)+1)=(k:Int)+1:=zaj _ (by omega)
  have hx:(a:Int)+(k:Int)<(s.length:Int):=by omega
  have h0:(0:Int)≤(a:Int)+(k:Int):=by omega
  have ht:((a:Int)+(k:Int)).toNat=a+k:=by omega
  have hc:s[a+k]? = some s[a+k]:=List.getElem?_eq_getElem hlt
  generalize s[a+k]=c at hc
  rw [zgc hc] at hf
  rw [zah hs a103l4.eq_1]
  by_cases e:c=10
  ·have e10:((c.toNat:Int)==10)=true:=by rw [e];rfl
   rw [if_pos e] at hf
   simp [zad hs,zaa hs,zab hs,zac hs,zu8,zEK,v0,v1,v5,hw,hw1,hx,h0,ht,hc,e10]
   refine ih (k+1) _ (by omega) (by rw [←Nat.add_assoc];omega) ?_ ?_ ?_
   all_goals simp [v0,v1]
  ·have e1: ¬ c.toNat=10:=fun q=>e (UInt8.toNat_inj.1 q)
   have e10:((c.toNat:Int)==10)=false:=by simp;omega
   rw [if_neg e] at hf
   have hkN:k=N:=by omega
   subst hkN
   simp [zad hs,zaa hs,zab hs,zac hs,zu8,v0,v1,v5,hw,hx,h0,ht,hc,e10]
   exact ⟨_,rfl,by simp [v5]⟩
theorem zqF {bar:Nat} {H:Heap} {s:List UInt8} (hl:s.length≤1000000) {a:Nat} (ha:a≤s.length):Rn fsT SA.sp bar 103 [.str s,num a] H=some (.ret (num (zdC (s.drop a))),H):=by
 have hs:=SA.mono
 refine zao hs zFZ rfl rfl rfl ?_
 rw [zJu]
 simp [zEM,zEL,a103,zad hs,zaa hs,zab hs]
 refine (zv3 (bar:=0) (H:= []) hl (a:=a) rfl (s.length-a) 0 _ (by omega) (by simp) ?_ ?_ ?_).mono fun e t h=> ?_
 ·simp
 ·simp
 ·simp
 obtain ⟨rfl,v',rfl,k5⟩:=h
 simp [zEJ,zad hs,zaa hs,k5]
theorem zwi {bar:Nat} {H:Heap} {s:List UInt8} (hl:s.length≤1000000) {a:Nat} (ha:a≤s.length): ∀ (m i:Nat) (v:Nat→AV),i+m=s.length→a≤i→v 0= .str s→v 1=num a→v 8=num i →
  Wp (evI fsT SA.sp bar (.loop a94l10) (mkE 4398063551475 v,H)) (fun e t=>match zq2 s m i with
   | none=>e= .exit 0∧ ∃ v',t=(mkE 4398063551475 v',H)∧v' 0= .str s∧v' 1=num a
   | some j=>e= .ret∧ ∃ v',t=(mkE 4398063551475 v',H)∧v' 4= .str ((s.drop a).take (j-a))∧v' 5=num (j+zdC (s.drop j))∧v' 6= .bool true∧v' 7=num 0):=by
 have hs:=SA.mono
 intro m
 induction m with
 | zero =>
  intro i v hi hai v0 v1 v8
  have hi':i=s.length:=by omega
  subst hi'
  rw [zah hs a94l10.eq_1]
  simp [zad hs,zaa hs,zab hs,zac hs,zwm,v0,v8,zq2]
  exact ⟨_,rfl,by simp [v0],by simp [v1]⟩
 | succ m ih =>
  intro i v hi hai v0 v1 v8
  have hi':i<s.length:=by omega
  have hf:=fun H=>zqF (bar:=bar) (H:=H) hl (a:=i) (by omega)
  have hfl:=zlt (s.drop i)
  rw [List.length_drop] at hfl
  have hw1:IntKind.i64.wrap ((i:Int)+1)=(i:Int)+1:=zaj _ (by omega)
  have hwl:IntKind.i64.wrap ((s.length:Int)-1)=(s.length:Int)-1:=zaj _ (by omega)
  have hst:zf3 s i=(1<zdC (s.drop i)∨(zdC (s.drop i)=1∧i+1=s.length)):=rfl
  rw [zah hs a94l10.eq_1]
  generalize hF:zdC (s.drop i)=F at *
  have hwf:IntKind.i64.wrap ((i:Int)+(F:Int))=(i:Int)+(F:Int):=zaj _ (by omega)
  have goes: ¬ zf3 s i→ ∀ w:Nat→AV,w 0= .str s→w 1=num a→w 8=num (i+1) →
    Wp (evI fsT SA.sp bar (.loop a94l10) (mkE 4398063551475 w,H)) (fun e t=>match zq2 s (m+1) i with
     | none=>e= .exit 0∧ ∃ v',t=(mkE 4398063551475 v',H)∧v' 0= .str s∧v' 1=num a
     | some j=>e= .ret∧ ∃ v',t=(mkE 4398063551475 v',H)∧v' 4= .str ((s.drop a).take (j-a))∧v' 5=num (j+zdC (s.drop j))∧v' 6= .bool true∧v' 7=num 0):=fun hn w w0 w1 w8=>by
   rw [zq2,if_neg hn]
   exact ih (i+1) w (by omega) (by omega) w0 w1 w8
  by_cases h1:1<F
  ·have hS:zf3 s i:=by rw [hst];exact .inl h1
   have h1I:(1:Int)<(F:Int):=by omega
   rw [zq2,if_pos hS]
   simp [zad hs,zaa hs,zab hs,zac hs,zwm,zyC,zyB,zyA,v0,v1,v8,hi',hf,h1,h1I,hai,hwf,Nat.le_of_lt hi']
   exact ⟨_,rfl,by simp,by simp [hF],by simp,by simp⟩
  ·have h1I: ¬ (1:Int)<(F:Int):=by omega
   by_cases h2:F=1
   ·have h2I:((F:Int)==1)=true:=by simp;omega
    by_cases h3:i+1=s.length
    ·have hS:zf3 s i:=by rw [hst];exact .inr ⟨h2,h3⟩
     have h3I:((i:Int)==(s.length:Int)-1)=true:=by simp;omega
     rw [zq2,if_pos hS]
     simp [zad hs,zaa hs,zab hs,zac hs,zwm,zyC,zyB,zyA,v0,v1,v8,hi',hf,h1,h1I,h2I,h3I,hwl,hai,hwf,Nat.le_of_lt hi']
     exact ⟨_,rfl,by simp,by simp [hF],by simp,by simp⟩
    ·have hS: ¬ zf3 s i:=by rw [hst];rintro (h | ⟨_,h⟩)<;>omega
     have h3I:((i:Int)==(s.length:Int)-1)=false:=by simp;omega
     simp [zad hs,zaa hs,zab hs,zac hs,zwm,zyC,zyB,zyA,zGz,v0,v1,v8,hi',hf,h1,h1I,h2I,h3I,hwl,hw1]
     refine goes hS _ ?_ ?_ ?_
     all_goals simp [v0,v1]
   ·have h2I:((F:Int)==1)=false:=by simp;omega
    have hS: ¬ zf3 s i:=by rw [hst];rintro (h | ⟨h,_⟩)<;>omega
    simp [zad hs,zaa hs,zab hs,zac hs,zwm,zyC,zyB,zyA,zGz,v0,v1,v8,hi',hf,h1,h1I,h2I,hw1]
    refine goes hS _ ?_ ?_ ?_
    all_goals simp [v0,v1]
def znd (x:List UInt8×Nat×Bool):AV:= .tup [.str x.1,num x.2.1, .bool x.2.2,num 0]
theorem zyn {bar:Nat} {H:Heap} {s:List UInt8} (hl:s.length≤1000000) {a:Nat} (ha:a≤s.length):Rn fsT SA.sp bar 94 [.str s,num a] H=some (.ret (znd (zjw s a)),H):=by
 have hs:=SA.mono
 have hf:=fun H=>zqF (bar:=0) (H:=H) hl ha
 have hfl:=zlt (s.drop a)
 rw [List.length_drop] at hfl
 have hw:IntKind.i64.wrap ((a:Int)+(zdC (s.drop a):Int))=((a+zdC (s.drop a):Nat):Int):=by rw [zaj _ (by omega)];omega
 refine zao hs zIi rfl rfl rfl ?_
 rw [env94]
 unfold zjw
 have hA:a+zdC (s.drop a)≤s.length:=by omega
 generalize zdC (s.drop a)=F at *
 generalize hb:a+F=b at *
 unfold zob
 by_cases e:b=s.length
 ·rw [if_pos e]
  have eI:((b:Int)==(s.length:Int))=true:=by simp;omega
  simp [zGD,zGC,zGB,zGA,a94,zad hs,zaa hs,zab hs,zac hs,hf,hw,eI,znd,frz,zbj]
 ·rw [if_neg e]
  have eI:((b:Int)==(s.length:Int))=false:=by simp;omega
  simp [zGD,zGC,zGB,zGA,zKn,a94,zad hs,zaa hs,zab hs,zac hs,hf,hw,eI]
  refine (zwi (bar:=0) (H:= []) hl (a:=b) hA (s.length-b) b _ (by omega) (Nat.le_refl _) ?_ ?_ ?_).mono fun e t h=> ?_
  ·simp
  ·simp
  ·simp
  cases hq:zq2 s (s.length-b) b with
  | none =>
   rw [hq] at h
   obtain ⟨rfl,v',rfl,k0,k1⟩:=h
   have htk:List.take (s.length-b) (s.drop b)=s.drop b:=List.take_of_length_le (by simp)
   simp [zDn,zad hs,zaa hs,k0,k1,hA,htk,znd,frz,zbj]
  | some j =>
   rw [hq] at h
   obtain ⟨rfl,v',rfl,k4,k5,k6,k7⟩:=h
   simp [k4,k5,k6,k7,znd,frz,zbj]
theorem zAq {bar:Nat} {H:Heap} {s:List UInt8} (hl:s.length≤1000000) {a:Nat} (ha:a≤s.length):Rn fsT SA.sp bar 80 [.str s,num a, .str []] H=some (.ret (znd (if a=s.length then ([],0,false) else zjw s a)),H):=by
 have hs:=SA.mono
 have hx: ¬ (a:Int)<0:=by omega
 refine zao hs zuA rfl rfl rfl ?_
 rw [zBz]
 by_cases e:a=s.length
 ·have hg:(s.length:Int)≤(a:Int):=by omega
  rw [if_pos e]
  simp [zmn,zmm,zml,a80,zad hs,zaa hs,zab hs,zac hs,hx,hg,znd,frz,zbj]
 ·have hg: ¬ (s.length:Int)≤(a:Int):=by omega
  have hb:=zyn (bar:=0) (H:= []) hl ha
  rw [if_neg e]
  generalize zjw s a=x at *
  obtain ⟨r,n,b⟩:=x
  simp only [znd] at hb ⊢
  simp [zmn,zmm,zml,ztr,ztq,a80,zad hs,zaa hs,zab hs,zac hs,hx,hg,hb,zpX,zlw,frz,zbj]
end
section
def zJx (l:List UInt8) (c:UInt8):AV:=if 0≤Lib.indexByte l c then .tup [.str (l.take (Lib.indexByte l c).toNat), .str (l.drop ((Lib.indexByte l c).toNat+1)), .bool true] else .tup [.str l, .str [], .bool false]
theorem zGc {bar:Nat} {H:Heap} {l:List UInt8} {c:UInt8} (hl:l.length≤1000000):Rn fsT SA.sp bar 95 [.str l, .str [c]] H=some (.ret (zJx l c),H):=by
 have hs:=SA.mono
 have hidx: ∀ (bar:Nat) (H:Heap),Rn fsT SA.sp bar 112 [.str l, .str [c]] H=some (.ret (.int .i64 (Lib.indexByte l c)),H):=fun bar H=>by rw [zpU];rfl
 have hin: ∀ H,Rn fsT SA.sp 0 104 [.str l, .str [c]] H=some (.ret (zJx l c),H):=fun H=>by
  refine zao hs zsO rfl rfl rfl ?_
  rw [zx6]
  unfold zJx
  rcases zfb l c with e | ⟨n,h1,h2⟩
  ·have hx: ¬ (0:Int)≤Lib.indexByte l c:=by omega
   rw [if_neg hx]
   simp [a104,zrO,zrN,zrM,zrP,zrL,zad hs,zaa hs,zac hs,hidx,hx,frz,zbj]
  ·have hx:(0:Int)≤Lib.indexByte l c:=by omega
   rw [if_pos hx]
   have hn:(Lib.indexByte l c).toNat=n:=by omega
   rw [h2] at hidx hx
   rw [hn]
   have hw:IntKind.i64.wrap ((n:Int)+1)=(n:Int)+1:=zaj _ (by omega)
   have h0:(0:Int)≤(n:Int)+1:=by omega
   have ht:((n:Int)+1).toNat=n+1:=by omega
   have hle:n≤l.length:=by omega
   have hle1:n+1≤l.length:=h1
   have htk:List.take (l.length-(n+1)) (List.drop (n+1) l)=List.drop (n+1) l:=List.take_of_length_le (by simp)
   simp [a104,zrO,zrN,zrM,zrP,zrL,zad hs,zaa hs,zai hs,zac hs,hidx,hw,h0,ht,hle,hle1,h1,htk,frz,zbj]
 have hin0:=hin []
 refine zao hs zxR rfl rfl rfl ?_
 rw [zF7]
 unfold zJx at hin0 ⊢
 split at hin0
 ·rename_i h
  rw [if_pos h]
  simp [a95,zyz,zyy,zad hs,zaa hs,hin0,frz,zbj]
 ·rename_i h
  rw [if_neg h]
  simp [a95,zyz,zyy,zad hs,zaa hs,hin0,frz,zbj]
def zE2 (s:List UInt8) (c:UInt8) (a:Nat):List UInt8×Nat×Bool :=
 if 0≤Lib.indexByte (s.drop a) c then ((s.drop a).take (Lib.indexByte (s.drop a) c).toNat,a+(Lib.indexByte (s.drop a) c).toNat+1,true) else (s.drop a,s.length,true)
theorem zAp {bar:Nat} {H:Heap} {s:List UInt8} (hl:s.length≤1000000) {c:UInt8} (h92:c≠92) {a:Nat} (ha:a≤s.length):Rn fsT SA.sp bar 80 [.str s,num a, .str [c]] H=some (.ret (znd (if a=s.length then ([],0,false) else zE2 s c a)),H):=by
 have hs:=SA.mono
 have hx: ¬ (a:Int)<0:=by omega
 have e2: ¬ c.toNat=92:=fun e=>h92 (UInt8.toNat_inj.1 e)
 refine zao hs zuA rfl rfl rfl ?_
 rw [zBz]
 by_cases e:a=s.length
 ·have hg:(s.length:Int)≤(a:Int):=by omega
  rw [if_pos e]
  simp [zmn,zmm,zml,a80,zad hs,zaa hs,zab hs,zac hs,hx,hg,znd,frz,zbj]
 ·have hg: ¬ (s.length:Int)≤(a:Int):=by omega
  rw [if_neg e]
  have hcut:=zGc (bar:=0) (H:= []) (l:=s.drop a) (c:=c) (by simp;omega)
  have htk:List.take (s.length-a) (s.drop a)=s.drop a:=List.take_of_length_le (by simp)
  have hdl:(s.drop a).length=s.length-a:=List.length_drop
  unfold zE2
  unfold zJx at hcut
  rcases zfb (s.drop a) c with q | ⟨n,h1,h2⟩
  ·have hn: ¬ (0:Int)≤Lib.indexByte (s.drop a) c:=by omega
   rw [if_neg hn] at hcut ⊢
   have hw:IntKind.i64.wrap ((a:Int)+((s.length-a:Nat):Int))=(s.length:Int):=by rw [zaj _ (by omega)];omega
   simp [zmn,zmm,zml,ztr,ztq,zwr,zwq,zwp,zwo,zwn,zoj,a80,zad hs,zaa hs,zab hs,zac hs,hx,hg,ha,htk,hcut,zpX,zlw,e2,zf8,hdl,hw,znd,frz,zbj]
  ·have hn:(0:Int)≤Lib.indexByte (s.drop a) c:=by omega
   have hnn:(Lib.indexByte (s.drop a) c).toNat=n:=by omega
   rw [if_pos hn,hnn] at hcut ⊢
   have hrl:((s.drop a).take n).length=n:=by simp;omega
   have hw:IntKind.i64.wrap ((a:Int)+(n:Int))=(a:Int)+(n:Int):=zaj _ (by omega)
   have hw1:IntKind.i64.wrap ((a:Int)+(n:Int)+1)=(a:Int)+(n:Int)+1:=zaj _ (by omega)
   generalize (s.drop a).take n=t at *
   simp [zmn,zmm,zml,ztr,ztq,zwr,zwq,zwp,zwo,zwn,zoj,a80,zad hs,zaa hs,zab hs,zac hs,hx,hg,ha,htk,hcut,zpX,zlw,e2,zf8,hrl,hw,hw1,znd,frz,zbj]
end
section
def zie:List (Nat×Nat)→Option (Nat×Nat)
 | []=>none
 | (f,t)::l=>if f<t then some (f,t) else zie l
theorem zuz {len:Nat}: ∀ (l:List (Nat×Nat)) (a:Nat) (b:Int) {f t:Nat},InOrder len a b l→zie l=some (f,t)→f<t∧t≤len
 | [],_,_,_,_,_,h=>by cases h
 | (x,y)::l,a,b,f,t,ho,h=>by
  obtain ⟨o1,o2,o3,o4,o5⟩:=ho
  unfold zie at h
  split at h
  ·cases h;exact ⟨by assumption,o3⟩
  ·exact zuz l _ _ o5 h
theorem zAC {bar:Nat} {H:Heap} {f t:Nat}:Rn fsT SA.sp bar 96 [.agg [num f,num t]] H=some (.ret (.bool (decide (f<t))),H):=by
 have hs:=SA.mono
 refine zao hs zIh rfl rfl rfl ?_
 rw [env96]
 by_cases h:f<t
 ·have hI:(f:Int)<(t:Int):=by omega
  simp [a96,zGy,zGx,zad hs,zaa hs,h,hI,frz,zbj]
 ·have hI: ¬ (f:Int)<(t:Int):=by omega
  simp [a96,zGy,zGx,zad hs,zaa hs,h,hI,frz,zbj]
theorem zwG {bar:Nat} {H:Heap} {A:List AV} {N:Nat} (hN:A.length=N) (hN2:N≤1000000): ∀ (rest:List (Nat×Nat)) (i:Nat) (v:Nat→AV),i+rest.length=N→A.drop i=zaS rest→v 0= .slc .ro A→v 1= .fn 96 []→v 7=num N→v 8=num i →
  Wp (evI fsT SA.sp bar (.loop a97l7) (mkE 66483 v,H)) (fun e t=>match zie rest with
   | none=>e= .exit 0∧ ∃ v',t=(mkE 66483 v',H)
   | some (f,g)=>e= .ret∧ ∃ v',t=(mkE 66483 v',H)∧ ∃ j,v' 4=num j∧A[j]? = some (.agg [num f,num g])):=by
 have hs:=SA.mono
 intro rest
 induction rest with
 | nil =>
  intro i v hi hd v0 v1 v7 v8
  have hi':i=N:=by simpa using hi
  subst hi'
  rw [zah hs a97l7.eq_1]
  simp [zad hs,zaa hs,zab hs,zac hs,zyx,v7,v8,zie]
  exact ⟨_,rfl⟩
 | cons x rest ih =>
  obtain ⟨f,t⟩:=x
  intro i v hi hd v0 v1 v7 v8
  simp only [List.length_cons] at hi
  have hiN:i<N:=by omega
  have hg:A[i]? = some (.agg [num f,num t]):=by
   have:(A.drop i)[0]? = some (.agg [num f,num t]):=by rw [hd];rfl
   simpa using this
  have hd2:A.drop (i+1)=zaS rest:=by
   have:(A.drop i).drop 1=zaS rest:=by rw [hd];rfl
   rw [List.drop_drop] at this
   exact this
  have hw1:IntKind.i64.wrap ((i:Int)+1)=(i:Int)+1:=zaj _ (by omega)
  have hcall:=fun H=>zAC (bar:=bar) (H:=H) (f:=f) (t:=t)
  rw [zah hs a97l7.eq_1]
  unfold zie
  by_cases h:f<t
  ·rw [if_pos h]
   simp [zad hs,zaa hs,zab hs,zac hs,zyx,zBY,zBX,zBW,zBV,v0,v1,v7,v8,hN,hiN,hg,hcall,h]
   exact ⟨_,rfl,i,by simp,hg⟩
  ·rw [if_neg h]
   have hdec:decide (f<t)=false:=by simp;omega
   rw [hdec] at hcall
   simp [zad hs,zaa hs,zab hs,zac hs,zyx,zBY,zBX,zBW,zBV,v0,v1,v7,v8,hN,hiN,hg,hcall,hw1]
   refine ih (i+1) _ (by omega) hd2 ?_ ?_ ?_ ?_
   all_goals simp [v0,v1,v7]
theorem zwF {bar:Nat} {H:Heap} {L:List (Nat×Nat)} (hL:L.length≤1000000): ∃ x,Rn fsT SA.sp bar 97 [zik (L.map zko), .fn 96 []] H=some (.ret x,H)∧(match zie L with
  | none=>x= .int .i64 (-1)
  | some (f,g)=> ∃ j,x=num j∧(zaS L)[j]? = some (.agg [num f,num g])):=by
 have hs:=SA.mono
 have:Wc (Rn fsT SA.sp bar 97 [zik (L.map zko), .fn 96 []] H) (fun o H'=>H'=H∧ ∃ x,o= .ret x∧(match zie L with
  | none=>x= .int .i64 (-1)
  | some (f,g)=> ∃ j,x=num j∧(zaS L)[j]? = some (.agg [num f,num g]))):=by
  refine za8 hs zIg rfl rfl ?_
  rw [env97]
  cases hL2:L with
  | nil =>
   simp [zGw,zGv,a97,zad hs,zaa hs,zab hs,zik]
   rw [zah hs a97l7.eq_1]
   simp [zad hs,zaa hs,zab hs,zac hs,zyx,zBY,zBX,zBW,zBV,zGu,zie]
  | cons x l =>
   have hA:zik ((x::l).map zko)= .slc .ro (zaS (x::l)):=rfl
   have hlen:=zbo (x::l)
   have hloop:=fun v=>zwG (bar:=bar) (H:=H) (A:=zaS (x::l)) (N:=(x::l).length) hlen (by rw [←hL2];exact hL) (x::l) 0 v (by omega) rfl
   rw [hA]
   generalize x::l=L' at *
   generalize zaS L'=A at *
   simp [zGw,zGv,a97,zad hs,zaa hs,zab hs,hlen]
   refine (hloop _ ?_ ?_ ?_ ?_).mono fun e t h=> ?_
   ·simp
   ·simp
   ·simp
   ·simp
   cases hq:zie L' with
   | none =>
    rw [hq] at h
    obtain ⟨rfl,v',rfl⟩:=h
    simp [zGu,zad hs,zaa hs]
   | some q =>
    obtain ⟨f,g⟩:=q
    rw [hq] at h
    obtain ⟨rfl,v',rfl,j,k4,hj⟩:=h
    simp [k4]
    exact ⟨j,rfl,hj⟩
 obtain ⟨o,H',h,rfl,x,rfl,h2⟩:=this
 exact ⟨x,h,h2⟩
def zHH (s:List UInt8) (r:Re) (a:Nat):List UInt8×Nat×Bool:=match zie (zdf r (s.drop a)) with
 | none=>(s.drop a,s.length,true)
 | some (f,t)=>((s.drop a).take f,a+t,true)
def zxD (s rs:List UInt8) (a:Nat):AV:=match zss rs with
 | .er _ w=> .tup [.str [],num 0, .bool false,num w]
 | .ok r _=>znd (zHH s r a)
theorem zAo {bar:Nat} {H:Heap} {s rs:List UInt8} (hl:s.length≤900) {a:Nat} (ha:a<s.length) (hne:rs ≠ []) (h92:rs.length=1→rs= [92]):Rn fsT SA.sp bar 80 [.str s,num a, .str rs] H=some (.ret (zxD s rs a),H):=by
 have hs:=SA.mono
 have hx: ¬ (a:Int)<0:=by omega
 have hg: ¬ (s.length:Int)≤(a:Int):=by omega
 have hale:a≤s.length:=by omega
 have hb:zlw rs []=false:=by
  cases rs with
  | nil=>exact absurd rfl hne
  | cons c l=>rfl
 have h1:(((rs.length:Int)==1)=false∧True)∨(((rs.length:Int)==1)=true∧zlw rs [92]=true):=by
  by_cases e:rs.length=1
  ·right;rw [h92 e];exact ⟨rfl,rfl⟩
  ·left;exact ⟨by simp;omega,trivial⟩
 have htk:List.take (s.length-a) (s.drop a)=s.drop a:=List.take_of_length_le (by simp)
 obtain ⟨o,K,q1,q2⟩:=zAr (bar:=0) (H:= []) rs (Nat.zero_le _)
 refine zao hs zuA rfl rfl rfl ?_
 rw [zBz]
 unfold zxD
 cases hn:zss rs with
 | er p w =>
  have hw:=zsr hn
  have hw2:((w:Int) != 0)=true:=by simp [bne];omega
  rw [hn] at q2
  obtain ⟨rfl,rfl⟩:=q2
  rcases h1 with ⟨h1,h2⟩ | ⟨h1,h2⟩ <;>
   simp [zmn,zmm,zml,ztr,ztq,zwr,zwq,zwp,zwo,zwn,zoj,zuO,zuN,zuM,a80,zad hs,zaa hs,zab hs,zac hs,hx,hg,hb,h1,h2,q1,hw2,zpX,frz,zbj]
 | ok r j =>
  rw [hn] at q2
  obtain ⟨pid,rfl,hpl,hF,hP⟩:=q2
  have hdl:(s.drop a).length=s.length-a:=List.length_drop
  have hall:=zHE (bar:=0) hP (s:=s.drop a) (by omega)
  have hord:=zme hP.fine (s.drop a)
  have hL:(zdf r (s.drop a)).length≤1000000:=by
   rcases zjf hord (by omega) with h | h
   ·omega
   ·rw [h];simp
  obtain ⟨x,hix,hxx⟩:=zwF (bar:=0) (H:=K) hL
  simp only [zHH]
  have hfl:=fun {f t} h=>zuz (zdf r (s.drop a)) 0 (-1) (f:=f) (t:=t) hord h
  cases hq:zie (zdf r (s.drop a)) with
  | none =>
   rw [hq] at hxx
   simp only at hxx
   subst hxx
   have hP2:zik ((zdf r (s.drop a)).map zko)= .nils∨ ∃ A,zik ((zdf r (s.drop a)).map zko)= .slc .ro A:=by
    cases zdf r (s.drop a) with
    | nil=>exact .inl rfl
    | cons x l=>exact .inr ⟨_,rfl⟩
   rcases hP2 with hA | ⟨A,hA⟩<;>rw [hA] at hall hix<;>rcases h1 with ⟨h1,h2⟩ | ⟨h1,h2⟩ <;>
    simp [zmn,zmm,zml,ztr,ztq,zwr,zwq,zwp,zwo,zwn,zoj,zuO,zuN,zuM,zyH,zyG,zyF,zyE,a80,zad hs,zaa hs,zab hs,zac hs,hx,hg,hale,htk,hb,h1,h2,q1,hall,hix,zpX,znd,frz,zbj]
  | some q =>
   obtain ⟨f,t⟩:=q
   rw [hq] at hxx
   obtain ⟨jj,rfl,hj⟩:=hxx
   obtain ⟨b1,b2⟩:=hfl hq
   have hA:zik ((zdf r (s.drop a)).map zko)= .slc .ro (zaS (zdf r (s.drop a))):=by
    cases hh:zdf r (s.drop a) with
    | nil=>rw [hh] at hq;cases hq
    | cons x l=>rfl
   rw [hA] at hall hix
   generalize zaS (zdf r (s.drop a))=A at *
   have hjl:jj<A.length:=(List.getElem?_eq_some_iff.1 hj).1
   have hw:IntKind.i64.wrap ((a:Int)+(f:Int))=(a:Int)+(f:Int):=zaj _ (by omega)
   have hwt:IntKind.i64.wrap ((a:Int)+(t:Int))=(a:Int)+(t:Int):=zaj _ (by omega)
   have h0:(0:Int)≤(a:Int)+(f:Int):=by omega
   have hle:a+f≤s.length:=by omega
   have hjn: ¬ (jj:Int)<0:=by omega
   have hle2:(a:Int)≤(a:Int)+(f:Int):=by omega
   have ht:((a:Int)+(f:Int)).toNat=a+f:=by omega
   rcases h1 with ⟨h1,h2⟩ | ⟨h1,h2⟩ <;>
    simp [zmn,zmm,zml,ztr,ztq,zwr,zwq,zwp,zwo,zwn,zoj,zuO,zuN,zuM,zyH,zyG,zyF,zyE,zDo,a80,zad hs,zaa hs,zai hs,zab hs,zac hs,hx,hg,hale,htk,hb,h1,h2,q1,hall,hix,hj,hjl,hjn,hw,hwt,h0,hle,hle2,ht,zpX,znd,frz,zbj]
end
end Go.Ak
