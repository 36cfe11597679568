/- What the document's reader of patterns computes. -/
import Derived.Test.YtfcgnpphabplbaaGreatDoorOr
import Derived.Test.YtfcgnpphabplbaaGreatDoorOp
set_option linter.unusedVariables false
set_option linter.unusedSimpArgs false
namespace Go.Ak
attribute [local simp] zcx zd7 zd8 zfV zbm zc2 zaG za9 za0 zba zbs zbK zbL zbg zcJ zdJ zdK zcB zcC
 zaN zcN wanted zbb opd zkt live zcD zde zbA zcA ziq put zes esc zqx ztJ args drop1 zg1 zuW zuV ztH zou rd wr zbE sub AV.cells pack one setCells zeH znX zc3 roOf zaL zfw zav zau zey zbw newRow newObj step zcF zbM contents take flat look lim zex bound zec zeu eqS eqL eqA ver
 zcI zdI zdH zcG zcH
 List.getElem?_cons_zero List.getElem?_cons_succ zdl zbp zaE zaF zcE
attribute [local simp] sR sT cV bL mvV mvL mgV mgL asL asI asB ldN ldV ldL ldG stV stL fdL fdV fdG fgL nlC nlG bnI bvI bnL bvL bxI bxU bgI bgL exT lnS lgS clA clB clC clI pkT pkF pvT pvF pgT pgF ixL axV bxV apL
attribute [-simp] getElem?_pos
section
def Rf (H:Heap) (r:Nat) (s:List UInt8) (i:Nat):Prop:=hget H r=some (some [.str s,num i,num 0,num 0])
def Bf (H:Heap) (r:Nat) (s:List UInt8) (z:Int) (a w:Nat):Prop:=hget H r=some (some [.str s, .int .i64 z,num a,num w])∧w≠0
theorem Rf.set {H:Heap} {r:Nat} {s:List UInt8} {i:Nat} (h:Rf H r s i) (j:Nat):Rf (H.set r (some [.str s,num j,num 0,num 0])) r s j:=zae _ (zas h)
theorem zmb {bar:Nat} {H:Heap} {r:Nat} {s:List UInt8} {i:Nat} (h:Rf H r s i):Rn fsT SA.sp bar 93 [.ptr r 0] H=some (.ret (.int .i64 (atF s i)),H):=by
 have hs:=SA.mono
 unfold Rf at h
 refine zcX hs zDt rfl rfl rfl ?_
 rw [zIB]
 cases hc:s[i]? with
 | none =>
  have h1:s.length≤i:=List.getElem?_eq_none_iff.1 hc
  rw [zjv hc]
  simp [a93,zCf,zCh,zCe,zCg,zad hs,zaa hs,zai hs,zac hs,h,h1]
 | some c =>
  have h1:=zaK hc
  have h2: ¬ s.length≤i:=by omega
  have hw:IntKind.i64.wrap (c.toNat:Int)=(c.toNat:Int):=zal _ (by have:=c.toNat_lt;omega)
  rw [zaA hc]
  simp [a93,zCf,zCh,zCe,zCg,zad hs,zaa hs,zai hs,zac hs,h,h1,h2,hc,hw]
theorem zuJ {bar:Nat} {H:Heap} {r:Nat} {s:List UInt8} {z:Int} {a w:Nat} (h:Bf H r s z a w):Rn fsT SA.sp bar 93 [.ptr r 0] H=some (.ret (.int .i64 (-1)),H):=by
 have hs:=SA.mono
 obtain ⟨h,hw⟩:=h
 have hw2:((w:Int) != 0)=true:=by simp [bne];omega
 refine zcX hs zDt rfl rfl rfl ?_
 rw [zIB]
 simp [a93,zCf,zCh,zCe,zCg,zad hs,zaa hs,zai hs,zac hs,h,hw,hw2]
theorem zgZ {bar:Nat} {H:Heap} {r:Nat} {s:List UInt8} {i a w:Nat} (h:Rf H r s i) (hb:bar≤r):Rn fsT SA.sp bar 107 [.ptr r 0,num a,num w] H=some (.ret (.tup []),H.set r (some [.str s,num i,num a,num w])):=by
 have hs:=SA.mono
 have hrl:=zas h
 unfold Rf at h
 refine zh8.1 (zaO hs zym rfl rfl ?_)
 rw [zDy]
 simp [a107,zAs,zAr,zad hs,zaa hs,zai hs,zac hs,h,hb,hrl,zae]
end
section
def zsr (x:Nat×Nat):Int:=if zcz x then x.1 else -1
theorem zGq:([.int .u64 18446744073709551615, .int .u64 18446744073709551615, .int .u64 18446744073709551615, .int .u64 18446744073709551615]:List AV)=zbG (zq1 noB):=by rfl
theorem zyY {bar:Nat} {H:Heap}:Rn fsT SA.sp bar 110 [] H=some (.ret (ze4 (zq1 noB)),H):=by
 have hs:=SA.mono
 refine zao hs zF2 rfl rfl rfl ?_
 rw [zJg]
 unfold ze4
 rw [←zGq]
 simp [a110,zEE,zED,zad hs,zaa hs,frz,zbd]
theorem one_byte {bar:Nat} {H:Heap} {c:Nat} (hc:c<256):Rn fsT SA.sp bar 109 [num c] H=some (.ret (zi5 (fun x=>decide (x=c))).av,H):=by
 have hs:=SA.mono
 have hset:=fun p=>zAH (bar:=0) (H:= []) p
 unfold ze4 at hset
 simp only [zgW] at hset
 have hb:=zh5 noB c true
 have e:(fun x=>if x=c then true else noB x)=fun x=>decide (x=c):=by funext x;by_cases h:x=c<;>simp [h,noB]
 rw [e] at hb
 have hc3:c+1≤256:=by omega
 have hcI:(c:Int)<256:=by omega
 refine zao hs zF3 rfl rfl rfl ?_
 rw [zJh,zcW]
 simp [-List.reduceReplicate,zrz,zaR,zeO,zkF,a109,zEI,zEH,zEG,zEF,zad hs,zaa hs,frz,zbd,hc,hc3,hcI,hb,hset,zey,zgW]
theorem zv7 (c:UInt8):zak c c=fun x=>decide (x=c.toNat):=by
 funext x
 unfold zak
 by_cases h:x=c.toNat
 ·simp [h]
 ·have:(decide (c.toNat≤x)&&decide (x≤c.toNat))=false:=by
   rw [Bool.and_eq_false_iff]
   by_cases h1:c.toNat≤x
   ·exact .inr (by simp;omega)
   ·exact .inl (by simp;omega)
  rw [this];simp [h]
theorem zq0 {bar:Nat} {H:Heap} (c:UInt8):Rn fsT SA.sp bar 109 [num c.toNat] H=some (.ret (zi5 (zak c c)).av,H):=by
 rw [zv7]
 exact one_byte c.toNat_lt
def zfq (s:List UInt8) (i:Nat):Bool:=match s[i]? with | some c=>decide (¬ (c<48∨57<c)) | none=>false
theorem zms {s:List UInt8} {i:Nat} (h:zfq s i=true): ∃ c,s[i]? = some c∧ ¬ c<48∧ ¬ 57<c∧(48:Int)≤c.toNat∧(c.toNat:Int)≤57:=by
 unfold zfq at h
 cases hc:s[i]? with
 | none=>simp [hc] at h
 | some c =>
  simp only [hc] at h
  have h:=of_decide_eq_true h
  have h1: ¬ c<48:=fun e=>h (.inl e)
  have h2: ¬ 57<c:=fun e=>h (.inr e)
  have h1': ¬ ((c.toNat:Int)<48):=fun e=>h1 (zf5.2 e)
  have h2': ¬ ((57:Int)<(c.toNat:Int)):=fun e=>h2 (zh3.2 e)
  exact ⟨c,rfl,h1,h2,by omega,by omega⟩
theorem zoh {s:List UInt8} {i:Nat} (h:zfq s i=false):(¬ (48:Int)≤atF s i)∨((48:Int)≤atF s i∧ ¬ atF s i≤57):=by
 unfold zfq at h
 cases hc:s[i]? with
 | none=>exact .inl (by rw [zjv hc];omega)
 | some c =>
  simp only [hc] at h
  have h:=of_decide_eq_false h
  rw [zaA hc]
  by_cases h1:c<48
  ·have:=zf5.1 h1;exact .inl (by omega)
  ·by_cases h2:57<c
   ·have h2':=zh3.1 h2
    have h1': ¬ ((c.toNat:Int)<48):=fun e=>h1 (zf5.2 e)
    exact .inr ⟨by omega,by omega⟩
   ·exact absurd (fun e=>e.elim h1 h2) h
theorem zxY {s:List UInt8} {i:Nat} (h:zfq s i=false):zeF s i=(0,0):=by
 unfold zfq at h
 unfold zeF
 cases hc:s[i]? with
 | none=>rfl
 | some c =>
  simp only [hc] at h
  have h:=of_decide_eq_false h
  simp only
  rw [if_pos (Decidable.not_not.1 h)]
theorem zBA {s:List UInt8} {i:Nat} {c:UInt8} (hc:s[i]? = some c) (h1: ¬ c<48) (h2: ¬ 57<c) (h:zfq s (i+1)=false):zeF s i=(c.toNat-48,1):=by
 unfold zfq at h
 unfold zeF
 simp only [hc]
 rw [if_neg (fun e=>e.elim h1 h2)]
 cases hd:s[i+1]? with
 | none=>rfl
 | some d =>
  simp only [hd] at h
  have h:=of_decide_eq_false h
  simp only
  rw [if_pos (Decidable.not_not.1 h)]
theorem zBz {s:List UInt8} {i:Nat} {c d:UInt8} (hc:s[i]? = some c) (h1: ¬ c<48) (h2: ¬ 57<c) (hd:s[i+1]? = some d) (h3: ¬ d<48) (h4: ¬ 57<d):zeF s i=(10*(c.toNat-48)+(d.toNat-48),2):=by
 unfold zeF
 simp only [hc,hd]
 rw [if_neg (fun e=>e.elim h1 h2),if_neg (fun e=>e.elim h3 h4)]
theorem zuE {bar:Nat} {H:Heap} {r:Nat} {s:List UInt8} {i:Nat} (h:Rf H r s i) (hb:bar≤r) (hi:i≤100000) :
  Rn fsT SA.sp bar 111 [.ptr r 0] H=some (.ret (.int .i64 (zsr (zeF s i))),H.set r (some [.str s,num (i+(zeF s i).2),num 0,num 0])):=by
 have hs:=SA.mono
 have hrl:=zas h
 have h0:=zea h
 have hw:IntKind.i64.wrap ((i:Int)+1)=(i:Int)+1:=zal _ (by omega)
 have hw2:IntKind.i64.wrap ((i:Int)+1+1)=(i:Int)+1+1:=zal _ (by omega)
 have w00:IntKind.i64.wrap 0=0:=by decide
 have w1:IntKind.i64.wrap 1=1:=by decide
 have w2:IntKind.i64.wrap 2=2:=by decide
 have hc0:=zmb (bar:=bar) h
 have h':=h
 unfold Rf at h'
 refine zh8.1 (zaO hs zF1 rfl rfl ?_)
 rw [zJf]
 simp [a111,zEC,zEB,zad hs,zaa hs,zab hs]
 rw [zaj hs a111l5.eq_1]
 cases hd0:zfq s i with
 | false =>
  have e:=zxY hd0
  rcases zoh hd0 with k | ⟨k1,k2⟩
  ·simp [zad hs,zaa hs,zab hs,zac hs,zj4,zng,znf,zne,hc0,k,e,zsr,zcz,h0]
  ·simp [zad hs,zaa hs,zab hs,zac hs,zj4,zng,znf,zne,hc0,k1,k2,e,zsr,zcz,h0]
 | true =>
  obtain ⟨c,hc,c1,c2,c3,c4⟩:=zms hd0
  rw [zaA hc] at hc0
  have wa:IntKind.i64.wrap (c.toNat:Int)=(c.toNat:Int):=zal _ (by omega)
  have ws:IntKind.i64.wrap ((c.toNat:Int)-48)=(c.toNat:Int)-48:=zal _ (by omega)
  have hR:=h.set (i+1)
  have hn1:num (i+1)= .int .i64 ((i:Int)+1):=rfl
  have hc1:=zmb (bar:=bar) hR
  have hR':=hR
  unfold Rf at hR'
  rw [hn1] at hR' hc1
  simp [zad hs,zaa hs,zab hs,zac hs,zj4,zz8,zz7,hc0,c3,c4,wa,ws,w00,w1,h',hw,hb,hrl,zae]
  rw [zaj hs a111l5.eq_1]
  cases hd1:zfq s (i+1) with
  | false =>
   have e:=zBA hc c1 c2 hd1
   have e2:(((c.toNat-48:Nat)):Int)=(c.toNat:Int)-48:=by omega
   have hz: ¬ (50:Int)<(c.toNat:Int)-48:=by omega
   have hz2:c.toNat-48≤50:=by omega
   rcases zoh hd1 with k | ⟨k1,k2⟩
   ·simp [zad hs,zaa hs,zab hs,zac hs,zj4,zng,znf,zne,hc1,k,e,zsr,zcz,hz,hz2,e2]
    rfl
   ·simp [zad hs,zaa hs,zab hs,zac hs,zj4,zng,znf,zne,hc1,k1,k2,e,zsr,zcz,hz,hz2,e2]
    rfl
  | true =>
   obtain ⟨d,hd,d1,d2,d3,d4⟩:=zms hd1
   rw [zaA hd] at hc1
   have e:=zBz hc c1 c2 hd d1 d2
   have wm:IntKind.i64.wrap (((c.toNat:Int)-48)*10)=((c.toNat:Int)-48)*10:=zal _ (by omega)
   have wb:IntKind.i64.wrap (((c.toNat:Int)-48)*10+(d.toNat:Int))=((c.toNat:Int)-48)*10+(d.toNat:Int):=zal _ (by omega)
   have wc:IntKind.i64.wrap (((c.toNat:Int)-48)*10+(d.toNat:Int)-48)=((c.toNat:Int)-48)*10+(d.toNat:Int)-48:=zal _ (by omega)
   have e4:num (i+2)= .int .i64 ((i:Int)+1+1):=by simp [num];omega
   have hset:(H.set r (some [.str s, .int .i64 ((i:Int)+1),num 0,num 0])).set r (some [.str s, .int .i64 ((i:Int)+1+1),num 0,num 0])=H.set r (some [.str s, .int .i64 ((i:Int)+1+1),num 0,num 0]):=List.set_set ..
   simp [zad hs,zaa hs,zab hs,zac hs,zj4,zz8,zz7,hc1,d3,d4,wm,wb,wc,w2,hw2,hb,hrl,zae]
   rw [zaj hs a111l5.eq_1,e,e4]
   have e5:((10*(c.toNat-48)+(d.toNat-48):Nat):Int)=((c.toNat:Int)-48)*10+(d.toNat:Int)-48:=by omega
   by_cases hz:(50:Int)<((c.toNat:Int)-48)*10+(d.toNat:Int)-48
   ·have hz2: ¬ 10*(c.toNat-48)+(d.toNat-48)≤50:=by omega
    have e6:zsr (10*(c.toNat-48)+(d.toNat-48),2)= -1:=by simp [zsr,zcz,hz2]
    rw [e6]
    simp [zad hs,zaa hs,zab hs,zac hs,zj4,zng,znf,zne,hz]
   ·have hz2:10*(c.toNat-48)+(d.toNat-48)≤50:=by omega
    have e6:zsr (10*(c.toNat-48)+(d.toNat-48),2)=((c.toNat:Int)-48)*10+(d.toNat:Int)-48:=by rw [←e5];simp [zsr,zcz,hz2]
    rw [e6]
    simp [zad hs,zaa hs,zab hs,zac hs,zj4,zng,znf,zne,hz]
end
section
abbrev zo1:AV:= .box [.int .i64 0, .int .u64 0, .int .u64 0, .int .u64 0, .int .u64 0, .int .i64 0, .int .i64 0, .nils]
def RR (s:List UInt8) (r:Nat) (H:Heap) (m:Nat) (x:PR Re) (e:AExit) (t:EH):Prop :=
 match x with
 | .er a w=>e= .ret∧ ∃ (y:Re) (v':Nat→AV) (z:Int),Tree m y∧t=(mkE 4874663954868102531948795 v',H.set r (some [.str s, .int .i64 z,num a,num w]))∧v' 4= .box y.av.cells
 | .ok y j=>e= .ret∧ ∃ v',t=(mkE 4874663954868102531948795 v',H.set r (some [.str s,num j,num 0,num 0]))∧v' 4= .box y.av.cells
theorem zBe (s:List UInt8) (r:Nat) (H:Heap) (m a w:Nat):RR s r H m (.er a w)=fun e t=>e= .ret∧ ∃ (y:Re) (v':Nat→AV) (z:Int),Tree m y∧t=(mkE 4874663954868102531948795 v',H.set r (some [.str s, .int .i64 z,num a,num w]))∧v' 4= .box y.av.cells:=rfl
theorem rr_ok (s:List UInt8) (r:Nat) (H:Heap) (m:Nat) (y:Re) (j:Nat):RR s r H m (.ok y j)=fun e t=>e= .ret∧ ∃ v',t=(mkE 4874663954868102531948795 v',H.set r (some [.str s,num j,num 0,num 0]))∧v' 4= .box y.av.cells:=rfl
theorem zsZ {x:Nat×Nat} (h:zcz x=true):zsr x=x.1:=by simp [zsr,h]
theorem zxX {x:Nat×Nat} (h:zcz x=false):zsr x= -1:=by simp [zsr,h]
def zkH (s:List UInt8) (a:Nat×Nat) (j:Nat):Option (Nat×Int×Nat) :=
 if zcz a=true∧s[j]? = some 44 then
  if s[j+1]? = some 125 then some (a.1, -1,j+2) else
   if zcz (zeF s (j+1))=true∧a.1≤(zeF s (j+1)).1∧s[j+1+(zeF s (j+1)).2]? = some 125 then some (a.1,((zeF s (j+1)).1:Int),j+1+(zeF s (j+1)).2+1) else none
 else if zcz a=true∧s[j]? = some 125 then some (a.1,(a.1:Int),j+1) else none
theorem zxb (s:List UInt8) (i:Nat):zer s i=zkH s (zeF s i) (i+(zeF s i).2):=rfl
set_option maxHeartbeats 1000000 in
theorem zvX {s:List UInt8} (hs':s.length≤400) {bar:Nat} {H:Heap} {r m:Nat} (hr:r<H.length) (hb:bar≤r) (hm:1≤m): ∀ (n:Nat) (x:Re) (i:Nat) (v:Nat→AV),i≤s.length→s.length<n+i→Tree m x→v 0= .ptr r 0→v 4=zo1→v 3= .box x.av.cells →
  Wp (evI fsT SA.sp bar (.loop a102l28) (mkE 4874663954868102531948795 v,H.set r (some [.str s,num i,num 0,num 0]))) (RR s r H m (zcO s n x i)):=by
 have hs:=SA.mono
 intro n
 induction n with
 | zero=>intro x i v h1 h2;omega
 | succ n ih =>
  intro x i v h1 h2 hx v0 v4 v3
  have hR:Rf (H.set r (some [.str s,num i,num 0,num 0])) r s i:=zae _ hr
  have hR':=hR
  unfold Rf at hR'
  obtain ⟨c1,c2,c3,c4,c5,c6,hcs⟩:=Re.av_eight hx.wide
  rw [hcs] at v3
  simp only [AV.cells] at v3
  have hiw:IntKind.i64.wrap ((i:Int)+1)=(i:Int)+1:=zal _ (by omega)
  have step: ∀ (mn:Nat) (mx:Int) (j:Nat) (w:Nat→AV),i<j→j≤s.length→mn≤50→ -1≤mx∧mx≤50→w 0= .ptr r 0→w 4=zo1 →
    w 3= .box [.int .i64 6, .int .u64 0, .int .u64 0, .int .u64 0, .int .u64 0,num mn, .int .i64 mx, .slc .ro [.agg [.int .i64 x.k,c1,c2,c3,c4,c5,c6,rowOf (Re.avs x.l)]]] →
    Wp (evI fsT SA.sp bar (.loop a102l28) (mkE 4874663954868102531948795 w,H.set r (some [.str s,num j,num 0,num 0]))) (RR s r H m (zcO s n (zfm mn mx x) j)):=fun mn mx j w hj hl a b w0 w4 w3 =>
   ih (zfm mn mx x) j w hl (by omega) (zuv hx hm a b) w0 w4 (by rw [w3,zuG,hcs];rfl)
  have hc:=zmb (bar:=bar) hR
  have fno: ∀ c:UInt8,¬ s[i]? = some c→(atF s i==(c.toNat:Int))=false:=fun c h=>(zcV c h).1
  rw [zaj hs a102l28.eq_1]
  by_cases k42:s[i]? = some 42
  ·rw [show atF s i=42 from zaA k42] at hc
   have hlt:=zaK k42
   unfold zcO
   rw [k42]
   simp only [if_true]
   simp [zad hs,zaa hs,zab hs,zac hs,zfU,zfT,zfS,zfR,zfQ,zfP,zfO,zfN,zfM,zd6,zd5,zd4,zd3,zd2,zd1,zd0,zdZ,zdY,zdX,zdW,zdV,zdU,zdT,zdS,zdR,zdQ,zdP,v0,v3,v4,hR',hc,hiw,hb,hr,zae,zbw]
   refine step 0 (-1) (i+1) _ (by omega) hlt (by omega) (by omega) ?_ ?_ ?_
   ·simp [v0]
   ·simp [v4]
   ·simp
  have f42:(atF s i==42)=false:=fno 42 k42
  by_cases k43:s[i]? = some 43
  ·rw [show atF s i=43 from zaA k43] at hc
   have hlt:=zaK k43
   unfold zcO
   rw [k43]
   simp only [show ¬ ((43:UInt8)=42) by decide,if_true,if_false]
   simp [zad hs,zaa hs,zab hs,zac hs,zfU,zfT,zfS,zfR,zfQ,zfP,zfO,zfN,zfM,zd6,zd5,zd4,zd3,zd2,zd1,zd0,zdZ,zdY,zdX,zdW,zdV,zdU,zdT,zdS,zdR,zdQ,zdP,v0,v3,v4,hR',hc,hiw,hb,hr,zae,zbw]
   refine step 1 (-1) (i+1) _ (by omega) hlt (by omega) (by omega) ?_ ?_ ?_
   ·simp [v0]
   ·simp [v4]
   ·simp
  have f43:(atF s i==43)=false:=fno 43 k43
  by_cases k63:s[i]? = some 63
  ·rw [show atF s i=63 from zaA k63] at hc
   have hlt:=zaK k63
   unfold zcO
   rw [k63]
   simp only [show ¬ ((63:UInt8)=42) by decide,show ¬ ((63:UInt8)=43) by decide,if_true,if_false]
   simp [zad hs,zaa hs,zab hs,zac hs,zfU,zfT,zfS,zfR,zfQ,zfP,zfO,zfN,zfM,zd6,zd5,zd4,zd3,zd2,zd1,zd0,zdZ,zdY,zdX,zdW,zdV,zdU,zdT,zdS,zdR,zdQ,zdP,v0,v3,v4,hR',hc,hiw,hb,hr,zae,zbw]
   refine step 0 1 (i+1) _ (by omega) hlt (by omega) (by omega) ?_ ?_ ?_
   ·simp [v0]
   ·simp [v4]
   ·simp
  have f63:(atF s i==63)=false:=fno 63 k63
  by_cases k123:s[i]? = some 123
  ·rw [show atF s i=123 from zaA k123] at hc
   have hlt:=zaK k123
   have e0:zcO s (n+1) x i=match zer s (i+1) with
     | none=> .er i 50
     | some (mn,mx,j)=>zcO s n (zfm mn mx x) j:=by
    rw [zcO,k123]
    rfl
   have hR1:Rf (H.set r (some [.str s,num (i+1),num 0,num 0])) r s (i+1):=zae _ hr
   have hn:=zuE (bar:=bar) hR1 hb (by omega)
   have hpa:=zeE (s:=s) (i+1) (by omega)
   have hpl:=fun mn mx j=>zgT (s:=s) (i:=i+1) (by omega) (mn:=mn) (mx:=mx) (j:=j)
   have eT:=zxb s (i+1)
   generalize zeF s (i+1)=a at hn hpa eT
   obtain ⟨j,hj⟩: ∃ j,j=i+1+a.2:=⟨_,rfl⟩
   rw [←hj] at hn hpa eT
   rw [List.set_set] at hn
   replace hn:Rn fsT SA.sp bar 111 [.ptr r 0] (H.set r (some [.str s, .int .i64 ((i:Int)+1),num 0,num 0]))=some (.ret (.int .i64 (zsr a)),H.set r (some [.str s,num j,num 0,num 0])):=hn
   have hRj:Rf (H.set r (some [.str s,num j,num 0,num 0])) r s j:=zae _ hr
   have hcj:=zmb (bar:=bar) hRj
   have hbj:=zgZ (bar:=bar) (a:=i) (w:=50) hRj hb
   rw [List.set_set] at hbj
   replace hbj:Rn fsT SA.sp bar 107 [.ptr r 0,num i, .int .i64 50] (H.set r (some [.str s,num j,num 0,num 0]))=some (.ret (.tup []),H.set r (some [.str s,num j,num i,num 50])):=hbj
   have hRj':=hRj
   unfold Rf at hRj'
   have hjw:IntKind.i64.wrap ((j:Int)+1)=(j:Int)+1:=zal _ (by omega)
   rw [e0]
   cases ha:zcz a with
   | false =>
    rw [zxX ha] at hn
    have eT:zer s (i+1)=none:=by rw [eT];simp [zkH,ha]
    rw [eT]
    simp only
    rw [zBe]
    simp [zad hs,zaa hs,zab hs,zac hs,zfU,zfT,zfS,zfR,zfQ,zfP,zfO,zfN,zfM,zd6,zd5,zd4,zd3,zd2,zd1,zd0,zdZ,zdY,zdX,zdW,zdV,zdU,zdT,zdS,zdR,zdQ,zdP,v0,v3,v4,hR',hc,hiw,hb,hr,zae,hn,hbj]
    exact ⟨x,hx,_,⟨rfl,j,rfl⟩,by simp [hcs]⟩
   | true =>
    rw [zsZ ha] at hn
    have ha50:=zlE ha
    have hge:(0:Int)≤(a.1:Int):=by omega
    have hge2: ¬ (a.1:Int)<0:=by omega
    by_cases c44:s[j]? = some 44
    ·rw [show atF s j=44 from zaA c44] at hcj
     have hjl:=zaK c44
     have hRk:Rf (H.set r (some [.str s,num (j+1),num 0,num 0])) r s (j+1):=zae _ hr
     have hck:=zmb (bar:=bar) hRk
     have hRk':=hRk
     unfold Rf at hRk'
     replace hck:Rn fsT SA.sp bar 93 [.ptr r 0] (H.set r (some [.str s, .int .i64 ((j:Int)+1),num 0,num 0]))=some (.ret (.int .i64 (atF s (j+1))),H.set r (some [.str s, .int .i64 ((j:Int)+1),num 0,num 0])):=hck
     replace hRk':hget (H.set r (some [.str s, .int .i64 ((j:Int)+1),num 0,num 0])) r=some (some [.str s, .int .i64 ((j:Int)+1),num 0,num 0]):=hRk'
     have hkw:IntKind.i64.wrap ((j:Int)+1+1)=(j:Int)+1+1:=zal _ (by omega)
     by_cases d125:s[j+1]? = some 125
     ·rw [show atF s (j+1)=125 from zaA d125] at hck
      have hj2:=zaK d125
      have eT:zer s (i+1)=some (a.1, -1,j+2):=by rw [eT];simp [zkH,ha,c44,d125]
      have hpl:=hpl _ _ _ eT
      rw [eT]
      simp only
      simp [zad hs,zaa hs,zab hs,zac hs,zfU,zfT,zfS,zfR,zfQ,zfP,zfO,zfN,zfM,zd6,zd5,zd4,zd3,zd2,zd1,zd0,zdZ,zdY,zdX,zdW,zdV,zdU,zdT,zdS,zdR,zdQ,zdP,v0,v3,v4,hR',hc,hiw,hb,hr,zae,hn,hge,hge2,hRj',hcj,hjw,hRk',hck,hkw,zbw]
      refine step a.1 (-1) (j+2) _ (by omega) hpl.2.1 hpl.2.2.1 hpl.2.2.2 ?_ ?_ ?_
      ·simp [v0]
      ·simp [v4]
      ·simp
     ·have d125':(atF s (j+1)==125)=false:=(zcV 125 d125).1
      have hn2:=zuE (bar:=bar) hRk hb (by omega)
      have hpb:=zeE (s:=s) (j+1) (by omega)
      have eT2:zer s (i+1)=if zcz (zeF s (j+1))=true∧a.1≤(zeF s (j+1)).1∧s[j+1+(zeF s (j+1)).2]? = some 125 then some (a.1,((zeF s (j+1)).1:Int),j+1+(zeF s (j+1)).2+1) else none:=by
       rw [eT];unfold zkH;rw [if_pos ⟨ha,c44⟩,if_neg d125]
      clear eT
      generalize zeF s (j+1)=b at hn2 hpb eT2
      obtain ⟨k,hk⟩: ∃ k,k=j+1+b.2:=⟨_,rfl⟩
      rw [←hk] at hn2 hpb eT2
      rw [List.set_set] at hn2
      replace hn2:Rn fsT SA.sp bar 111 [.ptr r 0] (H.set r (some [.str s, .int .i64 ((j:Int)+1),num 0,num 0]))=some (.ret (.int .i64 (zsr b)),H.set r (some [.str s,num k,num 0,num 0])):=hn2
      have hRm:Rf (H.set r (some [.str s,num k,num 0,num 0])) r s k:=zae _ hr
      have hcm:=zmb (bar:=bar) hRm
      have hRm':=hRm
      unfold Rf at hRm'
      have hmw:IntKind.i64.wrap ((k:Int)+1)=(k:Int)+1:=zal _ (by omega)
      have hbm:=zgZ (bar:=bar) (a:=i) (w:=50) hRm hb
      rw [List.set_set] at hbm
      replace hbm:Rn fsT SA.sp bar 107 [.ptr r 0,num i, .int .i64 50] (H.set r (some [.str s,num k,num 0,num 0]))=some (.ret (.tup []),H.set r (some [.str s,num k,num i,num 50])):=hbm
      by_cases hbl:zcz b=true∧a.1≤b.1
      ·obtain ⟨hb1,hb2⟩:=hbl
       rw [zsZ hb1] at hn2
       have hlt2: ¬ (b.1:Int)<(a.1:Int):=by omega
       by_cases e125:s[k]? = some 125
       ·rw [show atF s k=125 from zaA e125] at hcm
        have eT:zer s (i+1)=some (a.1,(b.1:Int),k+1):=by rw [eT2,if_pos ⟨hb1,hb2,e125⟩]
        have hpl:=hpl _ _ _ eT
        rw [eT]
        simp only
        simp [zad hs,zaa hs,zab hs,zac hs,zfU,zfT,zfS,zfR,zfQ,zfP,zfO,zfN,zfM,zd6,zd5,zd4,zd3,zd2,zd1,zd0,zdZ,zdY,zdX,zdW,zdV,zdU,zdT,zdS,zdR,zdQ,zdP,v0,v3,v4,hR',hc,hiw,hb,hr,zae,hn,hge,hge2,hRj',hcj,hjw,hck,d125',hn2,hlt2,hRm',hcm,hmw,zbw]
        refine step a.1 b.1 (k+1) _ (by omega) hpl.2.1 hpl.2.2.1 hpl.2.2.2 ?_ ?_ ?_
        ·simp [v0]
        ·simp [v4]
        ·simp
       ·have e125':(atF s k != 125)=true:=(zcV 125 e125).2
        have eT:zer s (i+1)=none:=by rw [eT2,if_neg (fun h=>e125 h.2.2)]
        rw [eT]
        simp only
        rw [zBe]
        simp [zad hs,zaa hs,zab hs,zac hs,zfU,zfT,zfS,zfR,zfQ,zfP,zfO,zfN,zfM,zd6,zd5,zd4,zd3,zd2,zd1,zd0,zdZ,zdY,zdX,zdW,zdV,zdU,zdT,zdS,zdR,zdQ,zdP,v0,v3,v4,hR',hc,hiw,hb,hr,zae,hn,hge,hge2,hRj',hcj,hjw,hck,d125',hn2,hlt2,hRm',hcm,hmw,e125',hbm]
        exact ⟨x,hx,_,⟨rfl,k,rfl⟩,by simp [hcs]⟩
      ·have hlt2:zsr b<(a.1:Int):=by
        cases hb1:zcz b with
        | false=>rw [zxX hb1];omega
        | true =>
         rw [zsZ hb1]
         have: ¬ a.1≤b.1:=fun h=>hbl ⟨hb1,h⟩
         omega
       have eT:zer s (i+1)=none:=by rw [eT2,if_neg (fun h=>hbl ⟨h.1,h.2.1⟩)]
       rw [eT]
       simp only
       rw [zBe]
       simp [zad hs,zaa hs,zab hs,zac hs,zfU,zfT,zfS,zfR,zfQ,zfP,zfO,zfN,zfM,zd6,zd5,zd4,zd3,zd2,zd1,zd0,zdZ,zdY,zdX,zdW,zdV,zdU,zdT,zdS,zdR,zdQ,zdP,v0,v3,v4,hR',hc,hiw,hb,hr,zae,hn,hge,hge2,hRj',hcj,hjw,hck,d125',hn2,hlt2,hRm',hcm,hmw,hbm]
       exact ⟨x,hx,_,⟨rfl,k,rfl⟩,by simp [hcs]⟩
    ·have c44':(atF s j==44)=false:=(zcV 44 c44).1
     by_cases c125:s[j]? = some 125
     ·rw [show atF s j=125 from zaA c125] at hcj
      have eT:zer s (i+1)=some (a.1,(a.1:Int),j+1):=by rw [eT];simp [zkH,ha,c125]
      have hpl:=hpl _ _ _ eT
      rw [eT]
      simp only
      simp [zad hs,zaa hs,zab hs,zac hs,zfU,zfT,zfS,zfR,zfQ,zfP,zfO,zfN,zfM,zd6,zd5,zd4,zd3,zd2,zd1,zd0,zdZ,zdY,zdX,zdW,zdV,zdU,zdT,zdS,zdR,zdQ,zdP,v0,v3,v4,hR',hc,hiw,hb,hr,zae,hn,hge,hge2,hRj',hcj,hjw,zbw]
      refine step a.1 a.1 (j+1) _ (by omega) hpl.2.1 hpl.2.2.1 hpl.2.2.2 ?_ ?_ ?_
      ·simp [v0]
      ·simp [v4]
      ·simp
     ·have c125':(atF s j != 125)=true:=(zcV 125 c125).2
      have eT:zer s (i+1)=none:=by rw [eT];simp [zkH,c44,c125]
      rw [eT]
      simp only
      rw [zBe]
      simp [zad hs,zaa hs,zab hs,zac hs,zfU,zfT,zfS,zfR,zfQ,zfP,zfO,zfN,zfM,zd6,zd5,zd4,zd3,zd2,zd1,zd0,zdZ,zdY,zdX,zdW,zdV,zdU,zdT,zdS,zdR,zdQ,zdP,v0,v3,v4,hR',hc,hiw,hb,hr,zae,hn,hge,hge2,hcj,c44',c125',hbj]
      exact ⟨x,hx,_,⟨rfl,j,rfl⟩,by simp [hcs]⟩
  have f123:(atF s i==123)=false:=fno 123 k123
  have e0:=znY n x k42 k43 k63 k123
  rw [e0,rr_ok]
  simp [zad hs,zaa hs,zab hs,zac hs,zfU,zfT,zfS,zfR,zfQ,zfP,zfO,zfN,zfM,zd6,zd5,zd4,zd3,zd2,zd1,zd0,zdZ,zdY,zdX,zdW,zdV,zdU,zdT,zdS,zdR,zdQ,zdP,v0,v3,v4,hR',hc,f42,f43,f63,f123]
  refine ⟨_,rfl,?_⟩
  simp [hcs]
end
section
def zHB (s:List UInt8) (r:Nat) (H:Heap) (m:Nat) (x:PR Re) (o:Out) (K:Heap):Prop :=
 match x with
 | .er a w=> ∃ (y:Re) (z:Int),Tree m y∧o= .ret y.av∧K=H.set r (some [.str s, .int .i64 z,num a,num w])
 | .ok y j=>o= .ret y.av∧K=H.set r (some [.str s,num j,num 0,num 0])
theorem zen (s:List UInt8) (r:Nat) (H:Heap) (m a w:Nat):zHB s r H m (.er a w)=fun o K=> ∃ (y:Re) (z:Int),Tree m y∧o= .ret y.av∧K=H.set r (some [.str s, .int .i64 z,num a,num w]):=rfl
theorem zf0 (s:List UInt8) (r:Nat) (H:Heap) (m:Nat) (y:Re) (j:Nat):zHB s r H m (.ok y j)=fun o K=>o= .ret y.av∧K=H.set r (some [.str s,num j,num 0,num 0]):=rfl
theorem zBd {s:List UInt8} (hs':s.length≤400) {bar:Nat} {H:Heap} {r i m:Nat} {x:Re} (h:Rf H r s i) (hb:bar≤r) (hi:i≤s.length) (hm:1≤m) (hx:Tree m x) :
  Wc (Rn fsT SA.sp bar 102 [.ptr r 0,x.av] H) (zHB s r H m (zcO s (s.length+1) x i)):=by
 have hs:=SA.mono
 have hrl:=zas h
 have hsame:=zea h
 obtain ⟨c1,c2,c3,c4,c5,c6,hcs⟩:=Re.av_eight hx.wide
 refine zaO hs zyo rfl rfl ?_
 rw [zDA,hcs]
 simp [zAz,a102,zad hs,zaa hs,zab hs]
 have key:=zvX hs' (bar:=bar) (H:=H) hrl hb hm (s.length+1) x i (st (st (st (st noV 0 (.ptr r 0)) 1 (.agg [.int .i64 x.k,c1,c2,c3,c4,c5,c6,rowOf (Re.avs x.l)])) 3 (.box [.int .i64 x.k,c1,c2,c3,c4,c5,c6,rowOf (Re.avs x.l)])) 4 zo1) hi (by omega) hx
  (by simp) (by simp) (by simp [hcs])
 rw [hsame] at key
 refine key.mono fun e t ht=> ?_
 have hpl:=zdF (s:=s) (s.length+1) x i m hi (by omega) hm hx
 cases hy:zcO s (s.length+1) x i with
 | er a w =>
  rw [hy] at ht
  obtain ⟨rfl,y,v',z,hyt,rfl,k4⟩:=ht
  obtain ⟨d1,d2,d3,d4,d5,d6,hds⟩:=Re.av_eight hyt.wide
  rw [hds] at k4
  simp only [AV.cells] at k4
  rw [zen]
  simp [k4]
  exact ⟨y,hyt,by rw [hds],z,rfl⟩
 | ok y j =>
  rw [hy] at ht hpl
  obtain ⟨rfl,v',rfl,k4⟩:=ht
  obtain ⟨d1,d2,d3,d4,d5,d6,hds⟩:=Re.av_eight hpl.2.2.wide
  rw [hds] at k4
  simp only [AV.cells] at k4
  rw [zf0,hds]
  simp [k4]
theorem zxo {s:List UInt8} {bar:Nat} {H:Heap} {r:Nat} {z:Int} {a w:Nat} {x:Re} (h:Bf H r s z a w) (hx:x.wide) :
  Rn fsT SA.sp bar 102 [.ptr r 0,x.av] H=some (.ret x.av,H):=by
 have hs:=SA.mono
 obtain ⟨c1,c2,c3,c4,c5,c6,hcs⟩:=Re.av_eight hx
 have hc:=zuJ (bar:=bar) h
 have h':=h.1
 refine zh8.1 (zaO hs zyo rfl rfl ?_)
 rw [zDA,hcs]
 simp [zAz,a102,zad hs,zaa hs,zab hs]
 rw [zaj hs a102l28.eq_1]
 simp [zfU,zfT,zfS,zfR,zfQ,zfP,zfO,zfN,zfM,zd6,zd5,zd4,zd3,zd2,zd1,zd0,zdZ,zdY,zdX,zdW,zdV,zdU,zdT,zdS,zdR,zdQ,zdP,zad hs,zaa hs,zab hs,zac hs,h',hc]
theorem zBh {s:List UInt8} {bar:Nat} {H:Heap} {r:Nat} {z:Int} {a w:Nat} {b u:Int} (h:Bf H r s z a w) (hb:bar≤r):Rn fsT SA.sp bar 107 [.ptr r 0, .int .i64 b, .int .i64 u] H=some (.ret (.tup []),H):=by
 have hs:=SA.mono
 obtain ⟨h,hw⟩:=h
 have hw2:((w:Int)==0)=false:=by simp;omega
 refine zh8.1 (zaO hs zym rfl rfl ?_)
 rw [zDy]
 simp [a107,zAs,zAr,zad hs,zaa hs,zai hs,zac hs,h,hw,hw2]
def zso (s:List UInt8) (n:Nat):Prop:= ∀ (bar:Nat) (H:Heap) (r i deep:Nat),Rf H r s i→bar≤r→i≤s.length→3*(s.length+1-i)≤n→n≤1300→deep≤20 →
 Wc (Rn fsT SA.sp bar 69 [.ptr r 0,num deep] H) (zHB s r H (500*(n+1)) (zDm s n i deep))
set_option maxHeartbeats 1000000 in
theorem zxz {s:List UInt8} {n:Nat} (hs':s.length≤400) (hC:zso s n) {bar:Nat} {H:Heap} {r i deep:Nat} (h:Rf H r s i) (hb:bar≤r) (hi:i<s.length) (hf:3*(s.length+1-i)≤n+3) (hn:n≤1300) (hd:deep≤20) :
  Wc (Rn fsT SA.sp bar 101 [.ptr r 0,num deep] H) (zHB s r H (500*(n+1)) (zkI s (n+1) i deep)):=by
 have hs:=SA.mono
 have hrl:=zas h
 obtain ⟨c,hc⟩: ∃ c,s[i]? = some c:=⟨s[i],List.getElem?_eq_getElem hi⟩
 have hp:=zmb (bar:=bar) h
 rw [zaA hc] at hp
 have hte:Tree (500*(n+1)) emptyRe:=znM _ (by omega)
 have hz:emptyRe.av= .agg [.int .i64 0, .int .u64 0, .int .u64 0, .int .u64 0, .int .u64 0, .int .i64 0, .int .i64 0, .nils]:=rfl
 have f50:Rn fsT SA.sp bar 107 [.ptr r 0,num i, .int .i64 50] H=_:=zgZ (bar:=bar) (a:=i) (w:=50) h hb
 have f4:Rn fsT SA.sp bar 107 [.ptr r 0,num i, .int .i64 4] H=_:=zgZ (bar:=bar) (a:=i) (w:=4) h hb
 have hw:IntKind.i64.wrap ((i:Int)+1)=(i:Int)+1:=zal _ (by omega)
 have hw2:IntKind.i64.wrap ((i:Int)+1+1)=(i:Int)+1+1:=zal _ (by omega)
 have hn1:num (i+1)= .int .i64 ((i:Int)+1):=rfl
 have h':=h
 unfold Rf at h'
 have hsame:=zea h
 refine zaO hs zF7 rfl rfl ?_
 rw [zJl]
 unfold zkI
 rw [hc]
 simp only
 by_cases c42:c=42
 ·subst c42
  rw [if_pos (by simp),zen]
  simp [zaz,zau,zav,zdc,zdd,zdb,zda,zc9,zc8,zc7,zc6,a101,zad hs,zaa hs,zai hs,zac hs,zab hs,h',hp,f50,hrl]
  exact ⟨emptyRe,hte,hz.symm,i,rfl⟩
 by_cases c43:c=43
 ·subst c43
  rw [if_pos (by simp),zen]
  simp [zaz,zau,zav,zdc,zdd,zdb,zda,zc9,zc8,zc7,zc6,zdt,zds,zco,zcn,zcm,zcl,zck,zcj,zci,zch,zcg,zcf,zce,zcd,zcc,zcb,zca,zb9,zb8,zb7,zb6,zb5,zb4,zb3,zb2,zb1,zb0,zbZ,zbY,zbX,zbW,zbV,zbU,zbT,a101,zad hs,zaa hs,zai hs,zac hs,zab hs,h',hp,hrl,hb,hw,zae,f50]
  exact ⟨emptyRe,hte,hz.symm,i,rfl⟩
 by_cases c63:c=63
 ·subst c63
  rw [if_pos (by simp),zen]
  simp [zaz,zau,zav,zdc,zdd,zdb,zda,zc9,zc8,zc7,zc6,zdt,zds,zco,zcn,zcm,zcl,zck,zcj,zci,zch,zcg,zcf,zce,zcd,zcc,zcb,zca,zb9,zb8,zb7,zb6,zb5,zb4,zb3,zb2,zb1,zb0,zbZ,zbY,zbX,zbW,zbV,zbU,zbT,a101,zad hs,zaa hs,zai hs,zac hs,zab hs,h',hp,hrl,hb,hw,zae,f50]
  exact ⟨emptyRe,hte,hz.symm,i,rfl⟩
 by_cases c123:c=123
 ·subst c123
  rw [if_pos (by simp),zen]
  simp [zaz,zau,zav,zdc,zdd,zdb,zda,zc9,zc8,zc7,zc6,zdt,zds,zco,zcn,zcm,zcl,zck,zcj,zci,zch,zcg,zcf,zce,zcd,zcc,zcb,zca,zb9,zb8,zb7,zb6,zb5,zb4,zb3,zb2,zb1,zb0,zbZ,zbY,zbX,zbW,zbV,zbU,zbT,a101,zad hs,zaa hs,zai hs,zac hs,zab hs,h',hp,hrl,hb,hw,zae,f50]
  exact ⟨emptyRe,hte,hz.symm,i,rfl⟩
 rw [if_neg (by simp [c42,c43,c63,c123])]
 have n42:((c.toNat:Int)==42)=false:=zdf 42 c42
 have n43:((c.toNat:Int)==43)=false:=zdf 43 c43
 have n63:((c.toNat:Int)==63)=false:=zdf 63 c63
 have n123:((c.toNat:Int)==123)=false:=zdf 123 c123
 by_cases c41:c=41
 ·subst c41
  rw [if_pos rfl,zen]
  simp [zaz,zau,zav,zdc,zdd,zdb,zda,zc9,zc8,zc7,zc6,zdt,zds,zco,zcn,zcm,zcl,zck,zcj,zci,zch,zcg,zcf,zce,zcd,zcc,zcb,zca,zb9,zb8,zb7,zb6,zb5,zb4,zb3,zb2,zb1,zb0,zbZ,zbY,zbX,zbW,zbV,zbU,zbT,a101,zad hs,zaa hs,zai hs,zac hs,zab hs,h',hp,hrl,hb,hw,zae,f4]
  exact ⟨emptyRe,hte,hz.symm,i,rfl⟩
 rw [if_neg c41]
 have n41:((c.toNat:Int)==41)=false:=zdf 41 c41
 by_cases c91:c=91
 ·subst c91
  rw [if_pos rfl]
  have hbr:=zsS (bar:=bar) (H:=H) (s:=s) (i:=i) (by omega) hc
  have hpl:=zhc (s:=s) hi
  cases hx:zjt s i with
  | er a w =>
   rw [hx] at hbr hpl
   simp only [zcK] at hbr
   have hz1:ze4 noB= .agg [u64 0,u64 0,u64 0,u64 0]:=rfl
   rw [hz1] at hbr
   simp only
   rw [zen]
   have fw:=zgZ (bar:=bar) (a:=i) (w:=w) h hb
   have hset:(H.set r (some [.str s,num i,num i,num w])).set r (some [.str s,num 0,num i,num w])=H.set r (some [.str s,num 0,num i,num w]):=List.set_set ..
   have hts:Tree (500*(n+1)) (zi5 noB):=zi0 _ (by omega)
   have hzs:(zi5 noB).av= .agg [.int .i64 1, .int .u64 0, .int .u64 0, .int .u64 0, .int .u64 0, .int .i64 0, .int .i64 0, .nils]:=rfl
   rcases hpl with rfl | rfl | rfl
   all_goals
    simp only [Int.cast_ofNat_Int,num] at fw hbr hset
    simp [zaz,zau,zav,zdc,zdd,zdb,zda,zc9,zc8,zc7,zc6,zdt,zds,zco,zcn,zcm,zcl,zck,zcj,zci,zch,zcg,zcf,zce,zcd,zcc,zcb,zca,zb9,zb8,zb7,zb6,zb5,zb4,zb3,zb2,zb1,zb0,zbZ,zbY,zbX,zbW,zbV,zbU,zbT,a101,zad hs,zaa hs,zai hs,zac hs,zab hs,h',hp,hrl,hb,hw,zae,hbr,fw,hset,zey]
    exact ⟨zi5 noB,hts,hzs.symm,0,rfl⟩
  | ok p j =>
   rw [hx] at hbr hpl
   simp only [zcK,zct] at hbr
   simp only
   rw [zf0,zcW]
   simp [zaz,zau,zav,zdc,zdd,zdb,zda,zc9,zc8,zc7,zc6,zdt,zds,zco,zcn,zcm,zcl,zck,zcj,zci,zch,zcg,zcf,zce,zcd,zcc,zcb,zca,zb9,zb8,zb7,zb6,zb5,zb4,zb3,zb2,zb1,zb0,zbZ,zbY,zbX,zbW,zbV,zbU,zbT,a101,zad hs,zaa hs,zai hs,zac hs,zab hs,h',hp,hrl,hb,hw,zae,hbr,zey]
 rw [if_neg c91]
 have n91:((c.toNat:Int)==91)=false:=zdf 91 c91
 have hR:=h.set (i+1)
 have hR':=hR
 unfold Rf at hR'
 rw [hn1] at hR'
 by_cases c40:c=40
 ·subst c40
  rw [if_pos rfl]
  by_cases h20:20≤deep
  ·have h20':(20:Int)≤(deep:Int):=by omega
   rw [if_pos h20,zen]
   have f2:=zgZ (bar:=bar) (a:=i) (w:=2) hR hb
   rw [List.set_set] at f2
   replace f2:Rn fsT SA.sp bar 107 [.ptr r 0,num i, .int .i64 2] (H.set r (some [.str s, .int .i64 ((i:Int)+1),num 0,num 0]))=some (.ret (.tup []),H.set r (some [.str s, .int .i64 ((i:Int)+1),num i,num 2])):=f2
   simp [zaz,zau,zav,zdc,zdd,zdb,zda,zc9,zc8,zc7,zc6,zdt,zds,zco,zcn,zcm,zcl,zck,zcj,zci,zch,zcg,zcf,zce,zcd,zcc,zcb,zca,zb9,zb8,zb7,zb6,zb5,zb4,zb3,zb2,zb1,zb0,zbZ,zbY,zbX,zbW,zbV,zbU,zbT,a101,zad hs,zaa hs,zai hs,zac hs,zab hs,h',hp,hrl,hb,hw,zae,f2,h20']
   exact ⟨emptyRe,hte,hz.symm,i+1,rfl⟩
  ·have h20': ¬ (20:Int)≤(deep:Int):=by omega
   have hwd:IntKind.i64.wrap ((deep:Int)+1)=(deep:Int)+1:=zal _ (by omega)
   rw [if_neg h20]
   obtain ⟨o,K,q1,q2⟩:=hC bar _ r (i+1) (deep+1) hR hb (by omega) (by omega) hn (by omega)
   have hdn:num (deep+1)= .int .i64 ((deep:Int)+1):=rfl
   rw [hn1,hdn] at q1
   unfold zDm at q2
   have hplc:=(zbf (s:=s) hs' n).1 (i+1) (deep+1) (by omega) (by omega)
   cases hx:zbC s n (i+1) (deep+1) with
   | er a w =>
    rw [hx] at q2 hplc
    obtain ⟨y,z,hyt,rfl,rfl⟩:=q2
    have hw0:w≠0:=by rcases hplc with ⟨_,h | h | h | h | h⟩<;>omega
    simp only [List.set_set] at q1
    obtain ⟨d1,d2,d3,d4,d5,d6,hds⟩:=Re.av_eight hyt.wide
    rw [hds] at q1
    have hB:Bf (H.set r (some [.str s, .int .i64 z,num a,num w])) r s z a w:=⟨zae _ hrl,hw0⟩
    have hcb:=zuJ (bar:=bar) hB
    have hbb: ∀ b:Nat,Rn fsT SA.sp bar 107 [.ptr r 0, .int .i64 z, .int .i64 3] (H.set r (some [.str s, .int .i64 z,num a,num w]))=some (.ret (.tup []),H.set r (some [.str s, .int .i64 z,num a,num w])):=fun _=>zBh hB hb
    have hB':=hB.1
    simp only
    rw [zen]
    simp [zaz,zau,zav,zdc,zdd,zdb,zda,zc9,zc8,zc7,zc6,zdt,zds,zco,zcn,zcm,zcl,zck,zcj,zci,zch,zcg,zcf,zce,zcd,zcc,zcb,zca,zb9,zb8,zb7,zb6,zb5,zb4,zb3,zb2,zb1,zb0,zbZ,zbY,zbX,zbW,zbV,zbU,zbT,a101,zad hs,zaa hs,zai hs,zac hs,zab hs,h',hp,hrl,hb,hw,zae,h20',hwd,q1,hcb,hbb 0,hB']
    exact ⟨y,hyt,by rw [hds],_,rfl⟩
   | ok ls j =>
    rw [hx] at q2 hplc
    obtain ⟨rfl,rfl⟩:=q2
    obtain ⟨b1,b2,b3,b4,b5,_⟩:=hplc
    simp only [List.set_set] at q1
    have htree:Tree (j-(i+1)+1) (zaQ 5 ls):=zbx (.inr rfl) b3 b4 (by omega) (by omega)
    obtain ⟨c1,c2,c3,c4,c5,c6,hcs⟩:=Re.av_eight htree.wide
    rw [hcs] at q1
    have hR2:=h.set j
    have hR2':=hR2
    unfold Rf at hR2'
    have hc2:=zmb (bar:=bar) hR2
    have hjw:IntKind.i64.wrap ((j:Int)+1)=(j:Int)+1:=zal _ (by omega)
    simp only
    by_cases hcl:s[j]? = some 41
    ·rw [show atF s j=41 from zaA hcl] at hc2
     rw [if_pos hcl,zf0,hcs]
     simp [zaz,zau,zav,zdc,zdd,zdb,zda,zc9,zc8,zc7,zc6,zdt,zds,zco,zcn,zcm,zcl,zck,zcj,zci,zch,zcg,zcf,zce,zcd,zcc,zcb,zca,zb9,zb8,zb7,zb6,zb5,zb4,zb3,zb2,zb1,zb0,zbZ,zbY,zbX,zbW,zbV,zbU,zbT,a101,zad hs,zaa hs,zai hs,zac hs,zab hs,h',hp,hrl,hb,hw,zae,h20',hwd,q1,hc2,hR2',hjw]
     rfl
    ·have n41j:(atF s j != 41)=true:=(zcV 41 hcl).2
     have fj:=zgZ (bar:=bar) (a:=j) (w:=3) hR2 hb
     rw [List.set_set] at fj
     replace fj:Rn fsT SA.sp bar 107 [.ptr r 0,num j, .int .i64 3] (H.set r (some [.str s,num j,num 0,num 0]))=some (.ret (.tup []),H.set r (some [.str s,num j,num j,num 3])):=fj
     have hB3:hget (H.set r (some [.str s,num j,num j,num 3])) r=some (some [.str s,num j,num j,num 3]):=zae _ hrl
     rw [if_neg hcl,zen]
     simp [zaz,zau,zav,zdc,zdd,zdb,zda,zc9,zc8,zc7,zc6,zdt,zds,zco,zcn,zcm,zcl,zck,zcj,zci,zch,zcg,zcf,zce,zcd,zcc,zcb,zca,zb9,zb8,zb7,zb6,zb5,zb4,zb3,zb2,zb1,zb0,zbZ,zbY,zbX,zbW,zbV,zbU,zbT,a101,zad hs,zaa hs,zai hs,zac hs,zab hs,h',hp,hrl,hb,hw,zae,h20',hwd,q1,hc2,hR2',n41j,fj,hjw]
     exact ⟨zaQ 5 ls,htree.mono (by omega),by rw [hcs],_,rfl⟩
 rw [if_neg c40]
 have n40:((c.toNat:Int)==40)=false:=zdf 40 c40
 have hsmall:=c.toNat_lt
 by_cases c46:c=46
 ·subst c46
  have hall:=zyY (bar:=bar) (H:=H.set r (some [.str s, .int .i64 ((i:Int)+1),num 0,num 0]))
  rw [zct (zq1 noB)] at hall
  rw [if_pos rfl,zf0,zcW]
  simp [zaz,zau,zav,zdc,zdd,zdb,zda,zc9,zc8,zc7,zc6,zdt,zds,zco,zcn,zcm,zcl,zck,zcj,zci,zch,zcg,zcf,zce,zcd,zcc,zcb,zca,zb9,zb8,zb7,zb6,zb5,zb4,zb3,zb2,zb1,zb0,zbZ,zbY,zbX,zbW,zbV,zbU,zbT,a101,zad hs,zaa hs,zai hs,zac hs,zab hs,h',hp,hrl,hb,hw,zae,hall,zey]
  rfl
 rw [if_neg c46]
 have n46:((c.toNat:Int)==46)=false:=zdf 46 c46
 by_cases c94:c=94
 ·subst c94
  rw [if_pos rfl,zf0,zjf]
  simp [zaz,zau,zav,zdc,zdd,zdb,zda,zc9,zc8,zc7,zc6,zdt,zds,zco,zcn,zcm,zcl,zck,zcj,zci,zch,zcg,zcf,zce,zcd,zcc,zcb,zca,zb9,zb8,zb7,zb6,zb5,zb4,zb3,zb2,zb1,zb0,zbZ,zbY,zbX,zbW,zbV,zbU,zbT,a101,zad hs,zaa hs,zai hs,zac hs,zab hs,h',hp,hrl,hb,hw,zae,zey]
  rfl
 rw [if_neg c94]
 have n94:((c.toNat:Int)==94)=false:=zdf 94 c94
 by_cases c36:c=36
 ·subst c36
  rw [if_pos rfl,zf0,zjf]
  simp [zaz,zau,zav,zdc,zdd,zdb,zda,zc9,zc8,zc7,zc6,zdt,zds,zco,zcn,zcm,zcl,zck,zcj,zci,zch,zcg,zcf,zce,zcd,zcc,zcb,zca,zb9,zb8,zb7,zb6,zb5,zb4,zb3,zb2,zb1,zb0,zbZ,zbY,zbX,zbW,zbV,zbU,zbT,a101,zad hs,zaa hs,zai hs,zac hs,zab hs,h',hp,hrl,hb,hw,zae,zey]
  rfl
 rw [if_neg c36]
 have n36:((c.toNat:Int)==36)=false:=zdf 36 c36
 by_cases c92:c=92
 ·subst c92
  rw [if_pos rfl]
  have hc1:=zmb (bar:=bar) hR
  rw [hn1] at hc1
  cases hx:s[i+1]? with
  | none =>
   rw [zjv hx] at hc1
   have f3:=zgZ (bar:=bar) (a:=i+1) (w:=3) hR hb
   rw [List.set_set] at f3
   replace f3:Rn fsT SA.sp bar 107 [.ptr r 0, .int .i64 ((i:Int)+1), .int .i64 3] (H.set r (some [.str s, .int .i64 ((i:Int)+1),num 0,num 0]))=some (.ret (.tup []),H.set r (some [.str s, .int .i64 ((i:Int)+1), .int .i64 ((i:Int)+1),num 3])):=f3
   simp only
   rw [zen]
   simp [zaz,zau,zav,zdc,zdd,zdb,zda,zc9,zc8,zc7,zc6,zdt,zds,zco,zcn,zcm,zcl,zck,zcj,zci,zch,zcg,zcf,zce,zcd,zcc,zcb,zca,zb9,zb8,zb7,zb6,zb5,zb4,zb3,zb2,zb1,zb0,zbZ,zbY,zbX,zbW,zbV,zbU,zbT,a101,zad hs,zaa hs,zai hs,zac hs,zab hs,h',hp,hrl,hb,hw,zae,hc1,hR',f3]
   exact ⟨emptyRe,hte,hz.symm,_,rfl⟩
  | some d =>
   rw [zaA hx] at hc1
   have d0: ¬ (d.toNat:Int)<0:=by omega
   have hone:=zq0 (bar:=bar) (H:=H.set r (some [.str s, .int .i64 ((i:Int)+1+1),num 0,num 0])) (zcM d)
   rw [zcW] at hone
   simp only
   rw [zf0,zcW]
   by_cases d110:d=110
   ·subst d110
    replace hone:Rn fsT SA.sp bar 109 [.int .i64 10] _=_:=hone
    simp [zaz,zau,zav,zdc,zdd,zdb,zda,zc9,zc8,zc7,zc6,zdt,zds,zco,zcn,zcm,zcl,zck,zcj,zci,zch,zcg,zcf,zce,zcd,zcc,zcb,zca,zb9,zb8,zb7,zb6,zb5,zb4,zb3,zb2,zb1,zb0,zbZ,zbY,zbX,zbW,zbV,zbU,zbT,a101,zad hs,zaa hs,zai hs,zac hs,zab hs,h',hp,hrl,hb,hw,zae,hc1,hR',hw2,hone]
    rfl
   ·have e110:((d.toNat:Int)==110)=false:=zdf 110 d110
    by_cases d116:d=116
    ·subst d116
     replace hone:Rn fsT SA.sp bar 109 [.int .i64 9] _=_:=hone
     simp [zaz,zau,zav,zdc,zdd,zdb,zda,zc9,zc8,zc7,zc6,zdt,zds,zco,zcn,zcm,zcl,zck,zcj,zci,zch,zcg,zcf,zce,zcd,zcc,zcb,zca,zb9,zb8,zb7,zb6,zb5,zb4,zb3,zb2,zb1,zb0,zbZ,zbY,zbX,zbW,zbV,zbU,zbT,a101,zad hs,zaa hs,zai hs,zac hs,zab hs,h',hp,hrl,hb,hw,zae,hc1,hR',hw2,hone]
     rfl
    ·have e116:((d.toNat:Int)==116)=false:=zdf 116 d116
     have es:zcM d=d:=by simp [zcM,d110,d116]
     rw [es] at hone ⊢
     simp [zaz,zau,zav,zdc,zdd,zdb,zda,zc9,zc8,zc7,zc6,zdt,zds,zco,zcn,zcm,zcl,zck,zcj,zci,zch,zcg,zcf,zce,zcd,zcc,zcb,zca,zb9,zb8,zb7,zb6,zb5,zb4,zb3,zb2,zb1,zb0,zbZ,zbY,zbX,zbW,zbV,zbU,zbT,a101,zad hs,zaa hs,zai hs,zac hs,zab hs,h',hp,hrl,hb,hw,zae,hc1,hR',hw2,hone,d0,e110,e116]
     rfl
 rw [if_neg c92]
 have n92:((c.toNat:Int)==92)=false:=zdf 92 c92
 have hone:=zq0 (bar:=bar) (H:=H.set r (some [.str s, .int .i64 ((i:Int)+1),num 0,num 0])) c
 rw [zcW] at hone
 rw [zf0,zcW]
 simp [zaz,zau,zav,zdc,zdd,zdb,zda,zc9,zc8,zc7,zc6,zdt,zds,zco,zcn,zcm,zcl,zck,zcj,zci,zch,zcg,zcf,zce,zcd,zcc,zcb,zca,zb9,zb8,zb7,zb6,zb5,zb4,zb3,zb2,zb1,zb0,zbZ,zbY,zbX,zbW,zbV,zbU,zbT,a101,zad hs,zaa hs,zai hs,zac hs,zab hs,h',hp,hrl,hb,hw,zae,n42,n43,n63,n123,n41,n91,n40,n46,n94,n36,n92,hone]
 rfl
end
section
def Rough (k:Int) (m:Nat) (acc:List Re):Prop:=(∀ x∈acc,Tree m x)∧(joinL k acc).length≤m∧acc.length≤1000
theorem Rough.wide {k:Int} {m:Nat} {acc:List Re} (h:Rough k m acc):Re.wideL acc:=zaC.2 fun x hx=>(h.1 x hx).wide
theorem Rough.joined {k:Int} {m:Nat} {acc:List Re} (h:Rough k m acc) (hm:m≤900000) (bar:Nat) (H:Heap) (a:AV) (ha:zDk a acc):Rn fsT SA.sp bar 3 [.int .i64 k,a] H=some (.ret (zaQ k acc).av,H) :=
 zDe ha h.wide (by have:=h.2.1;have:=h.2.2;omega) H
theorem Rough.tree {k:Int} {m:Nat} {acc:List Re} (h:Rough k m acc) (hk:k=4∨k=5) (hm:m≤900000) (h1:1≤m):Tree m (zaQ k acc):=zbx hk h.1 h.2.1 (by omega) h1
theorem Parts.rough {k:Int} {m n:Nat} {acc:List Re} (h:Parts k m acc) (hm:m≤1000) (hn:1000≤n):Rough k n acc:=⟨fun x hx=>(h.1 x hx).mono hn,by have:=h.2.1;omega,by have:=h.2.2;omega⟩
theorem Parts.snocR {k:Int} {m n M:Nat} {acc:List Re} {y:Re} (h:Parts k m acc) (hy:Tree n y) (hM:m+n≤M) (h1:1≤n) (hM2:1000≤M) (hm:m<1000):Rough k M (acc ++ [y]):=by
 obtain ⟨a1,a2,a3⟩:=h
 refine ⟨fun x hx=> ?_,?_,?_⟩
 ·rcases List.mem_append.1 hx with h | h
  ·exact (a1 x h).mono hM2
  ·simp only [List.mem_singleton] at h;subst h;exact hy.mono (by omega)
 ·rw [zc4,List.length_append]
  have:=hy.part k
  simp only [joinL,List.flatMap_cons,List.flatMap_nil,List.append_nil] at this ⊢
  simp only [joinL] at a2
  omega
 ·simp only [List.length_append,List.length_cons,List.length_nil];omega
def BO (s:List UInt8) (r:Nat) (H:Heap) (M:Nat) (acc:List Re) (v:Nat→AV) (x:PR (List Re)) (e:AExit) (t:EH):Prop :=
 match x with
 | .er a w=>e= .exit 0∧ ∃ (l:List Re) (v':Nat→AV) (z:Int),Rough 4 M l∧t=(mkE 33554547 v',H.set r (some [.str s, .int .i64 z,num a,num w]))∧v' 4=v 4∧v' 5= .slc .own (Re.avs l)
 | .ok l j=>e= .exit 0∧ ∃ v',t=(mkE 33554547 v',H.set r (some [.str s,num j,num 0,num 0]))∧v' 4=v 4∧v' 5= .slc .own (Re.avs (acc++l))∧Parts 4 j (acc++l)∧j≤s.length
theorem bO_er (s:List UInt8) (r:Nat) (H:Heap) (M:Nat) (acc:List Re) (v:Nat→AV) (a w:Nat):BO s r H M acc v (.er a w)=fun e t=>e= .exit 0∧ ∃ (l:List Re) (v':Nat→AV) (z:Int),Rough 4 M l∧t=(mkE 33554547 v',H.set r (some [.str s, .int .i64 z,num a,num w]))∧v' 4=v 4∧v' 5= .slc .own (Re.avs l):=rfl
theorem zGn (s:List UInt8) (r:Nat) (H:Heap) (M:Nat) (acc:List Re) (v:Nat→AV) (l:List Re) (j:Nat):BO s r H M acc v (.ok l j)=fun e t=>e= .exit 0∧ ∃ v',t=(mkE 33554547 v',H.set r (some [.str s,num j,num 0,num 0]))∧v' 4=v 4∧v' 5= .slc .own (Re.avs (acc++l))∧Parts 4 j (acc++l)∧j≤s.length:=rfl
theorem BO.of_eq {s:List UInt8} {r:Nat} {H:Heap} {M:Nat} {acc:List Re} {v w:Nat→AV} {x:PR (List Re)} {e:AExit} {t:EH} (h:BO s r H M acc v x e t) (h4:v 4=w 4):BO s r H M acc w x e t:=by
 cases x with
 | er a b=>obtain ⟨h1,l,v',z,h2,h3,k4,k5⟩:=h;exact ⟨h1,l,v',z,h2,h3,k4.trans h4,k5⟩
 | ok l j=>obtain ⟨h1,v',h2,k4,k5⟩:=h;exact ⟨h1,v',h2,k4.trans h4,k5⟩
theorem zsW {s:List UInt8} {bar:Nat} {H:Heap} {r a w:Nat} {z:Int} (hr:r<H.length) (hw:w≠0) (v:Nat→AV) (v0:v 0= .ptr r 0) {l:List Re} (v5:v 5= .slc .own (Re.avs l)) {M:Nat} (hl:Rough 4 M l) {acc:List Re} {u:Nat→AV} (h4:v 4=u 4) :
  Wp (evI fsT SA.sp bar (.loop a92l6) (mkE 33554547 v,H.set r (some [.str s, .int .i64 z,num a,num w]))) (BO s r H M acc u (.er a w)):=by
 have hs:=SA.mono
 have hB:Bf (H.set r (some [.str s, .int .i64 z,num a,num w])) r s z a w:=⟨zae _ hr,hw⟩
 have hcb:=zuJ (bar:=bar) hB
 rw [zaj hs a92l6.eq_1,bO_er]
 simp [zad hs,zaa hs,zab hs,zac hs,zrE,v0,hcb]
 exact ⟨l,hl,_,⟨rfl,z,rfl⟩,by simp [h4],by simp [v5]⟩
set_option maxHeartbeats 1000000 in
theorem zqS {s:List UInt8} (hs':s.length≤400) {N:Nat} (hN:N≤1300) (hC: ∀ m,m<N→zso s m) {bar:Nat} {H:Heap} {r deep:Nat} (hr:r<H.length) (hb:bar≤r) (hd:deep≤20) :
  ∀ (n i:Nat) (acc:List Re) (v:Nat→AV),n≤N→i≤s.length→3*(s.length+1-i)≤n+1→Parts 4 i acc→v 0= .ptr r 0→v 1=num deep→v 5= .slc .own (Re.avs acc) →
   Wp (evI fsT SA.sp bar (.loop a92l6) (mkE 33554547 v,H.set r (some [.str s,num i,num 0,num 0]))) (BO s r H (500*N+500) acc v (zbq s n i deep)):=by
 have hs:=SA.mono
 intro n
 induction n with
 | zero=>intro i acc v hN h1 h2;omega
 | succ n ih =>
  intro i acc v hN' h1 h2 hacc v0 v1 v5
  have hR:Rf (H.set r (some [.str s,num i,num 0,num 0])) r s i:=zae _ hr
  have hp:=zmb (bar:=bar) hR
  have hok:=zcZ hacc.rowWide
  rw [zaj hs a92l6.eq_1]
  have stop:stops s i deep=true→zbq s (n+1) i deep= .ok [] i:=fun h=>by
   unfold zbq
   rw [if_pos h]
  have dl0:deep=0∨0<deep:=Nat.eq_zero_or_pos _
  cases hc:s[i]? with
  | none =>
   rw [zjv hc] at hp
   rw [stop (by simp [stops,hc]),zGn]
   simp [zad hs,zaa hs,zab hs,zac hs,zrE,v0,v1,hp]
   exact ⟨_,rfl,by simp,by simp [v5],by simpa using hacc,h1⟩
  | some c =>
   rw [zaA hc] at hp
   have hlt:=zaK hc
   have c0:(0:Int)≤(c.toNat:Int):=by omega
   by_cases c124:c=124
   ·subst c124
    rw [stop (by simp [stops,hc]),zGn]
    simp [zad hs,zaa hs,zab hs,zac hs,zrE,v0,v1,hp]
    exact ⟨_,rfl,by simp,by simp [v5],by simpa using hacc,h1⟩
   have n124:((c.toNat:Int) != 124)=true:=by rw [bne,show ((c.toNat:Int)==124)=false from zdf 124 c124];rfl
   by_cases c41:c=41∧0<deep
   ·obtain ⟨rfl,hdp⟩:=c41
    have hdp':(0:Int)<(deep:Int):=by omega
    rw [stop (by simp [stops,hc,hdp]),zGn]
    simp [zad hs,zaa hs,zab hs,zac hs,zrE,v0,v1,hp,hdp,hdp']
    exact ⟨_,rfl,by simp,by simp [v5],by simpa using hacc,h1⟩
   have hgo:stops s i deep=false:=by
    simp only [stops,hc]
    by_cases e:c=41
    ·have: ¬ 0<deep:=fun h=>c41 ⟨e,h⟩
     simp [c124,this]
    ·simp [c124,e]
   obtain ⟨k,rfl⟩: ∃ k,n=k+1:=⟨n-1,by omega⟩
   have e0:zbq s (k+1+1) i deep=match zkI s (k+1) i deep with
     | .er a w=> .er a w
     | .ok x j=>match zcO s (s.length+1) x j with
      | .er a w=> .er a w
      | .ok y m=>match zbq s (k+1) m deep with
       | .er a w=> .er a w
       | .ok ys z=> .ok (y::ys) z:=by
    rw [zbq,hgo]
    rfl
   rw [e0]
   -- the round's test
   have test: ∀ (X:ACode) (Q:AExit→EH→Prop),Wp (evI fsT SA.sp bar X (mkE 33554547 (st (st v 25 (.bool true)) 25 .undef),H.set r (some [.str s,num i,num 0,num 0]))) Q →
     Wp (evI fsT SA.sp bar (.seq (.seq (.region zrE) (.cond true (.v 25) .skip (.exit 0))) X) (mkE 33554547 v,H.set r (some [.str s,num i,num 0,num 0]))) Q:=fun X Q h=>by
    by_cases e:c=41
    ·have hd0: ¬ 0<deep:=fun h=>c41 ⟨e,h⟩
     subst e
     have hd1: ¬ (0:Int)<(deep:Int):=by omega
     simp [zad hs,zaa hs,zab hs,zac hs,zrE,v0,v1,hp,hd0,hd1]
     exact h
    ·have n41:((c.toNat:Int)==41)=false:=zdf 41 e
     simp [zad hs,zaa hs,zab hs,zac hs,zrE,v0,v1,hp,c0,n124,n41]
     exact h
   refine test _ _ ?_
   have k0:(st (st v 25 (.bool true)) 25 .undef) 0= .ptr r 0:=by simp [v0]
   have k1:(st (st v 25 (.bool true)) 25 .undef) 1=num deep:=by simp [v1]
   have k5:(st (st v 25 (.bool true)) 25 .undef) 5= .slc .own (Re.avs acc):=by simp [v5]
   have k4:(st (st v 25 (.bool true)) 25 .undef) 4=v 4:=by simp
   generalize st (st v 25 (.bool true)) 25 .undef=u at k0 k1 k4 k5 ⊢
   clear test
   obtain ⟨o,K,q1,q2⟩:=zxz (bar:=bar) hs' (hC k (by omega)) hR hb hlt (by omega) (by omega) hd
   have hpl:=(zbf (s:=s) hs' (k+1)).2.2 i deep hlt (by omega)
   have hacc1:=hacc.2.2
   have hle:(acc.length+1)*8≤4294967296:=by omega
   -- behind an error
   have gone: ∀ (y:Re) (z:Int) (a w:Nat) (x:Nat→AV),w≠0→Tree (500*(k+1)) y→x 0= .ptr r 0→x 4=v 4→x 5= .slc .own (Re.avs (acc ++ [y])) →
     Wp (evI fsT SA.sp bar (.loop a92l6) (mkE 33554547 x,H.set r (some [.str s, .int .i64 z,num a,num w]))) (BO s r H (500*N+500) acc v (.er a w)):=fun y z a w x hw hy x0 x4 x5 =>
    zsW hr hw x x0 x5 (hacc.snocR hy (by omega) (by omega) (by omega) (by omega)) x4
   cases hx:zkI s (k+1) i deep with
   | er a w =>
    rw [hx] at q2 hpl
    obtain ⟨y,z,hy,rfl,rfl⟩:=q2
    have hw0:w≠0:=by rcases hpl with ⟨_,h | h | h | h | h⟩<;>omega
    simp only [List.set_set] at q1
    obtain ⟨d1,d2,d3,d4,d5,d6,hds⟩:=Re.av_eight hy.wide
    have hB:Bf (H.set r (some [.str s, .int .i64 z,num a,num w])) r s z a w:=⟨zae _ hr,hw0⟩
    have hrb:=zxo (bar:=bar) hB hy.wide
    have hav:Re.avs (acc ++ [y])=Re.avs acc ++ [.agg [.int .i64 y.k,d1,d2,d3,d4,d5,d6,rowOf (Re.avs y.l)]]:=by
     rw [←zbO];simp [Re.avs,hds]
    rw [hds] at q1 hrb
    simp only
    simp [zad hs,zaa hs,zab hs,zac hs,zCk,zCj,zCi,k0,k1,k5,q1,hrb,zbw,hok,zaq,hle]
    refine gone y z a w _ hw0 hy ?_ ?_ ?_
    ·simp [k0]
    ·simp [k4]
    ·simp [hav]
   | ok x j =>
    rw [hx] at q2 hpl
    obtain ⟨rfl,rfl⟩:=q2
    obtain ⟨p1,p2,p3⟩:=hpl
    simp only [List.set_set] at q1
    obtain ⟨d1,d2,d3,d4,d5,d6,hds⟩:=Re.av_eight p3.wide
    have hRj:Rf (H.set r (some [.str s,num j,num 0,num 0])) r s j:=zae _ hr
    obtain ⟨o2,K2,w1,w2⟩:=zBd (bar:=bar) hs' hRj hb p2 (by omega) p3
    have hpl2:=zdF (s:=s) (s.length+1) x j (j-i) p2 (by omega) (by omega) p3
    rw [hds] at q1 w1
    simp only
    cases hy:zcO s (s.length+1) x j with
    | er a w =>
     rw [hy] at w2 hpl2
     obtain ⟨y,z,hyt,rfl,rfl⟩:=w2
     have hw0:w≠0:=by rcases hpl2 with ⟨_,h | h | h | h | h⟩<;>omega
     simp only [List.set_set] at w1
     obtain ⟨e1,e2,e3,e4,e5,e6,hes⟩:=Re.av_eight hyt.wide
     have hav:Re.avs (acc ++ [y])=Re.avs acc ++ [.agg [.int .i64 y.k,e1,e2,e3,e4,e5,e6,rowOf (Re.avs y.l)]]:=by
      rw [←zbO];simp [Re.avs,hes]
     rw [hes] at w1
     simp only
     simp [zad hs,zaa hs,zab hs,zac hs,zCk,zCj,zCi,k0,k1,k5,q1,w1,zbw,hok,zaq,hle]
     refine gone y z a w _ hw0 (hyt.mono (by omega)) ?_ ?_ ?_
     ·simp [k0]
     ·simp [k4]
     ·simp [hav]
    | ok y m =>
     rw [hy] at w2 hpl2
     obtain ⟨rfl,rfl⟩:=w2
     obtain ⟨g1,g2,g3⟩:=hpl2
     simp only [List.set_set] at w1
     obtain ⟨e1,e2,e3,e4,e5,e6,hes⟩:=Re.av_eight g3.wide
     have hav:Re.avs (acc ++ [y])=Re.avs acc ++ [.agg [.int .i64 y.k,e1,e2,e3,e4,e5,e6,rowOf (Re.avs y.l)]]:=by
      rw [←zbO];simp [Re.avs,hes]
     rw [hes] at w1
     have hacc2:Parts 4 m (acc ++ [y]):=(hacc.snoc g3 (by omega)).mono (by omega)
     have next: ∀ x:Nat→AV,x 0= .ptr r 0→x 1=num deep→x 4=v 4→x 5= .slc .own (Re.avs (acc ++ [y])) →
       Wp (evI fsT SA.sp bar (.loop a92l6) (mkE 33554547 x,H.set r (some [.str s,num m,num 0,num 0]))) (BO s r H (500*N+500) acc v (match zbq s (k+1) m deep with | .er a w=> .er a w | .ok ys z=> .ok (y::ys) z)):=fun x x0 x1 x4 x5=>by
      refine (ih m (acc ++ [y]) x (by omega) g2 (by omega) hacc2 x0 x1 x5).mono fun e t h=> ?_
      cases hb:zbq s (k+1) m deep with
      | er a w=>rw [hb] at h;exact h.of_eq x4
      | ok ys z =>
       rw [hb] at h
       obtain ⟨h1,v',h2,k4,k5,h6,h7⟩:=h
       simp only [List.append_assoc,List.cons_append,List.nil_append] at k5 h6
       exact ⟨h1,v',h2,k4.trans x4,k5,h6,h7⟩
     simp only
     simp [zad hs,zaa hs,zab hs,zac hs,zCk,zCj,zCi,k0,k1,k5,q1,w1,zbw,hok,zaq,hle]
     refine next _ ?_ ?_ ?_ ?_
     ·simp [k0]
     ·simp [k1]
     ·simp [k4]
     ·simp [hav]
theorem zmc {s:List UInt8} (hs':s.length≤400) {N:Nat} (hN:N≤1300) (hC: ∀ m,m<N→zso s m) {bar:Nat} {H:Heap} {r i deep n:Nat} (h:Rf H r s i) (hb:bar≤r) (hi:i≤s.length) (hn:n≤N) (hf:3*(s.length+1-i)≤n+1) (hd:deep≤20) :
  Wc (Rn fsT SA.sp bar 92 [.ptr r 0,num deep] H) (zHB s r H (500*N+500) (brF s [] n i deep)):=by
 have hs:=SA.mono
 have hrl:=zas h
 have hsame:=zea h
 refine zaO hs zH2 rfl rfl ?_
 rw [env92]
 simp [zKi,zKh,a92,zad hs,zaa hs,zab hs]
 have key:=zqS hs' hN hC (bar:=bar) (H:=H) hrl hb hd n i [] (st (st (st (st noV 0 (.ptr r 0)) 1 (num deep)) 4 zo1) 5 (.slc .own [])) hn hi hf ⟨by simp,by simp [joinL],by simp⟩
  (by simp) (by simp) (by simp [Re.avs])
 rw [hsame] at key
 refine key.mono fun e t ht=> ?_
 unfold brF
 cases hx:zbq s n i deep with
 | er a w =>
  rw [hx] at ht
  obtain ⟨rfl,l,v',z,hl,rfl,k4,k5⟩:=ht
  simp at k4
  have hj:=hl.joined (by omega) bar (H.set r (some [.str s, .int .i64 z,num a,num w])) (.slc .ro (Re.avs l)) (.inl rfl)
  have hjt:=hl.tree (.inl rfl) (by omega) (by omega)
  obtain ⟨c1,c2,c3,c4,c5,c6,hcs⟩:=Re.av_eight hjt.wide
  rw [hcs] at hj
  have hok:=zcZ hl.wide
  have htk:List.take l.length (Re.avs l)=Re.avs l:=List.take_of_length_le (by simp [zaq])
  simp only
  rw [zen]
  simp [zGz,zad hs,zaa hs,k4,k5,hj,zaq,htk,hok]
  exact ⟨zaQ 4 l,hjt,by rw [hcs],z,rfl⟩
 | ok l j =>
  rw [hx] at ht
  obtain ⟨rfl,v',rfl,k4,k5,hp,hj⟩:=ht
  simp at k4
  simp only [List.nil_append] at k5 hp ⊢
  have hl:Rough 4 1000 l:=hp.rough (by omega) (Nat.le_refl _)
  have hj:=hl.joined (by omega) bar (H.set r (some [.str s,num j,num 0,num 0])) (.slc .ro (Re.avs l)) (.inl rfl)
  have hjt:=hl.tree (.inl rfl) (by omega) (by omega)
  obtain ⟨c1,c2,c3,c4,c5,c6,hcs⟩:=Re.av_eight hjt.wide
  rw [hcs] at hj
  have hok:=zcZ hl.wide
  have htk:List.take l.length (Re.avs l)=Re.avs l:=List.take_of_length_le (by simp [zaq])
  rw [zf0,hcs]
  simp [zGz,zad hs,zaa hs,k4,k5,hj,zaq,htk,hok]
end
section
def PO (s:List UInt8) (r:Nat) (H:Heap) (M:Nat) (acc:List Re) (v:Nat→AV) (x:PR (List Re)) (e:AExit) (t:EH):Prop :=
 match x with
 | .er a w=>e= .exit 0∧ ∃ (l:List Re) (v':Nat→AV) (z:Int),Rough 5 M l∧t=(mkE 8307 v',H.set r (some [.str s, .int .i64 z,num a,num w]))∧v' 4=v 4∧v' 5= .slc .own (Re.avs l)
 | .ok ls j=>e= .exit 0∧ ∃ v',t=(mkE 8307 v',H.set r (some [.str s,num j,num 0,num 0]))∧v' 4=v 4∧v' 5= .slc .own (Re.avs (acc++ls))∧Parts 5 (j+1) (acc++ls)∧j≤s.length
theorem zHO (s:List UInt8) (r:Nat) (H:Heap) (M:Nat) (acc:List Re) (v:Nat→AV) (a w:Nat):PO s r H M acc v (.er a w)=fun e t=>e= .exit 0∧ ∃ (l:List Re) (v':Nat→AV) (z:Int),Rough 5 M l∧t=(mkE 8307 v',H.set r (some [.str s, .int .i64 z,num a,num w]))∧v' 4=v 4∧v' 5= .slc .own (Re.avs l):=rfl
theorem pO_ok (s:List UInt8) (r:Nat) (H:Heap) (M:Nat) (acc:List Re) (v:Nat→AV) (ls:List Re) (j:Nat):PO s r H M acc v (.ok ls j)=fun e t=>e= .exit 0∧ ∃ v',t=(mkE 8307 v',H.set r (some [.str s,num j,num 0,num 0]))∧v' 4=v 4∧v' 5= .slc .own (Re.avs (acc++ls))∧Parts 5 (j+1) (acc++ls)∧j≤s.length:=rfl
theorem PO.of_eq {s:List UInt8} {r:Nat} {H:Heap} {M:Nat} {acc:List Re} {v w:Nat→AV} {x:PR (List Re)} {e:AExit} {t:EH} (h:PO s r H M acc v x e t) (h4:v 4=w 4):PO s r H M acc w x e t:=by
 cases x with
 | er a b=>obtain ⟨h1,l,v',z,h2,h3,k4,k5⟩:=h;exact ⟨h1,l,v',z,h2,h3,k4.trans h4,k5⟩
 | ok l j=>obtain ⟨h1,v',h2,k4,k5⟩:=h;exact ⟨h1,v',h2,k4.trans h4,k5⟩
theorem zuB {s:List UInt8} {bar:Nat} {H:Heap} {r a w:Nat} {z:Int} (hr:r<H.length) (hw:w≠0) (v:Nat→AV) (v0:v 0= .ptr r 0) {l:List Re} (v5:v 5= .slc .own (Re.avs l)) {M:Nat} (hl:Rough 5 M l) {acc:List Re} {u:Nat→AV} (h4:v 4=u 4) :
  Wp (evI fsT SA.sp bar (.loop a69l6) (mkE 8307 v,H.set r (some [.str s, .int .i64 z,num a,num w]))) (PO s r H M acc u (.er a w)):=by
 have hs:=SA.mono
 have hB:Bf (H.set r (some [.str s, .int .i64 z,num a,num w])) r s z a w:=⟨zae _ hr,hw⟩
 have hcb:=zuJ (bar:=bar) hB
 rw [zaj hs a69l6.eq_1,zHO]
 simp [zad hs,zaa hs,zab hs,zac hs,zy8,v0,hcb]
 exact ⟨l,hl,_,⟨rfl,z,rfl⟩,by simp [h4],by simp [v5]⟩
set_option maxHeartbeats 1000000 in
theorem zxp {s:List UInt8} (hs':s.length≤400) {N:Nat} (hN:N≤1300) (hC: ∀ m,m<N→zso s m) {bar:Nat} {H:Heap} {r deep:Nat} (hr:r<H.length) (hb:bar≤r) (hd:deep≤20) :
  ∀ (n j:Nat) (acc:List Re) (v:Nat→AV),n≤N→j≤s.length→3*(s.length-j)≤n→Parts 5 (j+1) acc→v 0= .ptr r 0→v 1=num deep→v 5= .slc .own (Re.avs acc) →
   Wp (evI fsT SA.sp bar (.loop a69l6) (mkE 8307 v,H.set r (some [.str s,num j,num 0,num 0]))) (PO s r H (500*N+1000) acc v (zlg s n j deep)):=by
 have hs:=SA.mono
 intro n
 induction n using Nat.strongRecOn with
 | ind n ih =>
 intro j acc v hN' h1 h2 hacc v0 v1 v5
 have hR:Rf (H.set r (some [.str s,num j,num 0,num 0])) r s j:=zae _ hr
 have hp:=zmb (bar:=bar) hR
 have hR':=hR
 unfold Rf at hR'
 have hok:=zcZ hacc.rowWide
 have hjw:IntKind.i64.wrap ((j:Int)+1)=(j:Int)+1:=zal _ (by omega)
 rw [zaj hs a69l6.eq_1]
 unfold zlg
 by_cases hc:s[j]? = some 124
 ·rw [if_pos hc]
  rw [show atF s j=124 from zaA hc] at hp
  have hlt:=zaK hc
  obtain ⟨m,rfl⟩: ∃ m,n=m+1:=⟨n-1,by omega⟩
  have hR2:Rf (H.set r (some [.str s,num (j+1),num 0,num 0])) r s (j+1):=zae _ hr
  obtain ⟨o,K,q1,q2⟩:=zmc (bar:=bar) (n:=m) (deep:=deep) hs' hN hC hR2 hb (by omega) (by omega) (by omega) hd
  have hn1:num (j+1)= .int .i64 ((j:Int)+1):=rfl
  rw [hn1] at q1
  have hbpl:=(zbf (s:=s) hs' m).2.1 (j+1) deep (by omega) (by omega)
  have hlen:=hacc.2.2
  have hle:(acc.length+1)*8≤4294967296:=by omega
  rw [ze8]
  unfold brF at q2
  simp only [List.nil_append] at q2
  cases hx:zbq s m (j+1) deep with
  | er a w =>
   rw [hx] at q2 hbpl
   obtain ⟨y,z,hyt,rfl,rfl⟩:=q2
   have hw0:w≠0:=by rcases hbpl with ⟨_,h | h | h | h | h⟩<;>omega
   simp only [List.set_set] at q1
   obtain ⟨e1,e2,e3,e4,e5,e6,hes⟩:=Re.av_eight hyt.wide
   have hav:Re.avs (acc ++ [y])=Re.avs acc ++ [.agg [.int .i64 y.k,e1,e2,e3,e4,e5,e6,rowOf (Re.avs y.l)]]:=by
    rw [←zbO];simp [Re.avs,hes]
   rw [hes] at q1
   simp only
   simp [zad hs,zaa hs,zab hs,zac hs,zy8,zGX,zGW,zGV,v0,v1,v5,hp,hR',hjw,hb,hr,q1,zbw,hok,zaq,hle]
   refine zuB hr hw0 _ ?_ (l:=acc ++ [y]) ?_ (hacc.snocR hyt (by omega) (by omega) (by omega) (by omega)) ?_
   ·simp [v0]
   ·simp [hav]
   ·simp
  | ok l k =>
   rw [hx] at q2 hbpl
   obtain ⟨rfl,rfl⟩:=q2
   obtain ⟨b1,b2,b3,b4,b5⟩:=hbpl
   simp only [List.set_set] at q1
   have ht:Tree (k-(j+1)+1) (zaQ 4 l):=zbx (.inl rfl) (fun x hx=>(b3 x hx).mono (by omega)) (by omega) (by omega) (by omega)
   obtain ⟨d1,d2,d3,d4,d5,d6,hds⟩:=Re.av_eight ht.wide
   rw [hds] at q1
   have hacc2:Parts 5 (k+1) (acc ++ [zaQ 4 l]):=(hacc.snoc ht (by omega)).mono (by omega)
   have hav:Re.avs (acc ++ [zaQ 4 l])=Re.avs acc ++ [.agg [.int .i64 (zaQ 4 l).k,d1,d2,d3,d4,d5,d6,rowOf (Re.avs (zaQ 4 l).l)]]:=by
    rw [←zbO];simp [Re.avs,hds]
   simp only
   have next: ∀ w:Nat→AV,w 0= .ptr r 0→w 1=num deep→w 4=v 4→w 5= .slc .own (Re.avs (acc ++ [zaQ 4 l])) →
     Wp (evI fsT SA.sp bar (.loop a69l6) (mkE 8307 w,H.set r (some [.str s,num k,num 0,num 0]))) (PO s r H (500*N+1000) acc v (match zlg s m k deep with | .er a w=> .er a w | .ok ls k=> .ok (zaQ 4 l::ls) k)):=fun w w0 w1 w4 w5=>by
    refine (ih m (by omega) k (acc ++ [zaQ 4 l]) w (by omega) b2 (by omega) hacc2 w0 w1 w5).mono fun e t h=> ?_
    cases hy:zlg s m k deep with
    | er a b=>rw [hy] at h;exact h.of_eq w4
    | ok ls z =>
     rw [hy] at h
     obtain ⟨h1,v',h2,h3,h4,h5,h6⟩:=h
     simp only [List.append_assoc,List.cons_append,List.nil_append] at h4 h5
     exact ⟨h1,v',h2,h3.trans w4,h4,h5,h6⟩
   simp [zad hs,zaa hs,zab hs,zac hs,zy8,zGX,zGW,zGV,v0,v1,v5,hp,hR',hjw,hb,hr,q1,zbw,hok,zaq,hle]
   refine next _ ?_ ?_ ?_ ?_
   ·simp [v0]
   ·simp [v1]
   ·simp
   ·simp [hav]
 ·rw [if_neg hc,pO_ok]
  have n124:(atF s j==124)=false:=(zcV 124 hc).1
  simp [zad hs,zaa hs,zab hs,zac hs,zy8,v0,hp,n124]
  exact ⟨_,rfl,by simp,by simp [v5],by simpa using hacc,h1⟩
theorem zBf {s:List UInt8} (hs':s.length≤400): ∀ n,zso s n:=by
 have hs:=SA.mono
 intro n
 induction n using Nat.strongRecOn with
 | ind n ih =>
 intro bar H r i deep h hb hi hf hn hd
 obtain ⟨m,rfl⟩: ∃ m,n=m+1:=⟨n-1,by omega⟩
 have hrl:=zas h
 obtain ⟨o,K,q1,q2⟩:=zmc (bar:=bar) (N:=m) (n:=m) (deep:=deep) hs' (by omega) (fun k hk=>ih k (by omega)) h hb hi (Nat.le_refl _) (by omega) hd
 have hbpl:=(zbf (s:=s) hs' m).2.1 i deep hi (by omega)
 refine zaO hs zIe rfl rfl ?_
 rw [env69]
 unfold zDm
 rw [ze8]
 unfold brF at q2
 simp only [List.nil_append] at q2
 -- the parts as one, whatever they are
 have ends: ∀ (l:List Re) (M:Nat) (K:Heap) (v:Nat→AV) (Q:Out→Heap→Prop),Rough 5 M l→M≤900000→1≤M→v 4=zo1→v 5= .slc .own (Re.avs l)→Q (.ret (zaQ 5 l).av) K →
   zlh 0 (andThen (evI fsT SA.sp bar (.seq (.region zGU) .ret)) (fin [.cell 4 (some 8)] Q)) (.exit 0) (mkE 8307 v,K):=fun l M K v Q hl hM hM1 k4 k5 hQ=>by
  have hj:=hl.joined hM bar K (.slc .ro (Re.avs l)) (.inl rfl)
  have hjt:=hl.tree (.inr rfl) hM hM1
  obtain ⟨c1,c2,c3,c4,c5,c6,hcs⟩:=Re.av_eight hjt.wide
  rw [hcs] at hj hQ
  have hok:=zcZ hl.wide
  have htk:List.take l.length (Re.avs l)=Re.avs l:=List.take_of_length_le (by simp [zaq])
  simp [zGU,zad hs,zaa hs,k4,k5,hj,zaq,htk,hok]
  exact hQ
 cases hx:zbq s m i deep with
 | er a w =>
  rw [hx] at q2 hbpl
  obtain ⟨y,z,hyt,rfl,rfl⟩:=q2
  have hw0:w≠0:=by rcases hbpl with ⟨_,h | h | h | h | h⟩<;>omega
  obtain ⟨e1,e2,e3,e4,e5,e6,hes⟩:=Re.av_eight hyt.wide
  rw [hes] at q1
  have hl:Rough 5 (500*m+1000) [y]:=by
   have h0:Parts 5 0 []:=⟨by simp,by simp [joinL],by simp⟩
   have:=h0.snocR hyt (M:=500*m+1000) (by omega) (by omega) (by omega) (by omega)
   simpa using this
  simp only
  simp [zGZ,zGY,a69,zad hs,zaa hs,zab hs,q1,zbw]
  refine (zuB (M:=500*m+1000) (acc:= []) (u:=fun k=>if k=4 then zo1 else .undef) hrl hw0 _ ?_ (l:= [y]) ?_ hl ?_).mono fun e t ht=> ?_
  ·simp
  ·simp [Re.avs,hes]
  ·simp
  ·rw [zHO] at ht
   obtain ⟨rfl,l',v',z',hl',rfl,k4,k5⟩:=ht
   have k4:v' 4=zo1:=by rw [k4];simp
   exact ends l' _ _ v' _ hl' (by omega) (by omega) k4 k5 ⟨zaQ 5 l',z',(hl'.tree (.inr rfl) (by omega) (by omega)).mono (by omega),rfl,rfl⟩
 | ok l k =>
  rw [hx] at q2 hbpl
  obtain ⟨rfl,rfl⟩:=q2
  obtain ⟨b1,b2,b3,b4,b5⟩:=hbpl
  have ht:Tree (k-i+1) (zaQ 4 l):=zbx (.inl rfl) (fun x hx=>(b3 x hx).mono (by omega)) (by omega) (by omega) (by omega)
  obtain ⟨d1,d2,d3,d4,d5,d6,hds⟩:=Re.av_eight ht.wide
  rw [hds] at q1
  have hacc:Parts 5 (k+1) [zaQ 4 l]:=by
   have h0:Parts 5 0 []:=⟨by simp,by simp [joinL],by simp⟩
   have:=h0.snoc ht (by omega)
   simpa using this.mono (show 0+(k-i+1)≤k+1 by omega)
  simp only
  simp [zGZ,zGY,a69,zad hs,zaa hs,zab hs,q1,zbw]
  refine (zxp hs' (by omega) (fun k hk=>ih k (by omega)) (bar:=bar) (H:=H) hrl hb hd m k [zaQ 4 l] _ (Nat.le_refl _) b2 (by omega) hacc ?_ ?_ ?_).mono fun e t ht=> ?_
  ·simp
  ·simp
  ·simp [Re.avs,hds]
  ·cases hy:zlg s m k deep with
   | er a w =>
    rw [hy] at ht
    obtain ⟨rfl,l',v',z',hl',rfl,k4,k5⟩:=ht
    have k4:v' 4=zo1:=by rw [k4];simp
    exact ends l' _ _ v' _ hl' (by omega) (by omega) k4 k5 ⟨zaQ 5 l',z',(hl'.tree (.inr rfl) (by omega) (by omega)).mono (by omega),rfl,rfl⟩
   | ok ls j =>
    rw [hy] at ht
    obtain ⟨rfl,v',rfl,k4,k5,hp,hj⟩:=ht
    have k4:v' 4=zo1:=by rw [k4];simp
    simp only [List.cons_append,List.nil_append] at k5 hp
    exact ends (zaQ 4 l::ls) 1000 _ v' _ (hp.rough (by omega) (Nat.le_refl _)) (by omega) (by omega) k4 k5 ⟨rfl,rfl⟩
theorem zxt {bar:Nat} {H:Heap} (s:List UInt8):Rn fsT SA.sp bar 44 [.str s] H=some (.ret (zbP (zfy s)),H):=by
 have hs:=SA.mono
 have hz:emptyRe.av= .agg [.int .i64 0, .int .u64 0, .int .u64 0, .int .u64 0, .int .u64 0, .int .i64 0, .int .i64 0, .nils]:=rfl
 have frze:=zg6 0
 refine zao hs zIp rfl rfl rfl ?_
 rw [env44]
 by_cases hl:400<s.length
 ·have hl':(400:Int)<(s.length:Int):=by omega
  have:=frze [] emptyRe
  rw [hz] at this
  simp only [zfy,if_pos hl,zbP,hz]
  simp [zCQ,zCP,zCO,a44,zad hs,zaa hs,zac hs,hl',frz,zbd]
 ·have hl': ¬ (400:Int)<(s.length:Int):=by omega
  have hR:Rf [some [.str s,num 0,num 0,num 0]] 0 s 0:=rfl
  obtain ⟨o,K,q1,q2⟩:=zBf (s:=s) (by omega) (zh6 s 0) 0 [some [.str s,num 0,num 0,num 0]] 0 0 0 hR (Nat.le_refl _) (Nat.zero_le _) (by unfold zh6;omega) (by unfold zh6;omega) (Nat.zero_le _)
  have hpl:=(zbf (s:=s) (by omega) (zh6 s 0)).1 0 0 (by omega) (by unfold zh6;omega)
  unfold zDm at q2
  simp only [zfy,if_neg hl]
  cases hx:zbC s (zh6 s 0) 0 0 with
  | er a w =>
   rw [hx] at q2 hpl
   obtain ⟨y,z,hyt,rfl,rfl⟩:=q2
   have hw0:w≠0:=by rcases hpl with ⟨_,h | h | h | h | h⟩<;>omega
   have hw2:((w:Int) != 0)=true:=by simp [bne];omega
   obtain ⟨d1,d2,d3,d4,d5,d6,hds⟩:=Re.av_eight hyt.wide
   rw [hds] at q1
   replace q1:Rn fsT SA.sp 0 69 [.ptr 0 0, .int .i64 0] [some [.str s, .int .i64 0, .int .i64 0, .int .i64 0]]=_:=q1
   simp only [zbP,hz]
   simp [zCQ,zCP,zCO,zG7,zG6,zG5,zG8,zG4,a44,zaz,zau,zav,zad hs,zaa hs,zai hs,zac hs,hl',q1,hw0,hw2,frz,zbd]
  | ok ls j =>
   rw [hx] at q2 hpl
   obtain ⟨rfl,rfl⟩:=q2
   obtain ⟨b1,b2,b3,b4,b5,_⟩:=hpl
   have ht:Tree (j-0+1) (zaQ 5 ls):=zbx (.inr rfl) b3 b4 (by omega) (by omega)
   obtain ⟨c1,c2,c3,c4,c5,c6,hcs⟩:=Re.av_eight ht.wide
   have hft: ∀ H,frz 0 H (.tup [(zaQ 5 ls).av, .int .i64 0, .int .i64 0])=some (.tup [(zaQ 5 ls).av, .int .i64 0, .int .i64 0]):=fun H=>by
    have h1:=frze H (zaQ 5 ls)
    generalize (zaQ 5 ls).av=x at h1 ⊢
    simp [frz,zbd,h1]
   rw [hcs] at q1 hft
   replace q1:Rn fsT SA.sp 0 69 [.ptr 0 0, .int .i64 0] [some [.str s, .int .i64 0, .int .i64 0, .int .i64 0]]=_:=q1
   simp only [zbP,hcs]
   simp [zCQ,zCP,zCO,zG7,zG6,zG5,zG8,zG4,a44,zad hs,zaa hs,zac hs,hl',q1,hft]
end
end Go.Ak
