/- The document's tables: put together. -/
import Derived.Test.YtfcgnpphabplbaaGreatDoorZs
import Derived.Test.YtfcgnpphabplbaaGreatDoorZd
set_option linter.unusedVariables false
set_option linter.unusedSimpArgs false
namespace Go.Ak
attribute [local simp] zbI zc2 zc3 zey zbd zcH zaD zaW zaN zaX zbc zbt zbu za6 zbY zcZ zc0 zbP zbQ
 zaL zcL wanted zbh opd zi2 live zbS zcM zbk zbO zgZ put zdv esc znn zpZ args drop1 zf8 zpW zqn zpY zmb rd wr zbD sub AV.cells pack one setCells zek zlL zcO roOf zaK zeJ zav zat zdr zbi newRow newObj step zbU zbv contents take flat look lim zdV bound zdg zdy eqS eqL eqA ver
 zbX zcY zcX zbV zbW
 List.getElem?_cons_zero List.getElem?_cons_succ zcW zba zaA zaB zbT
attribute [local simp] sR sT cV bL mvV mvL mgV mgL asL asI asB ldN ldV ldL ldG stV stL fdL fdV fdG fgL nlC nlG bnI bvI bnL bvL bxI bxU bgI bgL exT lnS lgS clA clB clC clI pkT pkF pvT pvF pgT pgF ixL axV bxV apL
attribute [-simp] getElem?_pos
section
def zqw (w:List Nat) (c:Nat):Bool:=Nat.testBit (w.getD (c/64) 0) (c%64)
theorem zFk {bar:Nat} {H:Heap} {a b c d:Nat}: ∀ (n i:Nat) (v:Nat→AV),i+n=256→v 1= .box [u64 a,u64 b,u64 c,u64 d]→v 4=num i→v 3= .box (zaG (upTo noB (zqw [a,b,c,d]) i)) →
  Wp (evI fsT SA.sp bar (.loop a72l6) (mkE 159 v,H)) (fun e t=>e= .exit 0∧ ∃ v',t=(mkE 159 v',H)∧v' 2=v 2∧v' 3= .box (zaG (zqw [a,b,c,d]))):=by
 have hs:=SA.mono
 intro n
 induction n with
 | zero =>
  intro i v hi v1 v4 v3
  have hi':i=256:=by omega
  subst hi'
  have he:zaG (upTo noB (zqw [a,b,c,d]) 256)=zaG (zqw [a,b,c,d]):=by rw [zt1,zur]
  rw [zah hs a72l6.eq_1]
  simp [zad hs,zaa hs,zab hs,zac hs,zG2,v4]
  exact ⟨_,rfl,by simp,by simp [v3,he]⟩
 | succ n ih =>
  intro i v hi v1 v4 v3
  have hi2:i<256:=by omega
  have hi3:i+1≤256:=by omega
  have hiI:(i:Int)<256:=by omega
  have hq:i/64<4:=by omega
  have hq5:i/64+1≤4:=by omega
  have hqw:IntKind.i64.wrap ((i:Int)/64)=(i:Int)/64:=zaj _ (by omega)
  have hrw:IntKind.i64.wrap ((i:Int)%64)=(i:Int)%64:=zaj _ (by omega)
  have hw1:IntKind.i64.wrap ((i:Int)+1)=(i:Int)+1:=zaj _ (by omega)
  have hq0:0≤(i:Int)/64:=by omega
  have hqt:((i:Int)/64).toNat=i/64:=by omega
  have hcell:List.take 1 (List.drop (i/64) [u64 a,u64 b,u64 c,u64 d])= [u64 ([a,b,c,d].getD (i/64) 0)]:=by
   have:i/64=0∨i/64=1∨i/64=2∨i/64=3:=by omega
   rcases this with h | h | h | h<;>rw [h]<;>rfl
  have htm:((i:Int).tmod 64)=((i%64:Nat):Int):=by rw [Int.tmod_eq_emod_of_nonneg (by omega)];omega
  have hwu:IntKind.u64.wrap ((i%64:Nat):Int)=((i%64:Nat):Int):=znx (by omega)
  have hwi:IntKind.i64.wrap ((i%64:Nat):Int)=((i%64:Nat):Int):=zaj _ (by omega)
  generalize hw: [a,b,c,d].getD (i/64) 0=w at hcell
  have hbit:zqw [a,b,c,d] i=decide (w/2^(i%64)%2=1):=by unfold zqw;rw [hw,Nat.testBit_eq_decide_div_mod_eq]
  have hfd:(((w:Int).fdiv (2^(min (i%64) IntKind.u64.bits))).tmod 2==1)=zqw [a,b,c,d] i:=by
   rw [show min (i%64) IntKind.u64.bits=i%64 by simp only [IntKind.bits];omega,Int.fdiv_eq_ediv_of_nonneg _ (Int.le_of_lt (Int.pow_pos (by decide))),hbit]
   have e:(w:Int)/2^(i%64)=((w/2^(i%64):Nat):Int):=by push_cast;rfl
   rw [e]
   generalize w/2^(i%64)=z
   have h2:((z:Nat):Int).tmod 2=((z%2:Nat):Int):=by rw [Int.tmod_eq_emod_of_nonneg (by omega)];omega
   rw [h2]
   by_cases h:z%2=1
   ·simp [h]
   ·have:z%2=0:=by omega
    simp [this]
  have hset:=zfL (upTo noB (zqw [a,b,c,d]) i) i (upTo noB (zqw [a,b,c,d]) i i||zqw [a,b,c,d] i)
  rw [zi3] at hset
  have hz:upTo noB (zqw [a,b,c,d]) i i=false:=by simp [upTo,noB]
  rw [hz,Bool.false_or] at hset
  have hne: ¬ ((i%64:Nat):Int)<0:=by omega
  generalize i%64=k at htm hwu hwi hfd hne
  rw [zah hs a72l6.eq_1]
  simp [zad hs,zaa hs,zab hs,zac hs,zG2,zK0,zKZ,v1,v3,v4,hi2,hi3,hiI,hq,hq5,hqw,hw1,hq0,hqt,zaI,hcell,htm,hwu,hwi,hne]
  rw [hfd,hset]
  refine (ih (i+1) _ (by omega) ?_ ?_ ?_).mono fun e t h=>by simpa using h
  ·simp [v1]
  ·simp
  ·simp
theorem zvX (H:Heap) (p:Nat→Bool):zbj 0 H (zaG p)=some (zaG p):=by
 have: ∀ l:List Nat,zbj 0 H (l.map fun i=>AV.bool (p i))=some (l.map fun i=>AV.bool (p i)):=fun l=>by
  induction l with
  | nil=>rfl
  | cons x l ih=>simp [zbj,ih]
 exact this _
theorem zMp {bar:Nat} {H:Heap} (a b c d:Nat):Rn fsT SA.sp bar 72 [.agg [u64 a,u64 b,u64 c,u64 d]] H=some (.ret (.agg (zaG (zqw [a,b,c,d]))),H):=by
 have hs:=SA.mono
 have hfr:=zvX [] (zqw [a,b,c,d])
 refine zao hs zIw rfl rfl rfl ?_
 rw [env72]
 simp [-List.reduceReplicate,zl7,zaI,zde,zfM,zK3,zK2,zK1,a72,zad hs,zaa hs,zab hs]
 refine (zFk (bar:=0) (H:= []) (a:=a) (b:=b) (c:=c) (d:=d) 256 0 _ (by omega) ?_ ?_ ?_).mono fun e t h=> ?_
 ·simp
 ·simp
 ·rw [zg1];simp
 ·obtain ⟨rfl,v',rfl,k2,k3⟩:=h
  simp at k2
  simp [zKY,zad hs,zaa hs,k2,k3,zaI,zde,zfM,hfr,frz]
end
section
def zcJ (n:Nat) (p:Nat→Bool):List AV:=(List.range n).map fun j=> .bool (p j)
theorem zaz (n:Nat) (p:Nat→Bool):(zcJ n p).length=n:=by simp [zcJ]
theorem zcI (p:Nat→Bool) {n i:Nat} (h:i<n):(zcJ n p)[i]? = some (.bool (p i)):=by
 unfold zcJ
 rw [List.getElem?_map,List.getElem?_range h];rfl
theorem zhX (p:Nat→Bool) (n i:Nat) (b:Bool):(zcJ n p).set i (.bool b)=zcJ n (fun x=>if x=i then b else p x):=by
 apply List.ext_getElem?
 intro j
 rw [List.getElem?_set]
 by_cases hj:j<n
 ·rw [zcI _ hj,zcI _ hj]
  by_cases e:i=j
  ·subst e;simp [zaz,hj]
  ·have: ¬ j=i:=fun h=>e h.symm
   simp [e,this]
 ·have h1: ∀ q:Nat→Bool,(zcJ n q)[j]? = none:=fun q=>List.getElem?_eq_none (by rw [zaz];omega)
  rw [h1,h1]
  by_cases e:i=j
  ·subst e;simp [zaz,hj]
  ·simp [e]
theorem zse (n:Nat):List.replicate n (AV.bool false)=zcJ n noB:=by
 induction n with
 | zero=>rfl
 | succ n ih=>rw [List.replicate_succ',ih];unfold zcJ;rw [List.range_succ,List.map_append];rfl
theorem zjc {n:Nat} {p q:Nat→Bool} (h: ∀ i,i<n→p i=q i):zcJ n p=zcJ n q:=by
 unfold zcJ
 apply List.map_congr_left
 intro i hi
 rw [h i (List.mem_range.1 hi)]
def zax (n:Nat) (f:Nat→Nat→Bool):List AV:=(List.range n).map fun i=> .slc .ro (zcJ n (f i))
theorem zar (n:Nat) (f:Nat→Nat→Bool):(zax n f).length=n:=by simp [zax]
theorem zfA (f:Nat→Nat→Bool) {n i:Nat} (h:i<n):(zax n f)[i]? = some (.slc .ro (zcJ n (f i))):=by
 unfold zax
 rw [List.getElem?_map,List.getElem?_range h];rfl
theorem zqQ {bar:Nat} {H:Heap} {n i:Nat} {f g:Nat→Nat→Bool} (hn:n≤1000) (hi:i<n): ∀ (m j:Nat) (v:Nat→AV),j+m=n→v 0= .slc .ro (zax n f)→v 1= .slc .ro (zax n g)→v 6=num i→v 8=num j→v 7= .slc .own (zcJ n (upTo noB (za0 f g i) j)) →
  Wp (evI fsT SA.sp bar (.loop a74l9) (mkE 4202995 v,H)) (fun e t=>e= .exit 2∧ ∃ v',t=(mkE 4202995 v',H)∧v' 0= .slc .ro (zax n f)∧v' 1= .slc .ro (zax n g)∧v' 6=num i∧v' 5=v 5∧v' 7= .slc .own (zcJ n (za0 f g i))):=by
 have hs:=SA.mono
 intro m
 induction m with
 | zero =>
  intro j v hj v0 v1 v6 v8 v7
  have hj':j=n:=by omega
  subst hj'
  have he:zcJ j (upTo noB (za0 f g i) j)=zcJ j (za0 f g i):=zjc fun x hx=>by simp [upTo,noB,hx]
  rw [he] at v7
  rw [zah hs a74l9.eq_1]
  simp [zad hs,zaa hs,zab hs,zac hs,zCk,v0,v8,zar]
  exact ⟨_,rfl,by simp [v0],by simp [v1],by simp [v6],by simp,by simp [v7]⟩
 | succ m ih =>
  intro j v hj v0 v1 v6 v8 v7
  have hj':j<n:=by omega
  have hw1:IntKind.i64.wrap ((j:Int)+1)=(j:Int)+1:=zaj _ (by omega)
  have g1:=zfA f hi
  have g2:=zfA g hi
  have g3:=zcI (f i) hj'
  have g4:=zcI (g i) hj'
  have g5:=zcI (upTo noB (za0 f g i) j) hj'
  have hset:=zhX (upTo noB (za0 f g i) j) n j (upTo noB (za0 f g i) j j||za0 f g i j)
  rw [zi3] at hset
  have hz:upTo noB (za0 f g i) j j=false:=by simp [upTo,noB]
  rw [hz,Bool.false_or] at hset
  have next: ∀ w:Nat→AV,w 0= .slc .ro (zax n f)→w 1= .slc .ro (zax n g)→w 6=num i→w 8=num (j+1)→w 7= .slc .own (zcJ n (upTo noB (za0 f g i) (j+1)))→w 5=v 5 →
    Wp (evI fsT SA.sp bar (.loop a74l9) (mkE 4202995 w,H)) (fun e t=>e= .exit 2∧ ∃ v',t=(mkE 4202995 v',H)∧v' 0= .slc .ro (zax n f)∧v' 1= .slc .ro (zax n g)∧v' 6=num i∧v' 5=v 5∧v' 7= .slc .own (zcJ n (za0 f g i))):=fun w w0 w1 w6 w8 w7 w5=>by
   rw [←w5];exact ih (j+1) w (by omega) w0 w1 w6 w8 w7
  rw [zah hs a74l9.eq_1]
  cases hf:f i j with
  | true =>
   rw [hf] at g3
   have he:za0 f g i j=true:=by simp [za0,hf]
   rw [he] at hset
   simp [zad hs,zaa hs,zab hs,zac hs,zCk,zGX,zGW,v0,v1,v6,v7,v8,zar,zaz,hi,hj',g1,g2,g3,g5,hw1,hset]
   refine next _ ?_ ?_ ?_ ?_ ?_ ?_
   all_goals simp [v0,v1,v6]
  | false =>
   rw [hf] at g3
   have he:za0 f g i j=g i j:=by simp [za0,hf]
   rw [he] at hset
   simp [zad hs,zaa hs,zab hs,zac hs,zCk,zGX,zGW,v0,v1,v6,v7,v8,zar,zaz,hi,hj',g1,g2,g3,g4,g5,hw1,hset]
   refine next _ ?_ ?_ ?_ ?_ ?_ ?_
   all_goals simp [v0,v1,v6]
def zix (n i:Nat) (f:Nat→Nat→Bool):List AV:=(List.range i).map fun k=> .slc .ro (zcJ n (f k))
theorem zki (n i:Nat) (f:Nat→Nat→Bool):zix n (i+1) f=zix n i f ++ [.slc .ro (zcJ n (f i))]:=by
 unfold zix;rw [List.range_succ,List.map_append];rfl
theorem zg5 (n i:Nat) (f:Nat→Nat→Bool):(zix n i f).length=i:=by simp [zix]
theorem zfH (n i:Nat) (f:Nat→Nat→Bool):zj8 0 (zix n i f)=true:=by
 have: ∀ l:List Nat,zj8 0 (l.map fun k=>AV.slc .ro (zcJ n (f k)))=true:=fun l=>by
  induction l with
  | nil=>rfl
  | cons x l ih=>simp [zj8,ih]
 exact this _
theorem zqP {bar:Nat} {H:Heap} {n:Nat} {f g:Nat→Nat→Bool} (hn:n≤1000): ∀ (m i:Nat) (v:Nat→AV),i+m=n→v 0= .slc .ro (zax n f)→v 1= .slc .ro (zax n g)→v 6=num i→v 5= .slc .own (zix n i (za0 f g)) →
  Wp (evI fsT SA.sp bar (.loop a74l12) (mkE 4202995 v,H)) (fun e t=>e= .exit 0∧ ∃ v',t=(mkE 4202995 v',H)∧v' 5= .slc .own (zax n (za0 f g))):=by
 have hs:=SA.mono
 intro m
 induction m with
 | zero =>
  intro i v hi v0 v1 v6 v5
  have hi':i=n:=by omega
  subst hi'
  rw [zah hs a74l12.eq_1]
  simp [zad hs,zaa hs,zab hs,zac hs,zGY,v0,v6,zar]
  exact ⟨_,rfl,by simp [v5];rfl⟩
 | succ m ih =>
  intro i v hi v0 v1 v6 v5
  have hi':i<n:=by omega
  have hw1:IntKind.i64.wrap ((i:Int)+1)=(i:Int)+1:=zaj _ (by omega)
  have hnl:n≤4294967296:=by omega
  rw [zah hs a74l12.eq_1]
  simp [-List.reduceReplicate,zad hs,zaa hs,zab hs,zac hs,zGY,zKP,zKO,v0,v6,zar,hi',zse,hnl]
  refine (zqQ (bar:=bar) (H:=H) (f:=f) (g:=g) hn hi' n 0 _ (by omega) ?_ ?_ ?_ ?_ ?_).mono fun e t h=> ?_
  ·simp [v0]
  ·simp [v1]
  ·simp [v6]
  ·simp
  ·rw [zg1];simp
  obtain ⟨rfl,u,rfl,k0,k1,k6,k5,k7⟩:=h
  simp at k5
  rw [v5] at k5
  have htk:List.take n (zcJ n (za0 f g i))=zcJ n (za0 f g i):=List.take_of_length_le (by rw [zaz];exact Nat.le_refl _)
  have hi5:i≤4294967295:=by omega
  have hok:=zfH n i (za0 f g)
  simp [zad hs,zaa hs,zab hs,zac hs,zDv,zDu,k0,k1,k5,k6,k7,zaz,zg5,hw1,zbi,htk,hi5,hok]
  refine (ih (i+1) _ (by omega) ?_ ?_ ?_ ?_).mono fun e t h=>by simpa using h
  ·simp [k0]
  ·simp [k1]
  ·simp
  ·simp [zki]
theorem zn3 (l:List Nat) (p:Nat→Bool):zcQ (l.map fun j=>AV.bool (p j))=true:=by
 induction l with
 | nil=>rfl
 | cons x l ih=>simp [zcQ,clo,ih]
theorem zib (n:Nat) (f:Nat→Nat→Bool):clo (.slc .ro (zax n f))=true:=by
 have: ∀ l:List Nat,zcQ (l.map fun k=>AV.slc .ro (zcJ n (f k)))=true:=fun l=>by
  induction l with
  | nil=>rfl
  | cons x l ih =>
   have h:=zn3 (List.range n) (f x)
   simp only [List.map_cons,zcQ,clo]
   rw [ih]
   unfold zcJ
   rw [h];rfl
 simpa [clo,zax] using this (List.range n)
theorem zo2 (H:Heap) (p:Perm) (n:Nat) (f:Nat→Nat→Bool):frz 0 H (.slc p (zax n f))=some (.slc p (zax n f)):=by
 have hb: ∀ (p:Nat→Bool) (l:List Nat),zbj 0 H (l.map fun j=>AV.bool (p j))=some (l.map fun j=>AV.bool (p j)):=fun p l=>by
  induction l with
  | nil=>rfl
  | cons x l ih=>simp [zbj,frz,ih]
 have: ∀ l:List Nat,zbj 0 H (l.map fun k=>AV.slc .ro (zcJ n (f k)))=some (l.map fun k=>AV.slc .ro (zcJ n (f k))):=fun l=>by
  induction l with
  | nil=>rfl
  | cons x l ih =>
   have h:=hb (f x) (List.range n)
   simp only [List.map_cons,zbj,frz]
   rw [ih]
   unfold zcJ
   rw [h]
 have h:=this (List.range n)
 cases p<;>(simp only [frz,zax];rw [h])
theorem znZ {bar:Nat} {H:Heap} {n:Nat} {f g:Nat→Nat→Bool} (hn:n≤1000):Rn fsT SA.sp bar 74 [.slc .ro (zax n f), .slc .ro (zax n g)] H=some (.ret (.slc .own (zax n (za0 f g))),H):=by
 have hs:=SA.mono
 have hc:zcQ [.slc .ro (zax n f), .slc .ro (zax n g)]=true:=by
  have h1:=zib n f
  have h2:=zib n g
  simp only [zcQ,h1,h2];rfl
 have hfr:=zo2 [] .own n (za0 f g)
 have htk:List.take n (zax n (za0 f g))=zax n (za0 f g):=List.take_of_length_le (by rw [zar];exact Nat.le_refl _)
 have hok:=zfH n n (za0 f g)
 have hII:zix n n (za0 f g)=zax n (za0 f g):=rfl
 rw [hII] at hok
 refine zao hs zIu rfl hc rfl ?_
 rw [env74]
 simp [zKS,zKR,zKQ,a74,zad hs,zaa hs,zab hs]
 refine (zqP (bar:=0) (H:= []) (f:=f) (g:=g) hn n 0 _ (by omega) ?_ ?_ ?_ ?_).mono fun e t h=> ?_
 ·simp
 ·simp
 ·simp
 ·simp [zix]
 ·obtain ⟨rfl,v',rfl,k5⟩:=h
  simp [zDt,zad hs,zaa hs,k5,zar,htk,hok]
  exact hfr
end
section
theorem zEY (n:Nat) (p q:Nat→Bool):zcJ n (upTo p q n)=zcJ n (orB p q):=zjc fun i hi=>by simp [upTo,orB,hi]
theorem zvi {bar:Nat} {H:Heap} {n k:Nat} {f g:Nat→Nat→Bool} {p:Nat→Bool} (hn:n≤1000) (hk:k<n): ∀ (m j:Nat) (v:Nat→AV),j+m=n→v 0= .slc .ro (zax n f)→v 1= .slc .ro (zax n g)→v 8=num k→v 9=num j→v 7= .slc .own (zcJ n (upTo p (g k) j)) →
  Wp (evI fsT SA.sp bar (.loop a73l12) (mkE 73022850035 v,H)) (fun e t=>e= .exit 4∧ ∃ v',t=(mkE 73022850035 v',H)∧v' 0= .slc .ro (zax n f)∧v' 1= .slc .ro (zax n g)∧v' 8=num k∧v' 5=v 5∧v' 6=v 6∧v' 7= .slc .own (zcJ n (orB p (g k)))):=by
 have hs:=SA.mono
 intro m
 induction m with
 | zero =>
  intro j v hj v0 v1 v8 v9 v7
  have hj':j=n:=by omega
  subst hj'
  rw [zEY] at v7
  rw [zah hs a73l12.eq_1]
  simp [zad hs,zaa hs,zab hs,zac hs,zCl,v0,v9,zar]
  exact ⟨_,rfl,by simp [v0],by simp [v1],by simp [v8],by simp,by simp,by simp [v7]⟩
 | succ m ih =>
  intro j v hj v0 v1 v8 v9 v7
  have hj':j<n:=by omega
  have hw1:IntKind.i64.wrap ((j:Int)+1)=(j:Int)+1:=zaj _ (by omega)
  have g2:=zfA g hk
  have g4:=zcI (g k) hj'
  have g5:=zcI (upTo p (g k) j) hj'
  have hset:=zhX (upTo p (g k) j) n j (upTo p (g k) j j||g k j)
  rw [zi3] at hset
  have next: ∀ w:Nat→AV,w 0= .slc .ro (zax n f)→w 1= .slc .ro (zax n g)→w 8=num k→w 9=num (j+1)→w 7= .slc .own (zcJ n (upTo p (g k) (j+1)))→w 5=v 5→w 6=v 6 →
    Wp (evI fsT SA.sp bar (.loop a73l12) (mkE 73022850035 w,H)) (fun e t=>e= .exit 4∧ ∃ v',t=(mkE 73022850035 v',H)∧v' 0= .slc .ro (zax n f)∧v' 1= .slc .ro (zax n g)∧v' 8=num k∧v' 5=v 5∧v' 6=v 6∧v' 7= .slc .own (zcJ n (orB p (g k)))):=fun w w0 w1 w8 w9 w7 w5 w6=>by
   rw [←w5,←w6];exact ih (j+1) w (by omega) w0 w1 w8 w9 w7
  rw [zah hs a73l12.eq_1]
  cases hu:upTo p (g k) j j with
  | true =>
   rw [hu] at g5 hset
   simp only [Bool.true_or] at hset
   simp [zad hs,zaa hs,zab hs,zac hs,zCl,zyP,zyO,v0,v1,v7,v8,v9,zar,zaz,hk,hj',g2,g4,g5,hw1,hset]
   refine next _ ?_ ?_ ?_ ?_ ?_ ?_ ?_
   all_goals simp [v0,v1,v8]
  | false =>
   rw [hu] at g5 hset
   simp only [Bool.false_or] at hset
   simp [zad hs,zaa hs,zab hs,zac hs,zCl,zyP,zyO,v0,v1,v7,v8,v9,zar,zaz,hk,hj',g2,g4,g5,hw1,hset]
   refine next _ ?_ ?_ ?_ ?_ ?_ ?_ ?_
   all_goals simp [v0,v1,v8]
def zAz (f g:Nat→Nat→Bool) (i k:Nat):Nat→Bool:=fun x=>(List.range k).any fun y=>f i y&&g y x
theorem zyw (f g:Nat→Nat→Bool) (i:Nat):zAz f g i 0=noB:=rfl
theorem zBU {f g:Nat→Nat→Bool} {i k:Nat} (h:f i k=true):orB (zAz f g i k) (g k)=zAz f g i (k+1):=by
 funext x
 simp [zAz,orB,List.range_succ,h]
theorem zGn {f g:Nat→Nat→Bool} {i k:Nat} (h:f i k=false):zAz f g i (k+1)=zAz f g i k:=by
 funext x
 simp [zAz,List.range_succ,h]
theorem zAD {bar:Nat} {H:Heap} {n i:Nat} {f g:Nat→Nat→Bool} (hn:n≤1000) (hi:i<n): ∀ (m k:Nat) (v:Nat→AV),k+m=n→v 0= .slc .ro (zax n f)→v 1= .slc .ro (zax n g)→v 6=num i→v 8=num k→v 7= .slc .own (zcJ n (zAz f g i k)) →
  Wp (evI fsT SA.sp bar (.loop a73l14) (mkE 73022850035 v,H)) (fun e t=>e= .exit 2∧ ∃ v',t=(mkE 73022850035 v',H)∧v' 0= .slc .ro (zax n f)∧v' 1= .slc .ro (zax n g)∧v' 6=num i∧v' 5=v 5∧v' 7= .slc .own (zcJ n (zeA n f g i))):=by
 have hs:=SA.mono
 intro m
 induction m with
 | zero =>
  intro k v hk v0 v1 v6 v8 v7
  have hk':k=n:=by omega
  subst hk'
  rw [zah hs a73l14.eq_1]
  simp [zad hs,zaa hs,zab hs,zac hs,zCm,v0,v8,zar]
  exact ⟨_,rfl,by simp [v0],by simp [v1],by simp [v6],by simp,by simp [v7];rfl⟩
 | succ m ih =>
  intro k v hk v0 v1 v6 v8 v7
  have hk':k<n:=by omega
  have hw1:IntKind.i64.wrap ((k:Int)+1)=(k:Int)+1:=zaj _ (by omega)
  have g1:=zfA f hi
  have g3:=zcI (f i) hk'
  have next: ∀ w:Nat→AV,w 0= .slc .ro (zax n f)→w 1= .slc .ro (zax n g)→w 6=num i→w 8=num (k+1)→w 7= .slc .own (zcJ n (zAz f g i (k+1)))→w 5=v 5 →
    Wp (evI fsT SA.sp bar (.loop a73l14) (mkE 73022850035 w,H)) (fun e t=>e= .exit 2∧ ∃ v',t=(mkE 73022850035 v',H)∧v' 0= .slc .ro (zax n f)∧v' 1= .slc .ro (zax n g)∧v' 6=num i∧v' 5=v 5∧v' 7= .slc .own (zcJ n (zeA n f g i))):=fun w w0 w1 w6 w8 w7 w5=>by
   rw [←w5];exact ih (k+1) w (by omega) w0 w1 w6 w8 w7
  rw [zah hs a73l14.eq_1]
  cases hf:f i k with
  | true =>
   rw [hf] at g3
   simp [zad hs,zaa hs,zab hs,zac hs,zCm,zG0,zGZ,v0,v6,v8,zar,zaz,hi,hk',g1,g3]
   refine (zvi (bar:=bar) (H:=H) (f:=f) (g:=g) (p:=zAz f g i k) hn hk' n 0 _ (by omega) ?_ ?_ ?_ ?_ ?_).mono fun e t h=> ?_
   ·simp [v0]
   ·simp [v1]
   ·simp [v8]
   ·simp
   ·rw [zg1];simp [v7]
   obtain ⟨rfl,u,rfl,k0,k1,k8,k5,k6,k7⟩:=h
   simp at k5 k6
   rw [v6] at k6
   rw [zBU hf] at k7
   simp [zad hs,zaa hs,zab hs,zac hs,zyN,k8,hw1]
   refine next _ ?_ ?_ ?_ ?_ ?_ ?_
   ·simp [k0]
   ·simp [k1]
   ·simp [k6]
   ·simp
   ·simp [k7]
   ·simp [k5]
  | false =>
   rw [hf] at g3
   rw [zGn hf] at next
   simp [zad hs,zaa hs,zab hs,zac hs,zCm,zG0,zGZ,zyN,v0,v6,v8,zar,zaz,hi,hk',g1,g3,hw1]
   refine next _ ?_ ?_ ?_ ?_ ?_ ?_
   all_goals simp [v0,v1,v6,v7]
theorem zvh {bar:Nat} {H:Heap} {n:Nat} {f g:Nat→Nat→Bool} (hn:n≤1000): ∀ (m i:Nat) (v:Nat→AV),i+m=n→v 0= .slc .ro (zax n f)→v 1= .slc .ro (zax n g)→v 6=num i→v 5= .slc .own (zix n i (zeA n f g)) →
  Wp (evI fsT SA.sp bar (.loop a73l17) (mkE 73022850035 v,H)) (fun e t=>e= .exit 0∧ ∃ v',t=(mkE 73022850035 v',H)∧v' 5= .slc .own (zax n (zeA n f g))):=by
 have hs:=SA.mono
 intro m
 induction m with
 | zero =>
  intro i v hi v0 v1 v6 v5
  have hi':i=n:=by omega
  subst hi'
  rw [zah hs a73l17.eq_1]
  simp [zad hs,zaa hs,zab hs,zac hs,zG1,v0,v6,zar]
  exact ⟨_,rfl,by simp [v5];rfl⟩
 | succ m ih =>
  intro i v hi v0 v1 v6 v5
  have hi':i<n:=by omega
  have hw1:IntKind.i64.wrap ((i:Int)+1)=(i:Int)+1:=zaj _ (by omega)
  have hnl:n≤4294967296:=by omega
  rw [zah hs a73l17.eq_1]
  simp [-List.reduceReplicate,zad hs,zaa hs,zab hs,zac hs,zG1,zKU,zKT,v0,v6,zar,hi',zse,hnl]
  refine (zAD (bar:=bar) (H:=H) (f:=f) (g:=g) hn hi' n 0 _ (by omega) ?_ ?_ ?_ ?_ ?_).mono fun e t h=> ?_
  ·simp [v0]
  ·simp [v1]
  ·simp [v6]
  ·simp
  ·rw [zyw];simp
  obtain ⟨rfl,u,rfl,k0,k1,k6,k5,k7⟩:=h
  simp at k5
  rw [v5] at k5
  have htk:List.take n (zcJ n (zeA n f g i))=zcJ n (zeA n f g i):=List.take_of_length_le (by rw [zaz];exact Nat.le_refl _)
  have hi5:i≤4294967295:=by omega
  have hok:=zfH n i (zeA n f g)
  simp [zad hs,zaa hs,zab hs,zac hs,zDy,zDx,k0,k1,k5,k6,k7,zaz,zg5,hw1,zbi,htk,hi5,hok]
  refine (ih (i+1) _ (by omega) ?_ ?_ ?_ ?_).mono fun e t h=>by simpa using h
  ·simp [k0]
  ·simp [k1]
  ·simp
  ·simp [zki]
theorem zli {bar:Nat} {H:Heap} {n:Nat} {f g:Nat→Nat→Bool} (hn:n≤1000):Rn fsT SA.sp bar 73 [.slc .ro (zax n f), .slc .ro (zax n g)] H=some (.ret (.slc .own (zax n (zeA n f g))),H):=by
 have hs:=SA.mono
 have hc:zcQ [.slc .ro (zax n f), .slc .ro (zax n g)]=true:=by
  have h1:=zib n f
  have h2:=zib n g
  simp only [zcQ,h1,h2];rfl
 have hfr:=zo2 [] .own n (zeA n f g)
 have htk:List.take n (zax n (zeA n f g))=zax n (zeA n f g):=List.take_of_length_le (by rw [zar];exact Nat.le_refl _)
 have hok:=zfH n n (zeA n f g)
 have hII:zix n n (zeA n f g)=zax n (zeA n f g):=rfl
 rw [hII] at hok
 refine zao hs zIv rfl hc rfl ?_
 rw [env73]
 simp [zKX,zKW,zKV,a73,zad hs,zaa hs,zab hs]
 refine (zvh (bar:=0) (H:= []) (f:=f) (g:=g) hn n 0 _ (by omega) ?_ ?_ ?_ ?_).mono fun e t h=> ?_
 ·simp
 ·simp
 ·simp
 ·simp [zix]
 ·obtain ⟨rfl,v',rfl,k5⟩:=h
  simp [zDw,zad hs,zaa hs,k5,zar,htk,hok]
  exact hfr
end
section
def OR (H:Heap) (n i:Nat) (r:Nat→Nat→Bool):Prop:= ∀ x,x<i→hget H (2*x+1)=some (some (zcJ n (r x)))
def zk5 (n i:Nat):List AV:=(List.range i).map fun k=> .msl 1 (2*k+1) 0 n
theorem zgi (n i:Nat):(zk5 n i).length=i:=by simp [zk5]
theorem zpp {n i k:Nat} (h:k<i):(zk5 n i)[k]? = some (.msl 1 (2*k+1) 0 n):=by
 unfold zk5
 rw [List.getElem?_map,List.getElem?_range h];rfl
theorem zyt (n i:Nat):zk5 n (i+1)=zk5 n i ++ [.msl 1 (2*i+1) 0 n]:=by
 unfold zk5;rw [List.range_succ,List.map_append];rfl
theorem zvU (n:Nat) (p:Nat→Bool):zj8 0 (zcJ n p)=true:=by
 have: ∀ l:List Nat,zj8 0 (l.map fun k=>AV.bool (p k))=true:=fun l=>by
  induction l with
  | nil=>rfl
  | cons x l ih=>simp [zj8,ih]
 exact this _
theorem zuy (n i:Nat):zj8 0 (zk5 n i)=true:=by
 have: ∀ l:List Nat,zj8 0 (l.map fun k=>AV.msl 1 (2*k+1) 0 n)=true:=fun l=>by
  induction l with
  | nil=>rfl
  | cons x l ih=>simp [zj8,ih]
 exact this _
theorem zv1 (n:Nat) (p:Nat→Bool):List.flatMap AV.cells (zcJ n p)=zcJ n p:=by
 have: ∀ l:List Nat,List.flatMap AV.cells (l.map fun k=>AV.bool (p k))=l.map fun k=>AV.bool (p k):=fun l=>by
  induction l with
  | nil=>rfl
  | cons x l ih=>simp [ih]
 exact this _
theorem zsp {n:Nat} {f:Nat→Nat→Bool} (hn:n≤1000): ∀ (m i:Nat) (v:Nat→AV) (H:Heap),i+m=n→v 0= .slc .ro (zax n f)→v 4=num i→v 3= .slc .own (zk5 n i)→H.length=2*i→OR H n i (fun x y=>idT x y||f x y) →
  Wp (evI fsT SA.sp 0 (.loop a75l8) (mkE 4785353776964093 v,H)) (fun e t=>e= .exit 0∧ ∃ v' H',t=(mkE 4785353776964093 v',H')∧v' 0= .slc .ro (zax n f)∧v' 3= .slc .own (zk5 n n)∧H'.length=2*n∧OR H' n n (fun x y=>idT x y||f x y)):=by
 have hs:=SA.mono
 intro m
 induction m with
 | zero =>
  intro i v H hi v0 v4 v3 hH hO
  have hi':i=n:=by omega
  subst hi'
  rw [zah hs a75l8.eq_1]
  simp [zad hs,zaa hs,zab hs,zac hs,zGV,v0,v4,zar]
  exact ⟨_,H,⟨rfl,rfl⟩,by simp [v0],by simp [v3],hH,hO⟩
 | succ m ih =>
  intro i v H hi v0 v4 v3 hH hO
  have hi':i<n:=by omega
  have g1:=zfA f hi'
  have hnl:n≤4294967296:=by omega
  have htk:List.take n (zcJ n (f i))=zcJ n (f i):=List.take_of_length_le (by rw [zaz];exact Nat.le_refl _)
  have hok:=zvU n (f i)
  have hfl:=zv1 n (f i)
  have hw1:IntKind.i64.wrap ((i:Int)+1)=(i:Int)+1:=zaj _ (by omega)
  have hgn:hget (H ++ [none,some (zcJ n (f i))]) (H.length+1)=some (some (zcJ n (f i))):=by
   rw [hget,List.getElem?_append_right (by omega),show H.length+1-H.length=1 by omega];rfl
  have hset:=zhX (f i) n i true
  have hoka:=zuy n i
  have hi5:i≤4294967295:=by omega
  have hin:i+1≤n:=hi'
  rw [zah hs a75l8.eq_1]
  simp [zad hs,zaa hs,zab hs,zac hs,zGV,zKK,zKJ,zKI,zKH,v0,v3,v4,zar,zaz,zgi,hi',hin,g1,hnl,htk,hok,hfl,hgn,hset,hoka,hi5,hw1,zbi]
  have hrow:zcJ n (fun x=>decide (x=i)||f i x)=zcJ n (fun y=>idT i y||f i y):=zjc fun y _=>by
   simp only [idT,eq_comm]
  refine (ih (i+1) _ _ (by omega) ?_ ?_ ?_ ?_ ?_).mono fun e t h=>by simpa using h
  ·simp [v0]
  ·simp
  ·simp [zyt,hH]
  ·simp [hH];omega
  ·intro x hx
   by_cases e:x=i
   ·subst e
    rw [←hH,hget,List.getElem?_append_right (by omega),show H.length+1-H.length=1 by omega,←hrow];rfl
   ·have:=hO x (by omega)
    rw [zbb _ (zau this)];exact this
theorem OR.set {H:Heap} {n m i:Nat} {r:Nat→Nat→Bool} (h:OR H n m r) (hi:i<m) (p:Nat→Bool):OR (H.set (2*i+1) (some (zcJ n p))) n m (fun x=>if x=i then p else r x):=by
 intro x hx
 by_cases e:x=i
 ·subst e
  simp only [if_true]
  exact zae _ (zau (h x hi))
 ·simp only [if_neg e]
  rw [zay _ (by omega)]
  exact h x hx
theorem OR.congr {H:Heap} {n m:Nat} {r r':Nat→Nat→Bool} (h:OR H n m r) (e: ∀ x y,x<m→y<n→r x y=r' x y):OR H n m r':=by
 intro x hx
 rw [h x hx,zjc fun y hy=>e x y hx hy]
theorem zso {n i k:Nat} {f:Nat→Nat→Bool} {p q:Nat→Bool} (hn:n≤1000) (hi:i<n) (hk:k<n): ∀ (m j:Nat) (v:Nat→AV) (H:Heap) (r:Nat→Nat→Bool),j+m=n→v 0= .slc .ro (zax n f)→v 3= .slc .own (zk5 n n)→v 6=num k→v 7=num i→v 8=num j→OR H n n r→H.length=2*n→(∀ y,r i y=upTo p q j y)→(∀ y,r k y=q y) →
  Wp (evI fsT SA.sp 0 (.loop a75l18) (mkE 4785353776964093 v,H)) (fun e t=>e= .exit 6∧ ∃ v' H',t=(mkE 4785353776964093 v',H')∧v' 0= .slc .ro (zax n f)∧v' 3= .slc .own (zk5 n n)∧v' 6=num k∧v' 7=num i∧H'.length=2*n∧OR H' n n (fun x=>if x=i then orB p q else r x)):=by
 have hs:=SA.mono
 intro m
 induction m with
 | zero =>
  intro j v H r hj v0 v3 v6 v7 v8 hO hH hri hrk
  have hj':j=n:=by omega
  subst hj'
  rw [zah hs a75l18.eq_1]
  simp [zad hs,zaa hs,zab hs,zac hs,zuP,v0,v8,zar]
  refine ⟨_,H,⟨rfl,rfl⟩,by simp [v0],by simp [v3],by simp [v6],by simp [v7],hH,hO.congr fun x y hx hy=> ?_⟩
  by_cases e:x=i
  ·subst e;rw [if_pos rfl,hri];simp [upTo,orB,hy]
  ·rw [if_neg e]
 | succ m ih =>
  intro j v H r hj v0 v3 v6 v7 v8 hO hH hri hrk
  have hj':j<n:=by omega
  have hw1:IntKind.i64.wrap ((j:Int)+1)=(j:Int)+1:=zaj _ (by omega)
  have a1:=zpp (n:=n) hi
  have a2:=zpp (n:=n) hk
  have o1:=hO i hi
  have o2:=hO k hk
  have g1:=zcI (r i) hj'
  have g2:=zcI (r k) hj'
  have hset:=zhX (r i) n j (r i j||r k j)
  have hj5:j+1≤n:=hj'
  have d1:List.take 1 (List.drop j (zcJ n (r i)))= [.bool (r i j)]:=by
   rw [List.drop_eq_getElem_cons (by rw [zaz];exact hj')]
   have:=(List.getElem?_eq_some_iff.1 g1).2
   simp only [List.take_succ_cons,List.take_zero,this]
  have d2:List.take 1 (List.drop j (zcJ n (r k)))= [.bool (r k j)]:=by
   rw [List.drop_eq_getElem_cons (by rw [zaz];exact hj')]
   have:=(List.getElem?_eq_some_iff.1 g2).2
   simp only [List.take_succ_cons,List.take_zero,this]
  have hil:2*i+1<H.length:=zau o1
  have fin2: ∀ (w:Nat→AV),w 0= .slc .ro (zax n f)→w 3= .slc .own (zk5 n n)→w 6=num k→w 7=num i→w 8=num (j+1) →
    Wp (evI fsT SA.sp 0 (.loop a75l18) (mkE 4785353776964093 w,H.set (2*i+1) (some (zcJ n (fun x=>if x=j then (r i j||r k j) else r i x))))) (fun e t=>e= .exit 6∧ ∃ v' H',t=(mkE 4785353776964093 v',H')∧v' 0= .slc .ro (zax n f)∧v' 3= .slc .own (zk5 n n)∧v' 6=num k∧v' 7=num i∧H'.length=2*n∧OR H' n n (fun x=>if x=i then orB p q else r x)):=fun w w0 w3 w6 w7 w8=>by
   have hO2:=hO.set hi (fun x=>if x=j then (r i j||r k j) else r i x)
   refine (ih (j+1) w _ _ (by omega) w0 w3 w6 w7 w8 hO2 (by simpa using hH) (fun y=> ?_) (fun y=> ?_)).mono fun e t h=> ?_
   ·simp only [if_true]
    by_cases e:y=j
    ·subst e;simp [hri,hrk,upTo]
    ·have:decide (y<j)=decide (y<j+1):=by rw [decide_eq_decide];omega
     simp [e,hri,upTo,this]
   ·by_cases e:k=i
    ·subst e
     simp only [if_true]
     by_cases e2:y=j
     ·subst e2;simp [hrk]
     ·simp [e2,hrk]
    ·simp [e,hrk]
   ·obtain ⟨e1,v',H',e2,e3,e4,e5,e6,e7,e8⟩:=h
    refine ⟨e1,v',H',e2,e3,e4,e5,e6,e7,e8.congr fun x y _ _=> ?_⟩
    by_cases e:x=i
    ·simp [e]
    ·simp [e]
  rw [zah hs a75l18.eq_1]
  cases hb:r i j with
  | true =>
   rw [hb] at d1 hset fin2
   simp [zad hs,zaa hs,zai hs,zab hs,zac hs,zuP,zyM,zyJ,v0,v3,v6,v7,v8,zar,zaz,zgi,hi,hk,hj',hj5,a1,a2,o1,o2,d1,d2,hw1,hil]
   simp only [Bool.true_or] at hset fin2
   rw [hset]
   refine fin2 _ ?_ ?_ ?_ ?_ ?_
   all_goals simp [v0,v3,v6,v7]
  | false =>
   rw [hb] at d1 hset fin2
   simp only [Bool.false_or] at hset fin2
   simp [zad hs,zaa hs,zai hs,zab hs,zac hs,zuP,zyM,zyJ,v0,v3,v6,v7,v8,zar,zaz,zgi,hi,hk,hj',hj5,a1,a2,o1,o2,d1,d2,hw1,hil]
   rw [hset]
   refine fin2 _ ?_ ?_ ?_ ?_ ?_
   all_goals simp [v0,v3,v6,v7]
end
section
def zsH (k i:Nat) (a:Nat→Nat→Bool):Nat→Nat→Bool:=fun x y=>if x<i then zAw k a x y else a x y
theorem zH8 (k i:Nat) (a:Nat→Nat→Bool) (y:Nat):zsH k i a k y=a k y:=by
 unfold zsH zAw
 split
 ·cases a k y<;>simp
 ·rfl
theorem zxy {n k:Nat} {f a:Nat→Nat→Bool} (hn:n≤1000) (hk:k<n): ∀ (m i:Nat) (v:Nat→AV) (H:Heap),i+m=n→v 0= .slc .ro (zax n f)→v 3= .slc .own (zk5 n n)→v 6=num k→v 7=num i→H.length=2*n→OR H n n (zsH k i a) →
  Wp (evI fsT SA.sp 0 (.loop a75l20) (mkE 4785353776964093 v,H)) (fun e t=>e= .exit 4∧ ∃ v' H',t=(mkE 4785353776964093 v',H')∧v' 0= .slc .ro (zax n f)∧v' 3= .slc .own (zk5 n n)∧v' 6=num k∧H'.length=2*n∧OR H' n n (zAw k a)):=by
 have hs:=SA.mono
 intro m
 induction m with
 | zero =>
  intro i v H hi v0 v3 v6 v7 hH hO
  have hi':i=n:=by omega
  subst hi'
  rw [zah hs a75l20.eq_1]
  simp [zad hs,zaa hs,zab hs,zac hs,zuQ,v0,v7,zar]
  exact ⟨_,H,⟨rfl,rfl⟩,by simp [v0],by simp [v3],by simp [v6],hH,hO.congr fun x y hx _=>by simp [zsH,hx]⟩
 | succ m ih =>
  intro i v H hi v0 v3 v6 v7 hH hO
  have hi':i<n:=by omega
  have hw1:IntKind.i64.wrap ((i:Int)+1)=(i:Int)+1:=zaj _ (by omega)
  have a1:=zpp (n:=n) hi'
  have o1:=hO i hi'
  have g1:=zcI (zsH k i a i) hk
  have hmi: ∀ y,zsH k i a i y=a i y:=fun y=>by simp [zsH]
  have hk5:k+1≤n:=hk
  have d1:List.take 1 (List.drop k (zcJ n (zsH k i a i)))= [.bool (a i k)]:=by
   rw [List.drop_eq_getElem_cons (by rw [zaz];exact hk)]
   have:=(List.getElem?_eq_some_iff.1 g1).2
   simp only [List.take_succ_cons,List.take_zero,this,hmi]
  have next: ∀ (w:Nat→AV) (K:Heap),w 0= .slc .ro (zax n f)→w 3= .slc .own (zk5 n n)→w 6=num k→w 7=num (i+1)→K.length=2*n→OR K n n (zsH k (i+1) a) →
    Wp (evI fsT SA.sp 0 (.loop a75l20) (mkE 4785353776964093 w,K)) (fun e t=>e= .exit 4∧ ∃ v' H',t=(mkE 4785353776964093 v',H')∧v' 0= .slc .ro (zax n f)∧v' 3= .slc .own (zk5 n n)∧v' 6=num k∧H'.length=2*n∧OR H' n n (zAw k a)):=fun w K w0 w3 w6 w7 hK hOK=>ih (i+1) w K (by omega) w0 w3 w6 w7 hK hOK
  rw [zah hs a75l20.eq_1]
  cases ha:a i k with
  | false =>
   rw [ha] at d1
   simp [zad hs,zaa hs,zab hs,zac hs,zuQ,zyK,zyI,v0,v3,v6,v7,zar,zaz,zgi,hi',hk,hk5,a1,o1,d1,hw1]
   refine next _ H ?_ ?_ ?_ ?_ hH (hO.congr fun x y _ _=> ?_)
   ·simp [v0]
   ·simp [v3]
   ·simp [v6]
   ·simp
   ·unfold zsH
    by_cases e:x=i
    ·subst e;simp [zAw,ha]
    ·by_cases h:x<i
     ·have:x<i+1:=by omega
      simp [h,this]
     ·have: ¬ x<i+1:=by omega
      simp [h,this]
  | true =>
   rw [ha] at d1
   simp [zad hs,zaa hs,zab hs,zac hs,zuQ,zyK,zDr,v0,v3,v6,v7,zar,zaz,zgi,hi',hk,hk5,a1,o1,d1]
   refine (zso (f:=f) (p:=a i) (q:=a k) hn hi' hk n 0 _ H (zsH k i a) (by omega) ?_ ?_ ?_ ?_ ?_ hO hH (fun y=> ?_) (fun y=>zH8 k i a y)).mono fun e t h=> ?_
   ·simp [v0]
   ·simp [v3]
   ·simp [v6]
   ·simp [v7]
   ·simp
   ·rw [zg1];exact hmi y
   obtain ⟨rfl,u,H',rfl,k0,k3,k6,k7,hK,hOK⟩:=h
   simp [zad hs,zaa hs,zab hs,zac hs,zyI,k7,hw1]
   refine next _ H' ?_ ?_ ?_ ?_ hK (hOK.congr fun x y _ _=> ?_)
   ·simp [k0]
   ·simp [k3]
   ·simp [k6]
   ·simp
   ·by_cases e:x=i
    ·subst e;simp [zsH,zAw,ha,orB]
    ·by_cases h:x<i
     ·have:x<i+1:=by omega
      simp [zsH,h,this,e]
     ·have: ¬ x<i+1:=by omega
      simp [zsH,h,this,e]
theorem zsn {n:Nat} {f a:Nat→Nat→Bool} (hn:n≤1000): ∀ (m k:Nat) (v:Nat→AV) (H:Heap),k+m=n→v 0= .slc .ro (zax n f)→v 3= .slc .own (zk5 n n)→v 6=num k→H.length=2*n→OR H n n (ziv a k) →
  Wp (evI fsT SA.sp 0 (.loop a75l22) (mkE 4785353776964093 v,H)) (fun e t=>e= .exit 2∧ ∃ v' H',t=(mkE 4785353776964093 v',H')∧v' 3= .slc .own (zk5 n n)∧H'.length=2*n∧OR H' n n (ziv a n)):=by
 have hs:=SA.mono
 intro m
 induction m with
 | zero =>
  intro k v H hk v0 v3 v6 hH hO
  have hk':k=n:=by omega
  subst hk'
  rw [zah hs a75l22.eq_1]
  simp [zad hs,zaa hs,zab hs,zac hs,zyL,v0,v6,zar]
  exact ⟨_,H,⟨rfl,rfl⟩,by simp [v3],hH,hO⟩
 | succ m ih =>
  intro k v H hk v0 v3 v6 hH hO
  have hk':k<n:=by omega
  have hw1:IntKind.i64.wrap ((k:Int)+1)=(k:Int)+1:=zaj _ (by omega)
  rw [zah hs a75l22.eq_1]
  simp [zad hs,zaa hs,zab hs,zac hs,zyL,zDs,v0,v6,zar,hk']
  refine (zxy (f:=f) (a:=ziv a k) hn hk' n 0 _ H (by omega) ?_ ?_ ?_ ?_ hH (hO.congr fun x y _ _=>by simp [zsH])).mono fun e t h=> ?_
  ·simp [v0]
  ·simp [v3]
  ·simp [v6]
  ·simp
  obtain ⟨rfl,u,H',rfl,k0,k3,k6,hK,hOK⟩:=h
  simp [zad hs,zaa hs,zab hs,zac hs,zDq,k6,hw1]
  refine ih (k+1) _ H' (by omega) ?_ ?_ ?_ hK hOK
  ·simp [k0]
  ·simp [k3]
  ·simp
theorem zF3 {H:Heap} {n:Nat} {r:Nat→Nat→Bool} (h:OR H n n r):frz 0 H (.slc .own (zk5 n n))=some (.slc .own (zax n r)):=by
 have one: ∀ k,k<n→frz 0 H (.msl 1 (2*k+1) 0 n)=some (.slc .ro (zcJ n (r k))):=fun k hk=>by
  have hb:Nat.blt (2*k+1) 0=false:=by rw [zqn];simp
  have hb1:Nat.beq 1 1=true:=rfl
  have hh:=h k hk
  rw [hget] at hh
  have hsub:sub (zcJ n (r k)) 0 n=some (zcJ n (r k)):=by
   have htk:List.take n (zcJ n (r k))=zcJ n (r k):=List.take_of_length_le (by rw [zaz];exact Nat.le_refl _)
   simp [sub,zpW,zaz,htk]
  have hsc:(zcJ n (r k)).all scal=true:=by simp [zcJ,scal]
  simp only [frz,hb,hb1,cond_false,cond_true,hh,hsub,hsc]
 have all: ∀ l:List Nat,(∀ k∈l,k<n)→zbj 0 H (l.map fun k=>AV.msl 1 (2*k+1) 0 n)=some (l.map fun k=>AV.slc .ro (zcJ n (r k))):=fun l=>by
  induction l with
  | nil=>intro _;rfl
  | cons x l ih =>
   intro hl
   simp only [List.map_cons,zbj]
   rw [one x (hl x (by simp)),ih fun k hk=>hl k (List.mem_cons_of_mem _ hk)]
 have:=all (List.range n) fun k hk=>List.mem_range.1 hk
 simp only [frz,zk5,zax]
 rw [this]
theorem zxx {bar:Nat} {H:Heap} {n:Nat} {f:Nat→Nat→Bool} (hn:n≤1000):Rn fsT SA.sp bar 75 [.slc .ro (zax n f)] H=some (.ret (.slc .own (zax n (zqk n f))),H):=by
 have hs:=SA.mono
 have hc:zcQ [.slc .ro (zax n f)]=true:=by
  have h1:=zib n f
  simp only [zcQ,h1];rfl
 refine zao hs zIt rfl hc rfl ?_
 rw [env75]
 simp [zKN,zKM,zKL,a75,zad hs,zaa hs,zab hs]
 refine (zsp (f:=f) hn n 0 _ [] (by omega) ?_ ?_ ?_ rfl (fun x hx=>by omega)).mono fun e t h=> ?_
 ·simp
 ·simp
 ·simp [zk5]
 obtain ⟨rfl,u,H1,rfl,k0,k3,hH1,hO1⟩:=h
 simp [zKG,zad hs,zaa hs,zab hs]
 refine (zsn (f:=f) (a:=fun x y=>idT x y||f x y) hn n 0 _ H1 (by omega) ?_ ?_ ?_ hH1 hO1).mono fun e t h=> ?_
 ·simp [k0]
 ·simp [k3]
 ·simp
 obtain ⟨rfl,v',H',rfl,j3,hH',hO'⟩:=h
 have hok:=zuy n n
 have htk:List.take n (zk5 n n)=zk5 n n:=List.take_of_length_le (by rw [zgi];exact Nat.le_refl _)
 simp [zDp,zad hs,zaa hs,j3,zgi,htk,hok]
 exact zF3 hO'
end
end Go.Ak
