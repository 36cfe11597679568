/- The document's tables: put together. -/
import Derived.Test.YtfcgnpphabplbaaGreatDoorMt
import Derived.Test.YtfcgnpphabplbaaGreatDoorMd
set_option linter.unusedVariables false
set_option linter.unusedSimpArgs false
namespace Go.Ak
attribute [local simp] zbN zda zdb zeJ zbh zcO zaE zaX zaP zaY zbg zbv zbw za9 zb2 zc7 zc8 zbT zbU
 zaN zcS wanted zbl opd zjq live zbW zcT zbm zbS zhi put zdE esc zn7 zqD args drop1 zgh zqB zqA zqC zmS rd wr zbH sub AV.cells pack one setCells zet zmt zcV roOf zaL zeW zav zat zdA za6 newRow newObj step zbY zbx contents take flat look lim zd4 bound zdo zdH eqS eqL eqA ver
 zb1 zc6 zc5 zbZ zb0
 List.getElem?_cons_zero List.getElem?_cons_succ zc4 zbd zaB zaC zbX
attribute [local simp] sR sT cV bL mvV mvL mgV mgL asL asI asB ldN ldV ldL ldG stV stL fdL fdV fdG fgL nlC nlG bnI bvI bnL bvL bxI bxU bgI bgL exT lnS lgS clA clB clC clI pkT pkF pvT pvF pgT pgF ixL axV bxV apL
attribute [-simp] getElem?_pos
section
def zri (w:List Nat) (c:Nat):Bool:=Nat.testBit (w.getD (c/64) 0) (c%64)
theorem zFS {bar:Nat} {H:Heap} {a b c d:Nat}: ∀ (n i:Nat) (v:Nat→AV),i+n=256→v 1= .box [u64 a,u64 b,u64 c,u64 d]→v 4=num i→v 3= .box (zaH (upTo noB (zri [a,b,c,d]) i)) →
  Wp (evI fsT SA.sp bar (.loop a72l6) (mkE 159 v,H)) (fun e t=>e= .exit 0∧ ∃ v',t=(mkE 159 v',H)∧v' 2=v 2∧v' 3= .box (zaH (zri [a,b,c,d]))):=by
 have hs:=SA.mono
 intro n
 induction n with
 | zero =>
  intro i v hi v1 v4 v3
  have hi':i=256:=by omega
  subst hi'
  have he:zaH (upTo noB (zri [a,b,c,d]) 256)=zaH (zri [a,b,c,d]):=by rw [zuO,zvd]
  rw [zah hs a72l6.eq_1]
  simp [zad hs,zaa hs,zab hs,zac hs,zHu,v4]
  exact ⟨_,rfl,by simp,by simp [v3,he]⟩
 | succ n ih =>
  intro i v hi v1 v4 v3
  have hi2:i<256:=by omega
  have hi3:i+1≤256:=by omega
  have hiI:(i:Int)<256:=by omega
  have hq:i/64<4:=by omega
  have hq5:i/64+1≤4:=by omega
  have hqw:IntKind.i64.wrap ((i:Int)/64)=(i:Int)/64:=zak _ (by omega)
  have hrw:IntKind.i64.wrap ((i:Int)%64)=(i:Int)%64:=zak _ (by omega)
  have hw1:IntKind.i64.wrap ((i:Int)+1)=(i:Int)+1:=zak _ (by omega)
  have hq0:0≤(i:Int)/64:=by omega
  have hqt:((i:Int)/64).toNat=i/64:=by omega
  have hcell:List.take 1 (List.drop (i/64) [u64 a,u64 b,u64 c,u64 d])= [u64 ([a,b,c,d].getD (i/64) 0)]:=by
   have:i/64=0∨i/64=1∨i/64=2∨i/64=3:=by omega
   rcases this with h | h | h | h<;>rw [h]<;>rfl
  have htm:((i:Int).tmod 64)=((i%64:Nat):Int):=by rw [Int.tmod_eq_emod_of_nonneg (by omega)];omega
  have hwu:IntKind.u64.wrap ((i%64:Nat):Int)=((i%64:Nat):Int):=zoh (by omega)
  have hwi:IntKind.i64.wrap ((i%64:Nat):Int)=((i%64:Nat):Int):=zak _ (by omega)
  generalize hw: [a,b,c,d].getD (i/64) 0=w at hcell
  have hbit:zri [a,b,c,d] i=decide (w/2^(i%64)%2=1):=by unfold zri;rw [hw,Nat.testBit_eq_decide_div_mod_eq]
  have hfd:(((w:Int).fdiv (2^(min (i%64) IntKind.u64.bits))).tmod 2==1)=zri [a,b,c,d] i:=by
   rw [show min (i%64) IntKind.u64.bits=i%64 by simp only [IntKind.bits];omega,Int.fdiv_eq_ediv_of_nonneg _ (Int.le_of_lt (Int.pow_pos (by decide))),hbit]
   have e:(w:Int)/2^(i%64)=((w/2^(i%64):Nat):Int):=by push_cast;rfl
   rw [e]
   generalize w/2^(i%64)=z
   have h2:((z:Nat):Int).tmod 2=((z%2:Nat):Int):=by rw [Int.tmod_eq_emod_of_nonneg (by omega)];omega
   rw [h2]
   by_cases h:z%2=1
   ·simp [h]
   ·have:z%2=0:=by omega
    simp [this]
  have hset:=zf1 (upTo noB (zri [a,b,c,d]) i) i (upTo noB (zri [a,b,c,d]) i i||zri [a,b,c,d] i)
  rw [zjs] at hset
  have hz:upTo noB (zri [a,b,c,d]) i i=false:=by simp [upTo,noB]
  rw [hz,Bool.false_or] at hset
  have hne: ¬ ((i%64:Nat):Int)<0:=by omega
  generalize i%64=k at htm hwu hwi hfd hne
  rw [zah hs a72l6.eq_1]
  simp [zad hs,zaa hs,zab hs,zac hs,zHu,zLk,zLj,v1,v3,v4,hi2,hi3,hiI,hq,hq5,hqw,hw1,hq0,hqt,zaJ,hcell,htm,hwu,hwi,hne]
  rw [hfd,hset]
  refine (ih (i+1) _ (by omega) ?_ ?_ ?_).mono fun e t h=>by simpa using h
  ·simp [v1]
  ·simp
  ·simp
theorem zwQ (H:Heap) (p:Nat→Bool):zbG 0 H (zaH p)=some (zaH p):=by
 have: ∀ l:List Nat,zbG 0 H (l.map fun i=>AV.bool (p i))=some (l.map fun i=>AV.bool (p i)):=fun l=>by
  induction l with
  | nil=>rfl
  | cons x l ih=>simp [zbG,ih]
 exact this _
theorem zMb {bar:Nat} {H:Heap} (a b c d:Nat):Rn fsT SA.sp bar 72 [.agg [u64 a,u64 b,u64 c,u64 d]] H=some (.ret (.agg (zaH (zri [a,b,c,d]))),H):=by
 have hs:=SA.mono
 have hfr:=zwQ [] (zri [a,b,c,d])
 refine zan hs zIR rfl rfl rfl ?_
 rw [env72]
 simp [-List.reduceReplicate,zmP,zaJ,zdn,zf2,zLn,zLm,zLl,a72,zad hs,zaa hs,zab hs]
 refine (zFS (bar:=0) (H:= []) (a:=a) (b:=b) (c:=c) (d:=d) 256 0 _ (by omega) ?_ ?_ ?_).mono fun e t h=> ?_
 ·simp
 ·simp
 ·rw [zhk];simp
 ·obtain ⟨rfl,v',rfl,k2,k3⟩:=h
  simp at k2
  simp [zLi,zad hs,zaa hs,k2,k3,zaJ,zdn,zf2,hfr,frz]
end
section
def zcQ (n:Nat) (p:Nat→Bool):List AV:=(List.range n).map fun j=> .bool (p j)
theorem zaz (n:Nat) (p:Nat→Bool):(zcQ n p).length=n:=by simp [zcQ]
theorem zcP (p:Nat→Bool) {n i:Nat} (h:i<n):(zcQ n p)[i]? = some (.bool (p i)):=by
 unfold zcQ
 rw [List.getElem?_map,List.getElem?_range h];rfl
theorem zii (p:Nat→Bool) (n i:Nat) (b:Bool):(zcQ n p).set i (.bool b)=zcQ n (fun x=>if x=i then b else p x):=by
 apply List.ext_getElem?
 intro j
 rw [List.getElem?_set]
 by_cases hj:j<n
 ·rw [zcP _ hj,zcP _ hj]
  by_cases e:i=j
  ·subst e;simp [zaz,hj]
  ·have: ¬ j=i:=fun h=>e h.symm
   simp [e,this]
 ·have h1: ∀ q:Nat→Bool,(zcQ n q)[j]? = none:=fun q=>List.getElem?_eq_none (by rw [zaz];omega)
  rw [h1,h1]
  by_cases e:i=j
  ·subst e;simp [zaz,hj]
  ·simp [e]
theorem zs7 (n:Nat):List.replicate n (AV.bool false)=zcQ n noB:=by
 induction n with
 | zero=>rfl
 | succ n ih=>rw [List.replicate_succ',ih];unfold zcQ;rw [List.range_succ,List.map_append];rfl
theorem zjE {n:Nat} {p q:Nat→Bool} (h: ∀ i,i<n→p i=q i):zcQ n p=zcQ n q:=by
 unfold zcQ
 apply List.map_congr_left
 intro i hi
 rw [h i (List.mem_range.1 hi)]
def zax (n:Nat) (f:Nat→Nat→Bool):List AV:=(List.range n).map fun i=> .slc .ro (zcQ n (f i))
theorem zar (n:Nat) (f:Nat→Nat→Bool):(zax n f).length=n:=by simp [zax]
theorem zfR (f:Nat→Nat→Bool) {n i:Nat} (h:i<n):(zax n f)[i]? = some (.slc .ro (zcQ n (f i))):=by
 unfold zax
 rw [List.getElem?_map,List.getElem?_range h];rfl
theorem zrA {bar:Nat} {H:Heap} {n i:Nat} {f g:Nat→Nat→Bool} (hn:n≤1000) (hi:i<n): ∀ (m j:Nat) (v:Nat→AV),j+m=n→v 0= .slc .ro (zax n f)→v 1= .slc .ro (zax n g)→v 6=num i→v 8=num j→v 7= .slc .own (zcQ n (upTo noB (za2 f g i) j)) →
  Wp (evI fsT SA.sp bar (.loop a74l9) (mkE 4202995 v,H)) (fun e t=>e= .exit 2∧ ∃ v',t=(mkE 4202995 v',H)∧v' 0= .slc .ro (zax n f)∧v' 1= .slc .ro (zax n g)∧v' 6=num i∧v' 5=v 5∧v' 7= .slc .own (zcQ n (za2 f g i))):=by
 have hs:=SA.mono
 intro m
 induction m with
 | zero =>
  intro j v hj v0 v1 v6 v8 v7
  have hj':j=n:=by omega
  subst hj'
  have he:zcQ j (upTo noB (za2 f g i) j)=zcQ j (za2 f g i):=zjE fun x hx=>by simp [upTo,noB,hx]
  rw [he] at v7
  rw [zah hs a74l9.eq_1]
  simp [zad hs,zaa hs,zab hs,zac hs,zCQ,v0,v8,zar]
  exact ⟨_,rfl,by simp [v0],by simp [v1],by simp [v6],by simp,by simp [v7]⟩
 | succ m ih =>
  intro j v hj v0 v1 v6 v8 v7
  have hj':j<n:=by omega
  have hw1:IntKind.i64.wrap ((j:Int)+1)=(j:Int)+1:=zak _ (by omega)
  have g1:=zfR f hi
  have g2:=zfR g hi
  have g3:=zcP (f i) hj'
  have g4:=zcP (g i) hj'
  have g5:=zcP (upTo noB (za2 f g i) j) hj'
  have hset:=zii (upTo noB (za2 f g i) j) n j (upTo noB (za2 f g i) j j||za2 f g i j)
  rw [zjs] at hset
  have hz:upTo noB (za2 f g i) j j=false:=by simp [upTo,noB]
  rw [hz,Bool.false_or] at hset
  have next: ∀ w:Nat→AV,w 0= .slc .ro (zax n f)→w 1= .slc .ro (zax n g)→w 6=num i→w 8=num (j+1)→w 7= .slc .own (zcQ n (upTo noB (za2 f g i) (j+1)))→w 5=v 5 →
    Wp (evI fsT SA.sp bar (.loop a74l9) (mkE 4202995 w,H)) (fun e t=>e= .exit 2∧ ∃ v',t=(mkE 4202995 v',H)∧v' 0= .slc .ro (zax n f)∧v' 1= .slc .ro (zax n g)∧v' 6=num i∧v' 5=v 5∧v' 7= .slc .own (zcQ n (za2 f g i))):=fun w w0 w1 w6 w8 w7 w5=>by
   rw [←w5];exact ih (j+1) w (by omega) w0 w1 w6 w8 w7
  rw [zah hs a74l9.eq_1]
  cases hf:f i j with
  | true =>
   rw [hf] at g3
   have he:za2 f g i j=true:=by simp [za2,hf]
   rw [he] at hset
   simp [zad hs,zaa hs,zab hs,zac hs,zCQ,zHp,zHo,v0,v1,v6,v7,v8,zar,zaz,hi,hj',g1,g2,g3,g5,hw1,hset]
   refine next _ ?_ ?_ ?_ ?_ ?_ ?_
   all_goals simp [v0,v1,v6]
  | false =>
   rw [hf] at g3
   have he:za2 f g i j=g i j:=by simp [za2,hf]
   rw [he] at hset
   simp [zad hs,zaa hs,zab hs,zac hs,zCQ,zHp,zHo,v0,v1,v6,v7,v8,zar,zaz,hi,hj',g1,g2,g3,g4,g5,hw1,hset]
   refine next _ ?_ ?_ ?_ ?_ ?_ ?_
   all_goals simp [v0,v1,v6]
def ziR (n i:Nat) (f:Nat→Nat→Bool):List AV:=(List.range i).map fun k=> .slc .ro (zcQ n (f k))
theorem zkZ (n i:Nat) (f:Nat→Nat→Bool):ziR n (i+1) f=ziR n i f ++ [.slc .ro (zcQ n (f i))]:=by
 unfold ziR;rw [List.range_succ,List.map_append];rfl
theorem zhp (n i:Nat) (f:Nat→Nat→Bool):(ziR n i f).length=i:=by simp [ziR]
theorem zfX (n i:Nat) (f:Nat→Nat→Bool):zjM 0 (ziR n i f)=true:=by
 have: ∀ l:List Nat,zjM 0 (l.map fun k=>AV.slc .ro (zcQ n (f k)))=true:=fun l=>by
  induction l with
  | nil=>rfl
  | cons x l ih=>simp [zjM,ih]
 exact this _
theorem zrz {bar:Nat} {H:Heap} {n:Nat} {f g:Nat→Nat→Bool} (hn:n≤1000): ∀ (m i:Nat) (v:Nat→AV),i+m=n→v 0= .slc .ro (zax n f)→v 1= .slc .ro (zax n g)→v 6=num i→v 5= .slc .own (ziR n i (za2 f g)) →
  Wp (evI fsT SA.sp bar (.loop a74l12) (mkE 4202995 v,H)) (fun e t=>e= .exit 0∧ ∃ v',t=(mkE 4202995 v',H)∧v' 5= .slc .own (zax n (za2 f g))):=by
 have hs:=SA.mono
 intro m
 induction m with
 | zero =>
  intro i v hi v0 v1 v6 v5
  have hi':i=n:=by omega
  subst hi'
  rw [zah hs a74l12.eq_1]
  simp [zad hs,zaa hs,zab hs,zac hs,zHq,v0,v6,zar]
  exact ⟨_,rfl,by simp [v5];rfl⟩
 | succ m ih =>
  intro i v hi v0 v1 v6 v5
  have hi':i<n:=by omega
  have hw1:IntKind.i64.wrap ((i:Int)+1)=(i:Int)+1:=zak _ (by omega)
  have hnl:n≤4294967296:=by omega
  rw [zah hs a74l12.eq_1]
  simp [-List.reduceReplicate,zad hs,zaa hs,zab hs,zac hs,zHq,zK9,zK8,v0,v6,zar,hi',zs7,hnl]
  refine (zrA (bar:=bar) (H:=H) (f:=f) (g:=g) hn hi' n 0 _ (by omega) ?_ ?_ ?_ ?_ ?_).mono fun e t h=> ?_
  ·simp [v0]
  ·simp [v1]
  ·simp [v6]
  ·simp
  ·rw [zhk];simp
  obtain ⟨rfl,u,rfl,k0,k1,k6,k5,k7⟩:=h
  simp at k5
  rw [v5] at k5
  have htk:List.take n (zcQ n (za2 f g i))=zcQ n (za2 f g i):=List.take_of_length_le (by rw [zaz];exact Nat.le_refl _)
  have hi5:i≤4294967295:=by omega
  have hok:=zfX n i (za2 f g)
  simp [zad hs,zaa hs,zab hs,zac hs,zD2,zD1,k0,k1,k5,k6,k7,zaz,zhp,hw1,za6,htk,hi5,hok]
  refine (ih (i+1) _ (by omega) ?_ ?_ ?_ ?_).mono fun e t h=>by simpa using h
  ·simp [k0]
  ·simp [k1]
  ·simp
  ·simp [zkZ]
theorem zoR (l:List Nat) (p:Nat→Bool):zcI (l.map fun j=>AV.bool (p j))=true:=by
 induction l with
 | nil=>rfl
 | cons x l ih=>simp [zcI,clo,ih]
theorem zix (n:Nat) (f:Nat→Nat→Bool):clo (.slc .ro (zax n f))=true:=by
 have: ∀ l:List Nat,zcI (l.map fun k=>AV.slc .ro (zcQ n (f k)))=true:=fun l=>by
  induction l with
  | nil=>rfl
  | cons x l ih =>
   have h:=zoR (List.range n) (f x)
   simp only [List.map_cons,zcI,clo]
   rw [ih]
   unfold zcQ
   rw [h];rfl
 simpa [clo,zax] using this (List.range n)
theorem zpL (H:Heap) (p:Perm) (n:Nat) (f:Nat→Nat→Bool):frz 0 H (.slc p (zax n f))=some (.slc p (zax n f)):=by
 have hb: ∀ (p:Nat→Bool) (l:List Nat),zbG 0 H (l.map fun j=>AV.bool (p j))=some (l.map fun j=>AV.bool (p j)):=fun p l=>by
  induction l with
  | nil=>rfl
  | cons x l ih=>simp [zbG,frz,ih]
 have: ∀ l:List Nat,zbG 0 H (l.map fun k=>AV.slc .ro (zcQ n (f k)))=some (l.map fun k=>AV.slc .ro (zcQ n (f k))):=fun l=>by
  induction l with
  | nil=>rfl
  | cons x l ih =>
   have h:=hb (f x) (List.range n)
   simp only [List.map_cons,zbG,frz]
   rw [ih]
   unfold zcQ
   rw [h]
 have h:=this (List.range n)
 cases p<;>(simp only [frz,zax];rw [h])
theorem zoN {bar:Nat} {H:Heap} {n:Nat} {f g:Nat→Nat→Bool} (hn:n≤1000):Rn fsT SA.sp bar 74 [.slc .ro (zax n f), .slc .ro (zax n g)] H=some (.ret (.slc .own (zax n (za2 f g))),H):=by
 have hs:=SA.mono
 have hc:zcI [.slc .ro (zax n f), .slc .ro (zax n g)]=true:=by
  have h1:=zix n f
  have h2:=zix n g
  simp only [zcI,h1,h2];rfl
 have hfr:=zpL [] .own n (za2 f g)
 have htk:List.take n (zax n (za2 f g))=zax n (za2 f g):=List.take_of_length_le (by rw [zar];exact Nat.le_refl _)
 have hok:=zfX n n (za2 f g)
 have hII:ziR n n (za2 f g)=zax n (za2 f g):=rfl
 rw [hII] at hok
 refine zan hs zIP rfl hc rfl ?_
 rw [env74]
 simp [zLc,zLb,zLa,a74,zad hs,zaa hs,zab hs]
 refine (zrz (bar:=0) (H:= []) (f:=f) (g:=g) hn n 0 _ (by omega) ?_ ?_ ?_ ?_).mono fun e t h=> ?_
 ·simp
 ·simp
 ·simp
 ·simp [ziR]
 ·obtain ⟨rfl,v',rfl,k5⟩:=h
  simp [zD0,zad hs,zaa hs,k5,zar,htk,hok]
  exact hfr
end
section
theorem zFw (n:Nat) (p q:Nat→Bool):zcQ n (upTo p q n)=zcQ n (orB p q):=zjE fun i hi=>by simp [upTo,orB,hi]
theorem zv7 {bar:Nat} {H:Heap} {n k:Nat} {f g:Nat→Nat→Bool} {p:Nat→Bool} (hn:n≤1000) (hk:k<n): ∀ (m j:Nat) (v:Nat→AV),j+m=n→v 0= .slc .ro (zax n f)→v 1= .slc .ro (zax n g)→v 8=num k→v 9=num j→v 7= .slc .own (zcQ n (upTo p (g k) j)) →
  Wp (evI fsT SA.sp bar (.loop a73l12) (mkE 73022850035 v,H)) (fun e t=>e= .exit 4∧ ∃ v',t=(mkE 73022850035 v',H)∧v' 0= .slc .ro (zax n f)∧v' 1= .slc .ro (zax n g)∧v' 8=num k∧v' 5=v 5∧v' 6=v 6∧v' 7= .slc .own (zcQ n (orB p (g k)))):=by
 have hs:=SA.mono
 intro m
 induction m with
 | zero =>
  intro j v hj v0 v1 v8 v9 v7
  have hj':j=n:=by omega
  subst hj'
  rw [zFw] at v7
  rw [zah hs a73l12.eq_1]
  simp [zad hs,zaa hs,zab hs,zac hs,zCR,v0,v9,zar]
  exact ⟨_,rfl,by simp [v0],by simp [v1],by simp [v8],by simp,by simp,by simp [v7]⟩
 | succ m ih =>
  intro j v hj v0 v1 v8 v9 v7
  have hj':j<n:=by omega
  have hw1:IntKind.i64.wrap ((j:Int)+1)=(j:Int)+1:=zak _ (by omega)
  have g2:=zfR g hk
  have g4:=zcP (g k) hj'
  have g5:=zcP (upTo p (g k) j) hj'
  have hset:=zii (upTo p (g k) j) n j (upTo p (g k) j j||g k j)
  rw [zjs] at hset
  have next: ∀ w:Nat→AV,w 0= .slc .ro (zax n f)→w 1= .slc .ro (zax n g)→w 8=num k→w 9=num (j+1)→w 7= .slc .own (zcQ n (upTo p (g k) (j+1)))→w 5=v 5→w 6=v 6 →
    Wp (evI fsT SA.sp bar (.loop a73l12) (mkE 73022850035 w,H)) (fun e t=>e= .exit 4∧ ∃ v',t=(mkE 73022850035 v',H)∧v' 0= .slc .ro (zax n f)∧v' 1= .slc .ro (zax n g)∧v' 8=num k∧v' 5=v 5∧v' 6=v 6∧v' 7= .slc .own (zcQ n (orB p (g k)))):=fun w w0 w1 w8 w9 w7 w5 w6=>by
   rw [←w5,←w6];exact ih (j+1) w (by omega) w0 w1 w8 w9 w7
  rw [zah hs a73l12.eq_1]
  cases hu:upTo p (g k) j j with
  | true =>
   rw [hu] at g5 hset
   simp only [Bool.true_or] at hset
   simp [zad hs,zaa hs,zab hs,zac hs,zCR,zzm,zzl,v0,v1,v7,v8,v9,zar,zaz,hk,hj',g2,g4,g5,hw1,hset]
   refine next _ ?_ ?_ ?_ ?_ ?_ ?_ ?_
   all_goals simp [v0,v1,v8]
  | false =>
   rw [hu] at g5 hset
   simp only [Bool.false_or] at hset
   simp [zad hs,zaa hs,zab hs,zac hs,zCR,zzm,zzl,v0,v1,v7,v8,v9,zar,zaz,hk,hj',g2,g4,g5,hw1,hset]
   refine next _ ?_ ?_ ?_ ?_ ?_ ?_ ?_
   all_goals simp [v0,v1,v8]
def zBc (f g:Nat→Nat→Bool) (i k:Nat):Nat→Bool:=fun x=>(List.range k).any fun y=>f i y&&g y x
theorem zzd (f g:Nat→Nat→Bool) (i:Nat):zBc f g i 0=noB:=rfl
theorem zCu {f g:Nat→Nat→Bool} {i k:Nat} (h:f i k=true):orB (zBc f g i k) (g k)=zBc f g i (k+1):=by
 funext x
 simp [zBc,orB,List.range_succ,h]
theorem zGX {f g:Nat→Nat→Bool} {i k:Nat} (h:f i k=false):zBc f g i (k+1)=zBc f g i k:=by
 funext x
 simp [zBc,List.range_succ,h]
theorem zBf {bar:Nat} {H:Heap} {n i:Nat} {f g:Nat→Nat→Bool} (hn:n≤1000) (hi:i<n): ∀ (m k:Nat) (v:Nat→AV),k+m=n→v 0= .slc .ro (zax n f)→v 1= .slc .ro (zax n g)→v 6=num i→v 8=num k→v 7= .slc .own (zcQ n (zBc f g i k)) →
  Wp (evI fsT SA.sp bar (.loop a73l14) (mkE 73022850035 v,H)) (fun e t=>e= .exit 2∧ ∃ v',t=(mkE 73022850035 v',H)∧v' 0= .slc .ro (zax n f)∧v' 1= .slc .ro (zax n g)∧v' 6=num i∧v' 5=v 5∧v' 7= .slc .own (zcQ n (zeL n f g i))):=by
 have hs:=SA.mono
 intro m
 induction m with
 | zero =>
  intro k v hk v0 v1 v6 v8 v7
  have hk':k=n:=by omega
  subst hk'
  rw [zah hs a73l14.eq_1]
  simp [zad hs,zaa hs,zab hs,zac hs,zCS,v0,v8,zar]
  exact ⟨_,rfl,by simp [v0],by simp [v1],by simp [v6],by simp,by simp [v7];rfl⟩
 | succ m ih =>
  intro k v hk v0 v1 v6 v8 v7
  have hk':k<n:=by omega
  have hw1:IntKind.i64.wrap ((k:Int)+1)=(k:Int)+1:=zak _ (by omega)
  have g1:=zfR f hi
  have g3:=zcP (f i) hk'
  have next: ∀ w:Nat→AV,w 0= .slc .ro (zax n f)→w 1= .slc .ro (zax n g)→w 6=num i→w 8=num (k+1)→w 7= .slc .own (zcQ n (zBc f g i (k+1)))→w 5=v 5 →
    Wp (evI fsT SA.sp bar (.loop a73l14) (mkE 73022850035 w,H)) (fun e t=>e= .exit 2∧ ∃ v',t=(mkE 73022850035 v',H)∧v' 0= .slc .ro (zax n f)∧v' 1= .slc .ro (zax n g)∧v' 6=num i∧v' 5=v 5∧v' 7= .slc .own (zcQ n (zeL n f g i))):=fun w w0 w1 w6 w8 w7 w5=>by
   rw [←w5];exact ih (k+1) w (by omega) w0 w1 w6 w8 w7
  rw [zah hs a73l14.eq_1]
  cases hf:f i k with
  | true =>
   rw [hf] at g3
   simp [zad hs,zaa hs,zab hs,zac hs,zCS,zHs,zHr,v0,v6,v8,zar,zaz,hi,hk',g1,g3]
   refine (zv7 (bar:=bar) (H:=H) (f:=f) (g:=g) (p:=zBc f g i k) hn hk' n 0 _ (by omega) ?_ ?_ ?_ ?_ ?_).mono fun e t h=> ?_
   ·simp [v0]
   ·simp [v1]
   ·simp [v8]
   ·simp
   ·rw [zhk];simp [v7]
   obtain ⟨rfl,u,rfl,k0,k1,k8,k5,k6,k7⟩:=h
   simp at k5 k6
   rw [v6] at k6
   rw [zCu hf] at k7
   simp [zad hs,zaa hs,zab hs,zac hs,zzk,k8,hw1]
   refine next _ ?_ ?_ ?_ ?_ ?_ ?_
   ·simp [k0]
   ·simp [k1]
   ·simp [k6]
   ·simp
   ·simp [k7]
   ·simp [k5]
  | false =>
   rw [hf] at g3
   rw [zGX hf] at next
   simp [zad hs,zaa hs,zab hs,zac hs,zCS,zHs,zHr,zzk,v0,v6,v8,zar,zaz,hi,hk',g1,g3,hw1]
   refine next _ ?_ ?_ ?_ ?_ ?_ ?_
   all_goals simp [v0,v1,v6,v7]
theorem zv6 {bar:Nat} {H:Heap} {n:Nat} {f g:Nat→Nat→Bool} (hn:n≤1000): ∀ (m i:Nat) (v:Nat→AV),i+m=n→v 0= .slc .ro (zax n f)→v 1= .slc .ro (zax n g)→v 6=num i→v 5= .slc .own (ziR n i (zeL n f g)) →
  Wp (evI fsT SA.sp bar (.loop a73l17) (mkE 73022850035 v,H)) (fun e t=>e= .exit 0∧ ∃ v',t=(mkE 73022850035 v',H)∧v' 5= .slc .own (zax n (zeL n f g))):=by
 have hs:=SA.mono
 intro m
 induction m with
 | zero =>
  intro i v hi v0 v1 v6 v5
  have hi':i=n:=by omega
  subst hi'
  rw [zah hs a73l17.eq_1]
  simp [zad hs,zaa hs,zab hs,zac hs,zHt,v0,v6,zar]
  exact ⟨_,rfl,by simp [v5];rfl⟩
 | succ m ih =>
  intro i v hi v0 v1 v6 v5
  have hi':i<n:=by omega
  have hw1:IntKind.i64.wrap ((i:Int)+1)=(i:Int)+1:=zak _ (by omega)
  have hnl:n≤4294967296:=by omega
  rw [zah hs a73l17.eq_1]
  simp [-List.reduceReplicate,zad hs,zaa hs,zab hs,zac hs,zHt,zLe,zLd,v0,v6,zar,hi',zs7,hnl]
  refine (zBf (bar:=bar) (H:=H) (f:=f) (g:=g) hn hi' n 0 _ (by omega) ?_ ?_ ?_ ?_ ?_).mono fun e t h=> ?_
  ·simp [v0]
  ·simp [v1]
  ·simp [v6]
  ·simp
  ·rw [zzd];simp
  obtain ⟨rfl,u,rfl,k0,k1,k6,k5,k7⟩:=h
  simp at k5
  rw [v5] at k5
  have htk:List.take n (zcQ n (zeL n f g i))=zcQ n (zeL n f g i):=List.take_of_length_le (by rw [zaz];exact Nat.le_refl _)
  have hi5:i≤4294967295:=by omega
  have hok:=zfX n i (zeL n f g)
  simp [zad hs,zaa hs,zab hs,zac hs,zD5,zD4,k0,k1,k5,k6,k7,zaz,zhp,hw1,za6,htk,hi5,hok]
  refine (ih (i+1) _ (by omega) ?_ ?_ ?_ ?_).mono fun e t h=>by simpa using h
  ·simp [k0]
  ·simp [k1]
  ·simp
  ·simp [zkZ]
theorem zlX {bar:Nat} {H:Heap} {n:Nat} {f g:Nat→Nat→Bool} (hn:n≤1000):Rn fsT SA.sp bar 73 [.slc .ro (zax n f), .slc .ro (zax n g)] H=some (.ret (.slc .own (zax n (zeL n f g))),H):=by
 have hs:=SA.mono
 have hc:zcI [.slc .ro (zax n f), .slc .ro (zax n g)]=true:=by
  have h1:=zix n f
  have h2:=zix n g
  simp only [zcI,h1,h2];rfl
 have hfr:=zpL [] .own n (zeL n f g)
 have htk:List.take n (zax n (zeL n f g))=zax n (zeL n f g):=List.take_of_length_le (by rw [zar];exact Nat.le_refl _)
 have hok:=zfX n n (zeL n f g)
 have hII:ziR n n (zeL n f g)=zax n (zeL n f g):=rfl
 rw [hII] at hok
 refine zan hs zIQ rfl hc rfl ?_
 rw [env73]
 simp [zLh,zLg,zLf,a73,zad hs,zaa hs,zab hs]
 refine (zv6 (bar:=0) (H:= []) (f:=f) (g:=g) hn n 0 _ (by omega) ?_ ?_ ?_ ?_).mono fun e t h=> ?_
 ·simp
 ·simp
 ·simp
 ·simp [ziR]
 ·obtain ⟨rfl,v',rfl,k5⟩:=h
  simp [zD3,zad hs,zaa hs,k5,zar,htk,hok]
  exact hfr
end
section
def OR (H:Heap) (n i:Nat) (r:Nat→Nat→Bool):Prop:= ∀ x,x<i→hget H (2*x+1)=some (some (zcQ n (r x)))
def zlK (n i:Nat):List AV:=(List.range i).map fun k=> .msl 1 (2*k+1) 0 n
theorem zgy (n i:Nat):(zlK n i).length=i:=by simp [zlK]
theorem zp7 {n i k:Nat} (h:k<i):(zlK n i)[k]? = some (.msl 1 (2*k+1) 0 n):=by
 unfold zlK
 rw [List.getElem?_map,List.getElem?_range h];rfl
theorem zza (n i:Nat):zlK n (i+1)=zlK n i ++ [.msl 1 (2*i+1) 0 n]:=by
 unfold zlK;rw [List.range_succ,List.map_append];rfl
theorem zwN (n:Nat) (p:Nat→Bool):zjM 0 (zcQ n p)=true:=by
 have: ∀ l:List Nat,zjM 0 (l.map fun k=>AV.bool (p k))=true:=fun l=>by
  induction l with
  | nil=>rfl
  | cons x l ih=>simp [zjM,ih]
 exact this _
theorem zvk (n i:Nat):zjM 0 (zlK n i)=true:=by
 have: ∀ l:List Nat,zjM 0 (l.map fun k=>AV.msl 1 (2*k+1) 0 n)=true:=fun l=>by
  induction l with
  | nil=>rfl
  | cons x l ih=>simp [zjM,ih]
 exact this _
theorem zwU (n:Nat) (p:Nat→Bool):List.flatMap AV.cells (zcQ n p)=zcQ n p:=by
 have: ∀ l:List Nat,List.flatMap AV.cells (l.map fun k=>AV.bool (p k))=l.map fun k=>AV.bool (p k):=fun l=>by
  induction l with
  | nil=>rfl
  | cons x l ih=>simp [ih]
 exact this _
theorem zth {n:Nat} {f:Nat→Nat→Bool} (hn:n≤1000): ∀ (m i:Nat) (v:Nat→AV) (H:Heap),i+m=n→v 0= .slc .ro (zax n f)→v 4=num i→v 3= .slc .own (zlK n i)→H.length=2*i→OR H n i (fun x y=>idT x y||f x y) →
  Wp (evI fsT SA.sp 0 (.loop a75l8) (mkE 4785353776964093 v,H)) (fun e t=>e= .exit 0∧ ∃ v' H',t=(mkE 4785353776964093 v',H')∧v' 0= .slc .ro (zax n f)∧v' 3= .slc .own (zlK n n)∧H'.length=2*n∧OR H' n n (fun x y=>idT x y||f x y)):=by
 have hs:=SA.mono
 intro m
 induction m with
 | zero =>
  intro i v H hi v0 v4 v3 hH hO
  have hi':i=n:=by omega
  subst hi'
  rw [zah hs a75l8.eq_1]
  simp [zad hs,zaa hs,zab hs,zac hs,zHn,v0,v4,zar]
  exact ⟨_,H,⟨rfl,rfl⟩,by simp [v0],by simp [v3],hH,hO⟩
 | succ m ih =>
  intro i v H hi v0 v4 v3 hH hO
  have hi':i<n:=by omega
  have g1:=zfR f hi'
  have hnl:n≤4294967296:=by omega
  have htk:List.take n (zcQ n (f i))=zcQ n (f i):=List.take_of_length_le (by rw [zaz];exact Nat.le_refl _)
  have hok:=zwN n (f i)
  have hfl:=zwU n (f i)
  have hw1:IntKind.i64.wrap ((i:Int)+1)=(i:Int)+1:=zak _ (by omega)
  have hgn:hget (H ++ [none,some (zcQ n (f i))]) (H.length+1)=some (some (zcQ n (f i))):=by
   rw [hget,List.getElem?_append_right (by omega),show H.length+1-H.length=1 by omega];rfl
  have hset:=zii (f i) n i true
  have hoka:=zvk n i
  have hi5:i≤4294967295:=by omega
  have hin:i+1≤n:=hi'
  rw [zah hs a75l8.eq_1]
  simp [zad hs,zaa hs,zab hs,zac hs,zHn,zK4,zK3,zK2,zK1,v0,v3,v4,zar,zaz,zgy,hi',hin,g1,hnl,htk,hok,hfl,hgn,hset,hoka,hi5,hw1,za6]
  have hrow:zcQ n (fun x=>decide (x=i)||f i x)=zcQ n (fun y=>idT i y||f i y):=zjE fun y _=>by
   simp only [idT,eq_comm]
  refine (ih (i+1) _ _ (by omega) ?_ ?_ ?_ ?_ ?_).mono fun e t h=>by simpa using h
  ·simp [v0]
  ·simp
  ·simp [zza,hH]
  ·simp [hH];omega
  ·intro x hx
   by_cases e:x=i
   ·subst e
    rw [←hH,hget,List.getElem?_append_right (by omega),show H.length+1-H.length=1 by omega,←hrow];rfl
   ·have:=hO x (by omega)
    rw [zbe _ (zau this)];exact this
theorem OR.set {H:Heap} {n m i:Nat} {r:Nat→Nat→Bool} (h:OR H n m r) (hi:i<m) (p:Nat→Bool):OR (H.set (2*i+1) (some (zcQ n p))) n m (fun x=>if x=i then p else r x):=by
 intro x hx
 by_cases e:x=i
 ·subst e
  simp only [if_true]
  exact zae _ (zau (h x hi))
 ·simp only [if_neg e]
  rw [zay _ (by omega)]
  exact h x hx
theorem OR.congr {H:Heap} {n m:Nat} {r r':Nat→Nat→Bool} (h:OR H n m r) (e: ∀ x y,x<m→y<n→r x y=r' x y):OR H n m r':=by
 intro x hx
 rw [h x hx,zjE fun y hy=>e x y hx hy]
theorem ztg {n i k:Nat} {f:Nat→Nat→Bool} {p q:Nat→Bool} (hn:n≤1000) (hi:i<n) (hk:k<n): ∀ (m j:Nat) (v:Nat→AV) (H:Heap) (r:Nat→Nat→Bool),j+m=n→v 0= .slc .ro (zax n f)→v 3= .slc .own (zlK n n)→v 6=num k→v 7=num i→v 8=num j→OR H n n r→H.length=2*n→(∀ y,r i y=upTo p q j y)→(∀ y,r k y=q y) →
  Wp (evI fsT SA.sp 0 (.loop a75l18) (mkE 4785353776964093 v,H)) (fun e t=>e= .exit 6∧ ∃ v' H',t=(mkE 4785353776964093 v',H')∧v' 0= .slc .ro (zax n f)∧v' 3= .slc .own (zlK n n)∧v' 6=num k∧v' 7=num i∧H'.length=2*n∧OR H' n n (fun x=>if x=i then orB p q else r x)):=by
 have hs:=SA.mono
 intro m
 induction m with
 | zero =>
  intro j v H r hj v0 v3 v6 v7 v8 hO hH hri hrk
  have hj':j=n:=by omega
  subst hj'
  rw [zah hs a75l18.eq_1]
  simp [zad hs,zaa hs,zab hs,zac hs,zvv,v0,v8,zar]
  refine ⟨_,H,⟨rfl,rfl⟩,by simp [v0],by simp [v3],by simp [v6],by simp [v7],hH,hO.congr fun x y hx hy=> ?_⟩
  by_cases e:x=i
  ·subst e;rw [if_pos rfl,hri];simp [upTo,orB,hy]
  ·rw [if_neg e]
 | succ m ih =>
  intro j v H r hj v0 v3 v6 v7 v8 hO hH hri hrk
  have hj':j<n:=by omega
  have hw1:IntKind.i64.wrap ((j:Int)+1)=(j:Int)+1:=zak _ (by omega)
  have a1:=zp7 (n:=n) hi
  have a2:=zp7 (n:=n) hk
  have o1:=hO i hi
  have o2:=hO k hk
  have g1:=zcP (r i) hj'
  have g2:=zcP (r k) hj'
  have hset:=zii (r i) n j (r i j||r k j)
  have hj5:j+1≤n:=hj'
  have d1:List.take 1 (List.drop j (zcQ n (r i)))= [.bool (r i j)]:=by
   rw [List.drop_eq_getElem_cons (by rw [zaz];exact hj')]
   have:=(List.getElem?_eq_some_iff.1 g1).2
   simp only [List.take_succ_cons,List.take_zero,this]
  have d2:List.take 1 (List.drop j (zcQ n (r k)))= [.bool (r k j)]:=by
   rw [List.drop_eq_getElem_cons (by rw [zaz];exact hj')]
   have:=(List.getElem?_eq_some_iff.1 g2).2
   simp only [List.take_succ_cons,List.take_zero,this]
  have hil:2*i+1<H.length:=zau o1
  have fin2: ∀ (w:Nat→AV),w 0= .slc .ro (zax n f)→w 3= .slc .own (zlK n n)→w 6=num k→w 7=num i→w 8=num (j+1) →
    Wp (evI fsT SA.sp 0 (.loop a75l18) (mkE 4785353776964093 w,H.set (2*i+1) (some (zcQ n (fun x=>if x=j then (r i j||r k j) else r i x))))) (fun e t=>e= .exit 6∧ ∃ v' H',t=(mkE 4785353776964093 v',H')∧v' 0= .slc .ro (zax n f)∧v' 3= .slc .own (zlK n n)∧v' 6=num k∧v' 7=num i∧H'.length=2*n∧OR H' n n (fun x=>if x=i then orB p q else r x)):=fun w w0 w3 w6 w7 w8=>by
   have hO2:=hO.set hi (fun x=>if x=j then (r i j||r k j) else r i x)
   refine (ih (j+1) w _ _ (by omega) w0 w3 w6 w7 w8 hO2 (by simpa using hH) (fun y=> ?_) (fun y=> ?_)).mono fun e t h=> ?_
   ·simp only [if_true]
    by_cases e:y=j
    ·subst e;simp [hri,hrk,upTo]
    ·have:decide (y<j)=decide (y<j+1):=by rw [decide_eq_decide];omega
     simp [e,hri,upTo,this]
   ·by_cases e:k=i
    ·subst e
     simp only [if_true]
     by_cases e2:y=j
     ·subst e2;simp [hrk]
     ·simp [e2,hrk]
    ·simp [e,hrk]
   ·obtain ⟨e1,v',H',e2,e3,e4,e5,e6,e7,e8⟩:=h
    refine ⟨e1,v',H',e2,e3,e4,e5,e6,e7,e8.congr fun x y _ _=> ?_⟩
    by_cases e:x=i
    ·simp [e]
    ·simp [e]
  rw [zah hs a75l18.eq_1]
  cases hb:r i j with
  | true =>
   rw [hb] at d1 hset fin2
   simp [zad hs,zaa hs,zai hs,zab hs,zac hs,zvv,zzj,zzg,v0,v3,v6,v7,v8,zar,zaz,zgy,hi,hk,hj',hj5,a1,a2,o1,o2,d1,d2,hw1,hil]
   simp only [Bool.true_or] at hset fin2
   rw [hset]
   refine fin2 _ ?_ ?_ ?_ ?_ ?_
   all_goals simp [v0,v3,v6,v7]
  | false =>
   rw [hb] at d1 hset fin2
   simp only [Bool.false_or] at hset fin2
   simp [zad hs,zaa hs,zai hs,zab hs,zac hs,zvv,zzj,zzg,v0,v3,v6,v7,v8,zar,zaz,zgy,hi,hk,hj',hj5,a1,a2,o1,o2,d1,d2,hw1,hil]
   rw [hset]
   refine fin2 _ ?_ ?_ ?_ ?_ ?_
   all_goals simp [v0,v3,v6,v7]
end
section
def ztz (k i:Nat) (a:Nat→Nat→Bool):Nat→Nat→Bool:=fun x y=>if x<i then zA9 k a x y else a x y
theorem zIw (k i:Nat) (a:Nat→Nat→Bool) (y:Nat):ztz k i a k y=a k y:=by
 unfold ztz zA9
 split
 ·cases a k y<;>simp
 ·rfl
theorem zyl {n k:Nat} {f a:Nat→Nat→Bool} (hn:n≤1000) (hk:k<n): ∀ (m i:Nat) (v:Nat→AV) (H:Heap),i+m=n→v 0= .slc .ro (zax n f)→v 3= .slc .own (zlK n n)→v 6=num k→v 7=num i→H.length=2*n→OR H n n (ztz k i a) →
  Wp (evI fsT SA.sp 0 (.loop a75l20) (mkE 4785353776964093 v,H)) (fun e t=>e= .exit 4∧ ∃ v' H',t=(mkE 4785353776964093 v',H')∧v' 0= .slc .ro (zax n f)∧v' 3= .slc .own (zlK n n)∧v' 6=num k∧H'.length=2*n∧OR H' n n (zA9 k a)):=by
 have hs:=SA.mono
 intro m
 induction m with
 | zero =>
  intro i v H hi v0 v3 v6 v7 hH hO
  have hi':i=n:=by omega
  subst hi'
  rw [zah hs a75l20.eq_1]
  simp [zad hs,zaa hs,zab hs,zac hs,zvw,v0,v7,zar]
  exact ⟨_,H,⟨rfl,rfl⟩,by simp [v0],by simp [v3],by simp [v6],hH,hO.congr fun x y hx _=>by simp [ztz,hx]⟩
 | succ m ih =>
  intro i v H hi v0 v3 v6 v7 hH hO
  have hi':i<n:=by omega
  have hw1:IntKind.i64.wrap ((i:Int)+1)=(i:Int)+1:=zak _ (by omega)
  have a1:=zp7 (n:=n) hi'
  have o1:=hO i hi'
  have g1:=zcP (ztz k i a i) hk
  have hmi: ∀ y,ztz k i a i y=a i y:=fun y=>by simp [ztz]
  have hk5:k+1≤n:=hk
  have d1:List.take 1 (List.drop k (zcQ n (ztz k i a i)))= [.bool (a i k)]:=by
   rw [List.drop_eq_getElem_cons (by rw [zaz];exact hk)]
   have:=(List.getElem?_eq_some_iff.1 g1).2
   simp only [List.take_succ_cons,List.take_zero,this,hmi]
  have next: ∀ (w:Nat→AV) (K:Heap),w 0= .slc .ro (zax n f)→w 3= .slc .own (zlK n n)→w 6=num k→w 7=num (i+1)→K.length=2*n→OR K n n (ztz k (i+1) a) →
    Wp (evI fsT SA.sp 0 (.loop a75l20) (mkE 4785353776964093 w,K)) (fun e t=>e= .exit 4∧ ∃ v' H',t=(mkE 4785353776964093 v',H')∧v' 0= .slc .ro (zax n f)∧v' 3= .slc .own (zlK n n)∧v' 6=num k∧H'.length=2*n∧OR H' n n (zA9 k a)):=fun w K w0 w3 w6 w7 hK hOK=>ih (i+1) w K (by omega) w0 w3 w6 w7 hK hOK
  rw [zah hs a75l20.eq_1]
  cases ha:a i k with
  | false =>
   rw [ha] at d1
   simp [zad hs,zaa hs,zab hs,zac hs,zvw,zzh,zzf,v0,v3,v6,v7,zar,zaz,zgy,hi',hk,hk5,a1,o1,d1,hw1]
   refine next _ H ?_ ?_ ?_ ?_ hH (hO.congr fun x y _ _=> ?_)
   ·simp [v0]
   ·simp [v3]
   ·simp [v6]
   ·simp
   ·unfold ztz
    by_cases e:x=i
    ·subst e;simp [zA9,ha]
    ·by_cases h:x<i
     ·have:x<i+1:=by omega
      simp [h,this]
     ·have: ¬ x<i+1:=by omega
      simp [h,this]
  | true =>
   rw [ha] at d1
   simp [zad hs,zaa hs,zab hs,zac hs,zvw,zzh,zDY,v0,v3,v6,v7,zar,zaz,zgy,hi',hk,hk5,a1,o1,d1]
   refine (ztg (f:=f) (p:=a i) (q:=a k) hn hi' hk n 0 _ H (ztz k i a) (by omega) ?_ ?_ ?_ ?_ ?_ hO hH (fun y=> ?_) (fun y=>zIw k i a y)).mono fun e t h=> ?_
   ·simp [v0]
   ·simp [v3]
   ·simp [v6]
   ·simp [v7]
   ·simp
   ·rw [zhk];exact hmi y
   obtain ⟨rfl,u,H',rfl,k0,k3,k6,k7,hK,hOK⟩:=h
   simp [zad hs,zaa hs,zab hs,zac hs,zzf,k7,hw1]
   refine next _ H' ?_ ?_ ?_ ?_ hK (hOK.congr fun x y _ _=> ?_)
   ·simp [k0]
   ·simp [k3]
   ·simp [k6]
   ·simp
   ·by_cases e:x=i
    ·subst e;simp [ztz,zA9,ha,orB]
    ·by_cases h:x<i
     ·have:x<i+1:=by omega
      simp [ztz,h,this,e]
     ·have: ¬ x<i+1:=by omega
      simp [ztz,h,this,e]
theorem ztf {n:Nat} {f a:Nat→Nat→Bool} (hn:n≤1000): ∀ (m k:Nat) (v:Nat→AV) (H:Heap),k+m=n→v 0= .slc .ro (zax n f)→v 3= .slc .own (zlK n n)→v 6=num k→H.length=2*n→OR H n n (ziO a k) →
  Wp (evI fsT SA.sp 0 (.loop a75l22) (mkE 4785353776964093 v,H)) (fun e t=>e= .exit 2∧ ∃ v' H',t=(mkE 4785353776964093 v',H')∧v' 3= .slc .own (zlK n n)∧H'.length=2*n∧OR H' n n (ziO a n)):=by
 have hs:=SA.mono
 intro m
 induction m with
 | zero =>
  intro k v H hk v0 v3 v6 hH hO
  have hk':k=n:=by omega
  subst hk'
  rw [zah hs a75l22.eq_1]
  simp [zad hs,zaa hs,zab hs,zac hs,zzi,v0,v6,zar]
  exact ⟨_,H,⟨rfl,rfl⟩,by simp [v3],hH,hO⟩
 | succ m ih =>
  intro k v H hk v0 v3 v6 hH hO
  have hk':k<n:=by omega
  have hw1:IntKind.i64.wrap ((k:Int)+1)=(k:Int)+1:=zak _ (by omega)
  rw [zah hs a75l22.eq_1]
  simp [zad hs,zaa hs,zab hs,zac hs,zzi,zDZ,v0,v6,zar,hk']
  refine (zyl (f:=f) (a:=ziO a k) hn hk' n 0 _ H (by omega) ?_ ?_ ?_ ?_ hH (hO.congr fun x y _ _=>by simp [ztz])).mono fun e t h=> ?_
  ·simp [v0]
  ·simp [v3]
  ·simp [v6]
  ·simp
  obtain ⟨rfl,u,H',rfl,k0,k3,k6,hK,hOK⟩:=h
  simp [zad hs,zaa hs,zab hs,zac hs,zDX,k6,hw1]
  refine ih (k+1) _ H' (by omega) ?_ ?_ ?_ hK hOK
  ·simp [k0]
  ·simp [k3]
  ·simp
theorem zGF {H:Heap} {n:Nat} {r:Nat→Nat→Bool} (h:OR H n n r):frz 0 H (.slc .own (zlK n n))=some (.slc .own (zax n r)):=by
 have one: ∀ k,k<n→frz 0 H (.msl 1 (2*k+1) 0 n)=some (.slc .ro (zcQ n (r k))):=fun k hk=>by
  have hb:Nat.blt (2*k+1) 0=false:=by rw [zqA];simp
  have hb1:Nat.beq 1 1=true:=rfl
  have hh:=h k hk
  rw [hget] at hh
  have hsub:sub (zcQ n (r k)) 0 n=some (zcQ n (r k)):=by
   have htk:List.take n (zcQ n (r k))=zcQ n (r k):=List.take_of_length_le (by rw [zaz];exact Nat.le_refl _)
   simp [sub,zqB,zaz,htk]
  have hsc:(zcQ n (r k)).all scal=true:=by simp [zcQ,scal]
  simp only [frz,hb,hb1,cond_false,cond_true,hh,hsub,hsc]
 have all: ∀ l:List Nat,(∀ k∈l,k<n)→zbG 0 H (l.map fun k=>AV.msl 1 (2*k+1) 0 n)=some (l.map fun k=>AV.slc .ro (zcQ n (r k))):=fun l=>by
  induction l with
  | nil=>intro _;rfl
  | cons x l ih =>
   intro hl
   simp only [List.map_cons,zbG]
   rw [one x (hl x (by simp)),ih fun k hk=>hl k (List.mem_cons_of_mem _ hk)]
 have:=all (List.range n) fun k hk=>List.mem_range.1 hk
 simp only [frz,zlK,zax]
 rw [this]
theorem zyk {bar:Nat} {H:Heap} {n:Nat} {f:Nat→Nat→Bool} (hn:n≤1000):Rn fsT SA.sp bar 75 [.slc .ro (zax n f)] H=some (.ret (.slc .own (zax n (zq6 n f))),H):=by
 have hs:=SA.mono
 have hc:zcI [.slc .ro (zax n f)]=true:=by
  have h1:=zix n f
  simp only [zcI,h1];rfl
 refine zan hs zIO rfl hc rfl ?_
 rw [env75]
 simp [zK7,zK6,zK5,a75,zad hs,zaa hs,zab hs]
 refine (zth (f:=f) hn n 0 _ [] (by omega) ?_ ?_ ?_ rfl (fun x hx=>by omega)).mono fun e t h=> ?_
 ·simp
 ·simp
 ·simp [zlK]
 obtain ⟨rfl,u,H1,rfl,k0,k3,hH1,hO1⟩:=h
 simp [zK0,zad hs,zaa hs,zab hs]
 refine (ztf (f:=f) (a:=fun x y=>idT x y||f x y) hn n 0 _ H1 (by omega) ?_ ?_ ?_ hH1 hO1).mono fun e t h=> ?_
 ·simp [k0]
 ·simp [k3]
 ·simp
 obtain ⟨rfl,v',H',rfl,j3,hH',hO'⟩:=h
 have hok:=zvk n n
 have htk:List.take n (zlK n n)=zlK n n:=List.take_of_length_le (by rw [zgy];exact Nat.le_refl _)
 simp [zDW,zad hs,zaa hs,j3,zgy,htk,hok]
 exact zGF hO'
end
end Go.Ak
