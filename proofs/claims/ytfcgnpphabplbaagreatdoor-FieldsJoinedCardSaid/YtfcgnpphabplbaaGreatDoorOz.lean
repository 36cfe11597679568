/- Records: Take, Get, Set; fields joined; that the law answers true. -/
import Derived.Test.YtfcgnpphabplbaaGreatDoorOy
import Derived.Test.YtfcgnpphabplbaaGreatDoorOx
import Derived.Test.YtfcgnpphabplbaaGreatDoorOm
set_option linter.unusedVariables false
set_option linter.unusedSimpArgs false
namespace Go.Ak
attribute [local simp] zcx zd7 zd8 zfV zbm zc2 zaG za9 za0 zba zbs zbK zbL zbg zcJ zdJ zdK zcB zcC
 zaN zcN wanted zbb opd zkt live zcD zde zbA zcA ziq put zes esc zqx ztJ args drop1 zg1 zuW zuV ztH zou rd wr zbE sub AV.cells pack one setCells zeH znX zc3 roOf zaL zfw zav zau zey zbw newRow newObj step zcF zbM contents take flat look lim zex bound zec zeu eqS eqL eqA ver
 zcI zdI zdH zcG zcH
 List.getElem?_cons_zero List.getElem?_cons_succ zdl zbp zaE zaF zcE
attribute [local simp] sR sT cV bL mvV mvL mgV mgL asL asI asB ldN ldV ldL ldG stV stL fdL fdV fdG fgL nlC nlG bnI bvI bnL bvL bxI bxU bgI bgL exT lnS lgS clA clB clC clI pkT pkF pvT pvF pgT pgF ixL axV bxV apL
attribute [-simp] getElem?_pos
section
def zrw (s:List UInt8):AV :=
 if trimF s= []∨(zDB (trimF s)).2.1≠(trimF s).length∨(zDB (trimF s)).2.2≠0 then .agg [.int .i64 2, .int .i64 0, .str s] else .agg [.int .i64 3, .int .i64 (zDB (trimF s)).1, .str s]
theorem zf8 (s:List UInt8): ∃ k n,zrw s= .agg [.int .i64 k, .int .i64 n, .str s]:=by
 unfold zrw
 split
 ·exact ⟨2,0,rfl⟩
 ·exact ⟨3,_,rfl⟩
theorem zyg {bar:Nat} {H:Heap} {s:List UInt8} (hl:s.length≤1000000):Rn fsT SA.sp bar 195 [.str s] H=some (.ret (zrw s),H):=by
 have hs:=SA.mono
 have ht:=fun H=>zAU (bar:=0) (H:=H) hl
 have hd:=fun H=>zGh (bar:=0) (H:=H) (s:=trimF s) (Nat.le_trans (zw7 s) hl)
 refine zao hs zFt rfl rfl rfl ?_
 rw [zII]
 unfold zrw
 simp only [zBk] at hd
 generalize trimF s=t at *
 generalize (zDB t).1=n at *
 generalize (zDB t).2.1=u at *
 generalize (zDB t).2.2=e at *
 cases t with
 | nil=>simp [a195,zr0,zrZ,zrY,zrX,zrW,zrV,zad hs,zaa hs,zac hs,ht,hd,zlP,zju,frz,zbd]
 | cons c l =>
  have hb:zju (c::l) []=false:=rfl
  have hne: ¬ (c::l)= []:=by simp
  generalize c::l=t at *
  by_cases h1:u=t.length
  ·have h1I:((u:Int) != (t.length:Int))=false:=by simp [h1]
   by_cases h2:e=0
   ·subst h2
    simp [a195,zr0,zrZ,zrY,zrX,zrW,zrV,zad hs,zaa hs,zac hs,ht,hd,zlP,hb,hne,h1,h1I,frz,zbd]
   ·have h2I:((e:Int) != 0)=true:=by simp [bne];omega
    simp [a195,zr0,zrZ,zrY,zrX,zrW,zrV,zad hs,zaa hs,zac hs,ht,hd,zlP,hb,hne,h1,h1I,h2,h2I,frz,zbd]
  ·have h1I:((u:Int) != (t.length:Int))=true:=by simp [bne];omega
   simp [a195,zr0,zrZ,zrY,zrX,zrW,zrV,zad hs,zaa hs,zac hs,ht,hd,zlP,hb,hne,h1,h1I,frz,zbd]
theorem zsq {bar:Nat} {H:Heap} {s:List UInt8} (hl:s.length≤1000000):Rn fsT SA.sp bar 185 [.str s] H=some (.ret (zrw s),H):=by
 have hs:=SA.mono
 have hi:=fun H=>zyg (bar:=0) (H:=H) hl
 obtain ⟨k,n,hc⟩:=zf8 s
 rw [hc] at hi ⊢
 refine zao hs zFw rfl rfl rfl ?_
 rw [zIL]
 simp [a185,zDU,zDT,zad hs,zaa hs,hi,frz,zbd]
def Rc (H:Heap) (p:Nat) (T:List UInt8) (L:List (List UInt8)) (A:AV):Prop:=hget H p=some (some [.str T,A])∧rowA L A
theorem zwg {bar:Nat} {H:Heap} (hb:bar≤H.length):Rn fsT SA.sp bar 165 [] H=some (.ret (.ptr H.length 0),H ++ [some [.str [], .nils]]):=by
 have hs:=SA.mono
 refine zh8.1 (zaO hs zFD rfl rfl ?_)
 rw [zIS]
 simp [a165,zD2,zD1,zad hs,zaa hs]
theorem zu0 {bar:Nat} {H:Heap} {p:Nat} {T:List UInt8} {L:List (List UInt8)} {A:AV} (h:Rc H p T L A):Rn fsT SA.sp bar 169 [.ptr p 0] H=some (.ret (num L.length),H):=by
 have hs:=SA.mono
 obtain ⟨hp,hA⟩:=h
 refine zcX hs zFB rfl rfl rfl ?_
 rw [zIQ]
 rcases hA with rfl | ⟨rfl,rfl⟩
 ·have hll:=zbI L
  generalize zax L=X at *
  simp [a169,zzu,zzt,zad hs,zaa hs,hp,hll]
 ·simp [a169,zzu,zzt,zad hs,zaa hs,hp]
theorem zAV {bar:Nat} {H:Heap} {p:Nat} {T:List UInt8} {L:List (List UInt8)} {A:AV} (h:Rc H p T L A):Rn fsT SA.sp bar 172 [.ptr p 0] H=some (.ret (.str T),H):=by
 have hs:=SA.mono
 obtain ⟨hp,hA⟩:=h
 refine zcX hs zFy rfl rfl rfl ?_
 rw [zIN]
 rcases hA with rfl | ⟨rfl,rfl⟩
 ·generalize zax L=X at *
  simp [a172,zzs,zzr,zad hs,zaa hs,hp]
 ·simp [a172,zzs,zzr,zad hs,zaa hs,hp]
def zsA (s fs:List UInt8):Nat:=if (zed s fs).2.2≠0 then (zed s fs).2.2 else if 100<(zed s fs).1.length then 2 else 0
theorem zC7 {H:Heap} {p:Nat} {T:List UInt8} {L:List (List UInt8)} {A:AV} (h:Rc H p T L A) {s fs:List UInt8} (hl:s.length≤900) :
  ∃ A',rowA (zed s fs).1 A'∧Rn fsT SA.sp 0 167 [.ptr p 0, .str s, .str fs] H=some (.ret (num (zsA s fs)),if zsA s fs=0 then H.set p (some [.str s,A']) else H):=by
 have hs:=SA.mono
 obtain ⟨hp,hA⟩:=h
 obtain ⟨A',hA',hat⟩:=zLf (s:=s) (sep:=fs) hl
 have hat:=hat 0
 have hpl:=zas hp
 refine ⟨A',hA',zh8.1 (zaO hs zFC rfl rfl ?_)⟩
 rw [zIR]
 unfold zsA
 have hll: ∀ X,X=zax (zed s fs).1→X.length=(zed s fs).1.length:=fun X e=>by rw [e,zbI]
 have hset:=fun x=>zae (H:=H) (i:=p) x hpl
 have hss: ∀ x y:Option (List AV),(H.set p x).set p y=H.set p y:=fun x y=>List.set_set ..
 generalize (zed s fs).2.1=q at *
 generalize (zed s fs).2.2=e at *
 by_cases h1:e=0
 ·subst h1
  by_cases h2:100<(zed s fs).1.length
  ·have h2I:(100:Int)<((zed s fs).1.length:Int):=by omega
   rcases hA' with rfl | ⟨hn,rfl⟩
   ·have hX:=hll _ rfl
    generalize zax (zed s fs).1=X at *
    simp [a167,zoQ,zoP,zoO,zoN,zoM,zoL,zoK,zoJ,zad hs,zaa hs,zab hs,zac hs,hat,hX,h2,h2I]
   ·rw [hn] at h2;simp at h2
  ·have h2I: ¬ (100:Int)<((zed s fs).1.length:Int):=by omega
   rcases hA' with rfl | ⟨hn,rfl⟩
   ·have hX:=hll _ rfl
    generalize zax (zed s fs).1=X at *
    simp [a167,zoQ,zoP,zoO,zoN,zoM,zoL,zoK,zoJ,zad hs,zaa hs,zab hs,zac hs,hat,hX,h2,h2I,hp,hset,hss]
   ·simp [a167,zoQ,zoP,zoO,zoN,zoM,zoL,zoK,zoJ,zad hs,zaa hs,zab hs,zac hs,hat,hn,hp,hset,hss]
 ·have h1I:((e:Int) != 0)=true:=by simp [bne];omega
  rcases hA' with rfl | ⟨hn,rfl⟩
  ·generalize zax (zed s fs).1=X at *
   simp [a167,zoQ,zoP,zoO,zoN,zoM,zoL,zoK,zoJ,zad hs,zaa hs,zab hs,zac hs,hat,h1,h1I]
  ·simp [a167,zoQ,zoP,zoO,zoN,zoM,zoL,zoK,zoJ,zad hs,zaa hs,zab hs,zac hs,hat,h1,h1I]
end
section
def zwf:AV:= .agg [.int .i64 0, .int .i64 0, .str []]
def zH0 (T:List UInt8) (L:List (List UInt8)) (i:Int):AV×Nat :=
 if i<0∨100<i then (zwf,90) else if i=0 then (zrw T,0) else match L[i.toNat-1]? with
  | some x=>(zrw x,0)
  | none=>(zwf,0)
theorem zHq {bar:Nat} {H:Heap} {p:Nat} {T:List UInt8} {L:List (List UInt8)} {A:AV} (h:Rc H p T L A) (hT:T.length≤1000000) (hL: ∀ x∈L,x.length≤1000000) (hn:L.length≤1000) (i:Int) :
  Rn fsT SA.sp bar 170 [.ptr p 0, .int .i64 i] H=some (.ret (.tup [(zH0 T L i).1,num (zH0 T L i).2]),H):=by
 have hs:=SA.mono
 obtain ⟨hp,hA⟩:=h
 refine zcX hs zFA rfl rfl rfl ?_
 rw [zIP]
 unfold zH0
 by_cases h0:i<0
 ·rw [if_pos (.inl h0)]
  simp [a170,zk8,zk7,zk6,zk5,zk4,zk3,zk2,zk1,zwf,zad hs,zaa hs,zab hs,zac hs,h0,frz,zbd]
 by_cases h1:100<i
 ·rw [if_pos (.inr h1)]
  simp [a170,zk8,zk7,zk6,zk5,zk4,zk3,zk2,zk1,zwf,zad hs,zaa hs,zab hs,zac hs,h0,h1,frz,zbd]
 rw [if_neg (by omega)]
 by_cases h2:i=0
 ·subst h2
  have hi:=fun H bar=>zsq (bar:=bar) (H:=H) hT
  obtain ⟨k,m,hc⟩:=zf8 T
  rw [hc] at hi
  rw [if_pos rfl,hc]
  rcases hA with rfl | ⟨rfl,rfl⟩
  ·generalize zax L=X at *
   simp [a170,zk8,zk7,zk6,zk5,zk4,zk3,zk2,zk1,zad hs,zaa hs,zab hs,zac hs,hp,hi,frz,zbd]
  ·simp [a170,zk8,zk7,zk6,zk5,zk4,zk3,zk2,zk1,zad hs,zaa hs,zab hs,zac hs,hp,hi,frz,zbd]
 rw [if_neg h2]
 have h2b:(i==0)=false:=by simpa using h2
 obtain ⟨n,rfl⟩: ∃ n:Nat,i=(n:Int)+1:=⟨(i-1).toNat,by omega⟩
 have ht:((n:Int)+1).toNat-1=n:=by omega
 rw [ht]
 have hw:IntKind.i64.wrap (n:Int)=(n:Int):=zal _ (by omega)
 cases hx:L[n]? with
 | none =>
  have hlen:=List.getElem?_eq_none_iff.1 hx
  have hI:(L.length:Int)<(n:Int)+1:=by omega
  rcases hA with rfl | ⟨rfl,rfl⟩
  ·have hXl:=zbI L
   generalize zax L=X at *
   simp [a170,zk8,zk7,zk6,zk5,zk4,zk3,zk2,zk1,zwf,zad hs,zaa hs,zab hs,zac hs,hp,h0,h1,h2b,hXl,hI,frz,zbd]
  ·have hI:(0:Int)<(n:Int)+1:=by omega
   simp [a170,zk8,zk7,zk6,zk5,zk4,zk3,zk2,zk1,zwf,zad hs,zaa hs,zab hs,zac hs,hp,h0,h1,h2b,hI,frz,zbd]
 | some x =>
  have hlt:=(List.getElem?_eq_some_iff.1 hx).1
  have hI: ¬ (L.length:Int)<(n:Int)+1:=by omega
  have hi:=fun H bar=>zsq (bar:=bar) (H:=H) (hL x (List.mem_of_getElem? hx))
  obtain ⟨k,m,hc⟩:=zf8 x
  rw [hc] at hi
  simp only [hc]
  rcases hA with rfl | ⟨rfl,rfl⟩
  ·have hXl:=zbI L
   have hg:=zi2 hx
   generalize zax L=X at *
   simp [a170,zk8,zk7,zk6,zk5,zk4,zk3,zk2,zk1,zad hs,zaa hs,zab hs,zac hs,hp,h0,h1,h2b,hXl,hI,hw,hg,hi,frz,zbd]
  ·cases hx
theorem zv0 {H:Heap} {p:Nat} {T:List UInt8} {L:List (List UInt8)} {A:AV} (h:Rc H p T L A) {n:Nat} (hn:n≤1000000) :
  Rn fsT SA.sp 0 187 [.ptr p 0,num n] H=some (.ret (.slc .own (zax (znw L n))),H):=by
 obtain ⟨hp,hA⟩:=h
 rw [zAI]
 have h1:(decide ((0:Int)≤(n:Int))&&decide ((n:Int)≤1000000))=true:=by simp;omega
 have h2:((n:Int)).toNat=n:=by omega
 rw [←zdl] at hp
 rcases hA with rfl | ⟨rfl,rfl⟩
 ·have:=zgU L
  have ht:zeG (zax L)=some L:=this
  simp only [zhS,h1,cond_true,hp,List.getElem?_cons_succ,List.getElem?_cons_zero,Nat.zero_add,ht,h2]
  rfl
 ·simp only [zhS,h1,cond_true,hp,List.getElem?_cons_succ,List.getElem?_cons_zero,Nat.zero_add,h2]
  rfl
theorem zAM {bar:Nat} {H:Heap} {l:List (List UInt8)} {t:List UInt8} (h1:l.length≤1000000) (h2:(Lib.join l t).length≤1000000000) :
  Rn fsT SA.sp bar 194 [.slc .ro (zax l), .str t] H=some (.ret (.str (Lib.join l t)),H):=by
 have hs:=SA.mono
 have hj: ∀ H,Rn fsT SA.sp 0 202 [.slc .ro (zax l), .str t] H=some (.ret (.str (Lib.join l t)),H):=fun H=>by
  rw [zHj]
  have e1:Nat.ble l.length 1000000=true:=Nat.ble_eq_true_of_le h1
  have e2:Nat.ble (Lib.join l t).length 1000000000=true:=Nat.ble_eq_true_of_le h2
  have ht:zeG (zax l)=some l:=zgU l
  simp only [zqK,ht,e1,e2,Bool.and_self,cond_true]
 have hclo:zdv [AV.slc .ro (zax l),AV.str t]=true:=by
  have:=zrp l
  simp only [zdv,clo,this];rfl
 refine zao hs zFu rfl hclo rfl ?_
 rw [zIJ]
 generalize zax l=X at *
 simp [a194,zDS,zDR,zad hs,zaa hs,hj,frz,zbd]
theorem zBH {H:Heap} {p:Nat} {T:List UInt8} {L:List (List UInt8)} {A:AV} (h:Rc H p T L A) {l:List (List UInt8)} {t:List UInt8} (h1:l.length≤1000000) (h2:(Lib.join l t).length≤1000000000) :
  Rn fsT SA.sp 0 188 [.ptr p 0, .slc .ro (zax l), .str t] H=some (.ret (num (if 65536<(Lib.join l t).length then 2 else 0)),if 65536<(Lib.join l t).length then H else H.set p (some [.str (Lib.join l t), .slc .ro (zax l)])):=by
 have hs:=SA.mono
 obtain ⟨hp,hA⟩:=h
 have hj:=fun H=>zAM (bar:=0) (H:=H) h1 h2
 have hpl:=zas hp
 have hset:=fun x=>zae (H:=H) (i:=p) x hpl
 have hss: ∀ x y:Option (List AV),(H.set p x).set p y=H.set p y:=fun x y=>List.set_set ..
 refine zh8.1 (zaO hs zFv rfl rfl ?_)
 rw [zIK]
 generalize Lib.join l t=J at *
 generalize zax l=X at *
 by_cases hb:65536<J.length
 ·have hbI:(65536:Int)<(J.length:Int):=by omega
  simp [a188,zzq,zzp,zzo,zzn,zzm,zzl,zad hs,zaa hs,zac hs,hj,hb,hbI]
 ·have hbI: ¬ (65536:Int)<(J.length:Int):=by omega
  simp [a188,zzq,zzp,zzo,zzn,zzm,zzl,zad hs,zaa hs,zac hs,hj,hb,hbI,hp,hset,hss]
def zh9 (L:List (List UInt8)) (i:Nat) (s:List UInt8):List (List UInt8):=(znw L (max i L.length)).set (i-1) s
theorem zwR {H:Heap} {p:Nat} {T:List UInt8} {L:List (List UInt8)} {A:AV} (h:Rc H p T L A) (hn:L.length≤1000) {i:Nat} (h1:1≤i) (h2:i≤100) {s t:List UInt8} (hj:(Lib.join (zh9 L i s) t).length≤1000000000) :
  Rn fsT SA.sp 0 168 [.ptr p 0,num i, .str s, .str t] H=some (.ret (num (if 65536<(Lib.join (zh9 L i s) t).length then 2 else 0)),if 65536<(Lib.join (zh9 L i s) t).length then H else H.set p (some [.str (Lib.join (zh9 L i s) t), .slc .ro (zax (zh9 L i s))])):=by
 have hs:=SA.mono
 have hr:=zv0 h (n:=max i L.length) (by omega)
 have hjr:=zBH h (l:=zh9 L i s) (t:=t) (by simp [zh9,znw];omega) hj
 obtain ⟨hp,hA⟩:=h
 refine zh8.1 (zaO hs zyk rfl rfl ?_)
 rw [zDw]
 have hlt: ¬ (i:Int)<1:=by omega
 have hgt: ¬ (100:Int)<(i:Int):=by omega
 have hw:IntKind.i64.wrap ((i:Int)-1)=((i-1:Nat):Int):=by rw [zal _ (by omega)];omega
 have hset:zax (zh9 L i s)=(zax (znw L (max i L.length))).set (i-1) (.str s):=by
  unfold zh9 zax
  rw [List.map_set]
 have hlen:i-1<(zax (znw L (max i L.length))).length:=by rw [zbI];simp [znw];omega
 have hLX: ∀ X,X=zax L→X.length=L.length:=fun X e=>by rw [e,zbI]
 rw [hset] at hjr ⊢
 obtain ⟨N,hN⟩: ∃ N,N=max i L.length:=⟨_,rfl⟩
 rw [←hN] at hr hjr hlen ⊢
 obtain ⟨y,hy⟩: ∃ y,(znw L N)[i-1]? = some y:=⟨_,List.getElem?_eq_getElem (by rw [zbI] at hlen;exact hlen)⟩
 have hg:=zi2 hy
 generalize zax (znw L N)=X at *
 have htk:List.take X.length (X.set (i-1) (.str s))=X.set (i-1) (.str s):=List.take_of_length_le (by simp)
 generalize Lib.join (zh9 L i s) t=J at *
 generalize (if 65536<J.length then H else H.set p (some [.str J, .slc .ro (X.set (i-1) (.str s))]))=H2 at *
 generalize (if 65536<J.length then 2 else 0:Nat)=e at *
 rcases hA with rfl | ⟨rfl,rfl⟩
 ·have hY:=hLX _ rfl
  generalize zax L=Y at *
  by_cases hc:i<L.length
  ·rw [show N=L.length from by omega] at hr
   simp [a168,zoI,zoH,zoG,zoF,zoE,zoD,zad hs,zaa hs,zac hs,hp,hlt,hgt,hY,hc,hr,hw,hlen,hg,htk,hjr]
  ·rw [show N=i from by omega] at hr
   simp [a168,zoI,zoH,zoG,zoF,zoE,zoD,zad hs,zaa hs,zac hs,hp,hlt,hgt,hY,hc,hr,hw,hlen,hg,htk,hjr]
 ·rw [show N=i from by simpa using hN] at hr
  have hge: ¬ (i:Int)<0:=by omega
  simp [a168,zoI,zoH,zoG,zoF,zoE,zoD,zad hs,zaa hs,zac hs,hp,hlt,hgt,hge,hr,hw,hlen,hg,htk,hjr]
end
section
theorem zpJ {a b:List UInt8} (h:a.length+b.length≤4611686018427387904):zlP .add a b=some (.str (a++b)):=by
 have:Nat.ble (a.length+b.length) 4611686018427387904=true:=Nat.ble_eq_true_of_le h
 simp only [zlP,this,cond_true]
theorem zyc (l:List (List UInt8)) (x sep:List UInt8):Lib.join (l ++ [x]) sep=if l= [] then x else Lib.join l sep++sep++x:=by
 cases l with
 | nil=>simp [Lib.join_one]
 | cons y r =>
  rw [List.cons_append,Lib.join_cons,Lib.join_cons,if_neg (by simp)]
  simp [Lib.joinTail]
theorem zic {sep:List UInt8} {a b:Nat} (hb:sep.length≤b): ∀ (l:List (List UInt8)),(∀ x∈l,x.length≤a)→(Lib.joinTail sep l).length≤l.length*(a+b)
 | [],_=>by simp [Lib.joinTail]
 | y::r,h=>by
  have ih:=zic hb r fun x hx=>h x (List.mem_cons_of_mem _ hx)
  have hy:=h y List.mem_cons_self
  have e:Lib.joinTail sep (y::r)=sep++y++Lib.joinTail sep r:=by simp [Lib.joinTail]
  rw [e,List.length_append,List.length_append,List.length_cons,Nat.add_mul]
  omega
theorem zoa {sep:List UInt8} {a b:Nat} (hb:sep.length≤b) {l:List (List UInt8)} (h: ∀ x∈l,x.length≤a):(Lib.join l sep).length≤l.length*(a+b):=by
 cases l with
 | nil=>simp [Lib.join_nil]
 | cons y r =>
  have ih:=zic hb r fun x hx=>h x (List.mem_cons_of_mem _ hx)
  have hy:=h y List.mem_cons_self
  rw [Lib.join_cons,List.length_append,List.length_cons,Nat.add_mul]
  omega
theorem zER {l:List (List UInt8)} {i a:Nat} (h: ∀ x∈l,x.length≤a): ∀ x∈l.take i,x.length≤a:=fun x hx=>h x (List.mem_of_mem_take hx)
theorem zvZ {bar:Nat} {H:Heap} {L:List (List UInt8)} {sep:List UInt8} (hl:L.length≤1000000) (hL: ∀ x∈L,x.length≤1000000) (hsep:sep.length≤1000000): ∀ (m i:Nat) (v:Nat→AV),i+m=L.length→v 0= .slc .ro (zax L)→v 1= .str sep→v 5= .str (Lib.join (L.take i) sep)→v 6=num i →
  Wp (evI fsT SA.sp bar (.loop a171l8) (mkE 17523 v,H)) (fun e t=>e= .exit 0∧ ∃ v',t=(mkE 17523 v',H)∧v' 5= .str (Lib.join L sep)):=by
 have hs:=SA.mono
 intro m
 induction m with
 | zero =>
  intro i v hi v0 v1 v5 v6
  have hi':i=L.length:=by omega
  subst hi'
  rw [List.take_length] at v5
  have hXl:=zbI L
  generalize zax L=X at *
  rw [zaj hs a171l8.eq_1]
  simp [zad hs,zaa hs,zab hs,zac hs,zvn,zvm,zvl,zvk,zvj,v0,v6,hXl]
  exact ⟨_,rfl,by simp [v5]⟩
 | succ m ih =>
  intro i v hi v0 v1 v5 v6
  have hil:i<L.length:=by omega
  have hI:(i:Int)<(L.length:Int):=by omega
  obtain ⟨x,hx⟩: ∃ x,L[i]? = some x:=⟨_,List.getElem?_eq_getElem hil⟩
  have hg:=zi2 hx
  have htk:L.take (i+1)=L.take i ++ [x]:=by rw [List.take_add_one,hx];rfl
  have hw1:IntKind.i64.wrap ((i:Int)+1)=((i+1:Nat):Int):=zal _ (by omega)
  have hb1:=zoa hsep (zER (i:=i) hL)
  have hb2:=hL x (List.mem_of_getElem? hx)
  have hti:(L.take i).length≤1000000:=by simp;omega
  have hb3:(Lib.join (L.take i) sep).length≤1000000*2000000:=Nat.le_trans hb1 (Nat.mul_le_mul hti (Nat.le_refl _))
  have hnext:=zyc (L.take i) x sep
  rw [←htk] at hnext
  have next:=fun w=>ih (i+1) w (by omega)
  rw [hnext] at next
  have hXl:=zbI L
  generalize zax L=X at *
  have hiX:i<X.length:=by omega
  rw [zaj hs a171l8.eq_1]
  by_cases h0:i=0
  ·subst h0
   have hw01:IntKind.i64.wrap 1=1:=rfl
   have hc1:=zpJ (a:= []) (b:=x) (by simp;omega)
   rw [List.take_zero,Lib.join_nil] at v5
   rw [if_pos (by simp)] at next
   rw [List.nil_append] at hc1
   simp [zad hs,zaa hs,zab hs,zac hs,zvn,zvm,zvl,zvk,zvj,v0,v1,v5,v6,hXl,hil,hg,hc1,hw01]
   refine (next _ ?_ ?_ ?_ ?_).mono fun e t h=>by simpa using h
   all_goals simp [v0,v1]
  ·have hgt:(0:Int)<(i:Int):=by omega
   have hgt2:0<i:=by omega
   have hc1:=zpJ (a:=Lib.join (L.take i) sep) (b:=sep) (by omega)
   have hc2:=zpJ (a:=Lib.join (L.take i) sep++sep) (b:=x) (by rw [List.length_append];omega)
   have hne: ¬ L.take i= []:=fun e=>by
    have h2:=congrArg List.length e
    rw [List.length_take,List.length_nil] at h2
    omega
   rw [if_neg hne] at next
   generalize Lib.join (L.take i) sep=J at *
   simp [zad hs,zaa hs,zab hs,zac hs,zvn,zvm,zvl,zvk,zvj,v0,v1,v5,v6,hXl,hI,hil,hgt,hgt2,hg,hc1,hc2,hw1]
   refine (next _ ?_ ?_ ?_ ?_).mono fun e t h=>by simpa using h
   all_goals simp [v0,v1]
theorem zxq {bar:Nat} {H:Heap} {L:List (List UInt8)} {sep:List UInt8} (hl:L.length≤1000000) (hL: ∀ x∈L,x.length≤1000000) (hsep:sep.length≤1000000) :
  Rn fsT SA.sp bar 171 [.slc .ro (zax L), .str sep] H=some (.ret (.str (Lib.join L sep)),H):=by
 have hs:=SA.mono
 have hclo:zdv [AV.slc .ro (zax L),AV.str sep]=true:=by
  have:=zrp L
  simp only [zdv,clo,this];rfl
 have hloop:=fun v=>zvZ (bar:=0) (H:= []) hl hL hsep L.length 0 v (by omega)
 refine zao hs zFz rfl hclo rfl ?_
 rw [zIO]
 generalize zax L=X at *
 simp [zD0,zDZ,zDY,a171,zad hs,zaa hs,zab hs]
 refine (hloop _ ?_ ?_ ?_ ?_).mono fun e t h=> ?_
 ·simp
 ·simp
 ·simp [Lib.join_nil]
 ·simp
 obtain ⟨rfl,v',rfl,k5⟩:=h
 simp [zDX,zad hs,zaa hs,k5,frz,zbd]
theorem zsF: ∀ (l:List (Nat×Nat)) (s:List UInt8) (a:Nat) (x:List UInt8),x∈zeb s a l→x.length≤s.length:=fun l s=>by
 induction l with
 | nil=>intro a x hx;simp [zeb] at hx;subst hx;simp
 | cons y l ih =>
  obtain ⟨f,t⟩:=y
  intro a x hx
  rw [zeb] at hx
  split at hx
  ·rcases List.mem_cons.1 hx with rfl | hx
   ·simp;omega
   ·exact ih t x hx
  ·exact ih a x hx
theorem zmd (c:UInt8): ∀ (s x:List UInt8),x∈zcu c s→x.length≤s.length
 | [],x,hx=>by simp [zcu] at hx;subst hx;simp
 | b::l,x,hx=>by
  have ih:=zmd c l
  unfold zcu at hx
  split at hx
  ·rcases List.mem_cons.1 hx with rfl | hx
   ·simp
   ·have:=ih x hx;simp;omega
  ·cases hp:zcu c l with
   | nil=>exact absurd hp (zxB c l)
   | cons y r =>
    rw [hp] at hx ih
    rcases List.mem_cons.1 hx with rfl | hx
    ·have:=ih y List.mem_cons_self;simp;omega
    ·have:=ih x (List.mem_cons_of_mem _ hx);simp;omega
theorem zv8 {s sep x:List UInt8} (h:x∈(zed s sep).1):x.length≤s.length:=by
 unfold zed at h
 split at h
 ·simp only [zep] at h
  obtain ⟨y,_,rfl⟩:=List.mem_map.1 h
  simp;omega
 ·split at h
  ·exact ztz h
  ·split at h
   ·cases hn:zwW sep with
    | er p w=>rw [hn] at h;cases h
    | ok r j =>
     rw [hn] at h
     simp only at h
     split at h
     ·cases h
     ·exact zsF _ _ _ _ h
   ·cases sep with
    | nil=>cases h
    | cons c l =>
     simp only at h
     split at h
     ·cases h
     ·exact zmd c s x h
theorem zxH {l:List (List UInt8)} {n a:Nat} (h: ∀ x∈l,x.length≤a): ∀ x∈znw l n,x.length≤a:=fun x hx=>by
 unfold znw at hx
 rcases List.mem_append.1 hx with hx | hx
 ·exact h x (List.mem_of_mem_take hx)
 ·rw [List.eq_of_mem_replicate hx];simp
theorem zxl {l:List (List UInt8)} {i a:Nat} {s:List UInt8} (h: ∀ x∈l,x.length≤a) (hs:s.length≤a): ∀ x∈zh9 l i s,x.length≤a:=fun x hx=>by
 unfold zh9 at hx
 rcases List.mem_or_eq_of_mem_set hx with hx | rfl
 ·exact zxH h x hx
 ·exact hs
theorem zuy {l:List (List UInt8)} {i:Nat} {s:List UInt8}:(zh9 l i s).length=max i l.length:=by
 simp [zh9,znw];omega
theorem zA9 {l:List (List UInt8)} {i:Nat} {s:List UInt8} (h:1≤i):(zh9 l i s)[i-1]? = some s:=by
 unfold zh9
 rw [List.getElem?_set_self]
 simp [znw];omega
end
section
theorem zn4 (s:List UInt8): ∃ b:Bool,∀ (bar:Nat) (H:Heap),Rn fsT SA.sp bar 160 [.str s] H=some (.ret (.bool b),H):=by
 have hs:=SA.mono
 obtain ⟨b,hb⟩:=zx7 s
 have hb0:=hb 0
 by_cases h:s.length<2
 ·refine ⟨true,fun bar H=> ?_⟩
  refine zao hs zyl rfl rfl rfl ?_
  rw [zDx]
  have hI:(s.length:Int)<2:=by omega
  simp [a160,zzz,zzy,zad hs,zaa hs,hI,frz,zbd]
 ·refine ⟨b,fun bar H=> ?_⟩
  refine zao hs zyl rfl rfl rfl ?_
  rw [zDx]
  have hI: ¬ (s.length:Int)<2:=by omega
  simp [a160,zzz,zzy,zad hs,zaa hs,hI,hb0,frz,zbd]
def zHv (k i:Int) (s sep:List UInt8):AV:= .agg [.int .i64 k, .int .i64 i, .str s, .str sep]
theorem zxk (k i:Int) (s sep:List UInt8): ∃ b:Bool,(b=true→s.length≤30∧sep.length≤30)∧ ∀ (bar:Nat) (H:Heap),Rn fsT SA.sp bar 166 [zHv k i s sep] H=some (.ret (.bool b),H):=by
 have hs:=SA.mono
 obtain ⟨b,hb⟩:=zn4 sep
 have hb:=hb 0
 by_cases h1:s.length≤30
 ·have h1I:(s.length:Int)≤30:=by omega
  by_cases h2:sep.length≤30
  ·have h2I:(sep.length:Int)≤30:=by omega
   refine ⟨b,fun _=>⟨h1,h2⟩,fun bar H=> ?_⟩
   refine zao hs ztn rfl rfl rfl ?_
   rw [zyB]
   simp [a166,zvp,zvo,zHv,zad hs,zaa hs,h1,h1I,h2,h2I,hb,frz,zbd]
  ·have h2I: ¬ (sep.length:Int)≤30:=by omega
   refine ⟨false,(fun h=>by cases h),fun bar H=> ?_⟩
   refine zao hs ztn rfl rfl rfl ?_
   rw [zyB]
   simp [a166,zvp,zvo,zHv,zad hs,zaa hs,h1,h1I,h2,h2I,frz,zbd]
 ·have h1I: ¬ (s.length:Int)≤30:=by omega
  refine ⟨false,(fun h=>by cases h),fun bar H=> ?_⟩
  refine zao hs ztn rfl rfl rfl ?_
  rw [zyB]
  simp [a166,zvp,zvo,zHv,zad hs,zaa hs,h1,h1I,frz,zbd]
theorem zwS {bar:Nat} {H:Heap} {p:Nat} {i:Int} (h:i<1∨100<i) {s t:List UInt8}:Rn fsT SA.sp bar 168 [.ptr p 0, .int .i64 i, .str s, .str t] H=some (.ret (num 90),H):=by
 have hs:=SA.mono
 refine zh8.1 (zaO hs zyk rfl rfl ?_)
 rw [zDw]
 by_cases h1:i<1
 ·simp [a168,zoI,zoH,zoG,zoF,zoE,zoD,zad hs,zaa hs,zac hs,h1]
 ·have h2:100<i:=by omega
  simp [a168,zoI,zoH,zoG,zoF,zoE,zoD,zad hs,zaa hs,zac hs,h1,h2]
def zDd (L:List (List UInt8)) (v:Nat→AV) (H:Heap) (e:AExit) (t:EH):Prop:=e= .exit 0∧ ∃ v',t=(mkE 1181745668122461868007 v',H)∧v' 5=v 5∧v' 7=v 7∧v' 8= .slc .own (zax L)
theorem ztm {H:Heap} {p:Nat} {T:List UInt8} {L:List (List UInt8)} {A:AV} (h:Rc H p T L A) (hT:T.length≤1000000) (hL: ∀ x∈L,x.length≤1000000) (hn:L.length≤100): ∀ (m i:Nat) (v:Nat→AV),i+m=L.length→v 7= .ptr p 0→v 8= .slc .own (zax (L.take i))→v 9=num (i+1) →
  Wp (evI fsT SA.sp 0 (.loop a164l14) (mkE 1181745668122461868007 v,H)) (zDd L v H):=by
 have hs:=SA.mono
 have hmany:=zu0 (bar:=0) h
 intro m
 induction m with
 | zero =>
  intro i v hi v7 v8 v9
  have hi':i=L.length:=by omega
  subst hi'
  rw [List.take_length] at v8
  have hgt: ¬ (L.length:Int)+1≤(L.length:Int):=by omega
  rw [zaj hs a164l14.eq_1]
  simp [zad hs,zaa hs,zab hs,zac hs,zvr,zvq,zqf,zqe,zqd,zqc,v7,v9,hmany,hgt]
  exact ⟨rfl,_,rfl,by simp,by simp,by simp [v8]⟩
 | succ m ih =>
  intro i v hi v7 v8 v9
  have hil:i<L.length:=by omega
  obtain ⟨x,hx⟩: ∃ x,L[i]? = some x:=⟨_,List.getElem?_eq_getElem hil⟩
  have hle:(i:Int)+1≤(L.length:Int):=by omega
  have hle2:(i:Int)+1≤100:=by omega
  have hgetr:Rn fsT SA.sp 0 170 [.ptr p 0,num (i+1)] H=_:=zHq (bar:=0) h hT hL (by omega) ((i+1:Nat):Int)
  have hga:zH0 T L ((i+1:Nat):Int)=(zrw x,0):=by
   unfold zH0
   rw [if_neg (by omega),if_neg (by omega),show (((i+1:Nat):Int)).toNat-1=i by omega,hx]
  rw [hga] at hgetr
  obtain ⟨k,n,hc⟩:=zf8 x
  simp only [hc] at hgetr
  have hok:=zji (L.take i)
  have hlen:(zax (L.take i)).length+1≤4294967296:=by rw [zbI];simp;omega
  have hw1:IntKind.i64.wrap ((i:Int)+1+1)=((i+1+1:Nat):Int):=zal _ (by omega)
  have htk:L.take (i+1)=L.take i ++ [x]:=by rw [List.take_add_one,hx];rfl
  have next:=fun w=>ih (i+1) w (by omega)
  rw [htk,zqG] at next
  have h1:zax [x]= [.str x]:=rfl
  rw [h1] at next
  have turn: ∀ (w:Nat→AV) e t,w 5=v 5→w 7=v 7→zDd L w H e t→zDd L v H e t:=fun w e t w5 w7 ⟨h1,v',h2,h3,h4,h5⟩=>⟨h1,v',h2,h3.trans w5,h4.trans w7,h5⟩
  generalize zax (L.take i)=Y at *
  rw [zaj hs a164l14.eq_1]
  simp [zad hs,zaa hs,zab hs,zac hs,zvr,zvq,zqf,zqe,zqd,zqc,v7,v8,v9,hmany,hle,hle2,hgetr,hw1,zbw,hok,hlen]
  refine (next _ ?_ ?_ ?_).mono fun e t h=>turn _ e t ?_ ?_ h
  all_goals simp [v7]
theorem zll (s fs:List UInt8) (k i:Int) (ax sep:List UInt8):Wc (Rn fsT SA.sp 0 164 [.str s, .str fs,zHv k i ax sep] []) (fun o _=>o= .ret (.bool true)):=by
 have hs:=SA.mono
 have hlives:=fun H=>zFj 0 H
 have hnew:=zwg (bar:=0) (H:= []) (Nat.zero_le _)
 simp only [List.length_nil,List.nil_append] at hnew
 obtain ⟨lt,hlt⟩:=zn4 fs
 have hlt:=hlt 0
 obtain ⟨sm,hsm,hsmr⟩:=zxk k i ax sep
 have hsmr:=hsmr 0
 unfold zHv at *
 refine zaO hs zFE rfl rfl ?_
 rw [zIT]
 by_cases h30:30<s.length
 ·have h30':(30:Int)<(s.length:Int):=by omega
  simp [zlc,zlb,zla,zk9,a164,zad hs,zaa hs,zac hs,hnew,h30',hlives]
 have h30': ¬ (30:Int)<(s.length:Int):=by omega
 cases lt with
 | false=>simp [zlc,zlb,zla,zk9,a164,zad hs,zaa hs,zac hs,hnew,h30',hlt,hlives]
 | true =>
 cases sm with
 | false=>simp [zlc,zlb,zla,zk9,a164,zad hs,zaa hs,zac hs,hnew,h30',hlt,hsmr,hlives]
 | true =>
 obtain ⟨ha1,ha2⟩:=hsm rfl
 have hrc0:Rc [some [.str [], .nils]] 0 [] [] .nils:=⟨rfl, .inr ⟨rfl,rfl⟩⟩
 obtain ⟨A,hA,htake⟩:=zC7 hrc0 (s:=s) (fs:=fs) (by omega)
 by_cases hte:zsA s fs=0
 ·have hL: ∀ x∈(zed s fs).1,x.length≤30:=fun x hx=>Nat.le_trans (zv8 hx) (by omega)
  have hlen:(zed s fs).1.length≤100:=by
   unfold zsA at hte
   split at hte
   ·rename_i h;exact absurd hte h
   ·split at hte
    ·cases hte
    ·omega
  rw [if_pos hte,hte] at htake
  have hrc1:Rc [some [.str s,A]] 0 s (zed s fs).1 A:=⟨rfl,hA⟩
  generalize (zed s fs).1=L0 at *
  simp only [List.set_cons_zero] at htake
  by_cases hi:i<1∨100<i
  ·have hbad:=zwS (bar:=0) (H:= [some [.str s,A]]) (p:=0) hi (s:=ax) (t:=sep)
   simp [zlc,zlb,zla,zk9,zr2,zr1,a164,zad hs,zaa hs,zac hs,hnew,h30',hlt,hsmr,htake,hbad,hlives]
  ·obtain ⟨n,rfl⟩: ∃ n:Nat,i=n:=⟨i.toNat,by omega⟩
   have hn1:1≤n:=by omega
   have hn2:n≤100:=by omega
   have hL2: ∀ x∈zh9 L0 n ax,x.length≤30:=zxl hL ha1
   have hl2:(zh9 L0 n ax).length≤100:=by rw [zuy];omega
   have hJ:=zoa ha2 hL2
   have hJ2:(Lib.join (zh9 L0 n ax) sep).length≤100*(30+30):=Nat.le_trans hJ (Nat.mul_le_mul hl2 (Nat.le_refl _))
   have hset:=zwR hrc1 (by omega) hn1 hn2 (s:=ax) (t:=sep) (by omega)
   have hnb: ¬ 65536<(Lib.join (zh9 L0 n ax) sep).length:=by omega
   rw [if_neg hnb,if_neg hnb] at hset
   simp only [List.set_cons_zero] at hset
   have hrc2:Rc [some [.str (Lib.join (zh9 L0 n ax) sep), .slc .ro (zax (zh9 L0 n ax))]] 0 (Lib.join (zh9 L0 n ax) sep) (zh9 L0 n ax) (.slc .ro (zax (zh9 L0 n ax))):=⟨rfl, .inl rfl⟩
   have hloop:=fun v=>ztm hrc2 (by omega) (fun x hx=>Nat.le_trans (hL2 x hx) (by omega)) hl2 (zh9 L0 n ax).length 0 v (by omega)
   have hmany:=zu0 (bar:=0) hrc2
   have htext:=zAV (bar:=0) hrc2
   have hrj:=fun H=>zxq (bar:=0) (H:=H) (L:=zh9 L0 n ax) (sep:=sep) (by omega) (fun x hx=>Nat.le_trans (hL2 x hx) (by omega)) (by omega)
   have hgx:=zi2 (zA9 (l:=L0) (i:=n) (s:=ax) hn1)
   have hXl:=zbI (zh9 L0 n ax)
   have hw:IntKind.i64.wrap ((n:Int)-1)=((n-1:Nat):Int):=by rw [zal _ (by omega)];omega
   have hxn:n-1<(zax (zh9 L0 n ax)).length:=by rw [hXl,zuy];omega
   generalize Lib.join (zh9 L0 n ax) sep=J at *
   unfold zDd at hloop
   generalize zax (zh9 L0 n ax)=X at *
   generalize hLn:(zh9 L0 n ax).length=N at *
   have hxN:n-1<N:=by omega
   have htk:List.take N X=X:=List.take_of_length_le (by omega)
   simp [zlc,zlb,zla,zk9,zr2,zr1,zzw,zzv,a164,zad hs,zaa hs,zab hs,zac hs,hnew,h30',hlt,hsmr,htake,hset]
   refine (hloop _ ?_ ?_ ?_).mono fun e t h=> ?_
   ·simp
   ·simp [zax]
   ·simp
   obtain ⟨rfl,v',rfl,k5,k7,k8⟩:=h
   simp at k5 k7
   simp [a164,zlc,zlb,zla,zk9,zr2,zr1,zzw,zzv,zvr,zvq,zqf,zqe,zqd,zqc,zzx,zad hs,zaa hs,zai hs,zac hs,k5,k7,k8,hXl,htk,hmany,htext,hrj,hgx,hw,hxn,hxN,zlP,zmA,hlives]
 ·rw [if_neg hte] at htake
  have hteI:((zsA s fs:Int) != 0)=true:=by simp [bne];omega
  generalize zsA s fs=te at *
  simp [zlc,zlb,zla,zk9,zr2,zr1,a164,zad hs,zaa hs,zac hs,hnew,h30',hlt,hsmr,htake,hteI,hlives]
end
end Go.Ak
