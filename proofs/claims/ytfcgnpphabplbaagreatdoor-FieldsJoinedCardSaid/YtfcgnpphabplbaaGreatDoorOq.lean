/- The document's sets, and its named classes. -/
import Derived.Test.YtfcgnpphabplbaaGreatDoorOp
set_option linter.unusedVariables false
set_option linter.unusedSimpArgs false
namespace Go.Ak
attribute [local simp] zcx zd7 zd8 zfV zbm zc2 zaG za9 za0 zba zbs zbK zbL zbg zcJ zdJ zdK zcB zcC
 zaN zcN wanted zbb opd zkt live zcD zde zbA zcA ziq put zes esc zqx ztJ args drop1 zg1 zuW zuV ztH zou rd wr zbE sub AV.cells pack one setCells zeH znX zc3 roOf zaL zfw zav zau zey zbw newRow newObj step zcF zbM contents take flat look lim zex bound zec zeu eqS eqL eqA ver
 zcI zdI zdH zcG zcH
 List.getElem?_cons_zero List.getElem?_cons_succ zdl zbp zaE zaF zcE
attribute [local simp] sR sT cV bL mvV mvL mgV mgL asL asI asB ldN ldV ldL ldG stV stL fdL fdV fdG fgL nlC nlG bnI bvI bnL bvL bxI bxU bgI bgL exT lnS lgS clA clB clC clI pkT pkF pvT pvF pgT pgF ixL axV bxV apL
attribute [-simp] getElem?_pos
section
def zaM (p:Nat→Bool):List AV:=(List.range 256).map fun i=> .bool (p i)
theorem zaR (p:Nat→Bool):(zaM p).length=256:=by simp [zaM]
theorem zmy (p:Nat→Bool) {i:Nat} (h:i<256):((zaM p).drop i).take 1= [.bool (p i)]:=by
 have hl:i<(zaM p).length:=by rw [zaR];exact h
 rw [List.drop_eq_getElem_cons hl]
 simp only [List.take_succ_cons,List.take_zero,List.cons.injEq,and_true]
 simp [zaM]
theorem zh5 (p:Nat→Bool) (i:Nat) (b:Bool):(zaM p).set i (.bool b)=zaM (fun x=>if x=i then b else p x):=by
 apply List.ext_getElem?
 intro j
 rw [List.getElem?_set]
 by_cases hj:j<256
 ·have hl: ∀ q:Nat→Bool,(zaM q)[j]? = some (.bool (q j)):=fun q=>by
   unfold zaM
   rw [List.getElem?_map,List.getElem?_range hj];rfl
  rw [hl,hl]
  by_cases e:i=j
  ·subst e;simp [zaR,hj]
  ·have: ¬ j=i:=fun h=>e h.symm
   simp [e,this]
 ·have h1: ∀ q:Nat→Bool,(zaM q)[j]? = none:=fun q=>List.getElem?_eq_none (by rw [zaR];omega)
  rw [h1,h1]
  by_cases e:i=j
  ·subst e;simp [zaR,hj]
  ·simp [e]
theorem zrz:List.replicate 256 (AV.bool false)=zaM noB:=by
 have h: ∀ n:Nat,List.replicate n (AV.bool false)=(List.range n).map fun i=> .bool (noB i):=fun n=>by
  induction n with
  | zero=>rfl
  | succ n ih=>rw [List.replicate_succ',ih,List.range_succ,List.map_append];rfl
 exact h 256
theorem zkV: ∀ (xs ys:List AV) (zs:List AV),xs.length=ys.length→setCells (zs++xs) zs.length ys=zs++ys
 | [],[],zs,_=>by simp [setCells]
 | [],_::_,_,h=>by simp at h
 | _::_,[],_,h=>by simp at h
 | x::xs,y::ys,zs,h=>by
  simp only [setCells]
  have e:(zs++x::xs).set zs.length y=(zs ++ [y])++xs:=by
   rw [List.set_append_right _ _ (Nat.le_refl _)];simp
  rw [e]
  have:=zkV xs ys (zs ++ [y]) (by simpa using h)
  simp only [List.length_append,List.length_cons,List.length_nil,Nat.zero_add] at this
  rw [this];simp
theorem zkF (p q:Nat→Bool):setCells (zaM p) 0 (zaM q)=zaM q:=by
 have:=zkV (zaM p) (zaM q) [] (by rw [zaR,zaR])
 simpa using this
theorem zeO (p:Nat→Bool):List.take 256 (zaM p)=zaM p:=List.take_of_length_le (by rw [zaR];omega)
def words (p:Nat→Bool) (n q:Nat):Nat:=zaB p q 64 >>> (n-64*q)
def zeq (p:Nat→Bool) (n:Nat):List AV:= [u64 (words p n 0),u64 (words p n 1),u64 (words p n 2),u64 (words p n 3)]
theorem zfv (p:Nat→Bool) (n:Nat):(zeq p n).length=4:=rfl
theorem zw0 (p:Nat→Bool) (n:Nat) {q:Nat} (h:q<4):((zeq p n).drop q).take 1= [u64 (words p n q)]:=by
 rcases q with _ | _ | _ | _ | q
 ·rfl
 ·rfl
 ·rfl
 ·rfl
 ·omega
theorem zeB {p:Nat→Bool} {n q:Nat} (h:64*(q+1)≤n):words p n q=0:=by
 unfold words
 rw [Nat.shiftRight_eq_div_pow]
 refine Nat.div_eq_of_lt (Nat.lt_of_lt_of_le (zev p q 64) (Nat.pow_le_pow_right (by omega) (by omega)))
theorem zsu {p:Nat→Bool} {n q:Nat} (h:q≠n/64):words p (n+1) q=words p n q:=by
 by_cases h1:q<n/64
 ·rw [zeB (by omega),zeB (by omega)]
 ·unfold words
  rw [show n+1-64*q=0 by omega,show n-64*q=0 by omega]
theorem znL (p:Nat→Bool) (n:Nat):words p n (n/64)=words p (n+1) (n/64)*2+(bif p n then 1 else 0):=by
 unfold words
 have e1:n-64*(n/64)=n%64:=by omega
 have e2:n+1-64*(n/64)=n%64+1:=by omega
 rw [e1,e2,Nat.shiftRight_succ]
 have hb:Nat.testBit (zaB p (n/64) 64) (n%64)=p n:=by
  rw [zaW]
  have h1:n%64<64:=Nat.mod_lt _ (by omega)
  have h2:64*(n/64)+n%64=n:=Nat.div_add_mod _ _
  simp [h1,h2]
 have hm:(zaB p (n/64) 64 >>> (n%64))%2=(bif p n then 1 else 0):=by
  rw [←hb,Nat.testBit,Nat.and_comm]
  have:=Nat.and_one_is_mod (zaB p (n/64) 64 >>> (n%64))
  rw [this]
  rcases Nat.mod_two_eq_zero_or_one (zaB p (n/64) 64 >>> (n%64)) with h | h<;>simp [h]
 omega
theorem zvF (p:Nat→Bool) {n:Nat} (hn:n<256):(zeq p (n+1)).set (n/64) (u64 (words p n (n/64)))=zeq p n:=by
 have hq:n/64<4:=by omega
 apply List.ext_getElem?
 intro j
 rw [List.getElem?_set]
 by_cases hj:j<4
 ·have hl: ∀ m,(zeq p m)[j]? = some (u64 (words p m j)):=fun m=>by
   rcases j with _ | _ | _ | _ | j
   ·rfl
   ·rfl
   ·rfl
   ·rfl
   ·omega
  rw [hl,hl]
  by_cases e:n/64=j
  ·subst e;simp [zfv,hq]
  ·rw [if_neg e,zsu (fun h=>e h.symm)]
 ·have h1: ∀ m,(zeq p m)[j]? = none:=fun m=>List.getElem?_eq_none (by rw [zfv];omega)
  rw [h1,h1]
  have e: ¬ n/64=j:=by omega
  simp [e]
theorem zvG (p:Nat→Bool):zeq p 256= [.int .u64 0, .int .u64 0, .int .u64 0, .int .u64 0]:=by
 unfold zeq
 rw [zeB (by omega),zeB (by omega),zeB (by omega),zeB (by omega)]
 rfl
theorem zAR (p:Nat→Bool):zeq p 0=zbG p:=by
 unfold zeq words
 simp only [Nat.zero_sub,Nat.shiftRight_zero]
 rfl
theorem zvE (p:Nat→Bool) {n:Nat} (hn:n<256):words p (n+1) (n/64)<2^63:=by
 have h:=znL p n
 have h1:words p n (n/64)<2^64:=by
  unfold words
  rw [Nat.shiftRight_eq_div_pow]
  exact Nat.lt_of_le_of_lt (Nat.div_le_self _ _) (zev _ _ _)
 have h2:2^64=2^63*2:=by decide
 omega
theorem zA6 {bar:Nat} {H:Heap} (p:Nat→Bool): ∀ (n:Nat) (v:Nat→AV),n≤256→v 1= .box (zaM p)→v 3= .box (zeq p n)→v 4= .int .i64 ((n:Int)-1) →
  Wp (evI fsT SA.sp bar (.loop a122l8) (mkE 1048735 v,H)) (fun e t=>e= .exit 0∧ ∃ v',t=(mkE 1048735 v',H)∧v' 3= .box (zbG p)∧v' 2=v 2):=by
 have hs:=SA.mono
 intro n
 induction n with
 | zero =>
  intro v hn v1 v3 v4
  rw [zaj hs a122l8.eq_1]
  simp [zad hs,zaa hs,zab hs,zac hs,zvy,v4]
  exact ⟨_,rfl,by simp [v3,zAR],by simp⟩
 | succ n ih =>
  intro v hn v1 v3 v4
  have v4':v 4=num n:=by rw [v4];simp
  have hq2:IntKind.i64.wrap ((n:Int)/64)=(n:Int)/64:=zal _ (by omega)
  have hq0:0≤(n:Int)/64:=by omega
  have hqt:((n:Int)/64).toNat=n/64:=by omega
  have hq4:n/64<4:=by omega
  have hq5:n/64+1≤4:=by omega
  have hn2:n<256:=hn
  have hn3:n+1≤256:=hn
  have hat:=zw0 p (n+1) hq4
  have hb:=zmy p hn2
  have hhalf:=zvE p hn2
  have hthis:=znL p n
  have hset:=zvF p hn2
  have hw2:IntKind.u64.wrap ((words p (n+1) (n/64):Int)*2)=((words p (n+1) (n/64)*2:Nat):Int):=by
   have:(words p (n+1) (n/64):Int)*2=((words p (n+1) (n/64)*2:Nat):Int):=by simp
   rw [this];exact zqC (by have h0:2^64=2^63*2:=(by decide);omega)
  have hwm:IntKind.i64.wrap ((n:Int)-1)=(n:Int)-1:=zal _ (by omega)
  have next: ∀ w:Nat→AV,w 1= .box (zaM p)→w 3= .box (zeq p n)→w 4= .int .i64 ((n:Int)-1)→w 2=v 2 →
    Wp (evI fsT SA.sp bar (.loop a122l8) (mkE 1048735 w,H)) (fun e t=>e= .exit 0∧ ∃ v',t=(mkE 1048735 v',H)∧v' 3= .box (zbG p)∧v' 2=v 2):=fun w w1 w3 w4 w2=>by
   rw [←w2];exact ih w (by omega) w1 w3 w4
  have hat2: ∀ X,(((zeq p (n+1)).set (n/64) X).drop (n/64)).take 1= [X]:=fun X=>by
   have hl:n/64<((zeq p (n+1)).set (n/64) X).length:=by simp [zfv,hq4]
   rw [List.drop_eq_getElem_cons hl];simp
  rw [zaj hs a122l8.eq_1]
  cases hp:p n with
  | true =>
   rw [hp] at hb hthis
   simp only [cond_true] at hthis
   have hw3:IntKind.u64.wrap (((words p (n+1) (n/64)*2:Nat):Int)+1)=((words p n (n/64):Nat):Int):=by
    have:((words p (n+1) (n/64)*2:Nat):Int)+1=((words p n (n/64):Nat):Int):=by rw [hthis];simp
    rw [this];exact zqC (by have h0:2^64=2^63*2:=(by decide);omega)
   have hw3':IntKind.u64.wrap ((words p (n+1) (n/64):Int)*2+1)=((words p n (n/64):Nat):Int):=by
    rw [←hw3];simp
   simp [zad hs,zaa hs,zab hs,zac hs,zvy,zzT,zzS,zzR,zzQ,v1,v3,v4',hq2,hq0,hqt,hq4,hq5,hn2,hn3,hat,hat2,hb,hw2,hw3,hw3',hwm,zfv,zaR,hset]
   refine next _ ?_ ?_ ?_ ?_
   all_goals simp [v1]
  | false =>
   rw [hp] at hb hthis
   simp only [cond_false,Nat.add_zero] at hthis
   have hset':(zeq p (n+1)).set (n/64) (u64 (words p (n+1) (n/64)*2))=zeq p n:=by rw [←hthis];exact hset
   simp [zad hs,zaa hs,zab hs,zac hs,zvy,zzT,zzS,zzR,zzQ,v1,v3,v4',hq2,hq0,hqt,hq4,hq5,hn2,hn3,hat,hb,hw2,hwm,zfv,zaR]
   refine next _ ?_ ?_ ?_ ?_
   ·simp [v1]
   ·have:(.int .u64 ((words p (n+1) (n/64):Int)*2):AV)=u64 (words p (n+1) (n/64)*2):=by simp
    simp [this,hset']
   ·simp
   ·simp
theorem zAH {bar:Nat} {H:Heap} (p:Nat→Bool):Rn fsT SA.sp bar 122 [.agg (zaM p)] H=some (.ret (ze4 p),H):=by
 have hs:=SA.mono
 have hc:zdv [AV.agg (zaM p)]=true:=by
  have: ∀ l:List Nat,zdv (l.map fun i=>AV.bool (p i))=true:=fun l=>by
   induction l with
   | nil=>rfl
   | cons x l ih=>simp [zdv,clo,ih]
  simp only [zdv,clo,Bool.and_true]
  exact this _
 refine zao hs zFS rfl hc rfl ?_
 rw [zI6]
 simp [a122,zEt,zEs,zEr,zad hs,zaa hs,zab hs]
 refine (zA6 (bar:=0) (H:= []) p 256 _ (Nat.le_refl _) ?_ ?_ ?_).mono fun e t h=> ?_
 ·simp
 ·simp [zvG]
 ·simp
 ·obtain ⟨rfl,v',rfl,k3,k2⟩:=h
  simp at k2
  have h4:List.take 4 (zbG p)=zbG p:=rfl
  have c1:setCells [.int .u64 0, .int .u64 0, .int .u64 0, .int .u64 0] 0 (zbG p)=zbG p:=rfl
  have hz:=zF9 0 [] p
  unfold ze4 at hz ⊢
  simp [zEq,zad hs,zaa hs,k2,k3,zbn,h4,c1]
  exact hz
end
section
attribute [local simp] a120 zj3 zj2 zj1 zj0 zjZ zjY zjX zjW zjV zjU zgw zgv zgu zgt zgs zgr zgq zgp zgo zgn zgm zgl zgk zgj zgi zgh zgg zgf za6 frz zbd
theorem ztc {bar:Nat} {H:Heap} {c:Nat} (hc:c<256):Rn fsT SA.sp bar 120 [.str [97,108,112,104,97],num c] H=some (.ret (.tup [.bool (zaf [65,90,97,122] c), .bool true]),H):=by
 have hs:=SA.mono
 have hp:(c<48)∨(48≤c∧c<58)∨(58≤c∧c<65)∨(65≤c∧c<91)∨(91≤c∧c<97)∨(97≤c∧c<123)∨(123≤c∧c<256):=by omega
 refine zao hs zdG rfl rfl rfl ?_
 rw [zfF]
 rcases hp with h | h | h | h | h | h | h
 ·have hv:zaf [65,90,97,122] c=false:=by simp [zaf,orB,noB,zak];omega
  have f: ¬ ((65:Int)≤(c:Int))∧(c:Int)≤90∧ ¬ ((97:Int)≤(c:Int))∧(c:Int)≤122∧ ¬ ((48:Int)≤(c:Int))∧(c:Int)≤57:=by omega
  rw [hv];simp [f,zad hs,zaa hs,zac hs,zab hs]
 ·have hv:zaf [65,90,97,122] c=false:=by simp [zaf,orB,noB,zak];omega
  have f: ¬ ((65:Int)≤(c:Int))∧(c:Int)≤90∧ ¬ ((97:Int)≤(c:Int))∧(c:Int)≤122∧(48:Int)≤(c:Int)∧(c:Int)≤57:=by omega
  rw [hv];simp [f,zad hs,zaa hs,zac hs,zab hs]
 ·have hv:zaf [65,90,97,122] c=false:=by simp [zaf,orB,noB,zak];omega
  have f: ¬ ((65:Int)≤(c:Int))∧(c:Int)≤90∧ ¬ ((97:Int)≤(c:Int))∧(c:Int)≤122∧(48:Int)≤(c:Int)∧ ¬ ((c:Int)≤57):=by omega
  rw [hv];simp [f,zad hs,zaa hs,zac hs,zab hs]
 ·have hv:zaf [65,90,97,122] c=true:=by simp [zaf,orB,noB,zak];omega
  have f:(65:Int)≤(c:Int)∧(c:Int)≤90∧ ¬ ((97:Int)≤(c:Int))∧(c:Int)≤122∧(48:Int)≤(c:Int)∧ ¬ ((c:Int)≤57):=by omega
  rw [hv];simp [f,zad hs,zaa hs,zac hs,zab hs]
 ·have hv:zaf [65,90,97,122] c=false:=by simp [zaf,orB,noB,zak];omega
  have f:(65:Int)≤(c:Int)∧ ¬ ((c:Int)≤90)∧ ¬ ((97:Int)≤(c:Int))∧(c:Int)≤122∧(48:Int)≤(c:Int)∧ ¬ ((c:Int)≤57):=by omega
  rw [hv];simp [f,zad hs,zaa hs,zac hs,zab hs]
 ·have hv:zaf [65,90,97,122] c=true:=by simp [zaf,orB,noB,zak];omega
  have f:(65:Int)≤(c:Int)∧ ¬ ((c:Int)≤90)∧(97:Int)≤(c:Int)∧(c:Int)≤122∧(48:Int)≤(c:Int)∧ ¬ ((c:Int)≤57):=by omega
  rw [hv];simp [f,zad hs,zaa hs,zac hs,zab hs]
 ·have hv:zaf [65,90,97,122] c=false:=by simp [zaf,orB,noB,zak];omega
  have f:(65:Int)≤(c:Int)∧ ¬ ((c:Int)≤90)∧(97:Int)≤(c:Int)∧ ¬ ((c:Int)≤122)∧(48:Int)≤(c:Int)∧ ¬ ((c:Int)≤57):=by omega
  rw [hv];simp [f,zad hs,zaa hs,zac hs,zab hs]
theorem zs9 {bar:Nat} {H:Heap} {c:Nat} (hc:c<256):Rn fsT SA.sp bar 120 [.str [100,105,103,105,116],num c] H=some (.ret (.tup [.bool (zaf [48,57] c), .bool true]),H):=by
 have hs:=SA.mono
 have hp:(c<48)∨(48≤c∧c<58)∨(58≤c∧c<65)∨(65≤c∧c<91)∨(91≤c∧c<97)∨(97≤c∧c<123)∨(123≤c∧c<256):=by omega
 refine zao hs zdG rfl rfl rfl ?_
 rw [zfF]
 rcases hp with h | h | h | h | h | h | h
 ·have hv:zaf [48,57] c=false:=by simp [zaf,orB,noB,zak];omega
  have f: ¬ ((65:Int)≤(c:Int))∧(c:Int)≤90∧ ¬ ((97:Int)≤(c:Int))∧(c:Int)≤122∧ ¬ ((48:Int)≤(c:Int))∧(c:Int)≤57:=by omega
  rw [hv];simp [f,zad hs,zaa hs,zac hs,zab hs]
 ·have hv:zaf [48,57] c=true:=by simp [zaf,orB,noB,zak];omega
  have f: ¬ ((65:Int)≤(c:Int))∧(c:Int)≤90∧ ¬ ((97:Int)≤(c:Int))∧(c:Int)≤122∧(48:Int)≤(c:Int)∧(c:Int)≤57:=by omega
  rw [hv];simp [f,zad hs,zaa hs,zac hs,zab hs]
 ·have hv:zaf [48,57] c=false:=by simp [zaf,orB,noB,zak];omega
  have f: ¬ ((65:Int)≤(c:Int))∧(c:Int)≤90∧ ¬ ((97:Int)≤(c:Int))∧(c:Int)≤122∧(48:Int)≤(c:Int)∧ ¬ ((c:Int)≤57):=by omega
  rw [hv];simp [f,zad hs,zaa hs,zac hs,zab hs]
 ·have hv:zaf [48,57] c=false:=by simp [zaf,orB,noB,zak];omega
  have f:(65:Int)≤(c:Int)∧(c:Int)≤90∧ ¬ ((97:Int)≤(c:Int))∧(c:Int)≤122∧(48:Int)≤(c:Int)∧ ¬ ((c:Int)≤57):=by omega
  rw [hv];simp [f,zad hs,zaa hs,zac hs,zab hs]
 ·have hv:zaf [48,57] c=false:=by simp [zaf,orB,noB,zak];omega
  have f:(65:Int)≤(c:Int)∧ ¬ ((c:Int)≤90)∧ ¬ ((97:Int)≤(c:Int))∧(c:Int)≤122∧(48:Int)≤(c:Int)∧ ¬ ((c:Int)≤57):=by omega
  rw [hv];simp [f,zad hs,zaa hs,zac hs,zab hs]
 ·have hv:zaf [48,57] c=false:=by simp [zaf,orB,noB,zak];omega
  have f:(65:Int)≤(c:Int)∧ ¬ ((c:Int)≤90)∧(97:Int)≤(c:Int)∧(c:Int)≤122∧(48:Int)≤(c:Int)∧ ¬ ((c:Int)≤57):=by omega
  rw [hv];simp [f,zad hs,zaa hs,zac hs,zab hs]
 ·have hv:zaf [48,57] c=false:=by simp [zaf,orB,noB,zak];omega
  have f:(65:Int)≤(c:Int)∧ ¬ ((c:Int)≤90)∧(97:Int)≤(c:Int)∧ ¬ ((c:Int)≤122)∧(48:Int)≤(c:Int)∧ ¬ ((c:Int)≤57):=by omega
  rw [hv];simp [f,zad hs,zaa hs,zac hs,zab hs]
theorem ztd {bar:Nat} {H:Heap} {c:Nat} (hc:c<256):Rn fsT SA.sp bar 120 [.str [97,108,110,117,109],num c] H=some (.ret (.tup [.bool (zaf [48,57,65,90,97,122] c), .bool true]),H):=by
 have hs:=SA.mono
 have hp:(c<48)∨(48≤c∧c<58)∨(58≤c∧c<65)∨(65≤c∧c<91)∨(91≤c∧c<97)∨(97≤c∧c<123)∨(123≤c∧c<256):=by omega
 refine zao hs zdG rfl rfl rfl ?_
 rw [zfF]
 rcases hp with h | h | h | h | h | h | h
 ·have hv:zaf [48,57,65,90,97,122] c=false:=by simp [zaf,orB,noB,zak];omega
  have f: ¬ ((65:Int)≤(c:Int))∧(c:Int)≤90∧ ¬ ((97:Int)≤(c:Int))∧(c:Int)≤122∧ ¬ ((48:Int)≤(c:Int))∧(c:Int)≤57:=by omega
  rw [hv];simp [f,zad hs,zaa hs,zac hs,zab hs]
 ·have hv:zaf [48,57,65,90,97,122] c=true:=by simp [zaf,orB,noB,zak];omega
  have f: ¬ ((65:Int)≤(c:Int))∧(c:Int)≤90∧ ¬ ((97:Int)≤(c:Int))∧(c:Int)≤122∧(48:Int)≤(c:Int)∧(c:Int)≤57:=by omega
  rw [hv];simp [f,zad hs,zaa hs,zac hs,zab hs]
 ·have hv:zaf [48,57,65,90,97,122] c=false:=by simp [zaf,orB,noB,zak];omega
  have f: ¬ ((65:Int)≤(c:Int))∧(c:Int)≤90∧ ¬ ((97:Int)≤(c:Int))∧(c:Int)≤122∧(48:Int)≤(c:Int)∧ ¬ ((c:Int)≤57):=by omega
  rw [hv];simp [f,zad hs,zaa hs,zac hs,zab hs]
 ·have hv:zaf [48,57,65,90,97,122] c=true:=by simp [zaf,orB,noB,zak];omega
  have f:(65:Int)≤(c:Int)∧(c:Int)≤90∧ ¬ ((97:Int)≤(c:Int))∧(c:Int)≤122∧(48:Int)≤(c:Int)∧ ¬ ((c:Int)≤57):=by omega
  rw [hv];simp [f,zad hs,zaa hs,zac hs,zab hs]
 ·have hv:zaf [48,57,65,90,97,122] c=false:=by simp [zaf,orB,noB,zak];omega
  have f:(65:Int)≤(c:Int)∧ ¬ ((c:Int)≤90)∧ ¬ ((97:Int)≤(c:Int))∧(c:Int)≤122∧(48:Int)≤(c:Int)∧ ¬ ((c:Int)≤57):=by omega
  rw [hv];simp [f,zad hs,zaa hs,zac hs,zab hs]
 ·have hv:zaf [48,57,65,90,97,122] c=true:=by simp [zaf,orB,noB,zak];omega
  have f:(65:Int)≤(c:Int)∧ ¬ ((c:Int)≤90)∧(97:Int)≤(c:Int)∧(c:Int)≤122∧(48:Int)≤(c:Int)∧ ¬ ((c:Int)≤57):=by omega
  rw [hv];simp [f,zad hs,zaa hs,zac hs,zab hs]
 ·have hv:zaf [48,57,65,90,97,122] c=false:=by simp [zaf,orB,noB,zak];omega
  have f:(65:Int)≤(c:Int)∧ ¬ ((c:Int)≤90)∧(97:Int)≤(c:Int)∧ ¬ ((c:Int)≤122)∧(48:Int)≤(c:Int)∧ ¬ ((c:Int)≤57):=by omega
  rw [hv];simp [f,zad hs,zaa hs,zac hs,zab hs]
theorem zs3 {bar:Nat} {H:Heap} {c:Nat} (hc:c<256):Rn fsT SA.sp bar 120 [.str [117,112,112,101,114],num c] H=some (.ret (.tup [.bool (zaf [65,90] c), .bool true]),H):=by
 have hs:=SA.mono
 have hp:(c<48)∨(48≤c∧c<58)∨(58≤c∧c<65)∨(65≤c∧c<91)∨(91≤c∧c<97)∨(97≤c∧c<123)∨(123≤c∧c<256):=by omega
 refine zao hs zdG rfl rfl rfl ?_
 rw [zfF]
 rcases hp with h | h | h | h | h | h | h
 ·have hv:zaf [65,90] c=false:=by simp [zaf,orB,noB,zak];omega
  have f: ¬ ((65:Int)≤(c:Int))∧(c:Int)≤90∧ ¬ ((97:Int)≤(c:Int))∧(c:Int)≤122∧ ¬ ((48:Int)≤(c:Int))∧(c:Int)≤57:=by omega
  rw [hv];simp [f,zad hs,zaa hs,zac hs,zab hs]
 ·have hv:zaf [65,90] c=false:=by simp [zaf,orB,noB,zak];omega
  have f: ¬ ((65:Int)≤(c:Int))∧(c:Int)≤90∧ ¬ ((97:Int)≤(c:Int))∧(c:Int)≤122∧(48:Int)≤(c:Int)∧(c:Int)≤57:=by omega
  rw [hv];simp [f,zad hs,zaa hs,zac hs,zab hs]
 ·have hv:zaf [65,90] c=false:=by simp [zaf,orB,noB,zak];omega
  have f: ¬ ((65:Int)≤(c:Int))∧(c:Int)≤90∧ ¬ ((97:Int)≤(c:Int))∧(c:Int)≤122∧(48:Int)≤(c:Int)∧ ¬ ((c:Int)≤57):=by omega
  rw [hv];simp [f,zad hs,zaa hs,zac hs,zab hs]
 ·have hv:zaf [65,90] c=true:=by simp [zaf,orB,noB,zak];omega
  have f:(65:Int)≤(c:Int)∧(c:Int)≤90∧ ¬ ((97:Int)≤(c:Int))∧(c:Int)≤122∧(48:Int)≤(c:Int)∧ ¬ ((c:Int)≤57):=by omega
  rw [hv];simp [f,zad hs,zaa hs,zac hs,zab hs]
 ·have hv:zaf [65,90] c=false:=by simp [zaf,orB,noB,zak];omega
  have f:(65:Int)≤(c:Int)∧ ¬ ((c:Int)≤90)∧ ¬ ((97:Int)≤(c:Int))∧(c:Int)≤122∧(48:Int)≤(c:Int)∧ ¬ ((c:Int)≤57):=by omega
  rw [hv];simp [f,zad hs,zaa hs,zac hs,zab hs]
 ·have hv:zaf [65,90] c=false:=by simp [zaf,orB,noB,zak];omega
  have f:(65:Int)≤(c:Int)∧ ¬ ((c:Int)≤90)∧(97:Int)≤(c:Int)∧(c:Int)≤122∧(48:Int)≤(c:Int)∧ ¬ ((c:Int)≤57):=by omega
  rw [hv];simp [f,zad hs,zaa hs,zac hs,zab hs]
 ·have hv:zaf [65,90] c=false:=by simp [zaf,orB,noB,zak];omega
  have f:(65:Int)≤(c:Int)∧ ¬ ((c:Int)≤90)∧(97:Int)≤(c:Int)∧ ¬ ((c:Int)≤122)∧(48:Int)≤(c:Int)∧ ¬ ((c:Int)≤57):=by omega
  rw [hv];simp [f,zad hs,zaa hs,zac hs,zab hs]
theorem zs7 {bar:Nat} {H:Heap} {c:Nat} (hc:c<256):Rn fsT SA.sp bar 120 [.str [108,111,119,101,114],num c] H=some (.ret (.tup [.bool (zaf [97,122] c), .bool true]),H):=by
 have hs:=SA.mono
 have hp:(c<48)∨(48≤c∧c<58)∨(58≤c∧c<65)∨(65≤c∧c<91)∨(91≤c∧c<97)∨(97≤c∧c<123)∨(123≤c∧c<256):=by omega
 refine zao hs zdG rfl rfl rfl ?_
 rw [zfF]
 rcases hp with h | h | h | h | h | h | h
 ·have hv:zaf [97,122] c=false:=by simp [zaf,orB,noB,zak];omega
  have f: ¬ ((65:Int)≤(c:Int))∧(c:Int)≤90∧ ¬ ((97:Int)≤(c:Int))∧(c:Int)≤122∧ ¬ ((48:Int)≤(c:Int))∧(c:Int)≤57:=by omega
  rw [hv];simp [f,zad hs,zaa hs,zac hs,zab hs]
 ·have hv:zaf [97,122] c=false:=by simp [zaf,orB,noB,zak];omega
  have f: ¬ ((65:Int)≤(c:Int))∧(c:Int)≤90∧ ¬ ((97:Int)≤(c:Int))∧(c:Int)≤122∧(48:Int)≤(c:Int)∧(c:Int)≤57:=by omega
  rw [hv];simp [f,zad hs,zaa hs,zac hs,zab hs]
 ·have hv:zaf [97,122] c=false:=by simp [zaf,orB,noB,zak];omega
  have f: ¬ ((65:Int)≤(c:Int))∧(c:Int)≤90∧ ¬ ((97:Int)≤(c:Int))∧(c:Int)≤122∧(48:Int)≤(c:Int)∧ ¬ ((c:Int)≤57):=by omega
  rw [hv];simp [f,zad hs,zaa hs,zac hs,zab hs]
 ·have hv:zaf [97,122] c=false:=by simp [zaf,orB,noB,zak];omega
  have f:(65:Int)≤(c:Int)∧(c:Int)≤90∧ ¬ ((97:Int)≤(c:Int))∧(c:Int)≤122∧(48:Int)≤(c:Int)∧ ¬ ((c:Int)≤57):=by omega
  rw [hv];simp [f,zad hs,zaa hs,zac hs,zab hs]
 ·have hv:zaf [97,122] c=false:=by simp [zaf,orB,noB,zak];omega
  have f:(65:Int)≤(c:Int)∧ ¬ ((c:Int)≤90)∧ ¬ ((97:Int)≤(c:Int))∧(c:Int)≤122∧(48:Int)≤(c:Int)∧ ¬ ((c:Int)≤57):=by omega
  rw [hv];simp [f,zad hs,zaa hs,zac hs,zab hs]
 ·have hv:zaf [97,122] c=true:=by simp [zaf,orB,noB,zak];omega
  have f:(65:Int)≤(c:Int)∧ ¬ ((c:Int)≤90)∧(97:Int)≤(c:Int)∧(c:Int)≤122∧(48:Int)≤(c:Int)∧ ¬ ((c:Int)≤57):=by omega
  rw [hv];simp [f,zad hs,zaa hs,zac hs,zab hs]
 ·have hv:zaf [97,122] c=false:=by simp [zaf,orB,noB,zak];omega
  have f:(65:Int)≤(c:Int)∧ ¬ ((c:Int)≤90)∧(97:Int)≤(c:Int)∧ ¬ ((c:Int)≤122)∧(48:Int)≤(c:Int)∧ ¬ ((c:Int)≤57):=by omega
  rw [hv];simp [f,zad hs,zaa hs,zac hs,zab hs]
theorem zs4 {bar:Nat} {H:Heap} {c:Nat} (hc:c<256):Rn fsT SA.sp bar 120 [.str [115,112,97,99,101],num c] H=some (.ret (.tup [.bool (zaf [9,13,32,32] c), .bool true]),H):=by
 have hs:=SA.mono
 have hp:(c<9)∨(9≤c∧c<14)∨(14≤c∧c<32)∨(32≤c∧c<33)∨(33≤c∧c<48)∨(48≤c∧c<58)∨(58≤c∧c<65)∨(65≤c∧c<91)∨(91≤c∧c<97)∨(97≤c∧c<123)∨(123≤c∧c<256):=by omega
 refine zao hs zdG rfl rfl rfl ?_
 rw [zfF]
 rcases hp with h | h | h | h | h | h | h | h | h | h | h
 ·have hv:zaf [9,13,32,32] c=false:=by simp [zaf,orB,noB,zak];omega
  have e0:((c:Int)==32)=false:=by simp;omega
  have f: ¬ ((65:Int)≤(c:Int))∧(c:Int)≤90∧ ¬ ((97:Int)≤(c:Int))∧(c:Int)≤122∧ ¬ ((48:Int)≤(c:Int))∧(c:Int)≤57∧ ¬ ((9:Int)≤(c:Int))∧(c:Int)≤13:=by omega
  rw [hv];simp [f,e0,zad hs,zaa hs,zac hs,zab hs]
 ·have hv:zaf [9,13,32,32] c=true:=by simp [zaf,orB,noB,zak];omega
  have e0:((c:Int)==32)=false:=by simp;omega
  have f: ¬ ((65:Int)≤(c:Int))∧(c:Int)≤90∧ ¬ ((97:Int)≤(c:Int))∧(c:Int)≤122∧ ¬ ((48:Int)≤(c:Int))∧(c:Int)≤57∧(9:Int)≤(c:Int)∧(c:Int)≤13:=by omega
  rw [hv];simp [f,e0,zad hs,zaa hs,zac hs,zab hs]
 ·have hv:zaf [9,13,32,32] c=false:=by simp [zaf,orB,noB,zak];omega
  have e0:((c:Int)==32)=false:=by simp;omega
  have f: ¬ ((65:Int)≤(c:Int))∧(c:Int)≤90∧ ¬ ((97:Int)≤(c:Int))∧(c:Int)≤122∧ ¬ ((48:Int)≤(c:Int))∧(c:Int)≤57∧(9:Int)≤(c:Int)∧ ¬ ((c:Int)≤13):=by omega
  rw [hv];simp [f,e0,zad hs,zaa hs,zac hs,zab hs]
 ·have hv:zaf [9,13,32,32] c=true:=by simp [zaf,orB,noB,zak];omega
  have e0:((c:Int)==32)=true:=by simp;omega
  have f: ¬ ((65:Int)≤(c:Int))∧(c:Int)≤90∧ ¬ ((97:Int)≤(c:Int))∧(c:Int)≤122∧ ¬ ((48:Int)≤(c:Int))∧(c:Int)≤57∧(9:Int)≤(c:Int)∧ ¬ ((c:Int)≤13):=by omega
  rw [hv];simp [f,e0,zad hs,zaa hs,zac hs,zab hs]
 ·have hv:zaf [9,13,32,32] c=false:=by simp [zaf,orB,noB,zak];omega
  have e0:((c:Int)==32)=false:=by simp;omega
  have f: ¬ ((65:Int)≤(c:Int))∧(c:Int)≤90∧ ¬ ((97:Int)≤(c:Int))∧(c:Int)≤122∧ ¬ ((48:Int)≤(c:Int))∧(c:Int)≤57∧(9:Int)≤(c:Int)∧ ¬ ((c:Int)≤13):=by omega
  rw [hv];simp [f,e0,zad hs,zaa hs,zac hs,zab hs]
 ·have hv:zaf [9,13,32,32] c=false:=by simp [zaf,orB,noB,zak];omega
  have e0:((c:Int)==32)=false:=by simp;omega
  have f: ¬ ((65:Int)≤(c:Int))∧(c:Int)≤90∧ ¬ ((97:Int)≤(c:Int))∧(c:Int)≤122∧(48:Int)≤(c:Int)∧(c:Int)≤57∧(9:Int)≤(c:Int)∧ ¬ ((c:Int)≤13):=by omega
  rw [hv];simp [f,e0,zad hs,zaa hs,zac hs,zab hs]
 ·have hv:zaf [9,13,32,32] c=false:=by simp [zaf,orB,noB,zak];omega
  have e0:((c:Int)==32)=false:=by simp;omega
  have f: ¬ ((65:Int)≤(c:Int))∧(c:Int)≤90∧ ¬ ((97:Int)≤(c:Int))∧(c:Int)≤122∧(48:Int)≤(c:Int)∧ ¬ ((c:Int)≤57)∧(9:Int)≤(c:Int)∧ ¬ ((c:Int)≤13):=by omega
  rw [hv];simp [f,e0,zad hs,zaa hs,zac hs,zab hs]
 ·have hv:zaf [9,13,32,32] c=false:=by simp [zaf,orB,noB,zak];omega
  have e0:((c:Int)==32)=false:=by simp;omega
  have f:(65:Int)≤(c:Int)∧(c:Int)≤90∧ ¬ ((97:Int)≤(c:Int))∧(c:Int)≤122∧(48:Int)≤(c:Int)∧ ¬ ((c:Int)≤57)∧(9:Int)≤(c:Int)∧ ¬ ((c:Int)≤13):=by omega
  rw [hv];simp [f,e0,zad hs,zaa hs,zac hs,zab hs]
 ·have hv:zaf [9,13,32,32] c=false:=by simp [zaf,orB,noB,zak];omega
  have e0:((c:Int)==32)=false:=by simp;omega
  have f:(65:Int)≤(c:Int)∧ ¬ ((c:Int)≤90)∧ ¬ ((97:Int)≤(c:Int))∧(c:Int)≤122∧(48:Int)≤(c:Int)∧ ¬ ((c:Int)≤57)∧(9:Int)≤(c:Int)∧ ¬ ((c:Int)≤13):=by omega
  rw [hv];simp [f,e0,zad hs,zaa hs,zac hs,zab hs]
 ·have hv:zaf [9,13,32,32] c=false:=by simp [zaf,orB,noB,zak];omega
  have e0:((c:Int)==32)=false:=by simp;omega
  have f:(65:Int)≤(c:Int)∧ ¬ ((c:Int)≤90)∧(97:Int)≤(c:Int)∧(c:Int)≤122∧(48:Int)≤(c:Int)∧ ¬ ((c:Int)≤57)∧(9:Int)≤(c:Int)∧ ¬ ((c:Int)≤13):=by omega
  rw [hv];simp [f,e0,zad hs,zaa hs,zac hs,zab hs]
 ·have hv:zaf [9,13,32,32] c=false:=by simp [zaf,orB,noB,zak];omega
  have e0:((c:Int)==32)=false:=by simp;omega
  have f:(65:Int)≤(c:Int)∧ ¬ ((c:Int)≤90)∧(97:Int)≤(c:Int)∧ ¬ ((c:Int)≤122)∧(48:Int)≤(c:Int)∧ ¬ ((c:Int)≤57)∧(9:Int)≤(c:Int)∧ ¬ ((c:Int)≤13):=by omega
  rw [hv];simp [f,e0,zad hs,zaa hs,zac hs,zab hs]
theorem ztb {bar:Nat} {H:Heap} {c:Nat} (hc:c<256):Rn fsT SA.sp bar 120 [.str [98,108,97,110,107],num c] H=some (.ret (.tup [.bool (zaf [9,9,32,32] c), .bool true]),H):=by
 have hs:=SA.mono
 have hp:(c<9)∨(9≤c∧c<10)∨(10≤c∧c<32)∨(32≤c∧c<33)∨(33≤c∧c<48)∨(48≤c∧c<58)∨(58≤c∧c<65)∨(65≤c∧c<91)∨(91≤c∧c<97)∨(97≤c∧c<123)∨(123≤c∧c<256):=by omega
 refine zao hs zdG rfl rfl rfl ?_
 rw [zfF]
 rcases hp with h | h | h | h | h | h | h | h | h | h | h
 ·have hv:zaf [9,9,32,32] c=false:=by simp [zaf,orB,noB,zak];omega
  have e0:((c:Int)==32)=false:=by simp;omega
  have e1:((c:Int)==9)=false:=by simp;omega
  have f: ¬ ((65:Int)≤(c:Int))∧(c:Int)≤90∧ ¬ ((97:Int)≤(c:Int))∧(c:Int)≤122∧ ¬ ((48:Int)≤(c:Int))∧(c:Int)≤57:=by omega
  rw [hv];simp [f,e0,e1,zad hs,zaa hs,zac hs,zab hs]
 ·have hv:zaf [9,9,32,32] c=true:=by simp [zaf,orB,noB,zak];omega
  have e0:((c:Int)==32)=false:=by simp;omega
  have e1:((c:Int)==9)=true:=by simp;omega
  have f: ¬ ((65:Int)≤(c:Int))∧(c:Int)≤90∧ ¬ ((97:Int)≤(c:Int))∧(c:Int)≤122∧ ¬ ((48:Int)≤(c:Int))∧(c:Int)≤57:=by omega
  rw [hv];simp [f,e0,e1,zad hs,zaa hs,zac hs,zab hs]
 ·have hv:zaf [9,9,32,32] c=false:=by simp [zaf,orB,noB,zak];omega
  have e0:((c:Int)==32)=false:=by simp;omega
  have e1:((c:Int)==9)=false:=by simp;omega
  have f: ¬ ((65:Int)≤(c:Int))∧(c:Int)≤90∧ ¬ ((97:Int)≤(c:Int))∧(c:Int)≤122∧ ¬ ((48:Int)≤(c:Int))∧(c:Int)≤57:=by omega
  rw [hv];simp [f,e0,e1,zad hs,zaa hs,zac hs,zab hs]
 ·have hv:zaf [9,9,32,32] c=true:=by simp [zaf,orB,noB,zak];omega
  have e0:((c:Int)==32)=true:=by simp;omega
  have e1:((c:Int)==9)=false:=by simp;omega
  have f: ¬ ((65:Int)≤(c:Int))∧(c:Int)≤90∧ ¬ ((97:Int)≤(c:Int))∧(c:Int)≤122∧ ¬ ((48:Int)≤(c:Int))∧(c:Int)≤57:=by omega
  rw [hv];simp [f,e0,e1,zad hs,zaa hs,zac hs,zab hs]
 ·have hv:zaf [9,9,32,32] c=false:=by simp [zaf,orB,noB,zak];omega
  have e0:((c:Int)==32)=false:=by simp;omega
  have e1:((c:Int)==9)=false:=by simp;omega
  have f: ¬ ((65:Int)≤(c:Int))∧(c:Int)≤90∧ ¬ ((97:Int)≤(c:Int))∧(c:Int)≤122∧ ¬ ((48:Int)≤(c:Int))∧(c:Int)≤57:=by omega
  rw [hv];simp [f,e0,e1,zad hs,zaa hs,zac hs,zab hs]
 ·have hv:zaf [9,9,32,32] c=false:=by simp [zaf,orB,noB,zak];omega
  have e0:((c:Int)==32)=false:=by simp;omega
  have e1:((c:Int)==9)=false:=by simp;omega
  have f: ¬ ((65:Int)≤(c:Int))∧(c:Int)≤90∧ ¬ ((97:Int)≤(c:Int))∧(c:Int)≤122∧(48:Int)≤(c:Int)∧(c:Int)≤57:=by omega
  rw [hv];simp [f,e0,e1,zad hs,zaa hs,zac hs,zab hs]
 ·have hv:zaf [9,9,32,32] c=false:=by simp [zaf,orB,noB,zak];omega
  have e0:((c:Int)==32)=false:=by simp;omega
  have e1:((c:Int)==9)=false:=by simp;omega
  have f: ¬ ((65:Int)≤(c:Int))∧(c:Int)≤90∧ ¬ ((97:Int)≤(c:Int))∧(c:Int)≤122∧(48:Int)≤(c:Int)∧ ¬ ((c:Int)≤57):=by omega
  rw [hv];simp [f,e0,e1,zad hs,zaa hs,zac hs,zab hs]
 ·have hv:zaf [9,9,32,32] c=false:=by simp [zaf,orB,noB,zak];omega
  have e0:((c:Int)==32)=false:=by simp;omega
  have e1:((c:Int)==9)=false:=by simp;omega
  have f:(65:Int)≤(c:Int)∧(c:Int)≤90∧ ¬ ((97:Int)≤(c:Int))∧(c:Int)≤122∧(48:Int)≤(c:Int)∧ ¬ ((c:Int)≤57):=by omega
  rw [hv];simp [f,e0,e1,zad hs,zaa hs,zac hs,zab hs]
 ·have hv:zaf [9,9,32,32] c=false:=by simp [zaf,orB,noB,zak];omega
  have e0:((c:Int)==32)=false:=by simp;omega
  have e1:((c:Int)==9)=false:=by simp;omega
  have f:(65:Int)≤(c:Int)∧ ¬ ((c:Int)≤90)∧ ¬ ((97:Int)≤(c:Int))∧(c:Int)≤122∧(48:Int)≤(c:Int)∧ ¬ ((c:Int)≤57):=by omega
  rw [hv];simp [f,e0,e1,zad hs,zaa hs,zac hs,zab hs]
 ·have hv:zaf [9,9,32,32] c=false:=by simp [zaf,orB,noB,zak];omega
  have e0:((c:Int)==32)=false:=by simp;omega
  have e1:((c:Int)==9)=false:=by simp;omega
  have f:(65:Int)≤(c:Int)∧ ¬ ((c:Int)≤90)∧(97:Int)≤(c:Int)∧(c:Int)≤122∧(48:Int)≤(c:Int)∧ ¬ ((c:Int)≤57):=by omega
  rw [hv];simp [f,e0,e1,zad hs,zaa hs,zac hs,zab hs]
 ·have hv:zaf [9,9,32,32] c=false:=by simp [zaf,orB,noB,zak];omega
  have e0:((c:Int)==32)=false:=by simp;omega
  have e1:((c:Int)==9)=false:=by simp;omega
  have f:(65:Int)≤(c:Int)∧ ¬ ((c:Int)≤90)∧(97:Int)≤(c:Int)∧ ¬ ((c:Int)≤122)∧(48:Int)≤(c:Int)∧ ¬ ((c:Int)≤57):=by omega
  rw [hv];simp [f,e0,e1,zad hs,zaa hs,zac hs,zab hs]
theorem zs5 {bar:Nat} {H:Heap} {c:Nat} (hc:c<256):Rn fsT SA.sp bar 120 [.str [112,117,110,99,116],num c] H=some (.ret (.tup [.bool (zaf [33,47,58,64,91,96,123,126] c), .bool true]),H):=by
 have hs:=SA.mono
 have hp:(c<33)∨(33≤c∧c<48)∨(48≤c∧c<58)∨(58≤c∧c<65)∨(65≤c∧c<91)∨(91≤c∧c<97)∨(97≤c∧c<123)∨(123≤c∧c<127)∨(127≤c∧c<256):=by omega
 refine zao hs zdG rfl rfl rfl ?_
 rw [zfF]
 rcases hp with h | h | h | h | h | h | h | h | h
 ·have hv:zaf [33,47,58,64,91,96,123,126] c=false:=by simp [zaf,orB,noB,zak];omega
  have f: ¬ ((65:Int)≤(c:Int))∧(c:Int)≤90∧ ¬ ((97:Int)≤(c:Int))∧(c:Int)≤122∧ ¬ ((48:Int)≤(c:Int))∧(c:Int)≤57∧ ¬ ((32:Int)<(c:Int))∧(c:Int)<127:=by omega
  rw [hv];simp [f,zad hs,zaa hs,zac hs,zab hs]
 ·have hv:zaf [33,47,58,64,91,96,123,126] c=true:=by simp [zaf,orB,noB,zak];omega
  have f: ¬ ((65:Int)≤(c:Int))∧(c:Int)≤90∧ ¬ ((97:Int)≤(c:Int))∧(c:Int)≤122∧ ¬ ((48:Int)≤(c:Int))∧(c:Int)≤57∧(32:Int)<(c:Int)∧(c:Int)<127:=by omega
  rw [hv];simp [f,zad hs,zaa hs,zac hs,zab hs]
 ·have hv:zaf [33,47,58,64,91,96,123,126] c=false:=by simp [zaf,orB,noB,zak];omega
  have f: ¬ ((65:Int)≤(c:Int))∧(c:Int)≤90∧ ¬ ((97:Int)≤(c:Int))∧(c:Int)≤122∧(48:Int)≤(c:Int)∧(c:Int)≤57∧(32:Int)<(c:Int)∧(c:Int)<127:=by omega
  rw [hv];simp [f,zad hs,zaa hs,zac hs,zab hs]
 ·have hv:zaf [33,47,58,64,91,96,123,126] c=true:=by simp [zaf,orB,noB,zak];omega
  have f: ¬ ((65:Int)≤(c:Int))∧(c:Int)≤90∧ ¬ ((97:Int)≤(c:Int))∧(c:Int)≤122∧(48:Int)≤(c:Int)∧ ¬ ((c:Int)≤57)∧(32:Int)<(c:Int)∧(c:Int)<127:=by omega
  rw [hv];simp [f,zad hs,zaa hs,zac hs,zab hs]
 ·have hv:zaf [33,47,58,64,91,96,123,126] c=false:=by simp [zaf,orB,noB,zak];omega
  have f:(65:Int)≤(c:Int)∧(c:Int)≤90∧ ¬ ((97:Int)≤(c:Int))∧(c:Int)≤122∧(48:Int)≤(c:Int)∧ ¬ ((c:Int)≤57)∧(32:Int)<(c:Int)∧(c:Int)<127:=by omega
  rw [hv];simp [f,zad hs,zaa hs,zac hs,zab hs]
 ·have hv:zaf [33,47,58,64,91,96,123,126] c=true:=by simp [zaf,orB,noB,zak];omega
  have f:(65:Int)≤(c:Int)∧ ¬ ((c:Int)≤90)∧ ¬ ((97:Int)≤(c:Int))∧(c:Int)≤122∧(48:Int)≤(c:Int)∧ ¬ ((c:Int)≤57)∧(32:Int)<(c:Int)∧(c:Int)<127:=by omega
  rw [hv];simp [f,zad hs,zaa hs,zac hs,zab hs]
 ·have hv:zaf [33,47,58,64,91,96,123,126] c=false:=by simp [zaf,orB,noB,zak];omega
  have f:(65:Int)≤(c:Int)∧ ¬ ((c:Int)≤90)∧(97:Int)≤(c:Int)∧(c:Int)≤122∧(48:Int)≤(c:Int)∧ ¬ ((c:Int)≤57)∧(32:Int)<(c:Int)∧(c:Int)<127:=by omega
  rw [hv];simp [f,zad hs,zaa hs,zac hs,zab hs]
 ·have hv:zaf [33,47,58,64,91,96,123,126] c=true:=by simp [zaf,orB,noB,zak];omega
  have f:(65:Int)≤(c:Int)∧ ¬ ((c:Int)≤90)∧(97:Int)≤(c:Int)∧ ¬ ((c:Int)≤122)∧(48:Int)≤(c:Int)∧ ¬ ((c:Int)≤57)∧(32:Int)<(c:Int)∧(c:Int)<127:=by omega
  rw [hv];simp [f,zad hs,zaa hs,zac hs,zab hs]
 ·have hv:zaf [33,47,58,64,91,96,123,126] c=false:=by simp [zaf,orB,noB,zak];omega
  have f:(65:Int)≤(c:Int)∧ ¬ ((c:Int)≤90)∧(97:Int)≤(c:Int)∧ ¬ ((c:Int)≤122)∧(48:Int)≤(c:Int)∧ ¬ ((c:Int)≤57)∧(32:Int)<(c:Int)∧ ¬ ((c:Int)<127):=by omega
  rw [hv];simp [f,zad hs,zaa hs,zac hs,zab hs]
theorem zs6 {bar:Nat} {H:Heap} {c:Nat} (hc:c<256):Rn fsT SA.sp bar 120 [.str [112,114,105,110,116],num c] H=some (.ret (.tup [.bool (zaf [32,126] c), .bool true]),H):=by
 have hs:=SA.mono
 have hp:(c<32)∨(32≤c∧c<48)∨(48≤c∧c<58)∨(58≤c∧c<65)∨(65≤c∧c<91)∨(91≤c∧c<97)∨(97≤c∧c<123)∨(123≤c∧c<127)∨(127≤c∧c<256):=by omega
 refine zao hs zdG rfl rfl rfl ?_
 rw [zfF]
 rcases hp with h | h | h | h | h | h | h | h | h
 ·have hv:zaf [32,126] c=false:=by simp [zaf,orB,noB,zak];omega
  have f: ¬ ((65:Int)≤(c:Int))∧(c:Int)≤90∧ ¬ ((97:Int)≤(c:Int))∧(c:Int)≤122∧ ¬ ((48:Int)≤(c:Int))∧(c:Int)≤57∧ ¬ ((32:Int)≤(c:Int))∧(c:Int)<127:=by omega
  rw [hv];simp [f,zad hs,zaa hs,zac hs,zab hs]
 ·have hv:zaf [32,126] c=true:=by simp [zaf,orB,noB,zak];omega
  have f: ¬ ((65:Int)≤(c:Int))∧(c:Int)≤90∧ ¬ ((97:Int)≤(c:Int))∧(c:Int)≤122∧ ¬ ((48:Int)≤(c:Int))∧(c:Int)≤57∧(32:Int)≤(c:Int)∧(c:Int)<127:=by omega
  rw [hv];simp [f,zad hs,zaa hs,zac hs,zab hs]
 ·have hv:zaf [32,126] c=true:=by simp [zaf,orB,noB,zak];omega
  have f: ¬ ((65:Int)≤(c:Int))∧(c:Int)≤90∧ ¬ ((97:Int)≤(c:Int))∧(c:Int)≤122∧(48:Int)≤(c:Int)∧(c:Int)≤57∧(32:Int)≤(c:Int)∧(c:Int)<127:=by omega
  rw [hv];simp [f,zad hs,zaa hs,zac hs,zab hs]
 ·have hv:zaf [32,126] c=true:=by simp [zaf,orB,noB,zak];omega
  have f: ¬ ((65:Int)≤(c:Int))∧(c:Int)≤90∧ ¬ ((97:Int)≤(c:Int))∧(c:Int)≤122∧(48:Int)≤(c:Int)∧ ¬ ((c:Int)≤57)∧(32:Int)≤(c:Int)∧(c:Int)<127:=by omega
  rw [hv];simp [f,zad hs,zaa hs,zac hs,zab hs]
 ·have hv:zaf [32,126] c=true:=by simp [zaf,orB,noB,zak];omega
  have f:(65:Int)≤(c:Int)∧(c:Int)≤90∧ ¬ ((97:Int)≤(c:Int))∧(c:Int)≤122∧(48:Int)≤(c:Int)∧ ¬ ((c:Int)≤57)∧(32:Int)≤(c:Int)∧(c:Int)<127:=by omega
  rw [hv];simp [f,zad hs,zaa hs,zac hs,zab hs]
 ·have hv:zaf [32,126] c=true:=by simp [zaf,orB,noB,zak];omega
  have f:(65:Int)≤(c:Int)∧ ¬ ((c:Int)≤90)∧ ¬ ((97:Int)≤(c:Int))∧(c:Int)≤122∧(48:Int)≤(c:Int)∧ ¬ ((c:Int)≤57)∧(32:Int)≤(c:Int)∧(c:Int)<127:=by omega
  rw [hv];simp [f,zad hs,zaa hs,zac hs,zab hs]
 ·have hv:zaf [32,126] c=true:=by simp [zaf,orB,noB,zak];omega
  have f:(65:Int)≤(c:Int)∧ ¬ ((c:Int)≤90)∧(97:Int)≤(c:Int)∧(c:Int)≤122∧(48:Int)≤(c:Int)∧ ¬ ((c:Int)≤57)∧(32:Int)≤(c:Int)∧(c:Int)<127:=by omega
  rw [hv];simp [f,zad hs,zaa hs,zac hs,zab hs]
 ·have hv:zaf [32,126] c=true:=by simp [zaf,orB,noB,zak];omega
  have f:(65:Int)≤(c:Int)∧ ¬ ((c:Int)≤90)∧(97:Int)≤(c:Int)∧ ¬ ((c:Int)≤122)∧(48:Int)≤(c:Int)∧ ¬ ((c:Int)≤57)∧(32:Int)≤(c:Int)∧(c:Int)<127:=by omega
  rw [hv];simp [f,zad hs,zaa hs,zac hs,zab hs]
 ·have hv:zaf [32,126] c=false:=by simp [zaf,orB,noB,zak];omega
  have f:(65:Int)≤(c:Int)∧ ¬ ((c:Int)≤90)∧(97:Int)≤(c:Int)∧ ¬ ((c:Int)≤122)∧(48:Int)≤(c:Int)∧ ¬ ((c:Int)≤57)∧(32:Int)≤(c:Int)∧ ¬ ((c:Int)<127):=by omega
  rw [hv];simp [f,zad hs,zaa hs,zac hs,zab hs]
theorem zs8 {bar:Nat} {H:Heap} {c:Nat} (hc:c<256):Rn fsT SA.sp bar 120 [.str [103,114,97,112,104],num c] H=some (.ret (.tup [.bool (zaf [33,126] c), .bool true]),H):=by
 have hs:=SA.mono
 have hp:(c<33)∨(33≤c∧c<48)∨(48≤c∧c<58)∨(58≤c∧c<65)∨(65≤c∧c<91)∨(91≤c∧c<97)∨(97≤c∧c<123)∨(123≤c∧c<127)∨(127≤c∧c<256):=by omega
 refine zao hs zdG rfl rfl rfl ?_
 rw [zfF]
 rcases hp with h | h | h | h | h | h | h | h | h
 ·have hv:zaf [33,126] c=false:=by simp [zaf,orB,noB,zak];omega
  have f: ¬ ((65:Int)≤(c:Int))∧(c:Int)≤90∧ ¬ ((97:Int)≤(c:Int))∧(c:Int)≤122∧ ¬ ((48:Int)≤(c:Int))∧(c:Int)≤57∧ ¬ ((32:Int)<(c:Int))∧(c:Int)<127:=by omega
  rw [hv];simp [f,zad hs,zaa hs,zac hs,zab hs]
 ·have hv:zaf [33,126] c=true:=by simp [zaf,orB,noB,zak];omega
  have f: ¬ ((65:Int)≤(c:Int))∧(c:Int)≤90∧ ¬ ((97:Int)≤(c:Int))∧(c:Int)≤122∧ ¬ ((48:Int)≤(c:Int))∧(c:Int)≤57∧(32:Int)<(c:Int)∧(c:Int)<127:=by omega
  rw [hv];simp [f,zad hs,zaa hs,zac hs,zab hs]
 ·have hv:zaf [33,126] c=true:=by simp [zaf,orB,noB,zak];omega
  have f: ¬ ((65:Int)≤(c:Int))∧(c:Int)≤90∧ ¬ ((97:Int)≤(c:Int))∧(c:Int)≤122∧(48:Int)≤(c:Int)∧(c:Int)≤57∧(32:Int)<(c:Int)∧(c:Int)<127:=by omega
  rw [hv];simp [f,zad hs,zaa hs,zac hs,zab hs]
 ·have hv:zaf [33,126] c=true:=by simp [zaf,orB,noB,zak];omega
  have f: ¬ ((65:Int)≤(c:Int))∧(c:Int)≤90∧ ¬ ((97:Int)≤(c:Int))∧(c:Int)≤122∧(48:Int)≤(c:Int)∧ ¬ ((c:Int)≤57)∧(32:Int)<(c:Int)∧(c:Int)<127:=by omega
  rw [hv];simp [f,zad hs,zaa hs,zac hs,zab hs]
 ·have hv:zaf [33,126] c=true:=by simp [zaf,orB,noB,zak];omega
  have f:(65:Int)≤(c:Int)∧(c:Int)≤90∧ ¬ ((97:Int)≤(c:Int))∧(c:Int)≤122∧(48:Int)≤(c:Int)∧ ¬ ((c:Int)≤57)∧(32:Int)<(c:Int)∧(c:Int)<127:=by omega
  rw [hv];simp [f,zad hs,zaa hs,zac hs,zab hs]
 ·have hv:zaf [33,126] c=true:=by simp [zaf,orB,noB,zak];omega
  have f:(65:Int)≤(c:Int)∧ ¬ ((c:Int)≤90)∧ ¬ ((97:Int)≤(c:Int))∧(c:Int)≤122∧(48:Int)≤(c:Int)∧ ¬ ((c:Int)≤57)∧(32:Int)<(c:Int)∧(c:Int)<127:=by omega
  rw [hv];simp [f,zad hs,zaa hs,zac hs,zab hs]
 ·have hv:zaf [33,126] c=true:=by simp [zaf,orB,noB,zak];omega
  have f:(65:Int)≤(c:Int)∧ ¬ ((c:Int)≤90)∧(97:Int)≤(c:Int)∧(c:Int)≤122∧(48:Int)≤(c:Int)∧ ¬ ((c:Int)≤57)∧(32:Int)<(c:Int)∧(c:Int)<127:=by omega
  rw [hv];simp [f,zad hs,zaa hs,zac hs,zab hs]
 ·have hv:zaf [33,126] c=true:=by simp [zaf,orB,noB,zak];omega
  have f:(65:Int)≤(c:Int)∧ ¬ ((c:Int)≤90)∧(97:Int)≤(c:Int)∧ ¬ ((c:Int)≤122)∧(48:Int)≤(c:Int)∧ ¬ ((c:Int)≤57)∧(32:Int)<(c:Int)∧(c:Int)<127:=by omega
  rw [hv];simp [f,zad hs,zaa hs,zac hs,zab hs]
 ·have hv:zaf [33,126] c=false:=by simp [zaf,orB,noB,zak];omega
  have f:(65:Int)≤(c:Int)∧ ¬ ((c:Int)≤90)∧(97:Int)≤(c:Int)∧ ¬ ((c:Int)≤122)∧(48:Int)≤(c:Int)∧ ¬ ((c:Int)≤57)∧(32:Int)<(c:Int)∧ ¬ ((c:Int)<127):=by omega
  rw [hv];simp [f,zad hs,zaa hs,zac hs,zab hs]
theorem zta {bar:Nat} {H:Heap} {c:Nat} (hc:c<256):Rn fsT SA.sp bar 120 [.str [99,110,116,114,108],num c] H=some (.ret (.tup [.bool (zaf [0,31,127,127] c), .bool true]),H):=by
 have hs:=SA.mono
 have hp:(c<32)∨(32≤c∧c<48)∨(48≤c∧c<58)∨(58≤c∧c<65)∨(65≤c∧c<91)∨(91≤c∧c<97)∨(97≤c∧c<123)∨(123≤c∧c<127)∨(127≤c∧c<128)∨(128≤c∧c<256):=by omega
 refine zao hs zdG rfl rfl rfl ?_
 rw [zfF]
 rcases hp with h | h | h | h | h | h | h | h | h | h
 ·have hv:zaf [0,31,127,127] c=true:=by simp [zaf,orB,noB,zak];omega
  have e0:((c:Int)==127)=false:=by simp;omega
  have f: ¬ ((65:Int)≤(c:Int))∧(c:Int)≤90∧ ¬ ((97:Int)≤(c:Int))∧(c:Int)≤122∧ ¬ ((48:Int)≤(c:Int))∧(c:Int)≤57∧(c:Int)<32:=by omega
  rw [hv];simp [f,e0,zad hs,zaa hs,zac hs,zab hs]
 ·have hv:zaf [0,31,127,127] c=false:=by simp [zaf,orB,noB,zak];omega
  have e0:((c:Int)==127)=false:=by simp;omega
  have f: ¬ ((65:Int)≤(c:Int))∧(c:Int)≤90∧ ¬ ((97:Int)≤(c:Int))∧(c:Int)≤122∧ ¬ ((48:Int)≤(c:Int))∧(c:Int)≤57∧ ¬ ((c:Int)<32):=by omega
  rw [hv];simp [f,e0,zad hs,zaa hs,zac hs,zab hs]
 ·have hv:zaf [0,31,127,127] c=false:=by simp [zaf,orB,noB,zak];omega
  have e0:((c:Int)==127)=false:=by simp;omega
  have f: ¬ ((65:Int)≤(c:Int))∧(c:Int)≤90∧ ¬ ((97:Int)≤(c:Int))∧(c:Int)≤122∧(48:Int)≤(c:Int)∧(c:Int)≤57∧ ¬ ((c:Int)<32):=by omega
  rw [hv];simp [f,e0,zad hs,zaa hs,zac hs,zab hs]
 ·have hv:zaf [0,31,127,127] c=false:=by simp [zaf,orB,noB,zak];omega
  have e0:((c:Int)==127)=false:=by simp;omega
  have f: ¬ ((65:Int)≤(c:Int))∧(c:Int)≤90∧ ¬ ((97:Int)≤(c:Int))∧(c:Int)≤122∧(48:Int)≤(c:Int)∧ ¬ ((c:Int)≤57)∧ ¬ ((c:Int)<32):=by omega
  rw [hv];simp [f,e0,zad hs,zaa hs,zac hs,zab hs]
 ·have hv:zaf [0,31,127,127] c=false:=by simp [zaf,orB,noB,zak];omega
  have e0:((c:Int)==127)=false:=by simp;omega
  have f:(65:Int)≤(c:Int)∧(c:Int)≤90∧ ¬ ((97:Int)≤(c:Int))∧(c:Int)≤122∧(48:Int)≤(c:Int)∧ ¬ ((c:Int)≤57)∧ ¬ ((c:Int)<32):=by omega
  rw [hv];simp [f,e0,zad hs,zaa hs,zac hs,zab hs]
 ·have hv:zaf [0,31,127,127] c=false:=by simp [zaf,orB,noB,zak];omega
  have e0:((c:Int)==127)=false:=by simp;omega
  have f:(65:Int)≤(c:Int)∧ ¬ ((c:Int)≤90)∧ ¬ ((97:Int)≤(c:Int))∧(c:Int)≤122∧(48:Int)≤(c:Int)∧ ¬ ((c:Int)≤57)∧ ¬ ((c:Int)<32):=by omega
  rw [hv];simp [f,e0,zad hs,zaa hs,zac hs,zab hs]
 ·have hv:zaf [0,31,127,127] c=false:=by simp [zaf,orB,noB,zak];omega
  have e0:((c:Int)==127)=false:=by simp;omega
  have f:(65:Int)≤(c:Int)∧ ¬ ((c:Int)≤90)∧(97:Int)≤(c:Int)∧(c:Int)≤122∧(48:Int)≤(c:Int)∧ ¬ ((c:Int)≤57)∧ ¬ ((c:Int)<32):=by omega
  rw [hv];simp [f,e0,zad hs,zaa hs,zac hs,zab hs]
 ·have hv:zaf [0,31,127,127] c=false:=by simp [zaf,orB,noB,zak];omega
  have e0:((c:Int)==127)=false:=by simp;omega
  have f:(65:Int)≤(c:Int)∧ ¬ ((c:Int)≤90)∧(97:Int)≤(c:Int)∧ ¬ ((c:Int)≤122)∧(48:Int)≤(c:Int)∧ ¬ ((c:Int)≤57)∧ ¬ ((c:Int)<32):=by omega
  rw [hv];simp [f,e0,zad hs,zaa hs,zac hs,zab hs]
 ·have hv:zaf [0,31,127,127] c=true:=by simp [zaf,orB,noB,zak];omega
  have e0:((c:Int)==127)=true:=by simp;omega
  have f:(65:Int)≤(c:Int)∧ ¬ ((c:Int)≤90)∧(97:Int)≤(c:Int)∧ ¬ ((c:Int)≤122)∧(48:Int)≤(c:Int)∧ ¬ ((c:Int)≤57)∧ ¬ ((c:Int)<32):=by omega
  rw [hv];simp [f,e0,zad hs,zaa hs,zac hs,zab hs]
 ·have hv:zaf [0,31,127,127] c=false:=by simp [zaf,orB,noB,zak];omega
  have e0:((c:Int)==127)=false:=by simp;omega
  have f:(65:Int)≤(c:Int)∧ ¬ ((c:Int)≤90)∧(97:Int)≤(c:Int)∧ ¬ ((c:Int)≤122)∧(48:Int)≤(c:Int)∧ ¬ ((c:Int)≤57)∧ ¬ ((c:Int)<32):=by omega
  rw [hv];simp [f,e0,zad hs,zaa hs,zac hs,zab hs]
theorem zq2 {bar:Nat} {H:Heap} {c:Nat} (hc:c<256):Rn fsT SA.sp bar 120 [.str [120,100,105,103,105,116],num c] H=some (.ret (.tup [.bool (zaf [48,57,65,70,97,102] c), .bool true]),H):=by
 have hs:=SA.mono
 have hp:(c<48)∨(48≤c∧c<58)∨(58≤c∧c<65)∨(65≤c∧c<71)∨(71≤c∧c<91)∨(91≤c∧c<97)∨(97≤c∧c<103)∨(103≤c∧c<123)∨(123≤c∧c<256):=by omega
 refine zao hs zdG rfl rfl rfl ?_
 rw [zfF]
 rcases hp with h | h | h | h | h | h | h | h | h
 ·have hv:zaf [48,57,65,70,97,102] c=false:=by simp [zaf,orB,noB,zak];omega
  have f: ¬ ((65:Int)≤(c:Int))∧(c:Int)≤90∧ ¬ ((97:Int)≤(c:Int))∧(c:Int)≤122∧ ¬ ((48:Int)≤(c:Int))∧(c:Int)≤57∧(c:Int)≤70∧(c:Int)≤102:=by omega
  rw [hv];simp [f,zad hs,zaa hs,zac hs,zab hs]
 ·have hv:zaf [48,57,65,70,97,102] c=true:=by simp [zaf,orB,noB,zak];omega
  have f: ¬ ((65:Int)≤(c:Int))∧(c:Int)≤90∧ ¬ ((97:Int)≤(c:Int))∧(c:Int)≤122∧(48:Int)≤(c:Int)∧(c:Int)≤57∧(c:Int)≤70∧(c:Int)≤102:=by omega
  rw [hv];simp [f,zad hs,zaa hs,zac hs,zab hs]
 ·have hv:zaf [48,57,65,70,97,102] c=false:=by simp [zaf,orB,noB,zak];omega
  have f: ¬ ((65:Int)≤(c:Int))∧(c:Int)≤90∧ ¬ ((97:Int)≤(c:Int))∧(c:Int)≤122∧(48:Int)≤(c:Int)∧ ¬ ((c:Int)≤57)∧(c:Int)≤70∧(c:Int)≤102:=by omega
  rw [hv];simp [f,zad hs,zaa hs,zac hs,zab hs]
 ·have hv:zaf [48,57,65,70,97,102] c=true:=by simp [zaf,orB,noB,zak];omega
  have f:(65:Int)≤(c:Int)∧(c:Int)≤90∧ ¬ ((97:Int)≤(c:Int))∧(c:Int)≤122∧(48:Int)≤(c:Int)∧ ¬ ((c:Int)≤57)∧(c:Int)≤70∧(c:Int)≤102:=by omega
  rw [hv];simp [f,zad hs,zaa hs,zac hs,zab hs]
 ·have hv:zaf [48,57,65,70,97,102] c=false:=by simp [zaf,orB,noB,zak];omega
  have f:(65:Int)≤(c:Int)∧(c:Int)≤90∧ ¬ ((97:Int)≤(c:Int))∧(c:Int)≤122∧(48:Int)≤(c:Int)∧ ¬ ((c:Int)≤57)∧ ¬ ((c:Int)≤70)∧(c:Int)≤102:=by omega
  rw [hv];simp [f,zad hs,zaa hs,zac hs,zab hs]
 ·have hv:zaf [48,57,65,70,97,102] c=false:=by simp [zaf,orB,noB,zak];omega
  have f:(65:Int)≤(c:Int)∧ ¬ ((c:Int)≤90)∧ ¬ ((97:Int)≤(c:Int))∧(c:Int)≤122∧(48:Int)≤(c:Int)∧ ¬ ((c:Int)≤57)∧ ¬ ((c:Int)≤70)∧(c:Int)≤102:=by omega
  rw [hv];simp [f,zad hs,zaa hs,zac hs,zab hs]
 ·have hv:zaf [48,57,65,70,97,102] c=true:=by simp [zaf,orB,noB,zak];omega
  have f:(65:Int)≤(c:Int)∧ ¬ ((c:Int)≤90)∧(97:Int)≤(c:Int)∧(c:Int)≤122∧(48:Int)≤(c:Int)∧ ¬ ((c:Int)≤57)∧ ¬ ((c:Int)≤70)∧(c:Int)≤102:=by omega
  rw [hv];simp [f,zad hs,zaa hs,zac hs,zab hs]
 ·have hv:zaf [48,57,65,70,97,102] c=false:=by simp [zaf,orB,noB,zak];omega
  have f:(65:Int)≤(c:Int)∧ ¬ ((c:Int)≤90)∧(97:Int)≤(c:Int)∧(c:Int)≤122∧(48:Int)≤(c:Int)∧ ¬ ((c:Int)≤57)∧ ¬ ((c:Int)≤70)∧ ¬ ((c:Int)≤102):=by omega
  rw [hv];simp [f,zad hs,zaa hs,zac hs,zab hs]
 ·have hv:zaf [48,57,65,70,97,102] c=false:=by simp [zaf,orB,noB,zak];omega
  have f:(65:Int)≤(c:Int)∧ ¬ ((c:Int)≤90)∧(97:Int)≤(c:Int)∧ ¬ ((c:Int)≤122)∧(48:Int)≤(c:Int)∧ ¬ ((c:Int)≤57)∧ ¬ ((c:Int)≤70)∧ ¬ ((c:Int)≤102):=by omega
  rw [hv];simp [f,zad hs,zaa hs,zac hs,zab hs]
theorem zte {name:List UInt8} (h:zaD name ≠ []) {c:Nat} (hc:c<256) (bar:Nat) (H:Heap):Rn fsT SA.sp bar 120 [.str name,num c] H=some (.ret (.tup [.bool (zaf (zaD name) c), .bool true]),H):=by
 rw [zir] at h ⊢
 by_cases h0:name= [97,108,112,104,97]
 ·rw [h0];exact ztc hc
 rw [if_neg h0] at h ⊢
 by_cases h1:name= [100,105,103,105,116]
 ·rw [h1];exact zs9 hc
 rw [if_neg h1] at h ⊢
 by_cases h2:name= [97,108,110,117,109]
 ·rw [h2];exact ztd hc
 rw [if_neg h2] at h ⊢
 by_cases h3:name= [117,112,112,101,114]
 ·rw [h3];exact zs3 hc
 rw [if_neg h3] at h ⊢
 by_cases h4:name= [108,111,119,101,114]
 ·rw [h4];exact zs7 hc
 rw [if_neg h4] at h ⊢
 by_cases h5:name= [115,112,97,99,101]
 ·rw [h5];exact zs4 hc
 rw [if_neg h5] at h ⊢
 by_cases h6:name= [98,108,97,110,107]
 ·rw [h6];exact ztb hc
 rw [if_neg h6] at h ⊢
 by_cases h7:name= [112,117,110,99,116]
 ·rw [h7];exact zs5 hc
 rw [if_neg h7] at h ⊢
 by_cases h8:name= [112,114,105,110,116]
 ·rw [h8];exact zs6 hc
 rw [if_neg h8] at h ⊢
 by_cases h9:name= [103,114,97,112,104]
 ·rw [h9];exact zs8 hc
 rw [if_neg h9] at h ⊢
 by_cases h10:name= [99,110,116,114,108]
 ·rw [h10];exact zta hc
 rw [if_neg h10] at h ⊢
 by_cases h11:name= [120,100,105,103,105,116]
 ·rw [h11];exact zq2 hc
 rw [if_neg h11] at h ⊢
 exact absurd rfl h
end
end Go.Ak
