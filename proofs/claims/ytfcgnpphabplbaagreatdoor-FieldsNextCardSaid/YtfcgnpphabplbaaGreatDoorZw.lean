/- The document's All. -/
import Derived.Test.YtfcgnpphabplbaaGreatDoorZu
import Derived.Test.YtfcgnpphabplbaaGreatDoorZv
set_option linter.unusedVariables false
set_option linter.unusedSimpArgs false
namespace Go.Ak
attribute [local simp] zbI zc2 zc3 zey zbd zcH zaD zaW zaN zaX zbc zbt zbu za6 zbY zcZ zc0 zbP zbQ
 zaL zcL wanted zbh opd zi2 live zbS zcM zbk zbO zgZ put zdv esc znn zpZ args drop1 zf8 zpW zqn zpY zmb rd wr zbD sub AV.cells pack one setCells zek zlL zcO roOf zaK zeJ zav zat zdr zbi newRow newObj step zbU zbv contents take flat look lim zdV bound zdg zdy eqS eqL eqA ver
 zbX zcY zcX zbV zbW
 List.getElem?_cons_zero List.getElem?_cons_succ zcW zba zaA zaB zbT
attribute [local simp] sR sT cV bL mvV mvL mgV mgL asL asI asB ldN ldV ldL ldG stV stL fdL fdV fdG fgL nlC nlG bnI bvI bnL bvL bxI bxU bgI bgL exT lnS lgS clA clB clC clI pkT pkF pvT pvF pgT pgF ixL axV bxV apL
attribute [-simp] getElem?_pos
section
def lastT (p:Nat→Bool):Nat→Int
 | 0=> -1
 | n+1=>if p n=true then (n:Int) else lastT p n
theorem zqt {p:Nat→Bool}: ∀ (n:Nat),(∀ k,k<n→p k=false)→lastT p n= -1
 | 0,_=>rfl
 | n+1,h=>by rw [lastT,h n (by omega),zqt n fun k hk=>h k (by omega)];rfl
theorem zuv {p:Nat→Bool} {j:Nat} (hj:p j=true): ∀ (n:Nat),j<n→(∀ k,k<n→p k=true→k≤j)→lastT p n=j
 | 0,h,_=>by omega
 | n+1,h,hm=>by
  rw [lastT]
  by_cases e:j=n
  ·subst e;rw [if_pos hj]
  ·rw [if_neg fun k=>by have:=hm n (by omega) k;omega]
   exact zuv hj n (by omega) fun k hk=>hm k (by omega)
theorem zBn {r:Re} (hf:r.fine) (hc:r.can (-1) 1=true) {s:List UInt8} {i:Nat} (hi:i≤s.length):lastT (r.tab s i) (s.length+1)=eF r s i:=by
 have hok:=Re.tab_ok s r (-1) 1 hc
 rcases zsW hf hi with ⟨e,hno⟩ | ⟨j,e,hm,hmax⟩
 ·rw [e]
  refine zqt _ fun k hk=> ?_
  cases h:r.tab s i k with
  | false=>rfl
  | true=>exact absurd ((hok i k (by omega) hk).1 h) (hno k)
 ·rw [e]
  have hj:=Re.M_stays s r i j (by omega) hm
  exact zuv ((hok i j (by omega) hj).2 hm) (s.length+1) hj fun k hk h=>hmax k ((hok i k (by omega) hk).1 h)
theorem zoV {bar:Nat} {H:Heap} {n:Nat} {p:Nat→Bool} (hn:n≤1000): ∀ (m i:Nat) (v:Nat→AV),i+m=n→v 0= .slc .ro (zcJ n p)→v 4=num i→v 3= .int .i64 (lastT p i) →
  Wp (evI fsT SA.sp bar (.loop a155l7) (mkE 16669 v,H)) (fun e t=>e= .exit 0∧ ∃ v',t=(mkE 16669 v',H)∧v' 3= .int .i64 (lastT p n)):=by
 have hs:=SA.mono
 intro m
 induction m with
 | zero =>
  intro i v hi v0 v4 v3
  have hi':i=n:=by omega
  subst hi'
  rw [zah hs a155l7.eq_1]
  simp [zad hs,zaa hs,zab hs,zac hs,zu1,v0,v4,zaz]
  exact ⟨_,rfl,by simp [v3]⟩
 | succ m ih =>
  intro i v hi v0 v4 v3
  have hi':i<n:=by omega
  have hw1:IntKind.i64.wrap ((i:Int)+1)=(i:Int)+1:=zaj _ (by omega)
  have hg:=zcI p hi'
  rw [zah hs a155l7.eq_1]
  cases hp:p i with
  | false =>
   rw [hp] at hg
   simp [zad hs,zaa hs,zab hs,zac hs,zu1,zzc,zzb,zza,v0,v3,v4,zaz,hi',hw1,hg]
   refine ih (i+1) _ (by omega) ?_ ?_ ?_
   ·simp [v0]
   ·simp
   ·simp [v3,lastT,hp]
  | true =>
   rw [hp] at hg
   simp [zad hs,zaa hs,zab hs,zac hs,zu1,zzc,zzb,zza,v0,v3,v4,zaz,hi',hw1,hg]
   refine ih (i+1) _ (by omega) ?_ ?_ ?_
   ·simp [v0]
   ·simp
   ·simp [lastT,hp]
theorem zqq {bar:Nat} {H:Heap} {n:Nat} {p:Nat→Bool} (hn:n≤1000):Rn fsT SA.sp bar 155 [.slc .ro (zcJ n p)] H=some (.ret (.int .i64 (lastT p n)),H):=by
 have hs:=SA.mono
 have hclo:zcQ [AV.slc .ro (zcJ n p)]=true:=by
  have:=zn3 (List.range n) p
  simp only [zcQ,clo,zcJ,this];rfl
 refine zao hs zFv rfl hclo rfl ?_
 rw [zI0]
 simp [zDW,zDV,zDU,a155,zad hs,zaa hs,zab hs]
 refine (zoV (bar:=0) (H:= []) (p:=p) hn n 0 _ (by omega) ?_ ?_ ?_).mono fun e t h=> ?_
 ·simp
 ·simp
 ·simp [lastT]
 obtain ⟨rfl,v',rfl,k3⟩:=h
 simp [zDT,zad hs,zaa hs,k3]
theorem zvx {bar:Nat} {H:Heap} {n:Nat} {f:Nat→Nat→Bool} (hn:n≤1000): ∀ (m i:Nat) (v:Nat→AV),i+m=n→v 0= .slc .ro (zax n f)→v 7=num i →
  Wp (evI fsT SA.sp bar (.loop a152l7) (mkE 4202995 v,H)) (fun e t=>match zh5 (fun i=>lastT (f i) n) m i with
   | none=>e= .exit 0∧ ∃ v',t=(mkE 4202995 v',H)
   | some (a,b)=>e= .ret∧ ∃ v',t=(mkE 4202995 v',H)∧v' 4=num a∧v' 5=num b∧v' 6= .bool true):=by
 have hs:=SA.mono
 intro m
 induction m with
 | zero =>
  intro i v hi v0 v7
  have hi':i=n:=by omega
  subst hi'
  rw [zah hs a152l7.eq_1]
  simp [zad hs,zaa hs,zab hs,zac hs,zu3,v0,v7,zar,zh5]
  exact ⟨_,rfl⟩
 | succ m ih =>
  intro i v hi v0 v7
  have hi':i<n:=by omega
  have hw1:IntKind.i64.wrap ((i:Int)+1)=(i:Int)+1:=zaj _ (by omega)
  have hg:=zfA f hi'
  have hcall:=fun H=>zqq (bar:=bar) (H:=H) (n:=n) (p:=f i) hn
  rw [zah hs a152l7.eq_1,zh5]
  by_cases h:0≤lastT (f i) n
  ·rw [if_pos h]
   have hb:num (lastT (f i) n).toNat= .int .i64 (lastT (f i) n):=by simp only [num,AV.int.injEq,true_and];omega
   simp [zad hs,zaa hs,zab hs,zac hs,zu3,zzj,zzi,zzh,v0,v7,zar,hi',hg,hcall,h]
   exact ⟨_,rfl,by simp,by simp;omega,by simp⟩
  ·rw [if_neg h]
   simp [zad hs,zaa hs,zab hs,zac hs,zu3,zzj,zzi,zzh,zDY,v0,v7,zar,hi',hg,hcall,h,hw1]
   refine ih (i+1) _ (by omega) ?_ ?_
   ·simp [v0]
   ·simp
theorem zw0 {bar:Nat} {H:Heap} {n:Nat} {f:Nat→Nat→Bool} (hn:n≤1000) {i:Nat} (hi:i≤n):Rn fsT SA.sp bar 152 [.slc .ro (zax n f),num i] H=some (.ret (znk (zh5 (fun i=>lastT (f i) n) (n-i) i)),H):=by
 have hs:=SA.mono
 have hclo:zcQ [.slc .ro (zax n f),num i]=true:=by
  have h1:=zib n f
  simp only [zcQ,h1];rfl
 refine zao hs zFx rfl hclo rfl ?_
 rw [zI2]
 simp [zD0,zDZ,a152,zad hs,zaa hs,zab hs]
 refine (zvx (bar:=0) (H:= []) (f:=f) hn (n-i) i _ (by omega) ?_ ?_).mono fun e t h=> ?_
 ·simp
 ·simp
 cases hq:zh5 (fun i=>lastT (f i) n) (n-i) i with
 | none =>
  rw [hq] at h
  obtain ⟨rfl,v',rfl⟩:=h
  simp [zDX,zad hs,zaa hs,znk,frz,zbj]
 | some x =>
  obtain ⟨a,b⟩:=x
  rw [hq] at h
  obtain ⟨rfl,v',rfl,q6,q7,q8⟩:=h
  simp [q6,q7,q8,znk,frz,zbj]
end
section
def zaS (l:List (Nat×Nat)):List AV:=(l.map zko).map zxi
theorem zbo (l:List (Nat×Nat)):(zaS l).length=l.length:=by simp [zaS]
theorem zkn (l m:List (Nat×Nat)):zaS (l++m)=zaS l++zaS m:=by simp [zaS]
theorem zkm (f t:Nat):zaS [(f,t)]= [.agg [num f,num t]]:=rfl
theorem ziD (l:List (Nat×Nat)):zj8 2 (zaS l)=true:=by
 cases l with
 | nil=>rfl
 | cons x l=>rfl
theorem zvW (H:Heap) (p:Perm) (l:List (Nat×Nat)):frz 0 H (.slc p (zaS l))=some (.slc p (zaS l)):=by
 have:zbj 0 H (zaS l)=some (zaS l):=by
  unfold zaS
  induction l with
  | nil=>rfl
  | cons x l ih=>simp only [List.map_cons,zbj,zxi,frz,ih]
 simp only [frz,this]
def zkt:List (Nat×Nat)→Int
 | []=> -1
 | [x]=>x.2
 | _::y::l=>zkt (y::l)
theorem zfF: ∀ (l:List (Nat×Nat)) (f t:Nat),zkt (l ++ [(f,t)])=t
 | [],_,_=>rfl
 | [_],_,_=>rfl
 | _::y::l,f,t=>zfF (y::l) f t
theorem zwV (l:List (Nat×Nat)):l= []∨ ∃ o f t,l=o ++ [(f,t)]:=by
 rcases List.eq_nil_or_concat l with h | ⟨o,q,h⟩
 ·exact .inl h
 ·exact .inr ⟨o,q.1,q.2,by rw [h,List.concat_eq_append]⟩
theorem znU {e g:Nat→Int}: ∀ (m i:Nat),(∀ k,i≤k→k<i+m→e k=g k)→zh5 e m i=zh5 g m i
 | 0,_,_=>rfl
 | m+1,i,h=>by
  rw [zh5,zh5,h i (Nat.le_refl _) (by omega),znU m (i+1) fun k h1 h2=>h k (by omega) (by omega)]
theorem zog {e g:Nat→Int} {len:Nat} (h: ∀ k,k≤len→e k=g k): ∀ (n at':Nat) (last:Int),zq6 e len n at' last=zq6 g len n at' last
 | 0,_,_=>rfl
 | n+1,at',last=>by
  rw [zq6,zq6,znU (e:=e) (g:=g) (len+1-at') at' fun k h1 h2=>h k (by omega)]
  have ih:=zog h n
  simp only [ih]
theorem zxb {bar:Nat} {H:Heap} {s:List UInt8} (hl:s.length≤900) {f:Nat→Nat→Bool} (he:Ahead (fun i=>lastT (f i) (s.length+1)) s.length) :
  ∀ (n at':Nat) (out:List (Nat×Nat)) (v:Nat→AV),zeC s.length at' (zkt out)≤n→out.length+n≤100000→at'≤s.length+1→v 1= .str s→v 5= .slc .own (zaS out)→v 6=num at'→(∃ p,v 7= .slc p (zax (s.length+1) f)) →
   Wp (evI fsT SA.sp bar (.loop a143l9) (mkE 140737622837239 v,H)) (fun e t=>(e= .exit 0∧ ∃ v',t=(mkE 140737622837239 v',H)∧v' 5= .slc .own (zaS (out++zq6 (fun i=>lastT (f i) (s.length+1)) s.length n at' (zkt out)))) ∨
    (e= .ret∧ ∃ v',t=(mkE 140737622837239 v',H)∧v' 4= .slc .own (zaS (out++zq6 (fun i=>lastT (f i) (s.length+1)) s.length n at' (zkt out))))):=by
 have hs:=SA.mono
 have htl:List.take (s.length+1) (zax (s.length+1) f)=zax (s.length+1) f:=List.take_of_length_le (by rw [zar];exact Nat.le_refl _)
 intro n
 induction n with
 | zero=>intro at' out v h;unfold zeC at h;omega
 | succ n ih =>
  intro at' out v hfu hon hat v1 v5 v6 ⟨p,v7⟩
  rw [zah hs a143l9.eq_1,zq6]
  by_cases h0:s.length<at'
  ·have h0': ¬ at'≤s.length:=by omega
   rw [if_pos h0]
   simp [zad hs,zaa hs,zab hs,zac hs,zmC,v1,v6,h0']
   exact ⟨_,rfl,by simp [v5]⟩
  rw [if_neg h0]
  have h0':at'≤s.length:=by omega
  have hcall:=fun H=>zw0 (bar:=bar) (H:=H) (n:=s.length+1) (f:=f) (by omega) (i:=at') hat
  have htr:List.take out.length (zaS out)=zaS out:=List.take_of_length_le (by rw [zbo];exact Nat.le_refl _)
  have hok:=ziD out
  cases hq:zh5 (fun i=>lastT (f i) (s.length+1)) (s.length+1-at') at' with
  | none =>
   rw [hq] at hcall
   simp only [znk] at hcall
   simp only [List.append_nil]
   cases p <;>
    (simp [zad hs,zaa hs,zab hs,zac hs,zmC,zor,zoq,zop,v1,v5,v6,v7,h0',zar,htl,hcall,zbo,htr,hok]
     exact ⟨_,rfl,by simp⟩)
  | some x =>
   obtain ⟨a,b⟩:=x
   rw [hq] at hcall
   simp only [znk] at hcall
   obtain ⟨x1,x2,x3,x4,_⟩:=zjo he _ at' (by omega) hq
   have hw1:IntKind.i64.wrap ((a:Int)+1)=(a:Int)+1:=zaj _ (by omega)
   have hlim:(out.length+1)*2≤4294967296:=by omega
   simp only
   by_cases hc:a=b∧(a:Int)=zkt out
   · -- an empty one just behind
    rw [if_pos hc]
    obtain ⟨c1,c2⟩:=hc
    subst c1
    obtain ⟨o',f',t',ho⟩: ∃ o' f' t',out=o' ++ [(f',t')]:=by
     rcases zwV out with h | h
     ·subst h;simp [zkt] at c2
     ·exact h
    have hlo:zkt out=t':=by rw [ho];exact zfF _ _ _
    have hat2:a=t':=by omega
    have hol:out.length=o'.length+1:=by rw [ho];simp
    have hg:(zaS out)[o'.length]? = some (.agg [num f',num t']):=by
     rw [ho,zkn,zkm,List.getElem?_append_right (by rw [zbo];exact Nat.le_refl _)]
     simp [zbo]
    have hw2:IntKind.i64.wrap ((o'.length:Int)+1-1)=(o'.length:Int):=by rw [zaj _ (by omega)];omega
    have hw3:IntKind.i64.wrap (o'.length:Int)=(o'.length:Int):=zaj _ (by omega)
    have hpl:=zbo out
    rw [hol] at hpl
    have h01:(0:Int)<(o'.length:Int)+1:=by omega
    have hta:((t':Int)==(a:Int))=true:=by simp;omega
    have next: ∀ w:Nat→AV,w 1= .str s→w 5= .slc .own (zaS out)→w 6=num (a+1)→(∃ p,w 7= .slc p (zax (s.length+1) f))→_:=fun w w1 w5 w6 w7=>ih (a+1) out w (by
     unfold zeC at hfu ⊢
     have: ¬ ((a+1:Nat):Int)=zkt out:=by omega
     rw [if_neg this]
     split at hfu<;>omega) (by omega) (by omega) w1 w5 w6 w7
    generalize zaS out=A at *
    cases p <;>
     (simp [zad hs,zaa hs,zab hs,zac hs,zmC,zor,zoq,zop,zrq,zrp,v1,v5,v6,v7,h0',zar,htl,hcall,hpl,hg,hw1,hw2,hw3,h01,hta]
      refine next _ ?_ ?_ ?_ ?_
      ·simp [v1]
      ·simp [v5]
      ·simp
      ·simp [v7])
   ·rw [if_neg hc]
    have next: ∀ w:Nat→AV,w 1= .str s→w 5= .slc .own (zaS out ++ [.agg [num a,num b]])→w 6=num b→(∃ p,w 7= .slc p (zax (s.length+1) f))→_:=fun w w1 w5 w6 w7=>ih b (out ++ [(a,b)]) w (by
     rw [zfF]
     unfold zeC at hfu ⊢
     rw [if_pos rfl]
     split at hfu
     ·rename_i e1
      by_cases e2:b=at'
      ·exact absurd ⟨by omega,by omega⟩ hc
      ·omega
     ·omega) (by simp;omega) (by omega) w1 (by rw [w5,zkn,zkm]) w6 w7
    simp only [zfF,List.append_assoc,List.singleton_append] at next
    have hb2:IntKind.i64.wrap ((a:Int)+1)=(a:Int)+1:=hw1
    by_cases hab:a=b
    ·subst hab
     have c2: ¬ (a:Int)=zkt out:=fun h=>hc ⟨rfl,h⟩
     rcases zwV out with ho | ⟨o',f',t',ho⟩
     ·subst ho
      have hA:zaS []= []:=rfl
      rw [hA] at v5
      cases p <;>
       (simp [zad hs,zaa hs,zab hs,zac hs,zmC,zor,zoq,zop,zrq,zrp,zu5,v1,v5,v6,v7,h0',zar,htl,hcall,zbi,zdr]
        refine next _ ?_ ?_ ?_ ?_
        ·simp [v1]
        ·simp [zaS]
        ·simp
        ·simp [v7])
     ·have hlo:zkt out=t':=by rw [ho];exact zfF _ _ _
      have hol:out.length=o'.length+1:=by rw [ho];simp
      have hg:(zaS out)[o'.length]? = some (.agg [num f',num t']):=by
       rw [ho]
       rw [zkn,zkm,List.getElem?_append_right (by rw [zbo];exact Nat.le_refl _)]
       simp [zbo]
      have hw2:IntKind.i64.wrap ((o'.length:Int)+1-1)=(o'.length:Int):=by rw [zaj _ (by omega)];omega
      have hw3:IntKind.i64.wrap (o'.length:Int)=(o'.length:Int):=zaj _ (by omega)
      have hpl:=zbo out
      rw [hol] at hpl hlim
      have h01:(0:Int)<(o'.length:Int)+1:=by omega
      have hta:((t':Int)==(a:Int))=false:=by simp;omega
      generalize zaS out=A at *
      cases p <;>
       (simp [zad hs,zaa hs,zab hs,zac hs,zmC,zor,zoq,zop,zrq,zrp,zu5,v1,v5,v6,v7,h0',zar,htl,hcall,hpl,hg,hw2,hw3,h01,hta,zbi,zdr,hok,hlim]
        refine next _ ?_ ?_ ?_ ?_
        ·simp [v1]
        ·simp
        ·simp
        ·simp [v7])
    ·have hab':((a:Int)==(b:Int))=false:=by simp;omega
     have hpl:=zbo out
     generalize zaS out=A at *
     cases p <;>
      (simp [zad hs,zaa hs,zab hs,zac hs,zmC,zor,zoq,zop,zrq,zrp,zu5,v1,v5,v6,v7,h0',zar,htl,hcall,hpl,hab',zbi,zdr,hok,hlim]
       refine next _ ?_ ?_ ?_ ?_
       ·simp [v1]
       ·simp
       ·simp
       ·simp [v7])
theorem zAY {bar:Nat} {H:Heap} {s:List UInt8} (hl:s.length≤900) {r:Re} (hf:r.fine) (hc:r.can (-1) 1=true) (hw:r.wide):Rn fsT SA.sp bar 143 [r.av, .str s] H=some (.ret (.slc .own (zaS (zdf r s))),H):=by
 have hs:=SA.mono
 obtain ⟨p,ht⟩:=zwP hl r (-1) 1 hc hw
 have hclo:zcQ [r.av,AV.str s]=true:=by simp only [zcQ,zeN];rfl
 obtain ⟨d,hcs,hcl⟩:=Re.av_agg hw
 have hcl8:8≤d.length:=by omega
 have htk:List.take 8 d=d:=List.take_of_length_le (by omega)
 have hef: ∀ i,i≤s.length→lastT (r.tab s i) (s.length+1)=eF r s i:=fun i hi=>zBn hf hc hi
 have he:Ahead (fun i=>lastT (r.tab s i) (s.length+1)) s.length:=fun i hi=>by
  have:=hef i hi
  simp only [this];exact zlu hf s i hi
 have hall:zq6 (fun i=>lastT (r.tab s i) (s.length+1)) s.length (zeC s.length 0 (-1)) 0 (-1)=zdf r s:=zog (fun i hi=>hef i hi) _ _ _
 have hloop:=fun v=>zxb (bar:=0) (H:= []) hl (f:=r.tab s) he (zeC s.length 0 (-1)) 0 [] v (Nat.le_refl _) (by simp [zeC,zkt];omega) (by omega)
 have hl0:zkt []= -1:=rfl
 simp only [hl0,hall,List.nil_append] at hloop
 have hfr:=zvW [] .own (zdf r s)
 have htr:List.take (zdf r s).length (zaS (zdf r s))=zaS (zdf r s):=List.take_of_length_le (by rw [zbo];exact Nat.le_refl _)
 have hok:=ziD (zdf r s)
 rw [hcs] at ht hclo ⊢
 refine zao hs zFy rfl hclo rfl ?_
 rw [zI3]
 cases p <;>
  (simp [zD2,zD1,a143,zad hs,zaa hs,zab hs,hcl,hcl8,htk,ht]
   refine (hloop _ ?_ ?_ ?_ ?_).mono fun e t h=> ?_
   ·simp
   ·simp [zaS]
   ·simp
   ·simp
   rcases h with ⟨rfl,v',rfl,k5⟩ | ⟨rfl,v',rfl,k4⟩
   ·simp [zzv,zad hs,zaa hs,k5,zbo,htr,hok,hfr]
   ·simp [k4,hfr])
end
end Go.Ak
