/- The document's All, Replace; subst.Sub. -/
import Derived.Test.YtfcgnpphabplbaaGreatUu
import Derived.Test.YtfcgnpphabplbaaGreatUs
import Derived.ProofKit
import Derived.Test.YtfcgnpphabplbaaGreatUv
set_option linter.unusedVariables false
set_option linter.unusedSimpArgs false

namespace Go.Ak
attribute [local simp] zbF zcX zcY zew zbg zcB zaC zaU zaK zaV zbb zbm zbn zaY zbT zcU zcV zbJ zbK
 zaO zcH wanted zbl opd opdL live zbM zcG zbi zbH zf7 put zdi esc escs arg1 args drop1 nbeq nble nblt binA binI rd wr zbB sub AV.cells pack one setCells zdV resV zcM roOf zaJ zeH zaw zav zda za1 newRow newObj step zbP zbo contents take flat look lim zdL bound zc7 zdj eqS eqL eqA ver
 zbS zcT zcS zbQ zbR
 List.getElem?_cons_zero List.getElem?_cons_succ zcR zbc zaA zaB zbO
attribute [local simp] mvV mvL mgV mgL asL asI asB ldN ldV ldL ldG stV stL fdL fdV fdG fgL nlC nlG bnI bvI bnL bvL bxI bxU bgI bgL exT lnS lgS clA clB clC clI pkT pkF pvT pvF pgT pgF ixL axV bxV apL
attribute [-simp] getElem?_pos

section



end

end Go.Ak

namespace Go.Ak
end Go.Ak

namespace Go.Ak
attribute [local simp] zbF zcX zcY zew zbg zcB zaC zaU zaK zaV zbb zbm zbn zaY zbT zcU zcV zbJ zbK
 zaO zcH wanted zbl opd opdL live zbM zcG zbi zbH zf7 put zdi esc escs arg1 args drop1 nbeq nble nblt binA binI rd wr zbB sub AV.cells pack one setCells zdV resV zcM roOf zaJ zeH zaw zav zda za1 newRow newObj step zbP zbo contents take flat look lim zdL bound zc7 zdj eqS eqL eqA ver
 zbS zcT zcS zbQ zbR
 List.getElem?_cons_zero List.getElem?_cons_succ zcR zbc zaA zaB zbO
attribute [local simp] mvV mvL mgV mgL asL asI asB ldN ldV ldL ldG stV stL fdL fdV fdG fgL nlC nlG bnI bvI bnL bvL bxI bxU bgI bgL exT lnS lgS clA clB clC clI pkT pkF pvT pvF pgT pgF ixL axV bxV apL
attribute [-simp] getElem?_pos

section

theorem newF_can {s:List UInt8} {y:Re} {j:Nat} (h:newF s= .ok y j):y.can (-1) 1=true:=by
 unfold newF at h
 split at h
 ·cases h
 split at h
 ·cases h
 split at h
 ·cases h
 ·rename_i h0 _
  simp only [PR.ok.injEq] at h
  obtain ⟨rfl,rfl⟩:=h
  rename_i z _ _ _
  cases hc:z.can (-1) 1 with
  | true=>rfl
  | false=>exact absurd (by simp [Re.states,hc]) h0

end

section

/-- The greatest place of a row; below 0: there is none. -/
def lastT (p:Nat→Bool):Nat→Int
 | 0=> -1
 | n+1=>if p n=true then (n:Int) else lastT p n

theorem lastT_nil {p:Nat→Bool}: ∀ (n:Nat),(∀ k,k<n→p k=false)→lastT p n= -1
 | 0,_=>rfl
 | n+1,h=>by rw [lastT,h n (by omega),lastT_nil n fun k hk=>h k (by omega)];rfl

theorem lastT_at {p:Nat→Bool} {j:Nat} (hj:p j=true): ∀ (n:Nat),j<n→(∀ k,k<n→p k=true→k≤j)→lastT p n=j
 | 0,h,_=>by omega
 | n+1,h,hm=>by
  rw [lastT]
  by_cases e:j=n
  ·subst e;rw [if_pos hj]
  ·rw [if_neg fun k=>by have:=hm n (by omega) k;omega]
   exact lastT_at hj n (by omega) fun k hk=>hm k (by omega)

theorem lastT_eF {r:Re} (hf:r.fine) (hc:r.can (-1) 1=true) {s:List UInt8} {i:Nat} (hi:i≤s.length):lastT (r.tab s i) (s.length+1)=eF r s i:=by
 have hok:=Re.tab_ok s r (-1) 1 hc
 rcases eF_spec hf hi with ⟨e,hno⟩ | ⟨j,e,hm,hmax⟩
 ·rw [e]
  refine lastT_nil _ fun k hk=> ?_
  cases h:r.tab s i k with
  | false=>rfl
  | true=>exact absurd ((hok i k (by omega) hk).1 h) (hno k)
 ·rw [e]
  have hj:=Re.M_stays s r i j (by omega) hm
  exact lastT_at ((hok i j (by omega) hj).2 hm) (s.length+1) hj fun k hk h=>hmax k ((hok i k (by omega) hk).1 h)

theorem longestT_loop {bar:Nat} {H:Heap} {n:Nat} {p:Nat→Bool} (hn:n≤1000): ∀ (m i:Nat) (v:Nat→AV),i+m=n→v 0= .slc .ro (zcL n p)→v 4=num i→v 3= .int .i64 (lastT p i) →
  Wp (evI fsT SA.sp bar (.loop a155l7) (mkE 16669 v,H)) (fun e t=>e= .exit 0∧ ∃ v',t=(mkE 16669 v',H)∧v' 3= .int .i64 (lastT p n)):=by
 have hs:=SA.mono
 intro m
 induction m with
 | zero =>
  intro i v hi v0 v4 v3
  have hi':i=n:=by omega
  subst hi'
  rw [zah hs a155l7.eq_1]
  simp [zad hs,zaa hs,zab hs,zac hs,a155r3,v0,v4,zaz]
  exact ⟨_,rfl,by simp [v3]⟩
 | succ m ih =>
  intro i v hi v0 v4 v3
  have hi':i<n:=by omega
  have hw1:IntKind.i64.wrap ((i:Int)+1)=(i:Int)+1:=zaj _ (by omega)
  have hg:=zcK p hi'
  rw [zah hs a155l7.eq_1]
  cases hp:p i with
  | false =>
   rw [hp] at hg
   simp [zad hs,zaa hs,zab hs,zac hs,a155r3,a155r4,a155r5,a155r6,v0,v3,v4,zaz,hi',hw1,hg]
   refine ih (i+1) _ (by omega) ?_ ?_ ?_
   ·simp [v0]
   ·simp
   ·simp [v3,lastT,hp]
  | true =>
   rw [hp] at hg
   simp [zad hs,zaa hs,zab hs,zac hs,a155r3,a155r4,a155r5,a155r6,v0,v3,v4,zaz,hi',hw1,hg]
   refine ih (i+1) _ (by omega) ?_ ?_ ?_
   ·simp [v0]
   ·simp
   ·simp [lastT,hp]

theorem longestT_run {bar:Nat} {H:Heap} {n:Nat} {p:Nat→Bool} (hn:n≤1000):Rn fsT SA.sp bar 155 [.slc .ro (zcL n p)] H=some (.ret (.int .i64 (lastT p n)),H):=by
 have hs:=SA.mono
 have hclo:zbW [AV.slc .ro (zcL n p)]=true:=by
  have:=cloL_bools (List.range n) p
  simp only [zbW,clo,zcL,this];rfl
 refine zao hs fsT_155 rfl hclo rfl ?_
 rw [env155]
 simp [a155r0,a155r1,a155r2,a155,zad hs,zaa hs,zab hs]
 refine (longestT_loop (bar:=0) (H:= []) (p:=p) hn n 0 _ (by omega) ?_ ?_ ?_).mono fun e t h=> ?_
 ·simp
 ·simp
 ·simp [lastT]
 obtain ⟨rfl,v',rfl,k3⟩:=h
 simp [a155r8,zad hs,zaa hs,k3]

theorem rfind_loop {bar:Nat} {H:Heap} {n:Nat} {f:Nat→Nat→Bool} (hn:n≤1000): ∀ (m i:Nat) (v:Nat→AV),i+m=n→v 0= .slc .ro (zay n f)→v 7=num i →
  Wp (evI fsT SA.sp bar (.loop a152l7) (mkE 4202995 v,H)) (fun e t=>match zgg (fun i=>lastT (f i) n) m i with
   | none=>e= .exit 0∧ ∃ v',t=(mkE 4202995 v',H)
   | some (a,b)=>e= .ret∧ ∃ v',t=(mkE 4202995 v',H)∧v' 4=num a∧v' 5=num b∧v' 6= .bool true):=by
 have hs:=SA.mono
 intro m
 induction m with
 | zero =>
  intro i v hi v0 v7
  have hi':i=n:=by omega
  subst hi'
  rw [zah hs a152l7.eq_1]
  simp [zad hs,zaa hs,zab hs,zac hs,a152r2,v0,v7,zar,zgg]
  exact ⟨_,rfl⟩
 | succ m ih =>
  intro i v hi v0 v7
  have hi':i<n:=by omega
  have hw1:IntKind.i64.wrap ((i:Int)+1)=(i:Int)+1:=zaj _ (by omega)
  have hg:=zfD f hi'
  have hcall:=fun H=>longestT_run (bar:=bar) (H:=H) (n:=n) (p:=f i) hn
  rw [zah hs a152l7.eq_1,zgg]
  by_cases h:0≤lastT (f i) n
  ·rw [if_pos h]
   have hb:num (lastT (f i) n).toNat= .int .i64 (lastT (f i) n):=by simp only [num,AV.int.injEq,true_and];omega
   simp [zad hs,zaa hs,zab hs,zac hs,a152r2,a152r3,a152r4,a152r5,v0,v7,zar,hi',hg,hcall,h]
   exact ⟨_,rfl,by simp,by simp;omega,by simp⟩
  ·rw [if_neg h]
   simp [zad hs,zaa hs,zab hs,zac hs,a152r2,a152r3,a152r4,a152r5,a152r6,v0,v7,zar,hi',hg,hcall,h,hw1]
   refine ih (i+1) _ (by omega) ?_ ?_
   ·simp [v0]
   ·simp

theorem rfind_run {bar:Nat} {H:Heap} {n:Nat} {f:Nat→Nat→Bool} (hn:n≤1000) {i:Nat} (hi:i≤n):Rn fsT SA.sp bar 152 [.slc .ro (zay n f),num i] H=some (.ret (findA (zgg (fun i=>lastT (f i) n) (n-i) i)),H):=by
 have hs:=SA.mono
 have hclo:zbW [.slc .ro (zay n f),num i]=true:=by
  have h1:=clo_rows n f
  simp only [zbW,h1];rfl
 refine zao hs fsT_152 rfl hclo rfl ?_
 rw [env152]
 simp [a152r0,a152r1,a152,zad hs,zaa hs,zab hs]
 refine (rfind_loop (bar:=0) (H:= []) (f:=f) hn (n-i) i _ (by omega) ?_ ?_).mono fun e t h=> ?_
 ·simp
 ·simp
 cases hq:zgg (fun i=>lastT (f i) n) (n-i) i with
 | none =>
  rw [hq] at h
  obtain ⟨rfl,v',rfl⟩:=h
  simp [a152r8,zad hs,zaa hs,findA,frz,zbG]
 | some x =>
  obtain ⟨a,b⟩:=x
  rw [hq] at h
  obtain ⟨rfl,v',rfl,q6,q7,q8⟩:=h
  simp [q6,q7,q8,findA,frz,zbG]

end

section

/-- Parts as a row's elements. -/
def zaH (l:List (Nat×Nat)):List AV:=(l.map zdX).map pairA

theorem zba (l:List (Nat×Nat)):(zaH l).length=l.length:=by simp [zaH]
theorem pairsL_app (l m:List (Nat×Nat)):zaH (l++m)=zaH l++zaH m:=by simp [zaH]
theorem pairsL_one (f t:Nat):zaH [(f,t)]= [.agg [num f,num t]]:=rfl

theorem hdOk_pairsL (l:List (Nat×Nat)):hdOk 2 (zaH l)=true:=by
 cases l with
 | nil=>rfl
 | cons x l=>rfl

theorem cloL_pairsL (l:List (Nat×Nat)):zbW (zaH l)=true:=by
 unfold zaH
 induction l with
 | nil=>rfl
 | cons x l ih=>simp only [List.map_cons,zbW,pairA,clo,ih];rfl

theorem frz_pairsL (H:Heap) (p:Perm) (l:List (Nat×Nat)):frz 0 H (.slc p (zaH l))=some (.slc p (zaH l)):=by
 have:zbG 0 H (zaH l)=some (zaH l):=by
  unfold zaH
  induction l with
  | nil=>rfl
  | cons x l ih=>simp only [List.map_cons,zbG,pairA,frz,ih]
 simp only [frz,this]

/-- Where the last part ends; -1: there is none. -/
def lastO:List (Nat×Nat)→Int
 | []=> -1
 | [x]=>x.2
 | _::y::l=>lastO (y::l)

theorem zfH: ∀ (l:List (Nat×Nat)) (f t:Nat),lastO (l ++ [(f,t)])=t
 | [],_,_=>rfl
 | [_],_,_=>rfl
 | _::y::l,f,t=>zfH (y::l) f t

theorem snoc_or (l:List (Nat×Nat)):l= []∨ ∃ o f t,l=o ++ [(f,t)]:=by
 rcases List.eq_nil_or_concat l with h | ⟨o,q,h⟩
 ·exact .inl h
 ·exact .inr ⟨o,q.1,q.2,by rw [h,List.concat_eq_append]⟩

theorem fndF_congr {e g:Nat→Int}: ∀ (m i:Nat),(∀ k,i≤k→k<i+m→e k=g k)→zgg e m i=zgg g m i
 | 0,_,_=>rfl
 | m+1,i,h=>by
  rw [zgg,zgg,h i (Nat.le_refl _) (by omega),fndF_congr m (i+1) fun k h1 h2=>h k (by omega) (by omega)]

theorem allF_congr {e g:Nat→Int} {len:Nat} (h: ∀ k,k≤len→e k=g k): ∀ (n at':Nat) (last:Int),allF e len n at' last=allF g len n at' last
 | 0,_,_=>rfl
 | n+1,at',last=>by
  rw [allF,allF,fndF_congr (e:=e) (g:=g) (len+1-at') at' fun k h1 h2=>h k (by omega)]
  have ih:=allF_congr h n
  simp only [ih]

theorem rall_loop {bar:Nat} {H:Heap} {s:List UInt8} (hl:s.length≤900) {f:Nat→Nat→Bool} (he:Ahead (fun i=>lastT (f i) (s.length+1)) s.length) :
  ∀ (n at':Nat) (out:List (Nat×Nat)) (v:Nat→AV),zez s.length at' (lastO out)≤n→out.length+n≤100000→at'≤s.length+1→v 1= .str s→v 5= .slc .own (zaH out)→v 6=num at'→(∃ p,v 7= .slc p (zay (s.length+1) f)) →
   Wp (evI fsT SA.sp bar (.loop a143l9) (mkE 140737622837239 v,H)) (fun e t=>(e= .exit 0∧ ∃ v',t=(mkE 140737622837239 v',H)∧v' 5= .slc .own (zaH (out++allF (fun i=>lastT (f i) (s.length+1)) s.length n at' (lastO out)))) ∨
    (e= .ret∧ ∃ v',t=(mkE 140737622837239 v',H)∧v' 4= .slc .own (zaH (out++allF (fun i=>lastT (f i) (s.length+1)) s.length n at' (lastO out))))):=by
 have hs:=SA.mono
 have htl:List.take (s.length+1) (zay (s.length+1) f)=zay (s.length+1) f:=List.take_of_length_le (by rw [zar];exact Nat.le_refl _)
 intro n
 induction n with
 | zero=>intro at' out v h;unfold zez at h;omega
 | succ n ih =>
  intro at' out v hfu hon hat v1 v5 v6 ⟨p,v7⟩
  rw [zah hs a143l9.eq_1,allF]
  by_cases h0:s.length<at'
  ·have h0': ¬ at'≤s.length:=by omega
   rw [if_pos h0]
   simp [zad hs,zaa hs,zab hs,zac hs,a143r2,v1,v6,h0']
   exact ⟨_,rfl,by simp [v5]⟩
  rw [if_neg h0]
  have h0':at'≤s.length:=by omega
  have hcall:=fun H=>rfind_run (bar:=bar) (H:=H) (n:=s.length+1) (f:=f) (by omega) (i:=at') hat
  have htr:List.take out.length (zaH out)=zaH out:=List.take_of_length_le (by rw [zba];exact Nat.le_refl _)
  have hok:=hdOk_pairsL out
  cases hq:zgg (fun i=>lastT (f i) (s.length+1)) (s.length+1-at') at' with
  | none =>
   rw [hq] at hcall
   simp only [findA] at hcall
   simp only [List.append_nil]
   cases p <;>
    (simp [zad hs,zaa hs,zab hs,zac hs,a143r2,a143r3,a143r4,a143r5,v1,v5,v6,v7,h0',zar,htl,hcall,zba,htr,hok]
     exact ⟨_,rfl,by simp⟩)
  | some x =>
   obtain ⟨a,b⟩:=x
   rw [hq] at hcall
   simp only [findA] at hcall
   obtain ⟨x1,x2,x3,x4,_⟩:=fndF_some he _ at' (by omega) hq
   have hw1:IntKind.i64.wrap ((a:Int)+1)=(a:Int)+1:=zaj _ (by omega)
   have hlim:(out.length+1)*2≤4294967296:=by omega
   simp only
   by_cases hc:a=b∧(a:Int)=lastO out
   · -- an empty one just behind
    rw [if_pos hc]
    obtain ⟨c1,c2⟩:=hc
    subst c1
    obtain ⟨o',f',t',ho⟩: ∃ o' f' t',out=o' ++ [(f',t')]:=by
     rcases snoc_or out with h | h
     ·subst h;simp [lastO] at c2
     ·exact h
    have hlo:lastO out=t':=by rw [ho];exact zfH _ _ _
    have hat2:a=t':=by omega
    have hol:out.length=o'.length+1:=by rw [ho];simp
    have hg:(zaH out)[o'.length]? = some (.agg [num f',num t']):=by
     rw [ho,pairsL_app,pairsL_one,List.getElem?_append_right (by rw [zba];exact Nat.le_refl _)]
     simp [zba]
    have hw2:IntKind.i64.wrap ((o'.length:Int)+1-1)=(o'.length:Int):=by rw [zaj _ (by omega)];omega
    have hw3:IntKind.i64.wrap (o'.length:Int)=(o'.length:Int):=zaj _ (by omega)
    have hpl:=zba out
    rw [hol] at hpl
    have h01:(0:Int)<(o'.length:Int)+1:=by omega
    have hta:((t':Int)==(a:Int))=true:=by simp;omega
    have next: ∀ w:Nat→AV,w 1= .str s→w 5= .slc .own (zaH out)→w 6=num (a+1)→(∃ p,w 7= .slc p (zay (s.length+1) f))→_:=fun w w1 w5 w6 w7=>ih (a+1) out w (by
     unfold zez at hfu ⊢
     have: ¬ ((a+1:Nat):Int)=lastO out:=by omega
     rw [if_neg this]
     split at hfu<;>omega) (by omega) (by omega) w1 w5 w6 w7
    generalize zaH out=A at *
    cases p <;>
     (simp [zad hs,zaa hs,zab hs,zac hs,a143r2,a143r3,a143r4,a143r5,a143r6,a143r7,v1,v5,v6,v7,h0',zar,htl,hcall,hpl,hg,hw1,hw2,hw3,h01,hta]
      refine next _ ?_ ?_ ?_ ?_
      ·simp [v1]
      ·simp [v5]
      ·simp
      ·simp [v7])
   ·rw [if_neg hc]
    have next: ∀ w:Nat→AV,w 1= .str s→w 5= .slc .own (zaH out ++ [.agg [num a,num b]])→w 6=num b→(∃ p,w 7= .slc p (zay (s.length+1) f))→_:=fun w w1 w5 w6 w7=>ih b (out ++ [(a,b)]) w (by
     rw [zfH]
     unfold zez at hfu ⊢
     rw [if_pos rfl]
     split at hfu
     ·rename_i e1
      by_cases e2:b=at'
      ·exact absurd ⟨by omega,by omega⟩ hc
      ·omega
     ·omega) (by simp;omega) (by omega) w1 (by rw [w5,pairsL_app,pairsL_one]) w6 w7
    simp only [zfH,List.append_assoc,List.singleton_append] at next
    have hb2:IntKind.i64.wrap ((a:Int)+1)=(a:Int)+1:=hw1
    by_cases hab:a=b
    ·subst hab
     have c2: ¬ (a:Int)=lastO out:=fun h=>hc ⟨rfl,h⟩
     rcases snoc_or out with ho | ⟨o',f',t',ho⟩
     ·subst ho
      have hA:zaH []= []:=rfl
      rw [hA] at v5
      cases p <;>
       (simp [zad hs,zaa hs,zab hs,zac hs,a143r2,a143r3,a143r4,a143r5,a143r6,a143r7,a143r8,v1,v5,v6,v7,h0',zar,htl,hcall,za1,zda]
        refine next _ ?_ ?_ ?_ ?_
        ·simp [v1]
        ·simp [zaH]
        ·simp
        ·simp [v7])
     ·have hlo:lastO out=t':=by rw [ho];exact zfH _ _ _
      have hol:out.length=o'.length+1:=by rw [ho];simp
      have hg:(zaH out)[o'.length]? = some (.agg [num f',num t']):=by
       rw [ho]
       rw [pairsL_app,pairsL_one,List.getElem?_append_right (by rw [zba];exact Nat.le_refl _)]
       simp [zba]
      have hw2:IntKind.i64.wrap ((o'.length:Int)+1-1)=(o'.length:Int):=by rw [zaj _ (by omega)];omega
      have hw3:IntKind.i64.wrap (o'.length:Int)=(o'.length:Int):=zaj _ (by omega)
      have hpl:=zba out
      rw [hol] at hpl hlim
      have h01:(0:Int)<(o'.length:Int)+1:=by omega
      have hta:((t':Int)==(a:Int))=false:=by simp;omega
      generalize zaH out=A at *
      cases p <;>
       (simp [zad hs,zaa hs,zab hs,zac hs,a143r2,a143r3,a143r4,a143r5,a143r6,a143r7,a143r8,v1,v5,v6,v7,h0',zar,htl,hcall,hpl,hg,hw2,hw3,h01,hta,za1,zda,hok,hlim]
        refine next _ ?_ ?_ ?_ ?_
        ·simp [v1]
        ·simp
        ·simp
        ·simp [v7])
    ·have hab':((a:Int)==(b:Int))=false:=by simp;omega
     have hpl:=zba out
     generalize zaH out=A at *
     cases p <;>
      (simp [zad hs,zaa hs,zab hs,zac hs,a143r2,a143r3,a143r4,a143r5,a143r6,a143r7,a143r8,v1,v5,v6,v7,h0',zar,htl,hcall,hpl,hab',za1,zda,hok,hlim]
       refine next _ ?_ ?_ ?_ ?_
       ·simp [v1]
       ·simp
       ·simp
       ·simp [v7])

theorem rall_run {bar:Nat} {H:Heap} {s:List UInt8} (hl:s.length≤900) {r:Re} (hf:r.fine) (hc:r.can (-1) 1=true) (hw:r.wide):Rn fsT SA.sp bar 143 [r.av, .str s] H=some (.ret (.slc .own (zaH (zcO r s))),H):=by
 have hs:=SA.mono
 obtain ⟨p,ht⟩:=tab_run hl r (-1) 1 hc hw
 have hclo:zbW [r.av,AV.str s]=true:=by simp only [zbW,zeD];rfl
 obtain ⟨d,hcs,hcl⟩:=Re.av_agg hw
 have hcl8:8≤d.length:=by omega
 have htk:List.take 8 d=d:=List.take_of_length_le (by omega)
 have hef: ∀ i,i≤s.length→lastT (r.tab s i) (s.length+1)=eF r s i:=fun i hi=>lastT_eF hf hc hi
 have he:Ahead (fun i=>lastT (r.tab s i) (s.length+1)) s.length:=fun i hi=>by
  have:=hef i hi
  simp only [this];exact eF_ahead hf s i hi
 have hall:allF (fun i=>lastT (r.tab s i) (s.length+1)) s.length (zez s.length 0 (-1)) 0 (-1)=zcO r s:=allF_congr (fun i hi=>hef i hi) _ _ _
 have hloop:=fun v=>rall_loop (bar:=0) (H:= []) hl (f:=r.tab s) he (zez s.length 0 (-1)) 0 [] v (Nat.le_refl _) (by simp [zez,lastO];omega) (by omega)
 have hl0:lastO []= -1:=rfl
 simp only [hl0,hall,List.nil_append] at hloop
 have hfr:=frz_pairsL [] .own (zcO r s)
 have htr:List.take (zcO r s).length (zaH (zcO r s))=zaH (zcO r s):=List.take_of_length_le (by rw [zba];exact Nat.le_refl _)
 have hok:=hdOk_pairsL (zcO r s)
 rw [hcs] at ht hclo ⊢
 refine zao hs fsT_143 rfl hclo rfl ?_
 rw [env143]
 cases p <;>
  (simp [a143r0,a143r1,a143,zad hs,zaa hs,zab hs,hcl,hcl8,htk,ht]
   refine (hloop _ ?_ ?_ ?_ ?_).mono fun e t h=> ?_
   ·simp
   ·simp [zaH]
   ·simp
   ·simp
   rcases h with ⟨rfl,v',rfl,k5⟩ | ⟨rfl,v',rfl,k4⟩
   ·simp [a143r10,zad hs,zaa hs,k5,zba,htr,hok,hfr]
   ·simp [k4,hfr])

end

section

theorem replace_loop {bar:Nat} {H:Heap} {by' s:List UInt8} (hby:by'.length≤100) (hl:s.length≤1000) {A:List AV} {N:Nat} (hN:A.length=N) (hN2:N≤1001) (total:List UInt8) :
  ∀ (rest:List (Nat×Nat)) (i at':Nat) (last:Int) (out:List UInt8) (v:Nat→AV),i+rest.length=N→A.drop i=zaH rest→at'≤s.length→InOrder s.length at' last rest →
   v 0= .slc .ro A→v 1= .str by'→v 2= .str s→v 7= .str out→v 8=num at'→v 9=num i→out.length≤i*200000→out++replF by' s at' rest=total →
   Wp (evI fsT SA.sp bar (.loop a144l6) (mkE 9159 v,H)) (fun e t=>e= .exit 0∧ ∃ v' out' a,t=(mkE 9159 v',H)∧v' 2= .str s∧v' 7= .str out'∧v' 8=num a∧a≤s.length∧out'.length≤300000000∧out'++s.drop a=total):=by
 have hs:=SA.mono
 intro rest
 induction rest with
 | nil =>
  intro i at' last out v hi hd hat hord v0 v1 v2 v7 v8 v9 hout htot
  simp only [List.length_nil,Nat.add_zero] at hi
  subst hi
  rw [zah hs a144l6.eq_1]
  simp [zad hs,zaa hs,zab hs,zac hs,a144r3,v0,v9,hN]
  exact ⟨_,rfl,by simp [v2],out,by simp [v7],at',by simp [v8],hat,by omega,htot⟩
 | cons x rest ih =>
  obtain ⟨f,t⟩:=x
  intro i at' last out v hi hd hat hord v0 v1 v2 v7 v8 v9 hout htot
  obtain ⟨o1,o2,o3,o4,o5⟩:=hord
  simp only [List.length_cons] at hi
  have hiN:i<N:=by omega
  have hg:A[i]? = some (.agg [num f,num t]):=by
   have:(A.drop i)[0]? = some (.agg [num f,num t]):=by rw [hd];rfl
   simpa using this
  have hd2:A.drop (i+1)=zaH rest:=by
   have:(A.drop i).drop 1=zaH rest:=by rw [hd];rfl
   rw [List.drop_drop] at this
   exact this
  have hw1:IntKind.i64.wrap ((i:Int)+1)=(i:Int)+1:=zaj _ (by omega)
  have hf:f≤s.length:=by omega
  have hpl:=zgc ((s.drop f).take (t-f)) by'
  have hpl2:by'.length*(((s.drop f).take (t-f)).length+1)≤100*1001:=Nat.mul_le_mul hby (by simp;omega)
  have hp1:((s.drop at').take (f-at')).length≤1000:=by simp;omega
  have hmul:i*200000≤1001*200000:=Nat.mul_le_mul_right _ (by omega)
  have hput:=fun H=>refput_run (bar:=bar) (H:=H) (by':=by') (part:=(s.drop f).take (t-f)) (by omega) (by simp;omega)
  have hb1:binS .add out ((s.drop at').take (f-at'))=some (.str (out++(s.drop at').take (f-at'))):=binS_add (by omega)
  have hb2:binS .add (out++(s.drop at').take (f-at')) (zf5 ((s.drop f).take (t-f)) by')=some (.str (out++(s.drop at').take (f-at')++zf5 ((s.drop f).take (t-f)) by')):=binS_add (by rw [List.length_append];omega)
  have hlen2:(out++(s.drop at').take (f-at')++zf5 ((s.drop f).take (t-f)) by').length≤(i+1)*200000:=by
   rw [List.length_append,List.length_append,Nat.succ_mul];omega
  have htot2:(out++(s.drop at').take (f-at')++zf5 ((s.drop f).take (t-f)) by')++replF by' s t rest=total:=by
   rw [←htot,replF];simp only [List.append_assoc]
  have next:=fun w=>ih (i+1) t t (out++(s.drop at').take (f-at')++zf5 ((s.drop f).take (t-f)) by') w (by omega) hd2 o3 o5
  generalize zf5 ((s.drop f).take (t-f)) by'=P at *
  rw [zah hs a144l6.eq_1]
  simp [-List.append_assoc,zad hs,zaa hs,zai hs,zab hs,zac hs,a144r3,a144p4,a144r5,v0,v1,v2,v7,v8,v9,hN,hiN,hg,o1,o2,o3,hf,hput,hb1,hb2,hw1]
  refine (next _ ?_ ?_ ?_ ?_ ?_ ?_ hlen2 htot2).mono fun e t h=>by simpa using h
  ·simp [v0]
  ·simp [v1]
  ·simp [v2]
  ·simp
  ·simp
  ·simp

theorem replace_run {bar:Nat} {H:Heap} {by' s:List UInt8} (hby:by'.length≤100) (hl:s.length≤1000) {L:List (Nat×Nat)} (hord:InOrder s.length 0 (-1) L) :
  Rn fsT SA.sp bar 144 [.slc .ro (zaH L), .str by', .str s] H=some (.ret (.str (replF by' s 0 L)),H):=by
 have hs:=SA.mono
 have hlen:L.length≤1001:=by
  rcases zeP hord (by omega) with h | h
  ·omega
  ·rw [h];simp
 have hclo:zbW [.slc .ro (zaH L), .str by', .str s]=true:=by
  have h:=cloL_pairsL L
  simp only [zbW,clo,h];rfl
 refine zao hs fsT_144 rfl hclo rfl ?_
 rw [env144]
 have hN:=zba L
 have hloop:=fun v=>replace_loop (bar:=0) (H:= []) hby hl hN hlen (replF by' s 0 L) L 0 0 (-1) [] v (by omega) rfl (Nat.zero_le _) hord
 generalize zaH L=A at *
 simp [a144r0,a144r1,a144r2,a144,zad hs,zaa hs,zab hs]
 refine (hloop _ ?_ ?_ ?_ ?_ ?_ ?_ (by simp) rfl).mono fun e t h=> ?_
 ·simp
 ·simp
 ·simp
 ·simp
 ·simp
 ·simp
 obtain ⟨rfl,v',out,a,rfl,k2,k7,k8,ha,ho,htot⟩:=h
 have hd:(s.drop a).length≤1000:=by simp;omega
 have htk:List.take (s.length-a) (s.drop a)=s.drop a:=List.take_of_length_le (by simp)
 have hb:binS .add out (s.drop a)=some (.str (replF by' s 0 L)):=by rw [←htot];exact binS_add (by omega)
 simp [a144r7,zad hs,zaa hs,k2,k7,k8,ha,htk,hb]

/-- subst.Sub: the first one alone. -/
theorem sub_run {bar:Nat} {H:Heap} {p:Nat} {t:List UInt8} {r:Re} (hP:Pat H p t r) {by' s:List UInt8} (hby:by'.length≤100) (hl:s.length≤1000) :
  Rn fsT SA.sp bar 142 [.ptr p 0, .str by', .str s] H=some (.ret (.tup [.str (replF by' s 0 ((zcO r s).take 1)),num ((zcO r s).take 1).length]),H):=by
 have hs:=SA.mono
 have hfind:=Find_run (bar:=H.length) hP (s:=s) (by omega) (Nat.zero_le s.length)
 replace hfind:Rn fsT SA.sp H.length 15 [.ptr p 0, .str s, .int .i64 0] H=_:=hfind
 have hall:zcO r s=match zgg (eF r s) (s.length+1) 0 with | none=> [] | some (f,t)=>(f,t)::allF (eF r s) s.length (2*(s.length+1)+1) t t:=by
  unfold zcO zez
  have h1: ¬ ((0:Nat):Int)= -1:=by omega
  rw [if_neg h1,allF,if_neg (by omega)]
  simp only [Nat.sub_zero]
  cases hq:zgg (eF r s) (s.length+1) 0 with
  | none=>rfl
  | some q =>
   obtain ⟨f,t⟩:=q
   simp only
   rw [if_neg (by omega)]
 have hord:=zeU hP.fine s
 refine zcZ hs fsT_142 rfl rfl rfl ?_
 rw [env142]
 simp only [Nat.sub_zero] at hfind
 cases hq:zgg (eF r s) (s.length+1) 0 with
 | none =>
  rw [hq] at hfind hall
  simp only [findA] at hfind
  rw [hall]
  simp [a142,a142r0,a142r1,a142r2,a142r3,a142r4,a142r5,a142r6,zad hs,zaa hs,zac hs,hfind,replF,frz,zbG]
 | some q =>
  obtain ⟨f,t⟩:=q
  rw [hq] at hfind hall
  simp only [findA] at hfind
  simp only at hall
  rw [hall] at hord ⊢
  have hord1:InOrder s.length 0 (-1) [(f,t)]:=⟨hord.1,hord.2.1,hord.2.2.1,hord.2.2.2.1,trivial⟩
  have hrep:=replaced_run (bar:=H.length) (H:=H) hby hl hord1
  replace hrep:Rn fsT SA.sp H.length 47 [.slc .ro [.agg [num f,num t]], .str by', .str s] H=_:=hrep
  simp [a142,a142r0,a142r1,a142r2,a142r3,a142r4,a142r5,a142r6,zad hs,zaa hs,zac hs,hfind,hrep,zda,za1,frz,zbG]

end

end Go.Ak

