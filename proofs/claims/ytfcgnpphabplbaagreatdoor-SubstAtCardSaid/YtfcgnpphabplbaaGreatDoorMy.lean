/- A text parted by a pattern: Split and the document's. -/
import Derived.Test.YtfcgnpphabplbaaGreatDoorMx
import Derived.Test.YtfcgnpphabplbaaGreatDoorMw
set_option linter.unusedVariables false
set_option linter.unusedSimpArgs false
namespace Go.Ak
attribute [local simp] zbN zda zdb zeJ zbh zcO zaE zaX zaP zaY zbg zbv zbw za9 zb2 zc7 zc8 zbT zbU
 zaN zcS wanted zbl opd zjq live zbW zcT zbm zbS zhi put zdE esc zn7 zqD args drop1 zgh zqB zqA zqC zmS rd wr zbH sub AV.cells pack one setCells zet zmt zcV roOf zaL zeW zav zat zdA za6 newRow newObj step zbY zbx contents take flat look lim zd4 bound zdo zdH eqS eqL eqA ver
 zb1 zc6 zc5 zbZ zb0
 List.getElem?_cons_zero List.getElem?_cons_succ zc4 zbd zaB zaC zbX
attribute [local simp] sR sT cV bL mvV mvL mgV mgL asL asI asB ldN ldV ldL ldG stV stL fdL fdV fdG fgL nlC nlG bnI bvI bnL bvL bxI bxU bgI bgL exT lnS lgS clA clB clC clI pkT pkF pvT pvF pgT pgF ixL axV bxV apL
attribute [-simp] getElem?_pos
section
def lastT (p:Nat→Bool):Nat→Int
 | 0=> -1
 | n+1=>if p n=true then (n:Int) else lastT p n
theorem zre {p:Nat→Bool}: ∀ (n:Nat),(∀ k,k<n→p k=false)→lastT p n= -1
 | 0,_=>rfl
 | n+1,h=>by rw [lastT,h n (by omega),zre n fun k hk=>h k (by omega)];rfl
theorem zvh {p:Nat→Bool} {j:Nat} (hj:p j=true): ∀ (n:Nat),j<n→(∀ k,k<n→p k=true→k≤j)→lastT p n=j
 | 0,h,_=>by omega
 | n+1,h,hm=>by
  rw [lastT]
  by_cases e:j=n
  ·subst e;rw [if_pos hj]
  ·rw [if_neg fun k=>by have:=hm n (by omega) k;omega]
   exact zvh hj n (by omega) fun k hk=>hm k (by omega)
theorem zB0 {r:Re} (hf:r.fine) (hc:r.can (-1) 1=true) {s:List UInt8} {i:Nat} (hi:i≤s.length):lastT (r.tab s i) (s.length+1)=eF r s i:=by
 have hok:=Re.tab_ok s r (-1) 1 hc
 rcases ztO hf hi with ⟨e,hno⟩ | ⟨j,e,hm,hmax⟩
 ·rw [e]
  refine zre _ fun k hk=> ?_
  cases h:r.tab s i k with
  | false=>rfl
  | true=>exact absurd ((hok i k (by omega) hk).1 h) (hno k)
 ·rw [e]
  have hj:=Re.M_stays s r i j (by omega) hm
  exact zvh ((hok i j (by omega) hj).2 hm) (s.length+1) hj fun k hk h=>hmax k ((hok i k (by omega) hk).1 h)
theorem zpD {bar:Nat} {H:Heap} {n:Nat} {p:Nat→Bool} (hn:n≤1000): ∀ (m i:Nat) (v:Nat→AV),i+m=n→v 0= .slc .ro (zcQ n p)→v 4=num i→v 3= .int .i64 (lastT p i) →
  Wp (evI fsT SA.sp bar (.loop a155l7) (mkE 16669 v,H)) (fun e t=>e= .exit 0∧ ∃ v',t=(mkE 16669 v',H)∧v' 3= .int .i64 (lastT p n)):=by
 have hs:=SA.mono
 intro m
 induction m with
 | zero =>
  intro i v hi v0 v4 v3
  have hi':i=n:=by omega
  subst hi'
  rw [zah hs a155l7.eq_1]
  simp [zad hs,zaa hs,zab hs,zac hs,zvE,v0,v4,zaz]
  exact ⟨_,rfl,by simp [v3]⟩
 | succ m ih =>
  intro i v hi v0 v4 v3
  have hi':i<n:=by omega
  have hw1:IntKind.i64.wrap ((i:Int)+1)=(i:Int)+1:=zak _ (by omega)
  have hg:=zcP p hi'
  rw [zah hs a155l7.eq_1]
  cases hp:p i with
  | false =>
   rw [hp] at hg
   simp [zad hs,zaa hs,zab hs,zac hs,zvE,zzI,zzH,zzG,v0,v3,v4,zaz,hi',hw1,hg]
   refine ih (i+1) _ (by omega) ?_ ?_ ?_
   ·simp [v0]
   ·simp
   ·simp [v3,lastT,hp]
  | true =>
   rw [hp] at hg
   simp [zad hs,zaa hs,zab hs,zac hs,zvE,zzI,zzH,zzG,v0,v3,v4,zaz,hi',hw1,hg]
   refine ih (i+1) _ (by omega) ?_ ?_ ?_
   ·simp [v0]
   ·simp
   ·simp [lastT,hp]
theorem zrb {bar:Nat} {H:Heap} {n:Nat} {p:Nat→Bool} (hn:n≤1000):Rn fsT SA.sp bar 155 [.slc .ro (zcQ n p)] H=some (.ret (.int .i64 (lastT p n)),H):=by
 have hs:=SA.mono
 have hclo:zcI [AV.slc .ro (zcQ n p)]=true:=by
  have:=zoR (List.range n) p
  simp only [zcI,clo,zcQ,this];rfl
 refine zan hs zF6 rfl hclo rfl ?_
 rw [zJq]
 simp [zEv,zEu,zEt,a155,zad hs,zaa hs,zab hs]
 refine (zpD (bar:=0) (H:= []) (p:=p) hn n 0 _ (by omega) ?_ ?_ ?_).mono fun e t h=> ?_
 ·simp
 ·simp
 ·simp [lastT]
 obtain ⟨rfl,v',rfl,k3⟩:=h
 simp [zEs,zad hs,zaa hs,k3]
theorem zwo {bar:Nat} {H:Heap} {n:Nat} {f:Nat→Nat→Bool} (hn:n≤1000): ∀ (m i:Nat) (v:Nat→AV),i+m=n→v 0= .slc .ro (zax n f)→v 7=num i →
  Wp (evI fsT SA.sp bar (.loop a152l7) (mkE 4202995 v,H)) (fun e t=>match zis (fun i=>lastT (f i) n) m i with
   | none=>e= .exit 0∧ ∃ v',t=(mkE 4202995 v',H)
   | some (a,b)=>e= .ret∧ ∃ v',t=(mkE 4202995 v',H)∧v' 4=num a∧v' 5=num b∧v' 6= .bool true):=by
 have hs:=SA.mono
 intro m
 induction m with
 | zero =>
  intro i v hi v0 v7
  have hi':i=n:=by omega
  subst hi'
  rw [zah hs a152l7.eq_1]
  simp [zad hs,zaa hs,zab hs,zac hs,zvK,v0,v7,zar,zis]
  exact ⟨_,rfl⟩
 | succ m ih =>
  intro i v hi v0 v7
  have hi':i<n:=by omega
  have hw1:IntKind.i64.wrap ((i:Int)+1)=(i:Int)+1:=zak _ (by omega)
  have hg:=zfR f hi'
  have hcall:=fun H=>zrb (bar:=bar) (H:=H) (n:=n) (p:=f i) hn
  rw [zah hs a152l7.eq_1,zis]
  by_cases h:0≤lastT (f i) n
  ·rw [if_pos h]
   have hb:num (lastT (f i) n).toNat= .int .i64 (lastT (f i) n):=by simp only [num,AV.int.injEq,true_and];omega
   simp [zad hs,zaa hs,zab hs,zac hs,zvK,zzP,zzO,zzN,v0,v7,zar,hi',hg,hcall,h]
   exact ⟨_,rfl,by simp,by simp;omega,by simp⟩
  ·rw [if_neg h]
   simp [zad hs,zaa hs,zab hs,zac hs,zvK,zzP,zzO,zzN,zEx,v0,v7,zar,hi',hg,hcall,h,hw1]
   refine ih (i+1) _ (by omega) ?_ ?_
   ·simp [v0]
   ·simp
theorem zxL {bar:Nat} {H:Heap} {n:Nat} {f:Nat→Nat→Bool} (hn:n≤1000) {i:Nat} (hi:i≤n):Rn fsT SA.sp bar 152 [.slc .ro (zax n f),num i] H=some (.ret (zn6 (zis (fun i=>lastT (f i) n) (n-i) i)),H):=by
 have hs:=SA.mono
 have hclo:zcI [.slc .ro (zax n f),num i]=true:=by
  have h1:=zix n f
  simp only [zcI,h1];rfl
 refine zan hs zF8 rfl hclo rfl ?_
 rw [zJs]
 simp [zEz,zEy,a152,zad hs,zaa hs,zab hs]
 refine (zwo (bar:=0) (H:= []) (f:=f) hn (n-i) i _ (by omega) ?_ ?_).mono fun e t h=> ?_
 ·simp
 ·simp
 cases hq:zis (fun i=>lastT (f i) n) (n-i) i with
 | none =>
  rw [hq] at h
  obtain ⟨rfl,v',rfl⟩:=h
  simp [zEw,zad hs,zaa hs,zn6,frz,zbG]
 | some x =>
  obtain ⟨a,b⟩:=x
  rw [hq] at h
  obtain ⟨rfl,v',rfl,q6,q7,q8⟩:=h
  simp [q6,q7,q8,zn6,frz,zbG]
end
section
def zbc (l:List (Nat×Nat)):List AV:=(l.map zq0).map zx4
theorem zbC (l:List (Nat×Nat)):(zbc l).length=l.length:=by simp [zbc]
theorem zk4 (l m:List (Nat×Nat)):zbc (l++m)=zbc l++zbc m:=by simp [zbc]
theorem zk3 (f t:Nat):zbc [(f,t)]= [.agg [num f,num t]]:=rfl
theorem zmB (l:List (Nat×Nat)):zjM 2 (zbc l)=true:=by
 cases l with
 | nil=>rfl
 | cons x l=>rfl
theorem zwP (H:Heap) (p:Perm) (l:List (Nat×Nat)):frz 0 H (.slc p (zbc l))=some (.slc p (zbc l)):=by
 have:zbG 0 H (zbc l)=some (zbc l):=by
  unfold zbc
  induction l with
  | nil=>rfl
  | cons x l ih=>simp only [List.map_cons,zbG,zx4,frz,ih]
 simp only [frz,this]
def zk9:List (Nat×Nat)→Int
 | []=> -1
 | [x]=>x.2
 | _::y::l=>zk9 (y::l)
theorem zfV: ∀ (l:List (Nat×Nat)) (f t:Nat),zk9 (l ++ [(f,t)])=t
 | [],_,_=>rfl
 | [_],_,_=>rfl
 | _::y::l,f,t=>zfV (y::l) f t
theorem zxH (l:List (Nat×Nat)):l= []∨ ∃ o f t,l=o ++ [(f,t)]:=by
 rcases List.eq_nil_or_concat l with h | ⟨o,q,h⟩
 ·exact .inl h
 ·exact .inr ⟨o,q.1,q.2,by rw [h,List.concat_eq_append]⟩
theorem zoH {e g:Nat→Int}: ∀ (m i:Nat),(∀ k,i≤k→k<i+m→e k=g k)→zis e m i=zis g m i
 | 0,_,_=>rfl
 | m+1,i,h=>by
  rw [zis,zis,h i (Nat.le_refl _) (by omega),zoH m (i+1) fun k h1 h2=>h k (by omega) (by omega)]
theorem zo4 {e g:Nat→Int} {len:Nat} (h: ∀ k,k≤len→e k=g k): ∀ (n at':Nat) (last:Int),zrO e len n at' last=zrO g len n at' last
 | 0,_,_=>rfl
 | n+1,at',last=>by
  rw [zrO,zrO,zoH (e:=e) (g:=g) (len+1-at') at' fun k h1 h2=>h k (by omega)]
  have ih:=zo4 h n
  simp only [ih]
theorem zxW {bar:Nat} {H:Heap} {s:List UInt8} (hl:s.length≤900) {f:Nat→Nat→Bool} (he:Ahead (fun i=>lastT (f i) (s.length+1)) s.length) :
  ∀ (n at':Nat) (out:List (Nat×Nat)) (v:Nat→AV),zeO s.length at' (zk9 out)≤n→out.length+n≤100000→at'≤s.length+1→v 1= .str s→v 5= .slc .own (zbc out)→v 6=num at'→(∃ p,v 7= .slc p (zax (s.length+1) f)) →
   Wp (evI fsT SA.sp bar (.loop a143l9) (mkE 140737622837239 v,H)) (fun e t=>(e= .exit 0∧ ∃ v',t=(mkE 140737622837239 v',H)∧v' 5= .slc .own (zbc (out++zrO (fun i=>lastT (f i) (s.length+1)) s.length n at' (zk9 out)))) ∨
    (e= .ret∧ ∃ v',t=(mkE 140737622837239 v',H)∧v' 4= .slc .own (zbc (out++zrO (fun i=>lastT (f i) (s.length+1)) s.length n at' (zk9 out))))):=by
 have hs:=SA.mono
 have htl:List.take (s.length+1) (zax (s.length+1) f)=zax (s.length+1) f:=List.take_of_length_le (by rw [zar];exact Nat.le_refl _)
 intro n
 induction n with
 | zero=>intro at' out v h;unfold zeO at h;omega
 | succ n ih =>
  intro at' out v hfu hon hat v1 v5 v6 ⟨p,v7⟩
  rw [zah hs a143l9.eq_1,zrO]
  by_cases h0:s.length<at'
  ·have h0': ¬ at'≤s.length:=by omega
   rw [if_pos h0]
   simp [zad hs,zaa hs,zab hs,zac hs,zno,v1,v6,h0']
   exact ⟨_,rfl,by simp [v5]⟩
  rw [if_neg h0]
  have h0':at'≤s.length:=by omega
  have hcall:=fun H=>zxL (bar:=bar) (H:=H) (n:=s.length+1) (f:=f) (by omega) (i:=at') hat
  have htr:List.take out.length (zbc out)=zbc out:=List.take_of_length_le (by rw [zbC];exact Nat.le_refl _)
  have hok:=zmB out
  cases hq:zis (fun i=>lastT (f i) (s.length+1)) (s.length+1-at') at' with
  | none =>
   rw [hq] at hcall
   simp only [zn6] at hcall
   simp only [List.append_nil]
   cases p <;>
    (simp [zad hs,zaa hs,zab hs,zac hs,zno,zpc,zpb,zpa,v1,v5,v6,v7,h0',zar,htl,hcall,zbC,htr,hok]
     exact ⟨_,rfl,by simp⟩)
  | some x =>
   obtain ⟨a,b⟩:=x
   rw [hq] at hcall
   simp only [zn6] at hcall
   obtain ⟨x1,x2,x3,x4,_⟩:=zjP he _ at' (by omega) hq
   have hw1:IntKind.i64.wrap ((a:Int)+1)=(a:Int)+1:=zak _ (by omega)
   have hlim:(out.length+1)*2≤4294967296:=by omega
   simp only
   by_cases hc:a=b∧(a:Int)=zk9 out
   · -- an empty one just behind
    rw [if_pos hc]
    obtain ⟨c1,c2⟩:=hc
    subst c1
    obtain ⟨o',f',t',ho⟩: ∃ o' f' t',out=o' ++ [(f',t')]:=by
     rcases zxH out with h | h
     ·subst h;simp [zk9] at c2
     ·exact h
    have hlo:zk9 out=t':=by rw [ho];exact zfV _ _ _
    have hat2:a=t':=by omega
    have hol:out.length=o'.length+1:=by rw [ho];simp
    have hg:(zbc out)[o'.length]? = some (.agg [num f',num t']):=by
     rw [ho,zk4,zk3,List.getElem?_append_right (by rw [zbC];exact Nat.le_refl _)]
     simp [zbC]
    have hw2:IntKind.i64.wrap ((o'.length:Int)+1-1)=(o'.length:Int):=by rw [zak _ (by omega)];omega
    have hw3:IntKind.i64.wrap (o'.length:Int)=(o'.length:Int):=zak _ (by omega)
    have hpl:=zbC out
    rw [hol] at hpl
    have h01:(0:Int)<(o'.length:Int)+1:=by omega
    have hta:((t':Int)==(a:Int))=true:=by simp;omega
    have next: ∀ w:Nat→AV,w 1= .str s→w 5= .slc .own (zbc out)→w 6=num (a+1)→(∃ p,w 7= .slc p (zax (s.length+1) f))→_:=fun w w1 w5 w6 w7=>ih (a+1) out w (by
     unfold zeO at hfu ⊢
     have: ¬ ((a+1:Nat):Int)=zk9 out:=by omega
     rw [if_neg this]
     split at hfu<;>omega) (by omega) (by omega) w1 w5 w6 w7
    generalize zbc out=A at *
    cases p <;>
     (simp [zad hs,zaa hs,zab hs,zac hs,zno,zpc,zpb,zpa,zsf,zse,v1,v5,v6,v7,h0',zar,htl,hcall,hpl,hg,hw1,hw2,hw3,h01,hta]
      refine next _ ?_ ?_ ?_ ?_
      ·simp [v1]
      ·simp [v5]
      ·simp
      ·simp [v7])
   ·rw [if_neg hc]
    have next: ∀ w:Nat→AV,w 1= .str s→w 5= .slc .own (zbc out ++ [.agg [num a,num b]])→w 6=num b→(∃ p,w 7= .slc p (zax (s.length+1) f))→_:=fun w w1 w5 w6 w7=>ih b (out ++ [(a,b)]) w (by
     rw [zfV]
     unfold zeO at hfu ⊢
     rw [if_pos rfl]
     split at hfu
     ·rename_i e1
      by_cases e2:b=at'
      ·exact absurd ⟨by omega,by omega⟩ hc
      ·omega
     ·omega) (by simp;omega) (by omega) w1 (by rw [w5,zk4,zk3]) w6 w7
    simp only [zfV,List.append_assoc,List.singleton_append] at next
    have hb2:IntKind.i64.wrap ((a:Int)+1)=(a:Int)+1:=hw1
    by_cases hab:a=b
    ·subst hab
     have c2: ¬ (a:Int)=zk9 out:=fun h=>hc ⟨rfl,h⟩
     rcases zxH out with ho | ⟨o',f',t',ho⟩
     ·subst ho
      have hA:zbc []= []:=rfl
      rw [hA] at v5
      cases p <;>
       (simp [zad hs,zaa hs,zab hs,zac hs,zno,zpc,zpb,zpa,zsf,zse,zvU,v1,v5,v6,v7,h0',zar,htl,hcall,za6,zdA]
        refine next _ ?_ ?_ ?_ ?_
        ·simp [v1]
        ·simp [zbc]
        ·simp
        ·simp [v7])
     ·have hlo:zk9 out=t':=by rw [ho];exact zfV _ _ _
      have hol:out.length=o'.length+1:=by rw [ho];simp
      have hg:(zbc out)[o'.length]? = some (.agg [num f',num t']):=by
       rw [ho]
       rw [zk4,zk3,List.getElem?_append_right (by rw [zbC];exact Nat.le_refl _)]
       simp [zbC]
      have hw2:IntKind.i64.wrap ((o'.length:Int)+1-1)=(o'.length:Int):=by rw [zak _ (by omega)];omega
      have hw3:IntKind.i64.wrap (o'.length:Int)=(o'.length:Int):=zak _ (by omega)
      have hpl:=zbC out
      rw [hol] at hpl hlim
      have h01:(0:Int)<(o'.length:Int)+1:=by omega
      have hta:((t':Int)==(a:Int))=false:=by simp;omega
      generalize zbc out=A at *
      cases p <;>
       (simp [zad hs,zaa hs,zab hs,zac hs,zno,zpc,zpb,zpa,zsf,zse,zvU,v1,v5,v6,v7,h0',zar,htl,hcall,hpl,hg,hw2,hw3,h01,hta,za6,zdA,hok,hlim]
        refine next _ ?_ ?_ ?_ ?_
        ·simp [v1]
        ·simp
        ·simp
        ·simp [v7])
    ·have hab':((a:Int)==(b:Int))=false:=by simp;omega
     have hpl:=zbC out
     generalize zbc out=A at *
     cases p <;>
      (simp [zad hs,zaa hs,zab hs,zac hs,zno,zpc,zpb,zpa,zsf,zse,zvU,v1,v5,v6,v7,h0',zar,htl,hcall,hpl,hab',za6,zdA,hok,hlim]
       refine next _ ?_ ?_ ?_ ?_
       ·simp [v1]
       ·simp
       ·simp
       ·simp [v7])
theorem zBB {bar:Nat} {H:Heap} {s:List UInt8} (hl:s.length≤900) {r:Re} (hf:r.fine) (hc:r.can (-1) 1=true) (hw:r.wide):Rn fsT SA.sp bar 143 [r.av, .str s] H=some (.ret (.slc .own (zbc (zdT r s))),H):=by
 have hs:=SA.mono
 obtain ⟨p,ht⟩:=zxB hl r (-1) 1 hc hw
 have hclo:zcI [r.av,AV.str s]=true:=by simp only [zcI,zeI];rfl
 obtain ⟨d,hcs,hcl⟩:=Re.av_agg hw
 have hcl8:8≤d.length:=by omega
 have htk:List.take 8 d=d:=List.take_of_length_le (by omega)
 have hef: ∀ i,i≤s.length→lastT (r.tab s i) (s.length+1)=eF r s i:=fun i hi=>zB0 hf hc hi
 have he:Ahead (fun i=>lastT (r.tab s i) (s.length+1)) s.length:=fun i hi=>by
  have:=hef i hi
  simp only [this];exact zl8 hf s i hi
 have hall:zrO (fun i=>lastT (r.tab s i) (s.length+1)) s.length (zeO s.length 0 (-1)) 0 (-1)=zdT r s:=zo4 (fun i hi=>hef i hi) _ _ _
 have hloop:=fun v=>zxW (bar:=0) (H:= []) hl (f:=r.tab s) he (zeO s.length 0 (-1)) 0 [] v (Nat.le_refl _) (by simp [zeO,zk9];omega) (by omega)
 have hl0:zk9 []= -1:=rfl
 simp only [hl0,hall,List.nil_append] at hloop
 have hfr:=zwP [] .own (zdT r s)
 have htr:List.take (zdT r s).length (zbc (zdT r s))=zbc (zdT r s):=List.take_of_length_le (by rw [zbC];exact Nat.le_refl _)
 have hok:=zmB (zdT r s)
 rw [hcs] at ht hclo ⊢
 refine zan hs zGb rfl hclo rfl ?_
 rw [zJv]
 cases p <;>
  (simp [zED,zEC,a143,zad hs,zaa hs,zab hs,hcl,hcl8,htk,ht]
   refine (hloop _ ?_ ?_ ?_ ?_).mono fun e t h=> ?_
   ·simp
   ·simp [zbc]
   ·simp
   ·simp
   rcases h with ⟨rfl,v',rfl,k5⟩ | ⟨rfl,v',rfl,k4⟩
   ·simp [zz5,zad hs,zaa hs,k5,zbC,htr,hok,hfr]
   ·simp [k4,hfr])
end
section
end
section
def zbJ (s:List UInt8):Nat→List (Nat×Nat)→List (List UInt8)
 | at',[]=> [s.drop at']
 | at',(f,t)::l=>if f<t then (s.drop at').take (f-at')::zbJ s t l else zbJ s at' l
def zaA (l:List (List UInt8)):List AV:=l.map fun x=> .str x
theorem zdc (l:List (List UInt8)):(zaA l).length=l.length:=by simp [zaA]
theorem zeV (l m:List (List UInt8)):zaA (l++m)=zaA l++zaA m:=by simp [zaA]
theorem zb5 (l:List (List UInt8)):zjM 0 (zaA l)=true:=by
 cases l with
 | nil=>rfl
 | cons x l=>rfl
theorem zyV (l:List (List UInt8)):zcI (zaA l)=true:=by
 unfold zaA
 induction l with
 | nil=>rfl
 | cons x l ih=>simp [zcI,clo,ih]
theorem zpK (H:Heap) (p:Perm) (l:List (List UInt8)):frz 0 H (.slc p (zaA l))=some (.slc p (zaA l)):=by
 have:zbG 0 H (zaA l)=some (zaA l):=by
  unfold zaA
  induction l with
  | nil=>rfl
  | cons x l ih=>simp [zbG,frz,ih]
 simp only [frz,this]
theorem zxC {l:List (List UInt8)} {i:Nat} {x:List UInt8} (h:l[i]? = some x):(zaA l)[i]? = some (.str x):=by
 unfold zaA
 rw [List.getElem?_map,h];rfl
def zhm:List (List UInt8)→AV
 | []=> .nils
 | x::l=> .slc .own (zaA (x::l))
theorem zsR (l:List (List UInt8)) (x:List UInt8):zhm (l ++ [x])= .slc .own (zaA l ++ [.str x]):=by
 cases l with
 | nil=>rfl
 | cons y l=>simp [zhm,zaA]
theorem zwa {bar:Nat} {H:Heap} {s:List UInt8} (hl:s.length≤1000) {A:List AV} {N:Nat} (hN:A.length=N) (hN2:N≤1001) (total:List (List UInt8)) :
  ∀ (rest:List (Nat×Nat)) (i at' b:Nat) (last:Int) (out:List (List UInt8)) (v:Nat→AV),i+rest.length=N→A.drop i=zbc rest→at'≤b→at'≤s.length→InOrder s.length b last rest →
   v 1= .str s→v 5=zhm out→v 6=num at'→v 15= .slc .ro A→v 16=num N→v 17=num i→out.length≤i→out++zbJ s at' rest=total →
   Wp (evI fsT SA.sp bar (.loop a153l13) (mkE 34051443 v,H)) (fun e t=>e= .exit 0∧ ∃ v' out' a,t=(mkE 34051443 v',H)∧v' 1= .str s∧v' 5=zhm out'∧v' 6=num a∧a≤s.length∧out'.length≤1001∧out' ++ [s.drop a]=total):=by
 have hs:=SA.mono
 intro rest
 induction rest with
 | nil =>
  intro i at' b last out v hi hd hab hat hord v1 v5 v6 v15 v16 v17 hout htot
  simp only [List.length_nil,Nat.add_zero] at hi
  subst hi
  rw [zah hs a153l13.eq_1]
  simp [zad hs,zaa hs,zab hs,zac hs,zo9,v16,v17]
  exact ⟨_,rfl,by simp [v1],out,by simp [v5],at',by simp [v6],hat,by omega,htot⟩
 | cons x rest ih =>
  obtain ⟨f,t⟩:=x
  intro i at' b last out v hi hd hab hat hord v1 v5 v6 v15 v16 v17 hout htot
  obtain ⟨o1,o2,o3,o4,o5⟩:=hord
  simp only [List.length_cons] at hi
  have hiN:i<N:=by omega
  have hiNI:(i:Int)<(N:Int):=by omega
  have hg:A[i]? = some (.agg [num f,num t]):=by
   have:(A.drop i)[0]? = some (.agg [num f,num t]):=by rw [hd];rfl
   simpa using this
  have hd2:A.drop (i+1)=zbc rest:=by
   have:(A.drop i).drop 1=zbc rest:=by rw [hd];rfl
   rw [List.drop_drop] at this
   exact this
  have hw1:IntKind.i64.wrap ((i:Int)+1)=(i:Int)+1:=zak _ (by omega)
  have hf:f≤s.length:=by omega
  have haf:at'≤f:=by omega
  rw [zah hs a153l13.eq_1]
  by_cases hft:f<t
  ·rw [zbJ,if_pos hft] at htot
   have next:=fun w=>ih (i+1) t t t (out ++ [(s.drop at').take (f-at')]) w (by omega) hd2 (Nat.le_refl _) o3 o5
   rw [zsR] at next
   have htot2:(out ++ [(s.drop at').take (f-at')])++zbJ s t rest=total:=by rw [←htot];simp
   cases out with
   | nil =>
    simp only [zhm] at v5
    simp [zad hs,zaa hs,zab hs,zac hs,zo9,zvG,zvF,zqm,zql,zqk,v1,v5,v6,v15,v16,v17,hN,hiN,hiNI,hg,hw1,hft,hf,haf,za6]
    refine (next _ ?_ ?_ ?_ ?_ ?_ ?_ (by simp) htot2).mono fun e t h=>by simpa using h
    all_goals simp [v1,v15,v16,zaA]
   | cons y out =>
    simp only [zhm] at v5
    have hok:=zb5 (y::out)
    have hlen:(zaA (y::out)).length+1≤4294967296:=by rw [zdc];omega
    generalize zaA (y::out)=Y at *
    simp [zad hs,zaa hs,zab hs,zac hs,zo9,zvG,zvF,zqm,zql,zqk,v1,v5,v6,v15,v16,v17,hN,hiN,hiNI,hg,hw1,hft,hf,haf,za6,hok,hlen]
    refine (next _ ?_ ?_ ?_ ?_ ?_ ?_ (by simp at hout ⊢;omega) htot2).mono fun e t h=>by simpa using h
    all_goals simp [v1,v15,v16]
  ·rw [zbJ,if_neg hft] at htot
   simp [zad hs,zaa hs,zab hs,zac hs,zo9,zvG,zvF,zqm,zql,zqk,v1,v5,v6,v15,v16,v17,hN,hiN,hiNI,hg,hw1,hft]
   refine (ih (i+1) at' t t out _ (by omega) hd2 (by omega) hat o5 ?_ ?_ ?_ ?_ ?_ ?_ (by omega) htot).mono fun e t h=>by simpa using h
   all_goals simp [v1,v5,v6,v15,v16]
theorem zxE {bar:Nat} {H:Heap} {p:Nat} {t:List UInt8} {r:Re} (hP:Pat H p t r) {s:List UInt8} (hl:s.length≤1000) :
  Rn fsT SA.sp bar 153 [.ptr p 0, .str s] H=some (.ret (if s= [] then .nils else .slc .own (zaA (zbJ s 0 (zdT r s)))),H):=by
 have hs:=SA.mono
 have hall:=zH1 (bar:=H.length) hP (s:=s) (by omega)
 have hord:=zjY hP.fine s
 have hlen:(zdT r s).length≤1001:=by
  rcases zht hord (by omega) with h | h
  ·omega
  ·rw [h];simp
 generalize zdT r s=L at *
 refine zeN hs zF7 rfl rfl rfl ?_
 rw [zJr]
 cases s with
 | nil=>simp [zvJ,zvI,zvH,a153,zad hs,zaa hs,zac hs,zi3,zgi]
 | cons c s' =>
  rw [if_neg (by simp)]
  have hbe:zgi (c::s') []=false:=rfl
  generalize c::s'=s at *
  -- the end
  have fin2: ∀ (w:Nat→AV) (out:List (List UInt8)) (a:Nat),w 1= .str s→w 5=zhm out→w 6=num a→a≤s.length→out.length≤1001→out ++ [s.drop a]=zbJ s 0 L →
    Wp (evI fsT SA.sp H.length (.seq (.region zqj) .ret) (mkE 34051443 w,H)) (fin [.tmp 4] (thaw H.length (· = .ret (.slc .own (zaA (zbJ s 0 L)))))):=fun w out a w1 w5 w6 ha ho htot=>by
   have htk:List.take (s.length-a) (s.drop a)=s.drop a:=List.take_of_length_le (by simp)
   have hfr: ∀ l,frz H.length H (.slc .own (zaA l))=some (.slc .own (zaA l)):=fun l=>by
    have:zbG H.length H (zaA l)=some (zaA l):=by
     unfold zaA
     induction l with
     | nil=>rfl
     | cons x l ih=>simp [zbG,frz,ih]
    simp only [frz,this]
   rw [←htot]
   cases out with
   | nil =>
    simp only [zhm] at w5
    have:=hfr [s.drop a]
    simp [zaA] at this
    simp [zqj,zad hs,zaa hs,w1,w5,w6,ha,htk,za6,zaA,this]
   | cons y out =>
    simp only [zhm] at w5
    have hok:=zb5 (y::out)
    have hle:(zaA (y::out)).length+1≤4294967296:=by rw [zdc];omega
    have hf:=hfr ((y::out) ++ [s.drop a])
    rw [zeV] at hf ⊢
    have h1:zaA [s.drop a]= [.str (s.drop a)]:=rfl
    rw [h1] at hf ⊢
    generalize zaA (y::out)=Y at *
    simp [zqj,zad hs,zaa hs,w1,w5,w6,ha,htk,za6,hok,hle,hf]
  have hfin:=fin2
  simp only [zad hs,zaa hs] at hfin
  cases hL:L with
  | nil =>
   rw [hL] at hall hfin
   replace hall:Rn fsT SA.sp H.length 11 [.ptr p 0, .str s] H=some (.ret .nils,H):=hall
   simp [zvJ,zvI,zvH,zzM,zzL,zzK,zzJ,a153,zad hs,zaa hs,zab hs,zac hs,zi3,hbe,hall]
   rw [zah hs a153l13.eq_1]
   simp [zo9,zad hs,zaa hs,zab hs,zac hs]
   refine hfin _ [] 0 ?_ ?_ ?_ (Nat.zero_le _) (by simp) rfl
   all_goals simp [zhm]
  | cons x L' =>
   rw [hL] at hall hfin hord hlen
   have hrow:zu8 ((x::L').map zq0)= .slc .ro (zbc (x::L')):=rfl
   rw [hrow] at hall
   have hA:=zbC (x::L')
   generalize x::L'=M at *
   have hloop:=fun v=>zwa (bar:=H.length) (H:=H) hl hA hlen (zbJ s 0 M) M 0 0 0 (-1) [] v (by omega) rfl (Nat.le_refl _) (Nat.zero_le _) hord
   generalize zbc M=A at *
   simp [zvJ,zvI,zvH,zzM,zzL,zzK,zzJ,a153,zad hs,zaa hs,zab hs,zac hs,zi3,hbe,hall,hA]
   refine (hloop _ ?_ ?_ ?_ ?_ ?_ ?_ (by simp) rfl).mono fun e t h=> ?_
   all_goals try simp [zhm]
   obtain ⟨rfl,v',out,a,rfl,k1,k5,k6,ha,ho,htot⟩:=h
   have h:=hfin v' out a k1 k5 k6 ha ho htot
   simpa [zad hs,zaa hs] using h
theorem zs4 {bar:Nat} {H:Heap} {s:List UInt8} (hl:s.length≤1000) {A:List AV} {N:Nat} (hN:A.length=N) (hN2:N≤1001) (total:List (List UInt8)) :
  ∀ (rest:List (Nat×Nat)) (i at' b:Nat) (last:Int) (out:List (List UInt8)) (v:Nat→AV),i+rest.length=N→A.drop i=zbc rest→at'≤b→at'≤s.length→InOrder s.length b last rest →
   v 1= .str s→v 5= .slc .own (zaA out)→v 6=num at'→v 7= .slc .own A→v 8=num i→out.length≤i→out++zbJ s at' rest=total →
   Wp (evI fsT SA.sp bar (.loop a148l10) (mkE 4295494135 v,H)) (fun e t=>e= .exit 0∧ ∃ v' out' a,t=(mkE 4295494135 v',H)∧v' 1= .str s∧v' 5= .slc .own (zaA out')∧v' 6=num a∧a≤s.length∧out'.length≤1001∧out' ++ [s.drop a]=total):=by
 have hs:=SA.mono
 intro rest
 induction rest with
 | nil =>
  intro i at' b last out v hi hd hab hat hord v1 v5 v6 v7 v8 hout htot
  simp only [List.length_nil,Nat.add_zero] at hi
  subst hi
  rw [zah hs a148l10.eq_1]
  simp [zad hs,zaa hs,zab hs,zac hs,zvL,v7,v8,hN]
  exact ⟨_,rfl,by simp [v1],out,by simp [v5],at',by simp [v6],hat,by omega,htot⟩
 | cons x rest ih =>
  obtain ⟨f,t⟩:=x
  intro i at' b last out v hi hd hab hat hord v1 v5 v6 v7 v8 hout htot
  obtain ⟨o1,o2,o3,o4,o5⟩:=hord
  simp only [List.length_cons] at hi
  have hiN:i<N:=by omega
  have hg:A[i]? = some (.agg [num f,num t]):=by
   have:(A.drop i)[0]? = some (.agg [num f,num t]):=by rw [hd];rfl
   simpa using this
  have hd2:A.drop (i+1)=zbc rest:=by
   have:(A.drop i).drop 1=zbc rest:=by rw [hd];rfl
   rw [List.drop_drop] at this
   exact this
  have hw1:IntKind.i64.wrap ((i:Int)+1)=(i:Int)+1:=zak _ (by omega)
  have hf:f≤s.length:=by omega
  have haf:at'≤f:=by omega
  rw [zah hs a148l10.eq_1]
  by_cases hft:f<t
  ·rw [zbJ,if_pos hft] at htot
   have next:=fun w=>ih (i+1) t t t (out ++ [(s.drop at').take (f-at')]) w (by omega) hd2 (Nat.le_refl _) o3 o5
   have htot2:(out ++ [(s.drop at').take (f-at')])++zbJ s t rest=total:=by rw [←htot];simp
   have hok:=zb5 out
   have hlen:(zaA out).length+1≤4294967296:=by rw [zdc];omega
   rw [zeV] at next
   have h1: ∀ x,zaA [x]= [.str x]:=fun _=>rfl
   rw [h1] at next
   generalize zaA out=Y at *
   simp [zad hs,zaa hs,zai hs,zab hs,zac hs,zvL,zz4,zz3,zzX,v1,v5,v6,v7,v8,hN,hiN,hg,hw1,hft,hf,haf,za6,hok,hlen]
   refine (next _ ?_ ?_ ?_ ?_ ?_ (by simp;omega) htot2).mono fun e t h=>by simpa using h
   all_goals simp [v1,v7]
  ·rw [zbJ,if_neg hft] at htot
   simp [zad hs,zaa hs,zai hs,zab hs,zac hs,zvL,zz4,zz3,zzX,v1,v5,v6,v7,v8,hN,hiN,hg,hw1,hft]
   refine (ih (i+1) at' t t out _ (by omega) hd2 (by omega) hat o5 ?_ ?_ ?_ ?_ ?_ (by omega) htot).mono fun e t h=>by simpa using h
   all_goals simp [v1,v5,v6,v7]
theorem zwk {bar:Nat} {H:Heap} {s:List UInt8} (hl:s.length≤900) {r:Re} (hf:r.fine) (hc:r.can (-1) 1=true) (hw:r.wide) :
  Rn fsT SA.sp bar 148 [r.av, .str s] H=some (.ret (.slc .own (if s= [] then [] else zaA (zbJ s 0 (zdT r s)))),H):=by
 have hs:=SA.mono
 have hclo:zcI [r.av,AV.str s]=true:=by simp only [zcI,zeI];rfl
 obtain ⟨d,hcs,hcl⟩:=Re.av_agg hw
 have hcl8:8≤d.length:=by omega
 have htk:List.take 8 d=d:=List.take_of_length_le (by omega)
 have hrall:=zBB (bar:=0) (H:= []) hl hf hc hw
 have hord:=zjY hf s
 have hlen:(zdT r s).length≤1001:=by
  rcases zht hord (by omega) with h | h
  ·omega
  ·rw [h];simp
 rw [hcs] at hclo hrall ⊢
 generalize zdT r s=L at *
 refine zan hs zF9 rfl hclo rfl ?_
 rw [zJt]
 cases s with
 | nil=>simp [zz2,zz1,zzZ,zzY,a148,zad hs,zaa hs,zac hs,zi3,zgi,hcl,frz,zbG]
 | cons c s' =>
  rw [if_neg (by simp)]
  have hbe:zgi (c::s') []=false:=rfl
  generalize c::s'=s at *
  have hA:=zbC L
  have hloop:=fun v=>zs4 (bar:=0) (H:= []) (by omega) hA hlen (zbJ s 0 L) L 0 0 0 (-1) [] v (by omega) rfl (Nat.le_refl _) (Nat.zero_le _) hord
  generalize zbc L=A at *
  simp [zz2,zz1,zzZ,zzY,zEB,zEA,a148,zad hs,zaa hs,zab hs,zac hs,zi3,hbe,hcl,hcl8,htk,hrall]
  refine (hloop _ ?_ ?_ ?_ ?_ ?_ (by simp) rfl).mono fun e t h=> ?_
  ·simp
  ·simp [zaA]
  ·simp
  ·simp
  ·simp
  obtain ⟨rfl,v',out,a,rfl,k1,k5,k6,ha,ho,htot⟩:=h
  have htk2:List.take (s.length-a) (s.drop a)=s.drop a:=List.take_of_length_le (by simp)
  have hok:=zb5 out
  have hle:(zaA out).length+1≤4294967296:=by rw [zdc];omega
  have hfr:=zpK [] .own (out ++ [s.drop a])
  rw [←htot]
  rw [zeV] at hfr ⊢
  have h1:zaA [s.drop a]= [.str (s.drop a)]:=rfl
  rw [h1] at hfr ⊢
  generalize zaA out=Y at *
  simp [zz0,zad hs,zaa hs,k1,k5,k6,ha,htk2,za6,hok,hle,hfr]
theorem zqQ {bar:Nat} {H:Heap} {l:List (List UInt8)} (hl:l.length≤1000000): ∀ (n i:Nat) (v:Nat→AV),i+n=l.length→v 0= .slc .ro (zaA l)→v 1= .slc .ro (zaA l)→v 5=num i →
  Wp (evI fsT SA.sp bar (.loop a147l8) (mkE 33571891 v,H)) (fun e t=>e= .exit 0∧ ∃ v',t=(mkE 33571891 v',H)):=by
 have hs:=SA.mono
 intro n
 induction n with
 | zero =>
  intro i v hi v0 v1 v5
  have hi':i=l.length:=by omega
  subst hi'
  rw [zah hs a147l8.eq_1]
  simp [zad hs,zaa hs,zab hs,zac hs,zsd,v0,v5,zdc]
  exact ⟨_,rfl⟩
 | succ n ih =>
  intro i v hi v0 v1 v5
  have hi':i<l.length:=by omega
  have hg:=zxC (List.getElem?_eq_getElem hi')
  have hw1:IntKind.i64.wrap ((i:Int)+1)=(i:Int)+1:=zak _ (by omega)
  have hne: ∀ x:List UInt8,zi3 .neq x x=some (.bool false):=fun x=>by simp [zi3,zmT]
  rw [zah hs a147l8.eq_1]
  simp [zad hs,zaa hs,zai hs,zab hs,zac hs,zsd,zvT,zvO,zvN,v0,v1,v5,zdc,hi',hg,hne,hw1]
  refine ih (i+1) _ (by omega) ?_ ?_ ?_
  all_goals simp [v0,v1]
theorem zsZ {bar:Nat} {H:Heap} {l:List (List UInt8)} (hl:l.length≤1000000) {a b:AV} (ha:a= .slc .ro (zaA l)∨(l= []∧a= .nils)) (hb:b= .slc .ro (zaA l)∨(l= []∧b= .nils)):Rn fsT SA.sp bar 147 [a,b] H=some (.ret (.bool true),H):=by
 have hs:=SA.mono
 have h0:=zyV l
 have hclo:zcI [a,b]=true:=by
  rcases ha with rfl | ⟨_,rfl⟩<;>rcases hb with rfl | ⟨_,rfl⟩<;>simp only [zcI,clo,h0]<;>rfl
 refine zan hs zGa rfl hclo rfl ?_
 rw [zJu]
 rcases ha with rfl | ⟨rfl,rfl⟩
 ·rcases hb with rfl | ⟨rfl,rfl⟩
  ·simp [zvS,zvR,zvQ,zvP,a147,zad hs,zaa hs,zab hs,zac hs]
   refine (zqQ (bar:=0) (H:= []) hl l.length 0 _ (by omega) ?_ ?_ ?_).mono fun e t h=> ?_
   all_goals try simp
   obtain ⟨rfl,v',rfl⟩:=h
   simp [zvM,zad hs,zaa hs]
  ·simp [zvS,zvR,zvQ,zvP,a147,zad hs,zaa hs,zab hs,zac hs,zaA]
   rw [zah hs a147l8.eq_1]
   simp [zsd,zvT,zvO,zvN,zvM,zad hs,zaa hs,zab hs,zac hs]
 ·rcases hb with rfl | ⟨_,rfl⟩
  all_goals
   simp [zvS,zvR,zvQ,zvP,a147,zad hs,zaa hs,zab hs,zac hs,zaA]
   rw [zah hs a147l8.eq_1]
   simp [zsd,zvT,zvO,zvN,zvM,zad hs,zaa hs,zab hs,zac hs]
end
section
theorem zex (n:Nat) (H:Heap) (p:Perm) (l:List (List UInt8)):frz n H (.slc p (zaA l))=some (.slc p (zaA l)):=by
 have:zbG n H (zaA l)=some (zaA l):=by
  unfold zaA
  induction l with
  | nil=>rfl
  | cons x l ih=>simp [zbG,frz,ih]
 simp only [frz,this]
end
end Go.Ak
