/- That the law answers true. -/
import Derived.Test.YtfcgnpphabplbaaTs
import Derived.ProofKit
import Derived.Test.YtfcgnpphabplbaaTu
set_option linter.unusedVariables false
set_option linter.unusedSimpArgs false

namespace Go.Ak
set_option maxRecDepth 100000

theorem lives07_run:run fsT spB 300 0 9 [] []=some (.ret (.bool true),[]):=by kernel_rfl

theorem lives07 (bar:Nat) (H:Heap):Rn fsT SA.sp bar 9 [] H=some (.ret (.bool true),H):=pure_any SA.mono fsT_9 rfl rfl lives07_run bar H

end Go.Ak

namespace Go.Ak
attribute [local simp] zcy zei zej Wp_ret zbn zdq zaO zbi za6 zbj zbu zch zci zbp zcX zeg zeh zcN zcO
 zaT zcH wanted zbb opd opdL live zcQ zdC zbF zcM st_at put zey esc escs arg1 args drop1 nbeq nble nblt binA binI rd wr zbG sub AV.cells pack one setCells zeY resV zdf roOf zaN zfR zaw zav zeC zbq newRow newObj step zcS zck contents take flat look lim zeB bound zem zez eqS eqL eqA ver
 zcW zef zee zcU zcV
 List.getElem?_cons_zero List.getElem?_cons_succ zed zbt zaP zaQ zcR
attribute [local simp] mvV mvL mgV mgL asL asI asB ldN ldV ldL ldG stV stL fdL fdV fdG fgL nlC nlG bnI bvI bnL bvL bxI bxU bgI bgL exT lnS lgS clA clB clC clI pkT pkF pvT pvF pgT pgF ixL axV bxV apL
attribute [-simp] getElem?_pos

section

theorem trues_nil {p:Nat→Bool}: ∀ (n:Nat),(∀ k,k<n→p k=false)→zds p n= []
 | 0,_=>rfl
 | n+1,h=>by rw [trues_succ,trues_nil n fun k hk=>h k (by omega),h n (by omega)];rfl

theorem trues_last {p:Nat→Bool} {j:Nat} (hj:p j=true): ∀ (n:Nat),j<n→(∀ k,k<n→p k=true→k≤j)→ ∃ l,zds p n=l ++ [j]
 | 0,h,_=>by omega
 | n+1,h,hm=>by
  rw [trues_succ]
  by_cases e:j=n
  ·subst e;exact ⟨zds p j,by rw [if_pos hj]⟩
  ·have hn: ¬ p n=true:=fun k=>by have:=hm n (by omega) k;omega
   obtain ⟨l,hl⟩:=trues_last hj n (by omega) fun k hk=>hm k (by omega)
   exact ⟨l,by rw [hl,if_neg hn,List.append_nil]⟩

theorem newF_can {s:List UInt8} {y:Re} {j:Nat} (h:newF s= .ok y j):y.can (-1) 1=true:=by
 unfold newF at h
 split at h
 ·cases h
 split at h
 ·cases h
 split at h
 ·cases h
 ·rename_i h0 _
  simp only [PR.ok.injEq] at h
  obtain ⟨rfl,rfl⟩:=h
  rename_i z _ _ _
  cases hc:z.can (-1) 1 with
  | true=>rfl
  | false=>exact absurd (by simp [Re.states,hc]) h0

/-- A row of the table, and the longest. -/
theorem row_eF {r:Re} (hf:r.fine) (hc:r.can (-1) 1=true) {s:List UInt8} {i:Nat} (hi:i≤s.length):(eF r s i<0∧zds (r.tab s i) (s.length+1)= [])∨(∃ j l,eF r s i=((j:Nat):Int)∧j≤s.length∧zds (r.tab s i) (s.length+1)=l ++ [j]):=by
 have hok:=Re.tab_ok s r (-1) 1 hc
 rcases eF_spec hf hi with ⟨e,hno⟩ | ⟨j,e,hm,hmax⟩
 ·refine .inl ⟨by omega,trues_nil _ fun k hk=> ?_⟩
  cases h:r.tab s i k with
  | false=>rfl
  | true=>exact absurd ((hok i k (by omega) hk).1 h) (hno k)
 ·have hj:=Re.M_stays s r i j (by omega) hm
  obtain ⟨l,hl⟩:=trues_last (p:=r.tab s i) ((hok i j (by omega) hj).2 hm) (s.length+1) hj fun k hk h=>hmax k ((hok i k (by omega) hk).1 h)
  exact .inr ⟨j,l,e,by omega,hl⟩

theorem longest_loop {H:Heap} {s:List UInt8} {r:Re} (hl:s.length≤900) (hf:r.fine) (hc:r.can (-1) 1=true) (hw:r.wide) {cs:List AV} (hcs:r.av= .agg cs) (h8:cs.length=8) {at':Nat} {x:Option (Nat×Nat)} (hx:x=fndF (eF r s) (s.length+1-at') at') (hat:at'≤s.length) :
  ∀ (n i:Nat) (v:Nat→AV),i+n=s.length+1→at'≤i→(∀ f t,x=some (f,t)→i≤f)→v 1= .str s→v 10= .box cs→v 16=num i→ .tup [v 13,v 14,v 15]=findA x →
   Wp (evI fsT SA.sp 0 (.loop a13l16) (mkE 2596148584047697674815138232008647 v,H)) (fun e t=>(e= .ret∧ ∃ v',t=(mkE 2596148584047697674815138232008647 v',H)∧v' 6= .bool true)∨(e= .exit 0∧ ∃ v',t=(mkE 2596148584047697674815138232008647 v',H)∧v' 15= .bool false)):=by
 have hs:=SA.mono
 have hlives:=fun H=>lives07 0 H
 have ht:=tab_run hl r (-1) 1 hc hw
 have htk:List.take 8 cs=cs:=List.take_of_length_le (by omega)
 have h8':8≤cs.length:=by omega
 intro n
 induction n with
 | zero =>
  intro i v hi hai hxi v1 v10 v16 vx
  have hi':i=s.length+1:=by omega
  subst hi'
  cases x with
  | some q =>
   obtain ⟨f,t⟩:=q
   have h1:=hxi f t rfl
   have h2:=zfw (eF_ahead hf s) _ at' (by omega) hx.symm
   omega
  | none =>
   simp only [findA,AV.tup.injEq,List.cons.injEq,and_true] at vx
   obtain ⟨v13,v14,v15⟩:=vx
   have hx: ¬ (s.length:Int)+1≤(s.length:Int):=by omega
   rw [zah hs a13l16.eq_1]
   simp [zad hs,zaa hs,zab hs,zac hs,a13r9,v1,v16,hx]
   exact ⟨_,rfl,by simp [v15]⟩
 | succ n ih =>
  intro i v hi hai hxi v1 v10 v16 vx
  have hi':i≤s.length:=by omega
  have hw1:IntKind.i64.wrap ((i:Int)+1)=(i:Int)+1:=zaj _ (by omega)
  have hends:=fun H=>rends_run (bar:=0) (H:=H) hl hw ht hi'
  rw [hcs] at hends
  rw [zah hs a13l16.eq_1]
  rcases row_eF hf hc hi' with ⟨e1,e2⟩ | ⟨j,l,e1,e2,e3⟩
  · -- none begins here
   rw [e2] at hends
   have hne: ∀ f t,x=some (f,t)→i≠f:=fun f t h e=>by
    have h2:=zfw (eF_ahead hf s) _ at' (by omega) (hx.symm.trans h)
    subst e
    omega
   cases hq:x with
   | none =>
    rw [hq] at vx
    simp only [findA,AV.tup.injEq,List.cons.injEq,and_true] at vx
    obtain ⟨v13,v14,v15⟩:=vx
    simp [zad hs,zaa hs,zab hs,zac hs,a13r9,a13r10,a13r11,a13r12,a13r13,a13r14,a13r15,v1,v10,v15,v16,hi',h8',htk,hends,zer,hw1]
    refine ih (i+1) _ (by omega) (by omega) (fun f t h=> ?_) ?_ ?_ ?_ ?_
    ·rw [hq] at h;cases h
    ·simp [v1]
    ·simp [v10]
    ·simp
    ·simp [hq,findA,v13,v14,v15]
   | some q =>
    obtain ⟨f,t⟩:=q
    rw [hq] at vx
    simp only [findA,AV.tup.injEq,List.cons.injEq,and_true] at vx
    obtain ⟨v13,v14,v15⟩:=vx
    have h1:=hne f t hq
    have h2:=hxi f t hq
    have h3:((i:Int)==(f:Int))=false:=by simp;omega
    simp [zad hs,zaa hs,zab hs,zac hs,a13r9,a13r10,a13r11,a13r12,a13r13,a13r14,a13r15,v1,v10,v13,v15,v16,hi',h8',htk,hends,zer,hw1,h3]
    refine ih (i+1) _ (by omega) (by omega) (fun f' t' h=> ?_) ?_ ?_ ?_ ?_
    ·rw [hq] at h;simp only [Option.some.injEq,Prod.mk.injEq] at h;omega
    ·simp [v1]
    ·simp [v10]
    ·simp
    ·simp [hq,findA,v13,v14,v15]
  · -- here
   rw [e3] at hends
   have hxq:x=some (i,j):=by
    cases hq:x with
    | none =>
     have:=(fndF_none _ at').1 (hx.symm.trans hq) i hai (by omega)
     omega
    | some q =>
     obtain ⟨f,t⟩:=q
     have h2:=zfw (eF_ahead hf s) _ at' (by omega) (hx.symm.trans hq)
     have h3:=hxi f t hq
     by_cases e:i=f
     ·subst e
      have:t=j:=by omega
      rw [this]
     ·have:=h2.2.2.2.2 i hai (by omega)
      omega
   have hij:i≤j:=by
    have h2:=zfw (eF_ahead hf s) _ at' (by omega) (hx.symm.trans hxq)
    omega
   rw [hxq] at vx
   simp only [findA,AV.tup.injEq,List.cons.injEq,and_true] at vx
   obtain ⟨v13,v14,v15⟩:=vx
   have hlen:(zer (l ++ [j])).length=l.length+1:=by simp [zer]
   have hll:l.length≤1000:=by
    have:=trues_len (r.tab s i) (s.length+1)
    rw [e3] at this;simp at this;omega
   have hw2:IntKind.i64.wrap ((l.length:Int)+1-1)=(l.length:Int):=by rw [zaj _ (by omega)];omega
   have hw3:IntKind.i64.wrap ((l.length:Int))=(l.length:Int):=zaj _ (by omega)
   have hg:(zer (l ++ [j]))[l.length]? = some (num j):=by rw [zer,List.map_append,List.getElem?_append_right (by simp)];simp
   have h0:(0:Int)<(l.length:Int)+1:=by omega
   generalize zer (l ++ [j])=A at *
   simp [zad hs,zaa hs,zab hs,zac hs,a13r9,a13r10,a13r11,a13r12,a13r13,a13r14,a13r15,v1,v10,v13,v14,v15,v16,hi',h8',htk,hends,hlen,hw2,hw3,hg,hij,h0,hlives]
   exact ⟨_,rfl,by simp⟩

theorem matchLongest_run {H:Heap} (p s:List UInt8) (at':Int) (h0: -9223372036854775808≤at') (h1:at'≤9223372036854775807):Wc (Rn fsT SA.sp 0 13 [.str p, .str s, .int .i64 at'] H) (fun o _=>o= .ret (.bool true)):=by
 have hs:=SA.mono
 have hlives:=fun H=>lives07 0 H
 obtain ⟨b,hb⟩:=light_run p
 have hb:=fun H=>hb 0 H
 have hnew:=fun H=>ref_new (bar:=0) (H:=H) p
 have hz:emptyRe.av= .agg [.int .i64 0, .int .u64 0, .int .u64 0, .int .u64 0, .int .u64 0, .int .i64 0, .int .i64 0, .nils]:=rfl
 refine zaY hs fsT_13 rfl rfl ?_
 rw [env13]
 cases b with
 | false=>simp [a13r0,a13r1,a13r2,a13,zad hs,zaa hs,zac hs,hb,hlives]
 | true =>
 by_cases h25:25<s.length
 ·have h25':(25:Int)<(s.length:Int):=by omega
  simp [a13r0,a13r1,a13r2,a13,zad hs,zaa hs,zac hs,hb,h25',hlives]
 have h25': ¬ (25:Int)<(s.length:Int):=by omega
 obtain ⟨o,K,q1,q2⟩:=New_run (bar:=0) (H:=H) p (Nat.zero_le _)
 cases hx:newF p with
 | er a w =>
  have hw:=newF_er hx
  have hw2:((w:Int) != 0)=true:=by simp [bne];omega
  rw [hx] at q2 hnew
  obtain ⟨rfl,rfl⟩:=q2
  simp only [zbw,hz] at hnew
  simp [a13r0,a13r1,a13r2,a13r3,a13r4,a13r5,a13r6,a13,zad hs,zaa hs,zac hs,hb,h25',q1,hnew,hlives,hw2]
 | ok r j =>
  have hc:=newF_can hx
  have hw:=newF_wide hx
  rw [hx] at q2 hnew
  obtain ⟨pid,rfl,hpl,hF,hP⟩:=q2
  simp only [zbw] at hnew
  obtain ⟨c1,c2,c3,c4,c5,c6,hcs⟩:=Re.av_eight hw
  rw [hcs] at hnew
  by_cases hneg:at'<0
  ·simp [a13r0,a13r1,a13r2,a13r3,a13r4,a13r5,a13r6,a13,zad hs,zaa hs,zac hs,hb,h25',q1,hnew,hlives,hneg]
  by_cases hbig:(s.length:Int)<at'
  ·simp [a13r0,a13r1,a13r2,a13r3,a13r4,a13r5,a13r6,a13,zad hs,zaa hs,zac hs,hb,h25',q1,hnew,hlives,hneg,hbig]
  obtain ⟨n,rfl⟩: ∃ n:Nat,at'=n:=⟨at'.toNat,by omega⟩
  have hn:n≤s.length:=by omega
  have hfind:=Find_run (bar:=0) hP (s:=s) (by omega) hn
  have hloop:=fun v=>longest_loop (H:=K) (s:=s) (by omega) hP.fine hc hw hcs rfl (at':=n) (x:=fndF (eF r s) (s.length+1-n) n) rfl hn (s.length+1-n) n v (by omega) (Nat.le_refl _) (fun f t h=>(zfw (eF_ahead hP.fine s) _ n (by omega) h).1)
  generalize fndF (eF r s) (s.length+1-n) n=x at *
  cases x with
  | none =>
   simp only [findA] at hfind hloop
   simp [a13r0,a13r1,a13r2,a13r3,a13r4,a13r5,a13r6,a13r7,a13r8,a13,zad hs,zaa hs,zac hs,zab hs,hb,h25',q1,hnew,hneg,hbig,hfind]
   refine (hloop _ ?_ ?_ ?_ ?_).mono fun e t h=> ?_
   ·simp
   ·simp
   ·simp
   ·simp
   rcases h with ⟨rfl,u,rfl,u6⟩ | ⟨rfl,u,rfl,u15⟩
   ·simp [u6]
   ·simp [a13r17,zad hs,zaa hs,u15,hlives]
  | some q =>
   obtain ⟨f,t⟩:=q
   simp only [findA] at hfind hloop
   simp [a13r0,a13r1,a13r2,a13r3,a13r4,a13r5,a13r6,a13r7,a13r8,a13,zad hs,zaa hs,zac hs,zab hs,hb,h25',q1,hnew,hneg,hbig,hfind]
   refine (hloop _ ?_ ?_ ?_ ?_).mono fun e t h=> ?_
   ·simp
   ·simp
   ·simp
   ·simp
   rcases h with ⟨rfl,u,rfl,u6⟩ | ⟨rfl,u,rfl,u15⟩
   ·simp [u6]
   ·simp [a13r17,zad hs,zaa hs,u15,hlives]

end

end Go.Ak

