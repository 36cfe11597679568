/- That the law answers true. -/
import Derived.Test.YtfcgnpphabplbaaGreatDoorXk
import Derived.Test.YtfcgnpphabplbaaGreatDoorXd
set_option linter.unusedVariables false
set_option linter.unusedSimpArgs false

namespace Go.Ak
attribute [local simp] evI_skip Wp_skip Wp_exit Wp_ret zbg Ws_some andThen_norm andThen_ret andThen_exit andThen_pan outOf_norm outOf_ret outOf_pan outOf_exit fin_norm fin_ret fin_pan thaw_ret thaw_pan
 zaP zbp wanted zaz opd opdL live look_mkE upd_mkE look_cons ver_cons st_at put slotty esc escs arg1 args drop1 nbeq nble nblt binA binI rd wr zbh sub AV.cells pack one setCells resOf resV resAll roOf zaI sameR beqE_refl beqH_refl fillA fillS newRow newObj step hdOk_nil hdOk_cons contents take flat look lim natOf bound sliceA remake eqS eqL eqA ver
 frz_bool frz_int frz_str frz_nils frz_nilp
 List.getElem?_cons_zero List.getElem?_cons_succ hget_eq hget_new hget_cons_zero hget_cons_succ hget_nil
attribute [local simp] mvV mvL mgV mgL asL asI asB ldN ldV ldL ldG stV stL fdL fdV fdG fgL nlC nlG bnI bvI bnL bvL bxI bxU bgI bgL exT lnS lgS clA clB clC clI pkT pkF pvT pvF pgT pgF ixL axV bxV apL
attribute [-simp] getElem?_pos

section

theorem feeds_loop {bar:Nat} {H:Heap} {s:List UInt8} (hl:s.length≤1000000) {a N:Nat} (hN:zaS (s.drop a)=N): ∀ (m k:Nat) (v:Nat→AV),a+k+m=s.length→k+zaS (s.drop (a+k))=N→v 0= .str s→v 1=num a→v 5=num k →
  Wp (evI fsT SA.sp bar (.loop a103l4) (mkE 524339 v,H)) (fun e t=>e= .exit 0∧ ∃ v',t=(mkE 524339 v',H)∧v' 5=num N):=by
 have hs:=SA.mono
 intro m
 induction m with
 | zero =>
  intro k v hk hf v0 v1 v5
  rw [feed_end (by omega)] at hf
  have hkN:k=N:=by omega
  subst hkN
  have hw:IntKind.i64.wrap ((a:Int)+(k:Int))=(a:Int)+(k:Int):=i64_id _ (by omega)
  have hx: ¬ (a:Int)+(k:Int)<(s.length:Int):=by omega
  rw [zbG hs a103l4.eq_1]
  simp [zaM hs,zah hs,zas hs,zaC hs,a103r2,v0,v1,v5,hw,hx]
  exact ⟨_,rfl,by simp [v5]⟩
 | succ m ih =>
  intro k v hk hf v0 v1 v5
  have hlt:a+k<s.length:=by omega
  have hw:IntKind.i64.wrap ((a:Int)+(k:Int))=(a:Int)+(k:Int):=i64_id _ (by omega)
  have hw1:IntKind.i64.wrap ((k:Int)+1)=(k:Int)+1:=i64_id _ (by omega)
  have hx:(a:Int)+(k:Int)<(s.length:Int):=by omega
  have h0:(0:Int)≤(a:Int)+(k:Int):=by omega
  have ht:((a:Int)+(k:Int)).toNat=a+k:=by omega
  have hc:s[a+k]? = some s[a+k]:=List.getElem?_eq_getElem hlt
  generalize s[a+k]=c at hc
  rw [feed_at hc] at hf
  rw [zbG hs a103l4.eq_1]
  by_cases e:c=10
  ·have e10:((c.toNat:Int)==10)=true:=by rw [e];rfl
   rw [if_pos e] at hf
   simp [zaM hs,zah hs,zas hs,zaC hs,a103r2,a103r3,v0,v1,v5,hw,hw1,hx,h0,ht,hc,e10]
   refine ih (k+1) _ (by omega) (by rw [←Nat.add_assoc];omega) ?_ ?_ ?_
   all_goals simp [v0,v1]
  ·have e1: ¬ c.toNat=10:=fun q=>e (UInt8.toNat_inj.1 q)
   have e10:((c.toNat:Int)==10)=false:=by simp;omega
   rw [if_neg e] at hf
   have hkN:k=N:=by omega
   subst hkN
   simp [zaM hs,zah hs,zas hs,zaC hs,a103r2,v0,v1,v5,hw,hx,h0,ht,hc,e10]
   exact ⟨_,rfl,by simp [v5]⟩

theorem feeds_run {bar:Nat} {H:Heap} {s:List UInt8} (hl:s.length≤1000000) {a:Nat} (ha:a≤s.length):Rn fsT SA.sp bar 103 [.str s,num a] H=some (.ret (num (zaS (s.drop a))),H):=by
 have hs:=SA.mono
 refine pure_eq hs fsT_103 rfl rfl rfl ?_
 rw [env103]
 simp [a103r0,a103r1,a103,zaM hs,zah hs,zas hs]
 refine (feeds_loop (bar:=0) (H:= []) hl (a:=a) rfl (s.length-a) 0 _ (by omega) (by simp) ?_ ?_ ?_).mono fun e t h=> ?_
 ·simp
 ·simp
 ·simp
 obtain ⟨rfl,v',rfl,k5⟩:=h
 simp [a103r5,zaM hs,zah hs,k5]

theorem block_loop {bar:Nat} {H:Heap} {s:List UInt8} (hl:s.length≤1000000) {a:Nat} (ha:a≤s.length): ∀ (m i:Nat) (v:Nat→AV),i+m=s.length→a≤i→v 0= .str s→v 1=num a→v 8=num i →
  Wp (evI fsT SA.sp bar (.loop a94l10) (mkE 4398063551475 v,H)) (fun e t=>match blkI s m i with
   | none=>e= .exit 0∧ ∃ v',t=(mkE 4398063551475 v',H)∧v' 0= .str s∧v' 1=num a
   | some j=>e= .ret∧ ∃ v',t=(mkE 4398063551475 v',H)∧v' 4= .str ((s.drop a).take (j-a))∧v' 5=num (j+zaS (s.drop j))∧v' 6= .bool true∧v' 7=num 0):=by
 have hs:=SA.mono
 intro m
 induction m with
 | zero =>
  intro i v hi hai v0 v1 v8
  have hi':i=s.length:=by omega
  subst hi'
  rw [zbG hs a94l10.eq_1]
  simp [zaM hs,zah hs,zas hs,zaC hs,a94r5,v0,v8,blkI]
  exact ⟨_,rfl,by simp [v0],by simp [v1]⟩
 | succ m ih =>
  intro i v hi hai v0 v1 v8
  have hi':i<s.length:=by omega
  have hf:=fun H=>feeds_run (bar:=bar) (H:=H) hl (a:=i) (by omega)
  have hfl:=feedL_le (s.drop i)
  rw [List.length_drop] at hfl
  have hw1:IntKind.i64.wrap ((i:Int)+1)=(i:Int)+1:=i64_id _ (by omega)
  have hwl:IntKind.i64.wrap ((s.length:Int)-1)=(s.length:Int)-1:=i64_id _ (by omega)
  have hst:stopF s i=(1<zaS (s.drop i)∨(zaS (s.drop i)=1∧i+1=s.length)):=rfl
  rw [zbG hs a94l10.eq_1]
  generalize hF:zaS (s.drop i)=F at *
  have hwf:IntKind.i64.wrap ((i:Int)+(F:Int))=(i:Int)+(F:Int):=i64_id _ (by omega)
  have goes: ¬ stopF s i→ ∀ w:Nat→AV,w 0= .str s→w 1=num a→w 8=num (i+1) →
    Wp (evI fsT SA.sp bar (.loop a94l10) (mkE 4398063551475 w,H)) (fun e t=>match blkI s (m+1) i with
     | none=>e= .exit 0∧ ∃ v',t=(mkE 4398063551475 v',H)∧v' 0= .str s∧v' 1=num a
     | some j=>e= .ret∧ ∃ v',t=(mkE 4398063551475 v',H)∧v' 4= .str ((s.drop a).take (j-a))∧v' 5=num (j+zaS (s.drop j))∧v' 6= .bool true∧v' 7=num 0):=fun hn w w0 w1 w8=>by
   rw [blkI,if_neg hn]
   exact ih (i+1) w (by omega) (by omega) w0 w1 w8
  by_cases h1:1<F
  ·have hS:stopF s i:=by rw [hst];exact .inl h1
   have h1I:(1:Int)<(F:Int):=by omega
   rw [blkI,if_pos hS]
   simp [zaM hs,zah hs,zas hs,zaC hs,a94r5,a94r6,a94r7,a94r8,v0,v1,v8,hi',hf,h1,h1I,hai,hwf,Nat.le_of_lt hi']
   exact ⟨_,rfl,by simp,by simp [hF],by simp,by simp⟩
  ·have h1I: ¬ (1:Int)<(F:Int):=by omega
   by_cases h2:F=1
   ·have h2I:((F:Int)==1)=true:=by simp;omega
    by_cases h3:i+1=s.length
    ·have hS:stopF s i:=by rw [hst];exact .inr ⟨h2,h3⟩
     have h3I:((i:Int)==(s.length:Int)-1)=true:=by simp;omega
     rw [blkI,if_pos hS]
     simp [zaM hs,zah hs,zas hs,zaC hs,a94r5,a94r6,a94r7,a94r8,v0,v1,v8,hi',hf,h1,h1I,h2I,h3I,hwl,hai,hwf,Nat.le_of_lt hi']
     exact ⟨_,rfl,by simp,by simp [hF],by simp,by simp⟩
    ·have hS: ¬ stopF s i:=by rw [hst];rintro (h | ⟨_,h⟩)<;>omega
     have h3I:((i:Int)==(s.length:Int)-1)=false:=by simp;omega
     simp [zaM hs,zah hs,zas hs,zaC hs,a94r5,a94r6,a94r7,a94r8,a94r9,v0,v1,v8,hi',hf,h1,h1I,h2I,h3I,hwl,hw1]
     refine goes hS _ ?_ ?_ ?_
     all_goals simp [v0,v1]
   ·have h2I:((F:Int)==1)=false:=by simp;omega
    have hS: ¬ stopF s i:=by rw [hst];rintro (h | ⟨h,_⟩)<;>omega
    simp [zaM hs,zah hs,zas hs,zaC hs,a94r5,a94r6,a94r7,a94r8,a94r9,v0,v1,v8,hi',hf,h1,h1I,h2I,hw1]
    refine goes hS _ ?_ ?_ ?_
    all_goals simp [v0,v1]

/-- What a record is told as. -/
def recA (x:List UInt8×Nat×Bool):AV:= .tup [.str x.1,num x.2.1, .bool x.2.2,num 0]

theorem block_run {bar:Nat} {H:Heap} {s:List UInt8} (hl:s.length≤1000000) {a:Nat} (ha:a≤s.length):Rn fsT SA.sp bar 94 [.str s,num a] H=some (.ret (recA (blockF s a)),H):=by
 have hs:=SA.mono
 have hf:=fun H=>feeds_run (bar:=0) (H:=H) hl ha
 have hfl:=feedL_le (s.drop a)
 rw [List.length_drop] at hfl
 have hw:IntKind.i64.wrap ((a:Int)+(zaS (s.drop a):Int))=((a+zaS (s.drop a):Nat):Int):=by rw [i64_id _ (by omega)];omega
 refine pure_eq hs fsT_94 rfl rfl rfl ?_
 rw [env94]
 unfold blockF
 have hA:a+zaS (s.drop a)≤s.length:=by omega
 generalize zaS (s.drop a)=F at *
 generalize hb:a+F=b at *
 unfold blockG
 by_cases e:b=s.length
 ·rw [if_pos e]
  have eI:((b:Int)==(s.length:Int))=true:=by simp;omega
  simp [a94r0,a94r1,a94r2,a94r3,a94,zaM hs,zah hs,zas hs,zaC hs,hf,hw,eI,recA,frz,frzL]
 ·rw [if_neg e]
  have eI:((b:Int)==(s.length:Int))=false:=by simp;omega
  simp [a94r0,a94r1,a94r2,a94r3,a94r4,a94,zaM hs,zah hs,zas hs,zaC hs,hf,hw,eI]
  refine (block_loop (bar:=0) (H:= []) hl (a:=b) hA (s.length-b) b _ (by omega) (Nat.le_refl _) ?_ ?_ ?_).mono fun e t h=> ?_
  ·simp
  ·simp
  ·simp
  cases hq:blkI s (s.length-b) b with
  | none =>
   rw [hq] at h
   obtain ⟨rfl,v',rfl,k0,k1⟩:=h
   have htk:List.take (s.length-b) (s.drop b)=s.drop b:=List.take_of_length_le (by simp)
   simp [a94r11,zaM hs,zah hs,k0,k1,hA,htk,recA,frz,frzL]
  | some j =>
   rw [hq] at h
   obtain ⟨rfl,v',rfl,k4,k5,k6,k7⟩:=h
   simp [k4,k5,k6,k7,recA,frz,frzL]

theorem NextB_run {bar:Nat} {H:Heap} {s:List UInt8} (hl:s.length≤1000000) {a:Nat} (ha:a≤s.length):Rn fsT SA.sp bar 80 [.str s,num a, .str []] H=some (.ret (recA (if a=s.length then ([],0,false) else blockF s a)),H):=by
 have hs:=SA.mono
 have hx: ¬ (a:Int)<0:=by omega
 refine pure_eq hs fsT_80 rfl rfl rfl ?_
 rw [env80]
 by_cases e:a=s.length
 ·have hg:(s.length:Int)≤(a:Int):=by omega
  rw [if_pos e]
  simp [a80r0,a80r1,a80r2,a80,zaM hs,zah hs,zas hs,zaC hs,hx,hg,recA,frz,frzL]
 ·have hg: ¬ (s.length:Int)≤(a:Int):=by omega
  have hb:=block_run (bar:=0) (H:= []) hl ha
  rw [if_neg e]
  generalize blockF s a=x at *
  obtain ⟨r,n,b⟩:=x
  simp only [recA] at hb ⊢
  simp [a80r0,a80r1,a80r2,a80r3,a80r4,a80,zaM hs,zah hs,zas hs,zaC hs,hx,hg,hb,binS,beqS,frz,frzL]

end

section

theorem inner_blocks {bar:Nat} {H:Heap} {r:List UInt8} (hl:r.length≤1000000) (hno: ∀ k:Nat,r[k]? = some 10→ ¬ r[k+1]? = some 10): ∀ (m k:Nat) (v:Nat→AV),k+m=r.length→v 5= .str r→v 9=num k →
  Wp (evI fsT SA.sp bar (.loop a163l17) (mkE 151134750656657344304125 v,H)) (fun e t=>e= .exit 2∧ ∃ v',t=(mkE 151134750656657344304125 v',H)∧v' 0=v 0∧v' 4=v 4∧v' 6=v 6):=by
 have hs:=SA.mono
 intro m
 induction m with
 | zero =>
  intro k v hk v5 v9
  have hw1:IntKind.i64.wrap ((k:Int)+1)=(k:Int)+1:=i64_id _ (by omega)
  have hx: ¬ (k:Int)+1<(r.length:Int):=by omega
  rw [zbG hs a163l17.eq_1]
  simp [zaM hs,zah hs,zas hs,zaC hs,a163r13,v5,v9,hw1,hx]
  exact ⟨_,rfl,by simp,by simp,by simp⟩
 | succ m ih =>
  intro k v hk v5 v9
  have hw1:IntKind.i64.wrap ((k:Int)+1)=(k:Int)+1:=i64_id _ (by omega)
  rw [zbG hs a163l17.eq_1]
  by_cases hlt:k+1<r.length
  ·have hx:(k:Int)+1<(r.length:Int):=by omega
   have hc:r[k]? = some r[k]:=List.getElem?_eq_getElem (by omega)
   have hd:r[k+1]? = some r[k+1]:=List.getElem?_eq_getElem hlt
   have hn:=hno k
   rw [hc,hd] at hn
   have h0:(0:Int)≤(k:Int)+1:=by omega
   have ht:((k:Int)+1).toNat=k+1:=by omega
   generalize r[k]=c at *
   generalize r[k+1]=d at *
   have next: ∀ w:Nat→AV,w 5= .str r→w 9=num (k+1)→w 0=v 0→w 4=v 4→w 6=v 6 →
     Wp (evI fsT SA.sp bar (.loop a163l17) (mkE 151134750656657344304125 w,H)) (fun e t=>e= .exit 2∧ ∃ v',t=(mkE 151134750656657344304125 v',H)∧v' 0=v 0∧v' 4=v 4∧v' 6=v 6):=fun w w5 w9 w0 w4 w6=>by
    have:=ih (k+1) w (by omega) w5 w9
    rw [w0,w4,w6] at this
    exact this
   by_cases ec:c=10
   ·have e1:((c.toNat:Int)==10)=true:=by rw [ec];rfl
    have ed: ¬ d=10:=fun e=>hn (by rw [ec]) (by rw [e])
    have ed': ¬ d.toNat=10:=fun q=>ed (UInt8.toNat_inj.1 q)
    have e2:((d.toNat:Int)==10)=false:=by simp;omega
    simp [zaM hs,zah hs,zas hs,zaC hs,a163r13,a163r14,a163r15,a163r16,v5,v9,hw1,hx,hc,hd,h0,ht,e1,e2]
    refine next _ ?_ ?_ ?_ ?_ ?_
    all_goals simp [v5]
   ·have ec': ¬ c.toNat=10:=fun q=>ec (UInt8.toNat_inj.1 q)
    have e1:((c.toNat:Int)==10)=false:=by simp;omega
    simp [zaM hs,zah hs,zas hs,zaC hs,a163r13,a163r14,a163r15,a163r16,v5,v9,hw1,hx,hc,h0,ht,e1]
    refine next _ ?_ ?_ ?_ ?_ ?_
    all_goals simp [v5]
  ·have hx: ¬ (k:Int)+1<(r.length:Int):=by omega
   simp [zaM hs,zah hs,zas hs,zaC hs,a163r13,v5,v9,hw1,hx]
   exact ⟨_,rfl,by simp,by simp,by simp⟩

theorem blockF_len (s:List UInt8) (a:Nat):(blockF s a).1.length≤s.length:=by
 unfold blockF blockG
 split
 ·simp
 ·split
  ·simp;omega
  ·simp

theorem outer_blocks {bar:Nat} {H:Heap} {s:List UInt8} (hl:s.length≤1000): ∀ (m i a:Nat) (v:Nat→AV),a+m=s.length→i≤a→v 0= .str s→v 3=num a→v 4=num i →
  Wp (evI fsT SA.sp bar (.loop a163l20) (mkE 151134750656657344304125 v,H)) (fun e t=>e= .ret∧ ∃ v',t=(mkE 151134750656657344304125 v',H)∧v' 2= .bool true):=by
 have hs:=SA.mono
 have hlives:=fun H=>lives09 bar H
 intro m
 induction m using Nat.strongRecOn with
 | _ m ih =>
  intro i a v ha hia v0 v3 v4
  have hn:=fun H=>NextB_run (bar:=bar) (H:=H) (s:=s) (by omega) (a:=a) (by omega)
  have hi':i≤s.length:=by omega
  rw [zbG hs a163l20.eq_1]
  by_cases e:a=s.length
  ·rw [if_pos e] at hn
   simp only [recA] at hn
   simp [zaM hs,zah hs,zas hs,zaC hs,a163r4,a163r5,a163r6,a163r7,a163r8,a163r9,v0,v3,v4,hi',hn,hlives]
   exact ⟨_,rfl,by simp⟩
  ·rw [if_neg e] at hn
   have hspec:=fun {r n} h=>blockF_spec (s:=s) (a0:=a) (by omega) (r:=r) (n:=n) h
   have hrl:=blockF_len s a
   generalize blockF s a=x at *
   obtain ⟨r,n,b⟩:=x
   simp only at hrl
   simp only [recA] at hn
   cases b with
   | false =>
    simp [zaM hs,zah hs,zas hs,zaC hs,a163r4,a163r5,a163r6,a163r7,a163r8,a163r9,v0,v3,v4,hi',hn,hlives]
    exact ⟨_,rfl,by simp⟩
   | true =>
    obtain ⟨q1,q2,q3,q4,q5,q6⟩:=hspec rfl
    have hr0:((r.length:Int)==0)=false:=by simp;intro e;rw [e] at q3;simp at q3
    have hr0': ¬ r.length=0:=by omega
    have hc0:r[0]? = some r[0]:=List.getElem?_eq_getElem q3
    have hcl:r[r.length-1]? = some (r[r.length-1]'(by omega)):=List.getElem?_eq_getElem _
    have f0:=q4 _ hc0
    have fl:=q5 _ hcl
    generalize r[0]=c at *
    generalize r[r.length-1]'(by omega)=d at *
    have g0': ¬ c.toNat=10:=fun q=>f0 (UInt8.toNat_inj.1 q)
    have gl': ¬ d.toNat=10:=fun q=>fl (UInt8.toNat_inj.1 q)
    have g0:((c.toNat:Int)==10)=false:=by simp;omega
    have gl:((d.toNat:Int)==10)=false:=by simp;omega
    have hwl:IntKind.i64.wrap ((r.length:Int)-1)=((r.length-1:Nat):Int):=by rw [i64_id _ (by omega)];omega
    have hna: ¬ (n:Int)≤(a:Int):=by omega
    have hns: ¬ (s.length:Int)<(n:Int):=by omega
    have hw1:IntKind.i64.wrap ((i:Int)+1)=(i:Int)+1:=i64_id _ (by omega)
    simp [zaM hs,zah hs,zas hs,zaC hs,a163r4,a163r5,a163r6,a163r7,a163r8,a163r9,a163r10,a163r11,a163r12,v0,v3,v4,hi',hn,hr0,hc0,hcl,g0,gl,hwl,hna,hns]
    refine (inner_blocks (bar:=bar) (H:=H) (r:=r) (by omega) q6 r.length 0 _ (by omega) ?_ ?_).mono fun e t h=> ?_
    ·simp
    ·simp
    obtain ⟨rfl,u,rfl,k0,k4,k6⟩:=h
    simp at k0 k4 k6
    rw [v0] at k0
    rw [v4] at k4
    simp [zaM hs,zah hs,zas hs,zaC hs,a163r18,a163r19,k0,k4,k6,hw1]
    refine ih (s.length-n) (by omega) (i+1) n _ (by omega) (by omega) ?_ ?_ ?_
    all_goals simp [k0]

theorem fieldsBlocks_all (s:List UInt8):Wc (Rn fsT SA.sp 0 163 [.str s] []) (fun o _=>o= .ret (.bool true)):=by
 have hs:=SA.mono
 have hlives:=fun H=>lives09 0 H
 suffices h:Rn fsT SA.sp 0 163 [.str s] []=some (.ret (.bool true),[]) from ⟨_,_,h,rfl⟩
 refine pure_eq hs fsT_163 rfl rfl rfl ?_
 rw [env163]
 by_cases h200:200<s.length
 ·have h200':(200:Int)<(s.length:Int):=by omega
  simp [a163r0,a163r1,a163r2,a163,zaM hs,zah hs,zaC hs,h200',hlives]
 have h200': ¬ (200:Int)<(s.length:Int):=by omega
 simp [a163r0,a163r1,a163r2,a163r3,a163,zaM hs,zah hs,zas hs,zaC hs,h200']
 refine (outer_blocks (bar:=0) (H:= []) (s:=s) (by omega) s.length 0 0 _ (by omega) (Nat.le_refl _) ?_ ?_ ?_).mono fun e t h=> ?_
 ·simp
 ·simp
 ·simp
 obtain ⟨rfl,v',rfl,k2⟩:=h
 simp [k2]

end

end Go.Ak

