/- Parts' places taken: Put, All, the document's Put. -/
import Derived.Test.YtfcgnpphabplbaaGreatUk
import Derived.Test.YtfcgnpphabplbaaGreatUs
set_option linter.unusedVariables false
set_option linter.unusedSimpArgs false

namespace Go.Ak
attribute [local simp] zbF zcX zcY zew zbg zcB zaC zaU zaK zaV zbb zbm zbn zaY zbT zcU zcV zbJ zbK
 zaO zcH wanted zbl opd opdL live zbM zcG zbi zbH zf7 put zdi esc escs arg1 args drop1 nbeq nble nblt binA binI rd wr zbB sub AV.cells pack one setCells zdV resV zcM roOf zaJ zeH zaw zav zda za1 newRow newObj step zbP zbo contents take flat look lim zdL bound zc7 zdj eqS eqL eqA ver
 zbS zcT zcS zbQ zbR
 List.getElem?_cons_zero List.getElem?_cons_succ zcR zbc zaA zaB zbO
attribute [local simp] mvV mvL mgV mgL asL asI asB ldN ldV ldL ldG stV stL fdL fdV fdG fgL nlC nlG bnI bvI bnL bvL bxI bxU bgI bgL exT lnS lgS clA clB clC clI pkT pkF pvT pvF pgT pgF ixL axV bxV apL
attribute [-simp] getElem?_pos

section

/-- A builder of its own holds a text. -/
def BC (bar:Nat) (H:Heap) (q:Nat) (s:List UInt8):Prop :=
 bar≤q∧ ∃ b0,(b0= .nilp∨b0= .tptr 4 2 q 0)∧((hget H q=some (some [b0, .nils])∧s= [])∨ ∃ r cs,hget H q=some (some [b0, .bsl r s.length])∧hget H r=some (some cs)∧cs.take s.length=bytesOf s∧s.length≤cs.length∧q≠r∧bar≤r∧s ≠ [])

theorem bytesOf_append (a b:List UInt8):bytesOf (a++b)=bytesOf a++bytesOf b:=by simp [bytesOf]

theorem BC.new (bar:Nat) (H:Heap) (h:bar≤H.length):BC bar (H ++ [some [.nilp, .nils]]) H.length []:=⟨h, .nilp, .inl rfl, .inl ⟨zbc _ _,rfl⟩⟩

theorem bwrite {bar:Nat} {H:Heap} {q:Nat} {s t:List UInt8} (h:BC bar H q s) (hl:s.length+t.length≤4000000000) :
  ∃ H',Rn fsT SA.sp bar 51 [.tptr 4 2 q 0, .str t] H=some (.ret (.tup [num t.length, .nili]),H')∧BC bar H' q (s++t):=by
 have hs:=SA.mono
 obtain ⟨hb,b0,hb0,hc⟩:=h
 have fin: ∀ {H':Heap} {o:Out},Wc (Rn fsT SA.sp bar 51 [.tptr 4 2 q 0, .str t] H) (fun o H'=>o= .ret (.tup [num t.length, .nili])∧BC bar H' q (s++t))→ ∃ H',Rn fsT SA.sp bar 51 [.tptr 4 2 q 0, .str t] H=some (.ret (.tup [num t.length, .nili]),H')∧BC bar H' q (s++t):=fun ⟨o,H',h1,h2,h3⟩=>⟨H',by rw [h1,h2],h3⟩
 refine fin (H':=H) (o:= .ret .nili) (za0 hs fsT_51 rfl rfl ?_)
 rw [env51]
 rcases hc with ⟨hq,rfl⟩ | ⟨r,cs,hq,hr,h1,h2,hqr,hbr,hne⟩
 ·have hql:=zas hq
  cases t with
  | nil =>
   rcases hb0 with rfl | rfl
   all_goals
    simp [a51,a51r0,a51r1,a51r2,a51r3,zad hs,zaa hs,Rn_check,zf8,okB,hq,zae,hql,bytesOf,hb]
    exact ⟨hb,_, .inr rfl, .inl ⟨zae _ hql,rfl⟩⟩
  | cons c t =>
   have htl:t.length+1≤4294967296:=by simp only [List.length_cons] at hl;omega
   have hfl:List.flatMap AV.cells (List.map (fun b:UInt8=>AV.int .u8 b.toNat) t)=bytesOf t:=flat_bytes t
   have hne:q≠H.length:=by omega
   rcases hb0 with rfl | rfl
   all_goals
    simp [a51,a51r0,a51r1,a51r2,a51r3,zad hs,zaa hs,Rn_check,zf8,okB,hq,zae,hql,bytesOf,htl,hfl,zaN,hb]
    refine ⟨hb,_, .inr rfl, .inr ⟨H.length,bytesOf (c::t),?_,?_,?_,?_,hne,by omega,by simp⟩⟩
    ·rw [zaN _ (by simpa using hql)]
     exact zae _ hql
    ·exact zeq _ _ _ (by simp)
    ·exact List.take_of_length_le (by simp [bytesOf])
    ·simp [bytesOf]
 ·have hql:=zas hq
  have hrl:=zas hr
  have hrq:r≠q:=Ne.symm hqr
  have hlim:s.length+t.length≤4294967296:=by omega
  have hfl:List.flatMap AV.cells (List.map (fun b:UInt8=>AV.int .u8 b.toNat) t)=bytesOf t:=flat_bytes t
  have hq1:q≠H.length:=by omega
  rcases hb0 with rfl | rfl
  all_goals
   simp [a51,a51r0,a51r1,a51r2,a51r3,zad hs,zaa hs,Rn_check,zf8,okB,hq,hr,h2,zae,zat,hql,hqr,hrq,bytesOf,hlim,hfl,zaN,hb,hbr]
   refine ⟨hb,_, .inr rfl, .inr ⟨H.length,cs.take s.length++bytesOf t,?_,?_,?_,?_,hq1,by omega,by simp [hne]⟩⟩
   ·rw [zaN _ (by simpa using hql)]
    simp only [List.length_append]
    first | (rw [zae _ (by simpa using hql)];done) | (rw [zat _ hrq,zae _ (by simpa using hql)];done)
   ·exact zeq _ _ _ (by simp)
   ·rw [h1,←bytesOf_append,List.take_of_length_le (by simp [bytesOf])]
   ·simp [bytesOf];omega

theorem bbyte {bar:Nat} {H:Heap} {q:Nat} {s:List UInt8} {c:UInt8} (h:BC bar H q s) (hl:s.length≤4000000000) :
  ∃ H',Rn fsT SA.sp bar 76 [.tptr 4 2 q 0, .int .u8 c.toNat] H=some (.ret .nili,H')∧BC bar H' q (s ++ [c]):=by
 have hs:=SA.mono
 obtain ⟨hb,b0,hb0,hc⟩:=h
 have fin:Wc (Rn fsT SA.sp bar 76 [.tptr 4 2 q 0, .int .u8 c.toNat] H) (fun o H'=>o= .ret .nili∧BC bar H' q (s ++ [c]))→ ∃ H',Rn fsT SA.sp bar 76 [.tptr 4 2 q 0, .int .u8 c.toNat] H=some (.ret .nili,H')∧BC bar H' q (s ++ [c]):=fun ⟨o,H',h1,h2,h3⟩=>⟨H',by rw [h1,h2],h3⟩
 refine fin (za0 hs fsT_76 rfl rfl ?_)
 rw [env76]
 rcases hc with ⟨hq,rfl⟩ | ⟨r,cs,hq,hr,h1,h2,hqr,hbr,hne⟩
 ·have hql:=zas hq
  have hne:q≠H.length:=by omega
  rcases hb0 with rfl | rfl
  all_goals
   simp [a76,a76r0,a76r1,a76r2,a76r3,zad hs,zaa hs,Rn_check,zf8,okB,hq,zae,hql,zaN,hb,za1]
   refine ⟨hb,_, .inr rfl, .inr ⟨H.length,bytesOf [c],?_,?_,?_,?_,hne,by omega,by simp⟩⟩
   ·rw [zaN _ (by simpa using hql)]
    exact zae _ hql
   ·exact zeq _ _ _ (by simp)
   ·rfl
   ·simp [bytesOf]
 ·have hql:=zas hq
  have hrl:=zas hr
  have hrq:r≠q:=Ne.symm hqr
  have hlim:s.length+1≤4294967296:=by omega
  have hq1:q≠H.length:=by omega
  rcases hb0 with rfl | rfl
  all_goals
   simp [a76,a76r0,a76r1,a76r2,a76r3,zad hs,zaa hs,Rn_check,zf8,okB,hq,hr,h2,zae,zat,hql,hqr,hrq,hlim,zaN,hb,hbr,za1]
   refine ⟨hb,_, .inr rfl, .inr ⟨H.length,cs.take s.length++bytesOf [c],?_,?_,?_,?_,hq1,by omega,by simp⟩⟩
   ·rw [zaN _ (by simpa using hql)]
    simp only [List.length_append]
    first | (rw [zae _ (by simpa using hql)];rfl;done) | (rw [zat _ hrq,zae _ (by simpa using hql)];rfl;done)
   ·exact zeq _ _ _ (by simp)
   ·rw [h1,←bytesOf_append,List.take_of_length_le (by simp [bytesOf])]
   ·simp [bytesOf];omega

theorem strOf_back: ∀ (s:List UInt8),strOf (bytesOf s)=some s
 | []=>rfl
 | c::s=>by
  have ih:=strOf_back s
  simp only [bytesOf] at ih
  simp [bytesOf,strOf,ih]

theorem bstring {bar:Nat} {H:Heap} {q:Nat} {s:List UInt8} (h:BC bar H q s) (hl:s.length≤4000000000): ∃ H',Rn fsT SA.sp bar 55 [.tptr 4 2 q 0] H=some (.ret (.str s),H'):=by
 obtain ⟨hb,b0,hb0,hc⟩:=h
 rw [Rn_string]
 rcases hc with ⟨hq,rfl⟩ | ⟨r,cs,hq,hr,h1,h2,hqr,hbr,hne⟩
 ·rw [hget] at hq
  exact ⟨H,by simp [spString,hq]⟩
 ·rw [hget] at hq hr
  have h1':1≤s.length:=List.length_pos_iff.2 hne
  have e3:s.length≤4294967296:=by omega
  exact ⟨_,by simp [spString,hq,hr,hbr,h1',e3,h2,h1,strOf_back,zdF];rfl⟩

end

section

/-- What takes a part's place. -/
def zf5 (part:List UInt8):List UInt8→List UInt8
 | []=> []
 | [c]=>if c=38 then part else [c]
 | c::d::l=>if c=92∧(d=38∨d=92) then d::zf5 part l else (if c=38 then part else [c])++zf5 part (d::l)

theorem zgc (part:List UInt8): ∀ (l:List UInt8),(zf5 part l).length≤l.length*(part.length+1)
 | []=>by simp [zf5]
 | [c]=>by
  simp only [zf5]
  split<;>simp
 | c::d::l=>by
  simp only [zf5]
  have h1:=zgc part l
  have h2:=zgc part (d::l)
  split
  ·simp only [List.length_cons] at h2 ⊢
   rw [Nat.succ_mul,Nat.succ_mul];omega
  ·simp only [List.length_cons,List.length_append] at h2 ⊢
   rw [Nat.succ_mul]
   split<;>simp<;>omega

theorem u8_int (c d:UInt8):((c.toNat:Int)==(d.toNat:Int))=decide (c=d):=by
 by_cases h:c=d
 ·subst h;simp
 ·have: ¬ (c.toNat:Int)=(d.toNat:Int):=fun e=>h (UInt8.toNat_inj.1 (by omega))
  simp [h,this]

theorem u8_eq (c:UInt8) (n:Nat) (h:n<256):((c.toNat:Int)==(n:Int))=decide (c=UInt8.ofNat n):=by
 have:=u8_int c (UInt8.ofNat n)
 rw [show (UInt8.ofNat n).toNat=n by simp;omega] at this
 exact this

theorem putF_cons (part:List UInt8) (c:UInt8) (l:List UInt8) (h: ¬ (c=92∧(l.head? = some 38∨l.head? = some 92))):zf5 part (c::l)=(if c=38 then part else [c])++zf5 part l:=by
 cases l with
 | nil=>simp [zf5]
 | cons d l =>
  simp only [List.head?_cons,Option.some.injEq] at h
  rw [zf5,if_neg h]

theorem drop_at {s:List UInt8} {i:Nat} {c:UInt8} (h:s[i]? = some c):s.drop i=c::s.drop (i+1):=by
 obtain ⟨hi,rfl⟩:=List.getElem?_eq_some_iff.1 h
 rw [List.drop_eq_getElem_cons hi]

theorem put_loop {bar:Nat} {by' part:List UInt8} (hb:by'.length≤100000) (hp:part.length≤10000): ∀ (n i:Nat) (v:Nat→AV) (H:Heap) (q:Nat) (out:List UInt8),i+n=by'.length→v 0= .str by'→v 1= .str part→v 5= .tptr 4 2 q 0→v 6=num i→BC bar H q out→out++zf5 part (by'.drop i)=zf5 part by' →
  Wp (evI fsT SA.sp bar (.loop a48l12) (mkE 141287244171507 v,H)) (fun e t=>e= .exit 0∧ ∃ v' H',t=(mkE 141287244171507 v',H')∧v' 5= .tptr 4 2 q 0∧BC bar H' q (zf5 part by')):=by
 have hs:=SA.mono
 have hpl:=zgc part by'
 have hpl2:by'.length*(part.length+1)≤1000100000:=Nat.le_trans (Nat.mul_le_mul hb (Nat.succ_le_succ hp)) (by omega)
 intro n
 induction n using Nat.strongRecOn with
 | ind n ih =>
 intro i v H q out hi v0 v1 v5 v6 hB ho
 have hol:out.length≤1000100000:=by
  have:=congrArg List.length ho
  simp only [List.length_append] at this;omega
 cases n with
 | zero =>
  have hge: ¬ ((i:Int)<(by'.length:Int)):=by omega
  have:by'.drop i= []:=List.drop_eq_nil_of_le (by omega)
  rw [this] at ho
  simp only [zf5,List.append_nil] at ho
  subst ho
  rw [zah hs a48l12.eq_1]
  simp [zad hs,zaa hs,zab hs,zac hs,a48r3,v0,v6,hge]
  exact ⟨_,_,⟨rfl,rfl⟩,by simp [v5],hB⟩
 | succ n =>
  have hlt:i<by'.length:=by omega
  have hlt':((i:Int)<(by'.length:Int)):=by omega
  obtain ⟨c,hc⟩: ∃ c,by'[i]? = some c:=⟨by'[i],List.getElem?_eq_getElem hlt⟩
  have hd:=drop_at hc
  have hw:IntKind.i64.wrap ((i:Int)+1)=(i:Int)+1:=zaj _ (by omega)
  have h0:(0:Int)≤(i:Int)+1:=by omega
  have ht:((i:Int)+1).toNat=i+1:=by omega
  have hw2:IntKind.i64.wrap ((i:Int)+1+1)=(i:Int)+1+1:=zaj _ (by omega)
  have c92:=u8_eq c 92 (by omega)
  have c38:=u8_eq c 38 (by omega)
  -- one byte, or a part, is written
  have plain: ¬ (c=92∧((by'.drop (i+1)).head? = some 38∨(by'.drop (i+1)).head? = some 92))→out++(if c=38 then part else [c])++zf5 part (by'.drop (i+1))=zf5 part by':=fun h=>by
   rw [hd,putF_cons part c _ h,←List.append_assoc] at ho
   exact ho
  rw [zah hs a48l12.eq_1]
  by_cases h92:c=92
  ·subst h92
   by_cases hnext:i+1<by'.length
   ·have hnext':(i:Int)+1<(by'.length:Int):=by omega
    obtain ⟨d,hdd⟩: ∃ d,by'[i+1]? = some d:=⟨by'[i+1],List.getElem?_eq_getElem hnext⟩
    have hd2:=drop_at hdd
    have d38:=u8_eq d 38 (by omega)
    have d92:=u8_eq d 92 (by omega)
    by_cases hq:d=38∨d=92
    ·have e1:out ++ [d]++zf5 part (by'.drop (i+2))=zf5 part by':=by
      rw [hd,hd2,zf5,if_pos ⟨rfl,hq⟩] at ho
      simpa using ho
     obtain ⟨H',h1,h2⟩:=bbyte (c:=d) hB (by omega)
     rcases hq with rfl | rfl
     all_goals
      first
       | replace h1:Rn fsT SA.sp bar 76 [.tptr 4 2 q 0, .int .u8 38] H=some (.ret .nili,H'):=h1
       | replace h1:Rn fsT SA.sp bar 76 [.tptr 4 2 q 0, .int .u8 92] H=some (.ret .nili,H'):=h1
      simp [zad hs,zaa hs,zab hs,zac hs,a48r3,a48r4,a48r5,a48r6,a48r7,a48r8,a48r9,a48r10,a48r11,v0,v1,v5,v6,hlt',hc,hw,hw2,hnext',h0,ht,hdd,h1]
      refine (ih (n-1) (by omega) (i+2) _ H' q _ (by omega) ?_ ?_ ?_ ?_ h2 e1).mono fun e t h=>by simpa using h
      ·simp [v0]
      ·simp [v1]
      ·simp [v5]
      ·simp;omega
    ·have hq1: ¬ d=38:=fun e=>hq (.inl e)
     have hq2: ¬ d=92:=fun e=>hq (.inr e)
     have f1:((d.toNat:Int)==38)=false:=by rw [show (38:Int)=((38:Nat):Int) from rfl,d38];simpa using hq1
     have f2:((d.toNat:Int)==92)=false:=by rw [show (92:Int)=((92:Nat):Int) from rfl,d92];simpa using hq2
     have e1:=plain (by rw [hd2];simp [hq1,hq2])
     obtain ⟨H',h1,h2⟩:=bbyte (c:=92) hB (by omega)
     have g38: ¬ (92:UInt8)=38:=by decide
     rw [if_neg g38] at e1
     have h1':Rn fsT SA.sp bar 76 [.tptr 4 2 q 0, .int .u8 92] H=some (.ret .nili,H'):=h1
     simp [zad hs,zaa hs,zab hs,zac hs,a48r3,a48r4,a48r5,a48r6,a48r7,a48r8,a48r9,a48r10,a48r11,v0,v1,v5,v6,hlt',hc,hw,hw2,hnext',h0,ht,hdd,f1,f2,h1']
     refine (ih n (by omega) (i+1) _ H' q _ (by omega) ?_ ?_ ?_ ?_ h2 e1).mono fun e t h=>by simpa using h
     ·simp [v0]
     ·simp [v1]
     ·simp [v5]
     ·simp
   ·have hnext': ¬ (i:Int)+1<(by'.length:Int):=by omega
    have e0:by'.drop (i+1)= []:=List.drop_eq_nil_of_le (by omega)
    have e1:=plain (by rw [e0];simp)
    obtain ⟨H',h1,h2⟩:=bbyte (c:=92) hB (by omega)
    have g38: ¬ (92:UInt8)=38:=by decide
    rw [if_neg g38] at e1
    have h1':Rn fsT SA.sp bar 76 [.tptr 4 2 q 0, .int .u8 92] H=some (.ret .nili,H'):=h1
    simp [zad hs,zaa hs,zab hs,zac hs,a48r3,a48r4,a48r5,a48r6,a48r7,a48r8,a48r9,a48r10,a48r11,v0,v1,v5,v6,hlt',hc,hw,hw2,hnext',h0,ht,h1']
    refine (ih n (by omega) (i+1) _ H' q _ (by omega) ?_ ?_ ?_ ?_ h2 e1).mono fun e t h=>by simpa using h
    ·simp [v0]
    ·simp [v1]
    ·simp [v5]
    ·simp
  ·have f92:((c.toNat:Int)==92)=false:=by rw [show (92:Int)=((92:Nat):Int) from rfl,c92];simpa using h92
   have e1:=plain (fun h=>h92 h.1)
   by_cases h38:c=38
   ·subst h38
    rw [if_pos rfl] at e1
    obtain ⟨H',h1,h2⟩:=bwrite (t:=part) hB (by omega)
    simp [zad hs,zaa hs,zab hs,zac hs,a48r3,a48r4,a48r5,a48r6,a48r7,a48r8,a48r9,a48r10,a48r11,v0,v1,v5,v6,hlt',hc,hw,h1]
    refine (ih n (by omega) (i+1) _ H' q _ (by omega) ?_ ?_ ?_ ?_ h2 e1).mono fun e t h=>by simpa using h
    ·simp [v0]
    ·simp [v1]
    ·simp [v5]
    ·simp
   ·have f38:((c.toNat:Int)==38)=false:=by rw [show (38:Int)=((38:Nat):Int) from rfl,c38];simpa using h38
    rw [if_neg h38] at e1
    obtain ⟨H',h1,h2⟩:=bbyte (c:=c) hB (by omega)
    simp [zad hs,zaa hs,zab hs,zac hs,a48r3,a48r4,a48r5,a48r6,a48r7,a48r8,a48r9,a48r10,a48r11,v0,v1,v5,v6,hlt',hc,hw,h1,f92,f38]
    refine (ih n (by omega) (i+1) _ H' q _ (by omega) ?_ ?_ ?_ ?_ h2 e1).mono fun e t h=>by simpa using h
    ·simp [v0]
    ·simp [v1]
    ·simp [v5]
    ·simp

end

section

theorem put_run {bar:Nat} {H:Heap} {by' part:List UInt8} (hb:by'.length≤100000) (hp:part.length≤10000):Rn fsT SA.sp bar 48 [.str by', .str part] H=some (.ret (.str (zf5 part by')),H):=by
 have hs:=SA.mono
 have hpl:=zgc part by'
 have hpl2:by'.length*(part.length+1)≤1000100000:=Nat.le_trans (Nat.mul_le_mul hb (Nat.succ_le_succ hp)) (by omega)
 refine zao hs fsT_48 rfl rfl rfl ?_
 rw [env48]
 simp [a48,a48r0,a48r1,a48r2,zad hs,zaa hs,zab hs]
 refine (put_loop (bar:=0) hb hp by'.length 0 _ _ 0 [] (by omega) ?_ ?_ ?_ ?_ (BC.new 0 [] (Nat.zero_le _)) (by simp)).mono fun e t h=> ?_
 ·simp
 ·simp
 ·simp
 ·simp
 ·obtain ⟨rfl,v',H',rfl,v5,hB⟩:=h
  obtain ⟨H2,h2⟩:=bstring hB (by omega)
  simp [a48r13,zad hs,zaa hs,v5,h2]

theorem beqS_one (c d:UInt8):beqS [c] [d]=decide (c=d):=by
 have:beqS [c] [d]=decide (c.toNat=d.toNat):=by simp [beqS,nbeq]
 rw [this]
 by_cases h:c=d
 ·subst h;simp
 ·have h2: ¬ c.toNat=d.toNat:=fun e=>h (UInt8.toNat_inj.1 e)
  simp [h,h2]

theorem take_one {s:List UInt8} {i:Nat} {c:UInt8} (h:s[i]? = some c):(s.drop i).take 1= [c]:=by rw [drop_at h];rfl

theorem binS_add {a b:List UInt8} (h:a.length+b.length≤4611686018427387904):binS .add a b=some (.str (a++b)):=by
 simp [binS,h]

theorem refput_loop {bar:Nat} {by' part:List UInt8} {H:Heap} (hb:by'.length≤100000) (hp:part.length≤10000): ∀ (n i:Nat) (v:Nat→AV) (out:List UInt8),i+n=by'.length→v 0= .str by'→v 1= .str part→v 5= .str out→v 6=num i→out++zf5 part (by'.drop i)=zf5 part by' →
  Wp (evI fsT SA.sp bar (.loop a23l15) (mkE 141837016764915 v,H)) (fun e t=>e= .exit 0∧ ∃ v',t=(mkE 141837016764915 v',H)∧v' 5= .str (zf5 part by')):=by
 have hs:=SA.mono
 have hpl:=zgc part by'
 have hpl2:by'.length*(part.length+1)≤1000100000:=Nat.le_trans (Nat.mul_le_mul hb (Nat.succ_le_succ hp)) (by omega)
 intro n
 induction n using Nat.strongRecOn with
 | ind n ih =>
 intro i v out hi v0 v1 v5 v6 ho
 have hol:out.length≤1000100000:=by
  have:=congrArg List.length ho
  simp only [List.length_append] at this;omega
 cases n with
 | zero =>
  have hge: ¬ ((i:Int)<(by'.length:Int)):=by omega
  have:by'.drop i= []:=List.drop_eq_nil_of_le (by omega)
  rw [this] at ho
  simp only [zf5,List.append_nil] at ho
  subst ho
  rw [zah hs a23l15.eq_1]
  simp [zad hs,zaa hs,zab hs,zac hs,a23r3,v0,v6,hge]
  exact ⟨_,rfl,by simp [v5]⟩
 | succ n =>
  have hlt:i<by'.length:=by omega
  have hlt':((i:Int)<(by'.length:Int)):=by omega
  obtain ⟨c,hc⟩: ∃ c,by'[i]? = some c:=⟨by'[i],List.getElem?_eq_getElem hlt⟩
  have hd:=drop_at hc
  have hw:IntKind.i64.wrap ((i:Int)+1)=(i:Int)+1:=zaj _ (by omega)
  have h0:(0:Int)≤(i:Int)+1:=by omega
  have ht:((i:Int)+1).toNat=i+1:=by omega
  have hw2:IntKind.i64.wrap ((i:Int)+1+1)=(i:Int)+1+1:=zaj _ (by omega)
  have hw3:IntKind.i64.wrap ((i:Int)+2)=(i:Int)+2:=zaj _ (by omega)
  have h03:(0:Int)≤(i:Int)+2:=by omega
  have ht3:((i:Int)+2).toNat=i+2:=by omega
  have c1:i+1≤by'.length:=hlt
  have c2:i≤by'.length:=by omega
  have hs1:List.take (i+1-i) (by'.drop i)= [c]:=by rw [show i+1-i=1 by omega];exact take_one hc
  have hs1':List.take 1 (by'.drop i)= [c]:=take_one hc
  have plain: ¬ (c=92∧((by'.drop (i+1)).head? = some 38∨(by'.drop (i+1)).head? = some 92))→out++(if c=38 then part else [c])++zf5 part (by'.drop (i+1))=zf5 part by':=fun h=>by
   rw [hd,putF_cons part c _ h,←List.append_assoc] at ho
   exact ho
  have hadd1: ∀ x:UInt8,binS .add out [x]=some (.str (out ++ [x])):=fun x=>binS_add (by simp;omega)
  have haddp:binS .add out part=some (.str (out++part)):=binS_add (by omega)
  have eqc: ∀ x y:UInt8,binS .eql [x] [y]=some (.bool (decide (x=y))):=fun x y=>by rw [←beqS_one];rfl
  have eqn: ∀ y:UInt8,binS .eql [] [y]=some (.bool false):=fun y=>rfl
  rw [zah hs a23l15.eq_1]
  by_cases hnext:i+1<by'.length
  ·have hnext':(i:Int)+1<(by'.length:Int):=by omega
   obtain ⟨d,hdd⟩: ∃ d,by'[i+1]? = some d:=⟨by'[i+1],List.getElem?_eq_getElem hnext⟩
   have hd2:=drop_at hdd
   have c3:i+2≤by'.length:=hnext
   have hs2:List.take (i+2-(i+1)) (by'.drop (i+1))= [d]:=by rw [show i+2-(i+1)=1 by omega];exact take_one hdd
   have hs2':List.take 1 (by'.drop (i+1))= [d]:=take_one hdd
   by_cases h92:c=92
   ·subst h92
    by_cases hq:d=38∨d=92
    ·have e1:out ++ [d]++zf5 part (by'.drop (i+2))=zf5 part by':=by
      rw [hd,hd2,zf5,if_pos ⟨rfl,hq⟩] at ho
      simpa using ho
     rcases hq with rfl | rfl
     all_goals
      simp [zad hs,zaa hs,zab hs,zac hs,a23r3,a23r4,a23r5,a23r6,a23r7,a23r8,a23r9,a23r10,a23r11,a23r12,a23r13,a23r14,v0,v1,v5,v6,hlt',hw,hw2,hw3,h0,ht,h03,ht3,c1,c2,c3,hs1,hs1',hs2,hs2',hnext',eqc,eqn,hadd1]
      refine (ih (n-1) (by omega) (i+2) _ _ (by omega) ?_ ?_ ?_ ?_ e1).mono fun e t h=>by simpa using h
      ·simp [v0]
      ·simp [v1]
      ·simp
      ·simp;omega
    ·have hq1: ¬ d=38:=fun e=>hq (.inl e)
     have hq2: ¬ d=92:=fun e=>hq (.inr e)
     have e1:=plain (by rw [hd2];simp [hq1,hq2])
     have g38: ¬ (92:UInt8)=38:=by decide
     rw [if_neg g38] at e1
     simp [zad hs,zaa hs,zab hs,zac hs,a23r3,a23r4,a23r5,a23r6,a23r7,a23r8,a23r9,a23r10,a23r11,a23r12,a23r13,a23r14,v0,v1,v5,v6,hlt',hw,hw2,hw3,h0,ht,h03,ht3,c1,c2,c3,hs1,hs1',hs2,hs2',hnext',eqc,eqn,hadd1,hq1,hq2]
     refine (ih n (by omega) (i+1) _ _ (by omega) ?_ ?_ ?_ ?_ e1).mono fun e t h=>by simpa using h
     ·simp [v0]
     ·simp [v1]
     ·simp
     ·simp
   ·have e1:=plain (fun h=>h92 h.1)
    by_cases h38:c=38
    ·subst h38
     rw [if_pos rfl] at e1
     simp [zad hs,zaa hs,zab hs,zac hs,a23r3,a23r4,a23r5,a23r6,a23r7,a23r8,a23r9,a23r10,a23r11,a23r12,a23r13,a23r14,v0,v1,v5,v6,hlt',hw,hw2,hw3,h0,ht,h03,ht3,c1,c2,c3,hs1,hs1',hs2,hs2',hnext',eqc,eqn,haddp]
     refine (ih n (by omega) (i+1) _ _ (by omega) ?_ ?_ ?_ ?_ e1).mono fun e t h=>by simpa using h
     ·simp [v0]
     ·simp [v1]
     ·simp
     ·simp
    ·rw [if_neg h38] at e1
     simp [zad hs,zaa hs,zab hs,zac hs,a23r3,a23r4,a23r5,a23r6,a23r7,a23r8,a23r9,a23r10,a23r11,a23r12,a23r13,a23r14,v0,v1,v5,v6,hlt',hw,hw2,hw3,h0,ht,h03,ht3,c1,c2,c3,hs1,hs1',hs2,hs2',hnext',eqc,eqn,hadd1,h92,h38]
     refine (ih n (by omega) (i+1) _ _ (by omega) ?_ ?_ ?_ ?_ e1).mono fun e t h=>by simpa using h
     ·simp [v0]
     ·simp [v1]
     ·simp
     ·simp
  ·have hnext': ¬ (i:Int)+1<(by'.length:Int):=by omega
   have e0:by'.drop (i+1)= []:=List.drop_eq_nil_of_le (by omega)
   have e1:=plain (by rw [e0];simp)
   by_cases h38:c=38
   ·subst h38
    rw [if_pos rfl] at e1
    simp [zad hs,zaa hs,zab hs,zac hs,a23r3,a23r4,a23r5,a23r6,a23r7,a23r8,a23r9,a23r10,a23r11,a23r12,a23r13,a23r14,v0,v1,v5,v6,hlt',hw,hw2,hw3,h0,ht,h03,ht3,c1,c2,hs1,hs1',hnext',eqc,eqn,haddp]
    refine (ih n (by omega) (i+1) _ _ (by omega) ?_ ?_ ?_ ?_ e1).mono fun e t h=>by simpa using h
    ·simp [v0]
    ·simp [v1]
    ·simp
    ·simp
   ·rw [if_neg h38] at e1
    by_cases h92:c=92
    ·subst h92
     simp [zad hs,zaa hs,zab hs,zac hs,a23r3,a23r4,a23r5,a23r6,a23r7,a23r8,a23r9,a23r10,a23r11,a23r12,a23r13,a23r14,v0,v1,v5,v6,hlt',hw,hw2,hw3,h0,ht,h03,ht3,c1,c2,hs1,hs1',hnext',eqc,eqn,hadd1]
     refine (ih n (by omega) (i+1) _ _ (by omega) ?_ ?_ ?_ ?_ e1).mono fun e t h=>by simpa using h
     ·simp [v0]
     ·simp [v1]
     ·simp
     ·simp
    ·simp [zad hs,zaa hs,zab hs,zac hs,a23r3,a23r4,a23r5,a23r6,a23r7,a23r8,a23r9,a23r10,a23r11,a23r12,a23r13,a23r14,v0,v1,v5,v6,hlt',hw,hw2,hw3,h0,ht,h03,ht3,c1,c2,hs1,hs1',hnext',eqc,eqn,hadd1,h38,h92]
     refine (ih n (by omega) (i+1) _ _ (by omega) ?_ ?_ ?_ ?_ e1).mono fun e t h=>by simpa using h
     ·simp [v0]
     ·simp [v1]
     ·simp
     ·simp

theorem refput_run {bar:Nat} {H:Heap} {by' part:List UInt8} (hb:by'.length≤100000) (hp:part.length≤10000):Rn fsT SA.sp bar 23 [.str by', .str part] H=some (.ret (.str (zf5 part by')),H):=by
 have hs:=SA.mono
 refine zao hs fsT_23 rfl rfl rfl ?_
 rw [env23]
 simp [a23,a23r0,a23r1,a23r2,zad hs,zaa hs,zab hs]
 refine (refput_loop (bar:=0) hb hp by'.length 0 _ [] (by omega) ?_ ?_ ?_ ?_ (by simp)).mono fun e t h=> ?_
 ·simp
 ·simp
 ·simp
 ·simp
 ·obtain ⟨rfl,v',rfl,v5⟩:=h
  simp [a23r16,zad hs,zaa hs,v5]

end

section

/-- A text with parts replaced, from a place on. -/
def replF (by' s:List UInt8):Nat→List (Nat×Nat)→List UInt8
 | at',[]=>s.drop at'
 | at',(f,t)::l=>(s.drop at').take (f-at')++(zf5 ((s.drop f).take (t-f)) by'++replF by' s t l)

theorem repl_loop {bar:Nat} {by' s:List UInt8} (hby:by'.length≤100) (hl:s.length≤1000) {A:List AV} {N:Nat} (hN:A.length=N) (hN2:N≤1001) (total:List UInt8) :
  ∀ (rest:List (Nat×Nat)) (i at':Nat) (last:Int) (out:List UInt8) (v:Nat→AV) (H:Heap) (q:Nat),i+rest.length=N→A.drop i=(rest.map zdX).map pairA→at'≤s.length→InOrder s.length at' last rest →
   v 1= .str by'→v 2= .str s→v 8= .tptr 4 2 q 0→v 9=num at'→v 12= .slc .ro A→v 13=num N→v 14=num i→BC bar H q out→out.length≤i*200000→out++replF by' s at' rest=total →
   Wp (evI fsT SA.sp bar (.loop a47l10) (mkE 64455 v,H)) (fun e t=>e= .exit 0∧ ∃ v' H' out' a,t=(mkE 64455 v',H')∧v' 0=v 0∧v' 2= .str s∧v' 8= .tptr 4 2 q 0∧v' 9=num a∧a≤s.length∧BC bar H' q out'∧out'.length≤300000000∧out'++s.drop a=total):=by
 have hs:=SA.mono
 intro rest
 induction rest with
 | nil =>
  intro i at' last out v H q hi hd hat hord v1 v2 v8 v9 v12 v13 v14 hB hout htot
  simp only [List.length_nil,Nat.add_zero] at hi
  subst hi
  rw [zah hs a47l10.eq_1]
  simp [zad hs,zaa hs,zab hs,zac hs,a47r4,v13,v14]
  exact ⟨_,H,⟨rfl,rfl⟩,by simp,by simp [v2],by simp [v8],out,at',by simp [v9],hat,hB,by omega,htot⟩
 | cons x rest ih =>
  obtain ⟨f,t⟩:=x
  intro i at' last out v H q hi hd hat hord v1 v2 v8 v9 v12 v13 v14 hB hout htot
  obtain ⟨o1,o2,o3,o4,o5⟩:=hord
  simp only [List.length_cons] at hi
  have hiN:i<N:=by omega
  have hiNI:(i:Int)<(N:Int):=by omega
  have hg:A[i]? = some (.agg [num f,num t]):=by
   have:(A.drop i)[0]? = some (.agg [num f,num t]):=by rw [hd];rfl
   simpa using this
  have hd2:A.drop (i+1)=(rest.map zdX).map pairA:=by
   have:(A.drop i).drop 1=(rest.map zdX).map pairA:=by rw [hd];rfl
   rw [List.drop_drop] at this
   exact this
  have hw1:IntKind.i64.wrap ((i:Int)+1)=(i:Int)+1:=zaj _ (by omega)
  have hf:f≤s.length:=by omega
  have hpl:=zgc ((s.drop f).take (t-f)) by'
  have hpl2:by'.length*(((s.drop f).take (t-f)).length+1)≤100*1001:=Nat.mul_le_mul hby (by simp;omega)
  have hp1:((s.drop at').take (f-at')).length≤1000:=by simp;omega
  have hmul:i*200000≤1001*200000:=Nat.mul_le_mul_right _ (by omega)
  obtain ⟨H1,e1,hB1⟩:=bwrite (t:=(s.drop at').take (f-at')) hB (by omega)
  have hput:=put_run (bar:=bar) (H:=H1) (by':=by') (part:=(s.drop f).take (t-f)) (by omega) (by simp;omega)
  have hol:(out++(s.drop at').take (f-at')).length≤i*200000+1000:=by rw [List.length_append];omega
  obtain ⟨H2,e2,hB2⟩:=bwrite (t:=zf5 ((s.drop f).take (t-f)) by') hB1 (by omega)
  have hlen2:(out++(s.drop at').take (f-at')++zf5 ((s.drop f).take (t-f)) by').length≤(i+1)*200000:=by
   rw [List.length_append,Nat.succ_mul];omega
  have htot2:(out++(s.drop at').take (f-at')++zf5 ((s.drop f).take (t-f)) by')++replF by' s t rest=total:=by
   rw [←htot,replF];simp only [List.append_assoc]
  rw [zah hs a47l10.eq_1]
  simp [zad hs,zaa hs,zab hs,zac hs,a47r4,a47r5,a47r6,a47r7,a47r8,a47r9,v1,v2,v8,v9,v12,v13,v14,hN,hiN,hiNI,hg,o1,o2,o3,hf,e1,hput,e2,hw1]
  refine (ih (i+1) t t _ _ H2 q (by omega) hd2 o3 o5 ?_ ?_ ?_ ?_ ?_ ?_ ?_ hB2 hlen2 htot2).mono fun e t h=>by simpa using h
  ·simp [v1]
  ·simp [v2]
  ·simp [v8]
  ·simp
  ·simp [v12]
  ·simp [v13]
  ·simp

/-- replaced: the text, and how many. -/
theorem replaced_run {bar:Nat} {H:Heap} {by' s:List UInt8} (hby:by'.length≤100) (hl:s.length≤1000) {L:List (Nat×Nat)} (hord:InOrder s.length 0 (-1) L) :
  Rn fsT SA.sp bar 47 [zfb (L.map zdX), .str by', .str s] H=some (.ret (.tup [.str (replF by' s 0 L),num L.length]),H):=by
 have hs:=SA.mono
 have hlen:L.length≤1001:=by
  rcases zeP hord (by omega) with h | h
  ·omega
  ·rw [h];simp
 have hclo:zbW [zfb (L.map zdX), .str by', .str s]=true:=by
  have: ∀ l:List (Int×Int),zbW (l.map pairA)=true:=fun l=>by
   induction l with
   | nil=>rfl
   | cons x l ih=>simp [zbW,clo,ih,pairA]
  cases L with
  | nil=>rfl
  | cons x L =>
   have h:=this ((x::L).map zdX)
   simp only [List.map_cons] at h ⊢
   simp [zfb,zbW,clo] at h ⊢
   exact h
 refine zao hs fsT_47 rfl hclo rfl ?_
 rw [env47]
 -- behind the loop
 have fin2: ∀ (a:AV) (v':Nat→AV) (H':Heap) (out:List UInt8) (k q:Nat),v' 0=a→(a=zfb (L.map zdX))→v' 2= .str s→v' 8= .tptr 4 2 q 0→v' 9=num k→k≤s.length→BC 0 H' q out→out.length≤300000000→out++s.drop k=replF by' s 0 L →
   Wp (evI fsT SA.sp 0 (.seq (.region a47r11) (.seq (.region a47r12) .ret)) (mkE 64455 v',H')) (fin [.tmp 6, .tmp 7] (thaw 0 (· = .ret (.tup [.str (replF by' s 0 L),num L.length])))):=fun a v' H' out k q v0 ha v2 v8 v9 hk hB ho htot=>by
  have hd:(s.drop k).length≤1000:=by simp;omega
  have htk:List.take (s.length-k) (s.drop k)=s.drop k:=List.take_of_length_le (by simp)
  obtain ⟨H1,e1,hB1⟩:=bwrite (t:=s.drop k) hB (by omega)
  rw [htot] at hB1
  have hrl:(replF by' s 0 L).length≤400000000:=by rw [←htot,List.length_append];omega
  obtain ⟨H2,e2⟩:=bstring hB1 (by omega)
  subst ha
  have hrow:(L= []∧zfb (L.map zdX)= .nils)∨zfb (L.map zdX)= .slc .ro ((L.map zdX).map pairA):=by
   cases L with
   | nil=>exact .inl ⟨rfl,rfl⟩
   | cons x L=>exact .inr rfl
  rcases hrow with ⟨rfl,hrow⟩ | hrow
  all_goals
   rw [hrow] at v0
   simp [zad hs,zaa hs,a47r11,a47r12,v0,v2,v8,v9,hk,htk,e1,e2,frz,zbG]
 have hfin:=fin2
 simp only [zad hs,zaa hs] at hfin
 cases hL:L with
 | nil =>
  have hrow:zfb (([]:List (Nat×Nat)).map zdX)= .nils:=rfl
  rw [hL] at hfin
  rw [hrow]
  simp [a47r0,a47r1,a47r2,a47r3,a47,zad hs,zaa hs,zab hs]
  rw [zah hs a47l10.eq_1]
  simp [a47r4,zad hs,zaa hs,zab hs,zac hs]
  refine hfin _ _ _ [] 0 0 ?_ hrow.symm ?_ ?_ ?_ (Nat.zero_le _) (BC.new 0 [] (Nat.zero_le _)) (by simp) rfl
  all_goals simp
 | cons x L' =>
  rw [hL] at hfin hord hlen
  have hrow:zfb ((x::L').map zdX)= .slc .ro (((x::L').map zdX).map pairA):=rfl
  have hA:(((x::L').map zdX).map pairA).length=(x::L').length:=by simp
  generalize x::L'=M at *
  have hloop:=fun v=>repl_loop (bar:=0) hby hl hA hlen (replF by' s 0 M) M 0 0 (-1) [] v [some [.nilp, .nils]] 0 (by omega) rfl (Nat.zero_le _) hord
  generalize (M.map zdX).map pairA=A at *
  rw [hrow]
  simp [a47r0,a47r1,a47r2,a47r3,a47,zad hs,zaa hs,zab hs,hA]
  refine (hloop _ ?_ ?_ ?_ ?_ ?_ ?_ ?_ (BC.new 0 [] (Nat.zero_le _)) (by simp) rfl).mono fun e t h=> ?_
  ·simp
  ·simp
  ·simp
  ·simp
  ·simp
  ·simp
  ·simp
  ·obtain ⟨rfl,v',H',out,a,rfl,k0,k2,k8,k9,ha,hB,ho,htot⟩:=h
   simp at k0
   simp only [zaY,if_true,zaC]
   simp [zad hs,zaa hs]
   exact hfin _ v' H' out a 0 k0 hrow.symm k2 k8 k9 ha hB ho htot

/-- subst.All. -/
theorem substAll_run {bar:Nat} {H:Heap} {p:Nat} {t:List UInt8} {r:Re} (hP:Pat H p t r) {by' s:List UInt8} (hby:by'.length≤100) (hl:s.length≤1000) :
  Rn fsT SA.sp bar 20 [.ptr p 0, .str by', .str s] H=some (.ret (.tup [.str (replF by' s 0 (zcO r s)),num (zcO r s).length]),H):=by
 have hs:=SA.mono
 have hall:=All_run (bar:=H.length) hP (s:=s) (by omega)
 have hrep:=replaced_run (bar:=H.length) (H:=H) hby hl (zeU hP.fine s)
 generalize zcO r s=L at *
 refine zcZ hs fsT_20 rfl rfl rfl ?_
 rw [env20]
 have hrow:zfb (L.map zdX)= .nils∨zfb (L.map zdX)= .slc .ro ((L.map zdX).map pairA):=by
  cases L with
  | nil=>exact .inl rfl
  | cons x L=>exact .inr rfl
 rcases hrow with hrow | hrow
 all_goals
  rw [hrow] at hall hrep
  try generalize (L.map zdX).map pairA=A at hall hrep
  simp [a20,a20r0,a20r1,a20r2,a20r3,zad hs,zaa hs,zac hs,hall,hrep,frz,zbG]

end

end Go.Ak

