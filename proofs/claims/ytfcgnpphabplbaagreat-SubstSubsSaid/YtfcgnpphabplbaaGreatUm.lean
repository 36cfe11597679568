/- What the program's class reader computes. -/
import Derived.Test.YtfcgnpphabplbaaGreatUk
import Derived.Test.YtfcgnpphabplbaaGreatUl
import Derived.Test.YtfcgnpphabplbaaGreatUd
set_option linter.unusedVariables false
set_option linter.unusedSimpArgs false

namespace Go.Ak
attribute [local simp] zbF zcX zcY zew zbg zcB zaC zaU zaK zaV zbb zbm zbn zaY zbT zcU zcV zbJ zbK
 zaO zcH wanted zbl opd opdL live zbM zcG zbi zbH zf7 put zdi esc escs arg1 args drop1 nbeq nble nblt binA binI rd wr zbB sub AV.cells pack one setCells zdV resV zcM roOf zaJ zeH zaw zav zda za1 newRow newObj step zbP zbo contents take flat look lim zdL bound zc7 zdj eqS eqL eqA ver
 zbS zcT zcS zbQ zbR
 List.getElem?_cons_zero List.getElem?_cons_succ zcR zbc zaA zaB zbO
attribute [local simp] mvV mvL mgV mgL asL asI asB ldN ldV ldL ldG stV stL fdL fdV fdG fgL nlC nlG bnI bvI bnL bvL bxI bxU bgI bgL exT lnS lgS clA clB clC clI pkT pkF pvT pvF pgT pgF ixL axV bxV apL
attribute [-simp] getElem?_pos

section

/-- A set as the evaluator's cells. -/
def zbX (p:Nat→Bool):List AV:=(setP p).map u64

theorem setC_eq (p:Nat→Bool):zbX p= [u64 (zaM p 0 64),u64 (zaM p 1 64),u64 (zaM p 2 64),u64 (zaM p 3 64)]:=rfl
theorem zbw (p:Nat→Bool):(zbX p).length=4:=rfl

theorem setC_at (p:Nat→Bool) {i:Nat} (h:i<4):((zbX p).drop i).take 1= [u64 (zaM p i 64)]:=by
 rcases i with _ | _ | _ | _ | i
 ·rfl
 ·rfl
 ·rfl
 ·rfl
 ·omega

theorem setC_set (p:Nat→Bool) {c:Nat} (hc:c<256):(zbX p).set (c/64) (u64 (zaM p (c/64) 64 ||| 2^(c%64)))=zbX (fun x=>p x||decide (x=c)):=by
 unfold zbX
 rw [←setP_add p hc,List.map_set]

theorem u64_self {n:Nat} (h:n<2^64):((n:Int)%2^IntKind.u64.bits).toNat=n:=by
 have h1:(2:Int)^IntKind.u64.bits=18446744073709551616:=by decide
 have h2:2^64=18446744073709551616:=by decide
 rw [h1];omega

theorem u64_id {n:Nat} (h:n<2^64):IntKind.u64.wrap (n:Int)=n:=by
 have h1:(2:Int)^64=18446744073709551616:=by decide
 have h2:2^64=18446744073709551616:=by decide
 simp only [IntKind.wrap,IntKind.bits,IntKind.signed,h1,Bool.false_and,Bool.false_eq_true,if_false]
 omega

theorem u64_or {a b:Nat} (ha:a<2^64) (hb:b<2^64):IntKind.u64.wrap (((((a:Int)%2^IntKind.u64.bits).toNat ||| ((b:Int)%2^IntKind.u64.bits).toNat:Nat)):Int)=((a ||| b:Nat):Int):=by
 rw [u64_self ha,u64_self hb]
 exact u64_id (Nat.or_lt_two_pow ha hb)

theorem u64_mod {n:Nat} (h:n<2^64):n%2^IntKind.u64.bits=n:=Nat.mod_eq_of_lt h

theorem u64_orp {a k:Nat} (ha:a<2^64) (hk:k<64):IntKind.u64.wrap ((a%2^IntKind.u64.bits ||| ((2:Int)^k%2^IntKind.u64.bits).toNat:Nat):Int)=((a ||| 2^k:Nat):Int):=by
 have h:=u64_or ha (Nat.pow_lt_pow_right (a:=2) (by omega) hk)
 rw [u64_self ha,show (((2^k:Nat)):Int)=(2:Int)^k by simp] at h
 rw [u64_mod ha];exact h

theorem add_loop {bar:Nat} {H:Heap} {b:UInt8}: ∀ (n c:Nat) (p:Nat→Bool) (v:Nat→AV),c+n=b.toNat+1→v 2= .int .u8 b.toNat→v 3= .box (zbX p)→v 7=num c →
  Wp (evI fsT SA.sp bar (.loop a136l5) (mkE 8399 v,H)) (fun e t=>e= .exit 0∧ ∃ v' q,t=(mkE 8399 v',H)∧v' 3= .box (zbX q)∧v' 6=v 6∧ ∀ x,q x=(p x||(decide (c≤x)&&decide (x≤b.toNat)))):=by
 have hs:=SA.mono
 intro n
 induction n with
 | zero =>
  intro c p v hi v2 v3 v7
  have hb:=b.toNat_lt
  have hw:IntKind.i64.wrap (b.toNat:Int)=b.toNat:=zaj _ (by omega)
  have hgt: ¬ ((c:Int)≤(b.toNat:Int)):=by omega
  rw [zah hs a136l5.eq_1]
  simp [zad hs,zaa hs,zab hs,zac hs,a136r2,v2,v7,hgt,hw]
  refine ⟨_,rfl,p,by simp [v3],by simp,fun x=> ?_⟩
  by_cases h1:c≤x<;>by_cases h2:x≤b.toNat<;>simp [h1,h2]<;>omega
 | succ n ih =>
  intro c p v hi v2 v3 v7
  have hb:=b.toNat_lt
  have hw:IntKind.i64.wrap (b.toNat:Int)=b.toNat:=zaj _ (by omega)
  have hle:((c:Int)≤(b.toNat:Int)):=by omega
  have hq2:IntKind.i64.wrap ((c:Int)/64)=(c:Int)/64:=zaj _ (by omega)
  have hq0:0≤(c:Int)/64:=by omega
  have hqt:((c:Int)/64).toNat=c/64:=by omega
  have hr0: ¬ ((c:Int)%64<0):=by omega
  have hrt:((c:Int)%64).toNat=c%64:=by omega
  have hm:min (c%64) IntKind.u64.bits=c%64:=Nat.min_eq_left (by show c%64≤64;omega)
  have hr:(c:Int).tmod 64=(c:Int)%64:=Int.tmod_eq_emod_of_nonneg (by omega)
  have hpw:IntKind.u64.wrap (2^(c%64))=(2:Int)^(c%64):=by rw [u64_pow _ (by omega)];simp
  have hor:=u64_orp (a:=zaM p (c/64) 64) (k:=c%64) (zeE p _ _) (by omega)
  have hset:=setC_set p (c:=c) (by omega)
  have hq4:c/64<4:=by omega
  have hq5:c/64+1≤4:=by omega
  have hw1:IntKind.i64.wrap ((c:Int)+1)=(c:Int)+1:=zaj _ (by omega)
  have hat:=setC_at p hq4
  rw [zah hs a136l5.eq_1]
  simp [zad hs,zaa hs,zab hs,zac hs,zai hs,a136r2,a136p3,a136r4,v2,v3,v7,hle,hw,hw1,hq2,hq0,hqt,hr,hr0,hrt,hm,hor,hset,hpw,hq4,hq5,hat,zbw]
  refine (ih (c+1) (fun x=>p x||decide (x=c)) _ (by omega) ?_ ?_ ?_).mono fun e t h=> ?_
  ·simp [v2]
  ·simp
  ·simp
  ·obtain ⟨rfl,v',q,rfl,h3,h6,hq⟩:=h
   refine ⟨rfl,v',rfl,q,h3,by simpa using h6,fun x=> ?_⟩
   rw [hq x]
   by_cases e:x=c
   ·subst e
    have:x≤b.toNat:=by omega
    simp [this]
   ·have:c+1≤x↔c≤x:=by omega
    simp [e,this]

/-- A set as the evaluator's value. -/
def zfa (p:Nat→Bool):AV:= .agg (zbX p)

theorem frz_set (n:Nat) (H:Heap) (p:Nat→Bool):frz n H (zfa p)=some (zfa p):=by simp [zfa,setC_eq,frz,zbG]

theorem setadd_run {bar:Nat} {H:Heap} (p:Nat→Bool) (a b:UInt8):Rn fsT SA.sp bar 136 [zfa p, .int .u8 a.toNat, .int .u8 b.toNat] H=some (.ret (zfa (orB p (zak a b))),H):=by
 have hs:=SA.mono
 have ha:=a.toNat_lt
 have hw:IntKind.i64.wrap (a.toNat:Int)=a.toNat:=zaj _ (by omega)
 refine zao hs fsT_136 rfl rfl rfl ?_
 rw [env136]
 simp [a136,a136r0,a136r1,zad hs,zaa hs,zab hs,hw,zfa]
 by_cases hle:a.toNat≤b.toNat
 ·refine (add_loop (bar:=0) (b:=b) (b.toNat+1-a.toNat) a.toNat p _ (by omega) ?_ ?_ ?_).mono fun e t h=> ?_
  ·simp
  ·simp
  ·simp
  ·obtain ⟨rfl,v',q,rfl,h3,h6,hq⟩:=h
   have e1:zbX q=zbX (orB p (zak a b)):=by
    have:q=orB p (zak a b):=funext fun x=>by rw [hq x];rfl
    rw [this]
   simp at h6
   have h4:List.take 4 (zbX (orB p (zak a b)))=zbX (orB p (zak a b)):=rfl
   simp [a136r6,zad hs,zaa hs,h3,h6,zbw,e1]
   simp [setC_eq,frz,zbG]
 ·have hgt: ¬ ((a.toNat:Int)≤(b.toNat:Int)):=by omega
  have hb:=b.toNat_lt
  have hwb:IntKind.i64.wrap (b.toNat:Int)=b.toNat:=zaj _ (by omega)
  have e1:orB p (zak a b)=p:=funext fun x=>by
   by_cases h1:a.toNat≤x<;>by_cases h2:x≤b.toNat<;>simp [orB,zak,h1,h2]<;>omega
  rw [zah hs a136l5.eq_1]
  simp [zad hs,zaa hs,zab hs,zac hs,a136r2,a136r6,hgt,hwb,zbw,e1]
  simp [setC_eq,frz,zbG]

end

section

theorem u64_ors {a b:Nat} (ha:a<2^64) (hb:b<2^64):IntKind.u64.wrap ((a%2^IntKind.u64.bits ||| b%2^IntKind.u64.bits:Nat):Int)=((a ||| b:Nat):Int):=by
 rw [u64_mod ha,u64_mod hb];exact u64_id (Nat.or_lt_two_pow ha hb)

theorem zcI (p:Nat→Bool):zfa p= .agg [u64 (zaM p 0 64),u64 (zaM p 1 64),u64 (zaM p 2 64),u64 (zaM p 3 64)]:=rfl

theorem union_run {bar:Nat} {H:Heap} (p q:Nat→Bool):Rn fsT SA.sp bar 126 [zfa p,zfa q] H=some (.ret (zfa (orB p q)),H):=by
 have hs:=SA.mono
 have o: ∀ i,IntKind.u64.wrap ((zaM p i 64%2^IntKind.u64.bits ||| zaM q i 64%2^IntKind.u64.bits:Nat):Int)=(zaM (orB p q) i 64:Int):=fun i=>by
  rw [u64_ors (zeE p i 64) (zeE q i 64),wordP_or]
 have w1:IntKind.i64.wrap 1=1:=by decide
 have w2:IntKind.i64.wrap 2=2:=by decide
 have w3:IntKind.i64.wrap 3=3:=by decide
 have w4:IntKind.i64.wrap 4=4:=by decide
 refine zao hs fsT_126 rfl rfl rfl ?_
 rw [env126]
 simp [a126,a126r0,a126r1,zad hs,zaa hs,zab hs,zcI]
 rw [zah hs a126l6.eq_1]
 simp [zad hs,zaa hs,zab hs,zac hs,zai hs,a126r2,a126r3,a126p4,a126r5,o,w1]
 rw [zah hs a126l6.eq_1]
 simp [zad hs,zaa hs,zab hs,zac hs,zai hs,a126r2,a126r3,a126p4,a126r5,o,w2]
 rw [zah hs a126l6.eq_1]
 simp [zad hs,zaa hs,zab hs,zac hs,zai hs,a126r2,a126r3,a126p4,a126r5,o,w3]
 rw [zah hs a126l6.eq_1]
 simp [zad hs,zaa hs,zab hs,zac hs,zai hs,a126r2,a126r3,a126p4,a126r5,o,w4]
 rw [zah hs a126l6.eq_1]
 simp [zad hs,zaa hs,zab hs,zac hs,zai hs,a126r2,a126r3,a126p4,a126r5,a126r7,frz,zbG]

theorem not_run {bar:Nat} {H:Heap} (p:Nat→Bool):Rn fsT SA.sp bar 127 [zfa p] H=some (.ret (zfa (notB p)),H):=by
 have hs:=SA.mono
 have o: ∀ i,IntKind.u64.wrap ((((bif IntKind.u64.signed then -1 else IntKind.u64.max)%2^IntKind.u64.bits).toNat ^^^ zaM p i 64%2^IntKind.u64.bits:Nat):Int)=(zaM (notB p) i 64:Int):=fun i=>by
  rw [u64_mod (zeE p i 64)]
  have e:((bif IntKind.u64.signed then -1 else IntKind.u64.max)%2^IntKind.u64.bits:Int).toNat=2^64-1:=by decide
  have e2:(2^64-1) ^^^ zaM p i 64=zaM (notB p) i 64:=by
   apply Nat.eq_of_testBit_eq
   intro j
   rw [Nat.testBit_xor,Nat.testBit_two_pow_sub_one,za6,za6]
   by_cases hj:j<64<;>simp [hj,notB]
  rw [e,e2]
  exact u64_id (zeE _ _ _)
 have w1:IntKind.i64.wrap 1=1:=by decide
 have w2:IntKind.i64.wrap 2=2:=by decide
 have w3:IntKind.i64.wrap 3=3:=by decide
 have w4:IntKind.i64.wrap 4=4:=by decide
 refine zao hs fsT_127 rfl rfl rfl ?_
 rw [env127]
 simp [a127,a127r0,a127r1,zad hs,zaa hs,zab hs,zcI]
 rw [zah hs a127l6.eq_1]
 simp [zad hs,zaa hs,zab hs,zac hs,zai hs,a127r2,a127r3,a127r4,a127r5,w1,o]
 rw [zah hs a127l6.eq_1]
 simp [zad hs,zaa hs,zab hs,zac hs,zai hs,a127r2,a127r3,a127r4,a127r5,w2,o]
 rw [zah hs a127l6.eq_1]
 simp [zad hs,zaa hs,zab hs,zac hs,zai hs,a127r2,a127r3,a127r4,a127r5,w3,o]
 rw [zah hs a127l6.eq_1]
 simp [zad hs,zaa hs,zab hs,zac hs,zai hs,a127r2,a127r3,a127r4,a127r5,w4,o]
 rw [zah hs a127l6.eq_1]
 simp [zad hs,zaa hs,zab hs,zac hs,zai hs,a127r2,a127r3,a127r4,a127r5,a127r7,frz,zbG]

theorem Add_run {bar:Nat} {H:Heap} (p:Nat→Bool) (a b:UInt8):Rn fsT SA.sp bar 128 [zfa p, .int .u8 a.toNat, .int .u8 b.toNat] H=some (.ret (zfa (orB p (zak a b))),H):=by
 have hs:=SA.mono
 have h:=setadd_run (bar:=0) (H:= []) p a b
 rw [zcI,zcI] at h ⊢
 refine zao hs fsT_128 rfl rfl rfl ?_
 rw [env128]
 simp [a128,a128r0,a128r1,zad hs,zaa hs,h,frz,zbG]

theorem Not_run {bar:Nat} {H:Heap} (p:Nat→Bool):Rn fsT SA.sp bar 115 [zfa p] H=some (.ret (zfa (notB p)),H):=by
 have hs:=SA.mono
 have h:=not_run (bar:=0) (H:= []) p
 rw [zcI,zcI] at h ⊢
 refine zao hs fsT_115 rfl rfl rfl ?_
 rw [env115]
 simp [a115,a115r0,a115r1,zad hs,zaa hs,h,frz,zbG]

theorem rangesOf_eq (name:List UInt8):zaP name =
 if name= [97,108,112,104,97] then [65,90,97,122]
 else if name= [100,105,103,105,116] then [48,57]
 else if name= [97,108,110,117,109] then [48,57,65,90,97,122]
 else if name= [117,112,112,101,114] then [65,90]
 else if name= [108,111,119,101,114] then [97,122]
 else if name= [115,112,97,99,101] then [9,13,32,32]
 else if name= [98,108,97,110,107] then [9,9,32,32]
 else if name= [112,117,110,99,116] then [33,47,58,64,91,96,123,126]
 else if name= [112,114,105,110,116] then [32,126]
 else if name= [103,114,97,112,104] then [33,126]
 else if name= [99,110,116,114,108] then [0,31,127,127]
 else if name= [120,100,105,103,105,116] then [48,57,65,70,97,102]
 else []:=rfl

theorem beqS_dec: ∀ (a b:List UInt8),beqS a b=decide (a=b)
 | [],[]=>rfl
 | [],_::_=>rfl
 | _::_,[]=>rfl
 | a::x,b::y=>by
  have ih:=beqS_dec x y
  simp only [beqS,nbeq,ih]
  by_cases h:a=b
  ·subst h;simp
  ·have h2: ¬ a.toNat=b.toNat:=fun e=>h (UInt8.toNat_inj.1 e)
   simp [h,h2]

theorem zbh (a b:List UInt8):binS .eql a b=some (.bool (decide (a=b))):=by rw [←beqS_dec];rfl

theorem ranges_run {bar:Nat} {H:Heap} (name:List UInt8):Rn fsT SA.sp bar 138 [.str name] H=some (.ret (.str (zaP name)),H):=by
 have hs:=SA.mono
 refine zao hs fsT_138 rfl rfl rfl ?_
 rw [env138,rangesOf_eq]
 simp only [a138]
 by_cases h1:name= [97,108,112,104,97]
 ·simp [zfp,zfo,zfn,zfm,zad hs,zaa hs,zab hs,zac hs,zbh,h1]
 by_cases h2:name= [100,105,103,105,116]
 ·simp [zfp,zfo,zfn,zfm,zfT,zfS,zad hs,zaa hs,zab hs,zac hs,zbh,h1,h2]
 by_cases h3:name= [97,108,110,117,109]
 ·simp [zfp,zfo,zfn,zfm,zfT,zfS,a138r6,a138r7,zad hs,zaa hs,zab hs,zac hs,zbh,h1,h2,h3]
 by_cases h4:name= [117,112,112,101,114]
 ·simp [zfp,zfo,zfn,zfm,zfT,zfS,a138r6,a138r7,a138r8,a138r9,zad hs,zaa hs,zab hs,zac hs,zbh,h1,h2,h3,h4]
 by_cases h5:name= [108,111,119,101,114]
 ·simp [zfp,zfo,zfn,zfm,zfT,zfS,a138r6,a138r7,a138r8,a138r9,zfx,zfw,zad hs,zaa hs,zab hs,zac hs,zbh,h1,h2,h3,h4,h5]
 by_cases h6:name= [115,112,97,99,101]
 ·simp [zfp,zfo,zfn,zfm,zfT,zfS,a138r6,a138r7,a138r8,a138r9,zfx,zfw,zgo,zgn,zad hs,zaa hs,zab hs,zac hs,zbh,h1,h2,h3,h4,h5,h6]
 by_cases h7:name= [98,108,97,110,107]
 ·simp [zfp,zfo,zfn,zfm,zfT,zfS,a138r6,a138r7,a138r8,a138r9,zfx,zfw,zgo,zgn,a138r14,a138r15,zad hs,zaa hs,zab hs,zac hs,zbh,h1,h2,h3,h4,h5,h6,h7]
 by_cases h8:name= [112,117,110,99,116]
 ·simp [zfp,zfo,zfn,zfm,zfT,zfS,a138r6,a138r7,a138r8,a138r9,zfx,zfw,zgo,zgn,a138r14,a138r15,a138r16,a138r17,zad hs,zaa hs,zab hs,zac hs,zbh,h1,h2,h3,h4,h5,h6,h7,h8]
 by_cases h9:name= [112,114,105,110,116]
 ·simp [zfp,zfo,zfn,zfm,zfT,zfS,a138r6,a138r7,a138r8,a138r9,zfx,zfw,zgo,zgn,a138r14,a138r15,a138r16,a138r17,a138r18,a138r19,zad hs,zaa hs,zab hs,zac hs,zbh,h1,h2,h3,h4,h5,h6,h7,h8,h9]
 by_cases h10:name= [103,114,97,112,104]
 ·simp [zfp,zfo,zfn,zfm,zfT,zfS,a138r6,a138r7,a138r8,a138r9,zfx,zfw,zgo,zgn,a138r14,a138r15,a138r16,a138r17,a138r18,a138r19,a138r20,a138r21,zad hs,zaa hs,zab hs,zac hs,zbh,h1,h2,h3,h4,h5,h6,h7,h8,h9,h10]
 by_cases h11:name= [99,110,116,114,108]
 ·simp [zfp,zfo,zfn,zfm,zfT,zfS,a138r6,a138r7,a138r8,a138r9,zfx,zfw,zgo,zgn,a138r14,a138r15,a138r16,a138r17,a138r18,a138r19,a138r20,a138r21,a138r22,a138r23,zad hs,zaa hs,zab hs,zac hs,zbh,h1,h2,h3,h4,h5,h6,h7,h8,h9,h10,h11]
 by_cases h12:name= [120,100,105,103,105,116]
 ·simp [zfp,zfo,zfn,zfm,zfT,zfS,a138r6,a138r7,a138r8,a138r9,zfx,zfw,zgo,zgn,a138r14,a138r15,a138r16,a138r17,a138r18,a138r19,a138r20,a138r21,a138r22,a138r23,a138r24,a138r25,zad hs,zaa hs,zab hs,zac hs,zbh,h1,h2,h3,h4,h5,h6,h7,h8,h9,h10,h11,h12]
 simp [zfp,zfo,zfn,zfm,zfT,zfS,a138r6,a138r7,a138r8,a138r9,zfx,zfw,zgo,zgn,a138r14,a138r15,a138r16,a138r17,a138r18,a138r19,a138r20,a138r21,a138r22,a138r23,a138r24,a138r25,a138r26,zad hs,zaa hs,zab hs,zac hs,zbh,h1,h2,h3,h4,h5,h6,h7,h8,h9,h10,h11,h12]

theorem orB_assoc (p q r:Nat→Bool):orB (orB p q) r=orB p (orB q r):=funext fun x=>by simp [orB,Bool.or_assoc]
theorem orB_no (p:Nat→Bool):orB p noB=p:=funext fun x=>by simp [orB,noB]
theorem no_orB (p:Nat→Bool):orB noB p=p:=funext fun x=>by simp [orB,noB]

theorem named_loop {bar:Nat} {H:Heap} {l:List UInt8} (hl:l.length≤100) (hev:l.length%2=0): ∀ (n i:Nat) (p:Nat→Bool) (v:Nat→AV),i+2*n=l.length→v 4= .box (zbX p)→v 5= .str l→v 6=num i →
  Wp (evI fsT SA.sp bar (.loop a134l7) (mkE 4221 v,H)) (fun e t=>e= .exit 0∧ ∃ v',t=(mkE 4221 v',H)∧v' 4= .box (zbX (orB p (zaf (l.drop i))))∧v' 2=v 2∧v' 5=v 5):=by
 have hs:=SA.mono
 intro n
 induction n with
 | zero =>
  intro i p v hi v4 v5 v6
  have hge: ¬ ((i:Int)<(l.length:Int)):=by omega
  have e0:l.drop i= []:=List.drop_eq_nil_of_le (by omega)
  rw [zah hs a134l7.eq_1]
  simp [zad hs,zaa hs,zab hs,zac hs,a134r4,v5,v6,hge]
  exact ⟨_,rfl,by rw [e0];simp [v4,zaf,orB_no],by simp,by simp [v5]⟩
 | succ n ih =>
  intro i p v hi v4 v5 v6
  have hlt:((i:Int)<(l.length:Int)):=by omega
  have h1:i<l.length:=by omega
  have h2:i+1<l.length:=by omega
  obtain ⟨a,ha⟩: ∃ a,l[i]? = some a:=⟨l[i],List.getElem?_eq_getElem h1⟩
  obtain ⟨b,hb⟩: ∃ b,l[i+1]? = some b:=⟨l[i+1],List.getElem?_eq_getElem h2⟩
  have hd:l.drop i=a::b::l.drop (i+2):=by
   obtain ⟨_,rfl⟩:=List.getElem?_eq_some_iff.1 ha
   obtain ⟨_,rfl⟩:=List.getElem?_eq_some_iff.1 hb
   rw [List.drop_eq_getElem_cons h1,List.drop_eq_getElem_cons h2]
  have hw:IntKind.i64.wrap ((i:Int)+1)=(i:Int)+1:=zaj _ (by omega)
  have h0:(0:Int)≤(i:Int)+1:=by omega
  have ht:((i:Int)+1).toNat=i+1:=by omega
  have hw2:IntKind.i64.wrap ((i:Int)+2)=(i:Int)+2:=zaj _ (by omega)
  have hc:=setadd_run (bar:=bar) (H:=H) p a b
  unfold zfa at hc
  have h4:List.take 4 (zbX p)=zbX p:=rfl
  have h44:(zbX (orB p (zak a b))).length=4:=rfl
  have hsc: ∀ q:Nat→Bool,(((((zbX p).set 0 (u64 (zaM q 0 64))).set 1 (u64 (zaM q 1 64))).set 2 (u64 (zaM q 2 64))).set 3 (u64 (zaM q 3 64)))=zbX q:=fun q=>rfl
  rw [zah hs a134l7.eq_1]
  rw [setC_eq (orB p (zak a b))] at hc
  simp [zad hs,zaa hs,zab hs,zac hs,zai hs,a134r4,a134p5,a134r6,v4,v5,v6,hlt,ha,hb,hw,hw2,h0,ht,zbw,h4,hc,hsc]
  refine (ih (i+2) (orB p (zak a b)) _ (by omega) ?_ ?_ ?_).mono fun e t h=> ?_
  ·simp
  ·simp [v5]
  ·simp
  ·obtain ⟨rfl,v',rfl,k4,k2,k5⟩:=h
   refine ⟨rfl,v',rfl,?_,by simpa using k2,by simpa [v5] using k5⟩
   rw [k4,hd,zaf,orB_assoc]

def EvenL (l:List UInt8):Prop:=l.length≤100∧l.length%2=0

theorem ite_all {P:List UInt8→Prop} {c:Prop} [Decidable c] {a b:List UInt8} (h1:P a) (h2:P b):P (if c then a else b):=by split<;>assumption

theorem rangesOf_even (name:List UInt8):(zaP name).length≤100∧(zaP name).length%2=0:=by
 rw [rangesOf_eq]
 show EvenL _
 repeat' (first | exact ⟨by decide,by decide⟩ | apply ite_all)

theorem named_run {bar:Nat} {H:Heap} (name:List UInt8):Rn fsT SA.sp bar 134 [.str name] H=some (.ret (.tup [zfa (zaf (zaP name)), .bool (!decide (zaP name= []))]),H):=by
 have hs:=SA.mono
 have h:=ranges_run (bar:=0) (H:= []) name
 obtain ⟨h1,h2⟩:=rangesOf_even name
 generalize zaP name=l at *
 have z: ∀ p:Nat→Bool,List.replicate 4 (AV.int .u64 0)=zbX noB:=fun _=>rfl
 have hneq:binS .neq l []=some (.bool (!decide (l= []))):=by rw [binS_neq,beqS_dec]
 refine zao hs fsT_134 rfl rfl rfl ?_
 rw [env134]
 simp [a134,a134r0,a134r1,a134r2,a134r3,zad hs,zaa hs,zab hs,h]
 refine (named_loop (bar:=0) (H:= []) h1 h2 (l.length/2) 0 noB _ (by omega) ?_ ?_ ?_).mono fun e t h=> ?_
 ·simp;rfl
 ·simp
 ·simp
 ·obtain ⟨rfl,v',rfl,k4,k2,k5⟩:=h
  simp at k2 k5
  rw [List.drop_zero,no_orB] at k4
  have h4: ∀ p,List.take 4 (zbX p)=zbX p:=fun p=>rfl
  have hsc: ∀ q:Nat→Bool,zbX q= [u64 (zaM q 0 64),u64 (zaM q 1 64),u64 (zaM q 2 64),u64 (zaM q 3 64)]:=fun q=>rfl
  rw [hsc] at k4
  simp [a134r8,zad hs,zaa hs,k2,k4,k5,hneq,zcI,frz,zbG]

end

section

theorem index_close: ∀ (l:List UInt8),Lib.index l [58,93]=match zdC l with | none=> -1 | some n=>(n:Int)
 | []=>rfl
 | c::l=>by
  have ih:=index_close l
  rw [Lib.index,zdC]
  have hp:([58,93]:List UInt8).isPrefixOf (c::l)=decide ((c::l).take 2= [58,93]):=by
   cases l with
   | nil=>simp [List.isPrefixOf]
   | cons d l =>
    simp only [List.isPrefixOf,List.take_succ_cons,List.take_zero,List.cons.injEq,and_true,Bool.and_true]
    by_cases h1:58=c<;>by_cases h2:93=d
    ·subst h1 h2;rfl
    ·have: ¬ d=93:=fun e=>h2 e.symm
     simp [h1,h2,this]
    ·have: ¬ c=58:=fun e=>h1 e.symm
     simp [h1,this]
    ·have: ¬ c=58:=fun e=>h1 e.symm
     simp [h1,this]
  rw [hp]
  by_cases h:(c::l).take 2= [58,93]
  ·simp [h]
  ·rw [if_neg (by simpa using h),if_neg h,ih]
   cases zdC l with
   | none=>rfl
   | some n =>
    have: ¬ ((n:Int) == -1)=true:=by simp
    simp only [Option.map_some]
    rw [if_neg this]
    rfl

theorem hasPrefix_run {bar:Nat} {H:Heap} (l t:List UInt8):Rn fsT SA.sp bar 133 [.str l, .str t] H=some (.ret (.bool (decide (l.take t.length=t))),H):=by
 have hs:=SA.mono
 have h1: ∀ (bar:Nat) (H:Heap),Rn fsT SA.sp bar 137 [.str l, .str t] H=some (.ret (.bool (decide (l.take t.length=t))),H):=fun bar H=>by
  refine zao hs fsT_137 rfl rfl rfl ?_
  rw [env137]
  by_cases h:t.length≤l.length
  ·have h':(t.length:Int)≤(l.length:Int):=by omega
   simp [a137,a137r0,a137r1,zad hs,zaa hs,h,h',zbh]
  ·have h': ¬ (t.length:Int)≤(l.length:Int):=by omega
   have e: ¬ l.take t.length=t:=fun e=>by
    have:=congrArg List.length e
    simp only [List.length_take] at this;omega
   simp [a137,a137r0,a137r1,zad hs,zaa hs,h,h',e]
 refine zao hs fsT_133 rfl rfl rfl ?_
 rw [env133]
 simp [a133,a133r0,a133r1,zad hs,zaa hs,h1]

/-- A reader: its text, its place. -/
def Rd (H:Heap) (r:Nat) (s:List UInt8) (i:Nat):Prop:=hget H r=some (some [.str s,num i])

theorem Rd.set {H:Heap} {r:Nat} {s:List UInt8} {i:Nat} (h:Rd H r s i) (j:Nat):Rd (H.set r (some [.str s,num j])) r s j:=zae _ (zas h)

theorem zeR {bar:Nat} {H:Heap} {r:Nat} {s:List UInt8} {i:Nat} (h:Rd H r s i) (hi:i≤s.length) (t:List UInt8):Rn fsT SA.sp bar 124 [.ptr r 0, .str t] H=some (.ret (.bool (comes s i t)),H):=by
 have hs:=SA.mono
 have h1:=fun H=>hasPrefix_run (bar:=H.length) (H:=H) (s.drop i) t
 have e1:List.take (s.length-i) (s.drop i)=s.drop i:=List.take_of_length_le (by simp)
 unfold Rd at h
 refine zcZ hs fsT_124 rfl rfl rfl ?_
 rw [env124]
 simp [a124,a124r0,a124p1,zad hs,zaa hs,zai hs,h,hi,e1,h1,comes]

/-- What single leaves. -/
def SingleOut (s:List UInt8) (r:Nat) (H:Heap) (x:Option (UInt8×Nat)) (o:Out) (H':Heap):Prop :=
 match x with
 | none=>o= .ret (.tup [.int .u8 0, .bool false])∧ ∃ j:Nat,H'=H.set r (some [.str s,num j])
 | some (c,j)=>o= .ret (.tup [.int .u8 c.toNat, .bool true])∧H'=H.set r (some [.str s,num j])

theorem zem {H:Heap} {r:Nat} {x:Option (List AV)} (h:hget H r=some x):H.set r x=H:=by
 apply List.ext_getElem?
 intro j
 rw [List.getElem?_set]
 split
 ·rename_i e;subst e
  rw [if_pos (zas h)];exact h.symm
 ·rfl

theorem comes_one {s:List UInt8} {i:Nat} (c:UInt8):comes s i [c]=decide (s[i]? = some c):=by
 unfold comes
 cases h:s[i]? with
 | none =>
  have:s.drop i= []:=List.drop_eq_nil_of_le (List.getElem?_eq_none_iff.1 h)
  simp [this]
 | some d =>
  have e:(s.drop i).take [c].length= [d]:=by
   obtain ⟨hi,rfl⟩:=List.getElem?_eq_some_iff.1 h
   rw [List.drop_eq_getElem_cons hi];rfl
  rw [e]
  by_cases q:d=c
  ·subst q;simp
  ·have: ¬ c=d:=fun e=>q e.symm
   simp [q]

theorem single_run {bar:Nat} {H:Heap} {r:Nat} {s:List UInt8} {i:Nat} (h:Rd H r s i) (hi:i≤s.length) (hb:bar≤r) (hl:s.length≤1000000):Wc (Rn fsT SA.sp bar 135 [.ptr r 0] H) (SingleOut s r H (zbt s i)):=by
 have hs:=SA.mono
 have hrl:=zas h
 have hc:=zeR (bar:=bar) h hi [92]
 rw [comes_one] at hc
 have hw:IntKind.i64.wrap ((i:Int)+1)=(i:Int)+1:=zaj _ (by omega)
 have hw2:IntKind.i64.wrap ((i:Int)+1+1)=(i:Int)+1+1:=zaj _ (by omega)
 have hm:IntKind.i64.wrap ((i:Int)+1-1)=(i:Int):=by rw [zaj _ (by omega)];omega
 have hm0:IntKind.i64.wrap (i:Int)=(i:Int):=zaj _ (by omega)
 have hm2:IntKind.i64.wrap ((i:Int)+1+1-1)=(i:Int)+1:=by rw [zaj _ (by omega)];omega
 have h0:(0:Int)≤(i:Int)+1:=by omega
 have ht:((i:Int)+1).toNat=i+1:=by omega
 have h':=h
 unfold Rd at h'
 refine za0 hs fsT_135 rfl rfl ?_
 rw [env135]
 cases hc0:s[i]? with
 | none =>
  have e:i=s.length:=by have:=List.getElem?_eq_none_iff.1 hc0;omega
  have e2:zbt s i=none:=by simp [zbt,hc0]
  subst e
  rw [hc0] at hc
  simp at hc
  rw [e2]
  simp [a135,a135r0,a135r1,a135r2,a135p3,a135r4,a135r5,a135p6,a135r7,a135r8,a135r9,a135r10,a135r11,a135r12,a135p13,a135r14,a135r15,a135p16,zad hs,zaa hs,zai hs,zab hs,zac hs,h',hc]
  exact ⟨rfl,s.length,(zem h).symm⟩
 | some c =>
  have hlt:=(List.getElem?_eq_some_iff.1 hc0).1
  have hne:((i:Int)==(s.length:Int))=false:=by simp;omega
  have hnN: ¬ (i=s.length):=by omega
  rw [hc0] at hc
  by_cases h92:c=92
  ·subst h92
   simp at hc
   cases hd:s[i+1]? with
   | none =>
    have e2:zbt s i=none:=by simp [zbt,hc0,hd]
    have e0:(i:Int)+1=(s.length:Int):=by have:=List.getElem?_eq_none_iff.1 hd;omega
    have e:((i:Int)+1==(s.length:Int))=true:=by simp [e0]
    rw [e2]
    simp [a135,a135r0,a135r1,a135r2,a135p3,a135r4,a135r5,a135p6,a135r7,a135r8,a135r9,a135r10,a135r11,a135r12,a135p13,a135r14,a135r15,a135p16,zad hs,zaa hs,zai hs,zab hs,zac hs,h',hc,hb,hw,zae,hrl,e]
    exact ⟨rfl,i+1,rfl⟩
   | some d =>
    have e2:zbt s i=some (zc3 d,i+2):=by simp [zbt,hc0,hd]
    have hlt2:=(List.getElem?_eq_some_iff.1 hd).1
    have e:((i:Int)+1==(s.length:Int))=false:=by simp;omega
    have e3:(num (i+2))= .int .i64 ((i:Int)+1+1):=by simp [num];omega
    have d110:((d.toNat:Int)==110)=decide (d=110):=by
     by_cases q:d=110
     ·subst q;rfl
     ·have: ¬ d.toNat=110:=fun e=>q (UInt8.toNat_inj.1 (by simpa using e))
      simp [q];omega
    have d116:((d.toNat:Int)==116)=decide (d=116):=by
     by_cases q:d=116
     ·subst q;rfl
     ·have: ¬ d.toNat=116:=fun e=>q (UInt8.toNat_inj.1 (by simpa using e))
      simp [q];omega
    rw [e2]
    by_cases q1:d=110
    ·subst q1
     simp [a135,a135r0,a135r1,a135r2,a135p3,a135r4,a135r5,a135p6,a135r7,a135r8,a135r9,a135r10,a135r11,a135r12,a135p13,a135r14,a135r15,a135p16,zad hs,zaa hs,zai hs,zab hs,zac hs,h',hc,hb,hw,hw2,hm,hm2,h0,ht,zae,hrl,e,hd]
     exact ⟨rfl,by rw [e3]⟩
    ·by_cases q2:d=116
     ·subst q2
      simp [a135,a135r0,a135r1,a135r2,a135p3,a135r4,a135r5,a135p6,a135r7,a135r8,a135r9,a135r10,a135r11,a135r12,a135p13,a135r14,a135r15,a135p16,zad hs,zaa hs,zai hs,zab hs,zac hs,h',hc,hb,hw,hw2,hm,hm2,h0,ht,zae,hrl,e,hd]
      exact ⟨rfl,by rw [e3]⟩
     ·have q1':=d110;have q2':=d116
      simp only [q1,q2,decide_false] at q1' q2'
      simp [a135,a135r0,a135r1,a135r2,a135p3,a135r4,a135r5,a135p6,a135r7,a135r8,a135r9,a135r10,a135r11,a135r12,a135p13,a135r14,a135r15,a135p16,zad hs,zaa hs,zai hs,zab hs,zac hs,h',hc,hb,hw,hw2,hm,hm2,h0,ht,zae,hrl,e,hd,q1',q2']
      exact ⟨by simp [zc3,q1,q2],by rw [e3]⟩
  ·have e2:zbt s i=some (c,i+1):=by simp [zbt,hc0,h92]
   simp [h92] at hc
   rw [e2]
   simp [a135,a135r0,a135r1,a135r2,a135p3,a135r4,a135r5,a135p6,a135r7,a135r8,a135r9,a135r10,a135r11,a135r12,a135p13,a135r14,a135r15,a135p16,zad hs,zaa hs,zai hs,zab hs,zac hs,h',hc,hb,hw,hm,hm0,zae,hrl,hne,hnN,hc0]
   exact ⟨rfl,rfl⟩

end

section

theorem cut2_none {bar:Nat} {H:Heap} {s:List UInt8} (h:zdC s=none) (hl:s.length≤1000000):Rn fsT SA.sp bar 95 [.str s, .str [58,93]] H=some (.ret (.tup [.str s, .str [], .bool false]),H):=by
 have hs:=SA.mono
 have hx:=index_close s
 rw [h] at hx
 have hl2:s.length<4294967281:=by omega
 have h1: ∀ (bar:Nat) (H:Heap),Rn fsT SA.sp bar 104 [.str s, .str [58,93]] H=some (.ret (.tup [.str s, .str [], .bool false]),H):=fun bar H=>by
  refine zao hs fsT_104 rfl rfl rfl ?_
  rw [env104]
  simp [a104,a104r0,a104r1,a104r2,a104p3,a104r4,zad hs,zaa hs,zac hs,Rn_index,spIndex,hx,hl2,frz,zbG]
 refine zao hs fsT_95 rfl rfl rfl ?_
 rw [env95]
 simp [a95,a95r0,a95r1,zad hs,zaa hs,h1,frz,zbG]

theorem cut2_some {bar:Nat} {H:Heap} {s:List UInt8} {n:Nat} (h:zdC s=some n) (hl:s.length≤1000000):Rn fsT SA.sp bar 95 [.str s, .str [58,93]] H=some (.ret (.tup [.str (s.take n), .str (s.drop (n+2)), .bool true]),H):=by
 have hs:=SA.mono
 have hx:=index_close s
 rw [h] at hx
 simp only at hx
 have hp:=zev h
 have hl2:s.length<4294967281:=by omega
 have h1: ∀ (bar:Nat) (H:Heap),Rn fsT SA.sp bar 104 [.str s, .str [58,93]] H=some (.ret (.tup [.str (s.take n), .str (s.drop (n+2)), .bool true]),H):=fun bar H=>by
  have hw:IntKind.i64.wrap ((n:Int)+2)=(n:Int)+2:=zaj _ (by omega)
  have h0:(0:Int)≤(n:Int)+2:=by omega
  have e1:List.take (s.length-(n+2)) (s.drop (n+2))=s.drop (n+2):=List.take_of_length_le (by simp)
  have hn2:n≤s.length:=by omega
  have ht:((n:Int)+2).toNat=n+2:=by omega
  refine zao hs fsT_104 rfl rfl rfl ?_
  rw [env104]
  simp [a104,a104r0,a104r1,a104r2,a104p3,a104r4,zad hs,zaa hs,zai hs,zac hs,Rn_index,spIndex,hx,hl2,frz,zbG,hw,h0,hp,hn2,ht,e1]
 refine zao hs fsT_95 rfl rfl rfl ?_
 rw [env95]
 simp [a95,a95r0,a95r1,zad hs,zaa hs,h1,frz,zbG]

/-- What item leaves. -/
def ItemOut (s:List UInt8) (r:Nat) (H:Heap) (x:PR (Nat→Bool)) (o:Out) (H':Heap):Prop :=
 match x with
 | .er _ w=>o= .ret (.tup [zfa noB,num w])∧ ∃ j:Nat,H'=H.set r (some [.str s,num j])
 | .ok p j=>o= .ret (.tup [zfa p,num 0])∧H'=H.set r (some [.str s,num j])

theorem zfI (s:List UInt8) (r:Nat) (H:Heap) (a w:Nat):ItemOut s r H (.er a w)=fun o H'=>o= .ret (.tup [zfa noB,num w])∧ ∃ j:Nat,H'=H.set r (some [.str s,num j]):=rfl
theorem itemOut_ok (s:List UInt8) (r:Nat) (H:Heap) (p:Nat→Bool) (j:Nat):ItemOut s r H (.ok p j)=fun o H'=>o= .ret (.tup [zfa p,num 0])∧H'=H.set r (some [.str s,num j]):=rfl

theorem item_run {bar:Nat} {H:Heap} {r:Nat} {s:List UInt8} {i:Nat} (h:Rd H r s i) (hi:i≤s.length) (hb:bar≤r) (hl:s.length≤10000):Wc (Rn fsT SA.sp bar 125 [.ptr r 0] H) (ItemOut s r H (zcC s i)):=by
 have hs:=SA.mono
 have hrl:=zas h
 have hc:=zeR (bar:=bar) h hi [91,58]
 have h':=h
 unfold Rd at h'
 have hz:zfa noB= .agg [.int .u64 0, .int .u64 0, .int .u64 0, .int .u64 0]:=rfl
 refine za0 hs fsT_125 rfl rfl ?_
 rw [env125]
 by_cases hcl:comes s i [91,58]=true
 · -- a class
  have hlen:=comes_len hcl (by simp)
  simp only [List.length_cons,List.length_nil] at hlen
  have hw:IntKind.i64.wrap ((i:Int)+2)=(i:Int)+2:=zaj _ (by omega)
  have h0:(0:Int)≤(i:Int)+2:=by omega
  have ht:((i:Int)+2).toNat=i+2:=by omega
  have hle2:i+2≤s.length:=by omega
  have e1:List.take (s.length-(i+2)) (s.drop (i+2))=s.drop (i+2):=List.take_of_length_le (by simp)
  rw [hcl] at hc
  cases hcf:zdC (s.drop (i+2)) with
  | none =>
   have hcut:=cut2_none (bar:=bar) (H:=H) hcf (by simp;omega)
   have e2:zcC s i= .er 0 3:=by simp [zcC,hcl,hcf]
   rw [e2,zfI,hz]
   simp [a125,a125r0,a125r1,a125p2,a125r3,a125r4,a125r5,a125r6,a125r7,a125r8,a125r9,ze6,ze5,ze4,ze3,ze2,ze1,ze0,zeZ,zeY,zeX,zeW,zeV,zad hs,zaa hs,zai hs,zab hs,zac hs,h',hc,hw,h0,ht,hle2,e1,hcut]
   exact ⟨i,(zem h).symm⟩
  | some n =>
   have hp:=zev hcf
   simp only [List.length_drop] at hp
   have hcut:=cut2_some (bar:=bar) (H:=H) hcf (by simp;omega)
   generalize hnm:(s.drop (i+2)).take n=nm at hcut
   have hnl:nm.length=n:=by rw [←hnm];simp;omega
   have hnamed:=fun H=>named_run (bar:=bar) (H:=H) nm
   have hw4:IntKind.i64.wrap ((nm.length:Int)+4)=(nm.length:Int)+4:=zaj _ (by omega)
   have hwi:IntKind.i64.wrap ((i:Int)+((nm.length:Int)+4))=(i:Int)+((nm.length:Int)+4):=zaj _ (by omega)
   by_cases hr:zaP nm= []
   ·have e2:zcC s i= .er 0 40:=by simp [zcC,hcl,hcf,hnm,hr]
    have hn0: ∀ H,Rn fsT SA.sp bar 134 [.str nm] H=some (.ret (.tup [.agg [u64 (zaM (zaf (zaP nm)) 0 64),u64 (zaM (zaf (zaP nm)) 1 64),u64 (zaM (zaf (zaP nm)) 2 64),u64 (zaM (zaf (zaP nm)) 3 64)], .bool false]),H):=fun H=>by
     rw [hnamed H,zcI];simp [hr]
    rw [e2,zfI,hz]
    simp [a125,a125r0,a125r1,a125p2,a125r3,a125r4,a125r5,a125r6,a125r7,a125r8,a125r9,ze6,ze5,ze4,ze3,ze2,ze1,ze0,zeZ,zeY,zeX,zeW,zeV,zad hs,zaa hs,zai hs,zab hs,zac hs,h',hc,hw,h0,ht,hle2,e1,hcut,hw4,hwi,hb,hrl,hn0]
    exact ⟨i+(nm.length+4),rfl⟩
   ·have e2:zcC s i= .ok (zaf (zaP nm)) (i+n+4):=by simp [zcC,hcl,hcf,hnm,hr]
    have hn0: ∀ H,Rn fsT SA.sp bar 134 [.str nm] H=some (.ret (.tup [.agg [u64 (zaM (zaf (zaP nm)) 0 64),u64 (zaM (zaf (zaP nm)) 1 64),u64 (zaM (zaf (zaP nm)) 2 64),u64 (zaM (zaf (zaP nm)) 3 64)], .bool true]),H):=fun H=>by
     rw [hnamed H,zcI];simp [hr]
    have e3:(num (i+n+4))= .int .i64 ((i:Int)+((nm.length:Int)+4)):=by simp [num,hnl];omega
    rw [e2,itemOut_ok,zcI,e3]
    simp [a125,a125r0,a125r1,a125p2,a125r3,a125r4,a125r5,a125r6,a125r7,a125r8,a125r9,ze6,ze5,ze4,ze3,ze2,ze1,ze0,zeZ,zeY,zeX,zeW,zeV,zad hs,zaa hs,zai hs,zab hs,zac hs,h',hc,hw,h0,ht,hle2,e1,hcut,hw4,hwi,hb,hrl,hn0]
 ·have hcl:comes s i [91,58]=false:=by simpa using hcl
  rw [hcl] at hc
  obtain ⟨o1,H1,q1,q2⟩:=single_run h hi hb (by omega)
  cases hsg:zbt s i with
  | none =>
   rw [hsg] at q2
   obtain ⟨rfl,j,rfl⟩:=q2
   have e2:zcC s i= .er 0 3:=by simp [zcC,hcl,hsg]
   rw [e2,zfI,hz]
   simp [a125,a125r0,a125r1,a125p2,a125r3,a125r4,a125r5,a125r6,a125r7,a125r8,a125r9,ze6,ze5,ze4,ze3,ze2,ze1,ze0,zeZ,zeY,zeX,zeW,zeV,zad hs,zaa hs,zai hs,zab hs,zac hs,h',hc,q1]
   exact ⟨j,rfl⟩
  | some q =>
   obtain ⟨a,j⟩:=q
   rw [hsg] at q2
   obtain ⟨rfl,rfl⟩:=q2
   obtain ⟨j1,j2⟩:=zeG hsg
   have hR:=h.set j
   have hRl:=zas hR
   have c1:=zeR (bar:=bar) hR j2 [45]
   have c2:=zeR (bar:=bar) hR j2 [45,93]
   have c3:=zeR (bar:=bar) hR j2 [45,91,58]
   have hadd:=fun H a b=>setadd_run (bar:=bar) (H:=H) noB a b
   have hR':=hR
   unfold Rd at hR'
   have hadd': ∀ H (a b:UInt8),Rn fsT SA.sp bar 136 [.agg [.int .u64 0, .int .u64 0, .int .u64 0, .int .u64 0], .int .u8 a.toNat, .int .u8 b.toNat] H=some (.ret (.agg [u64 (zaM (zak a b) 0 64),u64 (zaM (zak a b) 1 64),u64 (zaM (zak a b) 2 64),u64 (zaM (zak a b) 3 64)]),H):=fun H a b=>by
    have:=hadd H a b
    rw [no_orB] at this
    exact this
   by_cases hcond:comes s j [45]=true∧ ¬ comes s j [45,93]=true∧ ¬ comes s j [45,91,58]=true
   ·obtain ⟨d1,d2,d3⟩:=hcond
    have d2:comes s j [45,93]=false:=by simpa using d2
    have d3:comes s j [45,91,58]=false:=by simpa using d3
    have hjl:=comes_len d1 (by simp)
    simp only [List.length_cons,List.length_nil] at hjl
    have hwj:IntKind.i64.wrap ((j:Int)+1)=(j:Int)+1:=zaj _ (by omega)
    have hset:(H.set r (some [.str s,num j])).set r (some [.str s,num (j+1)])=H.set r (some [.str s,num (j+1)]):=List.set_set ..
    obtain ⟨o3,H3,q3,q4⟩:=single_run (bar:=bar) (h.set (j+1)) (by omega) hb (by omega)
    have hnj:num (j+1)= .int .i64 ((j:Int)+1):=by simp [num]
    rw [hnj] at q3 q4
    rw [d1] at c1;rw [d2] at c2;rw [d3] at c3
    cases hsg2:zbt s (j+1) with
    | none =>
     rw [hsg2] at q4
     obtain ⟨rfl,k,rfl⟩:=q4
     have e2:zcC s i= .er 0 3:=by simp [zcC,hcl,hsg,d1,d2,d3,hsg2]
     rw [e2,zfI,hz]
     simp [a125,a125r0,a125r1,a125p2,a125r3,a125r4,a125r5,a125r6,a125r7,a125r8,a125r9,ze6,ze5,ze4,ze3,ze2,ze1,ze0,zeZ,zeY,zeX,zeW,zeV,zad hs,zaa hs,zai hs,zab hs,zac hs,h',hc,q1,c1,c2,c3,hR',hwj,hb,hrl,q3,zae]
     exact ⟨k,rfl⟩
    | some q =>
     obtain ⟨b,k⟩:=q
     rw [hsg2] at q4
     obtain ⟨rfl,rfl⟩:=q4
     by_cases hba:b<a
     ·have hba':(b.toNat:Int)<(a.toNat:Int):=by rw [UInt8.lt_iff_toNat_lt] at hba;omega
      have e2:zcC s i= .er 0 4:=by simp [zcC,hcl,hsg,d1,d2,d3,hsg2,hba]
      rw [e2,zfI,hz]
      simp [a125,a125r0,a125r1,a125p2,a125r3,a125r4,a125r5,a125r6,a125r7,a125r8,a125r9,ze6,ze5,ze4,ze3,ze2,ze1,ze0,zeZ,zeY,zeX,zeW,zeV,zad hs,zaa hs,zai hs,zab hs,zac hs,h',hc,q1,c1,c2,c3,hR',hwj,hb,hrl,q3,zae,hba']
      exact ⟨k,rfl⟩
     ·have hba': ¬ (b.toNat:Int)<(a.toNat:Int):=by rw [UInt8.lt_iff_toNat_lt] at hba;omega
      have e2:zcC s i= .ok (zak a b) k:=by simp [zcC,hcl,hsg,d1,d2,d3,hsg2,hba]
      rw [e2,itemOut_ok,zcI]
      simp [a125,a125r0,a125r1,a125p2,a125r3,a125r4,a125r5,a125r6,a125r7,a125r8,a125r9,ze6,ze5,ze4,ze3,ze2,ze1,ze0,zeZ,zeY,zeX,zeW,zeV,zad hs,zaa hs,zai hs,zab hs,zac hs,h',hc,q1,c1,c2,c3,hR',hwj,hb,hrl,q3,zae,hba',hadd']
   ·have e2:zcC s i= .ok (zak a a) j:=by
     simp only [zcC,hcl,hsg,Bool.false_eq_true,if_false]
     rw [if_neg hcond]
    rw [e2,itemOut_ok,zcI]
    cases d1:comes s j [45] with
    | false =>
     rw [d1] at c1
     simp [a125,a125r0,a125r1,a125p2,a125r3,a125r4,a125r5,a125r6,a125r7,a125r8,a125r9,ze6,ze5,ze4,ze3,ze2,ze1,ze0,zeZ,zeY,zeX,zeW,zeV,zad hs,zaa hs,zai hs,zab hs,zac hs,h',hc,q1,c1,hadd']
    | true =>
     rw [d1] at c1
     cases d2:comes s j [45,93] with
     | true =>
      rw [d2] at c2
      simp [a125,a125r0,a125r1,a125p2,a125r3,a125r4,a125r5,a125r6,a125r7,a125r8,a125r9,ze6,ze5,ze4,ze3,ze2,ze1,ze0,zeZ,zeY,zeX,zeW,zeV,zad hs,zaa hs,zai hs,zab hs,zac hs,h',hc,q1,c1,c2,hadd']
     | false =>
      rw [d2] at c2
      cases d3:comes s j [45,91,58] with
      | true =>
       rw [d3] at c3
       simp [a125,a125r0,a125r1,a125p2,a125r3,a125r4,a125r5,a125r6,a125r7,a125r8,a125r9,ze6,ze5,ze4,ze3,ze2,ze1,ze0,zeZ,zeY,zeX,zeW,zeV,zad hs,zaa hs,zai hs,zab hs,zac hs,h',hc,q1,c1,c2,c3,hadd']
      | false=>exact absurd ⟨d1,by simp [d2],by simp [d3]⟩ hcond

end

section

/-- How the items' loop ends. -/
def ItemsOut (s:List UInt8) (v:Nat→AV) (x:PR (Nat→Bool)) (e:AExit) (t:EH):Prop :=
 match x with
 | .er _ w=>e= .ret∧ ∃ v' K,t=(mkE 2342153315636223987 v',K)∧v' 4= .box (zbX noB)∧v' 5=num 0∧v' 6=num w
 | .ok p j=>e= .exit 0∧ ∃ v',t=(mkE 2342153315636223987 v',[some [.str s,num j]])∧v' 9= .box (zbX p)∧v' 4=v 4∧v' 7=v 7∧v' 8=v 8

theorem itemsOut_er (s:List UInt8) (v:Nat→AV) (a w:Nat):ItemsOut s v (.er a w)=fun e t=>e= .ret∧ ∃ v' K,t=(mkE 2342153315636223987 v',K)∧v' 4= .box (zbX noB)∧v' 5=num 0∧v' 6=num w:=rfl
theorem itemsOut_ok (s:List UInt8) (v:Nat→AV) (p:Nat→Bool) (j:Nat):ItemsOut s v (.ok p j)=fun e t=>e= .exit 0∧ ∃ v',t=(mkE 2342153315636223987 v',[some [.str s,num j]])∧v' 9= .box (zbX p)∧v' 4=v 4∧v' 7=v 7∧v' 8=v 8:=rfl

theorem ItemsOut.of_eq {s:List UInt8} {v w:Nat→AV} {x:PR (Nat→Bool)} {e:AExit} {t:EH} (h:ItemsOut s v x e t) (h4:v 4=w 4) (h7:v 7=w 7) (h8:v 8=w 8):ItemsOut s w x e t:=by
 cases x with
 | er a b=>exact h
 | ok p j =>
  obtain ⟨h1,v',h2,h3,k4,k7,k8⟩:=h
  exact ⟨h1,v',h2,h3,k4.trans h4,k7.trans h7,k8.trans h8⟩

theorem items_loop {s:List UInt8} (hl:s.length≤10000): ∀ (n i:Nat) (first:Bool) (p:Nat→Bool) (v:Nat→AV),i≤s.length→s.length<n+i→v 4= .box (zbX noB)→v 7= .ptr 0 0→v 9= .box (zbX p)→v 10= .bool first →
  Wp (evI fsT SA.sp 0 (.loop a114l15) (mkE 2342153315636223987 v,[some [.str s,num i]])) (ItemsOut s v (zdz s n first p i)):=by
 have hs:=SA.mono
 intro n
 induction n with
 | zero=>intro i first p v h1 h2;omega
 | succ n ih =>
  intro i first p v h1 h2 v4 v7 v9 v10
  have hR:Rd [some [.str s,num i]] 0 s i:=rfl
  have hc:=zeR (bar:=0) hR h1 [93]
  have hz:([.int .u64 0, .int .u64 0, .int .u64 0, .int .u64 0]:List AV)=zbX noB:=rfl
  rw [zah hs a114l15.eq_1]
  by_cases hend:first=false∧comes s i [93]=true
  ·obtain ⟨rfl,he⟩:=hend
   have e1:zdz s (n+1) false p i= .ok p i:=by simp [zdz,he]
   rw [he] at hc
   rw [e1,itemsOut_ok]
   simp [zad hs,zaa hs,zab hs,zac hs,a114r9,v4,v7,v9,v10,hc]
   exact ⟨_,rfl,by simp [v9],by simp [v4],by simp [v7],by simp⟩
  ·have e0:zdz s (n+1) first p i=match zcC s i with
     | .er a w=> .er a w
     | .ok q j=>zdz s n false (orB p q) j:=by
    rw [zdz,if_neg (by simpa using hend)]
    cases zcC s i<;>rfl
   have hgo:first=true∨(first=false∧comes s i [93]=false):=by
    cases first with
    | true=>exact .inl rfl
    | false=>exact .inr ⟨rfl,by simpa using hend⟩
   obtain ⟨o,K,q1,q2⟩:=item_run (bar:=0) hR h1 (Nat.le_refl _) hl
   have hp:=itemF_place (s:=s) i
   rw [e0]
   cases hit:zcC s i with
   | er a w =>
    rw [hit] at q2 hp
    obtain ⟨rfl,j,rfl⟩:=q2
    rw [itemsOut_er]
    rw [zfa] at q1
    have h4: ∀ p:Nat→Bool,List.take 4 (zbX p)=zbX p:=fun p=>rfl
    have c1: ∀ q:Nat→Bool,setCells [.int .u64 0, .int .u64 0, .int .u64 0, .int .u64 0] 0 (zbX q)=zbX q:=fun q=>rfl
    have c2: ∀ p q:Nat→Bool,setCells (zbX p) 0 (zbX q)=zbX q:=fun p q=>rfl
    rcases hp with rfl | rfl | rfl
    all_goals
     simp only [num,Int.cast_ofNat_Int] at q1
     rcases hgo with rfl | ⟨rfl,he⟩
     ·simp [zad hs,zaa hs,zab hs,zac hs,a114r9,a114r10,a114r11,a114r12,a114r13,a114r14,v4,v7,v9,v10,q1,zbw,h4,c1,c2]
      exact ⟨_,rfl,by simp;rfl,by simp,by simp⟩
     ·rw [he] at hc
      simp [zad hs,zaa hs,zab hs,zac hs,a114r9,a114r10,a114r11,a114r12,a114r13,a114r14,v4,v7,v9,v10,q1,hc,zbw,h4,c1,c2]
      exact ⟨_,rfl,by simp;rfl,by simp,by simp⟩
   | ok q j =>
    rw [hit] at q2 hp
    obtain ⟨rfl,rfl⟩:=q2
    simp only [PR.sat] at hp
    have hun:=union_run (bar:=0) (H:= [some [.str s,num j]]) p q
    rw [zfa,zfa,zfa] at hun
    rw [zfa] at q1
    have h4: ∀ p:Nat→Bool,List.take 4 (zbX p)=zbX p:=fun p=>rfl
    have c1: ∀ q:Nat→Bool,setCells [.int .u64 0, .int .u64 0, .int .u64 0, .int .u64 0] 0 (zbX q)=zbX q:=fun q=>rfl
    have c2: ∀ p q:Nat→Bool,setCells (zbX p) 0 (zbX q)=zbX q:=fun p q=>rfl
    have fin: ∀ (w:Nat→AV),w 4=v 4→w 7=v 7→w 8=v 8→w 9= .box (zbX (orB p q))→w 10= .bool false→Wp (evI fsT SA.sp 0 (.loop a114l15) (mkE 2342153315636223987 w,[some [.str s,num j]])) (ItemsOut s v (zdz s n false (orB p q) j)):=fun w w4 w7 w8 w9 w10 =>
     (ih j false (orB p q) w hp.2 (by omega) (by rw [w4,v4]) (by rw [w7,v7]) w9 w10).mono fun e t h=>h.of_eq w4 w7 w8
    rcases hgo with rfl | ⟨rfl,he⟩
    ·simp [zad hs,zaa hs,zab hs,zac hs,a114r9,a114r10,a114r11,a114r12,a114r13,a114r14,v4,v7,v9,v10,q1,hun,zbw,h4,c1,c2]
     refine fin _ ?_ ?_ ?_ ?_ ?_<;>simp
    ·rw [he] at hc
     simp [zad hs,zaa hs,zab hs,zac hs,a114r9,a114r10,a114r11,a114r12,a114r13,a114r14,v4,v7,v9,v10,q1,hun,hc,zbw,h4,c1,c2]
     refine fin _ ?_ ?_ ?_ ?_ ?_<;>simp

/-- A bracket expression is read. -/
def zc0 (x:PR (Nat→Bool)):AV :=
 match x with
 | .er _ w=> .tup [zfa noB,num 0,num w]
 | .ok p j=> .tup [zfa p,num j,num 0]

theorem bracket_run {bar:Nat} {H:Heap} {s:List UInt8} {i:Nat} (hl:s.length≤10000) (hc:s[i]? = some 91):Rn fsT SA.sp bar 114 [.str s,num i] H=some (.ret (zc0 (brackF s i)),H):=by
 have hs:=SA.mono
 have hlt:=zaT hc
 have h1: ¬ ((i:Int)<0):=by omega
 have h2: ¬ ((s.length:Int)≤(i:Int)):=by omega
 have hw:IntKind.i64.wrap ((i:Int)+1)=(i:Int)+1:=zaj _ (by omega)
 have hw2:IntKind.i64.wrap ((i:Int)+1+1)=(i:Int)+1+1:=zaj _ (by omega)
 have hR:Rd [some [.str s,num (i+1)]] 0 s (i+1):=rfl
 have hcm:=zeR (bar:=0) hR (by omega) [94]
 have hz:([.int .u64 0, .int .u64 0, .int .u64 0, .int .u64 0]:List AV)=zbX noB:=rfl
 have hn1:num (i+1)= .int .i64 ((i:Int)+1):=rfl
 have hn2:num (i+2)= .int .i64 ((i:Int)+1+1):=by simp [num];omega
 have h4: ∀ p:Nat→Bool,List.take 4 (zbX p)=zbX p:=fun p=>rfl
 have c1: ∀ q:Nat→Bool,setCells [.int .u64 0, .int .u64 0, .int .u64 0, .int .u64 0] 0 (zbX q)=zbX q:=fun q=>rfl
 have c2: ∀ p q:Nat→Bool,setCells (zbX p) 0 (zbX q)=zbX q:=fun p q=>rfl
 have hnot:=fun p H=>not_run (bar:=0) (H:=H) p
 simp only [zfa] at hnot
 have frzC: ∀ (p:Nat→Bool) H,zbG 0 H (zbX p)=some (zbX p):=fun p H=>by simp [setC_eq,frz,zbG]
 -- behind the loop
 have after: ∀ (x:PR (Nat→Bool)) (other:Bool) (v:Nat→AV) (e:AExit) (t:EH),v 4= .box (zbX noB)→v 7= .ptr 0 0→v 8= .bool other→(∀ p j,x= .ok p j→j≤s.length)→ItemsOut s v x e t →
   outOf 0 (andThen (evI fsT SA.sp 0 (((ACode.region a114r16).seq (ACode.cond true (.v 61) (.region a114r17) .skip)).seq ((ACode.draw a114p18).seq .ret))) (fin [.cell 4 (some 4), .tmp 5, .tmp 6] (thaw 0 (· = .ret (zc0 (match x with | .er a w=> .er a w | .ok p j=> .ok (bif other then notB p else p) (j+1))))))) e t:=by
  intro x other v e t v4 v7 v8 hj h
  cases x with
  | er a w =>
   obtain ⟨rfl,v',K,rfl,k4,k5,k6⟩:=h
   simp [k4,k5,k6,zbw,h4,zc0,zfa,frz,zbG,frzC]
  | ok p j =>
   obtain ⟨rfl,v',rfl,k9,k4,k7,k8⟩:=h
   rw [v4] at k4;rw [v7] at k7;rw [v8] at k8
   have hj:=hj p j rfl
   have hwj:IntKind.i64.wrap ((j:Int)+1)=(j:Int)+1:=zaj _ (by omega)
   cases other<;>simp [a114r16,a114r17,a114p18,zad hs,zaa hs,zai hs,zab hs,zac hs,zaE,k4,k7,k8,k9,zbw,h4,c1,c2,hnot,zc0,zfa,frz,zbG,frzC,hwj,zav,zaw]
 refine zao hs fsT_114 rfl rfl rfl ?_
 rw [env114]
 have hit:=fun first p i h1 h2=>zfe (s:=s) (s.length+1) first p i h1 h2
 unfold brackF
 cases hcc:comes s (i+1) [94] with
 | true =>
  rw [hcc] at hcm
  have hlen:=comes_len hcc (by simp)
  simp only [List.length_cons,List.length_nil] at hlen
  rw [hn1] at hcm
  simp [a114,a114r0,a114r1,a114r2,a114r3,a114r4,a114r5,a114r6,a114r7,a114r8,zad hs,zaa hs,zai hs,zab hs,zac hs,h1,h2,hc,hw,hw2,hcm,hz]
  rw [←hn2]
  refine (items_loop hl (s.length+1) (i+2) true noB _ (by omega) (by omega) ?_ ?_ ?_ ?_).mono fun e t h=> ?_
  ·simp
  ·simp
  ·simp
  ·simp
  ·have hq:=hit true noB (i+2) (by omega) (by omega)
   refine after _ true _ e t ?_ ?_ ?_ (fun p j e=> ?_) h
   ·simp
   ·simp
   ·simp
   ·rw [e] at hq;simp only [PR.sat] at hq;omega
 | false =>
  rw [hcc] at hcm
  rw [hn1] at hcm
  simp [a114,a114r0,a114r1,a114r2,a114r3,a114r4,a114r5,a114r6,a114r7,a114r8,zad hs,zaa hs,zai hs,zab hs,zac hs,h1,h2,hc,hw,hw2,hcm,hz]
  rw [←hn1]
  refine (items_loop hl (s.length+1) (i+1) true noB _ (by omega) (by omega) ?_ ?_ ?_ ?_).mono fun e t h=> ?_
  ·simp
  ·simp
  ·simp
  ·simp
  ·have hq:=hit true noB (i+1) (by omega) (by omega)
   refine after _ false _ e t ?_ ?_ ?_ (fun p j e=> ?_) h
   ·simp
   ·simp
   ·simp
   ·rw [e] at hq;simp only [PR.sat] at hq;omega

end

end Go.Ak

