/- What the program's class reader computes. -/
import Derived.Test.YtfcgnpphabplbaaGreatDoorZk
import Derived.Test.YtfcgnpphabplbaaGreatDoorZl
import Derived.Test.YtfcgnpphabplbaaGreatDoorZd
set_option linter.unusedVariables false
set_option linter.unusedSimpArgs false
namespace Go.Ak
attribute [local simp] zbI zc2 zc3 zey zbd zcH zaD zaW zaN zaX zbc zbt zbu za6 zbY zcZ zc0 zbP zbQ
 zaL zcL wanted zbh opd zi2 live zbS zcM zbk zbO zgZ put zdv esc znn zpZ args drop1 zf8 zpW zqn zpY zmb rd wr zbD sub AV.cells pack one setCells zek zlL zcO roOf zaK zeJ zav zat zdr zbi newRow newObj step zbU zbv contents take flat look lim zdV bound zdg zdy eqS eqL eqA ver
 zbX zcY zcX zbV zbW
 List.getElem?_cons_zero List.getElem?_cons_succ zcW zba zaA zaB zbT
attribute [local simp] sR sT cV bL mvV mvL mgV mgL asL asI asB ldN ldV ldL ldG stV stL fdL fdV fdG fgL nlC nlG bnI bvI bnL bvL bxI bxU bgI bgL exT lnS lgS clA clB clC clI pkT pkF pvT pvF pgT pgF ixL axV bxV apL
attribute [-simp] getElem?_pos
section
def zbR (p:Nat→Bool):List AV:=(zC4 p).map u64
theorem zg3 (p:Nat→Bool):zbR p= [u64 (zaJ p 0 64),u64 (zaJ p 1 64),u64 (zaJ p 2 64),u64 (zaJ p 3 64)]:=rfl
theorem zbw (p:Nat→Bool):(zbR p).length=4:=rfl
theorem zEW (p:Nat→Bool) {i:Nat} (h:i<4):((zbR p).drop i).take 1= [u64 (zaJ p i 64)]:=by
 rcases i with _ | _ | _ | _ | i
 ·rfl
 ·rfl
 ·rfl
 ·rfl
 ·omega
theorem zAQ (p:Nat→Bool) {c:Nat} (hc:c<256):(zbR p).set (c/64) (u64 (zaJ p (c/64) 64 ||| 2^(c%64)))=zbR (fun x=>p x||decide (x=c)):=by
 unfold zbR
 rw [←zAP p hc,List.map_set]
theorem zoE {n:Nat} (h:n<2^64):((n:Int)%2^IntKind.u64.bits).toNat=n:=by
 have h1:(2:Int)^IntKind.u64.bits=18446744073709551616:=by decide
 have h2:2^64=18446744073709551616:=by decide
 rw [h1];omega
theorem znx {n:Nat} (h:n<2^64):IntKind.u64.wrap (n:Int)=n:=by
 have h1:(2:Int)^64=18446744073709551616:=by decide
 have h2:2^64=18446744073709551616:=by decide
 simp only [IntKind.wrap,IntKind.bits,IntKind.signed,h1,Bool.false_and,Bool.false_eq_true,if_false]
 omega
theorem u64_or {a b:Nat} (ha:a<2^64) (hb:b<2^64):IntKind.u64.wrap (((((a:Int)%2^IntKind.u64.bits).toNat ||| ((b:Int)%2^IntKind.u64.bits).toNat:Nat)):Int)=((a ||| b:Nat):Int):=by
 rw [zoE ha,zoE hb]
 exact znx (Nat.or_lt_two_pow ha hb)
theorem zoF {n:Nat} (h:n<2^64):n%2^IntKind.u64.bits=n:=Nat.mod_eq_of_lt h
theorem zEU {a k:Nat} (ha:a<2^64) (hk:k<64):IntKind.u64.wrap ((a%2^IntKind.u64.bits ||| ((2:Int)^k%2^IntKind.u64.bits).toNat:Nat):Int)=((a ||| 2^k:Nat):Int):=by
 have h:=u64_or ha (Nat.pow_lt_pow_right (a:=2) (by omega) hk)
 rw [zoE ha,show (((2^k:Nat)):Int)=(2:Int)^k by simp] at h
 rw [zoF ha];exact h
theorem zBT {bar:Nat} {H:Heap} {b:UInt8}: ∀ (n c:Nat) (p:Nat→Bool) (v:Nat→AV),c+n=b.toNat+1→v 2= .int .u8 b.toNat→v 3= .box (zbR p)→v 7=num c →
  Wp (evI fsT SA.sp bar (.loop a136l5) (mkE 8399 v,H)) (fun e t=>e= .exit 0∧ ∃ v' q,t=(mkE 8399 v',H)∧v' 3= .box (zbR q)∧v' 6=v 6∧ ∀ x,q x=(p x||(decide (c≤x)&&decide (x≤b.toNat)))):=by
 have hs:=SA.mono
 intro n
 induction n with
 | zero =>
  intro c p v hi v2 v3 v7
  have hb:=b.toNat_lt
  have hw:IntKind.i64.wrap (b.toNat:Int)=b.toNat:=zaj _ (by omega)
  have hgt: ¬ ((c:Int)≤(b.toNat:Int)):=by omega
  rw [zah hs a136l5.eq_1]
  simp [zad hs,zaa hs,zab hs,zac hs,zu6,v2,v7,hgt,hw]
  refine ⟨_,rfl,p,by simp [v3],by simp,fun x=> ?_⟩
  by_cases h1:c≤x<;>by_cases h2:x≤b.toNat<;>simp [h1,h2]<;>omega
 | succ n ih =>
  intro c p v hi v2 v3 v7
  have hb:=b.toNat_lt
  have hw:IntKind.i64.wrap (b.toNat:Int)=b.toNat:=zaj _ (by omega)
  have hle:((c:Int)≤(b.toNat:Int)):=by omega
  have hq2:IntKind.i64.wrap ((c:Int)/64)=(c:Int)/64:=zaj _ (by omega)
  have hq0:0≤(c:Int)/64:=by omega
  have hqt:((c:Int)/64).toNat=c/64:=by omega
  have hr0: ¬ ((c:Int)%64<0):=by omega
  have hrt:((c:Int)%64).toNat=c%64:=by omega
  have hm:min (c%64) IntKind.u64.bits=c%64:=Nat.min_eq_left (by show c%64≤64;omega)
  have hr:(c:Int).tmod 64=(c:Int)%64:=Int.tmod_eq_emod_of_nonneg (by omega)
  have hpw:IntKind.u64.wrap (2^(c%64))=(2:Int)^(c%64):=by rw [zES _ (by omega)];simp
  have hor:=zEU (a:=zaJ p (c/64) 64) (k:=c%64) (zez p _ _) (by omega)
  have hset:=zAQ p (c:=c) (by omega)
  have hq4:c/64<4:=by omega
  have hq5:c/64+1≤4:=by omega
  have hw1:IntKind.i64.wrap ((c:Int)+1)=(c:Int)+1:=zaj _ (by omega)
  have hat:=zEW p hq4
  rw [zah hs a136l5.eq_1]
  simp [zad hs,zaa hs,zab hs,zac hs,zai hs,zu6,zD6,zD3,v2,v3,v7,hle,hw,hw1,hq2,hq0,hqt,hr,hr0,hrt,hm,hor,hset,hpw,hq4,hq5,hat,zbw]
  refine (ih (c+1) (fun x=>p x||decide (x=c)) _ (by omega) ?_ ?_ ?_).mono fun e t h=> ?_
  ·simp [v2]
  ·simp
  ·simp
  ·obtain ⟨rfl,v',q,rfl,h3,h6,hq⟩:=h
   refine ⟨rfl,v',rfl,q,h3,by simpa using h6,fun x=> ?_⟩
   rw [hq x]
   by_cases e:x=c
   ·subst e
    have:x≤b.toNat:=by omega
    simp [this]
   ·have:c+1≤x↔c≤x:=by omega
    simp [e,this]
def ze5 (p:Nat→Bool):AV:= .agg (zbR p)
theorem zF2 (n:Nat) (H:Heap) (p:Nat→Bool):frz n H (ze5 p)=some (ze5 p):=by simp [ze5,zg3,frz,zbj]
theorem zkg {bar:Nat} {H:Heap} (p:Nat→Bool) (a b:UInt8):Rn fsT SA.sp bar 136 [ze5 p, .int .u8 a.toNat, .int .u8 b.toNat] H=some (.ret (ze5 (orB p (zal a b))),H):=by
 have hs:=SA.mono
 have ha:=a.toNat_lt
 have hw:IntKind.i64.wrap (a.toNat:Int)=a.toNat:=zaj _ (by omega)
 refine zao hs zFB rfl rfl rfl ?_
 rw [zI6]
 simp [a136,zD5,zD4,zad hs,zaa hs,zab hs,hw,ze5]
 by_cases hle:a.toNat≤b.toNat
 ·refine (zBT (bar:=0) (b:=b) (b.toNat+1-a.toNat) a.toNat p _ (by omega) ?_ ?_ ?_).mono fun e t h=> ?_
  ·simp
  ·simp
  ·simp
  ·obtain ⟨rfl,v',q,rfl,h3,h6,hq⟩:=h
   have e1:zbR q=zbR (orB p (zal a b)):=by
    have:q=orB p (zal a b):=funext fun x=>by rw [hq x];rfl
    rw [this]
   simp at h6
   have h4:List.take 4 (zbR (orB p (zal a b)))=zbR (orB p (zal a b)):=rfl
   simp [zzz,zad hs,zaa hs,h3,h6,zbw,e1]
   simp [zg3,frz,zbj]
 ·have hgt: ¬ ((a.toNat:Int)≤(b.toNat:Int)):=by omega
  have hb:=b.toNat_lt
  have hwb:IntKind.i64.wrap (b.toNat:Int)=b.toNat:=zaj _ (by omega)
  have e1:orB p (zal a b)=p:=funext fun x=>by
   by_cases h1:a.toNat≤x<;>by_cases h2:x≤b.toNat<;>simp [orB,zal,h1,h2]<;>omega
  rw [zah hs a136l5.eq_1]
  simp [zad hs,zaa hs,zab hs,zac hs,zu6,zzz,hgt,hwb,zbw,e1]
  simp [zg3,frz,zbj]
end
section
theorem zET {a b:Nat} (ha:a<2^64) (hb:b<2^64):IntKind.u64.wrap ((a%2^IntKind.u64.bits ||| b%2^IntKind.u64.bits:Nat):Int)=((a ||| b:Nat):Int):=by
 rw [zoF ha,zoF hb];exact znx (Nat.or_lt_two_pow ha hb)
theorem zcF (p:Nat→Bool):ze5 p= .agg [u64 (zaJ p 0 64),u64 (zaJ p 1 64),u64 (zaJ p 2 64),u64 (zaJ p 3 64)]:=rfl
theorem zwI {bar:Nat} {H:Heap} (p q:Nat→Bool):Rn fsT SA.sp bar 126 [ze5 p,ze5 q] H=some (.ret (ze5 (orB p q)),H):=by
 have hs:=SA.mono
 have o: ∀ i,IntKind.u64.wrap ((zaJ p i 64%2^IntKind.u64.bits ||| zaJ q i 64%2^IntKind.u64.bits:Nat):Int)=(zaJ (orB p q) i 64:Int):=fun i=>by
  rw [zET (zez p i 64) (zez q i 64),zAB]
 have w1:IntKind.i64.wrap 1=1:=by decide
 have w2:IntKind.i64.wrap 2=2:=by decide
 have w3:IntKind.i64.wrap 3=3:=by decide
 have w4:IntKind.i64.wrap 4=4:=by decide
 refine zao hs zFH rfl rfl rfl ?_
 rw [zJc]
 simp [a126,zEn,zEm,zad hs,zaa hs,zab hs,zcF]
 rw [zah hs a126l6.eq_1]
 simp [zad hs,zaa hs,zab hs,zac hs,zai hs,zoy,zox,zoz,zow,o,w1]
 rw [zah hs a126l6.eq_1]
 simp [zad hs,zaa hs,zab hs,zac hs,zai hs,zoy,zox,zoz,zow,o,w2]
 rw [zah hs a126l6.eq_1]
 simp [zad hs,zaa hs,zab hs,zac hs,zai hs,zoy,zox,zoz,zow,o,w3]
 rw [zah hs a126l6.eq_1]
 simp [zad hs,zaa hs,zab hs,zac hs,zai hs,zoy,zox,zoz,zow,o,w4]
 rw [zah hs a126l6.eq_1]
 simp [zad hs,zaa hs,zab hs,zac hs,zai hs,zoy,zox,zoz,zow,zEl,frz,zbj]
theorem zxB {bar:Nat} {H:Heap} (p:Nat→Bool):Rn fsT SA.sp bar 127 [ze5 p] H=some (.ret (ze5 (zql p)),H):=by
 have hs:=SA.mono
 have o: ∀ i,IntKind.u64.wrap ((((bif IntKind.u64.signed then -1 else IntKind.u64.max)%2^IntKind.u64.bits).toNat ^^^ zaJ p i 64%2^IntKind.u64.bits:Nat):Int)=(zaJ (zql p) i 64:Int):=fun i=>by
  rw [zoF (zez p i 64)]
  have e:((bif IntKind.u64.signed then -1 else IntKind.u64.max)%2^IntKind.u64.bits:Int).toNat=2^64-1:=by decide
  have e2:(2^64-1) ^^^ zaJ p i 64=zaJ (zql p) i 64:=by
   apply Nat.eq_of_testBit_eq
   intro j
   rw [Nat.testBit_xor,Nat.testBit_two_pow_sub_one,za3,za3]
   by_cases hj:j<64<;>simp [hj,zql]
  rw [e,e2]
  exact znx (zez _ _ _)
 have w1:IntKind.i64.wrap 1=1:=by decide
 have w2:IntKind.i64.wrap 2=2:=by decide
 have w3:IntKind.i64.wrap 3=3:=by decide
 have w4:IntKind.i64.wrap 4=4:=by decide
 refine zao hs zFG rfl rfl rfl ?_
 rw [zJb]
 simp [a127,zEk,zEj,zad hs,zaa hs,zab hs,zcF]
 rw [zah hs a127l6.eq_1]
 simp [zad hs,zaa hs,zab hs,zac hs,zai hs,zov,zou,zot,zos,w1,o]
 rw [zah hs a127l6.eq_1]
 simp [zad hs,zaa hs,zab hs,zac hs,zai hs,zov,zou,zot,zos,w2,o]
 rw [zah hs a127l6.eq_1]
 simp [zad hs,zaa hs,zab hs,zac hs,zai hs,zov,zou,zot,zos,w3,o]
 rw [zah hs a127l6.eq_1]
 simp [zad hs,zaa hs,zab hs,zac hs,zai hs,zov,zou,zot,zos,w4,o]
 rw [zah hs a127l6.eq_1]
 simp [zad hs,zaa hs,zab hs,zac hs,zai hs,zov,zou,zot,zos,zEi,frz,zbj]
theorem zHF {bar:Nat} {H:Heap} (p:Nat→Bool) (a b:UInt8):Rn fsT SA.sp bar 128 [ze5 p, .int .u8 a.toNat, .int .u8 b.toNat] H=some (.ret (ze5 (orB p (zal a b))),H):=by
 have hs:=SA.mono
 have h:=zkg (bar:=0) (H:= []) p a b
 rw [zcF,zcF] at h ⊢
 refine zao hs zFF rfl rfl rfl ?_
 rw [zJa]
 simp [a128,zEh,zEg,zad hs,zaa hs,h,frz,zbj]
theorem zHB {bar:Nat} {H:Heap} (p:Nat→Bool):Rn fsT SA.sp bar 115 [ze5 p] H=some (.ret (ze5 (zql p)),H):=by
 have hs:=SA.mono
 have h:=zxB (bar:=0) (H:= []) p
 rw [zcF,zcF] at h ⊢
 refine zao hs zFQ rfl rfl rfl ?_
 rw [zJl]
 simp [a115,zEz,zEy,zad hs,zaa hs,h,frz,zbj]
theorem ziy (name:List UInt8):zaM name =
 if name= [97,108,112,104,97] then [65,90,97,122]
 else if name= [100,105,103,105,116] then [48,57]
 else if name= [97,108,110,117,109] then [48,57,65,90,97,122]
 else if name= [117,112,112,101,114] then [65,90]
 else if name= [108,111,119,101,114] then [97,122]
 else if name= [115,112,97,99,101] then [9,13,32,32]
 else if name= [98,108,97,110,107] then [9,9,32,32]
 else if name= [112,117,110,99,116] then [33,47,58,64,91,96,123,126]
 else if name= [112,114,105,110,116] then [32,126]
 else if name= [103,114,97,112,104] then [33,126]
 else if name= [99,110,116,114,108] then [0,31,127,127]
 else if name= [120,100,105,103,105,116] then [48,57,65,70,97,102]
 else []:=rfl
theorem zpm: ∀ (a b:List UInt8),zlw a b=decide (a=b)
 | [],[]=>rfl
 | [],_::_=>rfl
 | _::_,[]=>rfl
 | a::x,b::y=>by
  have ih:=zpm x y
  simp only [zlw,zf8,ih]
  by_cases h:a=b
  ·subst h;simp
  ·have h2: ¬ a.toNat=b.toNat:=fun e=>h (UInt8.toNat_inj.1 e)
   simp [h,h2]
theorem zbe (a b:List UInt8):zpX .eql a b=some (.bool (decide (a=b))):=by rw [←zpm];rfl
theorem zvB {bar:Nat} {H:Heap} (name:List UInt8):Rn fsT SA.sp bar 138 [.str name] H=some (.ret (.str (zaM name)),H):=by
 have hs:=SA.mono
 refine zao hs zFz rfl rfl rfl ?_
 rw [zI4,ziy]
 simp only [a138]
 by_cases h1:name= [97,108,112,104,97]
 ·simp [zfm,zfl,zfk,zfj,zad hs,zaa hs,zab hs,zac hs,zbe,h1]
 by_cases h2:name= [100,105,103,105,116]
 ·simp [zfm,zfl,zfk,zfj,zfQ,zfP,zad hs,zaa hs,zab hs,zac hs,zbe,h1,h2]
 by_cases h3:name= [97,108,110,117,109]
 ·simp [zfm,zfl,zfk,zfj,zfQ,zfP,zgR,zgQ,zad hs,zaa hs,zab hs,zac hs,zbe,h1,h2,h3]
 by_cases h4:name= [117,112,112,101,114]
 ·simp [zfm,zfl,zfk,zfj,zfQ,zfP,zgR,zgQ,zhC,zhB,zad hs,zaa hs,zab hs,zac hs,zbe,h1,h2,h3,h4]
 by_cases h5:name= [108,111,119,101,114]
 ·simp [zfm,zfl,zfk,zfj,zfQ,zfP,zgR,zgQ,zhC,zhB,zfv,zfu,zad hs,zaa hs,zab hs,zac hs,zbe,h1,h2,h3,h4,h5]
 by_cases h6:name= [115,112,97,99,101]
 ·simp [zfm,zfl,zfk,zfj,zfQ,zfP,zgR,zgQ,zhC,zhB,zfv,zfu,zgk,zgj,zad hs,zaa hs,zab hs,zac hs,zbe,h1,h2,h3,h4,h5,h6]
 by_cases h7:name= [98,108,97,110,107]
 ·simp [zfm,zfl,zfk,zfj,zfQ,zfP,zgR,zgQ,zhC,zhB,zfv,zfu,zgk,zgj,zhE,zhD,zad hs,zaa hs,zab hs,zac hs,zbe,h1,h2,h3,h4,h5,h6,h7]
 by_cases h8:name= [112,117,110,99,116]
 ·simp [zfm,zfl,zfk,zfj,zfQ,zfP,zgR,zgQ,zhC,zhB,zfv,zfu,zgk,zgj,zhE,zhD,ziP,ziO,zad hs,zaa hs,zab hs,zac hs,zbe,h1,h2,h3,h4,h5,h6,h7,h8]
 by_cases h9:name= [112,114,105,110,116]
 ·simp [zfm,zfl,zfk,zfj,zfQ,zfP,zgR,zgQ,zhC,zhB,zfv,zfu,zgk,zgj,zhE,zhD,ziP,ziO,zkJ,zkI,zad hs,zaa hs,zab hs,zac hs,zbe,h1,h2,h3,h4,h5,h6,h7,h8,h9]
 by_cases h10:name= [103,114,97,112,104]
 ·simp [zfm,zfl,zfk,zfj,zfQ,zfP,zgR,zgQ,zhC,zhB,zfv,zfu,zgk,zgj,zhE,zhD,ziP,ziO,zkJ,zkI,zmE,zmD,zad hs,zaa hs,zab hs,zac hs,zbe,h1,h2,h3,h4,h5,h6,h7,h8,h9,h10]
 by_cases h11:name= [99,110,116,114,108]
 ·simp [zfm,zfl,zfk,zfj,zfQ,zfP,zgR,zgQ,zhC,zhB,zfv,zfu,zgk,zgj,zhE,zhD,ziP,ziO,zkJ,zkI,zmE,zmD,zpJ,zpI,zad hs,zaa hs,zab hs,zac hs,zbe,h1,h2,h3,h4,h5,h6,h7,h8,h9,h10,h11]
 by_cases h12:name= [120,100,105,103,105,116]
 ·simp [zfm,zfl,zfk,zfj,zfQ,zfP,zgR,zgQ,zhC,zhB,zfv,zfu,zgk,zgj,zhE,zhD,ziP,ziO,zkJ,zkI,zmE,zmD,zpJ,zpI,ztA,ztz,zad hs,zaa hs,zab hs,zac hs,zbe,h1,h2,h3,h4,h5,h6,h7,h8,h9,h10,h11,h12]
 simp [zfm,zfl,zfk,zfj,zfQ,zfP,zgR,zgQ,zhC,zhB,zfv,zfu,zgk,zgj,zhE,zhD,ziP,ziO,zkJ,zkI,zmE,zmD,zpJ,zpI,ztA,ztz,zzw,zad hs,zaa hs,zab hs,zac hs,zbe,h1,h2,h3,h4,h5,h6,h7,h8,h9,h10,h11,h12]
theorem zxl (p q r:Nat→Bool):orB (orB p q) r=orB p (orB q r):=funext fun x=>by simp [orB,Bool.or_assoc]
theorem zH2 (p:Nat→Bool):orB p noB=p:=funext fun x=>by simp [orB,noB]
theorem zur (p:Nat→Bool):orB noB p=p:=funext fun x=>by simp [orB,noB]
theorem zvK {bar:Nat} {H:Heap} {l:List UInt8} (hl:l.length≤100) (hev:l.length%2=0): ∀ (n i:Nat) (p:Nat→Bool) (v:Nat→AV),i+2*n=l.length→v 4= .box (zbR p)→v 5= .str l→v 6=num i →
  Wp (evI fsT SA.sp bar (.loop a134l7) (mkE 4221 v,H)) (fun e t=>e= .exit 0∧ ∃ v',t=(mkE 4221 v',H)∧v' 4= .box (zbR (orB p (zaf (l.drop i))))∧v' 2=v 2∧v' 5=v 5):=by
 have hs:=SA.mono
 intro n
 induction n with
 | zero =>
  intro i p v hi v4 v5 v6
  have hge: ¬ ((i:Int)<(l.length:Int)):=by omega
  have e0:l.drop i= []:=List.drop_eq_nil_of_le (by omega)
  rw [zah hs a134l7.eq_1]
  simp [zad hs,zaa hs,zab hs,zac hs,zzA,v5,v6,hge]
  exact ⟨_,rfl,by rw [e0];simp [v4,zaf,zH2],by simp,by simp [v5]⟩
 | succ n ih =>
  intro i p v hi v4 v5 v6
  have hlt:((i:Int)<(l.length:Int)):=by omega
  have h1:i<l.length:=by omega
  have h2:i+1<l.length:=by omega
  obtain ⟨a,ha⟩: ∃ a,l[i]? = some a:=⟨l[i],List.getElem?_eq_getElem h1⟩
  obtain ⟨b,hb⟩: ∃ b,l[i+1]? = some b:=⟨l[i+1],List.getElem?_eq_getElem h2⟩
  have hd:l.drop i=a::b::l.drop (i+2):=by
   obtain ⟨_,rfl⟩:=List.getElem?_eq_some_iff.1 ha
   obtain ⟨_,rfl⟩:=List.getElem?_eq_some_iff.1 hb
   rw [List.drop_eq_getElem_cons h1,List.drop_eq_getElem_cons h2]
  have hw:IntKind.i64.wrap ((i:Int)+1)=(i:Int)+1:=zaj _ (by omega)
  have h0:(0:Int)≤(i:Int)+1:=by omega
  have ht:((i:Int)+1).toNat=i+1:=by omega
  have hw2:IntKind.i64.wrap ((i:Int)+2)=(i:Int)+2:=zaj _ (by omega)
  have hc:=zkg (bar:=bar) (H:=H) p a b
  unfold ze5 at hc
  have h4:List.take 4 (zbR p)=zbR p:=rfl
  have h44:(zbR (orB p (zal a b))).length=4:=rfl
  have hsc: ∀ q:Nat→Bool,(((((zbR p).set 0 (u64 (zaJ q 0 64))).set 1 (u64 (zaJ q 1 64))).set 2 (u64 (zaJ q 2 64))).set 3 (u64 (zaJ q 3 64)))=zbR q:=fun q=>rfl
  rw [zah hs a134l7.eq_1]
  rw [zg3 (orB p (zal a b))] at hc
  simp [zad hs,zaa hs,zab hs,zac hs,zai hs,zzA,zEd,zD8,v4,v5,v6,hlt,ha,hb,hw,hw2,h0,ht,zbw,h4,hc,hsc]
  refine (ih (i+2) (orB p (zal a b)) _ (by omega) ?_ ?_ ?_).mono fun e t h=> ?_
  ·simp
  ·simp [v5]
  ·simp
  ·obtain ⟨rfl,v',rfl,k4,k2,k5⟩:=h
   refine ⟨rfl,v',rfl,?_,by simpa using k2,by simpa [v5] using k5⟩
   rw [k4,hd,zaf,zxl]
def EvenL (l:List UInt8):Prop:=l.length≤100∧l.length%2=0
theorem zFp {P:List UInt8→Prop} {c:Prop} [Decidable c] {a b:List UInt8} (h1:P a) (h2:P b):P (if c then a else b):=by split<;>assumption
theorem zoP (name:List UInt8):(zaM name).length≤100∧(zaM name).length%2=0:=by
 rw [ziy]
 show EvenL _
 repeat' (first | exact ⟨by decide,by decide⟩ | apply zFp)
theorem zxF {bar:Nat} {H:Heap} (name:List UInt8):Rn fsT SA.sp bar 134 [.str name] H=some (.ret (.tup [ze5 (zaf (zaM name)), .bool (!decide (zaM name= []))]),H):=by
 have hs:=SA.mono
 have h:=zvB (bar:=0) (H:= []) name
 obtain ⟨h1,h2⟩:=zoP name
 generalize zaM name=l at *
 have z: ∀ p:Nat→Bool,List.replicate 4 (AV.int .u64 0)=zbR noB:=fun _=>rfl
 have hneq:zpX .neq l []=some (.bool (!decide (l= []))):=by rw [zBO,zpm]
 refine zao hs zFD rfl rfl rfl ?_
 rw [zI8]
 simp [a134,zEc,zEb,zEa,zD9,zad hs,zaa hs,zab hs,h]
 refine (zvK (bar:=0) (H:= []) h1 h2 (l.length/2) 0 noB _ (by omega) ?_ ?_ ?_).mono fun e t h=> ?_
 ·simp;rfl
 ·simp
 ·simp
 ·obtain ⟨rfl,v',rfl,k4,k2,k5⟩:=h
  simp at k2 k5
  rw [List.drop_zero,zur] at k4
  have h4: ∀ p,List.take 4 (zbR p)=zbR p:=fun p=>rfl
  have hsc: ∀ q:Nat→Bool,zbR q= [u64 (zaJ q 0 64),u64 (zaJ q 1 64),u64 (zaJ q 2 64),u64 (zaJ q 3 64)]:=fun q=>rfl
  rw [hsc] at k4
  simp [zD7,zad hs,zaa hs,k2,k4,k5,hneq,zcF,frz,zbj]
end
section
theorem ziC: ∀ (l:List UInt8),Lib.index l [58,93]=match zdD l with | none=> -1 | some n=>(n:Int)
 | []=>rfl
 | c::l=>by
  have ih:=ziC l
  rw [Lib.index,zdD]
  have hp:([58,93]:List UInt8).isPrefixOf (c::l)=decide ((c::l).take 2= [58,93]):=by
   cases l with
   | nil=>simp [List.isPrefixOf]
   | cons d l =>
    simp only [List.isPrefixOf,List.take_succ_cons,List.take_zero,List.cons.injEq,and_true,Bool.and_true]
    by_cases h1:58=c<;>by_cases h2:93=d
    ·subst h1 h2;rfl
    ·have: ¬ d=93:=fun e=>h2 e.symm
     simp [h1,h2,this]
    ·have: ¬ c=58:=fun e=>h1 e.symm
     simp [h1,this]
    ·have: ¬ c=58:=fun e=>h1 e.symm
     simp [h1,this]
  rw [hp]
  by_cases h:(c::l).take 2= [58,93]
  ·simp [h]
  ·rw [if_neg (by simpa using h),if_neg h,ih]
   cases zdD l with
   | none=>rfl
   | some n =>
    have: ¬ ((n:Int) == -1)=true:=by simp
    simp only [Option.map_some]
    rw [if_neg this]
    rfl
theorem zo0 {bar:Nat} {H:Heap} (l t:List UInt8):Rn fsT SA.sp bar 133 [.str l, .str t] H=some (.ret (.bool (decide (l.take t.length=t))),H):=by
 have hs:=SA.mono
 have h1: ∀ (bar:Nat) (H:Heap),Rn fsT SA.sp bar 137 [.str l, .str t] H=some (.ret (.bool (decide (l.take t.length=t))),H):=fun bar H=>by
  refine zao hs zFA rfl rfl rfl ?_
  rw [zI5]
  by_cases h:t.length≤l.length
  ·have h':(t.length:Int)≤(l.length:Int):=by omega
   simp [a137,zzy,zzx,zad hs,zaa hs,h,h',zbe]
  ·have h': ¬ (t.length:Int)≤(l.length:Int):=by omega
   have e: ¬ l.take t.length=t:=fun e=>by
    have:=congrArg List.length e
    simp only [List.length_take] at this;omega
   simp [a137,zzy,zzx,zad hs,zaa hs,h,h',e]
 refine zao hs zFE rfl rfl rfl ?_
 rw [zI9]
 simp [a133,zEf,zEe,zad hs,zaa hs,h1]
def Rd (H:Heap) (r:Nat) (s:List UInt8) (i:Nat):Prop:=hget H r=some (some [.str s,num i])
theorem Rd.set {H:Heap} {r:Nat} {s:List UInt8} {i:Nat} (h:Rd H r s i) (j:Nat):Rd (H.set r (some [.str s,num j])) r s j:=zae _ (zau h)
theorem zeM {bar:Nat} {H:Heap} {r:Nat} {s:List UInt8} {i:Nat} (h:Rd H r s i) (hi:i≤s.length) (t:List UInt8):Rn fsT SA.sp bar 124 [.ptr r 0, .str t] H=some (.ret (.bool (comes s i t)),H):=by
 have hs:=SA.mono
 have h1:=fun H=>zo0 (bar:=H.length) (H:=H) (s.drop i) t
 have e1:List.take (s.length-i) (s.drop i)=s.drop i:=List.take_of_length_le (by simp)
 unfold Rd at h
 refine ze7 hs zFJ rfl rfl rfl ?_
 rw [zJe]
 simp [a124,zEo,zEp,zad hs,zaa hs,zai hs,h,hi,e1,h1,comes]
def zAm (s:List UInt8) (r:Nat) (H:Heap) (x:Option (UInt8×Nat)) (o:Out) (H':Heap):Prop :=
 match x with
 | none=>o= .ret (.tup [.int .u8 0, .bool false])∧ ∃ j:Nat,H'=H.set r (some [.str s,num j])
 | some (c,j)=>o= .ret (.tup [.int .u8 c.toNat, .bool true])∧H'=H.set r (some [.str s,num j])
theorem zej {H:Heap} {r:Nat} {x:Option (List AV)} (h:hget H r=some x):H.set r x=H:=by
 apply List.ext_getElem?
 intro j
 rw [List.getElem?_set]
 split
 ·rename_i e;subst e
  rw [if_pos (zau h)];exact h.symm
 ·rfl
theorem zhe {s:List UInt8} {i:Nat} (c:UInt8):comes s i [c]=decide (s[i]? = some c):=by
 unfold comes
 cases h:s[i]? with
 | none =>
  have:s.drop i= []:=List.drop_eq_nil_of_le (List.getElem?_eq_none_iff.1 h)
  simp [this]
 | some d =>
  have e:(s.drop i).take [c].length= [d]:=by
   obtain ⟨hi,rfl⟩:=List.getElem?_eq_some_iff.1 h
   rw [List.drop_eq_getElem_cons hi];rfl
  rw [e]
  by_cases q:d=c
  ·subst q;simp
  ·have: ¬ c=d:=fun e=>q e.symm
   simp [q]
theorem znC {bar:Nat} {H:Heap} {r:Nat} {s:List UInt8} {i:Nat} (h:Rd H r s i) (hi:i≤s.length) (hb:bar≤r) (hl:s.length≤1000000):Wc (Rn fsT SA.sp bar 135 [.ptr r 0] H) (zAm s r H (zbq s i)):=by
 have hs:=SA.mono
 have hrl:=zau h
 have hc:=zeM (bar:=bar) h hi [92]
 rw [zhe] at hc
 have hw:IntKind.i64.wrap ((i:Int)+1)=(i:Int)+1:=zaj _ (by omega)
 have hw2:IntKind.i64.wrap ((i:Int)+1+1)=(i:Int)+1+1:=zaj _ (by omega)
 have hm:IntKind.i64.wrap ((i:Int)+1-1)=(i:Int):=by rw [zaj _ (by omega)];omega
 have hm0:IntKind.i64.wrap (i:Int)=(i:Int):=zaj _ (by omega)
 have hm2:IntKind.i64.wrap ((i:Int)+1+1-1)=(i:Int)+1:=by rw [zaj _ (by omega)];omega
 have h0:(0:Int)≤(i:Int)+1:=by omega
 have ht:((i:Int)+1).toNat=i+1:=by omega
 have h':=h
 unfold Rd at h'
 refine za8 hs zFC rfl rfl ?_
 rw [zI7]
 cases hc0:s[i]? with
 | none =>
  have e:i=s.length:=by have:=List.getElem?_eq_none_iff.1 hc0;omega
  have e2:zbq s i=none:=by simp [zbq,hc0]
  subst e
  rw [hc0] at hc
  simp at hc
  rw [e2]
  simp [a135,zmM,zmL,zmK,zmO,zmJ,zmI,zmN,zmH,zmG,zmF,ziU,ziT,ziS,ziW,ziR,ziQ,ziV,zad hs,zaa hs,zai hs,zab hs,zac hs,h',hc]
  exact ⟨rfl,s.length,(zej h).symm⟩
 | some c =>
  have hlt:=(List.getElem?_eq_some_iff.1 hc0).1
  have hne:((i:Int)==(s.length:Int))=false:=by simp;omega
  have hnN: ¬ (i=s.length):=by omega
  rw [hc0] at hc
  by_cases h92:c=92
  ·subst h92
   simp at hc
   cases hd:s[i+1]? with
   | none =>
    have e2:zbq s i=none:=by simp [zbq,hc0,hd]
    have e0:(i:Int)+1=(s.length:Int):=by have:=List.getElem?_eq_none_iff.1 hd;omega
    have e:((i:Int)+1==(s.length:Int))=true:=by simp [e0]
    rw [e2]
    simp [a135,zmM,zmL,zmK,zmO,zmJ,zmI,zmN,zmH,zmG,zmF,ziU,ziT,ziS,ziW,ziR,ziQ,ziV,zad hs,zaa hs,zai hs,zab hs,zac hs,h',hc,hb,hw,zae,hrl,e]
    exact ⟨rfl,i+1,rfl⟩
   | some d =>
    have e2:zbq s i=some (zcT d,i+2):=by simp [zbq,hc0,hd]
    have hlt2:=(List.getElem?_eq_some_iff.1 hd).1
    have e:((i:Int)+1==(s.length:Int))=false:=by simp;omega
    have e3:(num (i+2))= .int .i64 ((i:Int)+1+1):=by simp [num];omega
    have d110:((d.toNat:Int)==110)=decide (d=110):=by
     by_cases q:d=110
     ·subst q;rfl
     ·have: ¬ d.toNat=110:=fun e=>q (UInt8.toNat_inj.1 (by simpa using e))
      simp [q];omega
    have d116:((d.toNat:Int)==116)=decide (d=116):=by
     by_cases q:d=116
     ·subst q;rfl
     ·have: ¬ d.toNat=116:=fun e=>q (UInt8.toNat_inj.1 (by simpa using e))
      simp [q];omega
    rw [e2]
    by_cases q1:d=110
    ·subst q1
     simp [a135,zmM,zmL,zmK,zmO,zmJ,zmI,zmN,zmH,zmG,zmF,ziU,ziT,ziS,ziW,ziR,ziQ,ziV,zad hs,zaa hs,zai hs,zab hs,zac hs,h',hc,hb,hw,hw2,hm,hm2,h0,ht,zae,hrl,e,hd]
     exact ⟨rfl,by rw [e3]⟩
    ·by_cases q2:d=116
     ·subst q2
      simp [a135,zmM,zmL,zmK,zmO,zmJ,zmI,zmN,zmH,zmG,zmF,ziU,ziT,ziS,ziW,ziR,ziQ,ziV,zad hs,zaa hs,zai hs,zab hs,zac hs,h',hc,hb,hw,hw2,hm,hm2,h0,ht,zae,hrl,e,hd]
      exact ⟨rfl,by rw [e3]⟩
     ·have q1':=d110;have q2':=d116
      simp only [q1,q2,decide_false] at q1' q2'
      simp [a135,zmM,zmL,zmK,zmO,zmJ,zmI,zmN,zmH,zmG,zmF,ziU,ziT,ziS,ziW,ziR,ziQ,ziV,zad hs,zaa hs,zai hs,zab hs,zac hs,h',hc,hb,hw,hw2,hm,hm2,h0,ht,zae,hrl,e,hd,q1',q2']
      exact ⟨by simp [zcT,q1,q2],by rw [e3]⟩
  ·have e2:zbq s i=some (c,i+1):=by simp [zbq,hc0,h92]
   simp [h92] at hc
   rw [e2]
   simp [a135,zmM,zmL,zmK,zmO,zmJ,zmI,zmN,zmH,zmG,zmF,ziU,ziT,ziS,ziW,ziR,ziQ,ziV,zad hs,zaa hs,zai hs,zab hs,zac hs,h',hc,hb,hw,hm,hm0,zae,hrl,hne,hnN,hc0]
   exact ⟨rfl,rfl⟩
end
section
theorem zyc {bar:Nat} {H:Heap} {s:List UInt8} (h:zdD s=none) (hl:s.length≤1000000):Rn fsT SA.sp bar 95 [.str s, .str [58,93]] H=some (.ret (.tup [.str s, .str [], .bool false]),H):=by
 have hs:=SA.mono
 have hx:=ziC s
 rw [h] at hx
 have hl2:s.length<4294967281:=by omega
 have h1: ∀ (bar:Nat) (H:Heap),Rn fsT SA.sp bar 104 [.str s, .str [58,93]] H=some (.ret (.tup [.str s, .str [], .bool false]),H):=fun bar H=>by
  refine zao hs zsO rfl rfl rfl ?_
  rw [zx6]
  simp [a104,zrO,zrN,zrM,zrP,zrL,zad hs,zaa hs,zac hs,zpU,zkf,hx,hl2,frz,zbj]
 refine zao hs zxR rfl rfl rfl ?_
 rw [zF7]
 simp [a95,zyz,zyy,zad hs,zaa hs,h1,frz,zbj]
theorem zyb {bar:Nat} {H:Heap} {s:List UInt8} {n:Nat} (h:zdD s=some n) (hl:s.length≤1000000):Rn fsT SA.sp bar 95 [.str s, .str [58,93]] H=some (.ret (.tup [.str (s.take n), .str (s.drop (n+2)), .bool true]),H):=by
 have hs:=SA.mono
 have hx:=ziC s
 rw [h] at hx
 simp only at hx
 have hp:=zer h
 have hl2:s.length<4294967281:=by omega
 have h1: ∀ (bar:Nat) (H:Heap),Rn fsT SA.sp bar 104 [.str s, .str [58,93]] H=some (.ret (.tup [.str (s.take n), .str (s.drop (n+2)), .bool true]),H):=fun bar H=>by
  have hw:IntKind.i64.wrap ((n:Int)+2)=(n:Int)+2:=zaj _ (by omega)
  have h0:(0:Int)≤(n:Int)+2:=by omega
  have e1:List.take (s.length-(n+2)) (s.drop (n+2))=s.drop (n+2):=List.take_of_length_le (by simp)
  have hn2:n≤s.length:=by omega
  have ht:((n:Int)+2).toNat=n+2:=by omega
  refine zao hs zsO rfl rfl rfl ?_
  rw [zx6]
  simp [a104,zrO,zrN,zrM,zrP,zrL,zad hs,zaa hs,zai hs,zac hs,zpU,zkf,hx,hl2,frz,zbj,hw,h0,hp,hn2,ht,e1]
 refine zao hs zxR rfl rfl rfl ?_
 rw [zF7]
 simp [a95,zyz,zyy,zad hs,zaa hs,h1,frz,zbj]
def ztY (s:List UInt8) (r:Nat) (H:Heap) (x:PR (Nat→Bool)) (o:Out) (H':Heap):Prop :=
 match x with
 | .er _ w=>o= .ret (.tup [ze5 noB,num w])∧ ∃ j:Nat,H'=H.set r (some [.str s,num j])
 | .ok p j=>o= .ret (.tup [ze5 p,num 0])∧H'=H.set r (some [.str s,num j])
theorem zfG (s:List UInt8) (r:Nat) (H:Heap) (a w:Nat):ztY s r H (.er a w)=fun o H'=>o= .ret (.tup [ze5 noB,num w])∧ ∃ j:Nat,H'=H.set r (some [.str s,num j]):=rfl
theorem zku (s:List UInt8) (r:Nat) (H:Heap) (p:Nat→Bool) (j:Nat):ztY s r H (.ok p j)=fun o H'=>o= .ret (.tup [ze5 p,num 0])∧H'=H.set r (some [.str s,num j]):=rfl
theorem zBp {bar:Nat} {H:Heap} {r:Nat} {s:List UInt8} {i:Nat} (h:Rd H r s i) (hi:i≤s.length) (hb:bar≤r) (hl:s.length≤10000):Wc (Rn fsT SA.sp bar 125 [.ptr r 0] H) (ztY s r H (zcB s i)):=by
 have hs:=SA.mono
 have hrl:=zau h
 have hc:=zeM (bar:=bar) h hi [91,58]
 have h':=h
 unfold Rd at h'
 have hz:ze5 noB= .agg [.int .u64 0, .int .u64 0, .int .u64 0, .int .u64 0]:=rfl
 refine za8 hs zFI rfl rfl ?_
 rw [zJd]
 by_cases hcl:comes s i [91,58]=true
 · -- a class
  have hlen:=zhf hcl (by simp)
  simp only [List.length_cons,List.length_nil] at hlen
  have hw:IntKind.i64.wrap ((i:Int)+2)=(i:Int)+2:=zaj _ (by omega)
  have h0:(0:Int)≤(i:Int)+2:=by omega
  have ht:((i:Int)+2).toNat=i+2:=by omega
  have hle2:i+2≤s.length:=by omega
  have e1:List.take (s.length-(i+2)) (s.drop (i+2))=s.drop (i+2):=List.take_of_length_le (by simp)
  rw [hcl] at hc
  cases hcf:zdD (s.drop (i+2)) with
  | none =>
   have hcut:=zyc (bar:=bar) (H:=H) hcf (by simp;omega)
   have e2:zcB s i= .er 0 3:=by simp [zcB,hcl,hcf]
   rw [e2,zfG,hz]
   simp [a125,zhN,zhM,zhO,zhL,zhK,zhJ,zhI,zhH,zhG,zhF,ze1,ze0,zeZ,zeY,zeX,zeW,zeV,zeU,zeT,zeS,zeR,zeQ,zad hs,zaa hs,zai hs,zab hs,zac hs,h',hc,hw,h0,ht,hle2,e1,hcut]
   exact ⟨i,(zej h).symm⟩
  | some n =>
   have hp:=zer hcf
   simp only [List.length_drop] at hp
   have hcut:=zyb (bar:=bar) (H:=H) hcf (by simp;omega)
   generalize hnm:(s.drop (i+2)).take n=nm at hcut
   have hnl:nm.length=n:=by rw [←hnm];simp;omega
   have hnamed:=fun H=>zxF (bar:=bar) (H:=H) nm
   have hw4:IntKind.i64.wrap ((nm.length:Int)+4)=(nm.length:Int)+4:=zaj _ (by omega)
   have hwi:IntKind.i64.wrap ((i:Int)+((nm.length:Int)+4))=(i:Int)+((nm.length:Int)+4):=zaj _ (by omega)
   by_cases hr:zaM nm= []
   ·have e2:zcB s i= .er 0 40:=by simp [zcB,hcl,hcf,hnm,hr]
    have hn0: ∀ H,Rn fsT SA.sp bar 134 [.str nm] H=some (.ret (.tup [.agg [u64 (zaJ (zaf (zaM nm)) 0 64),u64 (zaJ (zaf (zaM nm)) 1 64),u64 (zaJ (zaf (zaM nm)) 2 64),u64 (zaJ (zaf (zaM nm)) 3 64)], .bool false]),H):=fun H=>by
     rw [hnamed H,zcF];simp [hr]
    rw [e2,zfG,hz]
    simp [a125,zhN,zhM,zhO,zhL,zhK,zhJ,zhI,zhH,zhG,zhF,ze1,ze0,zeZ,zeY,zeX,zeW,zeV,zeU,zeT,zeS,zeR,zeQ,zad hs,zaa hs,zai hs,zab hs,zac hs,h',hc,hw,h0,ht,hle2,e1,hcut,hw4,hwi,hb,hrl,hn0]
    exact ⟨i+(nm.length+4),rfl⟩
   ·have e2:zcB s i= .ok (zaf (zaM nm)) (i+n+4):=by simp [zcB,hcl,hcf,hnm,hr]
    have hn0: ∀ H,Rn fsT SA.sp bar 134 [.str nm] H=some (.ret (.tup [.agg [u64 (zaJ (zaf (zaM nm)) 0 64),u64 (zaJ (zaf (zaM nm)) 1 64),u64 (zaJ (zaf (zaM nm)) 2 64),u64 (zaJ (zaf (zaM nm)) 3 64)], .bool true]),H):=fun H=>by
     rw [hnamed H,zcF];simp [hr]
    have e3:(num (i+n+4))= .int .i64 ((i:Int)+((nm.length:Int)+4)):=by simp [num,hnl];omega
    rw [e2,zku,zcF,e3]
    simp [a125,zhN,zhM,zhO,zhL,zhK,zhJ,zhI,zhH,zhG,zhF,ze1,ze0,zeZ,zeY,zeX,zeW,zeV,zeU,zeT,zeS,zeR,zeQ,zad hs,zaa hs,zai hs,zab hs,zac hs,h',hc,hw,h0,ht,hle2,e1,hcut,hw4,hwi,hb,hrl,hn0]
 ·have hcl:comes s i [91,58]=false:=by simpa using hcl
  rw [hcl] at hc
  obtain ⟨o1,H1,q1,q2⟩:=znC h hi hb (by omega)
  cases hsg:zbq s i with
  | none =>
   rw [hsg] at q2
   obtain ⟨rfl,j,rfl⟩:=q2
   have e2:zcB s i= .er 0 3:=by simp [zcB,hcl,hsg]
   rw [e2,zfG,hz]
   simp [a125,zhN,zhM,zhO,zhL,zhK,zhJ,zhI,zhH,zhG,zhF,ze1,ze0,zeZ,zeY,zeX,zeW,zeV,zeU,zeT,zeS,zeR,zeQ,zad hs,zaa hs,zai hs,zab hs,zac hs,h',hc,q1]
   exact ⟨j,rfl⟩
  | some q =>
   obtain ⟨a,j⟩:=q
   rw [hsg] at q2
   obtain ⟨rfl,rfl⟩:=q2
   obtain ⟨j1,j2⟩:=zeB hsg
   have hR:=h.set j
   have hRl:=zau hR
   have c1:=zeM (bar:=bar) hR j2 [45]
   have c2:=zeM (bar:=bar) hR j2 [45,93]
   have c3:=zeM (bar:=bar) hR j2 [45,91,58]
   have hadd:=fun H a b=>zkg (bar:=bar) (H:=H) noB a b
   have hR':=hR
   unfold Rd at hR'
   have hadd': ∀ H (a b:UInt8),Rn fsT SA.sp bar 136 [.agg [.int .u64 0, .int .u64 0, .int .u64 0, .int .u64 0], .int .u8 a.toNat, .int .u8 b.toNat] H=some (.ret (.agg [u64 (zaJ (zal a b) 0 64),u64 (zaJ (zal a b) 1 64),u64 (zaJ (zal a b) 2 64),u64 (zaJ (zal a b) 3 64)]),H):=fun H a b=>by
    have:=hadd H a b
    rw [zur] at this
    exact this
   by_cases hcond:comes s j [45]=true∧ ¬ comes s j [45,93]=true∧ ¬ comes s j [45,91,58]=true
   ·obtain ⟨d1,d2,d3⟩:=hcond
    have d2:comes s j [45,93]=false:=by simpa using d2
    have d3:comes s j [45,91,58]=false:=by simpa using d3
    have hjl:=zhf d1 (by simp)
    simp only [List.length_cons,List.length_nil] at hjl
    have hwj:IntKind.i64.wrap ((j:Int)+1)=(j:Int)+1:=zaj _ (by omega)
    have hset:(H.set r (some [.str s,num j])).set r (some [.str s,num (j+1)])=H.set r (some [.str s,num (j+1)]):=List.set_set ..
    obtain ⟨o3,H3,q3,q4⟩:=znC (bar:=bar) (h.set (j+1)) (by omega) hb (by omega)
    have hnj:num (j+1)= .int .i64 ((j:Int)+1):=by simp [num]
    rw [hnj] at q3 q4
    rw [d1] at c1;rw [d2] at c2;rw [d3] at c3
    cases hsg2:zbq s (j+1) with
    | none =>
     rw [hsg2] at q4
     obtain ⟨rfl,k,rfl⟩:=q4
     have e2:zcB s i= .er 0 3:=by simp [zcB,hcl,hsg,d1,d2,d3,hsg2]
     rw [e2,zfG,hz]
     simp [a125,zhN,zhM,zhO,zhL,zhK,zhJ,zhI,zhH,zhG,zhF,ze1,ze0,zeZ,zeY,zeX,zeW,zeV,zeU,zeT,zeS,zeR,zeQ,zad hs,zaa hs,zai hs,zab hs,zac hs,h',hc,q1,c1,c2,c3,hR',hwj,hb,hrl,q3,zae]
     exact ⟨k,rfl⟩
    | some q =>
     obtain ⟨b,k⟩:=q
     rw [hsg2] at q4
     obtain ⟨rfl,rfl⟩:=q4
     by_cases hba:b<a
     ·have hba':(b.toNat:Int)<(a.toNat:Int):=by rw [UInt8.lt_iff_toNat_lt] at hba;omega
      have e2:zcB s i= .er 0 4:=by simp [zcB,hcl,hsg,d1,d2,d3,hsg2,hba]
      rw [e2,zfG,hz]
      simp [a125,zhN,zhM,zhO,zhL,zhK,zhJ,zhI,zhH,zhG,zhF,ze1,ze0,zeZ,zeY,zeX,zeW,zeV,zeU,zeT,zeS,zeR,zeQ,zad hs,zaa hs,zai hs,zab hs,zac hs,h',hc,q1,c1,c2,c3,hR',hwj,hb,hrl,q3,zae,hba']
      exact ⟨k,rfl⟩
     ·have hba': ¬ (b.toNat:Int)<(a.toNat:Int):=by rw [UInt8.lt_iff_toNat_lt] at hba;omega
      have e2:zcB s i= .ok (zal a b) k:=by simp [zcB,hcl,hsg,d1,d2,d3,hsg2,hba]
      rw [e2,zku,zcF]
      simp [a125,zhN,zhM,zhO,zhL,zhK,zhJ,zhI,zhH,zhG,zhF,ze1,ze0,zeZ,zeY,zeX,zeW,zeV,zeU,zeT,zeS,zeR,zeQ,zad hs,zaa hs,zai hs,zab hs,zac hs,h',hc,q1,c1,c2,c3,hR',hwj,hb,hrl,q3,zae,hba',hadd']
   ·have e2:zcB s i= .ok (zal a a) j:=by
     simp only [zcB,hcl,hsg,Bool.false_eq_true,if_false]
     rw [if_neg hcond]
    rw [e2,zku,zcF]
    cases d1:comes s j [45] with
    | false =>
     rw [d1] at c1
     simp [a125,zhN,zhM,zhO,zhL,zhK,zhJ,zhI,zhH,zhG,zhF,ze1,ze0,zeZ,zeY,zeX,zeW,zeV,zeU,zeT,zeS,zeR,zeQ,zad hs,zaa hs,zai hs,zab hs,zac hs,h',hc,q1,c1,hadd']
    | true =>
     rw [d1] at c1
     cases d2:comes s j [45,93] with
     | true =>
      rw [d2] at c2
      simp [a125,zhN,zhM,zhO,zhL,zhK,zhJ,zhI,zhH,zhG,zhF,ze1,ze0,zeZ,zeY,zeX,zeW,zeV,zeU,zeT,zeS,zeR,zeQ,zad hs,zaa hs,zai hs,zab hs,zac hs,h',hc,q1,c1,c2,hadd']
     | false =>
      rw [d2] at c2
      cases d3:comes s j [45,91,58] with
      | true =>
       rw [d3] at c3
       simp [a125,zhN,zhM,zhO,zhL,zhK,zhJ,zhI,zhH,zhG,zhF,ze1,ze0,zeZ,zeY,zeX,zeW,zeV,zeU,zeT,zeS,zeR,zeQ,zad hs,zaa hs,zai hs,zab hs,zac hs,h',hc,q1,c1,c2,c3,hadd']
      | false=>exact absurd ⟨d1,by simp [d2],by simp [d3]⟩ hcond
end
section
def ItemsOut (s:List UInt8) (v:Nat→AV) (x:PR (Nat→Bool)) (e:AExit) (t:EH):Prop :=
 match x with
 | .er _ w=>e= .ret∧ ∃ v' K,t=(mkE 2342153315636223987 v',K)∧v' 4= .box (zbR noB)∧v' 5=num 0∧v' 6=num w
 | .ok p j=>e= .exit 0∧ ∃ v',t=(mkE 2342153315636223987 v',[some [.str s,num j]])∧v' 9= .box (zbR p)∧v' 4=v 4∧v' 7=v 7∧v' 8=v 8
theorem zsN (s:List UInt8) (v:Nat→AV) (a w:Nat):ItemsOut s v (.er a w)=fun e t=>e= .ret∧ ∃ v' K,t=(mkE 2342153315636223987 v',K)∧v' 4= .box (zbR noB)∧v' 5=num 0∧v' 6=num w:=rfl
theorem zsM (s:List UInt8) (v:Nat→AV) (p:Nat→Bool) (j:Nat):ItemsOut s v (.ok p j)=fun e t=>e= .exit 0∧ ∃ v',t=(mkE 2342153315636223987 v',[some [.str s,num j]])∧v' 9= .box (zbR p)∧v' 4=v 4∧v' 7=v 7∧v' 8=v 8:=rfl
theorem ItemsOut.of_eq {s:List UInt8} {v w:Nat→AV} {x:PR (Nat→Bool)} {e:AExit} {t:EH} (h:ItemsOut s v x e t) (h4:v 4=w 4) (h7:v 7=w 7) (h8:v 8=w 8):ItemsOut s w x e t:=by
 cases x with
 | er a b=>exact h
 | ok p j =>
  obtain ⟨h1,v',h2,h3,k4,k7,k8⟩:=h
  exact ⟨h1,v',h2,h3,k4.trans h4,k7.trans h7,k8.trans h8⟩
theorem znS {s:List UInt8} (hl:s.length≤10000): ∀ (n i:Nat) (first:Bool) (p:Nat→Bool) (v:Nat→AV),i≤s.length→s.length<n+i→v 4= .box (zbR noB)→v 7= .ptr 0 0→v 9= .box (zbR p)→v 10= .bool first →
  Wp (evI fsT SA.sp 0 (.loop a114l15) (mkE 2342153315636223987 v,[some [.str s,num i]])) (ItemsOut s v (zdz s n first p i)):=by
 have hs:=SA.mono
 intro n
 induction n with
 | zero=>intro i first p v h1 h2;omega
 | succ n ih =>
  intro i first p v h1 h2 v4 v7 v9 v10
  have hR:Rd [some [.str s,num i]] 0 s i:=rfl
  have hc:=zeM (bar:=0) hR h1 [93]
  have hz:([.int .u64 0, .int .u64 0, .int .u64 0, .int .u64 0]:List AV)=zbR noB:=rfl
  rw [zah hs a114l15.eq_1]
  by_cases hend:first=false∧comes s i [93]=true
  ·obtain ⟨rfl,he⟩:=hend
   have e1:zdz s (n+1) false p i= .ok p i:=by simp [zdz,he]
   rw [he] at hc
   rw [e1,zsM]
   simp [zad hs,zaa hs,zab hs,zac hs,zoA,v4,v7,v9,v10,hc]
   exact ⟨_,rfl,by simp [v9],by simp [v4],by simp [v7],by simp⟩
  ·have e0:zdz s (n+1) first p i=match zcB s i with
     | .er a w=> .er a w
     | .ok q j=>zdz s n false (orB p q) j:=by
    rw [zdz,if_neg (by simpa using hend)]
    cases zcB s i<;>rfl
   have hgo:first=true∨(first=false∧comes s i [93]=false):=by
    cases first with
    | true=>exact .inl rfl
    | false=>exact .inr ⟨rfl,by simpa using hend⟩
   obtain ⟨o,K,q1,q2⟩:=zBp (bar:=0) hR h1 (Nat.le_refl _) hl
   have hp:=ziB (s:=s) i
   rw [e0]
   cases hit:zcB s i with
   | er a w =>
    rw [hit] at q2 hp
    obtain ⟨rfl,j,rfl⟩:=q2
    rw [zsN]
    rw [ze5] at q1
    have h4: ∀ p:Nat→Bool,List.take 4 (zbR p)=zbR p:=fun p=>rfl
    have c1: ∀ q:Nat→Bool,setCells [.int .u64 0, .int .u64 0, .int .u64 0, .int .u64 0] 0 (zbR q)=zbR q:=fun q=>rfl
    have c2: ∀ p q:Nat→Bool,setCells (zbR p) 0 (zbR q)=zbR q:=fun p q=>rfl
    rcases hp with rfl | rfl | rfl
    all_goals
     simp only [num,Int.cast_ofNat_Int] at q1
     rcases hgo with rfl | ⟨rfl,he⟩
     ·simp [zad hs,zaa hs,zab hs,zac hs,zoA,zmU,zmT,zmS,zmR,zmQ,v4,v7,v9,v10,q1,zbw,h4,c1,c2]
      exact ⟨_,rfl,by simp;rfl,by simp,by simp⟩
     ·rw [he] at hc
      simp [zad hs,zaa hs,zab hs,zac hs,zoA,zmU,zmT,zmS,zmR,zmQ,v4,v7,v9,v10,q1,hc,zbw,h4,c1,c2]
      exact ⟨_,rfl,by simp;rfl,by simp,by simp⟩
   | ok q j =>
    rw [hit] at q2 hp
    obtain ⟨rfl,rfl⟩:=q2
    simp only [PR.sat] at hp
    have hun:=zwI (bar:=0) (H:= [some [.str s,num j]]) p q
    rw [ze5,ze5,ze5] at hun
    rw [ze5] at q1
    have h4: ∀ p:Nat→Bool,List.take 4 (zbR p)=zbR p:=fun p=>rfl
    have c1: ∀ q:Nat→Bool,setCells [.int .u64 0, .int .u64 0, .int .u64 0, .int .u64 0] 0 (zbR q)=zbR q:=fun q=>rfl
    have c2: ∀ p q:Nat→Bool,setCells (zbR p) 0 (zbR q)=zbR q:=fun p q=>rfl
    have fin: ∀ (w:Nat→AV),w 4=v 4→w 7=v 7→w 8=v 8→w 9= .box (zbR (orB p q))→w 10= .bool false→Wp (evI fsT SA.sp 0 (.loop a114l15) (mkE 2342153315636223987 w,[some [.str s,num j]])) (ItemsOut s v (zdz s n false (orB p q) j)):=fun w w4 w7 w8 w9 w10 =>
     (ih j false (orB p q) w hp.2 (by omega) (by rw [w4,v4]) (by rw [w7,v7]) w9 w10).mono fun e t h=>h.of_eq w4 w7 w8
    rcases hgo with rfl | ⟨rfl,he⟩
    ·simp [zad hs,zaa hs,zab hs,zac hs,zoA,zmU,zmT,zmS,zmR,zmQ,v4,v7,v9,v10,q1,hun,zbw,h4,c1,c2]
     refine fin _ ?_ ?_ ?_ ?_ ?_<;>simp
    ·rw [he] at hc
     simp [zad hs,zaa hs,zab hs,zac hs,zoA,zmU,zmT,zmS,zmR,zmQ,v4,v7,v9,v10,q1,hun,hc,zbw,h4,c1,c2]
     refine fin _ ?_ ?_ ?_ ?_ ?_<;>simp
def zcR (x:PR (Nat→Bool)):AV :=
 match x with
 | .er _ w=> .tup [ze5 noB,num 0,num w]
 | .ok p j=> .tup [ze5 p,num j,num 0]
theorem zs6 {bar:Nat} {H:Heap} {s:List UInt8} {i:Nat} (hl:s.length≤10000) (hc:s[i]? = some 91):Rn fsT SA.sp bar 114 [.str s,num i] H=some (.ret (zcR (zjv s i)),H):=by
 have hs:=SA.mono
 have hlt:=zaR hc
 have h1: ¬ ((i:Int)<0):=by omega
 have h2: ¬ ((s.length:Int)≤(i:Int)):=by omega
 have hw:IntKind.i64.wrap ((i:Int)+1)=(i:Int)+1:=zaj _ (by omega)
 have hw2:IntKind.i64.wrap ((i:Int)+1+1)=(i:Int)+1+1:=zaj _ (by omega)
 have hR:Rd [some [.str s,num (i+1)]] 0 s (i+1):=rfl
 have hcm:=zeM (bar:=0) hR (by omega) [94]
 have hz:([.int .u64 0, .int .u64 0, .int .u64 0, .int .u64 0]:List AV)=zbR noB:=rfl
 have hn1:num (i+1)= .int .i64 ((i:Int)+1):=rfl
 have hn2:num (i+2)= .int .i64 ((i:Int)+1+1):=by simp [num];omega
 have h4: ∀ p:Nat→Bool,List.take 4 (zbR p)=zbR p:=fun p=>rfl
 have c1: ∀ q:Nat→Bool,setCells [.int .u64 0, .int .u64 0, .int .u64 0, .int .u64 0] 0 (zbR q)=zbR q:=fun q=>rfl
 have c2: ∀ p q:Nat→Bool,setCells (zbR p) 0 (zbR q)=zbR q:=fun p q=>rfl
 have hnot:=fun p H=>zxB (bar:=0) (H:=H) p
 simp only [ze5] at hnot
 have frzC: ∀ (p:Nat→Bool) H,zbj 0 H (zbR p)=some (zbR p):=fun p H=>by simp [zg3,frz,zbj]
 -- behind the loop
 have after: ∀ (x:PR (Nat→Bool)) (other:Bool) (v:Nat→AV) (e:AExit) (t:EH),v 4= .box (zbR noB)→v 7= .ptr 0 0→v 8= .bool other→(∀ p j,x= .ok p j→j≤s.length)→ItemsOut s v x e t →
   zlQ 0 (andThen (evI fsT SA.sp 0 (((ACode.region ztC).seq (ACode.cond true (.v 61) (.region ztB) .skip)).seq ((ACode.draw ztD).seq .ret))) (fin [.cell 4 (some 4), .tmp 5, .tmp 6] (thaw 0 (· = .ret (zcR (match x with | .er a w=> .er a w | .ok p j=> .ok (bif other then zql p else p) (j+1))))))) e t:=by
  intro x other v e t v4 v7 v8 hj h
  cases x with
  | er a w =>
   obtain ⟨rfl,v',K,rfl,k4,k5,k6⟩:=h
   simp [k4,k5,k6,zbw,h4,zcR,ze5,frz,zbj,frzC]
  | ok p j =>
   obtain ⟨rfl,v',rfl,k9,k4,k7,k8⟩:=h
   rw [v4] at k4;rw [v7] at k7;rw [v8] at k8
   have hj:=hj p j rfl
   have hwj:IntKind.i64.wrap ((j:Int)+1)=(j:Int)+1:=zaj _ (by omega)
   cases other<;>simp [ztC,ztB,ztD,zad hs,zaa hs,zai hs,zab hs,zac hs,zaE,k4,k7,k8,k9,zbw,h4,c1,c2,hnot,zcR,ze5,frz,zbj,frzC,hwj,zat,zav]
 refine zao hs zFR rfl rfl rfl ?_
 rw [zJm]
 have hit:=fun first p i h1 h2=>zfa (s:=s) (s.length+1) first p i h1 h2
 unfold zjv
 cases hcc:comes s (i+1) [94] with
 | true =>
  rw [hcc] at hcm
  have hlen:=zhf hcc (by simp)
  simp only [List.length_cons,List.length_nil] at hlen
  rw [hn1] at hcm
  simp [a114,zzR,zzQ,zzP,zzO,zzN,zzM,zzL,zzK,zzJ,zad hs,zaa hs,zai hs,zab hs,zac hs,h1,h2,hc,hw,hw2,hcm,hz]
  rw [←hn2]
  refine (znS hl (s.length+1) (i+2) true noB _ (by omega) (by omega) ?_ ?_ ?_ ?_).mono fun e t h=> ?_
  ·simp
  ·simp
  ·simp
  ·simp
  ·have hq:=hit true noB (i+2) (by omega) (by omega)
   refine after _ true _ e t ?_ ?_ ?_ (fun p j e=> ?_) h
   ·simp
   ·simp
   ·simp
   ·rw [e] at hq;simp only [PR.sat] at hq;omega
 | false =>
  rw [hcc] at hcm
  rw [hn1] at hcm
  simp [a114,zzR,zzQ,zzP,zzO,zzN,zzM,zzL,zzK,zzJ,zad hs,zaa hs,zai hs,zab hs,zac hs,h1,h2,hc,hw,hw2,hcm,hz]
  rw [←hn1]
  refine (znS hl (s.length+1) (i+1) true noB _ (by omega) (by omega) ?_ ?_ ?_ ?_).mono fun e t h=> ?_
  ·simp
  ·simp
  ·simp
  ·simp
  ·have hq:=hit true noB (i+1) (by omega) (by omega)
   refine after _ false _ e t ?_ ?_ ?_ (fun p j e=> ?_) h
   ·simp
   ·simp
   ·simp
   ·rw [e] at hq;simp only [PR.sat] at hq;omega
end
end Go.Ak
