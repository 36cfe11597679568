/- What the program's class reader computes. -/
import Derived.Test.YtfcgnpphabplbaaGreatDoorOm
import Derived.Test.YtfcgnpphabplbaaGreatDoorOn
import Derived.Test.YtfcgnpphabplbaaGreatDoorOd
set_option linter.unusedVariables false
set_option linter.unusedSimpArgs false
namespace Go.Ak
attribute [local simp] zcx zd7 zd8 zfV zbm zc2 zaG za9 za0 zba zbs zbK zbL zbg zcJ zdJ zdK zcB zcC
 zaN zcN wanted zbb opd zkt live zcD zde zbA zcA ziq put zes esc zqx ztJ args drop1 zg1 zuW zuV ztH zou rd wr zbE sub AV.cells pack one setCells zeH znX zc3 roOf zaL zfw zav zau zey zbw newRow newObj step zcF zbM contents take flat look lim zex bound zec zeu eqS eqL eqA ver
 zcI zdI zdH zcG zcH
 List.getElem?_cons_zero List.getElem?_cons_succ zdl zbp zaE zaF zcE
attribute [local simp] sR sT cV bL mvV mvL mgV mgL asL asI asB ldN ldV ldL ldG stV stL fdL fdV fdG fgL nlC nlG bnI bvI bnL bvL bxI bxU bgI bgL exT lnS lgS clA clB clC clI pkT pkF pvT pvF pgT pgF ixL axV bxV apL
attribute [-simp] getElem?_pos
section
def zbG (p:Nat→Bool):List AV:=(zDi p).map u64
theorem zgW (p:Nat→Bool):zbG p= [u64 (zaB p 0 64),u64 (zaB p 1 64),u64 (zaB p 2 64),u64 (zaB p 3 64)]:=rfl
theorem zbn (p:Nat→Bool):(zbG p).length=4:=rfl
theorem zEU (p:Nat→Bool) {i:Nat} (h:i<4):((zbG p).drop i).take 1= [u64 (zaB p i 64)]:=by
 rcases i with _ | _ | _ | _ | i
 ·rfl
 ·rfl
 ·rfl
 ·rfl
 ·omega
theorem zBa (p:Nat→Bool) {c:Nat} (hc:c<256):(zbG p).set (c/64) (u64 (zaB p (c/64) 64 ||| 2^(c%64)))=zbG (fun x=>p x||decide (x=c)):=by
 unfold zbG
 rw [←zA8 p hc,List.map_set]
theorem zo4 {n:Nat} (h:n<2^64):((n:Int)%2^IntKind.u64.bits).toNat=n:=by
 have h1:(2:Int)^IntKind.u64.bits=18446744073709551616:=by decide
 have h2:2^64=18446744073709551616:=by decide
 rw [h1];omega
theorem zqC {n:Nat} (h:n<2^64):IntKind.u64.wrap (n:Int)=n:=by
 have h1:(2:Int)^64=18446744073709551616:=by decide
 have h2:2^64=18446744073709551616:=by decide
 simp only [IntKind.wrap,IntKind.bits,IntKind.signed,h1,Bool.false_and,Bool.false_eq_true,if_false]
 omega
theorem u64_or {a b:Nat} (ha:a<2^64) (hb:b<2^64):IntKind.u64.wrap (((((a:Int)%2^IntKind.u64.bits).toNat ||| ((b:Int)%2^IntKind.u64.bits).toNat:Nat)):Int)=((a ||| b:Nat):Int):=by
 rw [zo4 ha,zo4 hb]
 exact zqC (Nat.or_lt_two_pow ha hb)
theorem zo5 {n:Nat} (h:n<2^64):n%2^IntKind.u64.bits=n:=Nat.mod_eq_of_lt h
theorem zEQ {a k:Nat} (ha:a<2^64) (hk:k<64):IntKind.u64.wrap ((a%2^IntKind.u64.bits ||| ((2:Int)^k%2^IntKind.u64.bits).toNat:Nat):Int)=((a ||| 2^k:Nat):Int):=by
 have h:=u64_or ha (Nat.pow_lt_pow_right (a:=2) (by omega) hk)
 rw [zo4 ha,show (((2^k:Nat)):Int)=(2:Int)^k by simp] at h
 rw [zo5 ha];exact h
theorem zCd {bar:Nat} {H:Heap} {b:UInt8}: ∀ (n c:Nat) (p:Nat→Bool) (v:Nat→AV),c+n=b.toNat+1→v 2= .int .u8 b.toNat→v 3= .box (zbG p)→v 7=num c →
  Wp (evI fsT SA.sp bar (.loop a136l5) (mkE 8399 v,H)) (fun e t=>e= .exit 0∧ ∃ v' q,t=(mkE 8399 v',H)∧v' 3= .box (zbG q)∧v' 6=v 6∧ ∀ x,q x=(p x||(decide (c≤x)&&decide (x≤b.toNat)))):=by
 have hs:=SA.mono
 intro n
 induction n with
 | zero =>
  intro c p v hi v2 v3 v7
  have hb:=b.toNat_lt
  have hw:IntKind.i64.wrap (b.toNat:Int)=b.toNat:=zal _ (by omega)
  have hgt: ¬ ((c:Int)≤(b.toNat:Int)):=by omega
  rw [zaj hs a136l5.eq_1]
  simp [zad hs,zaa hs,zab hs,zac hs,zvx,v2,v7,hgt,hw]
  refine ⟨_,rfl,p,by simp [v3],by simp,fun x=> ?_⟩
  by_cases h1:c≤x<;>by_cases h2:x≤b.toNat<;>simp [h1,h2]<;>omega
 | succ n ih =>
  intro c p v hi v2 v3 v7
  have hb:=b.toNat_lt
  have hw:IntKind.i64.wrap (b.toNat:Int)=b.toNat:=zal _ (by omega)
  have hle:((c:Int)≤(b.toNat:Int)):=by omega
  have hq2:IntKind.i64.wrap ((c:Int)/64)=(c:Int)/64:=zal _ (by omega)
  have hq0:0≤(c:Int)/64:=by omega
  have hqt:((c:Int)/64).toNat=c/64:=by omega
  have hr0: ¬ ((c:Int)%64<0):=by omega
  have hrt:((c:Int)%64).toNat=c%64:=by omega
  have hm:min (c%64) IntKind.u64.bits=c%64:=Nat.min_eq_left (by show c%64≤64;omega)
  have hr:(c:Int).tmod 64=(c:Int)%64:=Int.tmod_eq_emod_of_nonneg (by omega)
  have hpw:IntKind.u64.wrap (2^(c%64))=(2:Int)^(c%64):=by rw [zEO _ (by omega)];simp
  have hor:=zEQ (a:=zaB p (c/64) 64) (k:=c%64) (zev p _ _) (by omega)
  have hset:=zBa p (c:=c) (by omega)
  have hq4:c/64<4:=by omega
  have hq5:c/64+1≤4:=by omega
  have hw1:IntKind.i64.wrap ((c:Int)+1)=(c:Int)+1:=zal _ (by omega)
  have hat:=zEU p hq4
  rw [zaj hs a136l5.eq_1]
  simp [zad hs,zaa hs,zab hs,zac hs,zai hs,zvx,zD6,zD3,v2,v3,v7,hle,hw,hw1,hq2,hq0,hqt,hr,hr0,hrt,hm,hor,hset,hpw,hq4,hq5,hat,zbn]
  refine (ih (c+1) (fun x=>p x||decide (x=c)) _ (by omega) ?_ ?_ ?_).mono fun e t h=> ?_
  ·simp [v2]
  ·simp
  ·simp
  ·obtain ⟨rfl,v',q,rfl,h3,h6,hq⟩:=h
   refine ⟨rfl,v',rfl,q,h3,by simpa using h6,fun x=> ?_⟩
   rw [hq x]
   by_cases e:x=c
   ·subst e
    have:x≤b.toNat:=by omega
    simp [this]
   ·have:c+1≤x↔c≤x:=by omega
    simp [e,this]
def ze4 (p:Nat→Bool):AV:= .agg (zbG p)
theorem zF9 (n:Nat) (H:Heap) (p:Nat→Bool):frz n H (ze4 p)=some (ze4 p):=by simp [ze4,zgW,frz,zbd]
theorem zkn {bar:Nat} {H:Heap} (p:Nat→Bool) (a b:UInt8):Rn fsT SA.sp bar 136 [ze4 p, .int .u8 a.toNat, .int .u8 b.toNat] H=some (.ret (ze4 (orB p (zak a b))),H):=by
 have hs:=SA.mono
 have ha:=a.toNat_lt
 have hw:IntKind.i64.wrap (a.toNat:Int)=a.toNat:=zal _ (by omega)
 refine zao hs zFJ rfl rfl rfl ?_
 rw [zIX]
 simp [a136,zD5,zD4,zad hs,zaa hs,zab hs,hw,ze4]
 by_cases hle:a.toNat≤b.toNat
 ·refine (zCd (bar:=0) (b:=b) (b.toNat+1-a.toNat) a.toNat p _ (by omega) ?_ ?_ ?_).mono fun e t h=> ?_
  ·simp
  ·simp
  ·simp
  ·obtain ⟨rfl,v',q,rfl,h3,h6,hq⟩:=h
   have e1:zbG q=zbG (orB p (zak a b)):=by
    have:q=orB p (zak a b):=funext fun x=>by rw [hq x];rfl
    rw [this]
   simp at h6
   have h4:List.take 4 (zbG (orB p (zak a b)))=zbG (orB p (zak a b)):=rfl
   simp [zzO,zad hs,zaa hs,h3,h6,zbn,e1]
   simp [zgW,frz,zbd]
 ·have hgt: ¬ ((a.toNat:Int)≤(b.toNat:Int)):=by omega
  have hb:=b.toNat_lt
  have hwb:IntKind.i64.wrap (b.toNat:Int)=b.toNat:=zal _ (by omega)
  have e1:orB p (zak a b)=p:=funext fun x=>by
   by_cases h1:a.toNat≤x<;>by_cases h2:x≤b.toNat<;>simp [orB,zak,h1,h2]<;>omega
  rw [zaj hs a136l5.eq_1]
  simp [zad hs,zaa hs,zab hs,zac hs,zvx,zzO,hgt,hwb,zbn,e1]
  simp [zgW,frz,zbd]
end
section
theorem zEP {a b:Nat} (ha:a<2^64) (hb:b<2^64):IntKind.u64.wrap ((a%2^IntKind.u64.bits ||| b%2^IntKind.u64.bits:Nat):Int)=((a ||| b:Nat):Int):=by
 rw [zo5 ha,zo5 hb];exact zqC (Nat.or_lt_two_pow ha hb)
theorem zct (p:Nat→Bool):ze4 p= .agg [u64 (zaB p 0 64),u64 (zaB p 1 64),u64 (zaB p 2 64),u64 (zaB p 3 64)]:=rfl
theorem zw5 {bar:Nat} {H:Heap} (p q:Nat→Bool):Rn fsT SA.sp bar 126 [ze4 p,ze4 q] H=some (.ret (ze4 (orB p q)),H):=by
 have hs:=SA.mono
 have o: ∀ i,IntKind.u64.wrap ((zaB p i 64%2^IntKind.u64.bits ||| zaB q i 64%2^IntKind.u64.bits:Nat):Int)=(zaB (orB p q) i 64:Int):=fun i=>by
  rw [zEP (zev p i 64) (zev q i 64),zAS]
 have w1:IntKind.i64.wrap 1=1:=by decide
 have w2:IntKind.i64.wrap 2=2:=by decide
 have w3:IntKind.i64.wrap 3=3:=by decide
 have w4:IntKind.i64.wrap 4=4:=by decide
 refine zao hs zFP rfl rfl rfl ?_
 rw [zI3]
 simp [a126,zEn,zEm,zad hs,zaa hs,zab hs,zct]
 rw [zaj hs a126l6.eq_1]
 simp [zad hs,zaa hs,zab hs,zac hs,zai hs,zoY,zoX,zoZ,zoW,o,w1]
 rw [zaj hs a126l6.eq_1]
 simp [zad hs,zaa hs,zab hs,zac hs,zai hs,zoY,zoX,zoZ,zoW,o,w2]
 rw [zaj hs a126l6.eq_1]
 simp [zad hs,zaa hs,zab hs,zac hs,zai hs,zoY,zoX,zoZ,zoW,o,w3]
 rw [zaj hs a126l6.eq_1]
 simp [zad hs,zaa hs,zab hs,zac hs,zai hs,zoY,zoX,zoZ,zoW,o,w4]
 rw [zaj hs a126l6.eq_1]
 simp [zad hs,zaa hs,zab hs,zac hs,zai hs,zoY,zoX,zoZ,zoW,zEl,frz,zbd]
theorem zxZ {bar:Nat} {H:Heap} (p:Nat→Bool):Rn fsT SA.sp bar 127 [ze4 p] H=some (.ret (ze4 (zq1 p)),H):=by
 have hs:=SA.mono
 have o: ∀ i,IntKind.u64.wrap ((((bif IntKind.u64.signed then -1 else IntKind.u64.max)%2^IntKind.u64.bits).toNat ^^^ zaB p i 64%2^IntKind.u64.bits:Nat):Int)=(zaB (zq1 p) i 64:Int):=fun i=>by
  rw [zo5 (zev p i 64)]
  have e:((bif IntKind.u64.signed then -1 else IntKind.u64.max)%2^IntKind.u64.bits:Int).toNat=2^64-1:=by decide
  have e2:(2^64-1) ^^^ zaB p i 64=zaB (zq1 p) i 64:=by
   apply Nat.eq_of_testBit_eq
   intro j
   rw [Nat.testBit_xor,Nat.testBit_two_pow_sub_one,zaW,zaW]
   by_cases hj:j<64<;>simp [hj,zq1]
  rw [e,e2]
  exact zqC (zev _ _ _)
 have w1:IntKind.i64.wrap 1=1:=by decide
 have w2:IntKind.i64.wrap 2=2:=by decide
 have w3:IntKind.i64.wrap 3=3:=by decide
 have w4:IntKind.i64.wrap 4=4:=by decide
 refine zao hs zFO rfl rfl rfl ?_
 rw [zI2]
 simp [a127,zEk,zEj,zad hs,zaa hs,zab hs,zct]
 rw [zaj hs a127l6.eq_1]
 simp [zad hs,zaa hs,zab hs,zac hs,zai hs,zoV,zoU,zoT,zoS,w1,o]
 rw [zaj hs a127l6.eq_1]
 simp [zad hs,zaa hs,zab hs,zac hs,zai hs,zoV,zoU,zoT,zoS,w2,o]
 rw [zaj hs a127l6.eq_1]
 simp [zad hs,zaa hs,zab hs,zac hs,zai hs,zoV,zoU,zoT,zoS,w3,o]
 rw [zaj hs a127l6.eq_1]
 simp [zad hs,zaa hs,zab hs,zac hs,zai hs,zoV,zoU,zoT,zoS,w4,o]
 rw [zaj hs a127l6.eq_1]
 simp [zad hs,zaa hs,zab hs,zac hs,zai hs,zoV,zoU,zoT,zoS,zEi,frz,zbd]
theorem zHt {bar:Nat} {H:Heap} (p:Nat→Bool) (a b:UInt8):Rn fsT SA.sp bar 128 [ze4 p, .int .u8 a.toNat, .int .u8 b.toNat] H=some (.ret (ze4 (orB p (zak a b))),H):=by
 have hs:=SA.mono
 have h:=zkn (bar:=0) (H:= []) p a b
 rw [zct,zct] at h ⊢
 refine zao hs zFN rfl rfl rfl ?_
 rw [zI1]
 simp [a128,zEh,zEg,zad hs,zaa hs,h,frz,zbd]
theorem zHn {bar:Nat} {H:Heap} (p:Nat→Bool):Rn fsT SA.sp bar 115 [ze4 p] H=some (.ret (ze4 (zq1 p)),H):=by
 have hs:=SA.mono
 have h:=zxZ (bar:=0) (H:= []) p
 rw [zct,zct] at h ⊢
 refine zao hs zFY rfl rfl rfl ?_
 rw [zJc]
 simp [a115,zEz,zEy,zad hs,zaa hs,h,frz,zbd]
theorem zir (name:List UInt8):zaD name =
 if name= [97,108,112,104,97] then [65,90,97,122]
 else if name= [100,105,103,105,116] then [48,57]
 else if name= [97,108,110,117,109] then [48,57,65,90,97,122]
 else if name= [117,112,112,101,114] then [65,90]
 else if name= [108,111,119,101,114] then [97,122]
 else if name= [115,112,97,99,101] then [9,13,32,32]
 else if name= [98,108,97,110,107] then [9,9,32,32]
 else if name= [112,117,110,99,116] then [33,47,58,64,91,96,123,126]
 else if name= [112,114,105,110,116] then [32,126]
 else if name= [103,114,97,112,104] then [33,126]
 else if name= [99,110,116,114,108] then [0,31,127,127]
 else if name= [120,100,105,103,105,116] then [48,57,65,70,97,102]
 else []:=rfl
theorem ze9: ∀ (a b:List UInt8),zju a b=decide (a=b)
 | [],[]=>rfl
 | [],_::_=>rfl
 | _::_,[]=>rfl
 | a::x,b::y=>by
  have ih:=ze9 x y
  simp only [zju,zg1,ih]
  by_cases h:a=b
  ·subst h;simp
  ·have h2: ¬ a.toNat=b.toNat:=fun e=>h (UInt8.toNat_inj.1 e)
   simp [h,h2]
theorem za6 (a b:List UInt8):zlP .eql a b=some (.bool (decide (a=b))):=by rw [←ze9];rfl
theorem zv4 {bar:Nat} {H:Heap} (name:List UInt8):Rn fsT SA.sp bar 138 [.str name] H=some (.ret (.str (zaD name)),H):=by
 have hs:=SA.mono
 refine zao hs zFH rfl rfl rfl ?_
 rw [zIV,zir]
 simp only [a138]
 by_cases h1:name= [97,108,112,104,97]
 ·simp [zfj,zfi,zfh,zfg,zad hs,zaa hs,zab hs,zac hs,za6,h1]
 by_cases h2:name= [100,105,103,105,116]
 ·simp [zfj,zfi,zfh,zfg,zfK,zfJ,zad hs,zaa hs,zab hs,zac hs,za6,h1,h2]
 by_cases h3:name= [97,108,110,117,109]
 ·simp [zfj,zfi,zfh,zfg,zfK,zfJ,zgK,zgJ,zad hs,zaa hs,zab hs,zac hs,za6,h1,h2,h3]
 by_cases h4:name= [117,112,112,101,114]
 ·simp [zfj,zfi,zfh,zfg,zfK,zfJ,zgK,zgJ,zhx,zhw,zad hs,zaa hs,zab hs,zac hs,za6,h1,h2,h3,h4]
 by_cases h5:name= [108,111,119,101,114]
 ·simp [zfj,zfi,zfh,zfg,zfK,zfJ,zgK,zgJ,zhx,zhw,zft,zfs,zad hs,zaa hs,zab hs,zac hs,za6,h1,h2,h3,h4,h5]
 by_cases h6:name= [115,112,97,99,101]
 ·simp [zfj,zfi,zfh,zfg,zfK,zfJ,zgK,zgJ,zhx,zhw,zft,zfs,zge,zgd,zad hs,zaa hs,zab hs,zac hs,za6,h1,h2,h3,h4,h5,h6]
 by_cases h7:name= [98,108,97,110,107]
 ·simp [zfj,zfi,zfh,zfg,zfK,zfJ,zgK,zgJ,zhx,zhw,zft,zfs,zge,zgd,zhz,zhy,zad hs,zaa hs,zab hs,zac hs,za6,h1,h2,h3,h4,h5,h6,h7]
 by_cases h8:name= [112,117,110,99,116]
 ·simp [zfj,zfi,zfh,zfg,zfK,zfJ,zgK,zgJ,zhx,zhw,zft,zfs,zge,zgd,zhz,zhy,ziN,ziM,zad hs,zaa hs,zab hs,zac hs,za6,h1,h2,h3,h4,h5,h6,h7,h8]
 by_cases h9:name= [112,114,105,110,116]
 ·simp [zfj,zfi,zfh,zfg,zfK,zfJ,zgK,zgJ,zhx,zhw,zft,zfs,zge,zgd,zhz,zhy,ziN,ziM,zkL,zkK,zad hs,zaa hs,zab hs,zac hs,za6,h1,h2,h3,h4,h5,h6,h7,h8,h9]
 by_cases h10:name= [103,114,97,112,104]
 ·simp [zfj,zfi,zfh,zfg,zfK,zfJ,zgK,zgJ,zhx,zhw,zft,zfs,zge,zgd,zhz,zhy,ziN,ziM,zkL,zkK,zmX,zmW,zad hs,zaa hs,zab hs,zac hs,za6,h1,h2,h3,h4,h5,h6,h7,h8,h9,h10]
 by_cases h11:name= [99,110,116,114,108]
 ·simp [zfj,zfi,zfh,zfg,zfK,zfJ,zgK,zgJ,zhx,zhw,zft,zfs,zge,zgd,zhz,zhy,ziN,ziM,zkL,zkK,zmX,zmW,zql,zqk,zad hs,zaa hs,zab hs,zac hs,za6,h1,h2,h3,h4,h5,h6,h7,h8,h9,h10,h11]
 by_cases h12:name= [120,100,105,103,105,116]
 ·simp [zfj,zfi,zfh,zfg,zfK,zfJ,zgK,zgJ,zhx,zhw,zft,zfs,zge,zgd,zhz,zhy,ziN,ziM,zkL,zkK,zmX,zmW,zql,zqk,zt1,zt0,zad hs,zaa hs,zab hs,zac hs,za6,h1,h2,h3,h4,h5,h6,h7,h8,h9,h10,h11,h12]
 simp [zfj,zfi,zfh,zfg,zfK,zfJ,zgK,zgJ,zhx,zhw,zft,zfs,zge,zgd,zhz,zhy,ziN,ziM,zkL,zkK,zmX,zmW,zql,zqk,zt1,zt0,zzL,zad hs,zaa hs,zab hs,zac hs,za6,h1,h2,h3,h4,h5,h6,h7,h8,h9,h10,h11,h12]
theorem zxL (p q r:Nat→Bool):orB (orB p q) r=orB p (orB q r):=funext fun x=>by simp [orB,Bool.or_assoc]
theorem zHP (p:Nat→Bool):orB p noB=p:=funext fun x=>by simp [orB,noB]
theorem zx0 (p:Nat→Bool):orB noB p=p:=funext fun x=>by simp [orB,noB]
theorem zwh {bar:Nat} {H:Heap} {l:List UInt8} (hl:l.length≤100) (hev:l.length%2=0): ∀ (n i:Nat) (p:Nat→Bool) (v:Nat→AV),i+2*n=l.length→v 4= .box (zbG p)→v 5= .str l→v 6=num i →
  Wp (evI fsT SA.sp bar (.loop a134l7) (mkE 4221 v,H)) (fun e t=>e= .exit 0∧ ∃ v',t=(mkE 4221 v',H)∧v' 4= .box (zbG (orB p (zaf (l.drop i))))∧v' 2=v 2∧v' 5=v 5):=by
 have hs:=SA.mono
 intro n
 induction n with
 | zero =>
  intro i p v hi v4 v5 v6
  have hge: ¬ ((i:Int)<(l.length:Int)):=by omega
  have e0:l.drop i= []:=List.drop_eq_nil_of_le (by omega)
  rw [zaj hs a134l7.eq_1]
  simp [zad hs,zaa hs,zab hs,zac hs,zzP,v5,v6,hge]
  exact ⟨_,rfl,by rw [e0];simp [v4,zaf,zHP],by simp,by simp [v5]⟩
 | succ n ih =>
  intro i p v hi v4 v5 v6
  have hlt:((i:Int)<(l.length:Int)):=by omega
  have h1:i<l.length:=by omega
  have h2:i+1<l.length:=by omega
  obtain ⟨a,ha⟩: ∃ a,l[i]? = some a:=⟨l[i],List.getElem?_eq_getElem h1⟩
  obtain ⟨b,hb⟩: ∃ b,l[i+1]? = some b:=⟨l[i+1],List.getElem?_eq_getElem h2⟩
  have hd:l.drop i=a::b::l.drop (i+2):=by
   obtain ⟨_,rfl⟩:=List.getElem?_eq_some_iff.1 ha
   obtain ⟨_,rfl⟩:=List.getElem?_eq_some_iff.1 hb
   rw [List.drop_eq_getElem_cons h1,List.drop_eq_getElem_cons h2]
  have hw:IntKind.i64.wrap ((i:Int)+1)=(i:Int)+1:=zal _ (by omega)
  have h0:(0:Int)≤(i:Int)+1:=by omega
  have ht:((i:Int)+1).toNat=i+1:=by omega
  have hw2:IntKind.i64.wrap ((i:Int)+2)=(i:Int)+2:=zal _ (by omega)
  have hc:=zkn (bar:=bar) (H:=H) p a b
  unfold ze4 at hc
  have h4:List.take 4 (zbG p)=zbG p:=rfl
  have h44:(zbG (orB p (zak a b))).length=4:=rfl
  have hsc: ∀ q:Nat→Bool,(((((zbG p).set 0 (u64 (zaB q 0 64))).set 1 (u64 (zaB q 1 64))).set 2 (u64 (zaB q 2 64))).set 3 (u64 (zaB q 3 64)))=zbG q:=fun q=>rfl
  rw [zaj hs a134l7.eq_1]
  rw [zgW (orB p (zak a b))] at hc
  simp [zad hs,zaa hs,zab hs,zac hs,zai hs,zzP,zEd,zD8,v4,v5,v6,hlt,ha,hb,hw,hw2,h0,ht,zbn,h4,hc,hsc]
  refine (ih (i+2) (orB p (zak a b)) _ (by omega) ?_ ?_ ?_).mono fun e t h=> ?_
  ·simp
  ·simp [v5]
  ·simp
  ·obtain ⟨rfl,v',rfl,k4,k2,k5⟩:=h
   refine ⟨rfl,v',rfl,?_,by simpa using k2,by simpa [v5] using k5⟩
   rw [k4,hd,zaf,zxL]
def EvenL (l:List UInt8):Prop:=l.length≤100∧l.length%2=0
theorem zFk {P:List UInt8→Prop} {c:Prop} [Decidable c] {a b:List UInt8} (h1:P a) (h2:P b):P (if c then a else b):=by split<;>assumption
theorem zpc (name:List UInt8):(zaD name).length≤100∧(zaD name).length%2=0:=by
 rw [zir]
 show EvenL _
 repeat' (first | exact ⟨by decide,by decide⟩ | apply zFk)
theorem zx5 {bar:Nat} {H:Heap} (name:List UInt8):Rn fsT SA.sp bar 134 [.str name] H=some (.ret (.tup [ze4 (zaf (zaD name)), .bool (!decide (zaD name= []))]),H):=by
 have hs:=SA.mono
 have h:=zv4 (bar:=0) (H:= []) name
 obtain ⟨h1,h2⟩:=zpc name
 generalize zaD name=l at *
 have z: ∀ p:Nat→Bool,List.replicate 4 (AV.int .u64 0)=zbG noB:=fun _=>rfl
 have hneq:zlP .neq l []=some (.bool (!decide (l= []))):=by rw [zB8,ze9]
 refine zao hs zFL rfl rfl rfl ?_
 rw [zIZ]
 simp [a134,zEc,zEb,zEa,zD9,zad hs,zaa hs,zab hs,h]
 refine (zwh (bar:=0) (H:= []) h1 h2 (l.length/2) 0 noB _ (by omega) ?_ ?_ ?_).mono fun e t h=> ?_
 ·simp;rfl
 ·simp
 ·simp
 ·obtain ⟨rfl,v',rfl,k4,k2,k5⟩:=h
  simp at k2 k5
  rw [List.drop_zero,zx0] at k4
  have h4: ∀ p,List.take 4 (zbG p)=zbG p:=fun p=>rfl
  have hsc: ∀ q:Nat→Bool,zbG q= [u64 (zaB q 0 64),u64 (zaB q 1 64),u64 (zaB q 2 64),u64 (zaB q 3 64)]:=fun q=>rfl
  rw [hsc] at k4
  simp [zD7,zad hs,zaa hs,k2,k4,k5,hneq,zct,frz,zbd]
end
section
theorem ziv: ∀ (l:List UInt8),Lib.index l [58,93]=match zdo l with | none=> -1 | some n=>(n:Int)
 | []=>rfl
 | c::l=>by
  have ih:=ziv l
  rw [Lib.index,zdo]
  have hp:([58,93]:List UInt8).isPrefixOf (c::l)=decide ((c::l).take 2= [58,93]):=by
   cases l with
   | nil=>simp [List.isPrefixOf]
   | cons d l =>
    simp only [List.isPrefixOf,List.take_succ_cons,List.take_zero,List.cons.injEq,and_true,Bool.and_true]
    by_cases h1:58=c<;>by_cases h2:93=d
    ·subst h1 h2;rfl
    ·have: ¬ d=93:=fun e=>h2 e.symm
     simp [h1,h2,this]
    ·have: ¬ c=58:=fun e=>h1 e.symm
     simp [h1,this]
    ·have: ¬ c=58:=fun e=>h1 e.symm
     simp [h1,this]
  rw [hp]
  by_cases h:(c::l).take 2= [58,93]
  ·simp [h]
  ·rw [if_neg (by simpa using h),if_neg h,ih]
   cases zdo l with
   | none=>rfl
   | some n =>
    have: ¬ ((n:Int) == -1)=true:=by simp
    simp only [Option.map_some]
    rw [if_neg this]
    rfl
theorem zpo {bar:Nat} {H:Heap} (l t:List UInt8):Rn fsT SA.sp bar 133 [.str l, .str t] H=some (.ret (.bool (decide (l.take t.length=t))),H):=by
 have hs:=SA.mono
 have h1: ∀ (bar:Nat) (H:Heap),Rn fsT SA.sp bar 137 [.str l, .str t] H=some (.ret (.bool (decide (l.take t.length=t))),H):=fun bar H=>by
  refine zao hs zFI rfl rfl rfl ?_
  rw [zIW]
  by_cases h:t.length≤l.length
  ·have h':(t.length:Int)≤(l.length:Int):=by omega
   simp [a137,zzN,zzM,zad hs,zaa hs,h,h',za6]
  ·have h': ¬ (t.length:Int)≤(l.length:Int):=by omega
   have e: ¬ l.take t.length=t:=fun e=>by
    have:=congrArg List.length e
    simp only [List.length_take] at this;omega
   simp [a137,zzN,zzM,zad hs,zaa hs,h,h',e]
 refine zao hs zFM rfl rfl rfl ?_
 rw [zI0]
 simp [a133,zEf,zEe,zad hs,zaa hs,h1]
def Rd (H:Heap) (r:Nat) (s:List UInt8) (i:Nat):Prop:=hget H r=some (some [.str s,num i])
theorem Rd.set {H:Heap} {r:Nat} {s:List UInt8} {i:Nat} (h:Rd H r s i) (j:Nat):Rd (H.set r (some [.str s,num j])) r s j:=zae _ (zas h)
theorem zeL {bar:Nat} {H:Heap} {r:Nat} {s:List UInt8} {i:Nat} (h:Rd H r s i) (hi:i≤s.length) (t:List UInt8):Rn fsT SA.sp bar 124 [.ptr r 0, .str t] H=some (.ret (.bool (comes s i t)),H):=by
 have hs:=SA.mono
 have h1:=fun H=>zpo (bar:=H.length) (H:=H) (s.drop i) t
 have e1:List.take (s.length-i) (s.drop i)=s.drop i:=List.take_of_length_le (by simp)
 unfold Rd at h
 refine zcX hs zFR rfl rfl rfl ?_
 rw [zI5]
 simp [a124,zEo,zEp,zad hs,zaa hs,zai hs,h,hi,e1,h1,comes]
def zAG (s:List UInt8) (r:Nat) (H:Heap) (x:Option (UInt8×Nat)) (o:Out) (H':Heap):Prop :=
 match x with
 | none=>o= .ret (.tup [.int .u8 0, .bool false])∧ ∃ j:Nat,H'=H.set r (some [.str s,num j])
 | some (c,j)=>o= .ret (.tup [.int .u8 c.toNat, .bool true])∧H'=H.set r (some [.str s,num j])
theorem zea {H:Heap} {r:Nat} {x:Option (List AV)} (h:hget H r=some x):H.set r x=H:=by
 apply List.ext_getElem?
 intro j
 rw [List.getElem?_set]
 split
 ·rename_i e;subst e
  rw [if_pos (zas h)];exact h.symm
 ·rfl
theorem zha {s:List UInt8} {i:Nat} (c:UInt8):comes s i [c]=decide (s[i]? = some c):=by
 unfold comes
 cases h:s[i]? with
 | none =>
  have:s.drop i= []:=List.drop_eq_nil_of_le (List.getElem?_eq_none_iff.1 h)
  simp [this]
 | some d =>
  have e:(s.drop i).take [c].length= [d]:=by
   obtain ⟨hi,rfl⟩:=List.getElem?_eq_some_iff.1 h
   rw [List.drop_eq_getElem_cons hi];rfl
  rw [e]
  by_cases q:d=c
  ·subst q;simp
  ·have: ¬ c=d:=fun e=>q e.symm
   simp [q]
theorem znS {bar:Nat} {H:Heap} {r:Nat} {s:List UInt8} {i:Nat} (h:Rd H r s i) (hi:i≤s.length) (hb:bar≤r) (hl:s.length≤1000000):Wc (Rn fsT SA.sp bar 135 [.ptr r 0] H) (zAG s r H (zbi s i)):=by
 have hs:=SA.mono
 have hrl:=zas h
 have hc:=zeL (bar:=bar) h hi [92]
 rw [zha] at hc
 have hw:IntKind.i64.wrap ((i:Int)+1)=(i:Int)+1:=zal _ (by omega)
 have hw2:IntKind.i64.wrap ((i:Int)+1+1)=(i:Int)+1+1:=zal _ (by omega)
 have hm:IntKind.i64.wrap ((i:Int)+1-1)=(i:Int):=by rw [zal _ (by omega)];omega
 have hm0:IntKind.i64.wrap (i:Int)=(i:Int):=zal _ (by omega)
 have hm2:IntKind.i64.wrap ((i:Int)+1+1-1)=(i:Int)+1:=by rw [zal _ (by omega)];omega
 have h0:(0:Int)≤(i:Int)+1:=by omega
 have ht:((i:Int)+1).toNat=i+1:=by omega
 have h':=h
 unfold Rd at h'
 refine zaO hs zFK rfl rfl ?_
 rw [zIY]
 cases hc0:s[i]? with
 | none =>
  have e:i=s.length:=by have:=List.getElem?_eq_none_iff.1 hc0;omega
  have e2:zbi s i=none:=by simp [zbi,hc0]
  subst e
  rw [hc0] at hc
  simp at hc
  rw [e2]
  simp [a135,zm5,zm4,zm3,zm7,zm2,zm1,zm6,zm0,zmZ,zmY,ziS,ziR,ziQ,ziU,ziP,ziO,ziT,zad hs,zaa hs,zai hs,zab hs,zac hs,h',hc]
  exact ⟨rfl,s.length,(zea h).symm⟩
 | some c =>
  have hlt:=(List.getElem?_eq_some_iff.1 hc0).1
  have hne:((i:Int)==(s.length:Int))=false:=by simp;omega
  have hnN: ¬ (i=s.length):=by omega
  rw [hc0] at hc
  by_cases h92:c=92
  ·subst h92
   simp at hc
   cases hd:s[i+1]? with
   | none =>
    have e2:zbi s i=none:=by simp [zbi,hc0,hd]
    have e0:(i:Int)+1=(s.length:Int):=by have:=List.getElem?_eq_none_iff.1 hd;omega
    have e:((i:Int)+1==(s.length:Int))=true:=by simp [e0]
    rw [e2]
    simp [a135,zm5,zm4,zm3,zm7,zm2,zm1,zm6,zm0,zmZ,zmY,ziS,ziR,ziQ,ziU,ziP,ziO,ziT,zad hs,zaa hs,zai hs,zab hs,zac hs,h',hc,hb,hw,zae,hrl,e]
    exact ⟨rfl,i+1,rfl⟩
   | some d =>
    have e2:zbi s i=some (zcM d,i+2):=by simp [zbi,hc0,hd]
    have hlt2:=(List.getElem?_eq_some_iff.1 hd).1
    have e:((i:Int)+1==(s.length:Int))=false:=by simp;omega
    have e3:(num (i+2))= .int .i64 ((i:Int)+1+1):=by simp [num];omega
    have d110:((d.toNat:Int)==110)=decide (d=110):=by
     by_cases q:d=110
     ·subst q;rfl
     ·have: ¬ d.toNat=110:=fun e=>q (UInt8.toNat_inj.1 (by simpa using e))
      simp [q];omega
    have d116:((d.toNat:Int)==116)=decide (d=116):=by
     by_cases q:d=116
     ·subst q;rfl
     ·have: ¬ d.toNat=116:=fun e=>q (UInt8.toNat_inj.1 (by simpa using e))
      simp [q];omega
    rw [e2]
    by_cases q1:d=110
    ·subst q1
     simp [a135,zm5,zm4,zm3,zm7,zm2,zm1,zm6,zm0,zmZ,zmY,ziS,ziR,ziQ,ziU,ziP,ziO,ziT,zad hs,zaa hs,zai hs,zab hs,zac hs,h',hc,hb,hw,hw2,hm,hm2,h0,ht,zae,hrl,e,hd]
     exact ⟨rfl,by rw [e3]⟩
    ·by_cases q2:d=116
     ·subst q2
      simp [a135,zm5,zm4,zm3,zm7,zm2,zm1,zm6,zm0,zmZ,zmY,ziS,ziR,ziQ,ziU,ziP,ziO,ziT,zad hs,zaa hs,zai hs,zab hs,zac hs,h',hc,hb,hw,hw2,hm,hm2,h0,ht,zae,hrl,e,hd]
      exact ⟨rfl,by rw [e3]⟩
     ·have q1':=d110;have q2':=d116
      simp only [q1,q2,decide_false] at q1' q2'
      simp [a135,zm5,zm4,zm3,zm7,zm2,zm1,zm6,zm0,zmZ,zmY,ziS,ziR,ziQ,ziU,ziP,ziO,ziT,zad hs,zaa hs,zai hs,zab hs,zac hs,h',hc,hb,hw,hw2,hm,hm2,h0,ht,zae,hrl,e,hd,q1',q2']
      exact ⟨by simp [zcM,q1,q2],by rw [e3]⟩
  ·have e2:zbi s i=some (c,i+1):=by simp [zbi,hc0,h92]
   simp [h92] at hc
   rw [e2]
   simp [a135,zm5,zm4,zm3,zm7,zm2,zm1,zm6,zm0,zmZ,zmY,ziS,ziR,ziQ,ziU,ziP,ziO,ziT,zad hs,zaa hs,zai hs,zab hs,zac hs,h',hc,hb,hw,hm,hm0,zae,hrl,hne,hnN,hc0]
   exact ⟨rfl,rfl⟩
end
section
theorem zyJ {bar:Nat} {H:Heap} {s:List UInt8} (h:zdo s=none) (hl:s.length≤1000000):Rn fsT SA.sp bar 95 [.str s, .str [58,93]] H=some (.ret (.tup [.str s, .str [], .bool false]),H):=by
 have hs:=SA.mono
 have hx:=ziv s
 rw [h] at hx
 have hl2:s.length<4294967281:=by omega
 have h1: ∀ (bar:Nat) (H:Heap),Rn fsT SA.sp bar 104 [.str s, .str [58,93]] H=some (.ret (.tup [.str s, .str [], .bool false]),H):=fun bar H=>by
  refine zao hs zyn rfl rfl rfl ?_
  rw [zDz]
  simp [a104,zAx,zAw,zAv,zAy,zAu,zad hs,zaa hs,zac hs,zvB,zkm,hx,hl2,frz,zbd]
 refine zao hs zDs rfl rfl rfl ?_
 rw [zIA]
 simp [a95,zGy,zGx,zad hs,zaa hs,h1,frz,zbd]
theorem zyI {bar:Nat} {H:Heap} {s:List UInt8} {n:Nat} (h:zdo s=some n) (hl:s.length≤1000000):Rn fsT SA.sp bar 95 [.str s, .str [58,93]] H=some (.ret (.tup [.str (s.take n), .str (s.drop (n+2)), .bool true]),H):=by
 have hs:=SA.mono
 have hx:=ziv s
 rw [h] at hx
 simp only at hx
 have hp:=zel h
 have hl2:s.length<4294967281:=by omega
 have h1: ∀ (bar:Nat) (H:Heap),Rn fsT SA.sp bar 104 [.str s, .str [58,93]] H=some (.ret (.tup [.str (s.take n), .str (s.drop (n+2)), .bool true]),H):=fun bar H=>by
  have hw:IntKind.i64.wrap ((n:Int)+2)=(n:Int)+2:=zal _ (by omega)
  have h0:(0:Int)≤(n:Int)+2:=by omega
  have e1:List.take (s.length-(n+2)) (s.drop (n+2))=s.drop (n+2):=List.take_of_length_le (by simp)
  have hn2:n≤s.length:=by omega
  have ht:((n:Int)+2).toNat=n+2:=by omega
  refine zao hs zyn rfl rfl rfl ?_
  rw [zDz]
  simp [a104,zAx,zAw,zAv,zAy,zAu,zad hs,zaa hs,zai hs,zac hs,zvB,zkm,hx,hl2,frz,zbd,hw,h0,hp,hn2,ht,e1]
 refine zao hs zDs rfl rfl rfl ?_
 rw [zIA]
 simp [a95,zGy,zGx,zad hs,zaa hs,h1,frz,zbd]
def zus (s:List UInt8) (r:Nat) (H:Heap) (x:PR (Nat→Bool)) (o:Out) (H':Heap):Prop :=
 match x with
 | .er _ w=>o= .ret (.tup [ze4 noB,num w])∧ ∃ j:Nat,H'=H.set r (some [.str s,num j])
 | .ok p j=>o= .ret (.tup [ze4 p,num 0])∧H'=H.set r (some [.str s,num j])
theorem zfC (s:List UInt8) (r:Nat) (H:Heap) (a w:Nat):zus s r H (.er a w)=fun o H'=>o= .ret (.tup [ze4 noB,num w])∧ ∃ j:Nat,H'=H.set r (some [.str s,num j]):=rfl
theorem zkw (s:List UInt8) (r:Nat) (H:Heap) (p:Nat→Bool) (j:Nat):zus s r H (.ok p j)=fun o H'=>o= .ret (.tup [ze4 p,num 0])∧H'=H.set r (some [.str s,num j]):=rfl
theorem zBI {bar:Nat} {H:Heap} {r:Nat} {s:List UInt8} {i:Nat} (h:Rd H r s i) (hi:i≤s.length) (hb:bar≤r) (hl:s.length≤10000):Wc (Rn fsT SA.sp bar 125 [.ptr r 0] H) (zus s r H (zcp s i)):=by
 have hs:=SA.mono
 have hrl:=zas h
 have hc:=zeL (bar:=bar) h hi [91,58]
 have h':=h
 unfold Rd at h'
 have hz:ze4 noB= .agg [.int .u64 0, .int .u64 0, .int .u64 0, .int .u64 0]:=rfl
 refine zaO hs zFQ rfl rfl ?_
 rw [zI4]
 by_cases hcl:comes s i [91,58]=true
 · -- a class
  have hlen:=zhb hcl (by simp)
  simp only [List.length_cons,List.length_nil] at hlen
  have hw:IntKind.i64.wrap ((i:Int)+2)=(i:Int)+2:=zal _ (by omega)
  have h0:(0:Int)≤(i:Int)+2:=by omega
  have ht:((i:Int)+2).toNat=i+2:=by omega
  have hle2:i+2≤s.length:=by omega
  have e1:List.take (s.length-(i+2)) (s.drop (i+2))=s.drop (i+2):=List.take_of_length_le (by simp)
  rw [hcl] at hc
  cases hcf:zdo (s.drop (i+2)) with
  | none =>
   have hcut:=zyJ (bar:=bar) (H:=H) hcf (by simp;omega)
   have e2:zcp s i= .er 0 3:=by simp [zcp,hcl,hcf]
   rw [e2,zfC,hz]
   simp [a125,zhI,zhH,zhJ,zhG,zhF,zhE,zhD,zhC,zhB,zhA,ze0,zeZ,zeY,zeX,zeW,zeV,zeU,zeT,zeS,zeR,zeQ,zeP,zad hs,zaa hs,zai hs,zab hs,zac hs,h',hc,hw,h0,ht,hle2,e1,hcut]
   exact ⟨i,(zea h).symm⟩
  | some n =>
   have hp:=zel hcf
   simp only [List.length_drop] at hp
   have hcut:=zyI (bar:=bar) (H:=H) hcf (by simp;omega)
   generalize hnm:(s.drop (i+2)).take n=nm at hcut
   have hnl:nm.length=n:=by rw [←hnm];simp;omega
   have hnamed:=fun H=>zx5 (bar:=bar) (H:=H) nm
   have hw4:IntKind.i64.wrap ((nm.length:Int)+4)=(nm.length:Int)+4:=zal _ (by omega)
   have hwi:IntKind.i64.wrap ((i:Int)+((nm.length:Int)+4))=(i:Int)+((nm.length:Int)+4):=zal _ (by omega)
   by_cases hr:zaD nm= []
   ·have e2:zcp s i= .er 0 40:=by simp [zcp,hcl,hcf,hnm,hr]
    have hn0: ∀ H,Rn fsT SA.sp bar 134 [.str nm] H=some (.ret (.tup [.agg [u64 (zaB (zaf (zaD nm)) 0 64),u64 (zaB (zaf (zaD nm)) 1 64),u64 (zaB (zaf (zaD nm)) 2 64),u64 (zaB (zaf (zaD nm)) 3 64)], .bool false]),H):=fun H=>by
     rw [hnamed H,zct];simp [hr]
    rw [e2,zfC,hz]
    simp [a125,zhI,zhH,zhJ,zhG,zhF,zhE,zhD,zhC,zhB,zhA,ze0,zeZ,zeY,zeX,zeW,zeV,zeU,zeT,zeS,zeR,zeQ,zeP,zad hs,zaa hs,zai hs,zab hs,zac hs,h',hc,hw,h0,ht,hle2,e1,hcut,hw4,hwi,hb,hrl,hn0]
    exact ⟨i+(nm.length+4),rfl⟩
   ·have e2:zcp s i= .ok (zaf (zaD nm)) (i+n+4):=by simp [zcp,hcl,hcf,hnm,hr]
    have hn0: ∀ H,Rn fsT SA.sp bar 134 [.str nm] H=some (.ret (.tup [.agg [u64 (zaB (zaf (zaD nm)) 0 64),u64 (zaB (zaf (zaD nm)) 1 64),u64 (zaB (zaf (zaD nm)) 2 64),u64 (zaB (zaf (zaD nm)) 3 64)], .bool true]),H):=fun H=>by
     rw [hnamed H,zct];simp [hr]
    have e3:(num (i+n+4))= .int .i64 ((i:Int)+((nm.length:Int)+4)):=by simp [num,hnl];omega
    rw [e2,zkw,zct,e3]
    simp [a125,zhI,zhH,zhJ,zhG,zhF,zhE,zhD,zhC,zhB,zhA,ze0,zeZ,zeY,zeX,zeW,zeV,zeU,zeT,zeS,zeR,zeQ,zeP,zad hs,zaa hs,zai hs,zab hs,zac hs,h',hc,hw,h0,ht,hle2,e1,hcut,hw4,hwi,hb,hrl,hn0]
 ·have hcl:comes s i [91,58]=false:=by simpa using hcl
  rw [hcl] at hc
  obtain ⟨o1,H1,q1,q2⟩:=znS h hi hb (by omega)
  cases hsg:zbi s i with
  | none =>
   rw [hsg] at q2
   obtain ⟨rfl,j,rfl⟩:=q2
   have e2:zcp s i= .er 0 3:=by simp [zcp,hcl,hsg]
   rw [e2,zfC,hz]
   simp [a125,zhI,zhH,zhJ,zhG,zhF,zhE,zhD,zhC,zhB,zhA,ze0,zeZ,zeY,zeX,zeW,zeV,zeU,zeT,zeS,zeR,zeQ,zeP,zad hs,zaa hs,zai hs,zab hs,zac hs,h',hc,q1]
   exact ⟨j,rfl⟩
  | some q =>
   obtain ⟨a,j⟩:=q
   rw [hsg] at q2
   obtain ⟨rfl,rfl⟩:=q2
   obtain ⟨j1,j2⟩:=zew hsg
   have hR:=h.set j
   have hRl:=zas hR
   have c1:=zeL (bar:=bar) hR j2 [45]
   have c2:=zeL (bar:=bar) hR j2 [45,93]
   have c3:=zeL (bar:=bar) hR j2 [45,91,58]
   have hadd:=fun H a b=>zkn (bar:=bar) (H:=H) noB a b
   have hR':=hR
   unfold Rd at hR'
   have hadd': ∀ H (a b:UInt8),Rn fsT SA.sp bar 136 [.agg [.int .u64 0, .int .u64 0, .int .u64 0, .int .u64 0], .int .u8 a.toNat, .int .u8 b.toNat] H=some (.ret (.agg [u64 (zaB (zak a b) 0 64),u64 (zaB (zak a b) 1 64),u64 (zaB (zak a b) 2 64),u64 (zaB (zak a b) 3 64)]),H):=fun H a b=>by
    have:=hadd H a b
    rw [zx0] at this
    exact this
   by_cases hcond:comes s j [45]=true∧ ¬ comes s j [45,93]=true∧ ¬ comes s j [45,91,58]=true
   ·obtain ⟨d1,d2,d3⟩:=hcond
    have d2:comes s j [45,93]=false:=by simpa using d2
    have d3:comes s j [45,91,58]=false:=by simpa using d3
    have hjl:=zhb d1 (by simp)
    simp only [List.length_cons,List.length_nil] at hjl
    have hwj:IntKind.i64.wrap ((j:Int)+1)=(j:Int)+1:=zal _ (by omega)
    have hset:(H.set r (some [.str s,num j])).set r (some [.str s,num (j+1)])=H.set r (some [.str s,num (j+1)]):=List.set_set ..
    obtain ⟨o3,H3,q3,q4⟩:=znS (bar:=bar) (h.set (j+1)) (by omega) hb (by omega)
    have hnj:num (j+1)= .int .i64 ((j:Int)+1):=by simp [num]
    rw [hnj] at q3 q4
    rw [d1] at c1;rw [d2] at c2;rw [d3] at c3
    cases hsg2:zbi s (j+1) with
    | none =>
     rw [hsg2] at q4
     obtain ⟨rfl,k,rfl⟩:=q4
     have e2:zcp s i= .er 0 3:=by simp [zcp,hcl,hsg,d1,d2,d3,hsg2]
     rw [e2,zfC,hz]
     simp [a125,zhI,zhH,zhJ,zhG,zhF,zhE,zhD,zhC,zhB,zhA,ze0,zeZ,zeY,zeX,zeW,zeV,zeU,zeT,zeS,zeR,zeQ,zeP,zad hs,zaa hs,zai hs,zab hs,zac hs,h',hc,q1,c1,c2,c3,hR',hwj,hb,hrl,q3,zae]
     exact ⟨k,rfl⟩
    | some q =>
     obtain ⟨b,k⟩:=q
     rw [hsg2] at q4
     obtain ⟨rfl,rfl⟩:=q4
     by_cases hba:b<a
     ·have hba':(b.toNat:Int)<(a.toNat:Int):=by rw [UInt8.lt_iff_toNat_lt] at hba;omega
      have e2:zcp s i= .er 0 4:=by simp [zcp,hcl,hsg,d1,d2,d3,hsg2,hba]
      rw [e2,zfC,hz]
      simp [a125,zhI,zhH,zhJ,zhG,zhF,zhE,zhD,zhC,zhB,zhA,ze0,zeZ,zeY,zeX,zeW,zeV,zeU,zeT,zeS,zeR,zeQ,zeP,zad hs,zaa hs,zai hs,zab hs,zac hs,h',hc,q1,c1,c2,c3,hR',hwj,hb,hrl,q3,zae,hba']
      exact ⟨k,rfl⟩
     ·have hba': ¬ (b.toNat:Int)<(a.toNat:Int):=by rw [UInt8.lt_iff_toNat_lt] at hba;omega
      have e2:zcp s i= .ok (zak a b) k:=by simp [zcp,hcl,hsg,d1,d2,d3,hsg2,hba]
      rw [e2,zkw,zct]
      simp [a125,zhI,zhH,zhJ,zhG,zhF,zhE,zhD,zhC,zhB,zhA,ze0,zeZ,zeY,zeX,zeW,zeV,zeU,zeT,zeS,zeR,zeQ,zeP,zad hs,zaa hs,zai hs,zab hs,zac hs,h',hc,q1,c1,c2,c3,hR',hwj,hb,hrl,q3,zae,hba',hadd']
   ·have e2:zcp s i= .ok (zak a a) j:=by
     simp only [zcp,hcl,hsg,Bool.false_eq_true,if_false]
     rw [if_neg hcond]
    rw [e2,zkw,zct]
    cases d1:comes s j [45] with
    | false =>
     rw [d1] at c1
     simp [a125,zhI,zhH,zhJ,zhG,zhF,zhE,zhD,zhC,zhB,zhA,ze0,zeZ,zeY,zeX,zeW,zeV,zeU,zeT,zeS,zeR,zeQ,zeP,zad hs,zaa hs,zai hs,zab hs,zac hs,h',hc,q1,c1,hadd']
    | true =>
     rw [d1] at c1
     cases d2:comes s j [45,93] with
     | true =>
      rw [d2] at c2
      simp [a125,zhI,zhH,zhJ,zhG,zhF,zhE,zhD,zhC,zhB,zhA,ze0,zeZ,zeY,zeX,zeW,zeV,zeU,zeT,zeS,zeR,zeQ,zeP,zad hs,zaa hs,zai hs,zab hs,zac hs,h',hc,q1,c1,c2,hadd']
     | false =>
      rw [d2] at c2
      cases d3:comes s j [45,91,58] with
      | true =>
       rw [d3] at c3
       simp [a125,zhI,zhH,zhJ,zhG,zhF,zhE,zhD,zhC,zhB,zhA,ze0,zeZ,zeY,zeX,zeW,zeV,zeU,zeT,zeS,zeR,zeQ,zeP,zad hs,zaa hs,zai hs,zab hs,zac hs,h',hc,q1,c1,c2,c3,hadd']
      | false=>exact absurd ⟨d1,by simp [d2],by simp [d3]⟩ hcond
end
section
def ItemsOut (s:List UInt8) (v:Nat→AV) (x:PR (Nat→Bool)) (e:AExit) (t:EH):Prop :=
 match x with
 | .er _ w=>e= .ret∧ ∃ v' K,t=(mkE 2342153315636223987 v',K)∧v' 4= .box (zbG noB)∧v' 5=num 0∧v' 6=num w
 | .ok p j=>e= .exit 0∧ ∃ v',t=(mkE 2342153315636223987 v',[some [.str s,num j]])∧v' 9= .box (zbG p)∧v' 4=v 4∧v' 7=v 7∧v' 8=v 8
theorem ztk (s:List UInt8) (v:Nat→AV) (a w:Nat):ItemsOut s v (.er a w)=fun e t=>e= .ret∧ ∃ v' K,t=(mkE 2342153315636223987 v',K)∧v' 4= .box (zbG noB)∧v' 5=num 0∧v' 6=num w:=rfl
theorem ztj (s:List UInt8) (v:Nat→AV) (p:Nat→Bool) (j:Nat):ItemsOut s v (.ok p j)=fun e t=>e= .exit 0∧ ∃ v',t=(mkE 2342153315636223987 v',[some [.str s,num j]])∧v' 9= .box (zbG p)∧v' 4=v 4∧v' 7=v 7∧v' 8=v 8:=rfl
theorem ItemsOut.of_eq {s:List UInt8} {v w:Nat→AV} {x:PR (Nat→Bool)} {e:AExit} {t:EH} (h:ItemsOut s v x e t) (h4:v 4=w 4) (h7:v 7=w 7) (h8:v 8=w 8):ItemsOut s w x e t:=by
 cases x with
 | er a b=>exact h
 | ok p j =>
  obtain ⟨h1,v',h2,h3,k4,k7,k8⟩:=h
  exact ⟨h1,v',h2,h3,k4.trans h4,k7.trans h7,k8.trans h8⟩
theorem zob {s:List UInt8} (hl:s.length≤10000): ∀ (n i:Nat) (first:Bool) (p:Nat→Bool) (v:Nat→AV),i≤s.length→s.length<n+i→v 4= .box (zbG noB)→v 7= .ptr 0 0→v 9= .box (zbG p)→v 10= .bool first →
  Wp (evI fsT SA.sp 0 (.loop a114l15) (mkE 2342153315636223987 v,[some [.str s,num i]])) (ItemsOut s v (zdk s n first p i)):=by
 have hs:=SA.mono
 intro n
 induction n with
 | zero=>intro i first p v h1 h2;omega
 | succ n ih =>
  intro i first p v h1 h2 v4 v7 v9 v10
  have hR:Rd [some [.str s,num i]] 0 s i:=rfl
  have hc:=zeL (bar:=0) hR h1 [93]
  have hz:([.int .u64 0, .int .u64 0, .int .u64 0, .int .u64 0]:List AV)=zbG noB:=rfl
  rw [zaj hs a114l15.eq_1]
  by_cases hend:first=false∧comes s i [93]=true
  ·obtain ⟨rfl,he⟩:=hend
   have e1:zdk s (n+1) false p i= .ok p i:=by simp [zdk,he]
   rw [he] at hc
   rw [e1,ztj]
   simp [zad hs,zaa hs,zab hs,zac hs,zo0,v4,v7,v9,v10,hc]
   exact ⟨_,rfl,by simp [v9],by simp [v4],by simp [v7],by simp⟩
  ·have e0:zdk s (n+1) first p i=match zcp s i with
     | .er a w=> .er a w
     | .ok q j=>zdk s n false (orB p q) j:=by
    rw [zdk,if_neg (by simpa using hend)]
    cases zcp s i<;>rfl
   have hgo:first=true∨(first=false∧comes s i [93]=false):=by
    cases first with
    | true=>exact .inl rfl
    | false=>exact .inr ⟨rfl,by simpa using hend⟩
   obtain ⟨o,K,q1,q2⟩:=zBI (bar:=0) hR h1 (Nat.le_refl _) hl
   have hp:=ziu (s:=s) i
   rw [e0]
   cases hit:zcp s i with
   | er a w =>
    rw [hit] at q2 hp
    obtain ⟨rfl,j,rfl⟩:=q2
    rw [ztk]
    rw [ze4] at q1
    have h4: ∀ p:Nat→Bool,List.take 4 (zbG p)=zbG p:=fun p=>rfl
    have c1: ∀ q:Nat→Bool,setCells [.int .u64 0, .int .u64 0, .int .u64 0, .int .u64 0] 0 (zbG q)=zbG q:=fun q=>rfl
    have c2: ∀ p q:Nat→Bool,setCells (zbG p) 0 (zbG q)=zbG q:=fun p q=>rfl
    rcases hp with rfl | rfl | rfl
    all_goals
     simp only [num,Int.cast_ofNat_Int] at q1
     rcases hgo with rfl | ⟨rfl,he⟩
     ·simp [zad hs,zaa hs,zab hs,zac hs,zo0,znd,znc,znb,zna,zm9,v4,v7,v9,v10,q1,zbn,h4,c1,c2]
      exact ⟨_,rfl,by simp;rfl,by simp,by simp⟩
     ·rw [he] at hc
      simp [zad hs,zaa hs,zab hs,zac hs,zo0,znd,znc,znb,zna,zm9,v4,v7,v9,v10,q1,hc,zbn,h4,c1,c2]
      exact ⟨_,rfl,by simp;rfl,by simp,by simp⟩
   | ok q j =>
    rw [hit] at q2 hp
    obtain ⟨rfl,rfl⟩:=q2
    simp only [PR.sat] at hp
    have hun:=zw5 (bar:=0) (H:= [some [.str s,num j]]) p q
    rw [ze4,ze4,ze4] at hun
    rw [ze4] at q1
    have h4: ∀ p:Nat→Bool,List.take 4 (zbG p)=zbG p:=fun p=>rfl
    have c1: ∀ q:Nat→Bool,setCells [.int .u64 0, .int .u64 0, .int .u64 0, .int .u64 0] 0 (zbG q)=zbG q:=fun q=>rfl
    have c2: ∀ p q:Nat→Bool,setCells (zbG p) 0 (zbG q)=zbG q:=fun p q=>rfl
    have fin: ∀ (w:Nat→AV),w 4=v 4→w 7=v 7→w 8=v 8→w 9= .box (zbG (orB p q))→w 10= .bool false→Wp (evI fsT SA.sp 0 (.loop a114l15) (mkE 2342153315636223987 w,[some [.str s,num j]])) (ItemsOut s v (zdk s n false (orB p q) j)):=fun w w4 w7 w8 w9 w10 =>
     (ih j false (orB p q) w hp.2 (by omega) (by rw [w4,v4]) (by rw [w7,v7]) w9 w10).mono fun e t h=>h.of_eq w4 w7 w8
    rcases hgo with rfl | ⟨rfl,he⟩
    ·simp [zad hs,zaa hs,zab hs,zac hs,zo0,znd,znc,znb,zna,zm9,v4,v7,v9,v10,q1,hun,zbn,h4,c1,c2]
     refine fin _ ?_ ?_ ?_ ?_ ?_<;>simp
    ·rw [he] at hc
     simp [zad hs,zaa hs,zab hs,zac hs,zo0,znd,znc,znb,zna,zm9,v4,v7,v9,v10,q1,hun,hc,zbn,h4,c1,c2]
     refine fin _ ?_ ?_ ?_ ?_ ?_<;>simp
def zcK (x:PR (Nat→Bool)):AV :=
 match x with
 | .er _ w=> .tup [ze4 noB,num 0,num w]
 | .ok p j=> .tup [ze4 p,num j,num 0]
theorem ztD {bar:Nat} {H:Heap} {s:List UInt8} {i:Nat} (hl:s.length≤10000) (hc:s[i]? = some 91):Rn fsT SA.sp bar 114 [.str s,num i] H=some (.ret (zcK (zjt s i)),H):=by
 have hs:=SA.mono
 have hlt:=zaK hc
 have h1: ¬ ((i:Int)<0):=by omega
 have h2: ¬ ((s.length:Int)≤(i:Int)):=by omega
 have hw:IntKind.i64.wrap ((i:Int)+1)=(i:Int)+1:=zal _ (by omega)
 have hw2:IntKind.i64.wrap ((i:Int)+1+1)=(i:Int)+1+1:=zal _ (by omega)
 have hR:Rd [some [.str s,num (i+1)]] 0 s (i+1):=rfl
 have hcm:=zeL (bar:=0) hR (by omega) [94]
 have hz:([.int .u64 0, .int .u64 0, .int .u64 0, .int .u64 0]:List AV)=zbG noB:=rfl
 have hn1:num (i+1)= .int .i64 ((i:Int)+1):=rfl
 have hn2:num (i+2)= .int .i64 ((i:Int)+1+1):=by simp [num];omega
 have h4: ∀ p:Nat→Bool,List.take 4 (zbG p)=zbG p:=fun p=>rfl
 have c1: ∀ q:Nat→Bool,setCells [.int .u64 0, .int .u64 0, .int .u64 0, .int .u64 0] 0 (zbG q)=zbG q:=fun q=>rfl
 have c2: ∀ p q:Nat→Bool,setCells (zbG p) 0 (zbG q)=zbG q:=fun p q=>rfl
 have hnot:=fun p H=>zxZ (bar:=0) (H:=H) p
 simp only [ze4] at hnot
 have frzC: ∀ (p:Nat→Bool) H,zbd 0 H (zbG p)=some (zbG p):=fun p H=>by simp [zgW,frz,zbd]
 -- behind the loop
 have after: ∀ (x:PR (Nat→Bool)) (other:Bool) (v:Nat→AV) (e:AExit) (t:EH),v 4= .box (zbG noB)→v 7= .ptr 0 0→v 8= .bool other→(∀ p j,x= .ok p j→j≤s.length)→ItemsOut s v x e t →
   zlh 0 (andThen (evI fsT SA.sp 0 (((ACode.region zt3).seq (ACode.cond true (.v 61) (.region zt2) .skip)).seq ((ACode.draw zt4).seq .ret))) (fin [.cell 4 (some 4), .tmp 5, .tmp 6] (thaw 0 (· = .ret (zcK (match x with | .er a w=> .er a w | .ok p j=> .ok (bif other then zq1 p else p) (j+1))))))) e t:=by
  intro x other v e t v4 v7 v8 hj h
  cases x with
  | er a w =>
   obtain ⟨rfl,v',K,rfl,k4,k5,k6⟩:=h
   simp [k4,k5,k6,zbn,h4,zcK,ze4,frz,zbd,frzC]
  | ok p j =>
   obtain ⟨rfl,v',rfl,k9,k4,k7,k8⟩:=h
   rw [v4] at k4;rw [v7] at k7;rw [v8] at k8
   have hj:=hj p j rfl
   have hwj:IntKind.i64.wrap ((j:Int)+1)=(j:Int)+1:=zal _ (by omega)
   cases other<;>simp [zt3,zt2,zt4,zad hs,zaa hs,zai hs,zab hs,zac hs,zaz,k4,k7,k8,k9,zbn,h4,c1,c2,hnot,zcK,ze4,frz,zbd,frzC,hwj,zau,zav]
 refine zao hs zFZ rfl rfl rfl ?_
 rw [zJd]
 have hit:=fun first p i h1 h2=>ze7 (s:=s) (s.length+1) first p i h1 h2
 unfold zjt
 cases hcc:comes s (i+1) [94] with
 | true =>
  rw [hcc] at hcm
  have hlen:=zhb hcc (by simp)
  simp only [List.length_cons,List.length_nil] at hlen
  rw [hn1] at hcm
  simp [a114,zz6,zz5,zz4,zz3,zz2,zz1,zz0,zzZ,zzY,zad hs,zaa hs,zai hs,zab hs,zac hs,h1,h2,hc,hw,hw2,hcm,hz]
  rw [←hn2]
  refine (zob hl (s.length+1) (i+2) true noB _ (by omega) (by omega) ?_ ?_ ?_ ?_).mono fun e t h=> ?_
  ·simp
  ·simp
  ·simp
  ·simp
  ·have hq:=hit true noB (i+2) (by omega) (by omega)
   refine after _ true _ e t ?_ ?_ ?_ (fun p j e=> ?_) h
   ·simp
   ·simp
   ·simp
   ·rw [e] at hq;simp only [PR.sat] at hq;omega
 | false =>
  rw [hcc] at hcm
  rw [hn1] at hcm
  simp [a114,zz6,zz5,zz4,zz3,zz2,zz1,zz0,zzZ,zzY,zad hs,zaa hs,zai hs,zab hs,zac hs,h1,h2,hc,hw,hw2,hcm,hz]
  rw [←hn1]
  refine (zob hl (s.length+1) (i+1) true noB _ (by omega) (by omega) ?_ ?_ ?_ ?_).mono fun e t h=> ?_
  ·simp
  ·simp
  ·simp
  ·simp
  ·have hq:=hit true noB (i+1) (by omega) (by omega)
   refine after _ false _ e t ?_ ?_ ?_ (fun p j e=> ?_) h
   ·simp
   ·simp
   ·simp
   ·rw [e] at hq;simp only [PR.sat] at hq;omega
end
end Go.Ak
