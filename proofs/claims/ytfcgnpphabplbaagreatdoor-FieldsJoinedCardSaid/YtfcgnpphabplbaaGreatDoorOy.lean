/- A decimal number read: dec.Parse. -/
import Derived.Test.YtfcgnpphabplbaaGreatDoorOx
import Derived.Test.YtfcgnpphabplbaaGreatDoorOd
set_option linter.unusedVariables false
set_option linter.unusedSimpArgs false
namespace Go.Ak
attribute [local simp] zcx zd7 zd8 zfV zbm zc2 zaG za9 za0 zba zbs zbK zbL zbg zcJ zdJ zdK zcB zcC
 zaN zcN wanted zbb opd zkt live zcD zde zbA zcA ziq put zes esc zqx ztJ args drop1 zg1 zuW zuV ztH zou rd wr zbE sub AV.cells pack one setCells zeH znX zc3 roOf zaL zfw zav zau zey zbw newRow newObj step zcF zbM contents take flat look lim zex bound zec zeu eqS eqL eqA ver
 zcI zdI zdH zcG zcH
 List.getElem?_cons_zero List.getElem?_cons_succ zdl zbp zaE zaF zcE
attribute [local simp] sR sT cV bL mvV mvL mgV mgL asL asI asB ldN ldV ldL ldG stV stL fdL fdV fdG fgL nlC nlG bnI bvI bnL bvL bxI bxU bgI bgL exT lnS lgS clA clB clC clI pkT pkF pvT pvF pgT pgF ixL axV bxV apL
attribute [-simp] getElem?_pos
section
theorem zkE (c:UInt8) (n:Nat) (hn:n<256):((c.toNat:Int)==(n:Int))=decide (c=UInt8.ofNat n):=by
 by_cases h:c=UInt8.ofNat n
 ·subst h
  simp [Nat.mod_eq_of_lt hn]
 ·have: ¬ c.toNat=n:=fun e=>h (UInt8.toNat_inj.1 (by rw [e];simp [Nat.mod_eq_of_lt hn]))
  simp [h];omega
theorem zFg {bar:Nat} {H:Heap} {a:Nat} (ha:a<18446744073709551616):Rn fsT SA.sp bar 214 [.int .u64 (a:Int), .int .u64 10] H=some (.ret (.tup [.int .u64 ((a*10/18446744073709551616:Nat):Int), .int .u64 ((a*10%18446744073709551616:Nat):Int)]),H):=by
 rw [zLd]
 show zvP [.int .u64 (.ofNat a), .int .u64 (.ofNat 10)] H=_
 have h1:Nat.blt a 18446744073709551616=true:=by rw [Nat.blt_eq];exact ha
 have h2:Nat.blt 10 18446744073709551616=true:=rfl
 simp only [zvP,h1,h2,Bool.and_self,cond_true]
 rfl
theorem zuU {bar k n:Nat} {o:Bool} {c:UInt8} (hb:bar=0) (hc:zAP c=true) (hk:k≤1000000) (hn:n<18446744073709551616) :
  Rn fsT SA.sp bar 215 [.ptr 0 0, .int .u8 c.toNat, .int .u64 (k:Int)] [some [.int .u64 (n:Int), .bool o]]=some (.ret (.tup []),[some [.int .u64 (((n+(c.toNat-48)*k)%18446744073709551616:Nat):Int), .bool (o||decide (0<(n+(c.toNat-48)*k)/18446744073709551616))]]):=by
 subst hb
 rw [zHi]
 show znP 0 [.ptr 0 0, .int .u8 (.ofNat c.toNat), .int .u64 (.ofNat k)] [some [.int .u64 (.ofNat n), .bool o]]=_
 simp only [zAP,Bool.and_eq_true,decide_eq_true_eq] at hc
 have h1:Nat.ble 48 c.toNat=true:=Nat.ble_eq_true_of_le hc.1
 have h2:Nat.ble c.toNat 57=true:=Nat.ble_eq_true_of_le hc.2
 have h3:Nat.ble k 1000000=true:=Nat.ble_eq_true_of_le hk
 have h4:Nat.blt n 18446744073709551616=true:=by rw [Nat.blt_eq];exact hn
 have h5:Nat.ble 0 0=true:=rfl
 simp only [znP,h1,h2,h3,h4,h5,Bool.and_self,cond_true,List.getElem?_cons_zero,List.getElem?_cons_succ,List.set_cons_zero,List.set_cons_succ]
 rfl
theorem zg9 {bar:Nat} {H:Heap} {s:List UInt8} {i:Nat}:Rn fsT SA.sp bar 213 [.str s,num i] H=some (.ret (.bool (ziz s i)),H):=by
 have hs:=SA.mono
 refine zao hs zFq rfl rfl rfl ?_
 rw [zIF]
 unfold ziz
 by_cases h:i<s.length
 ·have hI:(i:Int)<(s.length:Int):=by omega
  have hc:s[i]? = some s[i]:=List.getElem?_eq_getElem h
  generalize s[i]=c at hc
  rw [hc]
  simp only [zAP]
  by_cases h1:48≤c.toNat
  ·have h1':(48:Int)≤(c.toNat:Int):=by omega
   by_cases h2:c.toNat≤57
   ·have h2':(c.toNat:Int)≤57:=by omega
    simp [a213,zrS,zrR,zad hs,zaa hs,zac hs,h,hI,hc,h1,h2,h1',h2',frz,zbd]
   ·have h2': ¬ (c.toNat:Int)≤57:=by omega
    simp [a213,zrS,zrR,zad hs,zaa hs,zac hs,h,hI,hc,h1,h2,h1',h2',frz,zbd]
  ·have h1': ¬ (48:Int)≤(c.toNat:Int):=by omega
   simp [a213,zrS,zrR,zad hs,zaa hs,zac hs,h,hI,hc,h1,h1',frz,zbd]
 ·have hI: ¬ (i:Int)<(s.length:Int):=by omega
  have hc:s[i]? = none:=List.getElem?_eq_none (by omega)
  rw [hc]
  simp [a213,zrS,zrR,zad hs,zaa hs,zac hs,h,hI,frz,zbd]
theorem ztG {bar:Nat} {H:Heap} {s:List UInt8} (hl:s.length≤1000000): ∀ (m i:Nat) (v:Nat→AV),i+m=s.length→v 0= .str s→v 5=num i →
  Wp (evI fsT SA.sp bar (.loop a204l4) (mkE 349129794133781029338228097773851226701821 v,H)) (fun e t=>e= .exit 0∧ ∃ v',t=(mkE 349129794133781029338228097773851226701821 v',H)∧v' 0= .str s∧v' 5=num (i+zbN (s.drop i))):=by
 have hs:=SA.mono
 intro m
 induction m with
 | zero =>
  intro i v hi v0 v5
  have hi':i=s.length:=by omega
  subst hi'
  rw [List.drop_length]
  rw [zaj hs a204l4.eq_1]
  simp [zad hs,zaa hs,zab hs,zac hs,zrU,zrT,v0,v5]
  exact ⟨_,rfl,by simp [v0],by simp [v5,zbN]⟩
 | succ m ih =>
  intro i v hi v0 v5
  have hil:i<s.length:=by omega
  have hI:(i:Int)<(s.length:Int):=by omega
  have hc:s[i]? = some s[i]:=List.getElem?_eq_getElem hil
  have hd:s.drop i=s[i]::s.drop (i+1):=List.drop_eq_getElem_cons hil
  have hw1:IntKind.i64.wrap ((i:Int)+1)=((i+1:Nat):Int):=zal _ (by omega)
  rw [hd]
  generalize s[i]=c at hc
  have q1:=zkE c 32 (by omega)
  have q2:=zkE c 9 (by omega)
  have q3:=zkE c 10 (by omega)
  simp only [show ((32:Nat):Int)=32 from rfl,show ((9:Nat):Int)=9 from rfl,show ((10:Nat):Int)=10 from rfl] at q1 q2 q3
  rw [zaj hs a204l4.eq_1]
  unfold zbN
  by_cases hb:zhe c=true
  ·rw [if_pos hb]
   have next: ∀ w:Nat→AV,w 0= .str s→w 5=num (i+1)→Wp (evI fsT SA.sp bar (.loop a204l4) (mkE 349129794133781029338228097773851226701821 w,H)) (fun e t=>e= .exit 0∧ ∃ v',t=(mkE 349129794133781029338228097773851226701821 v',H)∧v' 0= .str s∧v' 5=num (i+(zbN (s.drop (i+1))+1))):=fun w w0 w5=>by
    rw [show i+(zbN (s.drop (i+1))+1)=i+1+zbN (s.drop (i+1)) by omega]
    exact ih (i+1) w (by omega) w0 w5
   have hcs:c=32∨c=9∨c=10:=by simpa [zhe,or_assoc] using hb
   have hcs:(((c.toNat:Int)==32)=true∧True∧True)∨(((c.toNat:Int)==32)=false∧((c.toNat:Int)==9)=true∧True)∨(((c.toNat:Int)==32)=false∧((c.toNat:Int)==9)=false∧((c.toNat:Int)==10)=true):=by
    rw [q1,q2,q3]
    rcases hcs with rfl | rfl | rfl
    ·exact .inl ⟨rfl,trivial,trivial⟩
    ·exact .inr (.inl ⟨rfl,rfl,trivial⟩)
    ·exact .inr (.inr ⟨rfl,rfl,rfl⟩)
   clear q1 q2 q3
   rcases hcs with ⟨r1,r2,r3⟩ | ⟨r1,r2,r3⟩ | ⟨r1,r2,r3⟩
   all_goals
    simp [zad hs,zaa hs,zab hs,zac hs,zrU,zrT,v0,v5,hI,hil,hc,hw1,r1,r2,r3]
    refine (next _ ?_ ?_).mono fun e t h=>by simpa using h
    ·simp [v0]
    ·simp
  ·rw [if_neg hb]
   have hcs: ¬ c=32∧ ¬ c=9∧ ¬ c=10:=by simpa [zhe,or_assoc] using hb
   have r1:((c.toNat:Int)==32)=false:=by rw [q1];simpa using hcs.1
   have r2:((c.toNat:Int)==9)=false:=by rw [q2];simpa using hcs.2.1
   have r3:((c.toNat:Int)==10)=false:=by rw [q3];simpa using hcs.2.2
   simp [zad hs,zaa hs,zab hs,zac hs,zrU,zrT,v0,v5,hI,hil,hc,hw1,r1,r2,r3]
   exact ⟨_,rfl,by simp [v0],by simp [v5]⟩
def rdH (n:Nat) (o:Bool):Heap:= [some [.int .u64 (n:Int), .bool o]]
def zHk (s:List UInt8) (i V:Nat) (v:Nat→AV) (e:AExit) (t:EH):Prop:=e= .exit 2∧ ∃ v' n' o',t=(mkE 349129794133781029338228097773851226701821 v',rdH n' o')∧stN (zmj (s.drop i) V).1 n' o'∧v' 0= .str s∧v' 5=num (i+(zmj (s.drop i) V).2)∧v' 6=v 6∧v' 7= .ptr 0 0∧v' 8=v 8
def zHl (s:List UInt8) (i k w V:Nat) (v:Nat→AV) (e:AExit) (t:EH):Prop:=e= .exit 4∧ ∃ v' n' o',t=(mkE 349129794133781029338228097773851226701821 v',rdH n' o')∧stN (zfo (s.drop i) w V).1 n' o'∧v' 0= .str s∧v' 5=num (i+(zfo (s.drop i) w V).2)∧v' 6=v 6∧v' 7= .ptr 0 0∧v' 11=num (k+(zfo (s.drop i) w V).2)
theorem zBJ {s:List UInt8} (hl:s.length≤1000000): ∀ (m i V n:Nat) (o:Bool) (v:Nat→AV),i+m=s.length→stN V n o→v 0= .str s→v 5=num i→v 7= .ptr 0 0 →
  Wp (evI fsT SA.sp 0 (.loop a204l15) (mkE 349129794133781029338228097773851226701821 v,rdH n o)) (zHk s i V v):=by
 have hs:=SA.mono
 intro m
 induction m with
 | zero =>
  intro i V n o v hi hst v0 v5 v7
  have hc:s[i]? = none:=List.getElem?_eq_none (by omega)
  have hd:=fun H=>zg9 (bar:=0) (H:=H) (s:=s) (i:=i)
  have hda:ziz s i=false:=by unfold ziz;rw [hc]
  rw [hda] at hd
  have hdr:s.drop i= []:=List.drop_eq_nil_of_le (by omega)
  rw [zaj hs a204l15.eq_1]
  simp [zad hs,zaa hs,zab hs,zac hs,zqb,zqa,zp9,zp8,zp7,v0,v5,hd]
  refine ⟨rfl,_,n,o,rfl,?_,?_,?_,?_,?_,?_⟩
  all_goals try rw [hdr]
  all_goals simp [v0,v5,v7,zmj,hst]
 | succ m ih =>
  intro i V n o v hi hst v0 v5 v7
  have hil:i<s.length:=by omega
  have hc:s[i]? = some s[i]:=List.getElem?_eq_getElem hil
  have hdr:s.drop i=s[i]::s.drop (i+1):=List.drop_eq_getElem_cons hil
  have hd:=fun H=>zg9 (bar:=0) (H:=H) (s:=s) (i:=i)
  have hw1:IntKind.i64.wrap ((i:Int)+1)=((i+1:Nat):Int):=zal _ (by omega)
  generalize s[i]=c at hc hdr
  have hda:ziz s i=zAP c:=by unfold ziz;rw [hc]
  rw [hda] at hd
  rw [zaj hs a204l15.eq_1]
  cases hb:zAP c with
  | false =>
   rw [hb] at hd
   simp [zad hs,zaa hs,zab hs,zac hs,zqb,zqa,zp9,zp8,zp7,v0,v5,hd]
   have e:zmj (s.drop i) V=(V,0):=by rw [hdr,zmj,if_neg (by rw [hb];simp)]
   refine ⟨rfl,_,n,o,rfl,?_,?_,?_,?_,?_,?_⟩
   all_goals try rw [e]
   all_goals simp [v0,v5,v7,hst]
  | true =>
   rw [hb] at hd
   have hlt:=zux hst
   have hm:=fun H=>zFg (bar:=0) (H:=H) hlt
   have hst2:=zES hst
   have hlt2:=zux hst2
   have hn:=zuU (bar:=0) (k:=1000000) (o:=o||decide (0<n*10/18446744073709551616)) rfl hb (Nat.le_refl _) hlt2
   have hst3:=zxf hst2 ((c.toNat-48)*1000000)
   have next:=fun w=>ih (i+1) _ _ _ w (by omega) hst3
   generalize n*10%18446744073709551616=n2 at *
   generalize n*10/18446744073709551616=h2 at *
   generalize (n2+(c.toNat-48)*1000000)%18446744073709551616=n3 at *
   generalize (o||decide (0<h2)||decide (0<(n2+(c.toNat-48)*1000000)/18446744073709551616))=o3 at *
   simp only [rdH]
   have e:zmj (s.drop i) V=((zmj (s.drop (i+1)) (10*V+(c.toNat-48)*1000000)).1,(zmj (s.drop (i+1)) (10*V+(c.toNat-48)*1000000)).2+1):=by rw [hdr,zmj,if_pos hb]
   have turn: ∀ (w:Nat→AV) e t,w 6=v 6→w 8=v 8→zHk s (i+1) (10*V+(c.toNat-48)*1000000) w e t→zHk s i V v e t:=fun w x t w6 w8 ⟨h1,v',n',o',h2,h3,h4,h5,h6,h7,h8⟩=>by
    refine ⟨h1,v',n',o',h2,?_,h4,?_,h6.trans w6,h7,h8.trans w8⟩
    ·rw [e];exact h3
    ·rw [e,h5];simp only;congr 1;omega
   simp only [rdH] at next ⊢
   have hn:Rn fsT SA.sp 0 215 [.ptr 0 0, .int .u8 c.toNat, .int .u64 1000000] [some [.int .u64 (n2:Int), .bool (o||decide (0<h2))]]=some (.ret (.tup []),[some [.int .u64 (n3:Int), .bool o3]]):=hn
   cases o
   all_goals
    simp only [Bool.false_or,Bool.true_or] at hn
    simp [zad hs,zaa hs,zab hs,zac hs,zqb,zqa,zp9,zp8,zp7,v0,v5,v7,hd,hm,hn,hil,hc,hw1]
    refine (next _ ?_ ?_ ?_).mono fun e t h=>turn _ e t ?_ ?_ h
    all_goals simp [v0,v7]
theorem zyu {s:List UInt8} (hl:s.length≤1000000): ∀ (m i k w V n:Nat) (o:Bool) (v:Nat→AV),i+m=s.length→k≤i→w≤1000000→stN V n o→v 0= .str s→v 5=num i→v 7= .ptr 0 0→v 11=num k→v 12= .int .u64 (w:Int) →
  Wp (evI fsT SA.sp 0 (.loop a204l25) (mkE 349129794133781029338228097773851226701821 v,rdH n o)) (zHl s i k w V v):=by
 have hs:=SA.mono
 intro m
 induction m with
 | zero =>
  intro i k w V n o v hi hk hw hst v0 v5 v7 v11 v12
  have hc:s[i]? = none:=List.getElem?_eq_none (by omega)
  have hd:=fun H=>zg9 (bar:=0) (H:=H) (s:=s) (i:=i)
  have hda:ziz s i=false:=by unfold ziz;rw [hc]
  rw [hda] at hd
  have hdr:s.drop i= []:=List.drop_eq_nil_of_le (by omega)
  rw [zaj hs a204l25.eq_1]
  simp [zad hs,zaa hs,zab hs,zac hs,zp6,zp5,zp4,zp3,zp2,v0,v5,hd]
  refine ⟨rfl,_,n,o,rfl,?_,?_,?_,?_,?_,?_⟩
  all_goals try rw [hdr]
  all_goals simp [v0,v5,v7,v11,zfo,hst]
 | succ m ih =>
  intro i k w V n o v hi hk hw hst v0 v5 v7 v11 v12
  have hil:i<s.length:=by omega
  have hc:s[i]? = some s[i]:=List.getElem?_eq_getElem hil
  have hdr:s.drop i=s[i]::s.drop (i+1):=List.drop_eq_getElem_cons hil
  have hd:=fun H=>zg9 (bar:=0) (H:=H) (s:=s) (i:=i)
  have hw1:IntKind.i64.wrap ((i:Int)+1)=((i+1:Nat):Int):=zal _ (by omega)
  have hk1:IntKind.i64.wrap ((k:Int)+1)=((k+1:Nat):Int):=zal _ (by omega)
  generalize s[i]=c at hc hdr
  have hda:ziz s i=zAP c:=by unfold ziz;rw [hc]
  rw [hda] at hd
  rw [zaj hs a204l25.eq_1]
  cases hb:zAP c with
  | false =>
   rw [hb] at hd
   simp [zad hs,zaa hs,zab hs,zac hs,zp6,zp5,zp4,zp3,zp2,v0,v5,hd]
   have e:zfo (s.drop i) w V=(V,0):=by rw [hdr,zfo,if_neg (by rw [hb];simp)]
   refine ⟨rfl,_,n,o,rfl,?_,?_,?_,?_,?_,?_⟩
   all_goals try rw [e]
   all_goals simp [v0,v5,v7,v11,hst]
  | true =>
   rw [hb] at hd
   have hlt:=zux hst
   have hn:=zuU (bar:=0) (k:=w/10) (o:=o) rfl hb (by omega) hlt
   have hst3:=zxf hst ((c.toNat-48)*(w/10))
   have next:=fun x=>ih (i+1) (k+1) (w/10) _ _ _ x (by omega) (by omega) (by omega) hst3
   generalize (n+(c.toNat-48)*(w/10))%18446744073709551616=n3 at *
   generalize (o||decide (0<(n+(c.toNat-48)*(w/10))/18446744073709551616))=o3 at *
   have e:zfo (s.drop i) w V=((zfo (s.drop (i+1)) (w/10) (V+(c.toNat-48)*(w/10))).1,(zfo (s.drop (i+1)) (w/10) (V+(c.toNat-48)*(w/10))).2+1):=by rw [hdr,zfo,if_pos hb]
   have turn: ∀ (x:Nat→AV) y t,x 6=v 6→zHl s (i+1) (k+1) (w/10) (V+(c.toNat-48)*(w/10)) x y t→zHl s i k w V v y t:=fun x y t x6 ⟨h1,v',n',o',h2,h3,h4,h5,h6,h7,h8⟩=>by
    refine ⟨h1,v',n',o',h2,?_,h4,?_,h6.trans x6,h7,?_⟩
    ·rw [e];exact h3
    ·rw [e,h5];simp only;congr 1;omega
    ·rw [e,h8];simp only;congr 1;omega
   simp only [rdH] at next ⊢
   have hw10:IntKind.u64.wrap ((w:Int)/10)=(w:Int)/10:=by simp [IntKind.wrap,IntKind.bits,IntKind.signed];omega
   rw [show ((w/10:Nat):Int)=(w:Int)/10 from by omega] at hn
   simp [zad hs,zaa hs,zab hs,zac hs,zp6,zp5,zp4,zp3,zp2,v0,v5,v7,v11,v12,hd,hil,hc,hw1,hk1,hw10,hn]
   refine (next _ ?_ ?_ ?_ ?_ ?_).mono fun e t h=>turn _ e t ?_ h
   all_goals simp [v0,v7]
theorem zvT {bar:Nat} {H:Heap} {n p:Nat} {m:Bool} (hn:n<18446744073709551616):Rn fsT SA.sp bar 216 [.int .u64 (n:Int), .bool m] H=some (.ret (.tup [.int .i64 (zqy m n p).1,num (zqy m n p).2.2]),H):=by
 have hs:=SA.mono
 refine zao hs zFp rfl rfl rfl ?_
 rw [zIE]
 unfold zqy
 cases m with
 | false =>
  simp only [cond_false]
  by_cases h:9223372036854775808≤n
  ·have hI:(9223372036854775807:Int)<(n:Int):=by omega
   rw [if_pos (by simpa using h)]
   simp [a216,zrQ,zrP,zrO,zrN,zrM,zrL,zad hs,zaa hs,zab hs,zac hs,hI,frz,zbd]
  ·have hI: ¬ (9223372036854775807:Int)<(n:Int):=by omega
   have hI2: ¬ (9223372036854775808:Int)<(n:Int):=by omega
   have hw:IntKind.i64.wrap (n:Int)=n:=zal _ (by omega)
   rw [if_neg (by simpa using h)]
   simp [a216,zrQ,zrP,zrO,zrN,zrM,zrL,zad hs,zaa hs,zab hs,zac hs,hI,hI2,hw,frz,zbd]
 | true =>
  simp only [cond_true]
  by_cases h:9223372036854775808<n
  ·have hI:(9223372036854775808:Int)<(n:Int):=by omega
   rw [if_pos (by simpa using h)]
   simp [a216,zrQ,zrP,zrO,zrN,zrM,zrL,zad hs,zaa hs,zab hs,zac hs,hI,frz,zbd]
  ·have hI: ¬ (9223372036854775808:Int)<(n:Int):=by omega
   have hw:IntKind.i64.wrap (IntKind.u64.wrap (-(n:Int)))= -(n:Int):=by
    simp [IntKind.wrap,IntKind.bits,IntKind.signed]
    omega
   rw [if_neg (by simpa using h)]
   simp [a216,zrQ,zrP,zrO,zrN,zrM,zrL,zad hs,zaa hs,zab hs,zac hs,hI,hw,frz,zbd]
end
section
def trimF (s:List UInt8):List UInt8:=Lib.trimS s [32,9,10]
theorem zw7 (s:List UInt8):(trimF s).length≤s.length:=by
 unfold trimF Lib.trimS Lib.trimLeftS Lib.trimRightS
 refine Nat.le_trans (List.dropWhile_sublist _).length_le ?_
 rw [List.length_reverse]
 refine Nat.le_trans (List.dropWhile_sublist _).length_le ?_
 rw [List.length_reverse]
 exact Nat.le_refl _
theorem zAU {bar:Nat} {H:Heap} {s:List UInt8} (hl:s.length≤1000000):Rn fsT SA.sp bar 203 [.str s] H=some (.ret (.str (trimF s)),H):=by
 have hs:=SA.mono
 have ht: ∀ H,Rn fsT SA.sp 0 212 [.str s, .str [32,9,10]] H=some (.ret (.str (trimF s)),H):=fun H=>by
  rw [zHh]
  have h1:Nat.ble s.length 4294967296=true:=Nat.ble_eq_true_of_le (by omega)
  have h2:(Nat.ble ([32,9,10]:List UInt8).length 4294967280&&([32,9,10]:List UInt8).all (fun b=>Nat.blt b.toNat 128))=true:=by decide
  simp only [zqJ,h1,Bool.true_and,h2,cond_true]
  rfl
 refine zao hs zFs rfl rfl rfl ?_
 rw [zIH]
 simp [a203,zDQ,zDP,zad hs,zaa hs,ht,frz,zbd]
def zBk (x:Int×Nat×Nat):AV:= .tup [.int .i64 x.1,num x.2.1,num x.2.2]
theorem zpl {s:List UInt8} {i:Nat} {c d:UInt8} (h:s[i]? = some c):zwp s i d=decide (c=d):=by
 unfold zwp
 rw [h]
 by_cases e:c=d
 ·simp [e]
 ·simp [e]
theorem zlK {s:List UInt8} {i:Nat} {d:UInt8} (h:s[i]? = none):zwp s i d=false:=by
 unfold zwp
 rw [h]
 rfl
def zyH:ACode:= .seq (.seq (.region zmV) (.cond true (.v 129) (.seq (.region zmU) .ret) .skip)) (.seq (.region zp1) (.seq (.seq (.region zp0) (.cond true (.v 138) (.region zpZ) .skip)) (.seq (.region zpY) .ret)))
def zGi:ACode:= .seq (.region zzh) (.seq (.region zzg) (.seq (.block 2 (.loop a204l15)) (.seq (.region ziL) (.seq (.seq (.region ziK) (.cond true (.v 111) (.seq (.region ziJ) (.seq (.region ziI) (.block 4 (.loop a204l25)))) .skip)) zyH))))
theorem zzk:a204.body= .seq (.region zzj) (.seq (.region zzi) (.seq (.block 0 (.loop a204l4)) (.seq (.region zoC) (.seq (.seq (.region zoB) (.cond true (.v 61) (.region zoA) .skip)) zGi)))):=rfl
theorem zyG {V n p k:Nat} {o m:Bool} (hst:stN V n o) (v:Nat→AV) (v5:v 5=num p) (v6:v 6= .bool m) (v7:v 7= .ptr 0 0) (v11:v 11=num k) :
  Wp (evI fsT SA.sp 0 zyH (mkE 349129794133781029338228097773851226701821 v,rdH n o)) (fin [.tmp 2, .tmp 3, .tmp 4] (thaw 0 (· = .ret (zBk (if k=0 then (0,0,0) else zqy m V p))))):=by
 have hs:=SA.mono
 unfold zyH rdH zBk
 by_cases hk:k=0
 ·subst hk
  simp [zmV,zmU,zad hs,zaa hs,zab hs,zac hs,v5,v6,v7,v11,frz,zbd]
 ·have hk2:((k:Int)==0)=false:=by simp;omega
  rw [if_neg hk]
  have hsg:=fun H=>zvT (bar:=0) (H:=H) (p:=p) (m:=m) (zux hst)
  rcases hst with ⟨rfl,rfl,h⟩ | ⟨rfl,h1,h2⟩
  ·have hp:(zqy m n p).2.1=p:=by unfold zqy;split<;>rfl
   rw [hp]
   generalize (zqy m n p).1=x at *
   generalize (zqy m n p).2.2=e at *
   simp [zmV,zmU,zp1,zp0,zpZ,zpY,zad hs,zaa hs,zab hs,zac hs,v5,v6,v7,v11,hk2,hsg,frz,zbd]
  ·have hp:zqy m V p=(0,p,10):=by
    unfold zqy
    rw [if_pos]
    cases m<;>simp<;>omega
   rw [hp]
   generalize (zqy m n p).1=x at *
   generalize (zqy m n p).2.2=e at *
   simp [zmV,zmU,zp1,zp0,zpZ,zpY,zad hs,zaa hs,zab hs,zac hs,v5,v6,v7,v11,hk2,hsg,frz,zbd]
def zxd (s:List UInt8) (m:Bool) (a:Nat):Int×Nat×Nat :=
 let p:=a+(zmj (s.drop a) 0).2
 let v:=(zmj (s.drop a) 0).1
 if zwp s p 46&&(decide (0<(zmj (s.drop a) 0).2)||ziz s (p+1)) then
  zqy m (zfo (s.drop (p+1)) 1000000 v).1 (p+1+(zfo (s.drop (p+1)) 1000000 v).2)
 else if (zmj (s.drop a) 0).2=0 then (0,0,0) else zqy m v p
theorem zBN {s:List UInt8} {i w v:Nat} (h:ziz s i=true):0<(zfo (s.drop i) w v).2:=by
 unfold ziz at h
 cases hc:s[i]? with
 | none=>rw [hc] at h;cases h
 | some c =>
  rw [hc] at h
  have hil:=(List.getElem?_eq_some_iff.1 hc).1
  have hd:s.drop i=s[i]::s.drop (i+1):=List.drop_eq_getElem_cons hil
  have he:s[i]=c:=by rw [List.getElem?_eq_getElem hil] at hc;exact Option.some.inj hc
  rw [hd,he]
  unfold zfo
  rw [if_pos h]
  omega
theorem zBZ {s:List UInt8} (hl:s.length≤1000000) {a:Nat} (ha:a≤s.length) {m:Bool} (v:Nat→AV) (v0:v 0= .str s) (v5:v 5=num a) (v6:v 6= .bool m) :
  Wp (evI fsT SA.sp 0 zGi (mkE 349129794133781029338228097773851226701821 v,[])) (fin [.tmp 2, .tmp 3, .tmp 4] (thaw 0 (· = .ret (zBk (zxd s m a))))):=by
 have hs:=SA.mono
 unfold zGi
 have hloop:=fun w=>zBJ (s:=s) hl (s.length-a) a 0 0 false w (by omega) (.inl ⟨rfl,rfl,by omega⟩)
 have hk:=zyf (s.drop a) 0
 rw [List.length_drop] at hk
 obtain ⟨R,hR⟩: ∃ R,R=zBk (zxd s m a):=⟨_,rfl⟩
 rw [←hR]
 unfold zxd at hR
 simp only [rdH] at hloop
 simp [zzh,zzg,zad hs,zaa hs,zab hs,v0,v5,v6]
 refine (hloop _ ?_ ?_ ?_).mono fun e t h=> ?_
 ·simp [v0]
 ·simp [v5]
 ·simp
 obtain ⟨rfl,v1,n1,o1,rfl,hst,k0,k5,k6,k7,k8⟩:=h
 simp [v5,v6] at k6 k8
 clear hloop
 generalize (zmj (s.drop a) 0).1=V at *
 generalize (zmj (s.drop a) 0).2=k at *
 have hw:IntKind.i64.wrap ((a:Int)+(k:Int)-(a:Int))=(k:Int):=by rw [zal _ (by omega)];omega
 have hw1:IntKind.i64.wrap ((a:Int)+(k:Int)+1)=((a+k+1:Nat):Int):=zal _ (by omega)
 have hd:=fun H=>zg9 (bar:=0) (H:=H) (s:=s) (i:=a+k+1)
 rw [show num (a+k+1)=AV.int .i64 ((a:Int)+(k:Int)+1) from congrArg (AV.int .i64) (by omega)] at hd
 -- behind the point
 have goes:a+k<s.length→0<k+(zfo (s.drop (a+k+1)) 1000000 V).2→R=zBk (zqy m (zfo (s.drop (a+k+1)) 1000000 V).1 (a+k+1+(zfo (s.drop (a+k+1)) 1000000 V).2))→ ∀ w:Nat→AV,w 0= .str s→w 5=num (a+k+1)→w 6= .bool m→w 7= .ptr 0 0→w 11=num k→w 12= .int .u64 1000000 →
   Wp (evI fsT SA.sp 0 (.loop a204l25) (mkE 349129794133781029338228097773851226701821 w,rdH n1 o1)) (zlh 4 (andThen (evI fsT SA.sp 0 zyH) (fin [.tmp 2, .tmp 3, .tmp 4] (thaw 0 (· = .ret R))))):=fun hlt hp hq w w0 w5 w6 w7 w11 w12=>by
  have hl2:=fun w=>zyu (s:=s) hl (s.length-(a+k+1)) (a+k+1) k 1000000 V n1 o1 w (by omega) (by omega) (Nat.le_refl _) hst
  refine (hl2 w w0 w5 w7 w11 w12).mono fun e t h=> ?_
  obtain ⟨rfl,v2,n2,o2,rfl,hst2,j0,j5,j6,j7,j11⟩:=h
  rw [w6] at j6
  have hfin:=zyG hst2 v2 j5 j6 j7 j11
  rw [if_neg (by omega),←hq] at hfin
  simpa using hfin
 have stay:R=zBk (if k=0 then (0,0,0) else zqy m V (a+k))→ ∀ w:Nat→AV,w 5=num (a+k)→w 6= .bool m→w 7= .ptr 0 0→w 11=num k →
   Wp (evI fsT SA.sp 0 zyH (mkE 349129794133781029338228097773851226701821 w,rdH n1 o1)) (fin [.tmp 2, .tmp 3, .tmp 4] (thaw 0 (· = .ret R))):=fun hq w w5 w6 w7 w11=>by rw [hq];exact zyG hst w w5 w6 w7 w11
 cases hc:s[a+k]? with
 | none =>
  have hI: ¬ (a:Int)+(k:Int)<(s.length:Int):=by have:=List.getElem?_eq_none_iff.1 hc;omega
  simp only [zlK hc,Bool.false_and,Bool.false_eq_true,if_false] at hR
  simp [ziL,ziK,ziJ,ziI,zad hs,zaa hs,zab hs,zac hs,k0,k5,k6,k7,k8,hw,hI]
  refine stay hR _ ?_ ?_ ?_ ?_
  all_goals simp [k5,k6,k7]
 | some c =>
  have hil:=(List.getElem?_eq_some_iff.1 hc).1
  have hI:(a:Int)+(k:Int)<(s.length:Int):=by omega
  have q1:=zkE c 46 (by omega)
  simp only [show ((46:Nat):Int)=46 from rfl] at q1
  have hneg:(0:Int)≤(a:Int)+(k:Int):=by omega
  have htn:((a:Int)+(k:Int)).toNat=a+k:=by omega
  by_cases h1:c=46
  ·have e1:((c.toNat:Int)==46)=true:=by rw [q1];simpa using h1
   have d1:decide (c=46)=true:=by simpa using h1
   simp only [zpl hc,d1,Bool.true_and] at hR
   by_cases hk0:0<k
   ·have hkI2:(0:Int)<(k:Int):=by omega
    rw [decide_eq_true hk0,Bool.true_or,if_pos rfl] at hR
    simp [ziL,ziK,ziJ,ziI,zad hs,zaa hs,zab hs,zac hs,k0,k5,k6,k7,k8,hw,hw1,hI,hil,hc,hneg,htn,e1,hkI2,hk0]
    refine goes hil (by omega) hR _ ?_ ?_ ?_ ?_ ?_ ?_
    all_goals simp [k0,k6,k7]
   ·have hkI2: ¬ (0:Int)<(k:Int):=by omega
    rw [decide_eq_false hk0,Bool.false_or] at hR
    cases hda:ziz s (a+k+1) with
    | true =>
     rw [hda] at hd
     have hp:=zBN (w:=1000000) (v:=V) hda
     rw [hda,if_pos rfl] at hR
     simp [ziL,ziK,ziJ,ziI,zad hs,zaa hs,zab hs,zac hs,k0,k5,k6,k7,k8,hw,hw1,hI,hil,hc,hneg,htn,e1,hkI2,hk0,hd]
     refine goes hil (by omega) hR _ ?_ ?_ ?_ ?_ ?_ ?_
     all_goals simp [k0,k6,k7]
    | false =>
     rw [hda] at hd
     rw [hda] at hR
     simp only [Bool.false_eq_true,if_false] at hR
     simp [ziL,ziK,ziJ,ziI,zad hs,zaa hs,zab hs,zac hs,k0,k5,k6,k7,k8,hw,hw1,hI,hil,hc,hneg,htn,e1,hkI2,hk0,hd]
     refine stay hR _ ?_ ?_ ?_ ?_
     all_goals simp [k5,k6,k7]
  ·have e1:((c.toNat:Int)==46)=false:=by rw [q1];simpa using h1
   have d1:decide (c=46)=false:=by simpa using h1
   simp only [zpl hc,d1,Bool.false_and,Bool.false_eq_true,if_false] at hR
   simp [ziL,ziK,ziJ,ziI,zad hs,zaa hs,zab hs,zac hs,k0,k5,k6,k7,k8,hw,hI,hil,hc,hneg,htn,e1]
   refine stay hR _ ?_ ?_ ?_ ?_
   all_goals simp [k5,k6,k7]
theorem zGh {bar:Nat} {H:Heap} {s:List UInt8} (hl:s.length≤1000000):Rn fsT SA.sp bar 204 [.str s] H=some (.ret (zBk (zDB s)),H):=by
 have hs:=SA.mono
 refine zao hs zFr rfl rfl rfl ?_
 rw [zIG,zzk]
 have hloop:=fun v=>ztG (bar:=0) (H:= []) hl s.length 0 v (by omega)
 simp [zzj,zzi,zrU,zrT,zad hs,zaa hs,zab hs]
 refine (hloop _ ?_ ?_).mono fun e t h=> ?_
 ·simp
 ·simp
 obtain ⟨rfl,v1,rfl,k0,k5⟩:=h
 simp only [List.drop_zero,Nat.zero_add] at k5
 have hb:=zot s
 have hF:zDB s=zxd s (zwp s (zbN s) 45) (zvU s):=rfl
 have hsp:zvU s≤s.length:=by
  unfold zvU
  split
  ·rename_i h
   cases hc:s[zbN s]? with
   | none=>rw [zlK hc,zlK hc] at h;cases h
   | some c=>have:=(List.getElem?_eq_some_iff.1 hc).1;omega
  ·exact hb
 have tail:=fun w=>zBZ hl hsp (m:=zwp s (zbN s) 45) w
 rw [hF]
 generalize zBk (zxd s (zwp s (zbN s) 45) (zvU s))=R at *
 unfold zvU at tail
 generalize zbN s=b at *
 cases hc:s[b]? with
 | none =>
  have hI: ¬ (b:Int)<(s.length:Int):=by have:=List.getElem?_eq_none_iff.1 hc;omega
  simp only [zlK hc] at tail
  simp [zoC,zoB,zoA,zad hs,zaa hs,zab hs,zac hs,k0,k5,hI]
  refine tail _ ?_ ?_ ?_
  all_goals simp [k0,k5]
 | some c =>
  have hbl:=(List.getElem?_eq_some_iff.1 hc).1
  have hI:(b:Int)<(s.length:Int):=by omega
  have hw:IntKind.i64.wrap ((b:Int)+1)=((b+1:Nat):Int):=zal _ (by omega)
  simp only [zpl hc] at tail
  have q1:=zkE c 45 (by omega)
  have q2:=zkE c 43 (by omega)
  simp only [show ((45:Nat):Int)=45 from rfl,show ((43:Nat):Int)=43 from rfl] at q1 q2
  by_cases h1:c=45
  ·have e1:((c.toNat:Int)==45)=true:=by rw [q1];simpa using h1
   simp only [h1,decide_true,Bool.true_or,if_true] at tail
   simp [zoC,zoB,zoA,zad hs,zaa hs,zab hs,zac hs,k0,k5,hI,hbl,hc,hw,e1]
   refine tail _ ?_ ?_ ?_
   all_goals simp [k0]
  ·have e1:((c.toNat:Int)==45)=false:=by rw [q1];simpa using h1
   have d1:decide (c=45)=false:=by simpa using h1
   by_cases h2:c=43
   ·have e2:((c.toNat:Int)==43)=true:=by rw [q2];simpa using h2
    have d2:decide (c=43)=true:=by simpa using h2
    simp only [d1,d2,Bool.or_true,if_true] at tail
    simp [zoC,zoB,zoA,zad hs,zaa hs,zab hs,zac hs,k0,k5,hI,hbl,hc,hw,e1,e2]
    refine tail _ ?_ ?_ ?_
    all_goals simp [k0]
   ·have e2:((c.toNat:Int)==43)=false:=by rw [q2];simpa using h2
    have d2:decide (c=43)=false:=by simpa using h2
    simp only [d1,d2,Bool.or_false,Bool.false_eq_true,if_false] at tail
    simp [zoC,zoB,zoA,zad hs,zaa hs,zab hs,zac hs,k0,k5,hI,hbl,hc,hw,e1,e2]
    refine tail _ ?_ ?_ ?_
    all_goals simp [k0,k5]
end
end Go.Ak
