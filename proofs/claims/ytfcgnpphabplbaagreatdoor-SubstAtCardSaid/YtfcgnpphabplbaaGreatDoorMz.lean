/- A text parted by any separator: At and the document's; that the law answers true. -/
import Derived.Test.YtfcgnpphabplbaaGreatDoorMy
import Derived.Test.YtfcgnpphabplbaaGreatDoorMd
set_option linter.unusedVariables false
set_option linter.unusedSimpArgs false
namespace Go.Ak
attribute [local simp] zbN zda zdb zeJ zbh zcO zaE zaX zaP zaY zbg zbv zbw za9 zb2 zc7 zc8 zbT zbU
 zaN zcS wanted zbl opd zjq live zbW zcT zbm zbS zhi put zdE esc zn7 zqD args drop1 zgh zqB zqA zqC zmS rd wr zbH sub AV.cells pack one setCells zet zmt zcV roOf zaL zeW zav zat zdA za6 newRow newObj step zbY zbx contents take flat look lim zd4 bound zdo zdH eqS eqL eqA ver
 zb1 zc6 zc5 zbZ zb0
 List.getElem?_cons_zero List.getElem?_cons_succ zc4 zbd zaB zaC zbX
attribute [local simp] sR sT cV bL mvV mvL mgV mgL asL asI asB ldN ldV ldL ldG stV stL fdL fdV fdG fgL nlC nlG bnI bvI bnL bvL bxI bxU bgI bgL exT lnS lgS clA clB clC clI pkT pkF pvT pvF pgT pgF ixL axV bxV apL
attribute [-simp] getElem?_pos
section
theorem zy5 {bar:Nat} {H:Heap} {c:UInt8}:Rn fsT SA.sp bar 193 [.int .u8 c.toNat] H=some (.ret (.bool (ziI c)),H):=by
 have hs:=SA.mono
 refine zan hs zF2 rfl rfl rfl ?_
 rw [zJm]
 unfold ziI
 have q: ∀ n:Nat,n<256→((c.toNat:Int)==(n:Int))=decide (c=UInt8.ofNat n):=fun n hn=>by
  by_cases h:c=UInt8.ofNat n
  ·subst h
   simp [Nat.mod_eq_of_lt hn]
  ·have: ¬ c.toNat=n:=fun e=>h (UInt8.toNat_inj.1 (by rw [e];simp [Nat.mod_eq_of_lt hn]))
   simp [h];omega
 have q1:=q 32 (by omega)
 have q2:=q 9 (by omega)
 have q3:=q 10 (by omega)
 simp only [show ((32:Nat):Int)=32 from rfl,show ((9:Nat):Int)=9 from rfl,show ((10:Nat):Int)=10 from rfl] at q1 q2 q3
 by_cases h1:c=32
 ·simp [a193,zr6,zr5,zad hs,zaa hs,h1,frz,zbG]
 ·by_cases h2:c=9
  ·simp [a193,zr6,zr5,zad hs,zaa hs,h2,frz,zbG]
  ·by_cases h3:c=10
   ·simp [a193,zr6,zr5,zad hs,zaa hs,h3,frz,zbG]
   ·have r1:((c.toNat:Int)==32)=false:=by rw [q1];simpa using h1
    have r2:((c.toNat:Int)==9)=false:=by rw [q2];simpa using h2
    have r3:((c.toNat:Int)==10)=false:=by rw [q3];simpa using h3
    simp [a193,zr6,zr5,zad hs,zaa hs,r1,r2,r3,h1,h2,h3,frz,zbG]
def zlH:Option Nat→Int
 | none=> -1
 | some a=>a
def zH5 (s:List UInt8) (x:Nat×Nat):List UInt8:=(s.drop x.1).take (x.2-x.1)
theorem zs1 {bar:Nat} {H:Heap} {s:List UInt8} (hl:s.length≤1000000) (total:List (List UInt8)): ∀ (n i:Nat) (st:Option Nat) (out:List (List UInt8)) (v:Nat→AV),i+n=s.length→(∀ a,st=some a→a≤i)→out.length≤i →
   v 0= .str s→v 3= .slc .own (zaA out)→v 4= .int .i64 (zlH st)→v 5=num i→out++(wSp (s.drop i) i st).map (zH5 s)=total →
   Wp (evI fsT SA.sp bar (.loop a183l11) (mkE 8610907197 v,H)) (fun e t=>e= .exit 0∧ ∃ v',t=(mkE 8610907197 v',H)∧v' 3= .slc .own (zaA total)):=by
 have hs:=SA.mono
 intro n
 induction n with
 | zero =>
  intro i st out v hi hst hout v0 v3 v4 v5 htot
  have hi':i=s.length:=by omega
  subst hi'
  have hd:s.drop s.length= []:=List.drop_length
  have hw1:IntKind.i64.wrap ((s.length:Int)+1)=((s.length+1:Nat):Int):=zak _ (by omega)
  have hgt: ¬ ((s.length:Int)+1≤(s.length:Int)):=by omega
  rw [hd] at htot
  rw [zah hs a183l11.eq_1]
  cases st with
  | none =>
   simp only [wSp,List.map_nil,List.append_nil] at htot
   subst htot
   simp only [zlH] at v4
   simp [zad hs,zaa hs,zab hs,zac hs,zkj,zki,zkh,zkg,zkf,zke,zkd,zgz,v0,v3,v4,v5,hw1]
   rw [zah hs a183l11.eq_1]
   simp [zad hs,zaa hs,zab hs,zac hs,zkj,zki,zkh,zkg,zkf,zke,zkd,zgz,v0,v3,v4,v5,hgt]
   exact ⟨_,rfl,by simp [v3]⟩
  | some a =>
   have ha:=hst a rfl
   have hal:(a:Int)≤(s.length:Int):=by omega
   have hok:=zb5 out
   have hlen:(zaA out).length+1≤4294967296:=by rw [zdc];omega
   simp only [wSp,List.map_cons,List.map_nil,zH5] at htot
   have htk:List.take (s.length-a) (s.drop a)=s.drop a:=List.take_of_length_le (by simp)
   rw [htk] at htot
   subst htot
   rw [zeV]
   have h1: ∀ x,zaA [x]= [.str x]:=fun _=>rfl
   rw [h1]
   generalize zaA out=Y at *
   simp only [zlH] at v4
   simp [zad hs,zaa hs,zab hs,zac hs,zkj,zki,zkh,zkg,zkf,zke,zkd,zgz,v0,v3,v4,v5,hw1,ha,hal,htk,za6,hok,hlen]
   rw [zah hs a183l11.eq_1]
   simp [zad hs,zaa hs,zab hs,zac hs,zkj,zki,zkh,zkg,zkf,zke,zkd,zgz,v0,v3,v4,v5,hgt]
   exact ⟨_,rfl,by simp⟩
 | succ n ih =>
  intro i st out v hi hst hout v0 v3 v4 v5 htot
  have hil:i<s.length:=by omega
  have hle:(i:Int)≤(s.length:Int):=by omega
  have hne:((i:Int)==(s.length:Int))=false:=by simp;omega
  have hc:s[i]? = some s[i]:=List.getElem?_eq_getElem hil
  have hd:s.drop i=s[i]::s.drop (i+1):=List.drop_eq_getElem_cons hil
  have hb:=fun H=>zy5 (bar:=bar) (H:=H) (c:=s[i])
  have hw1:IntKind.i64.wrap ((i:Int)+1)=((i+1:Nat):Int):=zak _ (by omega)
  rw [hd,zjr] at htot
  generalize s[i]=c at *
  rw [zah hs a183l11.eq_1]
  cases hbl:ziI c with
  | true =>
   rw [hbl] at hb
   rw [if_pos hbl] at htot
   cases st with
   | none =>
    simp only [zlH] at v4
    simp [zad hs,zaa hs,zab hs,zac hs,zkj,zki,zkh,zkg,zkf,zke,zkd,zgz,v0,v3,v4,v5,hle,hil,hne,hc,hb,hw1]
    refine ih (i+1) none out _ (by omega) (by simp) (by omega) ?_ ?_ ?_ ?_ htot
    all_goals simp [v0,v3,zlH]
   | some a =>
    have ha:=hst a rfl
    have hai:(a:Int)≤(i:Int):=by omega
    have hok:=zb5 out
    have hlen:(zaA out).length+1≤4294967296:=by rw [zdc];omega
    have htot2:(out ++ [zH5 s (a,i)])++(wSp (s.drop (i+1)) (i+1) none).map (zH5 s)=total:=by rw [←htot];simp
    have next:=fun w=>ih (i+1) none (out ++ [zH5 s (a,i)]) w (by omega) (by simp) (by simp;omega)
    rw [zeV] at next
    have h1: ∀ x,zaA [x]= [.str x]:=fun _=>rfl
    rw [h1] at next
    generalize zaA out=Y at *
    simp only [zlH] at v4
    have hle2:i≤s.length:=by omega
    simp [zad hs,zaa hs,zab hs,zac hs,zkj,zki,zkh,zkg,zkf,zke,zkd,zgz,v0,v3,v4,v5,hle,hil,hle2,hne,hc,hb,hw1,ha,hai,za6,hok,hlen]
    refine next _ ?_ ?_ ?_ ?_ htot2
    all_goals simp [v0,zlH,zH5]
  | false =>
   rw [hbl] at hb
   rw [if_neg (by rw [hbl];simp)] at htot
   cases st with
   | none =>
    simp only [zlH] at v4
    simp [zad hs,zaa hs,zab hs,zac hs,zkj,zki,zkh,zkg,zkf,zke,zkd,zgz,v0,v3,v4,v5,hle,hil,hne,hc,hb,hw1]
    refine ih (i+1) (some i) out _ (by omega) (by intro a h;cases h;omega) (by omega) ?_ ?_ ?_ ?_ htot
    all_goals simp [v0,v3,zlH]
   | some a =>
    have ha:=hst a rfl
    have hneg: ¬ (a:Int)<0:=by omega
    simp only [zlH] at v4
    simp [zad hs,zaa hs,zab hs,zac hs,zkj,zki,zkh,zkg,zkf,zke,zkd,zgz,v0,v3,v4,v5,hle,hil,hne,hc,hb,hw1,hneg]
    refine ih (i+1) (some a) out _ (by omega) (by intro b h;cases h;omega) (by omega) ?_ ?_ ?_ ?_ htot
    all_goals simp [v0,v3,v4,zlH]
theorem zwj {bar:Nat} {H:Heap} {s:List UInt8} (hl:s.length≤1000000):Rn fsT SA.sp bar 183 [.str s] H=some (.ret (.slc .own (zaA (zcG s))),H):=by
 have hs:=SA.mono
 have hfr:=zpK [] .own (zcG s)
 refine zan hs zF3 rfl rfl rfl ?_
 rw [zJn]
 have hloop:=fun v=>zs1 (bar:=0) (H:= []) hl (zcG s) s.length 0 none [] v (by omega) (by simp) (Nat.le_refl _)
 simp [zEp,zEo,zEn,a183,zad hs,zaa hs,zab hs,zac hs]
 refine (hloop _ ?_ ?_ ?_ ?_ ?_).mono fun e t h=> ?_
 ·simp
 ·simp [zaA]
 ·simp [zlH]
 ·simp
 ·rfl
 obtain ⟨rfl,v',rfl,k3⟩:=h
 generalize zaA (zcG s)=A at *
 simp [zzF,zad hs,zaa hs,k3,hfr]
theorem zxq {bar:Nat} {H:Heap} {s:List UInt8} (hl:s.length≤1000000):Rn fsT SA.sp bar 180 [.str s] H=some (.ret (.slc .ro (zaA (zcG s))),H):=by
 have hs:=SA.mono
 have hfr:=zpK [] .ro (zcG s)
 have hsp: ∀ H,Rn fsT SA.sp 0 191 [.str s, .fn 190 []] H=some (.ret (.slc .ro (zaA (zcG s))),H):=fun H=>by
  rw [zA4]
  have:Nat.ble s.length 4294967296=true:=Nat.ble_eq_true_of_le (by omega)
  simp only [zjx,this,cond_true]
  rfl
 refine zan hs zF4 rfl rfl rfl ?_
 rw [zJo]
 generalize zaA (zcG s)=A at *
 simp [a180,zEr,zEq,zad hs,zaa hs,hsp,hfr]
end
section
def rowA (l:List (List UInt8)) (A:AV):Prop:=A= .slc .ro (zaA l)∨(l= []∧A= .nils)
theorem zyZ {bar:Nat} {H:Heap} {s:List UInt8} (hl:s.length≤1000000):Rn fsT SA.sp bar 181 [.str s] H=some (.ret (if s= [] then .nils else .slc .ro (zaA (zdq s))),H):=by
 rw [zDx]
 cases s with
 | nil=>rfl
 | cons c t =>
  have:Nat.ble (c::t).length 4294967296=true:=Nat.ble_eq_true_of_le (by omega)
  simp only [zml,this,cond_true]
  rfl
theorem zws {bar:Nat} {H:Heap} {s:List UInt8} (hl:s.length≤1000000):Rn fsT SA.sp bar 184 [.str s] H=some (.ret (.slc .ro (zaA (zdq s))),H):=by
 rw [zA3]
 have:Nat.ble s.length 4294967296=true:=Nat.ble_eq_true_of_le (by omega)
 simp only [zjw,this,cond_true]
 rfl
def zgq (s sep:List UInt8):List (List UInt8)×Nat×Nat :=
 if sep= [32] then (zcG s,0,0) else if sep= [] then (zdq s,0,0) else if 1<sep.length∨sep= [92] then
  (match ztk sep with
  | .er p w=>([],p,w)
  | .ok r _=>(if s= [] then [] else zbJ s 0 (zdT r s),0,0))
 else match sep with
  | []=>([],0,0)
  | c::_=>(if s= [] then [] else zaM c s,0,0)
theorem zfn {n:Nat} {H:Heap} {A:AV} {p w:Nat} (h:frz n H A=some A):frz n H (.tup [A,num p,num w])=some (.tup [A,num p,num w]):=by simp [frz,zbG,h]
theorem zqO (sep:List UInt8):sep= [32]∨sep= []∨(sep ≠ [32]∧sep ≠ []∧((1<sep.length)∨sep= [92]))∨(∃ c,sep= [c]∧c≠32∧c≠92):=by
 rcases sep with _ | ⟨c,_ | ⟨d,l⟩⟩
 ·exact .inr (.inl rfl)
 ·by_cases h:c=32
  ·left;rw [h]
  ·by_cases h2:c=92
   ·right;right;left
    refine ⟨by simpa using h,by simp, .inr (by rw [h2])⟩
   ·exact .inr (.inr (.inr ⟨c,rfl,h,h2⟩))
 ·right;right;left
  exact ⟨by simp,by simp, .inl (by simp)⟩
theorem zwc {bar:Nat} {H:Heap} {s:List UInt8} {c:UInt8} (hl:s.length≤1000):Rn fsT SA.sp bar 182 [.str s, .str [c]] H=some (.ret (.slc .ro (zaA (zaM c s))),H):=by
 rw [zDv]
 have:Nat.blt s.length 4294967281=true:=by rw [zqA];simp;omega
 simp only [zmk,this,cond_true,zlu]
 rfl
theorem zMc {s sep:List UInt8} (hl:s.length≤900): ∃ A,rowA (zgq s sep).1 A∧ ∀ bar H,Rn fsT SA.sp bar 157 [.str s, .str sep] H=some (.ret (.tup [A,num (zgq s sep).2.1,num (zgq s sep).2.2]),H):=by
 have hs:=SA.mono
 rcases zqO sep with rfl | rfl | ⟨h32,h0,hx⟩ | ⟨c,rfl,h32,h92⟩
 ·refine ⟨.slc .ro (zaA (zcG s)), .inl rfl,fun bar H=> ?_⟩
  have hw:=fun H=>zxq (bar:=0) (H:=H) (s:=s) (by omega)
  have hf:=fun n H=>zex n H .ro (zcG s)
  have hf3:=fun n H=>zfn (p:=0) (w:=0) (hf n H)
  show Rn fsT SA.sp bar 157 [.str s, .str [32]] H=some (.ret (.tup [_,num 0,num 0]),H)
  refine zan hs zhw rfl rfl rfl ?_
  rw [zlB]
  generalize zaA (zcG s)=A at *
  simp [a157,zkt,zks,zkr,zkq,zkp,zko,zkn,zkm,zkl,zkk,zgC,zgB,zgA,zad hs,zaa hs,zac hs,zab hs,zi3,zgi,zgh,hw]
  exact hf3 _ _
 ·have hw:=fun H=>zyZ (bar:=0) (H:=H) (s:=s) (by omega)
  by_cases e:s= []
  ·subst e
   refine ⟨.nils, .inr ⟨rfl,rfl⟩,fun bar H=> ?_⟩
   show Rn fsT SA.sp bar 157 [.str [], .str []] H=some (.ret (.tup [_,num 0,num 0]),H)
   refine zan hs zhw rfl rfl rfl ?_
   rw [zlB]
   simp only [if_true] at hw
   simp [a157,zkt,zks,zkr,zkq,zkp,zko,zkn,zkm,zkl,zkk,zgC,zgB,zgA,zad hs,zaa hs,zac hs,zab hs,zi3,zgi,zgh,hw,frz,zbG]
  ·refine ⟨.slc .ro (zaA (zdq s)), .inl rfl,fun bar H=> ?_⟩
   have hf:=fun n H=>zex n H .ro (zdq s)
   have hf3:=fun n H=>zfn (p:=0) (w:=0) (hf n H)
   show Rn fsT SA.sp bar 157 [.str s, .str []] H=some (.ret (.tup [_,num 0,num 0]),H)
   refine zan hs zhw rfl rfl rfl ?_
   rw [zlB]
   rw [if_neg e] at hw
   generalize zaA (zdq s)=A at *
   simp [a157,zkt,zks,zkr,zkq,zkp,zko,zkn,zkm,zkl,zkk,zgC,zgB,zgA,zad hs,zaa hs,zac hs,zab hs,zi3,zgi,zgh,hw]
   exact hf3 _ _
 ·have b32:zgi sep [32]=false:=by rw [zcZ];simpa using h32
  have b0:zgi sep []=false:=by rw [zcZ];simpa using h0
  have h1:((1<(sep.length:Int))∧True)∨(¬ (1<(sep.length:Int))∧zgi sep [92]=true):=by
   by_cases h:1<sep.length
   ·exact .inl ⟨by omega,trivial⟩
   ·rcases hx with hx | hx
    ·exact absurd hx h
    ·exact .inr ⟨by omega,by rw [hx];rfl⟩
  obtain ⟨o,K,q1,q2⟩:=zuJ (bar:=0) (H:= []) sep (Nat.zero_le _)
  unfold zgq
  rw [if_neg h32,if_neg h0,if_pos hx]
  cases hn:ztk sep with
  | er p w =>
   have hw:=ztj hn
   have hw2:((w:Int) != 0)=true:=by simp [bne];omega
   rw [hn] at q2
   obtain ⟨rfl,rfl⟩:=q2
   refine ⟨.nils, .inr ⟨rfl,rfl⟩,fun bar H=> ?_⟩
   simp only
   refine zan hs zhw rfl rfl rfl ?_
   rw [zlB]
   rcases h1 with ⟨h1,h2⟩ | ⟨h1,h2⟩ <;>
    simp [a157,zkt,zks,zkr,zkq,zkp,zko,zkn,zkm,zkl,zkk,zgC,zgB,zgA,zad hs,zaa hs,zac hs,zab hs,zi3,b32,b0,h1,h2,q1,hw2,frz,zbG]
  | ok r j =>
   rw [hn] at q2
   obtain ⟨pid,rfl,hpl,hF,hP⟩:=q2
   have hsp:=zxE (bar:=0) hP (s:=s) (by omega)
   simp only
   by_cases e:s= []
   ·rw [if_pos e] at hsp ⊢
    refine ⟨.nils, .inr ⟨rfl,rfl⟩,fun bar H=> ?_⟩
    refine zan hs zhw rfl rfl rfl ?_
    rw [zlB]
    rcases h1 with ⟨h1,h2⟩ | ⟨h1,h2⟩ <;>
     simp [a157,zkt,zks,zkr,zkq,zkp,zko,zkn,zkm,zkl,zkk,zgC,zgB,zgA,zad hs,zaa hs,zac hs,zab hs,zi3,b32,b0,h1,h2,q1,hsp,frz,zbG]
   ·rw [if_neg e] at hsp ⊢
    refine ⟨_, .inl rfl,fun bar H=> ?_⟩
    have hf:=fun n H=>zex n H .ro (zbJ s 0 (zdT r s))
    have hok:=zb5 (zbJ s 0 (zdT r s))
    have hf3:=fun n H=>zfn (p:=0) (w:=0) (hf n H)
    refine zan hs zhw rfl rfl rfl ?_
    rw [zlB]
    generalize zaA (zbJ s 0 (zdT r s))=A at *
    rcases h1 with ⟨h1,h2⟩ | ⟨h1,h2⟩
    all_goals
     simp [a157,zkt,zks,zkr,zkq,zkp,zko,zkn,zkm,zkl,zkk,zgC,zgB,zgA,zad hs,zaa hs,zac hs,zab hs,zi3,b32,b0,h1,h2,q1,hsp,hok]
     exact hf3 _ _
 ·have b32:zgi [c] [32]=false:=by rw [zcZ];simpa using h32
  have b92:zgi [c] [92]=false:=by rw [zcZ];simpa using h92
  have b0:zgi [c] []=false:=rfl
  have hsp:=fun H=>zwc (bar:=0) (H:=H) (s:=s) (c:=c) (by omega)
  have hat:zgq s [c]=(if s= [] then [] else zaM c s,0,0):=by
   unfold zgq
   rw [if_neg (by simpa using h32),if_neg (by simp),if_neg (by simpa using h92)]
  rw [hat]
  by_cases e:s= []
  ·subst e
   refine ⟨.nils, .inr ⟨rfl,rfl⟩,fun bar H=> ?_⟩
   show Rn fsT SA.sp bar 157 [.str [], .str [c]] H=some (.ret (.tup [_,num 0,num 0]),H)
   refine zan hs zhw rfl rfl rfl ?_
   rw [zlB]
   have bn:zgi [] []=true:=rfl
   simp [a157,zkt,zks,zkr,zkq,zkp,zko,zkn,zkm,zkl,zkk,zgC,zgB,zgA,zad hs,zaa hs,zac hs,zab hs,zi3,bn,b32,b92,b0,frz,zbG]
  ·rw [if_neg e]
   refine ⟨_, .inl rfl,fun bar H=> ?_⟩
   have b3:zgi s []=false:=by rw [zcZ];simpa using e
   have hf:=fun n H=>zex n H .ro (zaM c s)
   have hf3:=fun n H=>zfn (p:=0) (w:=0) (hf n H)
   show Rn fsT SA.sp bar 157 [.str s, .str [c]] H=some (.ret (.tup [_,num 0,num 0]),H)
   refine zan hs zhw rfl rfl rfl ?_
   rw [zlB]
   generalize zaA (zaM c s)=A at *
   simp [a157,zkt,zks,zkr,zkq,zkp,zko,zkn,zkm,zkl,zkk,zgC,zgB,zgA,zad hs,zaa hs,zac hs,zab hs,zi3,b32,b92,b0,b3,hsp]
   exact hf3 _ _
end
section
def zpI (p:List UInt8):List (List UInt8)→List (List UInt8)
 | []=> [p]
 | x::r=>(p++x)::r
theorem zrh (c:UInt8) (l:List UInt8):zpI [] (zaM c l)=zaM c l:=by
 cases h:zaM c l with
 | nil=>exact absurd h (zqY c l)
 | cons x r=>rfl
theorem zwM (p:List UInt8) (c:UInt8) (l:List UInt8):zpI p (zaM c (c::l))=p::zaM c l:=by
 simp [zaM,zpI]
theorem ztH (p:List UInt8) {b c:UInt8} (h:b≠c) (l:List UInt8):zpI p (zaM c (b::l))=zpI (p ++ [b]) (zaM c l):=by
 have e:zaM c (b::l)=match zaM c l with
  | []=> [[b]]
  | x::r=>(b::x)::r:=by rw [zaM,if_neg h]<;>rfl
 rw [e]
 cases hp:zaM c l with
 | nil=>exact absurd hp (zqY c l)
 | cons x r=>simp [zpI]
theorem zBA {bar:Nat} {H:Heap} {s:List UInt8} {c:UInt8} (hl:s.length≤1000000) (h3:zgi s []=false) (total:List (List UInt8)): ∀ (n i f:Nat) (out:List (List UInt8)) (v:Nat→AV),i+n=s.length→f≤i→out.length≤i →
   v 0= .str s→v 1= .str [c]→v 10= .slc .own (zaA out)→v 11=num f→v 12=num i→out++zpI ((s.drop f).take (i-f)) (zaM c (s.drop i))=total →
   Wp (evI fsT SA.sp bar (.loop a158l16) (mkE 9223935021302439923 v,H)) (fun e t=>e= .exit 0∧ ∃ v',t=(mkE 9223935021302439923 v',H)∧v' 10= .slc .own (zaA total)):=by
 have hs:=SA.mono
 intro n
 induction n with
 | zero =>
  intro i f out v hi hf hout v0 v1 v10 v11 v12 htot
  have hi':i=s.length:=by omega
  subst hi'
  have hd:s.drop s.length= []:=List.drop_length
  have hw1:IntKind.i64.wrap ((s.length:Int)+1)=((s.length+1:Nat):Int):=zak _ (by omega)
  have hgt: ¬ ((s.length:Int)+1≤(s.length:Int)):=by omega
  have hfl:(f:Int)≤(s.length:Int):=by omega
  have hok:=zb5 out
  have hlen:(zaA out).length+1≤4294967296:=by rw [zdc];omega
  have htk:List.take (s.length-f) (s.drop f)=s.drop f:=List.take_of_length_le (by simp)
  rw [hd,htk] at htot
  simp only [zaM,zpI,List.append_nil] at htot
  subst htot
  rw [zeV]
  have h1: ∀ x,zaA [x]= [.str x]:=fun _=>rfl
  rw [h1]
  generalize zaA out=Y at *
  rw [zah hs a158l16.eq_1]
  simp [zad hs,zaa hs,zai hs,zab hs,zac hs,zfJ,zfK,zfI,zfH,v0,v1,v10,v11,v12,hw1,hf,hfl,htk,za6,hok,hlen,zi3,h3]
  rw [zah hs a158l16.eq_1]
  simp [zad hs,zaa hs,zai hs,zab hs,zac hs,zfJ,zfK,zfI,zfH,v0,v1,v10,v11,v12,hgt]
  exact ⟨_,rfl,by simp⟩
 | succ n ih =>
  intro i f out v hi hf hout v0 v1 v10 v11 v12 htot
  have hil:i<s.length:=by omega
  have hle:(i:Int)≤(s.length:Int):=by omega
  have hne:((i:Int)==(s.length:Int))=false:=by simp;omega
  have hc:s[i]? = some s[i]:=List.getElem?_eq_getElem hil
  have hd:s.drop i=s[i]::s.drop (i+1):=List.drop_eq_getElem_cons hil
  have hw1:IntKind.i64.wrap ((i:Int)+1)=((i+1:Nat):Int):=zak _ (by omega)
  have htk1:(s.drop f).take (i+1-f)=(s.drop f).take (i-f) ++ [s[i]]:=by
   rw [show i+1-f=(i-f)+1 by omega,List.take_add_one,List.getElem?_drop,show f+(i-f)=i by omega,hc];rfl
  rw [hd] at htot
  generalize s[i]=b at *
  rw [zah hs a158l16.eq_1]
  by_cases e:b=c
  ·subst e
   have e1:((b.toNat:Int)==(b.toNat:Int))=true:=by simp
   rw [zwM] at htot
   have hfi:(f:Int)≤(i:Int):=by omega
   have hle2:i≤s.length:=by omega
   have hok:=zb5 out
   have hlen:(zaA out).length+1≤4294967296:=by rw [zdc];omega
   have htot2:(out ++ [(s.drop f).take (i-f)])++zpI ((s.drop (i+1)).take (i+1-(i+1))) (zaM b (s.drop (i+1)))=total:=by
    rw [Nat.sub_self,List.take_zero,zrh,←htot];simp
   have next:=fun w=>ih (i+1) (i+1) (out ++ [(s.drop f).take (i-f)]) w (by omega) (Nat.le_refl _) (by simp;omega)
   rw [zeV] at next
   have h1: ∀ x,zaA [x]= [.str x]:=fun _=>rfl
   rw [h1] at next
   generalize zaA out=Y at *
   simp [zad hs,zaa hs,zai hs,zab hs,zac hs,zfJ,zfK,zfI,zfH,v0,v1,v10,v11,v12,hle,hil,hle2,hne,hc,hw1,hf,hfi,za6,hok,hlen,zi3,h3]
   refine next _ ?_ ?_ ?_ ?_ ?_ htot2
   all_goals simp [v0,v1]
  ·have e1:((b.toNat:Int)==(c.toNat:Int))=false:=by
    have: ¬ b.toNat=c.toNat:=fun q=>e (UInt8.toNat_inj.1 q)
    simp;omega
   rw [ztH _ e,←htk1] at htot
   simp [zad hs,zaa hs,zai hs,zab hs,zac hs,zfJ,zfK,zfI,zfH,v0,v1,v10,v11,v12,hle,hil,hne,hc,hw1,zi3,h3,e1]
   refine ih (i+1) f out _ (by omega) (by omega) (by omega) ?_ ?_ ?_ ?_ ?_ htot
   all_goals simp [v0,v1,v10,v11]
theorem zFA {s sep:List UInt8} (hl:s.length≤900): ∃ A,rowA (zgq s sep).1 A∧ ∀ bar H,Rn fsT SA.sp bar 158 [.str s, .str sep] H=some (.ret (.tup [A,num (zgq s sep).2.1,num (zgq s sep).2.2]),H):=by
 have hs:=SA.mono
 rcases zqO sep with rfl | rfl | ⟨h32,h0,hx⟩ | ⟨c,rfl,h32,h92⟩
 ·refine ⟨.slc .ro (zaA (zcG s)), .inl rfl,fun bar H=> ?_⟩
  have hw:=fun H=>zwj (bar:=0) (H:=H) (s:=s) (by omega)
  have hok:=zb5 (zcG s)
  have hf:=fun n H=>zex n H .ro (zcG s)
  have hf3:=fun n H=>zfn (p:=0) (w:=0) (hf n H)
  show Rn fsT SA.sp bar 158 [.str s, .str [32]] H=some (.ret (.tup [_,num 0,num 0]),H)
  refine zan hs zlc rfl rfl rfl ?_
  rw [zoK]
  generalize zaA (zcG s)=A at *
  simp [a158,znn,znm,znl,znk,znj,zni,znh,zng,znf,zne,zja,zi9,zfJ,zfK,zfI,zfH,zi8,zad hs,zaa hs,zai hs,zac hs,zab hs,zi3,zgi,zgh,hw,hok]
  exact hf3 _ _
 ·have hw:=fun H=>zws (bar:=0) (H:=H) (s:=s) (by omega)
  refine ⟨.slc .ro (zaA (zdq s)), .inl rfl,fun bar H=> ?_⟩
  have hf:=fun n H=>zex n H .ro (zdq s)
  have hf3:=fun n H=>zfn (p:=0) (w:=0) (hf n H)
  show Rn fsT SA.sp bar 158 [.str s, .str []] H=some (.ret (.tup [_,num 0,num 0]),H)
  refine zan hs zlc rfl rfl rfl ?_
  rw [zoK]
  generalize zaA (zdq s)=A at *
  simp [a158,znn,znm,znl,znk,znj,zni,znh,zng,znf,zne,zja,zi9,zfJ,zfK,zfI,zfH,zi8,zad hs,zaa hs,zai hs,zac hs,zab hs,zi3,zgi,zgh,hw]
  exact hf3 _ _
 ·have b32:zgi sep [32]=false:=by rw [zcZ];simpa using h32
  have b0:zgi sep []=false:=by rw [zcZ];simpa using h0
  have h1:((1<(sep.length:Int))∧True)∨(¬ (1<(sep.length:Int))∧zgi sep [92]=true):=by
   by_cases h:1<sep.length
   ·exact .inl ⟨by omega,trivial⟩
   ·rcases hx with hx | hx
    ·exact absurd hx h
    ·exact .inr ⟨by omega,by rw [hx];rfl⟩
  have hnew:=fun H=>zxP (bar:=0) (H:=H) sep
  have hz:emptyRe.av= .agg [.int .i64 0, .int .u64 0, .int .u64 0, .int .u64 0, .int .u64 0, .int .i64 0, .int .i64 0, .nils]:=rfl
  unfold zgq
  rw [if_neg h32,if_neg h0,if_pos hx]
  cases hn:ztk sep with
  | er p w =>
   have hw:=ztj hn
   have hw2:((w:Int) != 0)=true:=by simp [bne];omega
   rw [hn] at hnew
   simp only [zbK,hz] at hnew
   refine ⟨.nils, .inr ⟨rfl,rfl⟩,fun bar H=> ?_⟩
   simp only
   refine zan hs zlc rfl rfl rfl ?_
   rw [zoK]
   rcases h1 with ⟨h1,h2⟩ | ⟨h1,h2⟩ <;>
    simp [a158,znn,znm,znl,znk,znj,zni,znh,zng,znf,zne,zja,zi9,zfJ,zfK,zfI,zfH,zi8,zad hs,zaa hs,zai hs,zac hs,zab hs,zi3,b32,b0,h1,h2,hnew,hw2,frz,zbG]
  | ok r j =>
   have hc:=zBW hn
   have hw:=zq8 hn
   have hfine:r.fine:=by
    obtain ⟨o,K,q1,q2⟩:=zuJ (bar:=0) (H:= []) sep (Nat.zero_le _)
    rw [hn] at q2
    obtain ⟨pid,rfl,hpl,hF,hP⟩:=q2
    exact hP.fine
   rw [hn] at hnew
   simp only [zbK] at hnew
   obtain ⟨c1,c2,c3,c4,c5,c6,hcs⟩:=Re.av_eight hw
   have hrs:=fun H=>zwk (bar:=0) (H:=H) (s:=s) hl hfine hc hw
   rw [hcs] at hnew hrs
   simp only
   have hsame:(if s= [] then [] else zaA (zbJ s 0 (zdT r s)))=zaA (if s= [] then [] else zbJ s 0 (zdT r s)):=by split<;>rfl
   rw [hsame] at hrs
   refine ⟨_, .inl rfl,fun bar H=> ?_⟩
   have hf:=fun n H=>zex n H .ro (if s= [] then [] else zbJ s 0 (zdT r s))
   have hok:=zb5 (if s= [] then [] else zbJ s 0 (zdT r s))
   have hf3:=fun n H=>zfn (p:=0) (w:=0) (hf n H)
   refine zan hs zlc rfl rfl rfl ?_
   rw [zoK]
   generalize zaA (if s= [] then [] else zbJ s 0 (zdT r s))=A at *
   rcases h1 with ⟨h1,h2⟩ | ⟨h1,h2⟩
   all_goals
    simp [a158,znn,znm,znl,znk,znj,zni,znh,zng,znf,zne,zja,zi9,zfJ,zfK,zfI,zfH,zi8,zad hs,zaa hs,zai hs,zac hs,zab hs,zi3,b32,b0,h1,h2,hnew,hrs,hok]
    exact hf3 _ _
 ·have b32:zgi [c] [32]=false:=by rw [zcZ];simpa using h32
  have b92:zgi [c] [92]=false:=by rw [zcZ];simpa using h92
  have b0:zgi [c] []=false:=rfl
  have hat:zgq s [c]=(if s= [] then [] else zaM c s,0,0):=by
   unfold zgq
   rw [if_neg (by simpa using h32),if_neg (by simp),if_neg (by simpa using h92)]
  rw [hat]
  by_cases e:s= []
  ·subst e
   refine ⟨.slc .ro [], .inl rfl,fun bar H=> ?_⟩
   show Rn fsT SA.sp bar 158 [.str [], .str [c]] H=some (.ret (.tup [_,num 0,num 0]),H)
   refine zan hs zlc rfl rfl rfl ?_
   rw [zoK]
   simp [znn,znm,znl,znk,znj,zni,znh,zng,znf,zne,zja,zi9,a158,zad hs,zaa hs,zai hs,zac hs,zab hs,zi3,b32,b92,b0,frz,zbG]
   rw [zah hs a158l16.eq_1]
   simp [zfJ,zfK,zfI,zfH,zi8,zad hs,zaa hs,zai hs,zac hs,zab hs,zi3,zgi,frz,zbG]
  ·rw [if_neg e]
   refine ⟨_, .inl rfl,fun bar H=> ?_⟩
   have b3:zgi s []=false:=by rw [zcZ];simpa using e
   have hf:=fun n H=>zex n H .ro (zaM c s)
   have hok:=zb5 (zaM c s)
   have hf3:=fun n H=>zfn (p:=0) (w:=0) (hf n H)
   have hloop:=fun v=>zBA (bar:=0) (H:= []) (c:=c) (by omega) b3 (zaM c s) s.length 0 0 [] v (by omega) (Nat.le_refl _) (Nat.le_refl _)
   show Rn fsT SA.sp bar 158 [.str s, .str [c]] H=some (.ret (.tup [_,num 0,num 0]),H)
   refine zan hs zlc rfl rfl rfl ?_
   rw [zoK]
   simp [znn,znm,znl,znk,znj,zni,znh,zng,znf,zne,zja,zi9,a158,zad hs,zaa hs,zai hs,zac hs,zab hs,zi3,b32,b92,b0]
   refine (hloop _ ?_ ?_ ?_ ?_ ?_ ?_).mono fun e t h=> ?_
   ·simp
   ·simp
   ·simp [zaA]
   ·simp
   ·simp
   ·simp [zrh]
   obtain ⟨rfl,v',rfl,k10⟩:=h
   generalize zaA (zaM c s)=A at *
   simp [zi8,zad hs,zaa hs,k10,hok]
   exact hf3 _ _
theorem zwb: ∀ (l:List (Nat×Nat)) (s:List UInt8) (a:Nat),(zbJ s a l).length≤l.length+1:=fun l s=>by
 induction l with
 | nil=>intro a;simp [zbJ]
 | cons x l ih =>
  obtain ⟨f,t⟩:=x
  intro a
  have h1:=ih t
  have h2:=ih a
  rw [zbJ];split<;>simp<;>omega
theorem zsJ: ∀ (l:List UInt8) (pos:Nat) (st:Option Nat),(wSp l pos st).length≤l.length+1
 | [],_,none=>by simp [wSp]
 | [],_,some _=>by simp [wSp]
 | b::l,pos,st=>by
  rw [zjr]
  have h1:=zsJ l (pos+1) none
  have h2:=zsJ l (pos+1) (some (st.getD pos))
  split
  ·cases st<;>simp<;>omega
  ·simp;omega
theorem zx1 {s:List UInt8} (hl:s.length≤900) (sep:List UInt8):(zgq s sep).1.length≤1000000:=by
 unfold zgq
 split
 ·show (zcG s).length≤_
  have:=zsJ s 0 none
  simp only [zcG,List.length_map];omega
 ·split
  ·show (zdq s).length≤_
   have:=zw6 s
   omega
  ·split
   ·cases hn:ztk sep with
    | er p w=>simp
    | ok r j =>
     have hfine:r.fine:=by
      obtain ⟨o,K,q1,q2⟩:=zuJ (bar:=0) (H:= []) sep (Nat.zero_le _)
      rw [hn] at q2
      obtain ⟨pid,rfl,hpl,hF,hP⟩:=q2
      exact hP.fine
     simp only
     split
     ·simp
     ·have h2:=zwb (zdT r s) s 0
      rcases zht (zjY hfine s) (by omega) with h | h
      ·omega
      ·rw [h];simp [zbJ]
   ·cases sep with
    | nil=>simp
    | cons c l =>
     simp only
     split
     ·simp
     ·have:=zov c s
      omega
theorem zsN (s sep:List UInt8):Wc (Rn fsT SA.sp 0 156 [.str s, .str sep] []) (fun o _=>o= .ret (.bool true)):=by
 have hs:=SA.mono
 have hlives:=fun H=>zFW 0 H
 suffices h:Rn fsT SA.sp 0 156 [.str s, .str sep] []=some (.ret (.bool true),[]) from ⟨_,_,h,rfl⟩
 refine zan hs zF5 rfl rfl rfl ?_
 rw [zJp]
 by_cases h25:25<s.length
 ·have h25':(25:Int)<(s.length:Int):=by omega
  simp [a156,zsc,zsb,zsa,zr9,zr8,zr7,zad hs,zaa hs,zac hs,h25',hlives]
 have h25': ¬ (25:Int)<(s.length:Int):=by omega
 obtain ⟨lt,hlt⟩:=zyr sep
 have hlt:=hlt 0
 obtain ⟨A,hA,hat⟩:=zMc (s:=s) (sep:=sep) (by omega)
 obtain ⟨B,hB,hrat⟩:=zFA (s:=s) (sep:=sep) (by omega)
 have hll:=zx1 (s:=s) (by omega) sep
 have hat:=hat 0
 have hrat:=hrat 0
 have hsame:=fun a b ha hb H=>zsZ (bar:=0) (H:=H) (l:=(zgq s sep).1) (a:=a) (b:=b) hll ha hb
 have done: ∀ H,Rn fsT SA.sp 0 147 [match A with | .slc _ es=> .slc .ro es | x=>x,match B with | .slc _ es=> .slc .ro es | x=>x] H=some (.ret (.bool true),H):=fun H=>by
  refine hsame _ _ ?_ ?_ H
  ·rcases hA with rfl | ⟨h,rfl⟩
   ·exact .inl rfl
   ·exact .inr ⟨h,rfl⟩
  ·rcases hB with rfl | ⟨h,rfl⟩
   ·exact .inl rfl
   ·exact .inr ⟨h,rfl⟩
 have hok:=zb5 (zgq s sep).1
 generalize zaA (zgq s sep).1=Y at *
 generalize (zgq s sep).2.1=p at *
 generalize (zgq s sep).2.2=w at *
 by_cases h1:1<sep.length
 ·have h1':(1:Int)<(sep.length:Int):=by omega
  cases lt with
  | false=>simp [a156,zsc,zsb,zsa,zr9,zr8,zr7,zad hs,zaa hs,zac hs,h25',h1',hlt,hlives]
  | true =>
   rcases hA with rfl | ⟨h,rfl⟩<;>rcases hB with rfl | ⟨h,rfl⟩<;>simp only at done <;>
    simp [a156,zsc,zsb,zsa,zr9,zr8,zr7,zad hs,zaa hs,zac hs,h25',h1',hlt,hat,hrat,hok,done,hlives]
 ·have h1': ¬ (1:Int)<(sep.length:Int):=by omega
  rcases hA with rfl | ⟨h,rfl⟩<;>rcases hB with rfl | ⟨h,rfl⟩<;>simp only at done <;>
   simp [a156,zsc,zsb,zsa,zr9,zr8,zr7,zad hs,zaa hs,zac hs,h25',h1',hat,hrat,hok,done,hlives]
end
end Go.Ak
