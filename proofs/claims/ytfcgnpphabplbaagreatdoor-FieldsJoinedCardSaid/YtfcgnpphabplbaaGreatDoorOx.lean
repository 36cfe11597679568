/- A text parted by any separator: At. -/
import Derived.Test.YtfcgnpphabplbaaGreatDoorOw
import Derived.Test.YtfcgnpphabplbaaGreatDoorOd
set_option linter.unusedVariables false
set_option linter.unusedSimpArgs false
namespace Go.Ak
attribute [local simp] zcx zd7 zd8 zfV zbm zc2 zaG za9 za0 zba zbs zbK zbL zbg zcJ zdJ zdK zcB zcC
 zaN zcN wanted zbb opd zkt live zcD zde zbA zcA ziq put zes esc zqx ztJ args drop1 zg1 zuW zuV ztH zou rd wr zbE sub AV.cells pack one setCells zeH znX zc3 roOf zaL zfw zav zau zey zbw newRow newObj step zcF zbM contents take flat look lim zex bound zec zeu eqS eqL eqA ver
 zcI zdI zdH zcG zcH
 List.getElem?_cons_zero List.getElem?_cons_succ zdl zbp zaE zaF zcE
attribute [local simp] sR sT cV bL mvV mvL mgV mgL asL asI asB ldN ldV ldL ldG stV stL fdL fdV fdG fgL nlC nlG bnI bvI bnL bvL bxI bxU bgI bgL exT lnS lgS clA clB clC clI pkT pkF pvT pvF pgT pgF ixL axV bxV apL
attribute [-simp] getElem?_pos
section
theorem zwZ {bar:Nat} {H:Heap} {s:List UInt8} (hl:s.length≤1000000):Rn fsT SA.sp bar 180 [.str s] H=some (.ret (.slc .ro (zax (zep s))),H):=by
 have hs:=SA.mono
 have hfr:=zBM [] .ro (zep s)
 have hsp: ∀ H,Rn fsT SA.sp 0 191 [.str s, .fn 190 []] H=some (.ret (.slc .ro (zax (zep s))),H):=fun H=>by
  rw [zAJ]
  have:Nat.ble s.length 4294967296=true:=Nat.ble_eq_true_of_le (by omega)
  simp only [zi4,this,cond_true]
  rfl
 refine zao hs zFx rfl rfl rfl ?_
 rw [zIM]
 generalize zax (zep s)=A at *
 simp [a180,zDW,zDV,zad hs,zaa hs,hsp,hfr]
end
section
def rowA (l:List (List UInt8)) (A:AV):Prop:=A= .slc .ro (zax l)∨(l= []∧A= .nils)
theorem zyP {bar:Nat} {H:Heap} {s:List UInt8} (hl:s.length≤1000000):Rn fsT SA.sp bar 181 [.str s] H=some (.ret (if s= [] then .nils else .slc .ro (zax (zeN s))),H):=by
 rw [zDc]
 cases s with
 | nil=>rfl
 | cons c t =>
  have:Nat.ble (c::t).length 4294967296=true:=Nat.ble_eq_true_of_le (by omega)
  simp only [zl2,this,cond_true]
  rfl
def zed (s sep:List UInt8):List (List UInt8)×Nat×Nat :=
 if sep= [32] then (zep s,0,0) else if sep= [] then (zeN s,0,0) else if 1<sep.length∨sep= [92] then
  (match zwW sep with
  | .er p w=>([],p,w)
  | .ok r _=>(if s= [] then [] else zeb s 0 (zln r s),0,0))
 else match sep with
  | []=>([],0,0)
  | c::_=>(if s= [] then [] else zcu c s,0,0)
theorem zlL {n:Nat} {H:Heap} {A:AV} {p w:Nat} (h:frz n H A=some A):frz n H (.tup [A,num p,num w])=some (.tup [A,num p,num w]):=by simp [frz,zbd,h]
theorem zxm (sep:List UInt8):sep= [32]∨sep= []∨(sep ≠ [32]∧sep ≠ []∧((1<sep.length)∨sep= [92]))∨(∃ c,sep= [c]∧c≠32∧c≠92):=by
 rcases sep with _ | ⟨c,_ | ⟨d,l⟩⟩
 ·exact .inr (.inl rfl)
 ·by_cases h:c=32
  ·left;rw [h]
  ·by_cases h2:c=92
   ·right;right;left
    refine ⟨by simpa using h,by simp, .inr (by rw [h2])⟩
   ·exact .inr (.inr (.inr ⟨c,rfl,h,h2⟩))
 ·right;right;left
  exact ⟨by simp,by simp, .inl (by simp)⟩
theorem zvM {bar:Nat} {H:Heap} {s:List UInt8} {c:UInt8} (hl:s.length≤1000):Rn fsT SA.sp bar 182 [.str s, .str [c]] H=some (.ret (.slc .ro (zax (zcu c s))),H):=by
 rw [zC9]
 have:Nat.blt s.length 4294967281=true:=by rw [zuV];simp;omega
 simp only [zl1,this,cond_true,zkS]
 rfl
theorem zLf {s sep:List UInt8} (hl:s.length≤900): ∃ A,rowA (zed s sep).1 A∧ ∀ bar H,Rn fsT SA.sp bar 157 [.str s, .str sep] H=some (.ret (.tup [A,num (zed s sep).2.1,num (zed s sep).2.2]),H):=by
 have hs:=SA.mono
 rcases zxm sep with rfl | rfl | ⟨h32,h0,hx⟩ | ⟨c,rfl,h32,h92⟩
 ·refine ⟨.slc .ro (zax (zep s)), .inl rfl,fun bar H=> ?_⟩
  have hw:=fun H=>zwZ (bar:=0) (H:=H) (s:=s) (by omega)
  have hf:=fun n H=>zjk n H .ro (zep s)
  have hf3:=fun n H=>zlL (p:=0) (w:=0) (hf n H)
  show Rn fsT SA.sp bar 157 [.str s, .str [32]] H=some (.ret (.tup [_,num 0,num 0]),H)
  refine zao hs zg5 rfl rfl rfl ?_
  rw [zkZ]
  generalize zax (zep s)=A at *
  simp [a157,zjT,zjS,zjR,zjQ,zjP,zjO,zjN,zjM,zjL,zjK,zgc,zgb,zga,zad hs,zaa hs,zac hs,zab hs,zlP,zju,zg1,hw]
  exact hf3 _ _
 ·have hw:=fun H=>zyP (bar:=0) (H:=H) (s:=s) (by omega)
  by_cases e:s= []
  ·subst e
   refine ⟨.nils, .inr ⟨rfl,rfl⟩,fun bar H=> ?_⟩
   show Rn fsT SA.sp bar 157 [.str [], .str []] H=some (.ret (.tup [_,num 0,num 0]),H)
   refine zao hs zg5 rfl rfl rfl ?_
   rw [zkZ]
   simp only [if_true] at hw
   simp [a157,zjT,zjS,zjR,zjQ,zjP,zjO,zjN,zjM,zjL,zjK,zgc,zgb,zga,zad hs,zaa hs,zac hs,zab hs,zlP,zju,zg1,hw,frz,zbd]
  ·refine ⟨.slc .ro (zax (zeN s)), .inl rfl,fun bar H=> ?_⟩
   have hf:=fun n H=>zjk n H .ro (zeN s)
   have hf3:=fun n H=>zlL (p:=0) (w:=0) (hf n H)
   show Rn fsT SA.sp bar 157 [.str s, .str []] H=some (.ret (.tup [_,num 0,num 0]),H)
   refine zao hs zg5 rfl rfl rfl ?_
   rw [zkZ]
   rw [if_neg e] at hw
   generalize zax (zeN s)=A at *
   simp [a157,zjT,zjS,zjR,zjQ,zjP,zjO,zjN,zjM,zjL,zjK,zgc,zgb,zga,zad hs,zaa hs,zac hs,zab hs,zlP,zju,zg1,hw]
   exact hf3 _ _
 ·have b32:zju sep [32]=false:=by rw [ze9];simpa using h32
  have b0:zju sep []=false:=by rw [ze9];simpa using h0
  have h1:((1<(sep.length:Int))∧True)∨(¬ (1<(sep.length:Int))∧zju sep [92]=true):=by
   by_cases h:1<sep.length
   ·exact .inl ⟨by omega,trivial⟩
   ·rcases hx with hx | hx
    ·exact absurd hx h
    ·exact .inr ⟨by omega,by rw [hx];rfl⟩
  obtain ⟨o,K,q1,q2⟩:=zHo (bar:=0) (H:= []) sep (Nat.zero_le _)
  unfold zed
  rw [if_neg h32,if_neg h0,if_pos hx]
  cases hn:zwW sep with
  | er p w =>
   have hw:=zx3 hn
   have hw2:((w:Int) != 0)=true:=by simp [bne];omega
   rw [hn] at q2
   obtain ⟨rfl,rfl⟩:=q2
   refine ⟨.nils, .inr ⟨rfl,rfl⟩,fun bar H=> ?_⟩
   simp only
   refine zao hs zg5 rfl rfl rfl ?_
   rw [zkZ]
   rcases h1 with ⟨h1,h2⟩ | ⟨h1,h2⟩ <;>
    simp [a157,zjT,zjS,zjR,zjQ,zjP,zjO,zjN,zjM,zjL,zjK,zgc,zgb,zga,zad hs,zaa hs,zac hs,zab hs,zlP,b32,b0,h1,h2,q1,hw2,frz,zbd]
  | ok r j =>
   rw [hn] at q2
   obtain ⟨pid,rfl,hpl,hF,hP⟩:=q2
   have hsp:=zxg (bar:=0) hP (s:=s) (by omega)
   simp only
   by_cases e:s= []
   ·rw [if_pos e] at hsp ⊢
    refine ⟨.nils, .inr ⟨rfl,rfl⟩,fun bar H=> ?_⟩
    refine zao hs zg5 rfl rfl rfl ?_
    rw [zkZ]
    rcases h1 with ⟨h1,h2⟩ | ⟨h1,h2⟩ <;>
     simp [a157,zjT,zjS,zjR,zjQ,zjP,zjO,zjN,zjM,zjL,zjK,zgc,zgb,zga,zad hs,zaa hs,zac hs,zab hs,zlP,b32,b0,h1,h2,q1,hsp,frz,zbd]
   ·rw [if_neg e] at hsp ⊢
    refine ⟨_, .inl rfl,fun bar H=> ?_⟩
    have hf:=fun n H=>zjk n H .ro (zeb s 0 (zln r s))
    have hok:=zji (zeb s 0 (zln r s))
    have hf3:=fun n H=>zlL (p:=0) (w:=0) (hf n H)
    refine zao hs zg5 rfl rfl rfl ?_
    rw [zkZ]
    generalize zax (zeb s 0 (zln r s))=A at *
    rcases h1 with ⟨h1,h2⟩ | ⟨h1,h2⟩
    all_goals
     simp [a157,zjT,zjS,zjR,zjQ,zjP,zjO,zjN,zjM,zjL,zjK,zgc,zgb,zga,zad hs,zaa hs,zac hs,zab hs,zlP,b32,b0,h1,h2,q1,hsp,hok]
     exact hf3 _ _
 ·have b32:zju [c] [32]=false:=by rw [ze9];simpa using h32
  have b92:zju [c] [92]=false:=by rw [ze9];simpa using h92
  have b0:zju [c] []=false:=rfl
  have hsp:=fun H=>zvM (bar:=0) (H:=H) (s:=s) (c:=c) (by omega)
  have hat:zed s [c]=(if s= [] then [] else zcu c s,0,0):=by
   unfold zed
   rw [if_neg (by simpa using h32),if_neg (by simp),if_neg (by simpa using h92)]
  rw [hat]
  by_cases e:s= []
  ·subst e
   refine ⟨.nils, .inr ⟨rfl,rfl⟩,fun bar H=> ?_⟩
   show Rn fsT SA.sp bar 157 [.str [], .str [c]] H=some (.ret (.tup [_,num 0,num 0]),H)
   refine zao hs zg5 rfl rfl rfl ?_
   rw [zkZ]
   have bn:zju [] []=true:=rfl
   simp [a157,zjT,zjS,zjR,zjQ,zjP,zjO,zjN,zjM,zjL,zjK,zgc,zgb,zga,zad hs,zaa hs,zac hs,zab hs,zlP,bn,b32,b92,b0,frz,zbd]
  ·rw [if_neg e]
   refine ⟨_, .inl rfl,fun bar H=> ?_⟩
   have b3:zju s []=false:=by rw [ze9];simpa using e
   have hf:=fun n H=>zjk n H .ro (zcu c s)
   have hf3:=fun n H=>zlL (p:=0) (w:=0) (hf n H)
   show Rn fsT SA.sp bar 157 [.str s, .str [c]] H=some (.ret (.tup [_,num 0,num 0]),H)
   refine zao hs zg5 rfl rfl rfl ?_
   rw [zkZ]
   generalize zax (zcu c s)=A at *
   simp [a157,zjT,zjS,zjR,zjQ,zjP,zjO,zjN,zjM,zjL,zjK,zgc,zgb,zga,zad hs,zaa hs,zac hs,zab hs,zlP,b32,b92,b0,b3,hsp]
   exact hf3 _ _
end
end Go.Ak
