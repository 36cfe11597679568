/- Runs without a bound: the first rules; the living call. -/
import Derived.Test.YtfcgnpphabplbaaGreatDoorYe
import Derived.Test.YtfcgnpphabplbaaGreatDoorXd
import Derived.Test.YtfcgnpphabplbaaGreatDoorYj
import Derived.ProofKit
set_option linter.unusedVariables false
set_option linter.unusedSimpArgs false

namespace Go.Ak

/-- The special functions of the laws. -/
structure Sp where
 sp:Nat→(Nat→CallF)→Nat→CallF
 mono:zaR sp

abbrev u64 (n:Nat):AV:= .int .u64 n

/-- A row as a slice's value. -/
def rowOf:List AV→AV
 | []=> .nils
 | a::l=> .slc .ro (a::l)

mutual
def Re.av:Re→AV
 | .mk k set mn mx l=> .agg (.int .i64 k::(set.map u64 ++ [.int .i64 mn, .int .i64 mx,rowOf (Re.avs l)]))
def Re.avs:List Re→List AV
 | []=> []
 | x::l=>x.av::Re.avs l
end

def NS.cells (x:NS):List AV:=num x.op::(x.set.map u64 ++ [num x.next,num x.two])

/-- A row of states as cells. -/
def cellsOf (L:List NS):List AV:=L.flatMap NS.cells

theorem beqS_refl: ∀ (l:List UInt8),beqS l l=true
 | []=>rfl
 | a::l=>by simp [beqS,nbeq,beqS_refl l]

mutual
theorem beqA_refl: ∀ (a:AV),za3 a a=true
 | .undef=>rfl
 | .bool b=>by simp [za3]
 | .int k n=>by simp [za3]
 | .str s=>by simp [za3,beqS_refl]
 | .nilp | .nils | .nilf | .nili=>rfl
 | .ptr a b=>by simp [za3,nbeq]
 | .rptr a b=>by simp [za3,nbeq,zbf a]
 | .slc p a=>by simp [za3,zbf a]
 | .msl a b c d=>by simp [za3,nbeq]
 | .tptr a b c d=>by simp [za3,nbeq]
 | .bsl a b=>by simp [za3,nbeq]
 | .agg a=>by simp [za3,zbf a]
 | .tup a=>by simp [za3,zbf a]
 | .fn a b=>by simp [za3,nbeq,zbf b]
 | .ifc a b=>by simp [za3,nbeq,beqA_refl b]
 | .box a=>by simp [za3,zbf a]
 | .loc a b c=>by simp [za3,nbeq]
 | .eloc a b c d=>by simp [za3,nbeq]
 | .ref a b c d=>by simp [za3,nbeq]
theorem zbf: ∀ (l:List AV),beqL l l=true
 | []=>rfl
 | a::l=>by simp [beqL,beqA_refl a,zbf l]
end

theorem beqE_refl: ∀ (l:List (Nat×AV)),beqE l l=true
 | []=>rfl
 | (k,a)::l=>by simp [beqE,nbeq,beqA_refl a,beqE_refl l]

theorem beqH_refl: ∀ (l:Heap),beqH l l=true
 | []=>rfl
 | none::l=>by simp [beqH,beqH_refl l]
 | some a::l=>by simp [beqH,zbf a,beqH_refl l]

end Go.Ak

namespace Go.Ak

theorem pure_any {fs:Nat→Option AFunc} {sp:Nat→(Nat→CallF)→Nat→CallF} (hs:zaR sp) {f:Nat} {F:AFunc} (hf:fs f=some F) (hp:F.pure=true) {xs:List AV} (hc:cloL xs=true) {v:AV} {bar0 n:Nat} {H0 H1:Heap} (h:run fs sp n bar0 f xs H0=some (.ret v,H1)) (bar:Nat) (H:Heap) :
  Rn fs sp bar f xs H=some (.ret v,H):=by
 have h1:=(Rn_iff hs).2 ⟨n,h⟩
 rw [Rn_eq hs hf,hp,hc] at h1 ⊢
 simp only [cond_true] at h1 ⊢
 cases hx:runI fs sp 0 F xs [] with
 | none=>rw [hx] at h1;cases h1
 | some q =>
  obtain ⟨o,K⟩:=q
  rw [hx] at h1
  cases o with
  | ret u =>
   simp only [zbj] at h1 ⊢
   split at h1
   ·rename_i w hw
    simp only [Option.some.injEq,Prod.mk.injEq,Out.ret.injEq] at h1
    rw [h1.1]
   ·cases h1
  | pan u =>
   simp only [zbj] at h1
   split at h1
   ·cases h1
   ·cases h1

end Go.Ak

namespace Go.Ak

theorem spB_mono:zaR spB:=fun n m c d bar hn hcd f xs H r h=>by
 unfold spB at h ⊢
 cases h1:Nat.beq f 41<;>rw [h1] at h<;>simp only [cond_true,cond_false] at h ⊢
 ·cases h2:Nat.beq f 11<;>rw [h2] at h<;>simp only [cond_true,cond_false] at h ⊢
  ·exact h
  ·exact spAll_mono hn hcd xs H r h
 ·exact spParse_mono hcd xs H r h

theorem spC_mono:zaR spC:=fun n m c d bar hn hcd f xs H r h=>by
 unfold spC at h ⊢
 cases h1:Nat.beq f 182<;>rw [h1] at h<;>simp only [cond_true,cond_false] at h ⊢
 ·cases h2:Nat.beq f 202<;>rw [h2] at h<;>simp only [cond_true,cond_false] at h ⊢
  ·exact spB_mono n m c d bar hn hcd f xs H r h
  ·exact h
 ·exact h

theorem spD_mono:zaR spD:=fun n m c d bar hn hcd f xs H r h=>by
 unfold spD at h ⊢
 cases h1:Nat.beq f 191<;>rw [h1] at h<;>simp only [cond_true,cond_false] at h ⊢
 ·cases h2:Nat.beq f 187<;>rw [h2] at h<;>simp only [cond_true,cond_false] at h ⊢
  ·exact spC_mono n m c d bar hn hcd f xs H r h
  ·exact h
 ·exact h

def SA:Sp:=⟨spD,spD_mono⟩

section
variable {bar:Nat} {xs:List AV} {H:Heap}
theorem Rn_index:Rn fsT SA.sp bar 112 xs H=spIndex xs H:=(Rn_sp SA.mono rfl bar xs H).trans (limit_const _)
end

theorem indexByte_at: ∀ (l:List UInt8) (c:UInt8),Lib.indexByte l c= -1∨ ∃ n:Nat,n<l.length∧Lib.indexByte l c=n
 | [],_=> .inl rfl
 | b::l,c=>by
  simp only [Lib.indexByte]
  by_cases h:b=c
  ·exact .inr ⟨0,by simp,by simp [h]⟩
  ·have hb:(b==c)=false:=by simpa using h
   rcases indexByte_at l c with e | ⟨n,h1,h2⟩
   ·exact .inl (by simp [hb,e])
   ·refine .inr ⟨n+1,by simpa using h1,?_⟩
    rw [if_neg (by simp [hb]),h2,if_neg (by simp<;>omega)]
    rfl

end Go.Ak

namespace Go.Ak
set_option maxRecDepth 100000

theorem lives09_run:run fsT spD 200 0 161 [] []=some (.ret (.bool true),[]):=by kernel_rfl

theorem lives09 (bar:Nat) (H:Heap):Rn fsT SA.sp bar 161 [] H=some (.ret (.bool true),H):=pure_any SA.mono fsT_161 rfl rfl lives09_run bar H

end Go.Ak

