/- Runs, told without a bound: the first rules. -/
import Derived.Test.YtfcgnpphabplbaaGreatUe
import Derived.Test.YtfcgnpphabplbaaGreatUd
import Derived.Test.YtfcgnpphabplbaaGreatUj
set_option linter.unusedVariables false
set_option linter.unusedSimpArgs false

namespace Go.Ak

/-- The special functions of the laws. -/
structure Sp where
 sp:Nat→(Nat→CallF)→Nat→CallF
 mono:zb2 sp

abbrev u64 (n:Nat):AV:= .int .u64 n

/-- A row as a slice's value. -/
def rowOf:List AV→AV
 | []=> .nils
 | a::l=> .slc .ro (a::l)

mutual
def Re.av:Re→AV
 | .mk k set mn mx l=> .agg (.int .i64 k::(set.map u64 ++ [.int .i64 mn, .int .i64 mx,rowOf (Re.avs l)]))
def Re.avs:List Re→List AV
 | []=> []
 | x::l=>x.av::Re.avs l
end

def NS.cells (x:NS):List AV:=num x.op::(x.set.map u64 ++ [num x.next,num x.two])

theorem Re.avs_map: ∀ (l:List Re),Re.avs l=l.map Re.av
 | []=>rfl
 | x::l=>by rw [Re.avs,Re.avs_map l];rfl

/-- A row of states as cells. -/
def cellsOf (L:List NS):List AV:=L.flatMap NS.cells

/-- Sets are of four numbers. -/
def Wide (L:List NS):Prop:= ∀ x∈L,x.set.length=4

theorem cellsOf_length {L:List NS} (h:Wide L):(cellsOf L).length=L.length*7:=by
 unfold cellsOf
 induction L with
 | nil=>rfl
 | cons x L ih =>
  rw [List.flatMap_cons,List.length_append,ih (fun y hy=>h y (by simp [hy]))]
  have:=h x (by simp)
  simp [NS.cells,this];omega

theorem cellsOf_snoc (L:List NS) (x:NS):cellsOf (L ++ [x])=cellsOf L++x.cells:=by simp [cellsOf]

/-- A machine's states, in the heap. -/
def PRow (H:Heap) (p:Nat) (L:List NS) (lv:AV):Prop:=Wide L∧((L= []∧lv= .nils)∨ ∃ r,lv= .msl 7 r 0 L.length∧p<r∧hget H r=some (some (cellsOf L)))

/-- A machine that is built, in the heap. -/
def PH (H:Heap) (p:Nat) (L:List NS) (first:Nat):Prop:= ∃ lv,hget H p=some (some [lv,num first])∧PRow H p L lv

/-- All ahead of an object stays. -/
def Front (p:Nat) (H H':Heap):Prop:=p<H'.length∧ ∀ i,i<p→hget H' i=hget H i

theorem zfP: ∀ (l:List UInt8),beqS l l=true
 | []=>rfl
 | a::l=>by simp [beqS,nbeq,zfP l]

mutual
theorem beqA_refl: ∀ (a:AV),zdl a a=true
 | .undef=>rfl
 | .bool b=>by simp [zdl]
 | .int k n=>by simp [zdl]
 | .str s=>by simp [zdl,zfP]
 | .nilp | .nils | .nilf | .nili=>rfl
 | .ptr a b=>by simp [zdl,nbeq]
 | .rptr a b=>by simp [zdl,nbeq,zdF a]
 | .slc p a=>by simp [zdl,zdF a]
 | .msl a b c d=>by simp [zdl,nbeq]
 | .tptr a b c d=>by simp [zdl,nbeq]
 | .bsl a b=>by simp [zdl,nbeq]
 | .agg a=>by simp [zdl,zdF a]
 | .tup a=>by simp [zdl,zdF a]
 | .fn a b=>by simp [zdl,nbeq,zdF b]
 | .ifc a b=>by simp [zdl,nbeq,beqA_refl b]
 | .box a=>by simp [zdl,zdF a]
 | .loc a b c=>by simp [zdl,nbeq]
 | .eloc a b c d=>by simp [zdl,nbeq]
 | .ref a b c d=>by simp [zdl,nbeq]
theorem zdF: ∀ (l:List AV),beqL l l=true
 | []=>rfl
 | a::l=>by simp [beqL,beqA_refl a,zdF l]
end

theorem zaw: ∀ (l:List (Nat×AV)),beqE l l=true
 | []=>rfl
 | (k,a)::l=>by simp [beqE,nbeq,beqA_refl a,zaw l]

theorem zav: ∀ (l:Heap),beqH l l=true
 | []=>rfl
 | none::l=>by simp [beqH,zav l]
 | some a::l=>by simp [beqH,zdF a,zav l]

end Go.Ak

namespace Go.Ak

theorem pure_any {fs:Nat→Option AFunc} {sp:Nat→(Nat→CallF)→Nat→CallF} (hs:zb2 sp) {f:Nat} {F:AFunc} (hf:fs f=some F) (hp:F.pure=true) {xs:List AV} (hc:zbW xs=true) {v:AV} {bar0 n:Nat} {H0 H1:Heap} (h:run fs sp n bar0 f xs H0=some (.ret v,H1)) (bar:Nat) (H:Heap) :
  Rn fs sp bar f xs H=some (.ret v,H):=by
 have h1:=(zf4 hs).2 ⟨n,h⟩
 rw [Rn_eq hs hf,hp,hc] at h1 ⊢
 simp only [cond_true] at h1 ⊢
 cases hx:runI fs sp 0 F xs [] with
 | none=>rw [hx] at h1;cases h1
 | some q =>
  obtain ⟨o,K⟩:=q
  rw [hx] at h1
  cases o with
  | ret u =>
   simp only [zey] at h1 ⊢
   split at h1
   ·rename_i w hw
    simp only [Option.some.injEq,Prod.mk.injEq,Out.ret.injEq] at h1
    rw [h1.1]
   ·cases h1
  | pan u =>
   simp only [zey] at h1
   split at h1
   ·cases h1
   ·cases h1

end Go.Ak

namespace Go.Ak

theorem spB_mono:zb2 spB:=fun n m c d bar hn hcd f xs H r h=>by
 unfold spB at h ⊢
 cases h1:Nat.beq f 41<;>rw [h1] at h<;>simp only [cond_true,cond_false] at h ⊢
 ·cases h2:Nat.beq f 11<;>rw [h2] at h<;>simp only [cond_true,cond_false] at h ⊢
  ·exact h
  ·exact spAll_mono hn hcd xs H r h
 ·exact spParse_mono hcd xs H r h

def SA:Sp:=⟨spB,spB_mono⟩

section
variable {bar:Nat} {xs:List AV} {H:Heap}
theorem Rn_check:Rn fsT SA.sp bar 79 xs H=zf8 bar xs H:=(Rn_sp SA.mono rfl bar xs H).trans (zdY _)
theorem Rn_string:Rn fsT SA.sp bar 55 xs H=spString bar xs H:=(Rn_sp SA.mono rfl bar xs H).trans (zdY _)
theorem Rn_parse:Rn fsT SA.sp bar 41 xs H=limit fun n=>zfr (run fsT spB n) xs H:=Rn_sp SA.mono rfl bar xs H
theorem Rn_all:Rn fsT SA.sp bar 11 xs H=limit fun n=>spAll n (run fsT spB n) xs H:=Rn_sp SA.mono rfl bar xs H
theorem Rn_index:Rn fsT SA.sp bar 112 xs H=spIndex xs H:=(Rn_sp SA.mono rfl bar xs H).trans (zdY _)
end

theorem binS_neq (a b:List UInt8):binS .neq a b=some (.bool (!beqS a b)):=rfl

end Go.Ak

