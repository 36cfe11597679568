/- Runs without a bound: the first rules; the living call. -/
import Derived.Test.YtfcgnpphabplbaaDoorWe
import Derived.Test.YtfcgnpphabplbaaDoorWd
import Derived.Test.YtfcgnpphabplbaaDoorWj
import Derived.ProofKit
set_option linter.unusedVariables false
set_option linter.unusedSimpArgs false

namespace Go.Ak

/-- The special functions of the laws. -/
structure Sp where
 sp:Nat→(Nat→CallF)→Nat→CallF
 mono:zaO sp

abbrev u64 (n:Nat):AV:= .int .u64 n

/-- A row as a slice's value. -/
def rowOf:List AV→AV
 | []=> .nils
 | a::l=> .slc .ro (a::l)

mutual
def Re.av:Re→AV
 | .mk k set mn mx l=> .agg (.int .i64 k::(set.map u64 ++ [.int .i64 mn, .int .i64 mx,rowOf (Re.avs l)]))
def Re.avs:List Re→List AV
 | []=> []
 | x::l=>x.av::Re.avs l
end

def NS.cells (x:NS):List AV:=num x.op::(x.set.map u64 ++ [num x.next,num x.two])

/-- A row of states as cells. -/
def cellsOf (L:List NS):List AV:=L.flatMap NS.cells

theorem beqS_refl: ∀ (l:List UInt8),beqS l l=true
 | []=>rfl
 | a::l=>by simp [beqS,nbeq,beqS_refl l]

mutual
theorem beqA_refl: ∀ (a:AV),zaW a a=true
 | .undef=>rfl
 | .bool b=>by simp [zaW]
 | .int k n=>by simp [zaW]
 | .str s=>by simp [zaW,beqS_refl]
 | .nilp | .nils | .nilf | .nili=>rfl
 | .ptr a b=>by simp [zaW,nbeq]
 | .rptr a b=>by simp [zaW,nbeq,zbb a]
 | .slc p a=>by simp [zaW,zbb a]
 | .msl a b c d=>by simp [zaW,nbeq]
 | .tptr a b c d=>by simp [zaW,nbeq]
 | .bsl a b=>by simp [zaW,nbeq]
 | .agg a=>by simp [zaW,zbb a]
 | .tup a=>by simp [zaW,zbb a]
 | .fn a b=>by simp [zaW,nbeq,zbb b]
 | .ifc a b=>by simp [zaW,nbeq,beqA_refl b]
 | .box a=>by simp [zaW,zbb a]
 | .loc a b c=>by simp [zaW,nbeq]
 | .eloc a b c d=>by simp [zaW,nbeq]
 | .ref a b c d=>by simp [zaW,nbeq]
theorem zbb: ∀ (l:List AV),beqL l l=true
 | []=>rfl
 | a::l=>by simp [beqL,beqA_refl a,zbb l]
end

theorem beqE_refl: ∀ (l:List (Nat×AV)),beqE l l=true
 | []=>rfl
 | (k,a)::l=>by simp [beqE,nbeq,beqA_refl a,beqE_refl l]

theorem beqH_refl: ∀ (l:Heap),beqH l l=true
 | []=>rfl
 | none::l=>by simp [beqH,beqH_refl l]
 | some a::l=>by simp [beqH,zbb a,beqH_refl l]

end Go.Ak

namespace Go.Ak

theorem pure_any {fs:Nat→Option AFunc} {sp:Nat→(Nat→CallF)→Nat→CallF} (hs:zaO sp) {f:Nat} {F:AFunc} (hf:fs f=some F) (hp:F.pure=true) {xs:List AV} (hc:cloL xs=true) {v:AV} {bar0 n:Nat} {H0 H1:Heap} (h:run fs sp n bar0 f xs H0=some (.ret v,H1)) (bar:Nat) (H:Heap) :
  Rn fs sp bar f xs H=some (.ret v,H):=by
 have h1:=(Rn_iff hs).2 ⟨n,h⟩
 rw [Rn_eq hs hf,hp,hc] at h1 ⊢
 simp only [cond_true] at h1 ⊢
 cases hx:runI fs sp 0 F xs [] with
 | none=>rw [hx] at h1;cases h1
 | some q =>
  obtain ⟨o,K⟩:=q
  rw [hx] at h1
  cases o with
  | ret u =>
   simp only [zbm] at h1 ⊢
   split at h1
   ·rename_i w hw
    simp only [Option.some.injEq,Prod.mk.injEq,Out.ret.injEq] at h1
    rw [h1.1]
   ·cases h1
  | pan u =>
   simp only [zbm] at h1
   split at h1
   ·cases h1
   ·cases h1

end Go.Ak

namespace Go.Ak

theorem spB_mono:zaO spB:=fun n m c d bar hn hcd f xs H r h=>by
 unfold spB at h ⊢
 cases h1:Nat.beq f 41<;>rw [h1] at h<;>simp only [cond_true,cond_false] at h ⊢
 ·cases h2:Nat.beq f 11<;>rw [h2] at h<;>simp only [cond_true,cond_false] at h ⊢
  ·exact h
  ·exact spAll_mono hn hcd xs H r h
 ·exact spParse_mono hcd xs H r h

theorem spC_mono:zaO spC:=fun n m c d bar hn hcd f xs H r h=>by
 unfold spC at h ⊢
 cases h1:Nat.beq f 182<;>rw [h1] at h<;>simp only [cond_true,cond_false] at h ⊢
 ·cases h2:Nat.beq f 202<;>rw [h2] at h<;>simp only [cond_true,cond_false] at h ⊢
  ·exact spB_mono n m c d bar hn hcd f xs H r h
  ·exact h
 ·exact h

def SA:Sp:=⟨spC,spC_mono⟩

section
variable {bar:Nat} {xs:List AV} {H:Heap}
theorem Rn_split:Rn fsT SA.sp bar 182 xs H=spSplit xs H:=(Rn_sp SA.mono rfl bar xs H).trans (zbd _)
theorem Rn_join:Rn fsT SA.sp bar 202 xs H=spJoin xs H:=(Rn_sp SA.mono rfl bar xs H).trans (zbd _)
end

end Go.Ak

namespace Go.Ak
attribute [local simp] evI_skip Wp_skip Wp_exit Wp_ret zbf Ws_some andThen_norm andThen_ret andThen_exit andThen_pan outOf_norm outOf_ret outOf_pan outOf_exit fin_norm fin_ret fin_pan thaw_ret thaw_pan
 zaG zbg wanted zay opd opdL live look_mkE upd_mkE look_cons ver_cons st_at put slotty esc escs arg1 args drop1 nbeq nble nblt binA binI rd wr zba sub AV.cells pack one setCells resOf resV resAll roOf zaD sameR beqE_refl beqH_refl fillA fillS newRow newObj step hdOk_nil hdOk_cons contents take flat look lim natOf bound sliceA remake eqS eqL eqA ver
 frz_bool frz_int frz_str frz_nils frz_nilp
 List.getElem?_cons_zero List.getElem?_cons_succ hget_eq hget_new hget_cons_zero hget_cons_succ hget_nil
attribute [local simp] mvV mvL mgV mgL asL asI asB ldN ldV ldL ldG stV stL fdL fdV fdG fgL nlC nlG bnI bvI bnL bvL bxI bxU bgI bgL exT lnS lgS clA clB clC clI pkT pkF pvT pvF pgT pgF ixL axV bxV apL
attribute [-simp] getElem?_pos

section

/-- A builder of its own holds a text. -/
def BC (bar:Nat) (H:Heap) (q:Nat) (s:List UInt8):Prop :=
 bar≤q∧ ∃ b0,(b0= .nilp∨b0= .tptr 4 2 q 0)∧((hget H q=some (some [b0, .nils])∧s= [])∨ ∃ r cs,hget H q=some (some [b0, .bsl r s.length])∧hget H r=some (some cs)∧cs.take s.length=bytesOf s∧s.length≤cs.length∧q≠r∧bar≤r∧s ≠ [])

theorem BC.new (bar:Nat) (H:Heap) (h:bar≤H.length):BC bar (H ++ [some [.nilp, .nils]]) H.length []:=⟨h, .nilp, .inl rfl, .inl ⟨hget_new _ _,rfl⟩⟩

end

section



end

section



end

end Go.Ak

namespace Go.Ak
set_option maxRecDepth 100000

theorem lives08_run:run fsT spC 200 0 19 [] []=some (.ret (.bool true),[]):=by kernel_rfl

theorem lives08 (bar:Nat) (H:Heap):Rn fsT SA.sp bar 19 [] H=some (.ret (.bool true),H):=pure_any SA.mono fsT_19 rfl rfl lives08_run bar H

end Go.Ak

