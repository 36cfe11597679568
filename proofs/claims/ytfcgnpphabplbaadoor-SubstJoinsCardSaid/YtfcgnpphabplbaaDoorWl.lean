/- That the law answers true. -/
import Derived.Test.YtfcgnpphabplbaaDoorWk
import Derived.Test.YtfcgnpphabplbaaDoorWd
set_option linter.unusedVariables false
set_option linter.unusedSimpArgs false

namespace Go.Ak
attribute [local simp] evI_skip Wp_skip Wp_exit Wp_ret zbf Ws_some andThen_norm andThen_ret andThen_exit andThen_pan outOf_norm outOf_ret outOf_pan outOf_exit fin_norm fin_ret fin_pan thaw_ret thaw_pan
 zaG zbg wanted zay opd opdL live look_mkE upd_mkE look_cons ver_cons st_at put slotty esc escs arg1 args drop1 nbeq nble nblt binA binI rd wr zba sub AV.cells pack one setCells resOf resV resAll roOf zaD sameR beqE_refl beqH_refl fillA fillS newRow newObj step hdOk_nil hdOk_cons contents take flat look lim natOf bound sliceA remake eqS eqL eqA ver
 frz_bool frz_int frz_str frz_nils frz_nilp
 List.getElem?_cons_zero List.getElem?_cons_succ hget_eq hget_new hget_cons_zero hget_cons_succ hget_nil
attribute [local simp] mvV mvL mgV mgL asL asI asB ldN ldV ldL ldG stV stL fdL fdV fdG fgL nlC nlG bnI bvI bnL bvL bxI bxU bgI bgL exT lnS lgS clA clB clC clI pkT pkF pvT pvF pgT pgF ixL axV bxV apL
attribute [-simp] getElem?_pos

section

theorem At_one {bar:Nat} {H:Heap} {s:List UInt8} {c:UInt8} (hl:s.length≤1000) (h32:c≠32) (h92:c≠92) :
  Rn fsT SA.sp bar 157 [.str s, .str [c]] H=some (.ret (.tup [if s= [] then .nils else .slc .ro ((zaE c s).map AV.str),num 0,num 0]),H):=by
 have hs:=SA.mono
 have e1: ¬ c.toNat=32:=fun e=>h32 (UInt8.toNat_inj.1 e)
 have e2: ¬ c.toNat=92:=fun e=>h92 (UInt8.toNat_inj.1 e)
 have b1:beqS [c] [32]=false:=by simp [beqS,nbeq];exact e1
 have b2:beqS [c] [92]=false:=by simp [beqS,nbeq];exact e2
 have b0:beqS [c] []=false:=rfl
 have hsp:Rn fsT SA.sp bar 182 [.str s, .str [c]] H=some (.ret (.slc .ro ((zaE c s).map AV.str)),H):=by
  rw [Rn_split]
  have:Nat.blt s.length 4294967281=true:=by rw [nblt];simp;omega
  simp only [spSplit,this,cond_true,split_pieces]
 refine Wc_eq.1 (Wc_heap hs fsT_157 rfl rfl ?_)
 rw [env157]
 cases s with
 | nil=>simp [a157,a157r0,a157r1,a157r2,a157r3,a157r4,a157r5,a157r6,a157r7,a157r8,a157r9,a157r10,a157r11,a157r12,Wp_seq hs,za3 hs,Wp_cond hs,Wp_block hs,binS,beqS,e1,e2]
 | cons x l =>
  have b3:beqS (x::l) []=false:=rfl
  rw [if_neg (by simp)]
  generalize x::l=s at *
  simp [a157,a157r0,a157r1,a157r2,a157r3,a157r4,a157r5,a157r6,a157r7,a157r8,a157r9,a157r10,a157r11,a157r12,Wp_seq hs,za3 hs,Wp_cond hs,Wp_block hs,binS,b0,b1,b2,b3,hsp]

theorem Join_str {bar:Nat} {H:Heap} {l:List (List UInt8)} {t:List UInt8} (h1:l.length≤1000000) (h2:(Lib.join l t).length≤1000000000) :
  Rn fsT SA.sp bar 194 [.slc .ro (l.map AV.str), .str t] H=some (.ret (.str (Lib.join l t)),H):=by
 have hs:=SA.mono
 have hj:Rn fsT SA.sp bar 202 [.slc .ro (l.map AV.str), .str t] H=some (.ret (.str (Lib.join l t)),H):=by
  rw [Rn_join]
  have e1:Nat.ble l.length 1000000=true:=Nat.ble_eq_true_of_le h1
  have e2:Nat.ble (Lib.join l t).length 1000000000=true:=Nat.ble_eq_true_of_le h2
  simp only [spJoin,textsOf_back,e1,e2,Bool.and_self,cond_true]
 generalize l.map AV.str=A at *
 refine Wc_eq.1 (Wc_heap hs fsT_194 rfl rfl ?_)
 rw [env194]
 simp [a194,a194r0,a194r1,Wp_seq hs,za3 hs,hj]

theorem Join_nil {bar:Nat} {H:Heap} {t:List UInt8}:Rn fsT SA.sp bar 194 [.nils, .str t] H=some (.ret (.str []),H):=by
 have hs:=SA.mono
 have hj:Rn fsT SA.sp bar 202 [.nils, .str t] H=some (.ret (.str []),H):=by rw [Rn_join];rfl
 refine Wc_eq.1 (Wc_heap hs fsT_194 rfl rfl ?_)
 rw [env194]
 simp [a194,a194r0,a194r1,Wp_seq hs,za3 hs,hj]

theorem substJoins_all (s:List UInt8) (c:UInt8):Wc (Rn fsT SA.sp 0 238 [.str s, .int .u8 c.toNat] []) (fun o _=>o= .ret (.bool true)):=by
 have hs:=SA.mono
 have hlives:=fun H=>lives08 0 H
 refine Wc_heap hs fsT_238 rfl rfl ?_
 rw [env238]
 by_cases h200:200<s.length
 ·have h200':(200:Int)<(s.length:Int):=by omega
  simp [a238r0,a238r1,a238r2,a238,Wp_seq hs,za3 hs,Wp_cond hs,h200',hlives]
 have h200': ¬ (200:Int)<(s.length:Int):=by omega
 by_cases h32:c=32
 ·have e:((c.toNat:Int)==32)=true:=by rw [h32];rfl
  simp [a238r0,a238r1,a238r2,a238,Wp_seq hs,za3 hs,Wp_cond hs,h200',e,hlives]
 have e32:((c.toNat:Int)==32)=false:=by
  have e1: ¬ c.toNat=32:=fun e=>h32 (UInt8.toNat_inj.1 e)
  simp;omega
 by_cases h92:c=92
 ·have e:((c.toNat:Int)==92)=true:=by rw [h92];rfl
  simp [a238r0,a238r1,a238r2,a238,Wp_seq hs,za3 hs,Wp_cond hs,h200',e32,e,hlives]
 have e92:((c.toNat:Int)==92)=false:=by
  have e1: ¬ c.toNat=92:=fun e=>h92 (UInt8.toNat_inj.1 e)
  simp;omega
 have hat:=fun H=>At_one (bar:=0) (H:=H) (s:=s) (by omega) h32 h92
 have hst:strOf [AV.int .u8 c.toNat]=some [c]:=by simp [strOf]
 by_cases e:s= []
 ·subst e
  have hj:=fun H=>Join_nil (bar:=0) (H:=H) (t:= [c])
  simp only [if_true] at hat
  simp [a238r0,a238r1,a238r2,a238r3,a238r4,a238r5,a238,Wp_seq hs,za3 hs,Wp_cond hs,h200',e32,e92,hst,hat,hj,hlives,fillS,binS,beqS]
 ·simp only [if_neg e] at hat
  have hj:=fun H=>Join_str (bar:=0) (H:=H) (l:=zaE c s) (t:= [c]) (by have:=pieces_len c s;omega) (by rw [join_pieces];omega)
  rw [join_pieces] at hj
  generalize (zaE c s).map AV.str=A at *
  simp [a238r0,a238r1,a238r2,a238r3,a238r4,a238r5,a238,Wp_seq hs,za3 hs,Wp_cond hs,h200',e32,e92,hst,hat,hj,hlives,fillS,binS,beqS_refl]

end

end Go.Ak

