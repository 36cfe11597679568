/- That the law answers true. -/
import Derived.Test.YtfcgnpphabplbaaGreatDoorYk
import Derived.Test.YtfcgnpphabplbaaGreatDoorXd
import Derived.Lib.IndexLaws
set_option linter.unusedVariables false
set_option linter.unusedSimpArgs false

namespace Go.Ak
attribute [local simp] evI_skip Wp_skip Wp_exit Wp_ret zbg Ws_some andThen_norm andThen_ret andThen_exit andThen_pan outOf_norm outOf_ret outOf_pan outOf_exit fin_norm fin_ret fin_pan thaw_ret thaw_pan
 zaP zbp wanted zaz opd opdL live look_mkE upd_mkE look_cons ver_cons st_at put slotty esc escs arg1 args drop1 nbeq nble nblt binA binI rd wr zbh sub AV.cells pack one setCells resOf resV resAll roOf zaI sameR beqE_refl beqH_refl fillA fillS newRow newObj step hdOk_nil hdOk_cons contents take flat look lim natOf bound sliceA remake eqS eqL eqA ver
 frz_bool frz_int frz_str frz_nils frz_nilp
 List.getElem?_cons_zero List.getElem?_cons_succ hget_eq hget_new hget_cons_zero hget_cons_succ hget_nil
attribute [local simp] mvV mvL mgV mgL asL asI asB ldN ldV ldL ldG stV stL fdL fdV fdG fgL nlC nlG bnI bvI bnL bvL bxI bxU bgI bgL exT lnS lgS clA clB clC clI pkT pkF pvT pvF pgT pgF ixL axV bxV apL
attribute [-simp] getElem?_pos

section

/-- What a record is told as. -/
def recA (x:List UInt8×Nat×Bool):AV:= .tup [.str x.1,num x.2.1, .bool x.2.2,num 0]

end

section

theorem binS_plus {a b:List UInt8} (h:a.length+b.length≤4611686018427387904):binS .add a b=some (.str (a++b)):=by
 have:Nat.ble (a.length+b.length) 4611686018427387904=true:=Nat.ble_eq_true_of_le h
 simp only [binS,this,cond_true]

/-- A text cut at a byte. -/
def cutA (l:List UInt8) (c:UInt8):AV:=if 0≤Lib.indexByte l c then .tup [.str (l.take (Lib.indexByte l c).toNat), .str (l.drop ((Lib.indexByte l c).toNat+1)), .bool true] else .tup [.str l, .str [], .bool false]

theorem cut_run {bar:Nat} {H:Heap} {l:List UInt8} {c:UInt8} (hl:l.length≤1000000):Rn fsT SA.sp bar 95 [.str l, .str [c]] H=some (.ret (cutA l c),H):=by
 have hs:=SA.mono
 have hidx: ∀ (bar:Nat) (H:Heap),Rn fsT SA.sp bar 112 [.str l, .str [c]] H=some (.ret (.int .i64 (Lib.indexByte l c)),H):=fun bar H=>by rw [Rn_index];rfl
 have hin: ∀ H,Rn fsT SA.sp 0 104 [.str l, .str [c]] H=some (.ret (cutA l c),H):=fun H=>by
  refine pure_eq hs fsT_104 rfl rfl rfl ?_
  rw [env104]
  unfold cutA
  rcases indexByte_at l c with e | ⟨n,h1,h2⟩
  ·have hx: ¬ (0:Int)≤Lib.indexByte l c:=by omega
   rw [if_neg hx]
   simp [a104,a104r0,a104r1,a104r2,a104p3,a104r4,zaM hs,zah hs,zaC hs,hidx,hx,frz,frzL]
  ·have hx:(0:Int)≤Lib.indexByte l c:=by omega
   rw [if_pos hx]
   have hn:(Lib.indexByte l c).toNat=n:=by omega
   rw [h2] at hidx hx
   rw [hn]
   have hw:IntKind.i64.wrap ((n:Int)+1)=(n:Int)+1:=i64_id _ (by omega)
   have h0:(0:Int)≤(n:Int)+1:=by omega
   have ht:((n:Int)+1).toNat=n+1:=by omega
   have hle:n≤l.length:=by omega
   have hle1:n+1≤l.length:=h1
   have htk:List.take (l.length-(n+1)) (List.drop (n+1) l)=List.drop (n+1) l:=List.take_of_length_le (by simp)
   simp [a104,a104r0,a104r1,a104r2,a104p3,a104r4,zaM hs,zah hs,Wp_draw hs,zaC hs,hidx,hw,h0,ht,hle,hle1,h1,htk,frz,frzL]
 have hin0:=hin []
 refine pure_eq hs fsT_95 rfl rfl rfl ?_
 rw [env95]
 unfold cutA at hin0 ⊢
 split at hin0
 ·rename_i h
  rw [if_pos h]
  simp [a95,a95r0,a95r1,zaM hs,zah hs,hin0,frz,frzL]
 ·rename_i h
  rw [if_neg h]
  simp [a95,a95r0,a95r1,zaM hs,zah hs,hin0,frz,frzL]

/-- The next record that a byte ends. -/
def recC (s:List UInt8) (c:UInt8) (a:Nat):List UInt8×Nat×Bool :=
 if 0≤Lib.indexByte (s.drop a) c then ((s.drop a).take (Lib.indexByte (s.drop a) c).toNat,a+(Lib.indexByte (s.drop a) c).toNat+1,true) else (s.drop a,s.length,true)

theorem NextC_run {bar:Nat} {H:Heap} {s:List UInt8} (hl:s.length≤1000000) {c:UInt8} (h92:c≠92) {a:Nat} (ha:a≤s.length):Rn fsT SA.sp bar 80 [.str s,num a, .str [c]] H=some (.ret (recA (if a=s.length then ([],0,false) else recC s c a)),H):=by
 have hs:=SA.mono
 have hx: ¬ (a:Int)<0:=by omega
 have e2: ¬ c.toNat=92:=fun e=>h92 (UInt8.toNat_inj.1 e)
 refine pure_eq hs fsT_80 rfl rfl rfl ?_
 rw [env80]
 by_cases e:a=s.length
 ·have hg:(s.length:Int)≤(a:Int):=by omega
  rw [if_pos e]
  simp [a80r0,a80r1,a80r2,a80,zaM hs,zah hs,zas hs,zaC hs,hx,hg,recA,frz,frzL]
 ·have hg: ¬ (s.length:Int)≤(a:Int):=by omega
  rw [if_neg e]
  have hcut:=cut_run (bar:=0) (H:= []) (l:=s.drop a) (c:=c) (by simp;omega)
  have htk:List.take (s.length-a) (s.drop a)=s.drop a:=List.take_of_length_le (by simp)
  have hdl:(s.drop a).length=s.length-a:=List.length_drop
  unfold recC
  unfold cutA at hcut
  rcases indexByte_at (s.drop a) c with q | ⟨n,h1,h2⟩
  ·have hn: ¬ (0:Int)≤Lib.indexByte (s.drop a) c:=by omega
   rw [if_neg hn] at hcut ⊢
   have hw:IntKind.i64.wrap ((a:Int)+((s.length-a:Nat):Int))=(s.length:Int):=by rw [i64_id _ (by omega)];omega
   simp [a80r0,a80r1,a80r2,a80r3,a80r4,a80r5,a80r6,a80r7,a80r8,a80r9,a80r10,a80,zaM hs,zah hs,zas hs,zaC hs,hx,hg,ha,htk,hcut,binS,beqS,e2,nbeq,hdl,hw,recA,frz,frzL]
  ·have hn:(0:Int)≤Lib.indexByte (s.drop a) c:=by omega
   have hnn:(Lib.indexByte (s.drop a) c).toNat=n:=by omega
   rw [if_pos hn,hnn] at hcut ⊢
   have hrl:((s.drop a).take n).length=n:=by simp;omega
   have hw:IntKind.i64.wrap ((a:Int)+(n:Int))=(a:Int)+(n:Int):=i64_id _ (by omega)
   have hw1:IntKind.i64.wrap ((a:Int)+(n:Int)+1)=(a:Int)+(n:Int)+1:=i64_id _ (by omega)
   generalize (s.drop a).take n=t at *
   simp [a80r0,a80r1,a80r2,a80r3,a80r4,a80r5,a80r6,a80r7,a80r8,a80r9,a80r10,a80,zaM hs,zah hs,zas hs,zaC hs,hx,hg,ha,htk,hcut,binS,beqS,e2,nbeq,hrl,hw,hw1,recA,frz,frzL]

theorem all_loop {bar:Nat} {H:Heap} {s:List UInt8} (hl:s.length≤1000) {c:UInt8} (h92:c≠92): ∀ (m i a:Nat) (v:Nat→AV),a+m=s.length→i≤a→v 0= .str s→v 5= .str [c]→v 6= .str (s.take a)→v 7=num a→v 8=num i →
  Wp (evI fsT SA.sp bar (.loop a162l15) (mkE 2257297506574323 v,H)) (fun e t=>e= .exit 0∧ ∃ v',t=(mkE 2257297506574323 v',H)∧v' 0= .str s∧v' 6= .str s):=by
 have hs:=SA.mono
 intro m
 induction m using Nat.strongRecOn with
 | _ m ih =>
  intro i a v ha hia v0 v5 v6 v7 v8
  have hn:=fun H=>NextC_run (bar:=bar) (H:=H) (s:=s) (by omega) h92 (a:=a) (by omega)
  have hi':i≤s.length:=by omega
  have hw1:IntKind.i64.wrap ((i:Int)+1)=(i:Int)+1:=i64_id _ (by omega)
  rw [zbG hs a162l15.eq_1]
  by_cases e:a=s.length
  ·rw [if_pos e] at hn
   simp only [recA] at hn
   simp [zaM hs,zah hs,zas hs,zaC hs,a162r5,a162r6,a162r7,a162r8,a162r9,v0,v5,v7,v8,hi',hn]
   exact ⟨_,rfl,by simp [v0],by simp [v6,e]⟩
  ·rw [if_neg e] at hn
   have hal:a<s.length:=by omega
   unfold recC at hn
   have hdl:(s.drop a).length=s.length-a:=List.length_drop
   rcases indexByte_at (s.drop a) c with q | ⟨n,h1,h2⟩
   ·have hneg: ¬ (0:Int)≤Lib.indexByte (s.drop a) c:=by omega
    rw [if_neg hneg] at hn
    simp only [recA] at hn
    have hb:binS .add (s.take a) (s.drop a)=some (.str s):=by rw [binS_plus (by simp;omega),List.take_append_drop]
    have hws:IntKind.i64.wrap ((s.length:Int)-(a:Int))=((s.length-a:Nat):Int):=by rw [i64_id _ (by omega)];omega
    simp [zaM hs,zah hs,zas hs,zaC hs,a162r5,a162r6,a162r7,a162r8,a162r9,a162r10,a162r11,a162r12,a162r13,a162r14,v0,v5,v6,v7,v8,hi',hn,hb,hws,hdl,hw1]
    refine ih 0 (by omega) (i+1) s.length _ (by omega) (by omega) ?_ ?_ ?_ ?_ ?_
    all_goals simp [v0,v5]
   ·have hpos:(0:Int)≤Lib.indexByte (s.drop a) c:=by omega
    have hnn:(Lib.indexByte (s.drop a) c).toNat=n:=by omega
    rw [if_pos hpos,hnn] at hn
    simp only [recA] at hn
    have hc:=(Lib.indexByte_some h2).1
    rw [hdl] at h1
    have hrl:((s.drop a).take n).length=n:=by simp;omega
    have hb:binS .add (s.take a) ((s.drop a).take n)=some (.str (s.take (a+n))):=by
     rw [binS_plus (by simp;omega),List.take_add]
    have hb2:binS .add (s.take (a+n)) [c]=some (.str (s.take (a+n+1))):=by
     rw [binS_plus (by simp;omega)]
     rw [List.getElem?_drop] at hc
     rw [List.take_add_one,hc];rfl
    have hws:IntKind.i64.wrap ((a:Int)+(n:Int)+1-(a:Int))=(n:Int)+1:=by rw [i64_id _ (by omega)];omega
    have hgt:(n:Int)<(n:Int)+1:=by omega
    generalize hT:(s.drop a).take n=T at *
    simp [zaM hs,zah hs,zas hs,zaC hs,a162r5,a162r6,a162r7,a162r8,a162r9,a162r10,a162r11,a162r12,a162r13,a162r14,v0,v5,v6,v7,v8,hi',hn,hb,hb2,hws,hrl,hgt,hw1]
    refine ih (s.length-(a+n+1)) (by omega) (i+1) (a+n+1) _ (by omega) (by omega) ?_ ?_ ?_ ?_ ?_
    all_goals simp [v0,v5]

theorem fieldsAll_all (s:List UInt8) (c:UInt8):Wc (Rn fsT SA.sp 0 162 [.str s, .int .u8 c.toNat] []) (fun o _=>o= .ret (.bool true)):=by
 have hs:=SA.mono
 have hlives:=fun H=>lives09 0 H
 suffices h:Rn fsT SA.sp 0 162 [.str s, .int .u8 c.toNat] []=some (.ret (.bool true),[]) from ⟨_,_,h,rfl⟩
 refine pure_eq hs fsT_162 rfl rfl rfl ?_
 rw [env162]
 by_cases h200:200<s.length
 ·have h200':(200:Int)<(s.length:Int):=by omega
  simp [a162r0,a162r1,a162r2,a162,zaM hs,zah hs,zaC hs,h200',hlives]
 have h200': ¬ (200:Int)<(s.length:Int):=by omega
 by_cases h92:c=92
 ·have e:((c.toNat:Int)==92)=true:=by rw [h92];rfl
  simp [a162r0,a162r1,a162r2,a162,zaM hs,zah hs,zaC hs,h200',e,hlives]
 have e92:((c.toNat:Int)==92)=false:=by
  have e1: ¬ c.toNat=92:=fun e=>h92 (UInt8.toNat_inj.1 e)
  simp;omega
 have hst:strOf [AV.int .u8 c.toNat]=some [c]:=by simp [strOf]
 simp [a162r0,a162r1,a162r2,a162r3,a162r4,a162,zaM hs,zah hs,zas hs,zaC hs,h200',e92,hst,fillS]
 refine (all_loop (bar:=0) (H:= []) (s:=s) (by omega) h92 s.length 0 0 _ (by omega) (Nat.le_refl _) ?_ ?_ ?_ ?_ ?_).mono fun e t h=> ?_
 ·simp
 ·simp
 ·simp
 ·simp
 ·simp
 obtain ⟨rfl,v',rfl,k0,k6⟩:=h
 simp [a162r16,zaM hs,zah hs,k0,k6,binS,beqS_refl,hlives]

end

end Go.Ak

