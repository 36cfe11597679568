/- A text's characters: the program's Chars and the document's, walked, and told by functions of their own. -/
import Derived.Test.YtfcgnpphabplbaaGreatDoorOj
import Derived.Test.YtfcgnpphabplbaaGreatDoorOd
set_option linter.unusedVariables false
set_option linter.unusedSimpArgs false
namespace Go.Proofs.YtfcgnpphabplbaaGreatDoor
open Go.RowKit Go.Lib Go.Ak
def zi1 (s:ByteArray) (l:List (Nat×Nat)):List Value:=l.map fun x=> .string (s.extract x.1 x.2)
theorem zfX (s:ByteArray) (l:List (Nat×Nat)) (x:Nat×Nat):zi1 s (l ++ [x])=zi1 s l ++ [.string (s.extract x.1 x.2)]:=by simp [zi1]
set_option maxHeartbeats 4000000 in
set_option maxRecDepth 1000000 in
theorem Tryz.chars (s:ByteArray) (w:World) (hs:s.size≤4294967296) :
  Calls Tryz.prog 37 #[.string s] w fun e w'=> ∃ v,e= .returned v∧w'.ownsRow w.heap.size 9 1 v (zaX s s.size 0).length (zi1 s (zaX s s.size 0))∧(v= .slice none 0 0↔zaX s s.size 0= [])∧Below w.heap.size w w':=by
 have mixed:Tryz.prog.follows .mixedOrders=true:=by kernel_rfl
 obtain ⟨i9,hi9,hz,hsz,hb⟩:=zFl
 have t9:=Tryz.underlying9
 have u9:=run_underlying t9
 have u24:=run_underlying zAW
 go_enter Tryz.func37,Tryz.ntmps37
 go_wp2
 go_loopg [3,4] s.size (fun gf v3 v4 wx=> ∃ (pos last:Nat) (pre:List (Nat×Nat)),v4= .int .i64 (last:Int)∧wx.heap[w.heap.size]? = some (.stringIter s pos)∧Below w.heap.size w wx∧wx.ownsRow w.heap.size 9 1 v3 pre.length (zi1 s pre)∧(v3= .slice none 0 0↔pre= []) ∧
  s.size≤pos+gf∧pos≤s.size∧pre.length≤last∧((pos=0∧pre= []∧last=0∧gf=s.size)∨(last<pos∧pre++(last,pos)::zaX s gf pos=zaX s s.size 0)))
 case atStart =>
  exact ⟨0,0,[],rfl,World.iter_heap w s 0,(Below.refl _ w).alloc (Nat.le_refl _) _,World.ownsRow_nil _ _ _ _,by simp,by omega,Nat.zero_le _,Nat.le_refl _, .inl ⟨rfl,rfl,rfl,rfl⟩⟩
 case round =>
  obtain ⟨pos,last,pre,rfl,hit,hbw,hown,hnil,hfu,hps,hal,hcase⟩:=hrel
  have An:=(show Aside _ from hnil)
  clear hnil
  by_cases hlt:pos<s.size
  ·obtain ⟨g',rfl⟩: ∃ g',gk=g'+1:=⟨gk-1,by omega⟩
   have hnx: ∀ ty,(Instr.next (.pointer (some ⟨w.heap.size,0,none⟩)) true ty).run Tryz.prog wr=_:=fun ty=>Lib.run_next_any_at wr w.heap.size s pos ty hit hlt
   obtain ⟨hwd,hwn⟩:=zjq s pos hlt
   obtain ⟨R,hR⟩: ∃ R,(Utf8.decode s pos).1=R:=⟨_,rfl⟩
   obtain ⟨K,hK⟩: ∃ K,(Utf8.decode s pos).2=K:=⟨_,rfl⟩
   have hsp:zaX s (g'+1) pos=(pos,pos+K)::zaX s g' (pos+K):=by
    rw [zaX,if_pos hlt,hK]
   rw [hR,hK] at hnx
   rw [hK] at hwd hwn
   rw [hsp] at hcase
   have hit2:=Lib.iterAt_heap wr w.heap.size s pos (pos+K) hit
   have hbw2:=Lib.below_iterAt hbw (k:=w.heap.size) (Nat.le_refl _) s (pos+K)
   have hown2:=own_iterAt hown hit (pos+K)
   obtain ⟨W,hWd⟩: ∃ W,wr.iterAt w.heap.size s (pos+K)=W:=⟨_,rfl⟩
   rw [hWd] at hnx hit2 hbw2 hown2
   have hIT:w.heap.size<W.heap.size:=(Array.getElem?_eq_some_iff.1 hit2).1
   clear hown hit hbw
   rcases hcase with ⟨rfl,rfl,rfl,hg⟩ | ⟨hlp,hcase⟩
   ·have A:Aside (zaX s (g'+1) 0=(0,0+K)::zaX s g' (0+K)):=hsp
    clear hsp
    have e0:((0:Nat):Int)=0:=rfl
    go_wp2
    go_roundg g'
    case measure=>omega
    case rel =>
     rw [←hg]
     exact ⟨0+K,0,[],rfl,hit2,hbw2,hown2,⟨fun _=>rfl,fun _=>An.out.2 trivial⟩,by omega,by omega,Nat.le_refl _, .inr ⟨by omega,by rw [A.out];rfl⟩⟩
   ·have hp0:(0:Int)<(pos:Int):=by omega
    have hlp1:(last:Int)≤(pos:Int):=by omega
    have hps1:(pos:Int)≤(s.size:Int):=by omega
    have A:Aside (pre++(last,pos)::(pos,pos+K)::zaX s g' (pos+K)=zaX s s.size 0):=hcase
    clear hcase hsp
    go_wp2_with (at_builtin;go_must (refine wpList_append_own _ rfl (.tmp 13) (.tmp 18) 24 rfl w.heap.size 9 i9 (.string ⟨#[]⟩) 1 16 zAW hi9 hz hsz hb rfl (by decide) _ _ _ rfl (hown2.alloc _) ⟨W.heap.size,0,none⟩ 1 1 [.string (s.extract last pos)] rfl rfl (cell_one_new _ _ _) (by intro u hu;simp at hu;subst hu;rfl) (by unfold maxLen;omega) (by omega) (by have:=hbw2.size;simp;omega) ?_;intro v3 w3 hown3 hgrow3 hnil3))
    go_roundg g'
    case measure=>omega
    case rel =>
     have hX:=hown2.alloc (.cells #[.string (s.extract last pos)] 9)
     refine ⟨pos+K,pos,pre ++ [(last,pos)],rfl,?_,?_,?_,?_,by omega,hwn,by simp;omega, .inr ⟨by omega,by rw [←A.out];simp⟩⟩
     ·exact (hgrow3.block w.heap.size (by simp;omega) (own_ne_iter hown2 hit2)).trans ((Below.heap_alloc _ _ _ hIT).trans hit2)
     ·exact (hbw2.alloc hbw2.size _).grown hgrow3 (by have:=hbw2.size;simp;omega) (fun j hj=>(hX.lt j hj).1)
     ·rw [List.length_append,zfX];exact hown3
     ·constructor
      ·intro h;have:=(hnil3.1 h).2;omega
      ·intro h;simp at h
  ·obtain rfl:pos=s.size:=by omega
   have hnx: ∀ ty,(Instr.next (.pointer (some ⟨w.heap.size,0,none⟩)) true ty).run Tryz.prog wr=_:=fun ty=>Lib.run_next_end_at wr w.heap.size s s.size ty hit hlt
   rcases hcase with ⟨h0,rfl,rfl,hg⟩ | ⟨hlp,hcase⟩
   ·have hse:s=⟨#[]⟩:=by
     cases s with
     | mk d=>simp [ByteArray.size] at h0;rw [h0]
    subst hse
    go_wp2
    go_ret
    exact ⟨_,rfl,hown,⟨fun _=>rfl,fun _=>An.out.2 trivial⟩,hbw⟩
   ·rw [znO s gk _ hlt] at hcase
    have hne:s.toList.isEmpty=false:=by
     rw [Lib.toList_data]
     cases hq:s.data.toList with
     | nil =>
      have h2:=congrArg List.length hq
      rw [Array.length_toList] at h2
      have h3:s.size=0:=h2
      omega
     | cons _ _=>rfl
    have hlp1:(last:Int)≤(s.size:Int):=by omega
    have A:Aside (pre ++ [(last,s.size)]=zaX s s.size 0):=hcase
    clear hcase
    go_wp2_with (at_builtin;go_must (refine wpList_append_own _ rfl (.tmp 23) (.tmp 27) 24 rfl w.heap.size 9 i9 (.string ⟨#[]⟩) 1 16 zAW hi9 hz hsz hb rfl (by decide) _ _ _ rfl (hown.alloc _) ⟨wr.heap.size,0,none⟩ 1 1 [.string (s.extract last s.size)] rfl rfl (cell_one_new _ _ _) (by intro u hu;simp at hu;subst hu;rfl) (by unfold maxLen;omega) (by omega) (by have:=hbw.size;simp;omega) ?_;intro v3 w3 hown3 hgrow3 hnil3))
    go_ret
    have hX:=hown.alloc (.cells #[.string (s.extract last s.size)] 9)
    refine ⟨_,rfl,?_,?_,?_⟩
    ·rw [←A.out,List.length_append,zfX];exact hown3
    ·rw [←A.out]
     constructor
     ·intro h;have:=(hnil3.1 h).2;omega
     ·intro h;simp at h
    ·exact (hbw.alloc hbw.size _).grown hgrow3 (by have:=hbw.size;simp;omega) (fun j hj=>(hX.lt j hj).1)
end Go.Proofs.YtfcgnpphabplbaaGreatDoor
namespace Go.Proofs.YtfcgnpphabplbaaGreatDoor
open Go.RowKit Go.Lib Go.Ak
theorem info3: ∃ i,Tryz.prog.info? 3=some i∧i.zero=some (.int .i64 0)∧i.size=1∧i.bytes=8:=by
 have h:(Tryz.prog.info? 3).map (fun i=>(i.zero,i.size,i.bytes))=some (some (.int .i64 0),1,8):=by kernel_rfl
 cases hq:Tryz.prog.info? 3 with
 | none=>rw [hq] at h;cases h
 | some i=>rw [hq] at h;simp only [Option.map_some,Option.some.injEq,Prod.mk.injEq] at h;exact ⟨i,rfl,h.1,h.2⟩
theorem tInt:Tryz.prog.underlying 101=some (.slice 3):=by kernel_rfl
def zio (l:List (Nat×Nat)):List Value:=l.map fun x=> .int .i64 x.1
theorem zqH (l:List (Nat×Nat)) (x:Nat×Nat):zio (l ++ [x])=zio l ++ [.int .i64 x.1]:=by simp [zio]
theorem zlY {l:List (Nat×Nat)} {i:Nat} {x:Nat×Nat} (h:l[i]? = some x):(zio l)[i]? = some (.int .i64 x.1):=by
 unfold zio;rw [List.getElem?_map,h];rfl
theorem zxJ {w:World} {B B' e size n:Nat} {v:Value} {xs:List Value} (h:w.ownsRow B e size v n xs) (hb:B'≤B):w.ownsRow B' e size v n xs:=by
 obtain ⟨h1,h2⟩:=h
 refine ⟨h1,?_⟩
 rcases h2 with h | ⟨g,cap,cur,a,b,c⟩
 ·exact .inl h
 ·exact .inr ⟨g,cap,cur,a,Nat.le_trans hb b,c⟩
set_option maxHeartbeats 4000000 in
set_option maxRecDepth 1000000 in
theorem Tryz.rchars (s:ByteArray) (w:World) (hs:s.size≤4294967296) :
  Calls Tryz.prog 41 #[.string s] w fun e w'=> ∃ v,e= .returned v∧w'.ownsRow w.heap.size 9 1 v (zaX s s.size 0).length (zi1 s (zaX s s.size 0))∧v ≠ .slice none 0 0∧Below w.heap.size w w':=by
 have mixed:Tryz.prog.follows .mixedOrders=true:=by kernel_rfl
 obtain ⟨i9,hi9,hz,hsz,hb⟩:=zFl
 obtain ⟨i3,hi3,hz3,hsz3,hb3⟩:=info3
 have u9:=run_underlying Tryz.underlying9
 have u24:=run_underlying zAW
 have u101:=run_underlying tInt
 have hB0:Below w.heap.size w (w.alloc (.cells #[] 3)):=(Below.refl _ w).alloc (Nat.le_refl _) _
 have hO0:(w.alloc (.cells #[] 3)).ownsRow w.heap.size 3 1 (.slice (some ⟨w.heap.size,0,none⟩) 0 0) 0 []:=World.ownsRow_made w #[] 0 (Nat.le_refl _) (Nat.zero_le _) rfl
 have hI0:((w.alloc (.cells #[] 3)).iter s 0).heap[w.heap.size+1]? = some (.stringIter s 0):=by
  have:=World.iter_heap (w.alloc (.cells #[] 3)) s 0
  simpa using this
 go_enter Tryz.func41,Tryz.ntmps41
 go_wp2
 generalize hW0:w.alloc (.cells #[] 3)=W0 at *
 go_loopg [3] s.size (fun gf v3 wx=> ∃ (pos:Nat) (pre:List (Nat×Nat)),wx.heap[(w.heap.size+1)]? = some (.stringIter s pos)∧Below w.heap.size w wx∧wx.ownsRow w.heap.size 3 1 v3 pre.length (zio pre)∧v3 ≠ .slice none 0 0 ∧
  s.size≤pos+gf∧pos≤s.size∧pre.length≤pos∧pre++zaX s gf pos=zaX s s.size 0)
 case atStart =>
  exact ⟨0,[],hI0,hB0.alloc hB0.size _,hO0.alloc _,(fun h=>by cases h),by omega,Nat.zero_le _,Nat.le_refl _,rfl⟩
 case round =>
  obtain ⟨pos,pre,hit,hbw,hown,hnn,hfu,hps,hal,hcase⟩:=hrel
  by_cases hlt:pos<s.size
  ·obtain ⟨g',rfl⟩: ∃ g',gk=g'+1:=⟨gk-1,by omega⟩
   have hnx: ∀ ty,(Instr.next (.pointer (some ⟨(w.heap.size+1),0,none⟩)) true ty).run Tryz.prog wr=_:=fun ty=>Lib.run_next_any_at wr (w.heap.size+1) s pos ty hit hlt
   obtain ⟨hwd,hwn⟩:=zjq s pos hlt
   obtain ⟨R,hR⟩: ∃ R,(Utf8.decode s pos).1=R:=⟨_,rfl⟩
   obtain ⟨K,hK⟩: ∃ K,(Utf8.decode s pos).2=K:=⟨_,rfl⟩
   have hsp:zaX s (g'+1) pos=(pos,pos+K)::zaX s g' (pos+K):=by
    rw [zaX,if_pos hlt,hK]
   rw [hR,hK] at hnx
   rw [hK] at hwd hwn
   rw [hsp] at hcase
   have hit2:=Lib.iterAt_heap wr (w.heap.size+1) s pos (pos+K) hit
   have hbw2:=Lib.below_iterAt hbw (k:=(w.heap.size+1)) (by omega) s (pos+K)
   have hown2:=own_iterAt hown hit (pos+K)
   obtain ⟨W,hWd⟩: ∃ W,wr.iterAt (w.heap.size+1) s (pos+K)=W:=⟨_,rfl⟩
   rw [hWd] at hnx hit2 hbw2 hown2
   have hIT:(w.heap.size+1)<W.heap.size:=(Array.getElem?_eq_some_iff.1 hit2).1
   clear hown hit hbw
   have A:Aside (pre++(pos,pos+K)::zaX s g' (pos+K)=zaX s s.size 0):=hcase
   clear hcase hsp
   go_wp2_with (at_builtin;go_must (refine wpList_append_own _ rfl (.tmp 14) (.tmp 16) 101 rfl w.heap.size 3 i3 (.int .i64 0) 1 8 tInt hi3 hz3 hsz3 hb3 rfl (by decide) _ _ _ rfl (hown2.alloc _) ⟨W.heap.size,0,none⟩ 1 1 [.int .i64 (pos:Int)] rfl rfl (cell_one_new _ _ _) (by intro u hu;simp at hu;subst hu;rfl) (by unfold maxLen;omega) (by omega) (by have:=hbw2.size;simp;omega) ?_;intro v3 w3 hown3 hgrow3 hnil3))
   go_roundg g'
   case measure=>omega
   case rel =>
    have hX:=hown2.alloc (.cells #[.int .i64 (pos:Int)] 3)
    refine ⟨pos+K,pre ++ [(pos,pos+K)],?_,?_,?_,fun h=>by have:=(hnil3.1 h).2;omega,by omega,hwn,by simp;omega,by rw [←A.out];simp⟩
    ·exact (hgrow3.block (w.heap.size+1) (by simp;omega) (own_ne_iter hown2 hit2)).trans ((Below.heap_alloc _ _ _ hIT).trans hit2)
    ·exact (hbw2.alloc hbw2.size _).grown hgrow3 (by have:=hbw2.size;simp;omega) (fun j hj=>(hX.lt j hj).1)
    ·rw [List.length_append,zqH];exact hown3
  ·obtain rfl:pos=s.size:=by omega
   have hnx: ∀ ty,(Instr.next (.pointer (some ⟨(w.heap.size+1),0,none⟩)) true ty).run Tryz.prog wr=_:=fun ty=>Lib.run_next_end_at wr (w.heap.size+1) s s.size ty hit hlt
   rw [znO s gk _ hlt,List.append_nil] at hcase
   subst hcase
   have hnext:=fun i x y=>zlZ s s.size 0 i x y
   have hlast:=fun i x=>zl0 s s.size 0 i x (by omega)
   have hle:=fun x=>zqI s s.size 0 x
   obtain ⟨S,hS⟩: ∃ S,S=zaX s s.size 0:=⟨_,rfl⟩
   have AS:Aside (S=zaX s s.size 0):=hS
   rw [←hS] at hown hnext hlast hle hal
   obtain ⟨g3,cap3,rfl⟩: ∃ g3 cap3,u3= .slice (some ⟨g3,0,none⟩) S.length cap3:=by
    rcases hown.2 with ⟨h,_⟩ | ⟨g3,cap3,_,h,_⟩
    ·exact absurd h hnn
    ·exact ⟨g3,cap3,h⟩
   have hg3:g3<wr.heap.size:=(hown.lt g3 rfl).2
   have hB2:Below w.heap.size w (wr.alloc (.cells #[] 9)):=hbw.alloc hbw.size _
   have hO2:(wr.alloc (.cells #[] 9)).ownsRow wr.heap.size 9 1 (.slice (some ⟨wr.heap.size,0,none⟩) 0 0) 0 []:=World.ownsRow_made wr #[] 0 (Nat.le_refl _) (Nat.zero_le _) rfl
   have hS2:=hown.alloc (.cells #[] 9)
   have hwr0:=hbw.size
   obtain ⟨W1,hW1⟩: ∃ W1,W1=wr:=⟨_,rfl⟩
   have hw2:wr.heap.size≤(wr.alloc (.cells #[] 9)).heap.size:=by simp
   have hSl:=hal
   rw [←hW1] at hg3 hwr0
   have hO2:(wr.alloc (.cells #[] 9)).ownsRow W1.heap.size 9 1 (.slice (some ⟨wr.heap.size,0,none⟩) 0 0) 0 []:=by rw [hW1];exact hO2
   have hw2:W1.heap.size≤(wr.alloc (.cells #[] 9)).heap.size:=by rw [hW1];exact hw2
   clear hW1
   clear hit hown hbw hS hfu hps hal
   go_wp2
   go_loopg [5,6] S.length (fun gf v5 v6 wx=> ∃ i:Nat,i+gf=S.length∧v6= .int .i64 (i:Int)∧wx.ownsRow W1.heap.size 9 1 v5 i (zi1 s (S.take i))∧v5 ≠ .slice none 0 0 ∧
    wx.ownsRow w.heap.size 3 1 (.slice (some ⟨g3,0,none⟩) S.length cap3) S.length (zio S)∧Below w.heap.size w wx∧W1.heap.size≤wx.heap.size)
   case atStart=>exact ⟨0,by omega,rfl,hO2,(fun h=>by cases h),hS2,hB2,hw2⟩
   case round =>
    obtain ⟨i,hig,rfl,hA,hnn5,hSt,hbr,hwr⟩:=hrel
    cases gk with
    | zero =>
     have hin: ¬ ((i:Int)<(S.length:Int)):=by omega
     obtain rfl:i=S.length:=by omega
     rw [List.take_length] at hA
     go_wp2
     go_ret
     rw [←AS.out]
     exact ⟨_,rfl,zxJ hA hwr0,hnn5,hbr⟩
    | succ gf =>
     have hin:(i:Int)<(S.length:Int):=by omega
     obtain ⟨x,hx⟩: ∃ x,S[i]? = some x:=⟨_,List.getElem?_eq_getElem (by omega)⟩
     have hxo:=hle x (List.mem_of_getElem? hx)
     have hc0:wr.cell? ⟨g3,i,none⟩=some (.int .i64 x.1):=(hSt.cellAt i (by omega)).trans (zlY hx)
     have hw1:IntKind.i64.wrap ((i:Int)+1)=((i+1:Nat):Int):=by simp [IntKind.wrap,IntKind.bits,IntKind.signed];omega
     have hx1:(x.1:Int)≤(x.2:Int):=by omega
     have hx2:(x.2:Int)≤(s.size:Int):=by omega
     have htake:S.take (i+1)=S.take i ++ [x]:=by rw [List.take_add_one,hx];rfl
     have A:Aside (S.take (i+1)=S.take i ++ [x]):=htake
     clear htake
     by_cases hn:i+1<S.length
     ·obtain ⟨y,hy⟩: ∃ y,S[i+1]? = some y:=⟨_,List.getElem?_eq_getElem hn⟩
      have hxy:=hnext i x y hx hy
      have hc1:wr.cell? ⟨g3,i+1,none⟩=some (.int .i64 x.2):=by rw [hxy];exact (hSt.cellAt (i+1) (by omega)).trans (zlY hy)
      have hnI:((i+1:Nat):Int)<(S.length:Int):=by omega
      clear hnext hlast hle hx hy hxy
      go_wp2_with (at_builtin;go_must (refine wpList_append_own _ rfl (.tmp 37) (.tmp 45) 24 rfl W1.heap.size 9 i9 (.string ⟨#[]⟩) 1 16 zAW hi9 hz hsz hb rfl (by decide) _ _ _ rfl (hA.alloc _) ⟨wr.heap.size,0,none⟩ 1 1 [.string (s.extract x.1 x.2)] rfl rfl (cell_one_new _ _ _) (by intro u hu;simp at hu;subst hu;rfl) (by unfold maxLen;omega) (by omega) (by simp;omega) ?_;intro v3 w3 hown3 hgrow3 hnil3))
      go_roundg gf
      case measure=>omega
      case rel =>
       have hX:=hA.alloc (.cells #[.string (s.extract x.1 x.2)] 9)
       have hS3:=hSt.alloc (.cells #[.string (s.extract x.1 x.2)] 9)
       refine ⟨i+1,by omega,by simp,?_,fun h=>by have:=(hnil3.1 h).2;omega,?_,?_,?_⟩
       ·rw [A.out,zfX];exact hown3
       ·refine hS3.kept hgrow3 (.inr fun e=> ?_)
        have:=(hX.lt g3 e.symm).1
        omega
       ·exact (hbr.alloc hbr.size _).grown hgrow3 (by have:=hbr.size;simp;omega) (fun j hj=>by have:=(hX.lt j hj).1;omega)
       ·have:=hgrow3.size;simp at this;omega
     ·have hyn:S[i+1]? = none:=List.getElem?_eq_none (by omega)
      have hxl:=hlast i x hx hyn
      have hnI: ¬ ((i:Int)+1<(S.length:Int)):=by omega
      have hex:s.extract x.1 s.size=s.extract x.1 x.2:=by rw [hxl]
      rw [hxl] at hx1
      clear hnext hlast hle hx hyn hex
      go_wp2_with (at_builtin;go_must (refine wpList_append_own _ rfl (.tmp 37) (.tmp 45) 24 rfl W1.heap.size 9 i9 (.string ⟨#[]⟩) 1 16 zAW hi9 hz hsz hb rfl (by decide) _ _ _ rfl (hA.alloc _) ⟨wr.heap.size,0,none⟩ 1 1 [.string (s.extract x.1 s.size)] rfl rfl (cell_one_new _ _ _) (by intro u hu;simp at hu;subst hu;rfl) (by unfold maxLen;omega) (by omega) (by simp;omega) ?_;intro v3 w3 hown3 hgrow3 hnil3))
      go_roundg gf
      case measure=>omega
      case rel =>
       have hX:=hA.alloc (.cells #[.string (s.extract x.1 s.size)] 9)
       have hS3:=hSt.alloc (.cells #[.string (s.extract x.1 s.size)] 9)
       refine ⟨i+1,by omega,by simp,?_,fun h=>by have:=(hnil3.1 h).2;omega,?_,?_,?_⟩
       ·rw [A.out,zfX,hxl];exact hown3
       ·refine hS3.kept hgrow3 (.inr fun e=> ?_)
        have:=(hX.lt g3 e.symm).1
        omega
       ·exact (hbr.alloc hbr.size _).grown hgrow3 (by have:=hbr.size;simp;omega) (fun j hj=>by have:=(hX.lt j hj).1;omega)
       ·have:=hgrow3.size;simp at this;omega
end Go.Proofs.YtfcgnpphabplbaaGreatDoor
namespace Go.Ak
def zl2 (xs:List AV) (H:Heap):Option (Out×Heap) :=
 match xs with
 | [.str []]=>some (.ret .nils,H)
 | [.str (c::t)]=>bif Nat.ble (c::t).length 4294967296 then some (.ret (.slc .ro ((zeN (c::t)).map AV.str)),H) else none
 | _=>none
def zo8 (xs:List AV) (H:Heap):Option (Out×Heap) :=
 match xs with
 | [.str s]=>bif Nat.ble s.length 4294967296 then some (.ret (.slc .ro ((zeN s).map AV.str)),H) else none
 | _=>none
end Go.Ak
namespace Go.Proofs.YtfcgnpphabplbaaGreatDoor
open Go.RowKit Go.Lib Go.Ak
section
variable {G:Nat→Option Obj} {bar:Nat} {xs:List AV} {H H':Heap} {out:Out}
theorem zqE {g:Gh} {w w':World} (hh:HeapR (zah G) g w H) (hB:Below w.heap.size w w') {v:Value} {n:Nat} {vals:List Value} (hrow:w'.ownsRow w.heap.size 9 1 v n vals) (hne:v ≠ .slice none 0 0) (l:List (List UInt8)) (hl:l.length=n) (hv:vals=l.map fun x=>Value.string ⟨x.toArray⟩) :
  za4 (zah G) bar g w (.ret (.slc .ro (l.map AV.str))) H (.returned v) w':=by
 subst hv
 subst hl
 obtain ⟨r1,r2⟩:=hrow
 rcases r2 with ⟨e,_⟩ | ⟨q,cap,cur,e,hq1,hq2,hq3,hq4,hq5,hq6⟩
 ·exact absurd e hne
 ·subst e
  have hq:q<w'.heap.size:=(Array.getElem?_eq_some_iff.1 hq2).1
  obtain ⟨x1,x2⟩:=zmm (bar:=bar) hh hB q cap ⟨hq1,hq⟩
  refine ⟨_,_,rfl,x1,x2,SV.of_V ?_⟩
  have e1:(l.map AV.str).length=l.length:=List.length_map ..
  rw [←e1] at hq3 ⊢
  refine V.slc _ q 0 (l.map fun x=>Value.string ⟨x.toArray⟩) 1 _ (fun k u hk=> ?_) (zlW _) (fun e he=> ?_) (by omega) hq3
  ·have hkl:k<l.length:=by
    have:=(List.getElem?_eq_some_iff.1 hk).1
    simp only [List.length_map] at this;omega
   refine ⟨by simp only [Nat.zero_add,if_true];omega,?_,?_⟩
   ·simp only [World.cell?,hq2,Nat.zero_add]
    rw [←hq6,List.getElem?_take,if_pos (by omega),Array.getElem?_toList] at hk
    simpa using hk
   ·have:=List.mem_of_getElem? hk
    obtain ⟨x,_,rfl⟩:=List.mem_map.1 this
    rfl
  ·obtain ⟨x,_,rfl⟩:=List.mem_map.1 he
   rfl
theorem zru (s:List UInt8):(zeN s).length=(zaX ⟨s.toArray⟩ (⟨s.toArray⟩:ByteArray).size 0).length:=by simp [zeN,charsB]
theorem zoo (s:List UInt8):zi1 ⟨s.toArray⟩ (zaX ⟨s.toArray⟩ (⟨s.toArray⟩:ByteArray).size 0)=(zeN s).map fun x=>Value.string ⟨x.toArray⟩:=by
 unfold zi1 zeN charsB
 rw [List.map_map,List.map_map]
 exact List.map_congr_left fun x _=>by
  simp only [Function.comp_apply]
theorem zsJ (he:zo8 xs H=some (out,H')) {g:Gh} {w:World} {us:List Value} (hh:HeapR (zah G) g w H) (ha:ArgsV (zah G) g w 0 xs us) :
  Calls Tryz.prog 41 us.toArray w (za4 (zah G) bar g w out H'):=by
 unfold zo8 at he
 split at he
 ·rename_i s
  obtain ⟨u,rfl,hu⟩:=zku ha
  have:=V.str_inv (show V (zah G) g w (.str s) u from hu)
  subst this
  cases hl:Nat.ble s.length 4294967296 with
  | false=>simp [hl] at he
  | true =>
   simp only [hl,cond_true,Option.some.injEq,Prod.mk.injEq] at he
   obtain ⟨rfl,rfl⟩:=he
   refine (Tryz.rchars ⟨s.toArray⟩ w (Nat.le_of_ble_eq_true hl)).mono fun e w' ⟨v,he,hrow,hne,hB⟩=> ?_
   subst he
   exact zqE hh hB hrow hne (zeN s) (zru s) (zoo s)
 ·cases he
theorem zvS (he:zl2 xs H=some (out,H')) {g:Gh} {w:World} {us:List Value} (hh:HeapR (zah G) g w H) (ha:ArgsV (zah G) g w 0 xs us) :
  Calls Tryz.prog 37 us.toArray w (za4 (zah G) bar g w out H'):=by
 unfold zl2 at he
 split at he
 ·obtain ⟨u,rfl,hu⟩:=zku ha
  have:=V.str_inv (show V (zah G) g w (.str []) u from hu)
  subst this
  simp only [Option.some.injEq,Prod.mk.injEq] at he
  obtain ⟨rfl,rfl⟩:=he
  refine (Tryz.chars ⟨([]:List UInt8).toArray⟩ w (Nat.zero_le _)).mono fun e w' ⟨v,he,hrow,hne,hB⟩=> ?_
  subst he
  have:=hne.2 rfl
  subst this
  exact ⟨g.later w',_,rfl,zef hh hB,zfB hh hB,SV.of_V .nils⟩
 ·rename_i c t
  obtain ⟨u,rfl,hu⟩:=zku ha
  generalize hs:c::t=s at *
  have:=V.str_inv (show V (zah G) g w (.str s) u from hu)
  subst this
  cases hl:Nat.ble s.length 4294967296 with
  | false=>simp [hl] at he
  | true =>
   simp only [hl,cond_true,Option.some.injEq,Prod.mk.injEq] at he
   obtain ⟨rfl,rfl⟩:=he
   refine (Tryz.chars ⟨s.toArray⟩ w (Nat.le_of_ble_eq_true hl)).mono fun e w' ⟨v,he,hrow,hne,hB⟩=> ?_
   subst he
   refine zqE hh hB hrow (fun e=> ?_) (zeN s) (zru s) (zoo s)
   have h0:=hne.1 e
   subst hs
   unfold zaX at h0
   simp [ByteArray.size] at h0
 ·cases he
end
end Go.Proofs.YtfcgnpphabplbaaGreatDoor
namespace Go.Ak
def spE (n:Nat) (runs:Nat→CallF) (bar:Nat):CallF:=fun f xs H =>
 bif Nat.beq f 181 then zl2 xs H else bif Nat.beq f 184 then zo8 xs H else spD n runs bar f xs H
end Go.Ak
namespace Go.Proofs.YtfcgnpphabplbaaGreatDoor
open Go.Ak
theorem zHG {G:Nat→Option Obj} (hG:zeA G):zC8 (zah G) fsT spE:=by
 intro n runs hr bar f xs H out H' hf he
 unfold spE at he
 cases h1:Nat.beq f 181 with
 | true =>
  have:=zan h1
  subst this
  exact ⟨by kernel_rfl,fun g w us hh ha=>zvS (by exact he) hh ha⟩
 | false =>
  cases h2:Nat.beq f 184 with
  | true =>
   have:=zan h2
   subst this
   exact ⟨by kernel_rfl,fun g w us hh ha=>zsJ (by exact he) hh ha⟩
  | false =>
   simp only [h1,h2,cond_false] at he
   exact zHH hG n runs hr bar f xs H out H' hf he
end Go.Proofs.YtfcgnpphabplbaaGreatDoor
