/- What the machine's functions compute: trees to machines, machines to places. -/
import Derived.Test.YtfcgnpphabplbaaGreatDoorOm
import Derived.Test.YtfcgnpphabplbaaGreatDoorOd
set_option linter.unusedVariables false
set_option linter.unusedSimpArgs false
namespace Go.Ak
attribute [local simp] zcx zd7 zd8 zfV zbm zc2 zaG za9 za0 zba zbs zbK zbL zbg zcJ zdJ zdK zcB zcC
 zaN zcN wanted zbb opd zkt live zcD zde zbA zcA ziq put zes esc zqx ztJ args drop1 zg1 zuW zuV ztH zou rd wr zbE sub AV.cells pack one setCells zeH znX zc3 roOf zaL zfw zav zau zey zbw newRow newObj step zcF zbM contents take flat look lim zex bound zec zeu eqS eqL eqA ver
 zcI zdI zdH zcG zcH
 List.getElem?_cons_zero List.getElem?_cons_succ zdl zbp zaE zaF zcE
attribute [local simp] sR sT cV bL mvV mvL mgV mgL asL asI asB ldN ldV ldL ldG stV stL fdL fdV fdG fgL nlC nlG bnI bvI bnL bvL bxI bxU bgI bgL exT lnS lgS clA clB clC clI pkT pkF pvT pvF pgT pgF ixL axV bxV apL
attribute [-simp] getElem?_pos
section
variable {S:Sp} {bar:Nat}
theorem zpO {H:Heap} {p:Nat} {L:List NS} {first:Nat} (x:NS) (hb:bar≤p) (hx:x.set.length=4) (hl:L.length<1000000) (h:PH H p L first) :
  Wc (Rn fsT S.sp bar 58 [.ptr p 0, .agg x.cells] H) (fun o H'=>o= .ret (num L.length)∧PH H' p (L ++ [x]) first∧Front p H H'):=by
 have hs:=S.mono
 refine zaO hs zIm rfl rfl ?_
 have hx':=hx
 obtain ⟨op,set,next,two⟩:=x
 obtain ⟨w0,w1,w2,w3,rfl⟩: ∃ a b c d,set= [a,b,c,d]:=by
  match set,hx with
  | [a,b,c,d],_=>exact ⟨a,b,c,d,rfl⟩
 obtain ⟨a,b,hw,⟨rfl,rfl⟩ | ⟨r,rfl,h1,h2⟩⟩:=h
 ·have hp:p<H.length:=zas b
  rw [zID]
  simp [a58,zad hs,zaa hs,zai hs,zG2,NS.cells,zG3,zG1,b,hb,za5,hp,zae,zal]
  refine ⟨⟨_,?_,?_, .inr ⟨H.length,rfl,hp,?_⟩⟩,by simp;omega,fun i hi=> ?_⟩
  ·rw [za5 _ (by simpa using hp),zae _ hp];rfl
  ·intro y hy;simp only [List.mem_singleton] at hy;subst hy;rfl
  ·rw [zjg _ _ _ (by simp)];rfl
  ·rw [za5 _ (by simp;omega),zaw _ (by omega)]
 ·have hp:p<H.length:=zas b
  have hr:r<H.length:=zas h2
  have hbr:bar≤r:=by omega
  have hrp:r≠p:=by omega
  have hpr:p≠r:=by omega
  have hcl:=zif hw
  have hle:(L.length+1)*7≤4294967296:=by omega
  have htk:List.take (L.length*7) (cellsOf L)=cellsOf L:=List.take_of_length_le (by omega)
  have hwr:IntKind.i64.wrap (L.length:Int)=L.length:=zal _ (by omega)
  rw [zID]
  simp [a58,zad hs,zaa hs,zai hs,zG2,NS.cells,zG3,zG1,b,hb,hp,h2,hbr,zae,za5,zaw,hrp,hpr,hcl,hle,htk,hwr]
  refine ⟨⟨_,?_,?_, .inr ⟨H.length,by simp;rfl,hp,?_⟩⟩,by simp;omega,fun i hi=> ?_⟩
  ·rw [za5 _ (by simpa using hp),zae _ (by simpa using hp)]
  ·intro y hy
   rcases List.mem_append.1 hy with hy | hy
   ·exact hw y hy
   ·simp only [List.mem_singleton] at hy;subst hy;rfl
  ·rw [zjg _ _ _ (by simp),zrv];rfl
  ·rw [za5 _ (by simp;omega),zaw _ (by omega),zaw _ (by omega)]
end
section
variable {S:Sp} {bar:Nat}
theorem Front.refl {p:Nat} {H:Heap} (h:p<H.length):Front p H H:=⟨h,fun _ _=>rfl⟩
theorem Front.trans {p:Nat} {H H' H'':Heap} (h:Front p H H') (k:Front p H' H''):Front p H H'':=⟨k.1,fun i hi=>(k.2 i hi).trans (h.2 i hi)⟩
def znK (S:Sp) (f:Nat) (r:Re) (b:Nat→List NS→BS):Prop :=
 ∀ (bar p:Nat) (H:Heap) (L:List NS) (first next:Nat),bar≤p→PH H p L first→L.length+r.cnt<1000000 →
  Wc (Rn fsT S.sp bar f [.ptr p 0,r.av,num next] H) (fun o H'=>o= .ret (num (b next L).1)∧PH H' p (b next L).2 first∧Front p H H')
theorem PH.lt {H:Heap} {p:Nat} {L:List NS} {first:Nat} (h:PH H p L first):p<H.length:=by
 obtain ⟨_,h,_⟩:=h
 exact zas h
theorem four {l:List Nat} (h:l.length=4): ∃ a b c d,l= [a,b,c,d]:=by
 match l,h with
 | [a,b,c,d],_=>exact ⟨a,b,c,d,rfl⟩
theorem Wc.get {x:Option (Out×Heap)} {Q:Out→Heap→Prop} (h:Wc x Q): ∃ o H,x=some (o,H)∧Q o H:=h
theorem za3 {l:List AV} (h:l ≠ []):rowOf l= .slc .ro l:=by
 cases l with
 | nil=>exact absurd rfl h
 | cons a l=>rfl
theorem Re.av_agg: ∀ {r:Re},r.wide→ ∃ cs,r.av= .agg cs∧cs.length=8
 | .mk k set mn mx l,h=>by
  unfold Re.wide at h
  exact ⟨_,by rw [Re.av],by simp [h.1]⟩
theorem zeo {l:List Re} {i:Nat} (h:i<l.length):(Re.avs l)[i]? = some l[i].av:=by
 rw [Re.avs_map,List.getElem?_map,List.getElem?_eq_getElem h];rfl
theorem zaq (l:List Re):(Re.avs l).length=l.length:=by simp [Re.avs_map]
theorem zB2 {k:Int} {a b c d:Nat} {mn mx:Int} {l:List Re} (hf:Re.fineL l) (hw:Re.wideL l) (ih: ∀ x∈l,znK S 59 x x.bld) {p first n0:Nat} {P0:List NS} (hb:bar≤p) (hc:P0.length+Re.cntL l<1000000) (hlen:l.length<1000000) :
  ∀ (i:Nat) (v:Nat→AV) (H:Heap),i≤l.length→v 0= .ptr p 0→v 4= .box [.int .i64 k,u64 a,u64 b,u64 c,u64 d, .int .i64 mn, .int .i64 mx,rowOf (Re.avs l)]→v 7= .int .i64 ((i:Int)-1)→v 2=num (Re.bldCat (l.drop i) n0 P0).1 →
   PH H p (Re.bldCat (l.drop i) n0 P0).2 first →
   Wp (evI fsT S.sp bar (.loop a59l13) (mkE 19343108262865700173913047 v,H)) (fun e s=>e= .exit 1∧ ∃ v' H',s=(mkE 19343108262865700173913047 v',H')∧v' 2=num (Re.bldCat l n0 P0).1∧PH H' p (Re.bldCat l n0 P0).2 first∧Front p H H'):=by
 have hs:=S.mono
 intro i
 induction i with
 | zero =>
  intro v H _ h0 h4 h7 h2 hP
  rw [zaj hs a59l13.eq_1]
  simp [zad hs,zaa hs,zab hs,zac hs,zff,zfe,zfd,h7,num]
  exact ⟨_,_,⟨rfl,rfl⟩,by simpa [ziq] using h2,by simpa using hP,Front.refl hP.lt⟩
 | succ i ihi =>
  intro v H hi h0 h4 h7 h2 hP
  have hi':i<l.length:=by omega
  have hne:Re.avs l ≠ []:=by rw [Re.avs_map];simp;intro e;subst e;simp at hi
  rw [za3 hne] at h4
  have hx:=ih l[i] (List.getElem_mem hi')
  have hxw:=zaC.1 hw l[i] (List.getElem_mem hi')
  have hxf:=zei.1 hf l[i] (List.getElem_mem hi')
  obtain ⟨cs,hcs,hcl⟩:=Re.av_agg hxw
  have hcl8:8≤cs.length:=by omega
  have htk:List.take 8 cs=cs:=List.take_of_length_le (by omega)
  have hg:(Re.avs l)[i]? = some (.agg cs):=by rw [zeo hi',hcs]
  have hd:l.drop i=l[i]::l.drop (i+1):=List.drop_eq_getElem_cons hi'
  have hfd:Re.fineL (l.drop (i+1)):=zei.2 fun x hx=>zei.1 hf x (List.mem_of_mem_drop hx)
  have hlen2:=Re.bldCat_len (l.drop (i+1)) hfd n0 P0
  have hsum:Re.cntL (l.take i)+(l[i].cnt+Re.cntL (l.drop (i+1)))=Re.cntL l:=by
   have:=ziA (l.take i) (l.drop i)
   rw [List.take_append_drop,hd] at this
   simpa only [Re.cntL] using this.symm
  obtain ⟨o,H1,hcall,ho,hP1,hF1⟩:=hx bar p H _ first (Re.bldCat (l.drop (i+1)) n0 P0).1 hb hP (by omega)
  subst ho
  rw [hcs] at hcall
  have hwr:IntKind.i64.wrap ((i:Int)-1)=(i:Int)-1:=zal _ (by omega)
  have e7:((i+1:Nat):Int)-1=i:=by omega
  rw [e7] at h7
  rw [zaj hs a59l13.eq_1]
  simp [zad hs,zaa hs,zab hs,zac hs,zff,zfe,zfd,h7,h0,h4,h2,hg,hcl,hcl8,htk,hcall,hwr]
  have hb2:Re.bldCat (l.drop i) n0 P0=l[i].bld (Re.bldCat (l.drop (i+1)) n0 P0).1 (Re.bldCat (l.drop (i+1)) n0 P0).2:=by rw [hd,Re.bldCat]
  refine (ihi _ H1 (by omega) ?_ ?_ ?_ ?_ ?_).mono fun e s h=> ?_
  ·simp [h0]
  ·simp [h4,za3 hne]
  ·simp
  ·simp [hb2]
  ·rw [hb2];exact hP1
  ·obtain ⟨he,v',H',hs',h1,h2,h3⟩:=h
   exact ⟨he,v',H',hs',h1,h2,hF1.trans h3⟩
end
section
variable {S:Sp} {bar:Nat}
theorem zkl {H:Heap} {p:Nat} {L:List NS} {first:Nat} (n t:Nat) (hb:bar≤p) (hl:L.length<1000000) (h:PH H p L first) :
  Wc (Rn fsT S.sp bar 58 [.ptr p 0, .agg [.int .i64 3, .int .u64 0, .int .u64 0, .int .u64 0, .int .u64 0,num n,num t]] H) (fun o H'=>o= .ret (num (zfu ⟨3,zbH,n,t⟩ L).1)∧PH H' p (zfu ⟨3,zbH,n,t⟩ L).2 first∧Front p H H') :=
 zpO ⟨3,zbH,n,t⟩ hb rfl hl h
theorem ztF {x:Re} {l:List Re} (h:l ≠ []) (n:Nat) (P:List NS):Re.bldAlt (x::l) n P=zfu ⟨3,zbH,(x.bld n (Re.bldAlt l n P).2).1,(Re.bldAlt l n P).1⟩ (x.bld n (Re.bldAlt l n P).2).2:=by
 cases l with
 | nil=>exact absurd rfl h
 | cons y l=>rw [Re.bldAlt]
theorem zCb {k:Int} {a b c d:Nat} {mn mx:Int} {l:List Re} (hf:Re.fineL l) (hw:Re.wideL l) (ih: ∀ x∈l,znK S 59 x x.bld) {p first n0:Nat} {P0:List NS} (hb:bar≤p) (hc:P0.length+(Re.cntL l+(l.length-1))<1000000) (hlen:l.length<1000000) :
  ∀ (i:Nat) (v:Nat→AV) (H:Heap),i+1≤l.length→v 0= .ptr p 0→v 4= .box [.int .i64 k,u64 a,u64 b,u64 c,u64 d, .int .i64 mn, .int .i64 mx,rowOf (Re.avs l)]→v 9= .int .i64 ((i:Int)-1)→v 2=num n0→v 8=num (Re.bldAlt (l.drop i) n0 P0).1 →
   PH H p (Re.bldAlt (l.drop i) n0 P0).2 first →
   Wp (evI fsT S.sp bar (.loop a59l20) (mkE 19343108262865700173913047 v,H)) (fun e s=>e= .exit 3∧ ∃ v' H',s=(mkE 19343108262865700173913047 v',H')∧v' 8=num (Re.bldAlt l n0 P0).1∧PH H' p (Re.bldAlt l n0 P0).2 first∧Front p H H'):=by
 have hs:=S.mono
 intro i
 induction i with
 | zero =>
  intro v H _ h0 h4 h9 h2 h8 hP
  rw [zaj hs a59l20.eq_1]
  simp [zad hs,zaa hs,zab hs,zac hs,zfc,zfb,zfa,h9,num]
  exact ⟨_,_,⟨rfl,rfl⟩,by simpa [ziq] using h8,by simpa using hP,Front.refl hP.lt⟩
 | succ i ihi =>
  intro v H hi h0 h4 h9 h2 h8 hP
  have hi':i<l.length:=by omega
  have hne:Re.avs l ≠ []:=by rw [Re.avs_map];simp;intro e;subst e;simp at hi
  rw [za3 hne] at h4
  have hx:=ih l[i] (List.getElem_mem hi')
  have hxw:=zaC.1 hw l[i] (List.getElem_mem hi')
  have hxf:=zei.1 hf l[i] (List.getElem_mem hi')
  obtain ⟨cs,hcs,hcl⟩:=Re.av_agg hxw
  have hcl8:8≤cs.length:=by omega
  have htk:List.take 8 cs=cs:=List.take_of_length_le (by omega)
  have hg:(Re.avs l)[i]? = some (.agg cs):=by rw [zeo hi',hcs]
  have hd:l.drop i=l[i]::l.drop (i+1):=List.drop_eq_getElem_cons hi'
  have hdn:l.drop (i+1) ≠ []:=by simp;omega
  have hfd:Re.fineL (l.drop (i+1)):=zei.2 fun x hx=>zei.1 hf x (List.mem_of_mem_drop hx)
  have hlen2:=Re.bldAlt_len (l.drop (i+1)) hfd n0 P0
  rw [List.length_drop] at hlen2
  have hsum:Re.cntL (l.take i)+(l[i].cnt+Re.cntL (l.drop (i+1)))=Re.cntL l:=by
   have:=ziA (l.take i) (l.drop i)
   rw [List.take_append_drop,hd] at this
   simpa only [Re.cntL] using this.symm
  obtain ⟨o,H1,hcall,ho,hP1,hF1⟩:=hx bar p H _ first n0 hb hP (by omega)
  subst ho
  rw [hcs] at hcall
  have hlx:=Re.bld_len l[i] hxf n0 (Re.bldAlt (l.drop (i+1)) n0 P0).2
  obtain ⟨o,H2,hcall2,ho,hP2,hF2⟩:=zkl (S:=S) (bar:=bar) (l[i].bld n0 (Re.bldAlt (l.drop (i+1)) n0 P0).2).1 (Re.bldAlt (l.drop (i+1)) n0 P0).1 hb (by omega) hP1
  subst ho
  have hwr:IntKind.i64.wrap ((i:Int)-1)=(i:Int)-1:=zal _ (by omega)
  have e9:((i+1:Nat):Int)-1=i:=by omega
  rw [e9] at h9
  rw [zaj hs a59l20.eq_1]
  simp [zad hs,zaa hs,zab hs,zac hs,zfc,zfb,zfa,h9,h0,h4,h2,h8,hg,hcl,hcl8,htk,hcall,hcall2,hwr]
  have hb2:Re.bldAlt (l.drop i) n0 P0=zfu ⟨3,zbH,(l[i].bld n0 (Re.bldAlt (l.drop (i+1)) n0 P0).2).1,(Re.bldAlt (l.drop (i+1)) n0 P0).1⟩ (l[i].bld n0 (Re.bldAlt (l.drop (i+1)) n0 P0).2).2:=by rw [hd,ztF hdn]
  refine (ihi _ H2 (by omega) ?_ ?_ ?_ ?_ ?_ ?_).mono fun e s h=> ?_
  ·simp [h0]
  ·simp [h4,za3 hne]
  ·simp
  ·simp [h2]
  ·simp [hb2]
  ·rw [hb2];exact hP2
  ·obtain ⟨he,v',H',hs',h1,h2,h3⟩:=h
   exact ⟨he,v',H',hs',h1,h2,(hF1.trans hF2).trans h3⟩
theorem zBl {k:Int} {a b c d:Nat} {mn mx:Int} {x:Re} {es:List AV} (hx:znK S 59 x x.bld) (hf:x.fine) (hw:x.wide) {p first last N:Nat} (hb:bar≤p) (hN:N<1000000) :
  ∀ (m i:Nat) (v:Nat→AV) (H:Heap) (q:BS),i+m=N→v 0= .ptr p 0→v 4= .box [.int .i64 k,u64 a,u64 b,u64 c,u64 d, .int .i64 mn, .int .i64 mx, .slc .ro (x.av::es)]→v 38=num N→v 39=num i→v 2=num q.1→v 9=num last →
   PH H p q.2 first→q.2.length+m*(x.cnt+1)<1000000 →
   Wp (evI fsT S.sp bar (.loop a83l11) (mkE 126102713711727575 v,H)) (fun e s=>e= .exit 0∧ ∃ v' H',s=(mkE 126102713711727575 v',H')∧v' 0=v 0∧v' 4=v 4∧v' 2=num (zcq x.bld last m q).1∧PH H' p (zcq x.bld last m q).2 first∧Front p H H'):=by
 have hs:=S.mono
 obtain ⟨cs,hcs,hcl⟩:=Re.av_agg hw
 rw [hcs]
 have hcl8:8≤cs.length:=by omega
 have htk:List.take 8 cs=cs:=List.take_of_length_le (by omega)
 intro m
 induction m with
 | zero =>
  intro v H L q hi h0 h4 h38 h39 h2 h9 hP hl
  simp only [Nat.add_zero] at hi;subst hi
  rw [zaj hs a83l11.eq_1]
  simp [zad hs,zaa hs,zab hs,zac hs,zpQ,zpP,zjz,h38,h39]
  exact ⟨_,_,⟨rfl,rfl⟩,by simp,by simp,by simpa [zcq,iter] using h2,by simpa [zcq,iter] using hP,Front.refl hP.lt⟩
 | succ m ihm =>
  intro i v H q hi h0 h4 h38 h39 h2 h9 hP hl
  have hiN:i<N:=by omega
  rw [Nat.succ_mul] at hl
  obtain ⟨o,H1,hcall,ho,hP1,hF1⟩:=hx bar p H _ first q.1 hb hP (by omega)
  subst ho
  rw [hcs] at hcall
  have hlx:=Re.bld_len x hf q.1 q.2
  obtain ⟨o,H2,hcall2,ho,hP2,hF2⟩:=zkl (S:=S) (bar:=bar) (x.bld q.1 q.2).1 last hb (by omega) hP1
  subst ho
  have hwr:IntKind.i64.wrap ((i:Int)+1)=(i:Int)+1:=zal _ (by omega)
  rw [zaj hs a83l11.eq_1]
  simp [zad hs,zaa hs,zab hs,zac hs,zpQ,zpP,zjz,h38,h39,h0,h4,h2,h9,hiN,hcl,hcl8,htk,hcall,hcall2,hwr]
  refine (ihm (i+1) _ H2 (zfu ⟨3,zbH,(x.bld q.1 q.2).1,last⟩ (x.bld q.1 q.2).2) (by omega) ?_ ?_ ?_ ?_ ?_ ?_ hP2 (by rw [zdr];omega)).mono fun e s h=> ?_
  ·simp [h0]
  ·simp [h4]
  ·simp [h38]
  ·simp
  ·simp
  ·simp [h9]
  ·obtain ⟨he,v',H',hs',e0,e4,h1,h2',h3⟩:=h
   exact ⟨he,v',H',hs',by simp [e0,h0],by simp [e4,h4],h1,h2',(hF1.trans hF2).trans h3⟩
theorem zuZ {k:Int} {a b c d:Nat} {mn mx:Int} {x:Re} {es:List AV} (hx:znK S 59 x x.bld) (hf:x.fine) (hw:x.wide) {p first N:Nat} (hb:bar≤p) (hN:N<1000000) :
  ∀ (m i:Nat) (v:Nat→AV) (H:Heap) (q:BS),i+m=N→v 0= .ptr p 0→v 4= .box [.int .i64 k,u64 a,u64 b,u64 c,u64 d, .int .i64 mn, .int .i64 mx, .slc .ro (x.av::es)]→v 54=num N→v 55=num i→v 2=num q.1 →
   PH H p q.2 first→q.2.length+m*x.cnt<1000000 →
   Wp (evI fsT S.sp bar (.loop a83l16) (mkE 126102713711727575 v,H)) (fun e s=>e= .exit 2∧ ∃ v' H',s=(mkE 126102713711727575 v',H')∧v' 2=num (zdq x.bld m q).1∧PH H' p (zdq x.bld m q).2 first∧Front p H H'):=by
 have hs:=S.mono
 obtain ⟨cs,hcs,hcl⟩:=Re.av_agg hw
 rw [hcs]
 have hcl8:8≤cs.length:=by omega
 have htk:List.take 8 cs=cs:=List.take_of_length_le (by omega)
 intro m
 induction m with
 | zero =>
  intro v H L q hi h0 h4 h38 h39 h2 hP hl
  simp only [Nat.add_zero] at hi;subst hi
  rw [zaj hs a83l16.eq_1]
  simp [zad hs,zaa hs,zab hs,zac hs,zjy,zjx,zjw,h38,h39]
  exact ⟨_,_,⟨rfl,rfl⟩,by simpa [zdq,iter] using h2,by simpa [zdq,iter] using hP,Front.refl hP.lt⟩
 | succ m ihm =>
  intro i v H q hi h0 h4 h38 h39 h2 hP hl
  have hiN:i<N:=by omega
  rw [Nat.succ_mul] at hl
  obtain ⟨o,H1,hcall,ho,hP1,hF1⟩:=hx bar p H _ first q.1 hb hP (by omega)
  subst ho
  rw [hcs] at hcall
  have hlx:=Re.bld_len x hf q.1 q.2
  have hwr:IntKind.i64.wrap ((i:Int)+1)=(i:Int)+1:=zal _ (by omega)
  rw [zaj hs a83l16.eq_1]
  simp [zad hs,zaa hs,zab hs,zac hs,zjy,zjx,zjw,h38,h39,h0,h4,h2,hiN,hcl,hcl8,htk,hcall,hwr]
  refine (ihm (i+1) _ H1 (x.bld q.1 q.2) (by omega) ?_ ?_ ?_ ?_ ?_ hP1 (by omega)).mono fun e s h=> ?_
  ·simp [h0]
  ·simp [h4]
  ·simp [h38]
  ·simp
  ·simp
  ·obtain ⟨he,v',H',hs',h1,h2',h3⟩:=h
   exact ⟨he,v',H',hs',h1,h2',hF1.trans h3⟩
end
section
variable {S:Sp} {bar:Nat}
theorem zwH {x:NS} (h:x.set.length=4) (n:Nat):x.cells.set 5 (num n)=NS.cells { x with next:=n }:=by
 obtain ⟨op,set,next,two⟩:=x
 obtain ⟨a,b,c,d,rfl⟩:=four h
 rfl
theorem cellsOf_next (n:Nat): ∀ {L:List NS} {i:Nat} {x:NS},zEM L→L[i]? = some x→(cellsOf L).set (i*7+5) (num n)=cellsOf (L.set i { x with next:=n })
 | [],i,x,_,h=>by simp at h
 | y::L,0,x,hw,h=>by
  simp only [List.getElem?_cons_zero,Option.some.injEq] at h;subst h
  have hy:=hw y (by simp)
  have hc:=zwH hy n
  simp only [cellsOf,List.flatMap_cons,Nat.zero_mul,Nat.zero_add,List.set_cons_zero]
  rw [List.set_append_left _ _ (by simp [NS.cells,hy]),hc]
 | y::L,i+1,x,hw,h=>by
  have hy:=hw y (by simp)
  have hl:y.cells.length=7:=by simp [NS.cells,hy]
  have ih:=cellsOf_next n (L:=L) (i:=i) (x:=x) (fun z hz=>hw z (by simp [hz])) (by simpa using h)
  simp only [cellsOf,List.flatMap_cons,List.set_cons_succ] at ih ⊢
  rw [List.set_append_right _ _ (by omega),hl,←ih]
  congr 2;omega
theorem zHm {H:Heap} {p:Nat} {L:List NS} {first:Nat} (h:PH H p L first) {i:Nat} {x:NS} (hx:L[i]? = some x) (n:Nat): ∃ r,hget H p=some (some [.msl 7 r 0 L.length,num first])∧hget H r=some (some (cellsOf L))∧p<r ∧
  (cellsOf L).length=L.length*7∧i<L.length∧PH (H.set r (some ((cellsOf L).set (i*7+5) (num n)))) p (L.set i { x with next:=n }) first:=by
 obtain ⟨lv,h1,hw,⟨rfl,rfl⟩ | ⟨r,rfl,h2,h3⟩⟩:=h
 ·simp at hx
 ·have hi:i<L.length:=(List.getElem?_eq_some_iff.1 hx).1
  refine ⟨r,h1,h3,h2,zif hw,hi,_,?_,?_, .inr ⟨r,by simp;rfl,h2,?_⟩⟩
  ·rw [zaw _ (by omega)];exact h1
  ·intro y hy
   rcases List.mem_or_eq_of_mem_set hy with hy | rfl
   ·exact hw y hy
   ·exact hw x (List.mem_of_getElem? hx)
  ·rw [zae _ (zas h3),cellsOf_next n hw hx]
theorem Front.set {p r:Nat} {H:Heap} (hp:p<H.length) (h:p<r) (x:Option (List AV)):Front p H (H.set r x):=⟨by simpa using hp,fun i hi=>zaw x (by omega)⟩
theorem zEX {set:List Nat} {mn mx:Int} {x:Re} {es:List Re} (hx:znK S 59 x x.bld) (hf:x.fine) (hw:x.wide) (h4:set.length=4) (h0:0≤mn) (h1:mx<0∨mn≤mx) (hm:mn<1000∧ -1≤mx∧mx<1000∧0≤mn) :
  znK S 83 (.mk 6 set mn mx (x::es)) (zdp x.bld mn mx):=by
 intro bar p H L first next hb hP hl
 have hs:=S.mono
 obtain ⟨a,b,c,d,rfl⟩:=four h4
 obtain ⟨cs,hcs,hcl⟩:=Re.av_agg hw
 have hcl8:8≤cs.length:=by omega
 have htk:List.take 8 cs=cs:=List.take_of_length_le (by omega)
 simp only [Re.cnt,Re.cntR] at hl
 simp at hl
 obtain ⟨N,rfl⟩: ∃ N:Nat,mn=N:=⟨mn.toNat,by omega⟩
 refine zaO hs zH8 rfl rfl ?_
 rw [env83]
 by_cases hneg:mx<0
 ·have emx:mx= -1:=by omega
  subst emx
  rw [if_pos hneg] at hl
  obtain ⟨o,H1,hcall,ho,hP1,hF1⟩:=zkl (S:=S) (bar:=bar) 0 next hb (by omega) hP
  subst ho
  obtain ⟨o,H2,hcall2,ho,hP2,hF2⟩:=hx bar p H1 _ first L.length hb hP1 (by rw [zdr];omega)
  subst ho
  rw [hcs] at hcall2
  have hkeep:=((Re.bld_ok (s:= []) x hf) L.length (zfu ⟨3,zbH,0,next⟩ L).2).2.1 L.length (by rw [zdr];omega)
  have hat:(x.bld L.length (zfu ⟨3,zbH,0,next⟩ L).2).2[L.length]? = some ⟨3,zbH,0,next⟩:=by rw [hkeep];exact zeh _ _
  obtain ⟨r,g1,g2,g3,g4,g5,g6⟩:=zHm hP2 hat (x.bld L.length (zfu ⟨3,zbH,0,next⟩ L).2).1
  have hbr:bar≤r:=by omega
  have hlen:=Re.bld_len x hf L.length (zfu ⟨3,zbH,0,next⟩ L).2
  rw [zdr] at hlen
  have hin:L.length*7+5+1≤(x.bld L.length (zfu ⟨3,zbH,0,next⟩ L).2).2.length*7:=by omega
  have e1:(zfu ⟨3,zbH,0,next⟩ L).1=L.length:=rfl
  have hcall:Rn fsT S.sp bar 58 [.ptr p 0, .agg [.int .i64 3, .int .u64 0, .int .u64 0, .int .u64 0, .int .u64 0, .int .i64 0,num next]] H=some (.ret (num L.length),H1):=hcall
  have hw1:IntKind.i64.wrap (-1-(N:Int))= -1-N:=zal _ (by omega)
  have hno: ¬ ((N:Int) < -1):=by omega
  have hu:zdp x.bld N (-1) next L=zdq x.bld N (zcv x.bld next L):=by
   have e:((-1:Int)-N).toNat=0:=by omega
   simp [zdp,zcq,e,iter]
  have hQ:zcv x.bld next L=(L.length,(x.bld L.length (zfu ⟨3,zbH,0,next⟩ L).2).2.set L.length ⟨3,zbH,(x.bld L.length (zfu ⟨3,zbH,0,next⟩ L).2).1,next⟩):=rfl
  simp [a83,ztZ,ztY,ztX,ztW,ztV,ztU,ztT,ztS,zpQ,zpP,zjz,zmH,zjy,zjx,zjw,zmG,zad hs,zaa hs,zab hs,zac hs,Re.av,Re.avs,rowOf,hcs,hcl,hcl8,htk,hcall,hcall2,g1,g2,hbr,g4,g5,hin]
  rw [zaj hs a83l11.eq_1]
  simp [a83,ztZ,ztY,ztX,ztW,ztV,ztU,ztT,ztS,zpQ,zpP,zjz,zmH,zjy,zjx,zjw,zmG,zad hs,zaa hs,zab hs,zac hs,hw1,hno]
  refine (zuZ (k:=6) (a:=a) (b:=b) (c:=c) (d:=d) (mn:=N) (mx:= -1) (es:=Re.avs es) hx hf hw hb (by omega:N<1000000) N 0 _ _ (zcv x.bld next L) (by omega) ?_ ?_ ?_ ?_ ?_ (by rw [hQ];exact g6) ?_).mono fun e s h=> ?_
  ·simp
  ·simp [hcs]
  ·simp
  ·simp
  ·simp [hQ]
  ·rw [zmz (Re.bld_len x hf)];simp at hl;omega
  ·obtain ⟨rfl,v',H',rfl,k1,k2,k3⟩:=h
   simp [a83,ztZ,ztY,ztX,ztW,ztV,ztU,ztT,ztS,zpQ,zpP,zjz,zmH,zjy,zjx,zjw,zmG,zad hs,zaa hs,k1,hu]
   refine ⟨k2,((hF1.trans hF2).trans (Front.set hP2.lt g3 _)).trans k3⟩
 ·obtain ⟨M,rfl⟩: ∃ M:Nat,mx=M:=⟨mx.toNat,by omega⟩
  rw [if_neg hneg] at hl
  have hMN:N≤M:=by omega
  have e1:((M:Int)-N).toNat=M-N:=by omega
  have e2:((N:Int)).toNat=N:=by omega
  rw [e1,e2] at hl
  have hw1:IntKind.i64.wrap ((M:Int)-N)=((M-N:Nat):Int):=by rw [zal _ (by omega)];omega
  have hno: ¬ ((M:Int)<0):=by omega
  have hu:zdp x.bld N M next L=zdq x.bld N (zcq x.bld next (M-N) (next,L)):=by
   simp [zdp,hno,e1]
  simp [a83,ztZ,ztY,ztX,ztW,ztV,ztU,ztT,ztS,zpQ,zpP,zjz,zmH,zjy,zjx,zjw,zmG,zad hs,zaa hs,zab hs,zac hs,Re.av,Re.avs,rowOf,hcs,hno,hw1]
  refine (zBl (k:=6) (a:=a) (b:=b) (c:=c) (d:=d) (mn:=N) (mx:=M) (es:=Re.avs es) (last:=next) hx hf hw hb (by omega:M-N<1000000) (M-N) 0 _ _ (next,L) (by omega) ?_ ?_ ?_ ?_ ?_ ?_ hP ?_).mono fun e s h=> ?_
  ·simp
  ·simp [hcs]
  ·simp
  ·simp
  ·simp
  ·simp
  ·simp only;omega
  ·obtain ⟨rfl,v',H',rfl,k0,k4,k1,k2,k3⟩:=h
   simp [a83,ztZ,ztY,ztX,ztW,ztV,ztU,ztT,ztS,zpQ,zpP,zjz,zmH,zjy,zjx,zjw,zmG,zad hs,zaa hs,zab hs,k0,k4]
   refine (zuZ (k:=6) (a:=a) (b:=b) (c:=c) (d:=d) (mn:=N) (mx:=M) (es:=Re.avs es) hx hf hw hb (by omega:N<1000000) N 0 _ _ (zcq x.bld next (M-N) (next,L)) (by omega) ?_ ?_ ?_ ?_ ?_ k2 ?_).mono fun e s h=> ?_
   ·simp [k0]
   ·simp [hcs,k4]
   ·simp
   ·simp
   ·simp [k1]
   ·rw [zkG (Re.bld_len x hf)];simp only;omega
   ·obtain ⟨rfl,v'',H'',rfl,j1,j2,j3⟩:=h
    simp [a83,ztZ,ztY,ztX,ztW,ztV,ztU,ztT,ztS,zpQ,zpP,zjz,zmH,zjy,zjx,zjw,zmG,zad hs,zaa hs,j1,hu]
    exact ⟨j2,k3.trans j3⟩
end
section
variable {S:Sp} {bar:Nat}
theorem zq4 {H:Heap} {p:Nat} {L:List NS} {first:Nat} (k:Nat) (n:Nat) (hb:bar≤p) (hl:L.length<1000000) (h:PH H p L first) :
  Wc (Rn fsT S.sp bar 58 [.ptr p 0, .agg [.int .i64 k, .int .u64 0, .int .u64 0, .int .u64 0, .int .u64 0,num n, .int .i64 0]] H) (fun o H'=>o= .ret (num (zfu ⟨k,zbH,n,0⟩ L).1)∧PH H' p (zfu ⟨k,zbH,n,0⟩ L).2 first∧Front p H H') :=
 zpO ⟨k,zbH,n,0⟩ hb rfl hl h
theorem zA7 {H:Heap} {p:Nat} {L:List NS} {first:Nat} (a b c d n:Nat) (hb:bar≤p) (hl:L.length<1000000) (h:PH H p L first) :
  Wc (Rn fsT S.sp bar 58 [.ptr p 0, .agg [.int .i64 0,u64 a,u64 b,u64 c,u64 d,num n, .int .i64 0]] H) (fun o H'=>o= .ret (num (zfu ⟨0,[a,b,c,d],n,0⟩ L).1)∧PH H' p (zfu ⟨0,[a,b,c,d],n,0⟩ L).2 first∧Front p H H') :=
 zpO ⟨0,[a,b,c,d],n,0⟩ hb rfl hl h
theorem zBD {k:Int} {set:List Nat} {mn mx:Int} {l:List Re} (hf:(Re.mk k set mn mx l).fine) (hw:(Re.mk k set mn mx l).wide) (ih: ∀ x∈l,znK S 59 x x.bld):znK S 59 (.mk k set mn mx l) (Re.mk k set mn mx l).bld:=by
 intro bar p H L first next hb hP hl
 have hs:=S.mono
 have hf0:=hf
 have hw0:=hw
 unfold Re.fine at hf
 unfold Re.wide at hw
 obtain ⟨f5,f6,fl⟩:=hf
 obtain ⟨h4,hlen,hm,wl⟩:=hw
 obtain ⟨a,b,c,d,rfl⟩:=four h4
 refine zaO hs zIl rfl rfl ?_
 rw [env59]
 by_cases e1:k=1
 ·subst e1
  simp only [Re.cnt] at hl
  simp at hl
  obtain ⟨o,H1,hcall,rfl,hP1,hF1⟩:=zA7 (S:=S) (bar:=bar) a b c d next hb (by omega) hP
  simp [a59,zly,zlx,zlw,zlv,zlu,zlt,zls,zlr,zlq,zlp,zff,zfe,zfd,zgI,zgH,zgG,zfc,zfb,zfa,zgF,zgE,zgD,zgC,zad hs,zaa hs,zab hs,zac hs,Re.av,hcall]
  exact ⟨by simp [Re.bld],by simpa [Re.bld] using hP1,hF1⟩
 by_cases e2:k=2
 ·subst e2
  simp only [Re.cnt] at hl
  simp at hl
  obtain ⟨o,H1,hcall,rfl,hP1,hF1⟩:=zq4 (S:=S) (bar:=bar) 1 next hb (by omega) hP
  have hcall:Rn fsT S.sp bar 58 [.ptr p 0, .agg [.int .i64 1, .int .u64 0, .int .u64 0, .int .u64 0, .int .u64 0,num next, .int .i64 0]] H=_:=hcall
  simp [a59,zly,zlx,zlw,zlv,zlu,zlt,zls,zlr,zlq,zlp,zff,zfe,zfd,zgI,zgH,zgG,zfc,zfb,zfa,zgF,zgE,zgD,zgC,zad hs,zaa hs,zab hs,zac hs,Re.av,hcall]
  exact ⟨by simp [Re.bld],by simpa [Re.bld] using hP1,hF1⟩
 by_cases e3:k=3
 ·subst e3
  simp only [Re.cnt] at hl
  simp at hl
  obtain ⟨o,H1,hcall,rfl,hP1,hF1⟩:=zq4 (S:=S) (bar:=bar) 2 next hb (by omega) hP
  have hcall:Rn fsT S.sp bar 58 [.ptr p 0, .agg [.int .i64 2, .int .u64 0, .int .u64 0, .int .u64 0, .int .u64 0,num next, .int .i64 0]] H=_:=hcall
  simp [a59,zly,zlx,zlw,zlv,zlu,zlt,zls,zlr,zlq,zlp,zff,zfe,zfd,zgI,zgH,zgG,zfc,zfb,zfa,zgF,zgE,zgD,zgC,zad hs,zaa hs,zab hs,zac hs,Re.av,hcall]
  exact ⟨by simp [Re.bld],by simpa [Re.bld] using hP1,hF1⟩
 by_cases e4:k=4
 ·subst e4
  simp only [Re.cnt] at hl
  simp at hl
  have hwr:IntKind.i64.wrap ((l.length:Int)-1)=(l.length:Int)-1:=zal _ (by omega)
  have hfin: ∀ (v:Nat→AV),v 0= .ptr p 0→v 2=num next→v 4= .box [.int .i64 4,u64 a,u64 b,u64 c,u64 d, .int .i64 mn, .int .i64 mx,rowOf (Re.avs l)]→v 7= .int .i64 ((l.length:Int)-1) →
    Wp (evI fsT S.sp bar (.loop a59l13) (mkE 19343108262865700173913047 v,H)) (fun e s=>e= .exit 1∧ ∃ v' H',s=(mkE 19343108262865700173913047 v',H')∧v' 2=num (Re.bldCat l next L).1∧PH H' p (Re.bldCat l next L).2 first∧Front p H H'):=fun v v0 v2 v4 v7 =>
   zB2 fl wl ih hb (by omega) hlen l.length v H (Nat.le_refl _) v0 v4 v7 (by simpa [Re.bldCat] using v2) (by simpa [Re.bldCat] using hP)
  cases l with
  | nil =>
   simp [a59,zly,zlx,zlw,zlv,zlu,zlt,zls,zlr,zlq,zlp,zff,zfe,zfd,zgI,zgH,zgG,zfc,zfb,zfa,zgF,zgE,zgD,zgC,zad hs,zaa hs,zab hs,zac hs,Re.av,rowOf,Re.avs,zal]
   refine (hfin _ ?_ ?_ ?_ ?_).mono fun e s h=> ?_
   ·simp
   ·simp
   ·simp [rowOf,Re.avs]
   ·simp
   ·obtain ⟨rfl,v',H',rfl,k1,k2,k3⟩:=h
    simp [a59,zly,zlx,zlw,zlv,zlu,zlt,zls,zlr,zlq,zlp,zff,zfe,zfd,zgI,zgH,zgG,zfc,zfb,zfa,zgF,zgE,zgD,zgC,zad hs,zaa hs,k1,Re.bld]
    exact ⟨k2,k3⟩
  | cons x es =>
   have hwr2:IntKind.i64.wrap ((es.length:Int)+1-1)=es.length:=by rw [zal _ (by simp at hlen;omega)];omega
   have hav:(Re.avs es).length=es.length:=zaq es
   simp at hlen
   have hwr3:IntKind.i64.wrap (es.length:Int)=es.length:=zal _ (by omega)
   simp [a59,zly,zlx,zlw,zlv,zlu,zlt,zls,zlr,zlq,zlp,zff,zfe,zfd,zgI,zgH,zgG,zfc,zfb,zfa,zgF,zgE,zgD,zgC,zad hs,zaa hs,zab hs,zac hs,Re.av,rowOf,Re.avs,hav,hwr3]
   refine (hfin _ ?_ ?_ ?_ ?_).mono fun e s h=> ?_
   ·simp
   ·simp
   ·simp [rowOf,Re.avs]
   ·simp
   ·obtain ⟨rfl,v',H',rfl,k1,k2,k3⟩:=h
    simp [a59,zly,zlx,zlw,zlv,zlu,zlt,zls,zlr,zlq,zlp,zff,zfe,zfd,zgI,zgH,zgG,zfc,zfb,zfa,zgF,zgE,zgD,zgC,zad hs,zaa hs,k1,Re.bld]
    exact ⟨k2,k3⟩
 by_cases e5:k=5
 ·subst e5
  simp only [Re.cnt] at hl
  simp at hl
  have hne:=f5 rfl
  have hpos:0<l.length:=List.length_pos_iff.2 hne
  have hane:Re.avs l ≠ []:=by rw [Re.avs_map];simpa using hne
  have hi':l.length-1<l.length:=by omega
  have hx:=ih l[l.length-1] (List.getElem_mem hi')
  have hxw:=zaC.1 wl l[l.length-1] (List.getElem_mem hi')
  obtain ⟨cs,hcs,hcl⟩:=Re.av_agg hxw
  have hcl8:8≤cs.length:=by omega
  have htk:List.take 8 cs=cs:=List.take_of_length_le (by omega)
  have hg:(Re.avs l)[l.length-1]? = some (.agg cs):=by rw [zeo hi',hcs]
  have hd:l.drop (l.length-1)= [l[l.length-1]]:=by
   rw [List.drop_eq_getElem_cons hi',show l.length-1+1=l.length by omega,List.drop_length]
  have hsum:l[l.length-1].cnt≤Re.cntL l:=zu7 (List.getElem_mem hi')
  obtain ⟨o,H1,hcall,rfl,hP1,hF1⟩:=hx bar p H _ first next hb hP (by omega)
  rw [hcs] at hcall
  have hwr1:IntKind.i64.wrap ((l.length:Int)-1)=((l.length-1:Nat):Int):=by rw [zal _ (by omega)];omega
  have hwr2:IntKind.i64.wrap ((l.length:Int)-2)=(l.length:Int)-2:=zal _ (by omega)
  have hba:Re.bldAlt (l.drop (l.length-1)) next L=l[l.length-1].bld next L:=by rw [hd,Re.bldAlt]
  simp [a59,zly,zlx,zlw,zlv,zlu,zlt,zls,zlr,zlq,zlp,zff,zfe,zfd,zgI,zgH,zgG,zfc,zfb,zfa,zgF,zgE,zgD,zgC,zad hs,zaa hs,zab hs,zac hs,Re.av,za3 hane,zaq,hwr1,hwr2,hg,hcl,hcl8,htk,hcall]
  refine (zCb (k:=5) (a:=a) (b:=b) (c:=c) (d:=d) (mn:=mn) (mx:=mx) fl wl ih (n0:=next) (P0:=L) hb (by omega) hlen (l.length-1) _ H1 (by omega) ?_ ?_ ?_ ?_ ?_ (by rw [hba];exact hP1)).mono fun e s h=> ?_
  ·simp
  ·simp [za3 hane]
  ·simp;omega
  ·simp
  ·simp [hba]
  ·obtain ⟨rfl,v',H',rfl,k1,k2,k3⟩:=h
   simp [a59,zly,zlx,zlw,zlv,zlu,zlt,zls,zlr,zlq,zlp,zff,zfe,zfd,zgI,zgH,zgG,zfc,zfb,zfa,zgF,zgE,zgD,zgC,zad hs,zaa hs,k1,Re.bld]
   exact ⟨k2,hF1.trans k3⟩
 by_cases e6:k=6
 ·subst e6
  obtain ⟨g1,g2,g3⟩:=f6 rfl
  cases l with
  | nil=>exact absurd rfl g1
  | cons x es =>
   have hxw:=zaC.1 wl x (by simp)
   have hxf:=zei.1 fl x (by simp)
   obtain ⟨o,H1,hcall,rfl,hP1,hF1⟩:=zEX (S:=S) (es:=es) (ih x (by simp)) hxf hxw h4 g2 g3 hm bar p H L first next hb hP hl
   obtain ⟨cs,hcs,hcl⟩:=Re.av_agg hw0
   rw [hcs] at hcall
   have hcs':cs= [.int .i64 6,u64 a,u64 b,u64 c,u64 d, .int .i64 mn, .int .i64 mx,rowOf (Re.avs (x::es))]:=by
    rw [Re.av] at hcs;injection hcs with h;rw [←h];rfl
   subst hcs'
   simp [a59,zly,zlx,zlw,zlv,zlu,zlt,zls,zlr,zlq,zlp,zff,zfe,zfd,zgI,zgH,zgG,zfc,zfb,zfa,zgF,zgE,zgD,zgC,zad hs,zaa hs,zab hs,zac hs,Re.av,hcall]
   exact ⟨by simp [Re.bld,Re.bldRepL],by simpa [Re.bld,Re.bldRepL] using hP1,hF1⟩
 have b1:(k==1)=false:=by simpa using e1
 have b2:(k==2)=false:=by simpa using e2
 have b3:(k==3)=false:=by simpa using e3
 have b4:(k==4)=false:=by simpa using e4
 have b5:(k==5)=false:=by simpa using e5
 have b6:(k==6)=false:=by simpa using e6
 simp [a59,zly,zlx,zlw,zlv,zlu,zlt,zls,zlr,zlq,zlp,zff,zfe,zfd,zgI,zgH,zgG,zfc,zfb,zfa,zgF,zgE,zgD,zgC,zad hs,zaa hs,zab hs,zac hs,Re.av,b1,b2,b3,b4,b5,b6]
 exact ⟨by simp [Re.bld,e1,e2,e3,e4,e5,e6],by simpa [Re.bld,e1,e2,e3,e4,e5,e6] using hP,Front.refl hP.lt⟩
mutual
theorem zry: ∀ (r:Re),r.fine→r.wide→znK S 59 r r.bld
 | .mk k set mn mx l,hf,hw=>zBD hf hw (zop l (by unfold Re.fine at hf;exact hf.2.2) (by unfold Re.wide at hw;exact hw.2.2.2))
theorem zop: ∀ (l:List Re),Re.fineL l→Re.wideL l→ ∀ x∈l,znK S 59 x x.bld
 | [],_,_=>fun x hx=>by cases hx
 | y::l,hf,hw=>fun x hx=>by
  unfold Re.fineL at hf
  unfold Re.wideL at hw
  rcases List.mem_cons.1 hx with e | h
  ·rw [e];exact zry y hf.1 hw.1
  ·exact zop l hf.2 hw.2 x h
end
end
section
variable {S:Sp} {bar:Nat}
theorem zFo (w k:Nat):(IntKind.u64.wrap ((((w:Int).fdiv (2^k)%2^IntKind.u64.bits).toNat &&& 1%2^IntKind.u64.bits:Nat):Int)==1)=Nat.testBit w k:=by
 have e1:(w:Int).fdiv (2^k)=((w/2^k:Nat):Int):=by
  rw [Int.fdiv_eq_ediv_of_nonneg _ (by exact_mod_cast Nat.zero_le _)];norm_cast
 have e2:(((w/2^k:Nat):Int)%2^IntKind.u64.bits).toNat &&& 1%2^IntKind.u64.bits=w/2^k%2:=by
  have h1:1%2^IntKind.u64.bits=1:=by decide
  have h2: ∀ n:Nat,(((n:Int)%2^IntKind.u64.bits)).toNat=n%2^64:=fun n=>by simp only [IntKind.bits];omega
  rw [h1,h2,Nat.and_one_is_mod]
  omega
 rw [e1,e2,Nat.testBit_eq_decide_div_mod_eq]
 have h:w/2^k%2=0∨w/2^k%2=1:=by omega
 rcases h with h | h<;>rw [h]<;>decide
theorem zFn (w0 w1 w2 w3:Nat) (ch:UInt8) (H:Heap):Rn fsT S.sp bar 84 [.agg [u64 w0,u64 w1,u64 w2,u64 w3], .int .u8 ch.toNat] H=some (.ret (.bool (hasB [w0,w1,w2,w3] ch)),H):=by
 have hs:=S.mono
 refine zao hs zH7 rfl rfl rfl ?_
 have hc:ch.toNat<256:=ch.toNat_lt
 have hr:(ch.toNat:Int).tmod 64=((ch.toNat%64:Nat):Int):=by
  rw [Int.tmod_eq_emod_of_nonneg (by omega)];omega
 have hm:min (ch.toNat%64) 64=ch.toNat%64:=by omega
 obtain ⟨j,hj⟩: ∃ j,ch.toNat/64=j:=⟨_,rfl⟩
 have hw:IntKind.u8.wrap ((ch.toNat:Int)/64)=(j:Int):=by
  simp only [IntKind.wrap,IntKind.bits,IntKind.signed];simp;omega
 have hk:j<4:=by omega
 have hg:hasB [w0,w1,w2,w3] ch=Nat.testBit ([w0,w1,w2,w3].getD j 0) (ch.toNat%64):=by rw [hasB,hj]
 have hm':min ((ch.toNat:Int)%64).toNat IntKind.u64.bits=ch.toNat%64:=by simp only [IntKind.bits];omega
 have hn: ¬ ((ch.toNat:Int)%64<0):=by omega
 rw [env84,hg]
 rcases (by omega:j=0∨j=1∨j=2∨j=3) with rfl | rfl | rfl | rfl
 all_goals
  simp [a84,zKw,zKv,zad hs,zaa hs,hw,hr,hm',hn,zFo]
theorem zHp (w0 w1 w2 w3:Nat) (ch:UInt8) (H:Heap):Rn fsT S.sp bar 62 [.agg [u64 w0,u64 w1,u64 w2,u64 w3], .int .u8 ch.toNat] H=some (.ret (.bool (hasB [w0,w1,w2,w3] ch)),H):=by
 have hs:=S.mono
 refine zao hs zIi rfl rfl rfl ?_
 rw [env62]
 simp [a62,zKM,zKL,zad hs,zaa hs,zFn]
end
section
variable {S:Sp} {bar:Nat}
def zbF (l:List Nat):AV:=match l with
 | []=> .nils
 | a::r=> .slc .own ((a::r).map fun (n:Nat)=>num n)
def nums (l:List Nat):List AV:=l.map fun (n:Nat)=>num n
theorem zcY (l:List Nat):(nums l).length=l.length:=by simp [nums]
structure RH (H:Heap) (pid r rid sid:Nat) (P:List NS) (first:Nat) (s:List UInt8) (seen:List Nat) (round:Nat):Prop where
 pc:hget H pid=some (some [.msl 7 r 0 P.length,num first])
 rc:hget H r=some (some (cellsOf P))
 wide:zEM P
 run:hget H rid=some (some [.ptr pid 0, .str s, .msl 1 sid 0 seen.length,num round])
 seen:hget H sid=some (some (nums seen))
 n1:pid≠sid
 n2:r≠sid
 n3:rid≠sid
def Keep (k:Nat) (H H':Heap):Prop:=H.length≤H'.length∧ ∀ i,i<H.length→i≠k→hget H' i=hget H i
theorem Keep.refl (k:Nat) (H:Heap):Keep k H H:=⟨Nat.le_refl _,fun _ _ _=>rfl⟩
theorem Keep.trans {k:Nat} {H H' H'':Heap} (h:Keep k H H') (j:Keep k H' H''):Keep k H H'' :=
 ⟨Nat.le_trans h.1 j.1,fun i hi hk=>(j.2 i (Nat.lt_of_lt_of_le hi h.1) hk).trans (h.2 i hi hk)⟩
theorem RH.keep {H H':Heap} {pid r rid sid:Nat} {P:List NS} {first:Nat} {s:List UInt8} {seen seen':List Nat} {round:Nat} (h:RH H pid r rid sid P first s seen round) (k:Keep sid H H') (hs:hget H' sid=some (some (nums seen'))) (hl:seen'.length=seen.length) :
  RH H' pid r rid sid P first s seen' round where
 pc:=(k.2 _ (zas h.pc) h.n1).trans h.pc
 rc:=(k.2 _ (zas h.rc) h.n2).trans h.rc
 wide:=h.wide
 run:=by rw [hl];exact (k.2 _ (zas h.run) h.n3).trans h.run
 seen:=hs
 n1:=h.n1
 n2:=h.n2
 n3:=h.n3
theorem zkD: ∀ {L:List NS} {n:Nat} {x:NS},zEM L→L[n]? = some x→n*7+7≤(cellsOf L).length∧(List.drop (n*7) (cellsOf L)).take 7=x.cells
 | [],n,x,_,h=>by simp at h
 | y::L,n,x,hw,hx=>by
  have hy:y.cells.length=7:=by simp [NS.cells,hw y (by simp)]
  have hw':zEM L:=fun z hz=>hw z (by simp [hz])
  cases n with
  | zero =>
   simp only [List.getElem?_cons_zero,Option.some.injEq] at hx;subst hx
   simp only [cellsOf,List.flatMap_cons,Nat.zero_mul,List.drop_zero]
   refine ⟨by simp;omega,?_⟩
   rw [List.take_append_of_le_length (by omega),List.take_of_length_le (by omega)]
  | succ n =>
   obtain ⟨i1,i2⟩:=zkD (n:=n) (x:=x) hw' (by simpa using hx)
   simp only [cellsOf,List.flatMap_cons] at i1 i2 ⊢
   refine ⟨by rw [List.length_append];omega,?_⟩
   rw [List.drop_append,show (n+1)*7-y.cells.length=n*7 by omega,List.drop_of_length_le (by omega),List.nil_append]
   exact i2
structure EnSlots (v:Nat→AV) (H:Heap) (rid at' wid:Nat) (w l:List Nat):Prop where
 v0:v 0= .ptr rid 0
 v1:v 1=zbF l
 v3:v 3=num at'
 v9:v 9= .msl 1 wid 0 w.length
 row: ∃ cs,hget H wid=some (some cs)∧w.length≤cs.length∧cs.take w.length=nums w.reverse
theorem zHE {w:List Nat} {n:Nat} {cs:List AV} (hl:(n::w).length≤cs.length) (h:cs.take (n::w).length=nums (n::w).reverse) :
  (cs.drop w.length).take 1= [num n]∧cs.take w.length=nums w.reverse:=by
 simp only [nums,List.length_cons,List.reverse_cons,List.map_append,List.map_cons,List.map_nil] at h hl ⊢
 have h1:cs.take w.length=w.reverse.map fun (n:Nat)=>num n:=by
  have:=congrArg (List.take w.length) h
  rw [List.take_take,Nat.min_eq_left (by omega),List.take_append_of_le_length (by simp)] at this
  rw [this,List.take_of_length_le (by simp)]
 refine ⟨?_,h1⟩
 have:=congrArg (List.drop w.length) h
 rw [List.drop_take,show w.length+1-w.length=1 by omega,List.drop_append] at this
 rw [this];simp
theorem zFf {l:List Nat} {n a:Nat} (h:l[n]? = some a):n+1≤(nums l).length∧((nums l).drop n).take 1= [num a]:=by
 have hn:n<l.length:=(List.getElem?_eq_some_iff.1 h).1
 have hn':n<(nums l).length:=by rw [zcY];exact hn
 refine ⟨hn',?_⟩
 rw [List.drop_eq_getElem_cons hn']
 have:(nums l)[n]=num a:=by
  have h2:l[n]=a:=(List.getElem?_eq_some_iff.1 h).2
  simp [nums,h2]
 rw [this];rfl
theorem zBy (l:List Nat) (n a:Nat):(nums l).set n (num a)=nums (l.set n a):=by simp [nums,List.map_set]
theorem zGe {H0:Heap} {pid r rid sid:Nat} {P:List NS} {first:Nat} {s:List UInt8} {seen0:List Nat} {round at':Nat} (hR:RH H0 pid r rid sid P first s seen0 round) (hP:zez P) (hb:bar≤sid) (hb2:bar≤H0.length) (hss:s.length<1000000) (hat:at'<10000000) :
  ∀ (f:Nat) (w seen l:List Nat) (v:Nat→AV) (H:Heap) (wid:Nat),EnOk P round ⟨w,seen,l⟩→zej round ⟨w,seen,l⟩≤f→f<100000000→EnSlots v H rid at' wid w l→Keep sid H0 H→H0.length≤wid→hget H sid=some (some (nums seen))→seen.length=seen0.length→l.length+3*fresh round seen≤1000000 →
   Wp (evI fsT S.sp bar (.loop a61l15) (mkE 39614082438300250541364643599 v,H)) (fun e t=>e= .exit 0∧ ∃ v' H',t=(mkE 39614082438300250541364643599 v',H')∧v' 1=zbF (zfp P s.length at' round f ⟨w,seen,l⟩).l∧Keep sid H0 H'∧hget H' sid=some (some (nums (zfp P s.length at' round f ⟨w,seen,l⟩).seen))):=by
 have hs:=S.mono
 intro f
 have nil: ∀ (f:Nat) (seen l:List Nat) (v:Nat→AV) (H:Heap) (wid:Nat),EnSlots v H rid at' wid [] l→Keep sid H0 H→hget H sid=some (some (nums seen)) →
   Wp (evI fsT S.sp bar (.loop a61l15) (mkE 39614082438300250541364643599 v,H)) (fun e t=>e= .exit 0∧ ∃ v' H',t=(mkE 39614082438300250541364643599 v',H')∧v' 1=zbF l∧Keep sid H0 H'∧hget H' sid=some (some (nums seen))):=by
  intro f seen l v H wid hv hk hsn
  have v9:=hv.v9
  rw [zaj hs a61l15.eq_1]
  simp [zad hs,zaa hs,zab hs,zac hs,zmR,v9]
  exact ⟨_,_,⟨rfl,rfl⟩,by simpa using hv.v1,hk,hsn⟩
 induction f with
 | zero =>
  intro w seen l v H wid ho hf _ hv hk hw hsn hln _
  have:w= []:=List.eq_nil_of_length_eq_zero (by simp only [zej] at hf;omega)
  subst this
  exact nil 0 seen l v H wid hv hk hsn
 | succ f ih =>
  intro w seen l v H wid ho hf hf2 hv hk hw hsn hln hlim
  cases w with
  | nil=>exact nil (f+1) seen l v H wid hv hk hsn
  | cons n w =>
   obtain ⟨ho',hl'⟩:=zjo (len:=s.length) (at':=at') hP ho
   have hlim':=zog (len:=s.length) (at':=at') ho
   have hlen0:l.length≤1000000:=by omega
   have hR':=hR.keep hk hsn hln
   obtain ⟨pc,rc,wide,run,sn,n1,n2,n3⟩:=hR'
   obtain ⟨v0,v1,v3,v9,cs,c1,c2,c3⟩:=hv
   obtain ⟨t1,t2⟩:=zHE c2 c3
   simp only [List.length_cons] at c2 v9
   have hwl:w.length+1≤100000000:=by simp only [zej,List.length_cons] at hf;omega
   have hpos:(0:Int)<(w.length:Int)+1:=by omega
   have hw1:IntKind.i64.wrap (w.length:Int)=w.length:=zal _ (by omega)
   have hnP:n<P.length:=ho.wb n (by simp)
   have hns:n<seen.length:=by have:=ho.len;simp only at this;omega
   obtain ⟨a,ha⟩: ∃ a,seen[n]? = some a:=⟨seen[n],List.getElem?_eq_getElem hns⟩
   obtain ⟨s1,s2⟩:=zFf ha
   obtain ⟨x,hx⟩: ∃ x,P[n]? = some x:=⟨P[n],List.getElem?_eq_getElem hnP⟩
   obtain ⟨k1,k2⟩:=zkD wide hx
   have hwlen:wid<H.length:=zas c1
   have hslen:sid<H.length:=zas sn
   have hsid:sid<H0.length:=zas hR.seen
   have hrid:rid<H0.length:=zas hR.run
   have hpid:pid<H0.length:=zas hR.pc
   have hr0:r<H0.length:=zas hR.rc
   have q1:wid≠sid:=by omega
   have q2:sid≠wid:=by omega
   have n1':sid≠pid:=Ne.symm n1
   have n2':sid≠r:=Ne.symm n2
   have n3':sid≠rid:=Ne.symm n3
   have hbw:bar≤wid:=by omega
   have sl:seen.length=seen0.length:=hln
   rw [zcY] at s1
   by_cases hse:seen[n]? = some round
   ·have ea:a=round:=by rw [ha] at hse;exact Option.some.inj hse
    subst ea
    have hu:zaY P s.length at' a n w seen l=⟨w,seen,l⟩:=by simp [zaY,hse]
    rw [hu] at ho' hl' hlim'
    have hr2:zfp P s.length at' a (f+1) ⟨n::w,seen,l⟩=zfp P s.length at' a f ⟨w,seen,l⟩:=by
     show zfp P s.length at' a f (zaY P s.length at' a n w seen l)=_
     rw [hu]
    rw [hr2,zaj hs a61l15.eq_1]
    simp [zad hs,zaa hs,zai hs,zab hs,zac hs,zmR,znG,znF,znH,v9,v0,hpos,hw1,c1,c2,t1,run,sn,s1,s2,hns,zcY]
    refine (ih w seen l _ H wid ho' (by omega) (by omega) ⟨?_,?_,?_,?_,cs,c1,by omega,t2⟩ hk hw hsn hln hlim)
    ·simp [v0]
    ·simp [v1]
    ·simp [v3]
    ·simp
   ·have hse': ¬ a=round:=fun e=>hse (by rw [ha,e])
    have hse2:((a:Int)==(round:Int))=false:=by simp;omega
    have hr2:zfp P s.length at' round (f+1) ⟨n::w,seen,l⟩=zfp P s.length at' round f (zaY P s.length at' round n w seen l):=rfl
    have hset:(nums seen).set n (num round)=nums (seen.set n round):=zBy seen n round
    have hkeep1: ∀ x,Keep sid H0 (H.set sid x):=fun x=>⟨by simpa using hk.1,fun i hi hne=>(zaw x (Ne.symm hne)).trans (hk.2 i hi hne)⟩
    have hkeep2: ∀ x y,Keep sid H0 ((H.set sid x).set wid none ++ [y]):=fun x y=>⟨by have:=hk.1;simp;omega,fun i hi hne=>by
     rw [za5 _ (by have:=hk.1;simp;omega),zaw _ (by omega),zaw _ (Ne.symm hne)];exact hk.2 i hi hne⟩
    have hsid1:hget (H.set sid (some (nums (seen.set n round)))) sid=some (some (nums (seen.set n round))):=zae _ hslen
    have hsid2: ∀ y,hget ((H.set sid (some (nums (seen.set n round)))).set wid none ++ [y]) sid=some (some (nums (seen.set n round))):=fun y=>by
     rw [za5 _ (by simpa using hslen),zaw _ q1,zae _ hslen]
    have hwid2: ∀ y,hget ((H.set sid (some (nums (seen.set n round)))).set wid none ++ [y]) H.length=some y:=fun y=>zjg _ _ _ (by simp)
    have hr7:n*7+7≤(cellsOf P).length:=k1
    obtain ⟨op,set,next,two⟩:=x
    obtain ⟨a1,b1,c1',d1,rfl⟩:=four (wide _ (List.mem_of_getElem? hx))
    simp only [NS.cells,List.map_cons,List.map_nil,List.cons_append,List.nil_append] at k2
    have hnn:nums w.reverse=(nums w).reverse:=by simp [nums]
    rw [hr2,zaj hs a61l15.eq_1]
    have c2w:w.length≤cs.length:=by omega
    have hwl2:w.length+2≤4294967296:=by omega
    have hwl1:w.length+1≤4294967296:=by omega
    by_cases o3:op=3
    ·subst o3
     have hu:zaY P s.length at' round n w seen l=⟨next::two::w,seen.set n round,l⟩:=by simp [zaY,hse,hx]
     rw [hu] at ho' hl' hlim' ⊢
     simp [zad hs,zaa hs,zai hs,zab hs,zac hs,a61,zmT,zmS,zmR,znG,znF,znH,zpV,zpU,zpT,zpS,zjE,zjD,zjC,zjB,zjA,zfI,v9,v0,hpos,hw1,c1,c2,t1,run,sn,s1,s2,hns,zcY,hse2,pc,rc,k1,k2,hnP,hb,hset,zaw,zae,n1',n2',n3',hbw,q2,hslen,t2,c2w,v3,hwl2]
     refine ih (next::two::w) _ l _ _ H.length ho' (by omega) (by omega) ⟨?_,?_,?_,?_,_,hwid2 _,by simp [nums],by rw [List.take_of_length_le (by simp [nums])];simp [nums]⟩ (hkeep2 _ _) hk.1 (hsid2 _) (by simpa using sl) (Nat.le_trans hlim' hlim)
     ·simp [v0]
     ·simp [v1]
     ·simp [v3]
     ·simp
    by_cases ob:op=1∧at'=0
    ·obtain ⟨rfl,rfl⟩:=ob
     have hu:zaY P s.length 0 round n w seen l=⟨next::w,seen.set n round,l⟩:=by simp [zaY,hse,hx]
     rw [hu] at ho' hl' hlim' ⊢
     simp [zad hs,zaa hs,zai hs,zab hs,zac hs,a61,zmT,zmS,zmR,znG,znF,znH,zpV,zpU,zpT,zpS,zjE,zjD,zjC,zjB,zjA,zfI,v9,v0,hpos,hw1,c1,c2,t1,run,sn,s1,s2,hns,zcY,hse2,pc,rc,k1,k2,hnP,hb,hset,zaw,zae,n1',n2',n3',hbw,q2,hslen,t2,c2w,v3,hwl1]
     refine ih (next::w) _ l _ _ H.length ho' (by omega) (by omega) ⟨?_,?_,?_,?_,_,hwid2 _,by simp [nums],by rw [List.take_of_length_le (by simp [nums])];simp [nums]⟩ (hkeep2 _ _) hk.1 (hsid2 _) (by simpa using sl) (Nat.le_trans hlim' hlim)
     ·simp [v0]
     ·simp [v1]
     ·simp [v3]
     ·simp
    by_cases oe:op=2∧at'=s.length
    ·obtain ⟨rfl,rfl⟩:=oe
     have hu:zaY P s.length s.length round n w seen l=⟨next::w,seen.set n round,l⟩:=by simp [zaY,hse,hx]
     rw [hu] at ho' hl' hlim' ⊢
     simp [zad hs,zaa hs,zai hs,zab hs,zac hs,a61,zmT,zmS,zmR,znG,znF,znH,zpV,zpU,zpT,zpS,zjE,zjD,zjC,zjB,zjA,zfI,v9,v0,hpos,hw1,c1,c2,t1,run,sn,s1,s2,hns,zcY,hse2,pc,rc,k1,k2,hnP,hb,hset,zaw,zae,n1',n2',n3',hbw,q2,hslen,t2,c2w,v3,hwl1]
     refine ih (next::w) _ l _ _ H.length ho' (by omega) (by omega) ⟨?_,?_,?_,?_,_,hwid2 _,by simp [nums],by rw [List.take_of_length_le (by simp [nums])];simp [nums]⟩ (hkeep2 _ _) hk.1 (hsid2 _) (by simpa using sl) (Nat.le_trans hlim' hlim)
     ·simp [v0]
     ·simp [v1]
     ·simp [v3]
     ·simp
    have hkeepw:hget (H.set sid (some (nums (seen.set n round)))) wid=some (some cs):=by rw [zaw _ q2];exact c1
    by_cases o0:op=0∨op=4
    ·have hu:zaY P s.length at' round n w seen l=⟨w,seen.set n round,l ++ [n]⟩:=by simp [zaY,hse,hx,o0,o3,ob,oe]
     rw [hu] at ho' hl' hlim' ⊢
     have hlen4:l.length+1≤4294967296:=by omega
     have hgo: ∀ (v':Nat→AV),v' 0= .ptr rid 0→v' 1=zbF (l ++ [n])→v' 3=num at'→v' 9= .msl 1 wid 0 w.length →
       Wp (evI fsT S.sp bar (.loop a61l15) (mkE 39614082438300250541364643599 v',H.set sid (some (nums (seen.set n round))))) (fun e t=>e= .exit 0∧ ∃ v' H',t=(mkE 39614082438300250541364643599 v',H')∧v' 1=zbF (zfp P s.length at' round f ⟨w,seen.set n round,l ++ [n]⟩).l∧Keep sid H0 H'∧hget H' sid=some (some (nums (zfp P s.length at' round f ⟨w,seen.set n round,l ++ [n]⟩).seen))):=fun v' g0 g1 g3 g9 =>
      ih w _ (l ++ [n]) v' _ wid ho' (by omega) (by omega) ⟨g0,g1,g3,g9,cs,hkeepw,c2w,t2⟩ (hkeep1 _) hw hsid1 (by simpa using sl) (Nat.le_trans hlim' hlim)
     rcases o0 with rfl | rfl
     all_goals
      cases l with
      | nil =>
       simp [zad hs,zaa hs,zai hs,zab hs,zac hs,a61,zmT,zmS,zmR,znG,znF,znH,zpV,zpU,zpT,zpS,zjE,zjD,zjC,zjB,zjA,zfI,v9,v0,hpos,hw1,c1,c2,t1,run,sn,s1,s2,hns,zcY,hse2,pc,rc,k1,k2,hnP,hb,hset,zaw,zae,n1',n2',n3',hbw,q2,hslen,t2,c2w,v3,v1,zbF]
       refine hgo _ ?_ ?_ ?_ ?_
       ·simp [v0]
       ·simp [zbF]
       ·simp [v3]
       ·simp
      | cons b l =>
       simp only [List.length_cons] at hlen4
       simp [zad hs,zaa hs,zai hs,zab hs,zac hs,a61,zmT,zmS,zmR,znG,znF,znH,zpV,zpU,zpT,zpS,zjE,zjD,zjC,zjB,zjA,zfI,v9,v0,hpos,hw1,c1,c2,t1,run,sn,s1,s2,hns,zcY,hse2,pc,rc,k1,k2,hnP,hb,hset,zaw,zae,n1',n2',n3',hbw,q2,hslen,t2,c2w,v3,v1,zbF,hlen4]
       refine hgo _ ?_ ?_ ?_ ?_
       ·simp [v0]
       ·simp [zbF]
       ·simp [v3]
       ·simp
    have hu:zaY P s.length at' round n w seen l=⟨w,seen.set n round,l⟩:=by simp [zaY,hse,hx,o0,o3,ob,oe]
    rw [hu] at ho' hl' hlim' ⊢
    have hgo: ∀ (v':Nat→AV),v' 0= .ptr rid 0→v' 1=zbF l→v' 3=num at'→v' 9= .msl 1 wid 0 w.length →
      Wp (evI fsT S.sp bar (.loop a61l15) (mkE 39614082438300250541364643599 v',H.set sid (some (nums (seen.set n round))))) (fun e t=>e= .exit 0∧ ∃ v' H',t=(mkE 39614082438300250541364643599 v',H')∧v' 1=zbF (zfp P s.length at' round f ⟨w,seen.set n round,l⟩).l∧Keep sid H0 H'∧hget H' sid=some (some (nums (zfp P s.length at' round f ⟨w,seen.set n round,l⟩).seen))):=fun v' g0 g1 g3 g9 =>
     ih w _ l v' _ wid ho' (by omega) (by omega) ⟨g0,g1,g3,g9,cs,hkeepw,c2w,t2⟩ (hkeep1 _) hw hsid1 (by simpa using sl) (Nat.le_trans hlim' hlim)
    by_cases o1:op=1
    ·subst o1
     have hat0: ¬ at'=0:=fun e=>ob ⟨rfl,e⟩
     have hat1:((at':Int)==0)=false:=by simp;omega
     simp [zad hs,zaa hs,zai hs,zab hs,zac hs,a61,zmT,zmS,zmR,znG,znF,znH,zpV,zpU,zpT,zpS,zjE,zjD,zjC,zjB,zjA,zfI,v9,v0,hpos,hw1,c1,c2,t1,run,sn,s1,s2,hns,zcY,hse2,pc,rc,k1,k2,hnP,hb,hset,zaw,zae,n1',n2',n3',hbw,q2,hslen,t2,c2w,v3,hat1]
     refine hgo _ ?_ ?_ ?_ ?_
     ·simp [v0]
     ·simp [v1]
     ·simp [v3]
     ·simp
    by_cases o2:op=2
    ·subst o2
     have hat1:((at':Int)==(s.length:Int))=false:=by
      have: ¬ at'=s.length:=fun e=>oe ⟨rfl,e⟩
      simp;omega
     simp [zad hs,zaa hs,zai hs,zab hs,zac hs,a61,zmT,zmS,zmR,znG,znF,znH,zpV,zpU,zpT,zpS,zjE,zjD,zjC,zjB,zjA,zfI,v9,v0,hpos,hw1,c1,c2,t1,run,sn,s1,s2,hns,zcY,hse2,pc,rc,k1,k2,hnP,hb,hset,zaw,zae,n1',n2',n3',hbw,q2,hslen,t2,c2w,v3,hat1]
     refine hgo _ ?_ ?_ ?_ ?_
     ·simp [v0]
     ·simp [v1]
     ·simp [v3]
     ·simp
    have b0:((op:Int)==0)=false:=by simp;omega
    have b1:((op:Int)==1)=false:=by simp;omega
    have b2:((op:Int)==2)=false:=by simp;omega
    have b3:((op:Int)==3)=false:=by simp;omega
    have b4:((op:Int)==4)=false:=by simp;omega
    simp [zad hs,zaa hs,zai hs,zab hs,zac hs,a61,zmT,zmS,zmR,znG,znF,znH,zpV,zpU,zpT,zpS,zjE,zjD,zjC,zjB,zjA,zfI,v9,v0,hpos,hw1,c1,c2,t1,run,sn,s1,s2,hns,zcY,hse2,pc,rc,k1,k2,hnP,hb,hset,zaw,zae,n1',n2',n3',hbw,q2,hslen,t2,c2w,v3,b0,b1,b2,b3,b4]
    refine hgo _ ?_ ?_ ?_ ?_
    ·simp [v0]
    ·simp [v1]
    ·simp [v3]
    ·simp
theorem zri {H:Heap} {pid r rid sid:Nat} {P:List NS} {first:Nat} {s:List UInt8} {seen l:List Nat} {round at' n:Nat} (hR:RH H pid r rid sid P first s seen round) (hP:zez P) (hb:bar≤sid) (hss:s.length<1000000) (hat:at'<10000000)
  (hrnd:Rnd P round seen l) (hn:n<P.length) (hlim:l.length+3*fresh round seen≤1000000) (hPl:P.length<1000000) :
  Wc (Rn fsT S.sp bar 61 [.ptr rid 0,zbF l,num n,num at'] H) (fun o H'=>o= .ret (zbF (enter P s.length at' round n seen l).2)∧Keep sid H H'∧RH H' pid r rid sid P first s (enter P s.length at' round n seen l).1 round):=by
 have hs:=S.mono
 refine zaO hs zIj rfl rfl ?_
 have hsl:=zas hR.seen
 have hrl:=zas hR.run
 have hok:=hrnd.en hn
 have hl0:seen.length=P.length:=hrnd.len
 have hfin: ∀ (v:Nat→AV),v 0= .ptr rid 0→v 1=zbF l→v 3=num at'→v 9= .msl 1 H.length 0 1 →
   Wp (evI fsT S.sp bar (.loop a61l15) (mkE 39614082438300250541364643599 v,H ++ [some [num n]])) (fun e t=>e= .exit 0∧ ∃ v' H',t=(mkE 39614082438300250541364643599 v',H')∧v' 1=zbF (enter P s.length at' round n seen l).2∧Keep sid H H'∧hget H' sid=some (some (nums (enter P s.length at' round n seen l).1))):=fun v g0 g1 g3 g9 =>
  zGe hR hP hb (by omega) hss hat (3*seen.length+1) [n] seen l v _ H.length hok (by have:=zjl round seen;simp only [zej,List.length_cons,List.length_nil];omega) (by omega) ⟨g0,g1,g3,g9,_,zbp _ _,by simp,by simp [nums]⟩
   ⟨by simp,fun i hi _=>za5 _ hi⟩ (Nat.le_refl _) (by rw [za5 _ hsl];exact hR.seen) rfl hlim
 have hpost: ∀ H',Keep sid H H'→hget H' sid=some (some (nums (enter P s.length at' round n seen l).1))→RH H' pid r rid sid P first s (enter P s.length at' round n seen l).1 round:=fun H' k h =>
  hR.keep k h (by have:=(zh2 (len:=s.length) (at':=at') hP hrnd hn).len;omega)
 rw [env61]
 generalize enter P s.length at' round n seen l=z at hfin hpost
 cases l with
 | nil =>
  simp [zmT,zmS,a61,zad hs,zaa hs,zab hs,zbF]
  refine (hfin _ ?_ ?_ ?_ ?_).mono fun e t h=> ?_
  ·simp
  ·simp [zbF]
  ·simp
  ·simp
  ·obtain ⟨rfl,v',H',rfl,h1,h2,h3⟩:=h
   obtain ⟨z1,z2⟩:=z
   cases z2 with
   | nil =>
    simp [zfI,zad hs,zaa hs,h1,zbF]
    exact ⟨h2,hpost H' h2 h3⟩
   | cons y z2 =>
    simp [zfI,zad hs,zaa hs,h1,zbF]
    exact ⟨h2,hpost H' h2 h3⟩
 | cons b l =>
  simp [zmT,zmS,a61,zad hs,zaa hs,zab hs,zbF]
  refine (hfin _ ?_ ?_ ?_ ?_).mono fun e t h=> ?_
  ·simp
  ·simp [zbF]
  ·simp
  ·simp
  ·obtain ⟨rfl,v',H',rfl,h1,h2,h3⟩:=h
   obtain ⟨z1,z2⟩:=z
   cases z2 with
   | nil =>
    simp [zfI,zad hs,zaa hs,h1,zbF]
    exact ⟨h2,hpost H' h2 h3⟩
   | cons y z2 =>
    simp [zfI,zad hs,zaa hs,h1,zbF]
    exact ⟨h2,hpost H' h2 h3⟩
end
section
variable {S:Sp} {bar:Nat}
structure Teller (S:Sp) (bar fid:Nat) (cap:List AV) (ids:List Nat) (sid:Nat) (T:List Nat→Heap→Prop):Prop where
 call: ∀ (H:Heap) (outs:List Nat) (at':Nat),T outs H→(∀ i∈ids,i<H.length)→outs.length<4000000000→at'<10000000 →
  ∃ H',Rn fsT S.sp bar fid (num at'::cap) H=some (.ret (.tup []),H')∧T (outs ++ [at']) H'∧H.length≤H'.length∧ ∀ i∈ids,hget H' i=hget H i
 keep: ∀ (H H':Heap) (outs:List Nat),T outs H→Keep sid H H'→T outs H'
theorem RH.keepIds {H H':Heap} {pid r rid sid:Nat} {P:List NS} {first:Nat} {s:List UInt8} {seen:List Nat} {round:Nat} (h:RH H pid r rid sid P first s seen round) (k: ∀ i ∈ [pid,r,rid,sid],hget H' i=hget H i) :
  RH H' pid r rid sid P first s seen round where
 pc:=(k _ (by simp)).trans h.pc
 rc:=(k _ (by simp)).trans h.rc
 wide:=h.wide
 run:=(k _ (by simp)).trans h.run
 seen:=(k _ (by simp)).trans h.seen
 n1:=h.n1
 n2:=h.n2
 n3:=h.n3
theorem RH.ids {H:Heap} {pid r rid sid:Nat} {P:List NS} {first:Nat} {s:List UInt8} {seen:List Nat} {round:Nat} (h:RH H pid r rid sid P first s seen round): ∀ i ∈ [pid,r,rid,sid],i<H.length:=by
 intro i hi
 simp only [List.mem_cons,List.not_mem_nil,or_false] at hi
 rcases hi with rfl | rfl | rfl | rfl
 ·exact zas h.pc
 ·exact zas h.rc
 ·exact zas h.run
 ·exact zas h.seen
section
variable {fid:Nat} {cap:List AV} {pid r rid sid:Nat} {T:List Nat→Heap→Prop} {P:List NS} {first:Nat} {s:List UInt8}
theorem zwq (hT:Teller S bar fid cap [pid,r,rid,sid] sid T) (hP:zez P) (hb:bar≤sid) (hss:s.length<1000000) (hPl:P.length<1000) {at' round:Nat} (hat:at'<9000000) {now:List Nat} (hops: ∀ q∈now,∃ x,P[q]? = some x∧(x.op=0∨x.op=4)) (hnl:now.length<1000000) :
  ∀ (rest:List Nat) (i:Nat) (v:Nat→AV) (H:Heap) (seen l outs:List Nat),i≤now.length→now.drop i=rest→v 0= .ptr pid 0→v 1= .str s→v 2=num at'→v 3= .fn fid cap→v 8= .ptr rid 0→v 51= .slc .ro (nums now)→v 52=num now.length→v 53=num i→v 10=zbF l →
   RH H pid r rid sid P first s seen round→Rnd P round seen l→l.length+3*fresh round seen≤1000000→T outs H→outs.length+rest.length<4000000000 →
   Wp (evI fsT S.sp bar (.loop a37l15) (mkE 2379663764704762803983 v,H)) (fun e t=>e= .exit 2∧ ∃ v' H',t=(mkE 2379663764704762803983 v',H')∧v' 0= .ptr pid 0∧v' 1= .str s∧v' 2=num at'∧v' 3= .fn fid cap∧v' 8= .ptr rid 0∧v' 10=zbF (nexts P s at' round rest seen l).2 ∧
    RH H' pid r rid sid P first s (nexts P s at' round rest seen l).1 round∧T (outs++tells P at' rest) H'∧(nexts P s at' round rest seen l).2.length+3*fresh round (nexts P s at' round rest seen l).1≤1000000):=by
 have hs:=S.mono
 intro rest
 induction rest with
 | nil =>
  intro i v H seen l outs hi hd v0 v1 v2 v3 v8 v51 v52 v53 v10 hR hrnd hlim hTo hol
  have hi':i=now.length:=by
   have:=congrArg List.length hd
   rw [List.length_drop] at this;simp at this;omega
  subst hi'
  rw [zaj hs a37l15.eq_1]
  simp [zad hs,zaa hs,zab hs,zac hs,znI,v52,v53]
  exact ⟨_,_,⟨rfl,rfl⟩,by simpa using v0,by simpa using v1,by simpa using v2,by simpa using v3,by simpa using v8,by simpa [nexts] using v10,by simpa [nexts] using hR,by simpa [tells] using hTo,by simpa [nexts] using hlim⟩
 | cons n rest ih =>
  intro i v H seen l outs hi hd v0 v1 v2 v3 v8 v51 v52 v53 v10 hR hrnd hlim hTo hol
  have hi':i<now.length:=by
   have:=congrArg List.length hd
   rw [List.length_drop] at this;simp at this;omega
  have hdc:=List.drop_eq_getElem_cons hi'
  rw [hd] at hdc
  obtain ⟨hn,hd'⟩:=List.cons.inj hdc
  have hni:now[i]? = some n:=by rw [List.getElem?_eq_getElem hi',hn]
  have hnum:(nums now)[i]? = some (num n):=by simp [nums,hni]
  obtain ⟨x,hx,hox⟩:=hops n (List.mem_of_getElem? hni)
  obtain ⟨k1,k2⟩:=zkD hR.wide hx
  have hnP:n<P.length:=(List.getElem?_eq_some_iff.1 hx).1
  have hw1:IntKind.i64.wrap ((i:Int)+1)=(i:Int)+1:=zal _ (by omega)
  have hw2:IntKind.i64.wrap ((at':Int)+1)=(at':Int)+1:=zal _ (by omega)
  have hnx:=(hP x (List.mem_of_getElem? hx)).1
  have pc:=hR.pc
  have rc:=hR.rc
  have hgo: ∀ (v':Nat→AV) (H':Heap) (seen' l' outs':List Nat),v' 0= .ptr pid 0→v' 1= .str s→v' 2=num at'→v' 3= .fn fid cap→v' 8= .ptr rid 0→v' 51= .slc .ro (nums now)→v' 52=num now.length→v' 53=num (i+1)→v' 10=zbF l' →
    RH H' pid r rid sid P first s seen' round→Rnd P round seen' l'→l'.length+3*fresh round seen'≤1000000→T outs' H'→outs'.length+rest.length<4000000000→nexts P s at' round (n::rest) seen l=nexts P s at' round rest seen' l'→outs++tells P at' (n::rest)=outs'++tells P at' rest →
    Wp (evI fsT S.sp bar (.loop a37l15) (mkE 2379663764704762803983 v',H')) (fun e t=>e= .exit 2∧ ∃ v' H',t=(mkE 2379663764704762803983 v',H')∧v' 0= .ptr pid 0∧v' 1= .str s∧v' 2=num at'∧v' 3= .fn fid cap∧v' 8= .ptr rid 0∧v' 10=zbF (nexts P s at' round (n::rest) seen l).2 ∧
     RH H' pid r rid sid P first s (nexts P s at' round (n::rest) seen l).1 round∧T (outs++tells P at' (n::rest)) H'∧(nexts P s at' round (n::rest) seen l).2.length+3*fresh round (nexts P s at' round (n::rest) seen l).1≤1000000):=by
   intro v' H' seen' l' outs' w0 w1 w2 w3 w8 w51 w52 w53 w10 wR wrnd wlim wT wol e1 e2
   rw [e1,e2]
   exact ih (i+1) v' H' seen' l' outs' hi' hd'.symm w0 w1 w2 w3 w8 w51 w52 w53 w10 wR wrnd wlim wT wol
  simp only [List.length_cons] at hol
  obtain ⟨op,set,next,two⟩:=x
  obtain ⟨a1,b1,c1,d1,rfl⟩:=four (hR.wide _ (List.mem_of_getElem? hx))
  simp only [NS.cells,List.map_cons,List.map_nil,List.cons_append,List.nil_append] at k2
  simp only at hox hnx
  rw [zaj hs a37l15.eq_1]
  by_cases o4:op=4
  ·subst o4
   obtain ⟨H1,hcall,t1,t2,t3⟩:=hT.call H outs at' hTo hR.ids (by omega) (by omega)
   have en:nexts P s at' round (n::rest) seen l=nexts P s at' round rest seen l:=by
    rw [nexts,hx]
    cases hc:s[at']? <;> simp
   have et:tells P at' (n::rest)=at'::tells P at' rest:=by rw [tells,hx];simp
   simp [zad hs,zaa hs,zai hs,zab hs,zac hs,znI,zpX,zpW,zjI,zjH,zjJ,zjG,zjF,v0,v1,v2,v3,v51,v52,v53,hi',hnum,pc,rc,hnP,k1,k2,hcall,hw1]
   refine hgo _ H1 seen l (outs ++ [at']) ?_ ?_ ?_ ?_ ?_ ?_ ?_ ?_ ?_ (hR.keepIds t3) hrnd hlim t1 (by simp;omega) en (by rw [et];simp)
   ·simp [v0]
   ·simp [v1]
   ·simp [v2]
   ·simp [v3]
   ·simp [v8]
   ·simp [v51]
   ·simp [v52]
   ·simp
   ·simp [v10]
  ·have b4:((op:Int)==4)=false:=by simp;omega
   have et:tells P at' (n::rest)=tells P at' rest:=by rw [tells,hx];simp [o4]
   cases hc:s[at']? with
   | none =>
    have hlt: ¬ at'<s.length:=fun h=>by rw [List.getElem?_eq_getElem h] at hc;cases hc
    have hle:s.length≤at':=by omega
    have en:nexts P s at' round (n::rest) seen l=nexts P s at' round rest seen l:=by rw [nexts,hx,hc]
    simp [zad hs,zaa hs,zai hs,zab hs,zac hs,znI,zpX,zpW,zjI,zjH,zjJ,zjG,zjF,v0,v1,v2,v3,v51,v52,v53,hi',hnum,pc,rc,hnP,k1,k2,hw1,b4,hlt,hle]
    refine hgo _ H seen l outs ?_ ?_ ?_ ?_ ?_ ?_ ?_ ?_ ?_ hR hrnd hlim hTo (by omega) en (by rw [et])
    ·simp [v0]
    ·simp [v1]
    ·simp [v2]
    ·simp [v3]
    ·simp [v8]
    ·simp [v51]
    ·simp [v52]
    ·simp
    ·simp [v10]
   | some c =>
    have hlt:at'<s.length:=(List.getElem?_eq_some_iff.1 hc).1
    have hHas:=zHp (S:=S) (bar:=bar) a1 b1 c1 d1 c H
    cases hh:hasB [a1,b1,c1,d1] c with
    | false =>
     rw [hh] at hHas
     have en:nexts P s at' round (n::rest) seen l=nexts P s at' round rest seen l:=by rw [nexts,hx,hc];simp [hh]
     simp [zad hs,zaa hs,zai hs,zab hs,zac hs,znI,zpX,zpW,zjI,zjH,zjJ,zjG,zjF,v0,v1,v2,v3,v51,v52,v53,hi',hnum,pc,rc,hnP,k1,k2,hw1,b4,hlt,hc,hHas]
     refine hgo _ H seen l outs ?_ ?_ ?_ ?_ ?_ ?_ ?_ ?_ ?_ hR hrnd hlim hTo (by omega) en (by rw [et])
     ·simp [v0]
     ·simp [v1]
     ·simp [v2]
     ·simp [v3]
     ·simp [v8]
     ·simp [v51]
     ·simp [v52]
     ·simp
     ·simp [v10]
    | true =>
     rw [hh] at hHas
     have en:nexts P s at' round (n::rest) seen l=nexts P s at' round rest (enter P s.length (at'+1) round next seen l).1 (enter P s.length (at'+1) round next seen l).2:=by rw [nexts,hx,hc];simp [hh,o4]
     obtain ⟨o,H1,hcall,rfl,e1,e2⟩:=zri (S:=S) (bar:=bar) (at':=at'+1) (n:=next) hR hP hb hss (by omega) hrnd hnx hlim (by omega)
     have e3:=zh2 (len:=s.length) (at':=at'+1) hP hrnd hnx
     have e4:(enter P s.length (at'+1) round next seen l).2.length+3*fresh round (enter P s.length (at'+1) round next seen l).1≤1000000 :=
      Nat.le_trans (zmq (len:=s.length) (at':=at'+1) hP (3*seen.length+1) _ (hrnd.en hnx)) hlim
     have hT1:=hT.keep _ _ _ hTo e1
     rw [en]
     rw [en] at hgo
     generalize enter P s.length (at'+1) round next seen l=z at hcall e1 e2 e3 e4 hgo
     obtain ⟨z1,z2⟩:=z
     simp only at hcall e1 e2 e3 e4 hgo
     have hcast:((at'+1:Nat):Int)=(at':Int)+1:=by omega
     rw [num,num,hcast] at hcall
     cases l with
     | nil =>
      cases z2 with
      | nil =>
       simp only [zbF] at hcall v10
       simp [zad hs,zaa hs,zai hs,zab hs,zac hs,znI,zpX,zpW,zjI,zjH,zjJ,zjG,zjF,v0,v1,v2,v3,v51,v52,v53,hi',hnum,pc,rc,hnP,k1,k2,hw1,b4,hlt,hc,hHas,v8,v10,hcall,hw2]
       refine hgo _ H1 z1 [] outs ?_ ?_ ?_ ?_ ?_ ?_ ?_ ?_ ?_ e2 e3 e4 hT1 (by omega) rfl (by rw [et])
       all_goals simp [v0,v1,v2,v3,v8,v51,v52,zbF]
      | cons y z2 =>
       simp only [zbF] at hcall v10
       simp [zad hs,zaa hs,zai hs,zab hs,zac hs,znI,zpX,zpW,zjI,zjH,zjJ,zjG,zjF,v0,v1,v2,v3,v51,v52,v53,hi',hnum,pc,rc,hnP,k1,k2,hw1,b4,hlt,hc,hHas,v8,v10,hcall,hw2]
       refine hgo _ H1 z1 (y::z2) outs ?_ ?_ ?_ ?_ ?_ ?_ ?_ ?_ ?_ e2 e3 e4 hT1 (by omega) rfl (by rw [et])
       all_goals simp [v0,v1,v2,v3,v8,v51,v52,zbF]
     | cons b l =>
      cases z2 with
      | nil =>
       simp only [zbF] at hcall v10
       simp [zad hs,zaa hs,zai hs,zab hs,zac hs,znI,zpX,zpW,zjI,zjH,zjJ,zjG,zjF,v0,v1,v2,v3,v51,v52,v53,hi',hnum,pc,rc,hnP,k1,k2,hw1,b4,hlt,hc,hHas,v8,v10,hcall,hw2]
       simp at hcall
       simp [zad hs,zaa hs,zai hs,zab hs,zac hs,znI,zpX,zpW,zjI,zjH,zjJ,zjG,zjF,v0,v1,v2,v3,v51,v52,v53,hi',hnum,pc,rc,hnP,k1,k2,hw1,b4,hlt,hc,hHas,v8,v10,hcall,hw2]
       refine hgo _ H1 z1 [] outs ?_ ?_ ?_ ?_ ?_ ?_ ?_ ?_ ?_ e2 e3 e4 hT1 (by omega) rfl (by rw [et])
       all_goals simp [v0,v1,v2,v3,v8,v51,v52,zbF]
      | cons y z2 =>
       simp only [zbF] at hcall v10
       simp at hcall
       simp [zad hs,zaa hs,zai hs,zab hs,zac hs,znI,zpX,zpW,zjI,zjH,zjJ,zjG,zjF,v0,v1,v2,v3,v51,v52,v53,hi',hnum,pc,rc,hnP,k1,k2,hw1,b4,hlt,hc,hHas,v8,v10,hcall,hw2]
       refine hgo _ H1 z1 (y::z2) outs ?_ ?_ ?_ ?_ ?_ ?_ ?_ ?_ ?_ e2 e3 e4 hT1 (by omega) rfl (by rw [et])
       all_goals simp [v0,v1,v2,v3,v8,v51,v52,zbF]
end
end
section
variable {S:Sp} {bar:Nat}
def rowP (p:Perm) (l:List Nat):AV:=match l with
 | []=> .nils
 | a::r=> .slc p (nums (a::r))
section
variable {fid:Nat} {cap:List AV} {pid r rid sid:Nat} {T:List Nat→Heap→Prop} {P:List NS} {first:Nat} {s:List UInt8}
theorem RH.up {H:Heap} {seen:List Nat} {round round':Nat} (h:RH H pid r rid sid P first s seen round) (hp:pid≠rid) (hr:r≠rid):RH (H.set rid (some [.ptr pid 0, .str s, .msl 1 sid 0 seen.length,num round'])) pid r rid sid P first s seen round' where
 pc:=by rw [zaw _ (Ne.symm hp)];exact h.pc
 rc:=by rw [zaw _ (Ne.symm hr)];exact h.rc
 wide:=h.wide
 run:=zae _ (zas h.run)
 seen:=by rw [zaw _ h.n3];exact h.seen
 n1:=h.n1
 n2:=h.n2
 n3:=h.n3
theorem zqF (P:List NS) (i:Nat): ∀ (l:List Nat),(tells P i l).length≤l.length
 | []=>by simp [tells]
 | n::l=>by
  have:=zqF P i l
  unfold tells
  split
  ·split
   ·simp only [List.length_cons];omega
   ·simp only [List.length_cons];omega
  ·simp only [List.length_cons];omega
theorem zBC (n:Nat) (l:List Nat) (hd:l.Nodup) (h: ∀ q∈l,q<n):l.length≤n:=by
 have:=List.Nodup.length_le_of_subset hd (l₂:=List.range n) fun q hq=>List.mem_range.2 (h q hq)
 simpa using this
theorem zwc (hT:Teller S bar fid cap [pid,r,rid,sid] sid T) (hTr: ∀ outs H x,T outs H→T outs (H.set rid x)) (hP:zez P) (hb:bar≤sid) (hbr:bar≤rid) (hpr:pid≠rid) (hrr:r≠rid) (hss:s.length<1000000) (hPl:P.length<1000) :
  ∀ (f at' round:Nat) (p:Perm) (v:Nat→AV) (H:Heap) (seen now outs:List Nat),(p= .own∨p= .ro)→s.length+2≤f+at'→at'≤s.length+1→(s.length<at'→now= [])→round≤at'+1→v 0= .ptr pid 0→v 1= .str s→v 2=num at'→v 3= .fn fid cap→v 8= .ptr rid 0→v 9=rowP p now →
   RH H pid r rid sid P first s seen round→Rnd P round seen now→now.length+3*fresh round seen≤1000000→now.length<3000→T outs H→outs.length+f*3000<4000000000 →
   Wp (evI fsT S.sp bar (.loop a37l18) (mkE 2379663764704762803983 v,H)) (fun e t=>e= .exit 0∧ ∃ v' H',t=(mkE 2379663764704762803983 v',H')∧T (outs++rounds P s f at' round seen now) H'):=by
 have hs:=S.mono
 have nil: ∀ (f at' round:Nat) (p:Perm) (v:Nat→AV) (H:Heap) (seen outs:List Nat),v 9=rowP p []→T outs H →
   Wp (evI fsT S.sp bar (.loop a37l18) (mkE 2379663764704762803983 v,H)) (fun e t=>e= .exit 0∧ ∃ v' H',t=(mkE 2379663764704762803983 v',H')∧T (outs++rounds P s f at' round seen []) H'):=by
  intro f at' round p v H seen outs v9 hTo
  have er:rounds P s f at' round seen []= []:=by cases f<;>rfl
  rw [er,List.append_nil,zaj hs a37l18.eq_1]
  simp only [rowP] at v9
  simp [zad hs,zaa hs,zab hs,zac hs,zHc,v9]
  exact ⟨_,_,⟨rfl,rfl⟩,hTo⟩
 intro f
 induction f with
 | zero =>
  intro at' round p v H seen now outs hp hf ha hn hro v0 v1 v2 v3 v8 v9 hR hrnd hlim hnl hTo hol
  have:=hn (by omega)
  subst this
  exact nil 0 at' round p v H seen outs v9 hTo
 | succ f ih =>
  intro at' round p v H seen now outs hp hf ha hn hro v0 v1 v2 v3 v8 v9 hR hrnd hlim hnl hTo hol
  cases now with
  | nil=>exact nil (f+1) at' round p v H seen outs v9 hTo
  | cons a rest =>
   have hat:at'≤s.length:=by
    by_cases c:s.length<at'
    ·have:=hn c;cases this
    ·omega
   rw [Nat.succ_mul] at hol
   have hR1:=hR.up (round':=round+1) hpr hrr
   have hr0:Rnd P (round+1) seen []:=⟨hrnd.len,fun x hx=>Nat.le_succ_of_le (hrnd.top x hx),by simp,by simp,by simp⟩
   have hf0:fresh (round+1) seen≤seen.length:=zjl _ _
   have hsl:seen.length=P.length:=hrnd.len
   have run:=hR.run
   have hw1:IntKind.i64.wrap ((round:Int)+1)=(round:Int)+1:=zal _ (by omega)
   have hw2:IntKind.i64.wrap ((at':Int)+1)=(at':Int)+1:=zal _ (by omega)
   have hpos:(0:Int)<(rest.length:Int)+1:=by omega
   have hcast:((round+1:Nat):Int)=(round:Int)+1:=by omega
   have n1:=zjd (s:=s) (i:=at') hP (a::rest) seen [] hr0
   have nil1:s.length<at'+1→(nexts P s at' (round+1) (a::rest) seen []).2= []:=by
    intro hlt
    have hc:s[at']? = none:=List.getElem?_eq_none (by omega)
    have: ∀ (r seen l:List Nat),(nexts P s at' (round+1) r seen l).2=l:=by
     intro r
     induction r with
     | nil=>intro seen l;rfl
     | cons b r ih =>
      intro seen l
      unfold nexts
      rw [hc]
      split
      ·rename_i h;cases h
      ·exact ih seen l
    exact this _ _ _
   have hin:=fun v' h0 h1 h2 h3 h8 h51 h52 h53 h10=>zwq (S:=S) (bar:=bar) hT hP hb hss hPl (at':=at') (by omega) hrnd.ops (by omega) (a::rest) 0 v' (H.set rid (some [.ptr pid 0, .str s, .msl 1 sid 0 seen.length,num (round+1)])) seen [] outs (by omega) rfl h0 h1 h2 h3 h8 h51 h52 h53 h10 hR1 hr0 (by simp only [List.length_nil];omega) (hTr _ _ _ hTo) (by simp only [List.length_cons] at hnl ⊢;omega)
   have hu:rounds P s (f+1) at' round seen (a::rest)=tells P at' (a::rest)++rounds P s f (at'+1) (round+1) (nexts P s at' (round+1) (a::rest) seen []).1 (nexts P s at' (round+1) (a::rest) seen []).2:=rfl
   have htl:=zqF P at' (a::rest)
   have hpost: ∀ (v':Nat→AV) (H':Heap) (p':Perm),(p'= .own∨p'= .ro)→v' 0= .ptr pid 0→v' 1= .str s→v' 2=num (at'+1)→v' 3= .fn fid cap→v' 8= .ptr rid 0→v' 9=rowP p' (nexts P s at' (round+1) (a::rest) seen []).2 →
     RH H' pid r rid sid P first s (nexts P s at' (round+1) (a::rest) seen []).1 (round+1)→T (outs++tells P at' (a::rest)) H'→(nexts P s at' (round+1) (a::rest) seen []).2.length+3*fresh (round+1) (nexts P s at' (round+1) (a::rest) seen []).1≤1000000 →
     Wp (evI fsT S.sp bar (.loop a37l18) (mkE 2379663764704762803983 v',H')) (fun e t=>e= .exit 0∧ ∃ v' H',t=(mkE 2379663764704762803983 v',H')∧T (outs++rounds P s (f+1) at' round seen (a::rest)) H'):=by
    intro v' H' p' hp' w0 w1 w2 w3 w8 w9 wR wT wl
    rw [hu,←List.append_assoc]
    refine ih (at'+1) (round+1) p' v' H' _ _ _ hp' (by omega) (by omega) nil1 (by omega) w0 w1 w2 w3 w8 w9 wR n1 wl ?_ wT ?_
    ·have hlb:(nexts P s at' (round+1) (a::rest) seen []).2.length≤P.length:=by
      have hnd:=n1.nodup
      have hlt: ∀ q∈(nexts P s at' (round+1) (a::rest) seen []).2,q<P.length:=fun q hq=>by
       obtain ⟨x,hx,_⟩:=n1.ops q hq
       exact (List.getElem?_eq_some_iff.1 hx).1
      exact zBC _ _ hnd hlt
     omega
    ·simp only [List.length_append,List.length_cons] at htl hnl ⊢;omega
   generalize nexts P s at' (round+1) (a::rest) seen []=z at hin hpost
   obtain ⟨z1,z2⟩:=z
   rw [zaj hs a37l18.eq_1]
   rcases hp with rfl | rfl
   all_goals
    simp only [rowP] at v9
    simp [zad hs,zaa hs,zab hs,zac hs,zHc,zKZ,zKY,zKX,v9,v8,run,hbr,hw1,zcY,hpos]
    refine (hin _ ?_ ?_ ?_ ?_ ?_ ?_ ?_ ?_ ?_).mono fun e t h=> ?_
    ·simp [v0]
    ·simp [v1]
    ·simp [v2]
    ·simp [v3]
    ·simp [v8]
    ·simp [List.take_of_length_le,nums]
    ·simp
    ·simp
    ·simp [zbF]
    ·obtain ⟨rfl,v',H',rfl,k0,k1,k2,k3,k8,k10,kR,kT,kl⟩:=h
     simp only at k10 kR kl
     cases z2 with
     | nil =>
      simp only [zbF] at k10
      simp [zad hs,zaa hs,zab hs,zac hs,zzf,zze,k10,k2,hw2]
      refine hpost _ H' .ro (.inr rfl) ?_ ?_ ?_ ?_ ?_ ?_ kR kT kl
      all_goals simp [k0,k1,k2,k3,k8,rowP]
     | cons y z2 =>
      simp only [zbF] at k10
      simp [zad hs,zaa hs,zab hs,zac hs,zzf,zze,k10,k2,hw2]
      refine hpost _ H' .ro (.inr rfl) ?_ ?_ ?_ ?_ ?_ ?_ kR kT kl
      all_goals simp [k0,k1,k2,k3,k8,rowP,nums,List.take_of_length_le]
end
end
section
variable {S:Sp} {bar:Nat}
structure PC (H:Heap) (pid r:Nat) (P:List NS) (first:Nat):Prop where
 pc:hget H pid=some (some [.msl 7 r 0 P.length,num first])
 rc:hget H r=some (some (cellsOf P))
 wide:zEM P
theorem PC.app {H:Heap} {pid r:Nat} {P:List NS} {first:Nat} (h:PC H pid r P first) (l:Heap):PC (H++l) pid r P first :=
 ⟨(za5 _ (zas h.pc)).trans h.pc,(za5 _ (zas h.rc)).trans h.rc,h.wide⟩
theorem zod (n:Nat):List.flatMap AV.cells (List.replicate n (AV.int .i64 0))=nums (List.replicate n 0):=by
 induction n with
 | zero=>rfl
 | succ n ih=>rw [List.replicate_succ,List.flatMap_cons,ih];rfl
theorem zBV {H:Heap} {pid r fid:Nat} {cap:List AV} {T:List Nat→Heap→Prop} {P:List NS} {first:Nat} {s:List UInt8} {at':Nat} (h:PC H pid r P first) (hT:Teller S bar fid cap [pid,r,H.length+1,H.length] H.length T)
  (hTr: ∀ outs H' x,T outs H'→T outs (H'.set (H.length+1) x)) (hT0: ∀ x y,T [] (H ++ [x] ++ [y])) (hP:zez P) (hf:first<P.length) (hb:bar≤H.length) (hss:s.length<1000000) (hPl:P.length<1000) (hat:at'≤s.length) :
  Wc (Rn fsT S.sp bar 37 [.ptr pid 0, .str s,num at', .fn fid cap] H) (fun o H'=>o= .ret (.tup [])∧T (zpu P first s at') H'):=by
 have hs:=S.mono
 refine zaO hs zIt rfl rfl ?_
 have pc:=h.pc
 have hpl:=zas h.pc
 have hrl:=zas h.rc
 have hno: ¬ s.length<at':=by omega
 have hng: ¬ ((at':Int)<0):=by omega
 have hsz:P.length≤4294967296:=by omega
 have hR:RH (H ++ [some (nums (List.replicate P.length 0))] ++ [some [.ptr pid 0, .str s, .msl 1 H.length 0 (List.replicate P.length 0).length,num 1]]) pid r (H.length+1) H.length P first s (List.replicate P.length 0) 1:=by
  refine ⟨?_,?_,h.wide,?_,?_,by omega,by omega,by omega⟩
  ·rw [za5 _ (by simp;omega),za5 _ hpl];exact pc
  ·rw [za5 _ (by simp;omega),za5 _ hrl];exact h.rc
  ·exact zjg _ _ _ (by simp)
  ·rw [za5 _ (by simp)];exact zbp _ _
 have h0:Rnd P 1 (List.replicate P.length 0) []:=⟨by simp,fun x hx=>by rw [List.mem_replicate] at hx;omega,by simp,by simp,by simp⟩
 have hf1:=zjl 1 (List.replicate P.length 0)
 rw [List.length_replicate] at hf1
 obtain ⟨o,H1,hcall,rfl,e1,e2⟩:=zri (S:=S) (bar:=bar) (at':=at') (n:=first) hR hP hb hss (by omega) h0 hf (by simp only [List.length_nil];omega) (by omega)
 have e3:=zh2 (len:=s.length) (at':=at') hP h0 hf
 have e4:(enter P s.length at' 1 first (List.replicate P.length 0) []).2.length+3*fresh 1 (enter P s.length at' 1 first (List.replicate P.length 0) []).1≤ [].length+3*fresh 1 (List.replicate P.length 0) :=
  zmq (len:=s.length) (at':=at') hP _ _ (h0.en hf)
 have hT1:=hT.keep _ _ _ (hT0 _ _) e1
 have hn1:H.length+1<(H ++ [some (nums (List.replicate P.length 0))] ++ [some [.ptr pid 0, .str s, .msl 1 H.length 0 (List.replicate P.length 0).length,num 1]]).length:=by simp
 have hout:=fun v h0 h1 h2 h3 h8 h9=>zwc (S:=S) (bar:=bar) hT (fun outs H x=>hTr outs H x) hP hb (by omega) (by omega) (by omega) hss hPl (s.length+2-at') at' 1 .own v H1 _ _ [] (.inl rfl) (by omega) (by omega) (fun h=>by omega) (by omega) h0 h1 h2 h3 h8 h9 e2 e3 (by simp only [List.length_nil] at e4;omega) (by simp only [List.length_nil] at e4;omega) hT1 (by simp only [List.length_nil];omega)
 have hends:zpu P first s at'=rounds P s (s.length+2-at') at' 1 (enter P s.length at' 1 first (List.replicate P.length 0) []).1 (enter P s.length at' 1 first (List.replicate P.length 0) []).2:=rfl
 rw [env37,hends]
 simp only [List.nil_append] at hout
 generalize enter P s.length at' 1 first (List.replicate P.length 0) []=z at hcall e1 e2 e3 e4 hout
 obtain ⟨z1,z2⟩:=z
 simp only at hcall e1 e2 e3 e4 hout
 have hpc1:hget (H ++ [some (nums (List.replicate P.length 0)),some [.ptr pid 0, .str s, .msl 1 H.length 0 P.length, .int .i64 1]]) pid=some (some [.msl 7 r 0 P.length,num first]):=by rw [za5 _ hpl];exact pc
 simp only [List.length_replicate,List.append_assoc,List.cons_append,List.nil_append,zbF] at hcall
 have hcall:Rn fsT S.sp bar 61 [.ptr (H.length+1) 0, .nils,num first,num at'] (H ++ [some (nums (List.replicate P.length 0)),some [.ptr pid 0, .str s, .msl 1 H.length 0 P.length, .int .i64 1]])=some (.ret (zbF z2),H1):=hcall
 cases z2 with
 | nil =>
  simp only [zbF] at hcall
  simp [zHf,zHe,zHd,a37,zad hs,zaa hs,zab hs,zac hs,hno,hng,pc,hsz,zod,hpc1,hcall]
  refine (hout _ ?_ ?_ ?_ ?_ ?_ ?_).mono fun e t h=> ?_
  ·simp
  ·simp
  ·simp
  ·simp
  ·simp
  ·simp [rowP]
  ·obtain ⟨rfl,v',H',rfl,hT'⟩:=h
   simp
   exact hT'
 | cons y z2 =>
  simp only [zbF] at hcall
  simp [zHf,zHe,zHd,a37,zad hs,zaa hs,zab hs,zac hs,hno,hng,pc,hsz,zod,hpc1,hcall]
  refine (hout _ ?_ ?_ ?_ ?_ ?_ ?_).mono fun e t h=> ?_
  ·simp
  ·simp
  ·simp
  ·simp
  ·simp
  ·simp [rowP,nums]
  ·obtain ⟨rfl,v',H',rfl,hT'⟩:=h
   simp
   exact hT'
end
section
variable {S:Sp} {bar:Nat}
def zth:List Nat→Int
 | []=> -1
 | [a]=>a
 | _::b::l=>zth (b::l)
theorem zn7 (a:Nat): ∀ (l:List Nat),zth (l ++ [a])=a
 | []=>rfl
 | [b]=>rfl
 | b::c::l=>zn7 a (c::l)
theorem zqD {oid pid r:Nat} (hb:bar≤oid) (h1:pid<oid) (h2:r<oid):Teller S bar 60 [.ptr oid 0] [pid,r,oid+2,oid+1] (oid+1) (fun outs K=>hget K oid=some (some [.int .i64 (zth outs)])) where
 call:=by
  intro H outs at' c1 hids ho hat
  have hs:=S.mono
  have hol:=zas c1
  have:Wc (Rn fsT S.sp bar 60 [num at', .ptr oid 0] H) (fun o H'=>o= .ret (.tup [])∧H'=H.set oid (some [num at'])):=by
   refine zaO hs zIk rfl rfl ?_
   rw [env60]
   simp [a60,zKN,zaa hs,c1,hb]
  obtain ⟨o,H',hc,rfl,rfl⟩:=this
  refine ⟨_,hc,?_,by simp,?_⟩
  ·rw [zae _ hol,zn7]
  ·intro i hi
   have hne:oid≠i:=by
    simp only [List.mem_cons,List.not_mem_nil,or_false] at hi
    omega
   rw [zaw _ hne]
 keep:=by
  intro H H' outs c1 hk
  exact (hk.2 _ (zas c1) (by omega)).trans c1
theorem zur {H:Heap} {pid r:Nat} {P:List NS} {first:Nat} {s:List UInt8} {at':Nat} (h:PC H pid r P first) (hP:zez P) (hf:first<P.length) (hss:s.length<1000000) (hPl:P.length<1000) (hat:at'≤s.length) :
  Rn fsT S.sp bar 35 [.ptr pid 0, .str s,num at'] H=some (.ret (.int .i64 (zth (zpu P first s at'))),H):=by
 have hs:=S.mono
 have hpl:=zas h.pc
 have hrl:=zas h.rc
 refine zcX hs zIu rfl rfl rfl ?_
 have hl:(H ++ [some [AV.int .i64 (-1)]]).length=H.length+1:=by simp
 have hT:=zqD (S:=S) (bar:=H.length) (oid:=H.length) (Nat.le_refl _) hpl hrl
 obtain ⟨o,H1,hcall,rfl,c1⟩:=zBV (S:=S) (bar:=H.length) (at':=at') (h.app [some [.int .i64 (-1)]]) (T:=fun outs K=>hget K H.length=some (some [.int .i64 (zth outs)])) (cap:= [.ptr H.length 0]) (fid:=60) (by rw [hl];exact hT)
  (by
   rw [hl]
   intro outs H' x c1
   exact (zaw _ (by omega)).trans c1)
  (by
   intro x y
   rw [za5 _ (by simp),za5 _ (by simp),zbp];rfl)
  hP hf (by simp) hss hPl hat
 rw [env35]
 simp [a35,zK3,zK2,zK1,zK0,zad hs,zaa hs,hcall,c1]
end
section
variable {S:Sp} {bar:Nat}
theorem zu8: ∀ (l:List Nat) (r:List AV),zdv (l.map u64++r)=zdv r
 | [],r=>rfl
 | a::l,r=>by simp [zdv,clo,zu8 l r]
mutual
theorem zfG: ∀ (r:Re),clo r.av=true
 | .mk k set mn mx l=>by
  have h:=zlN l
  rw [Re.av]
  simp only [clo,zdv,zu8,Bool.true_and,Bool.and_true]
  cases l with
  | nil=>simp [Re.avs,rowOf,clo]
  | cons x l=>simp only [Re.avs,rowOf,clo];simpa only [Re.avs] using h
theorem zlN: ∀ (l:List Re),zdv (Re.avs l)=true
 | []=>rfl
 | x::l=>by simp [Re.avs,zdv,zfG x,zlN l]
end
theorem zwA {k:Int} {a b c d:Nat} {mn mx:Int} {l:List Re} (hw:Re.wideL l) (hlen:l.length<1000000) {kk deep:Int} (hc:Re.canL l kk deep=true) (hd0:0≤deep) (hd:deep≤100) (ih: ∀ x∈l,∀ H,Rn fsT S.sp bar 82 [x.av] H=some (.ret (num x.cap),H)) {H:Heap} :
  ∀ (rest:List Re) (i n:Nat) (v:Nat→AV),i≤l.length→l.drop i=rest→n≤500→v 1= .box [.int .i64 k,u64 a,u64 b,u64 c,u64 d, .int .i64 mn, .int .i64 mx,rowOf (Re.avs l)]→v 7=rowOf (Re.avs l)→v 8=num l.length→v 9=num i→v 3=num n →
   Wp (evI fsT S.sp bar (.loop a82l9) (mkE 584262617007 v,H)) (fun e t=>(e= .exit 0∧Re.capL n rest≤500∧ ∃ v',t=(mkE 584262617007 v',H)∧v' 1=v 1∧v' 3=num (Re.capL n rest))∨(e= .ret∧500<Re.capL n rest∧ ∃ v',t=(mkE 584262617007 v',H)∧v' 2=num (Re.capL n rest))):=by
 have hs:=S.mono
 intro rest
 induction rest with
 | nil =>
  intro i n v hi hr hn v1 v7 v8 v9 v3
  have hi':i=l.length:=by
   have:=congrArg List.length hr
   rw [List.length_drop] at this;simp at this;omega
  subst hi'
  rw [zaj hs a82l9.eq_1]
  simp [zad hs,zaa hs,zab hs,zac hs,zCy,v8,v9]
  exact ⟨by simpa [Re.capL] using hn,_,rfl,by simp,by simpa [Re.capL] using v3⟩
 | cons x rest ihr =>
  intro i n v hi hr hn v1 v7 v8 v9 v3
  have hi':i<l.length:=by
   have:=congrArg List.length hr
   rw [List.length_drop] at this;simp at this;omega
  have hdc:=List.drop_eq_getElem_cons hi'
  rw [hr] at hdc
  obtain ⟨hx,hr'⟩:=List.cons.inj hdc
  have hmem:x∈l:=hx▸List.getElem_mem hi'
  obtain ⟨cs,hcs,hcl⟩:=Re.av_agg (zaC.1 hw x hmem)
  have hcl8:8≤cs.length:=by omega
  have htk:List.take 8 cs=cs:=List.take_of_length_le (by omega)
  have hg:(Re.avs l)[i]? = some (.agg cs):=by rw [zeo hi',←hx,hcs]
  have hne:Re.avs l ≠ []:=by rw [Re.avs_map];simp;intro e;subst e;simp at hi'
  have hcall:=ih x hmem H
  rw [hcs] at hcall
  rw [za3 hne] at v7 v1
  have hcx:=Re.cap_le x kk (deep+1) (zpF.1 hc x hmem) (zaC.1 hw x hmem)
  have hw1:IntKind.i64.wrap ((i:Int)+1)=(i:Int)+1:=zal _ (by omega)
  have hw2:IntKind.i64.wrap ((n:Int)+(x.cap:Int))=(n:Int)+x.cap:=zal _ (by omega)
  -- eight cells, one by one
  obtain ⟨c0,c1,c2,c3,c4,c5,c6,c7,rfl⟩: ∃ c0 c1 c2 c3 c4 c5 c6 c7,cs= [c0,c1,c2,c3,c4,c5,c6,c7]:=by
   match cs,hcl with
   | [c0,c1,c2,c3,c4,c5,c6,c7],_=>exact ⟨_,_,_,_,_,_,_,_,rfl⟩
  rw [zaj hs a82l9.eq_1]
  by_cases h5:n+x.cap>500
  ·have h5':(500:Int)<(n:Int)+x.cap:=by omega
   have hu:Re.capL n (x::rest)=n+x.cap:=by simp [Re.capL,h5]
   rw [hu]
   simp [zad hs,zaa hs,zab hs,zac hs,zCy,zGM,zGL,zGK,zGJ,zGI,v8,v9,v7,v3,hi',hg,hcall,hw1,hw2,h5']
   exact ⟨by omega,_,rfl,by simp⟩
  ·have h5': ¬ (500:Int)<(n:Int)+x.cap:=by omega
   have hu:Re.capL n (x::rest)=Re.capL (n+x.cap) rest:=by simp [Re.capL,h5]
   rw [hu]
   simp [zad hs,zaa hs,zab hs,zac hs,zCy,zGM,zGL,zGK,zGJ,zGI,v8,v9,v7,v3,hi',hg,hcall,hw1,hw2,h5']
   refine (ihr (i+1) (n+x.cap) _ (by omega) hr'.symm (by omega) ?_ ?_ ?_ ?_ ?_).mono fun e t h=> ?_
   ·simp [v1,za3 hne]
   ·simp [v7,za3 hne]
   ·simp [v8]
   ·simp
   ·simp
   ·rcases h with ⟨e1,e2,v',e3,e4,e5⟩ | ⟨e1,e2,v',e3,e4⟩
    ·exact .inl ⟨e1,e2,v',e3,by rw [e4];simp,e5⟩
    ·exact .inr ⟨e1,e2,v',e3,e4⟩
theorem zwz {k:Int} {set:List Nat} {mn mx:Int} {l:List Re} {within deep:Int} (hc:(Re.mk k set mn mx l).can within deep=true) (hw:(Re.mk k set mn mx l).wide) (hd0:0≤deep)
  (ih: ∀ kk,Re.canL l kk deep=true→ ∀ x∈l,∀ H,Rn fsT S.sp 0 82 [x.av] H=some (.ret (num x.cap),H)) (H:Heap):Rn fsT S.sp bar 82 [(Re.mk k set mn mx l).av] H=some (.ret (num (Re.mk k set mn mx l).cap),H):=by
 have hs:=S.mono
 have hcap:=Re.cap_le _ _ _ hc hw
 have hw0:=hw
 unfold Re.wide at hw
 obtain ⟨h4,hlen,⟨m1,m2,m3,m4⟩,hwl⟩:=hw
 obtain ⟨a,b,c,d,rfl⟩:=four h4
 refine zao hs zH9 rfl (by simp only [zdv,zfG];rfl) rfl ?_
 rw [env82]
 unfold Re.can at hc
 split at hc
 ·cases hc
 rename_i hb
 have hd:deep≤100:=by
  simp only [za8,Bool.or_eq_true,decide_eq_true_eq,not_or] at hb
  omega
 have hL:Re.canL l k deep=true:=by
  have nil:l.length=0→Re.canL l k deep=true:=fun e=>by
   have:=List.eq_nil_of_length_eq_zero e
   subst this
   rfl
  split at hc
  ·simp only [Bool.and_eq_true,decide_eq_true_eq] at hc
   exact nil hc.1
  split at hc
  ·exact nil (of_decide_eq_true hc)
  split at hc
  ·split at hc
   ·cases hc
   ·exact hc
  split at hc
  ·split at hc
   ·cases hc
   ·exact hc
  ·cases hc
 have hkk:k=0∨k=1∨k=2∨k=3∨k=4∨k=5∨k=6:=by
  split at hc
  ·omega
  split at hc
  ·omega
  split at hc
  ·omega
  split at hc
  ·omega
  ·cases hc
 have h5l:k=5→ ¬ l.length<2:=fun e=>by
  subst e
  simp at hc
  omega
 have hrep:k=6→ ¬ mx<0→mn≤mx:=fun e hx=>by
  subst e
  simp [zcw] at hc
  omega
 clear hc
 have hin:=fun v=>zwA (S:=S) (bar:=0) (k:=k) (a:=a) (b:=b) (c:=c) (d:=d) (mn:=mn) (mx:=mx) (H:= []) hwl hlen hL hd0 hd (fun x hx H=>ih k hL x hx H) l 0 0 v (by omega) rfl (by omega)
 have hcl:=zyQ l 0
 have hpost: ∀ (v':Nat→AV),Re.capL 0 l≤500→v' 1= .box [.int .i64 k,u64 a,u64 b,u64 c,u64 d, .int .i64 mn, .int .i64 mx,rowOf (Re.avs l)]→v' 3=num (Re.capL 0 l) →
   Wp (evI fsT S.sp 0 (.seq (.seq (.region zhq) (.block 2 (.seq (.seq (.region zhp) (.cond false (.v 23) .skip (.seq (.region zho) (.cond false (.v 23) .skip (.region zhn))))) (.cond false (.v 23) (.seq (.region zhm) .ret) (.seq (.region zhl) (.cond true (.v 27) (.seq (.region zhk) .ret) (.seq (.region zhj) (.cond true (.v 35) (.seq (.seq (.region zhi) (.cond true (.v 39) (.seq (.region zhh) .ret) .skip)) (.seq (.region zhg) .ret)) .skip)))))))) (.seq (.region zhf) .ret)) (mkE 584262617007 v',[])) (fin [.tmp 2] (thaw 0 (· = .ret (num (Re.mk k [a,b,c,d] mn mx l).cap)))):=by
  intro v' h5 v1 v3
  have h5': ¬ Re.capL 0 l>500:=by omega
  rcases hkk with rfl | rfl | rfl | rfl | rfl | rfl | rfl
  ·simp [Re.cap,h5',zhq,zhp,zho,zhn,zhm,zhl,zhk,zhj,zhi,zhh,zhg,zhf,zad hs,zaa hs,zab hs,zac hs,v1,v3]
  ·simp [Re.cap,h5',zhq,zhp,zho,zhn,zhm,zhl,zhk,zhj,zhi,zhh,zhg,zhf,zad hs,zaa hs,zab hs,zac hs,v1,v3]
  ·simp [Re.cap,h5',zhq,zhp,zho,zhn,zhm,zhl,zhk,zhj,zhi,zhh,zhg,zhf,zad hs,zaa hs,zab hs,zac hs,v1,v3]
  ·simp [Re.cap,h5',zhq,zhp,zho,zhn,zhm,zhl,zhk,zhj,zhi,zhh,zhg,zhf,zad hs,zaa hs,zab hs,zac hs,v1,v3]
  ·simp [Re.cap,h5',zhq,zhp,zho,zhn,zhm,zhl,zhk,zhj,zhi,zhh,zhg,zhf,zad hs,zaa hs,zab hs,zac hs,v1,v3]
  ·have hl2:=h5l rfl
   have hne:Re.avs l ≠ []:=by rw [Re.avs_map];simp;intro e;subst e;simp at hl2
   rw [za3 hne] at v1
   have hw1:IntKind.i64.wrap ((Re.capL 0 l:Int)+(l.length:Int))=((Re.capL 0 l:Int)+(l.length:Int)):=zal _ (by omega)
   have hw2:IntKind.i64.wrap ((Re.capL 0 l:Int)+(l.length:Int)-1)=((Re.capL 0 l+l.length-1:Nat):Int):=by rw [zal _ (by omega)];omega
   simp [Re.cap,h5',zhq,zhp,zho,zhn,zhm,zhl,zhk,zhj,zhi,zhh,zhg,zhf,zad hs,zaa hs,zab hs,zac hs,v1,v3,zaq,hw1,hw2]
  ·obtain ⟨N,rfl⟩: ∃ N:Nat,mn=N:=⟨mn.toNat,by omega⟩
   generalize hC:Re.capL 0 l=C at *
   have e1:=Nat.mul_le_mul (show N≤999 by omega) h5
   by_cases hx:mx<0
   ·obtain ⟨D,hD⟩: ∃ D,N*C=D:=⟨_,rfl⟩
    rw [hD] at e1
    have hD':(N:Int)*(C:Int)=(D:Int):=by rw [←hD];push_cast;rfl
    have hw1:IntKind.i64.wrap (D:Int)=(D:Int):=zal _ (by omega)
    have hw2:IntKind.i64.wrap ((D:Int)+(C:Int))=(D:Int)+C:=zal _ (by omega)
    have hw3:IntKind.i64.wrap ((D:Int)+(C:Int)+1)=(D:Int)+C+1:=zal _ (by omega)
    have hcp:(Re.mk 6 [a,b,c,d] (N:Int) mx l).cap=D+C+1:=by
     simp [Re.cap,hC,h5',hx,hD]
    rw [hcp]
    simp [zhq,zhp,zho,zhn,zhm,zhl,zhk,zhj,zhi,zhh,zhg,zhf,zad hs,zaa hs,zab hs,zac hs,v1,v3,hx,hD',hw1,hw2,hw3]
   ·obtain ⟨M,rfl⟩: ∃ M:Nat,mx=M:=⟨mx.toNat,by omega⟩
    have hNM:N≤M:=by have:=hrep rfl hx;omega
    obtain ⟨D,hD⟩: ∃ D,N*C=D:=⟨_,rfl⟩
    obtain ⟨E,hE⟩: ∃ E,(M-N)*(C+1)=E:=⟨_,rfl⟩
    have e2:=Nat.mul_le_mul (show M-N≤999 by omega) (show C+1≤501 by omega)
    rw [hD] at e1
    rw [hE] at e2
    have hD':(N:Int)*(C:Int)=(D:Int):=by rw [←hD];push_cast;rfl
    have hE':((M-N:Nat):Int)*((C:Int)+1)=(E:Int):=by rw [←hE];push_cast;rfl
    have hw0:IntKind.i64.wrap ((M:Int)-(N:Int))=((M-N:Nat):Int):=by rw [zal _ (by omega)];omega
    have hw1:IntKind.i64.wrap (D:Int)=(D:Int):=zal _ (by omega)
    have hw2:IntKind.i64.wrap ((C:Int)+1)=(C:Int)+1:=zal _ (by omega)
    have hw3:IntKind.i64.wrap (E:Int)=(E:Int):=zal _ (by omega)
    have hw4:IntKind.i64.wrap ((D:Int)+(E:Int))=(D:Int)+E:=zal _ (by omega)
    have hcp:(Re.mk 6 [a,b,c,d] (N:Int) M l).cap=D+E:=by
     have:((M:Int)-N).toNat=M-N:=by omega
     simp [Re.cap,hC,h5',hx,hD,this,hE]
    rw [hcp]
    simp [zhq,zhp,zho,zhn,zhm,zhl,zhk,zhj,zhi,zhh,zhg,zhf,zad hs,zaa hs,zab hs,zac hs,v1,v3,hx,hD',hE',hw0,hw1,hw2,hw3,hw4]
 have hrow:(l= []∧rowOf (Re.avs l)= .nils)∨rowOf (Re.avs l)= .slc .ro (Re.avs l):=by
  cases l with
  | nil=>exact .inl ⟨rfl,rfl⟩
  | cons x l=>exact .inr rfl
 have hend: ∀ (v:Nat→AV),v 1= .box [.int .i64 k,u64 a,u64 b,u64 c,u64 d, .int .i64 mn, .int .i64 mx,rowOf (Re.avs l)]→v 7=rowOf (Re.avs l)→v 8=num l.length→v 9=num 0→v 3=num 0 →
   Wp (evI fsT S.sp 0 (.loop a82l9) (mkE 584262617007 v,[])) (zlh 0 (andThen (evI fsT S.sp 0 (.seq (.seq (.region zhq) (.block 2 (.seq (.seq (.region zhp) (.cond false (.v 23) .skip (.seq (.region zho) (.cond false (.v 23) .skip (.region zhn))))) (.cond false (.v 23) (.seq (.region zhm) .ret) (.seq (.region zhl) (.cond true (.v 27) (.seq (.region zhk) .ret) (.seq (.region zhj) (.cond true (.v 35) (.seq (.seq (.region zhi) (.cond true (.v 39) (.seq (.region zhh) .ret) .skip)) (.seq (.region zhg) .ret)) .skip)))))))) (.seq (.region zhf) .ret))) (fin [.tmp 2] (thaw 0 (· = .ret (num (Re.mk k [a,b,c,d] mn mx l).cap)))))):=by
  intro v w1 w7 w8 w9 w3
  refine (hin v w1 w7 w8 w9 w3).mono fun e t h=> ?_
  rcases h with ⟨rfl,h5,v',rfl,e1,e3⟩ | ⟨rfl,h5,v',rfl,e2⟩
  ·rw [zbg,if_pos rfl,zaG]
   exact hpost v' h5 (by rw [e1,w1]) e3
  ·have:(Re.mk k [a,b,c,d] mn mx l).cap=Re.capL 0 l:=by
    unfold Re.cap
    rw [if_pos h5]
   simp [this,e2]
 rcases hrow with ⟨rfl,hrow⟩ | hrow
 ·simp [a82,zGP,zGO,zGN,zad hs,zaa hs,Re.av,hrow]
  simp only [zad hs,zab hs,zaG]
  refine hend _ ?_ ?_ ?_ ?_ ?_
  ·simp [hrow]
  ·simp [hrow]
  ·simp
  ·simp
  ·simp
 ·simp [a82,zGP,zGO,zGN,zad hs,zaa hs,Re.av,hrow]
  simp only [zad hs,zab hs,zaG]
  refine hend _ ?_ ?_ ?_ ?_ ?_
  ·simp [hrow]
  ·simp [hrow]
  ·simp [zaq]
  ·simp
  ·simp
mutual
theorem zrn: ∀ (r:Re) (within deep:Int),r.can within deep=true→r.wide→0≤deep→ ∀ (bar:Nat) (H:Heap),Rn fsT S.sp bar 82 [r.av] H=some (.ret (num r.cap),H)
 | .mk k set mn mx l,within,deep,hc,hw,hd,bar,H =>
  zwz hc hw hd (fun kk hL x hx H=>zoi l kk deep hL (by unfold Re.wide at hw;exact hw.2.2.2) hd x hx H) H
theorem zoi: ∀ (l:List Re) (k deep:Int),Re.canL l k deep=true→Re.wideL l→0≤deep→ ∀ x∈l,∀ (H:Heap),Rn fsT S.sp 0 82 [x.av] H=some (.ret (num x.cap),H)
 | [],_,_,_,_,_=>fun x hx=>by cases hx
 | y::l,k,deep,hc,hw,hd=>fun x hx H=>by
  simp only [Re.canL,Bool.and_eq_true] at hc
  unfold Re.wideL at hw
  rcases List.mem_cons.1 hx with e | h
  ·rw [e];exact zrn y k (deep+1) hc.1 hw.1 (by omega) 0 H
  ·exact zoi l k deep hc.2 hw.2 hd x h H
end
end
section
variable {S:Sp} {bar:Nat}
theorem zHC (a b c d:Nat):decide ([a,b,c,d]≠zbH)= !((a:Int)==0&&((b:Int)==0&&((c:Int)==0&&(d:Int)==0))):=by
 rw [Bool.eq_iff_iff]
 simp [zbH]
theorem zB5 {k mn mx deep:Int} {a b c d:Nat} {lv:AV} {v:Nat→AV} {H:Heap} {Q:AExit→EH→Prop} (v3:v 3= .ptr 0 0) (v5:v 5= .ptr 1 0)
  (h0:hget H 0=some (some [.int .i64 k,u64 a,u64 b,u64 c,u64 d, .int .i64 mn, .int .i64 mx,lv])) (h1:hget H 1=some (some [.int .i64 deep]))
  (hQ:Q .norm (mkE 1267650600670987429023578062959 (st v 34 (.bool (za8 k [a,b,c,d] mn mx deep))),H)):Ws (zaN (Rn fsT S.sp bar) bar zmQ ⟨mkE 1267650600670987429023578062959 v,[],[],H⟩) Q:=by
 have hz:=zHC a b c d
 by_cases c1:100<deep
 ·have hb:za8 k [a,b,c,d] mn mx deep=true:=by simp [za8,c1]
  rw [hb] at hQ
  simp [zmQ,v3,v5,h0,h1,c1,hQ]
 by_cases c2:k=1
 ·subst c2
  by_cases c3:mn=0
  ·subst c3
   by_cases c4:mx=0
   ·subst c4
    have hb:za8 1 [a,b,c,d] 0 0 deep=false:=by simp [za8,c1]
    rw [hb] at hQ
    simp [zmQ,v3,v5,h0,h1,c1,hQ]
   ·have hb:za8 1 [a,b,c,d] 0 mx deep=true:=by simp [za8,c1,c4]
    rw [hb] at hQ
    have c4':(mx != 0)=true:=by simpa using c4
    simp [zmQ,v3,v5,h0,h1,c1,hQ,c4']
  ·have hb:za8 1 [a,b,c,d] mn mx deep=true:=by simp [za8,c1,c3]
   rw [hb] at hQ
   have c3':(mn != 0)=true:=by simpa using c3
   simp [zmQ,v3,v5,h0,h1,c1,hQ,c3']
 have c2':(k != 1)=true:=by simpa using c2
 cases hzz:((a:Int)==0&&((b:Int)==0&&((c:Int)==0&&(d:Int)==0))) with
 | false =>
  have hb:za8 k [a,b,c,d] mn mx deep=true:=by simp [za8,c1,c2,hz,hzz]
  rw [hb] at hQ
  simp [zmQ,v3,v5,h0,h1,c1,hQ,c2',List.replicate_succ,hzz]
 | true =>
  have hzd:decide ([a,b,c,d]≠zbH)=false:=by rw [hz,hzz];rfl
  by_cases c5:k=6
  ·subst c5
   have hb:za8 6 [a,b,c,d] mn mx deep=false:=by simp only [za8,hzd];simp [c1]
   rw [hb] at hQ
   simp [zmQ,v3,v5,h0,h1,c1,hQ,List.replicate_succ,hzz]
  have c5':(k != 6)=true:=by simpa using c5
  by_cases c3:mn=0
  ·subst c3
   by_cases c4:mx=0
   ·subst c4
    have hb:za8 k [a,b,c,d] 0 0 deep=false:=by simp only [za8,hzd];simp [c1]
    rw [hb] at hQ
    simp [zmQ,v3,v5,h0,h1,c1,hQ,c2',c5',List.replicate_succ,hzz]
   ·have hb:za8 k [a,b,c,d] 0 mx deep=true:=by simp [za8,c1,c4,c5]
    rw [hb] at hQ
    have c4':(mx != 0)=true:=by simpa using c4
    simp [zmQ,v3,v5,h0,h1,c1,hQ,c2',c5',c4',List.replicate_succ,hzz]
  ·have hb:za8 k [a,b,c,d] mn mx deep=true:=by simp [za8,c1,c3,c5]
   rw [hb] at hQ
   have c3':(mn != 0)=true:=by simpa using c3
   simp [zmQ,v3,v5,h0,h1,c1,hQ,c2',c5',c3',List.replicate_succ,hzz]
theorem zGk {k mn mx:Int} {a b c d:Nat} {l:List Re} {v:Nat→AV} {H:Heap} {Q:AExit→EH→Prop} (v3:v 3= .ptr 0 0)
  (h0:hget H 0=some (some [.int .i64 k,u64 a,u64 b,u64 c,u64 d, .int .i64 mn, .int .i64 mx,rowOf (Re.avs l)]))
  (hQ:Q .norm (mkE 1267650600670987429023578062959 (st v 100 (.bool (zcw l.length mn mx))),H)):Ws (zaN (Rn fsT S.sp bar) bar zdw ⟨mkE 1267650600670987429023578062959 v,[],[],H⟩) Q:=by
 match l,h0,hQ with
 | [],h0,hQ =>
  have hb:zcw ([]:List Re).length mn mx=true:=by simp [zcw]
  rw [hb] at hQ
  simp [zdw,v3,h0,hQ,rowOf,Re.avs]
 | x::y::l,h0,hQ =>
  have hb:zcw (x::y::l).length mn mx=true:=by simp [zcw]
  rw [hb] at hQ
  have hlen:((((Re.avs l).length:Int)+1+1) != 1)=true:=by simp;omega
  simp [zdw,v3,h0,hQ,rowOf,Re.avs,hlen]
 | [x],h0,hQ =>
  by_cases c1:mn<0
  ·have hb:zcw [x].length mn mx=true:=by simp [zcw,c1]
   rw [hb] at hQ
   simp [zdw,v3,h0,hQ,rowOf,Re.avs,c1]
  by_cases c2:50<mn
  ·have hb:zcw [x].length mn mx=true:=by simp [zcw,c2]
   rw [hb] at hQ
   simp [zdw,v3,h0,hQ,rowOf,Re.avs,c1,c2]
  by_cases c3:mx= -1
  ·subst c3
   have hb:zcw [x].length mn (-1)=false:=by simp [zcw,c1,c2]
   rw [hb] at hQ
   simp [zdw,v3,h0,hQ,rowOf,Re.avs,c1,c2]
  have c3':(mx != -1)=true:=by simpa using c3
  by_cases c4:mx<mn
  ·have hb:zcw [x].length mn mx=true:=by simp [zcw,c3,c4]
   rw [hb] at hQ
   simp [zdw,v3,h0,hQ,rowOf,Re.avs,c1,c2,c3',c4]
  ·have hb:zcw [x].length mn mx=decide (50<mx):=by simp [zcw,c1,c2,c3,c4]
   rw [hb] at hQ
   simp [zdw,v3,h0,hQ,rowOf,Re.avs,c1,c2,c3',c4]
theorem zB4 {l:List Re} {k deep:Int} {H:Heap} (hw:Re.wideL l) (hlen:l.length<1000000) (ih: ∀ x∈l,Rn fsT S.sp bar 90 [x.av, .ptr 0 0, .ptr 1 0] H=some (.ret (.bool !(x.can k (deep+1))),H)) :
  ∀ (rest:List Re) (i:Nat) (v:Nat→AV),i≤l.length→l.drop i=rest→v 0=rowOf (Re.avs l)→v 1= .fn 90 [.ptr 0 0, .ptr 1 0]→v 7=num l.length→v 8=num i →
   Wp (evI fsT S.sp bar (.loop a100l7) (mkE 66483 v,H)) (fun e t=>(Re.canL rest k deep=true∧e= .exit 0∧ ∃ v',t=(mkE 66483 v',H))∨(Re.canL rest k deep=false∧e= .ret∧ ∃ v' n,t=(mkE 66483 v',H)∧v' 4=num n)):=by
 have hs:=S.mono
 intro rest
 induction rest with
 | nil =>
  intro i v hi hr v0 v1 v7 v8
  have hi':i=l.length:=by
   have:=congrArg List.length hr
   rw [List.length_drop] at this;simp at this;omega
  subst hi'
  rw [zaj hs a100l7.eq_1]
  simp [zad hs,zaa hs,zab hs,zac hs,zvz,v7,v8]
  exact ⟨rfl,_,rfl⟩
 | cons x rest ihr =>
  intro i v hi hr v0 v1 v7 v8
  have hi':i<l.length:=by
   have:=congrArg List.length hr
   rw [List.length_drop] at this;simp at this;omega
  have hdc:=List.drop_eq_getElem_cons hi'
  rw [hr] at hdc
  obtain ⟨hx,hr'⟩:=List.cons.inj hdc
  have hmem:x∈l:=hx▸List.getElem_mem hi'
  obtain ⟨cs,hcs,hcl⟩:=Re.av_agg (zaC.1 hw x hmem)
  have hcl8:8≤cs.length:=by omega
  have htk:List.take 8 cs=cs:=List.take_of_length_le (by omega)
  have hg:(Re.avs l)[i]? = some (.agg cs):=by rw [zeo hi',←hx,hcs]
  have hne:Re.avs l ≠ []:=by rw [Re.avs_map];simp;intro e;subst e;simp at hi'
  have hcall:=ih x hmem
  rw [hcs] at hcall
  rw [za3 hne] at v0
  have hw1:IntKind.i64.wrap ((i:Int)+1)=(i:Int)+1:=zal _ (by omega)
  rw [zaj hs a100l7.eq_1]
  cases hcx:x.can k (deep+1) with
  | false =>
   rw [hcx] at hcall
   have hu:Re.canL (x::rest) k deep=false:=by simp [Re.canL,hcx]
   rw [hu]
   simp [zad hs,zaa hs,zab hs,zac hs,zvz,zAD,zAC,zAB,zAA,v0,v1,v7,v8,hi',hg,hcl,hcl8,htk,hcall,hw1]
   exact ⟨_,rfl,i,by simp⟩
  | true =>
   rw [hcx] at hcall
   have hu:Re.canL (x::rest) k deep=Re.canL rest k deep:=by simp [Re.canL,hcx]
   rw [hu]
   simp [zad hs,zaa hs,zab hs,zac hs,zvz,zAD,zAC,zAB,zAA,v0,v1,v7,v8,hi',hg,hcl,hcl8,htk,hcall,hw1]
   refine (ihr (i+1) _ (by omega) hr'.symm ?_ ?_ ?_ ?_).mono fun e t h=>by simpa using h
   ·simp [v0,za3 hne]
   ·simp [v1]
   ·simp [v7]
   ·simp
theorem zyh {l:List Re} {k deep:Int} {H:Heap} (hw:Re.wideL l) (hlen:l.length<1000000) (ih: ∀ x∈l,Rn fsT S.sp bar 90 [x.av, .ptr 0 0, .ptr 1 0] H=some (.ret (.bool !(x.can k (deep+1))),H)) :
  ∃ n:Int,Rn fsT S.sp bar 100 [rowOf (Re.avs l), .fn 90 [.ptr 0 0, .ptr 1 0]] H=some (.ret (.int .i64 n),H)∧(0≤n↔Re.canL l k deep=false):=by
 have hs:=S.mono
 have:Wc (Rn fsT S.sp bar 100 [rowOf (Re.avs l), .fn 90 [.ptr 0 0, .ptr 1 0]] H) (fun o H'=>H'=H∧ ∃ n:Int,o= .ret (.int .i64 n)∧(0≤n↔Re.canL l k deep=false)):=by
  refine zaO hs zF8 rfl rfl ?_
  rw [zJm]
  have hfin:=fun v=>zB4 (S:=S) (bar:=bar) (H:=H) hw hlen ih l 0 v (by omega) rfl
  have hrow:(l= []∧rowOf (Re.avs l)= .nils)∨rowOf (Re.avs l)= .slc .ro (Re.avs l):=by
   cases l with
   | nil=>exact .inl ⟨rfl,rfl⟩
   | cons x l=>exact .inr rfl
  rcases hrow with ⟨rfl,hrow⟩ | hrow
  all_goals
   simp [a100,zEL,zEK,zad hs,zaa hs,zab hs,hrow]
   refine (hfin _ ?_ ?_ ?_ ?_).mono fun e t h=> ?_
   ·simp [hrow]
   ·simp
   ·simp [zaq]
   ·simp
   ·rcases h with ⟨h1,rfl,v',rfl⟩ | ⟨h1,rfl,v',n,rfl,h2⟩
    ·simp [zEJ,zad hs,zaa hs,h1]
    ·simp [h1,h2]
 obtain ⟨o,H',h,rfl,n,rfl,h2⟩:=this
 exact ⟨n,h,h2⟩
theorem zro {l:List Re} {k deep:Int} {H:Heap} (hw:Re.wideL l) (hlen:l.length<1000000) (ih: ∀ x∈l,Rn fsT S.sp bar 90 [x.av, .ptr 0 0, .ptr 1 0] H=some (.ret (.bool !(x.can k (deep+1))),H)) :
  Rn fsT S.sp bar 91 [rowOf (Re.avs l), .fn 90 [.ptr 0 0, .ptr 1 0]] H=some (.ret (.bool !(Re.canL l k deep)),H):=by
 have hs:=S.mono
 obtain ⟨n,hc,hn⟩:=zyh hw hlen ih
 have:Wc (Rn fsT S.sp bar 91 [rowOf (Re.avs l), .fn 90 [.ptr 0 0, .ptr 1 0]] H) (fun o H'=>o= .ret (.bool !(Re.canL l k deep))∧H'=H):=by
  refine zaO hs zH3 rfl rfl ?_
  rw [env91]
  have hd:decide (0≤n)= !(Re.canL l k deep):=by
   cases h:Re.canL l k deep with
   | false=>simp [hn,h]
   | true=>simp;rw [h] at hn;simp at hn;exact hn
  have hrow:rowOf (Re.avs l)= .nils∨rowOf (Re.avs l)= .slc .ro (Re.avs l):=by
   cases l with
   | nil=>exact .inl rfl
   | cons x l=>exact .inr rfl
  rcases hrow with hrow | hrow
  all_goals
   rw [hrow] at hc ⊢
   simp [a91,zKk,zKj,zad hs,zaa hs,hc,hd]
 exact zh8.1 this
end
section
variable {S:Sp} {bar:Nat}
theorem zB6 {x:Re} {k deep:Int} {cs:List AV} {H:Heap} (hw:x.wide) (hd:0≤deep∧deep≤1000) (h0:hget H 0=some (some (.int .i64 k::cs))) (h1:hget H 1=some (some [.int .i64 deep]))
  (ih: ∀ bar H,Rn fsT S.sp bar 65 [x.av, .int .i64 k, .int .i64 (deep+1)] H=some (.ret (.bool (x.can k (deep+1))),H)):Rn fsT S.sp bar 90 [x.av, .ptr 0 0, .ptr 1 0] H=some (.ret (.bool !(x.can k (deep+1))),H):=by
 have hs:=S.mono
 refine zcX hs zH4 rfl (by simp [zdv,clo]) rfl ?_
 rw [env90]
 obtain ⟨c,hcs,hcl⟩:=Re.av_agg hw
 rw [hcs] at ih ⊢
 have hcl8:8≤c.length:=by omega
 have htk:List.take 8 c=c:=List.take_of_length_le (by omega)
 have hw1:IntKind.i64.wrap (deep+1)=deep+1:=zal _ (by omega)
 simp [a90,zKm,zKl,zad hs,zaa hs,h0,h1,hcl,hcl8,htk,hw1,ih]
theorem zB3 {k:Int} {set:List Nat} {mn mx:Int} {l:List Re} {within deep:Int} (hw:(Re.mk k set mn mx l).wide) (hd:0≤deep∧deep≤1000)
  (ih: ∀ x∈l,∀ w d,0≤d→d≤1000→ ∀ bar H,Rn fsT S.sp bar 65 [x.av, .int .i64 w, .int .i64 d] H=some (.ret (.bool (x.can w d)),H)) (H:Heap) :
  Rn fsT S.sp bar 65 [(Re.mk k set mn mx l).av, .int .i64 within, .int .i64 deep] H=some (.ret (.bool ((Re.mk k set mn mx l).can within deep)),H):=by
 have hs:=S.mono
 unfold Re.wide at hw
 obtain ⟨h4,hlen,hm,hwl⟩:=hw
 obtain ⟨a,b,c,d,rfl⟩:=four h4
 refine zao hs zIg rfl (by simp only [zdv,zfG,clo];rfl) rfl ?_
 rw [env65]
 have hcont: ∀ kk,deep≤100→Rn fsT S.sp 0 91 [rowOf (Re.avs l), .fn 90 [.ptr 0 0, .ptr 1 0]] [some [.int .i64 kk,u64 a,u64 b,u64 c,u64 d, .int .i64 mn, .int .i64 mx,rowOf (Re.avs l)],some [.int .i64 deep]]=some (.ret (.bool !(Re.canL l kk deep)),[some [.int .i64 kk,u64 a,u64 b,u64 c,u64 d, .int .i64 mn, .int .i64 mx,rowOf (Re.avs l)],some [.int .i64 deep]]):=fun kk hdd =>
  zro hwl hlen fun x hx=>zB6 (zaC.1 hwl x hx) hd rfl rfl (ih x hx kk (deep+1) (by omega) (by omega))
 simp [a65,zKI,zad hs,zaa hs,Re.av]
 refine zB5 ?_ ?_ rfl rfl ?_
 ·simp
 ·simp
 cases hb:za8 k [a,b,c,d] mn mx deep with
 | true =>
  have hu:(Re.mk k [a,b,c,d] mn mx l).can within deep=false:=by unfold Re.can;rw [if_pos hb]
  rw [hu]
  simp [zlo,zad hs,zaa hs,zac hs]
 | false =>
  have hd1:deep≤100:=by
   simp only [za8,Bool.or_eq_false_iff,decide_eq_false_iff_not] at hb
   omega
  have hrow:(l= []∧rowOf (Re.avs l)= .nils)∨(l ≠ []∧rowOf (Re.avs l)= .slc .ro (Re.avs l)):=by
   cases l with
   | nil=>exact .inl ⟨rfl,rfl⟩
   | cons x l=>exact .inr ⟨by simp,rfl⟩
  have hcont:=fun kk=>hcont kk hd1
  by_cases e0:k=0
  ·subst e0
   have hu:(Re.mk 0 [a,b,c,d] mn mx l).can within deep=(decide (l.length=0)&&decide (within≠4)):=by unfold Re.can;simp [hb]
   rw [hu]
   rcases hrow with ⟨rfl,hrow⟩ | ⟨hl,hrow⟩
   ·simp [zlo,zmP,zmO,zmN,zmM,zmL,zmK,zmJ,zhv,zhu,zht,zhs,zhr,zdw,zgB,zgA,zgz,zad hs,zaa hs,zab hs,zac hs,hrow]
    rfl
   ·have hl0:((l.length:Int)==0)=false:=by simp [hl]
    simp [zlo,zmP,zmO,zmN,zmM,zmL,zmK,zmJ,zhv,zhu,zht,zhs,zhr,zdw,zgB,zgA,zgz,zad hs,zaa hs,zab hs,zac hs,hrow,zaq,hl0,hl]
  by_cases e123:k=1∨k=2∨k=3
  ·have hu:(Re.mk k [a,b,c,d] mn mx l).can within deep=decide (l.length=0):=by unfold Re.can;simp [hb,e0,e123]
   rw [hu]
   rcases hrow with ⟨rfl,hrow⟩ | ⟨hl,hrow⟩
   ·rcases e123 with rfl | rfl | rfl
    all_goals simp [zlo,zmP,zmO,zmN,zmM,zmL,zmK,zmJ,zhv,zhu,zht,zhs,zhr,zdw,zgB,zgA,zgz,zad hs,zaa hs,zab hs,zac hs,hrow]
   ·have hl0:((l.length:Int)==0)=false:=by simp [hl]
    rcases e123 with rfl | rfl | rfl
    all_goals simp [zlo,zmP,zmO,zmN,zmM,zmL,zmK,zmJ,zhv,zhu,zht,zhs,zhr,zdw,zgB,zgA,zgz,zad hs,zaa hs,zab hs,zac hs,hrow,zaq,hl0,hl]
  by_cases e45:k=4∨k=5
  ·have hu:(Re.mk k [a,b,c,d] mn mx l).can within deep=if within=k∨l.length<2 then false else Re.canL l k deep:=by unfold Re.can;simp [hb,e0,e123,e45]
   rw [hu]
   by_cases ew:within=k
   ·subst ew
    rcases e45 with rfl | rfl
    all_goals simp [zlo,zmP,zmO,zmN,zmM,zmL,zmK,zmJ,zhv,zhu,zht,zhs,zhr,zdw,zgB,zgA,zgz,zad hs,zaa hs,zab hs,zac hs]
   have ew':(within==k)=false:=by simpa using ew
   rcases hrow with ⟨rfl,hrow⟩ | ⟨hl,hrow⟩
   ·rcases e45 with rfl | rfl
    all_goals simp [zlo,zmP,zmO,zmN,zmM,zmL,zmK,zmJ,zhv,zhu,zht,zhs,zhr,zdw,zgB,zgA,zgz,zad hs,zaa hs,zab hs,zac hs,hrow,ew']
   ·by_cases e2:l.length<2
    ·have e2':(l.length:Int)<2:=by omega
     rcases e45 with rfl | rfl
     all_goals simp [zlo,zmP,zmO,zmN,zmM,zmL,zmK,zmJ,zhv,zhu,zht,zhs,zhr,zdw,zgB,zgA,zgz,zad hs,zaa hs,zab hs,zac hs,hrow,ew',zaq,e2,e2']
    ·have e2': ¬ (l.length:Int)<2:=by omega
     rcases e45 with rfl | rfl
     all_goals
      rw [hrow] at hcont
      simp [zlo,zmP,zmO,zmN,zmM,zmL,zmK,zmJ,zhv,zhu,zht,zhs,zhr,zdw,zgB,zgA,zgz,zad hs,zaa hs,zab hs,zac hs,hrow,ew',zaq,e2,e2',ew,hcont]
  by_cases e6:k=6
  ·subst e6
   have hu:(Re.mk 6 [a,b,c,d] mn mx l).can within deep=if zcw l.length mn mx then false else Re.canL l 6 deep:=by unfold Re.can;simp [hb]
   rw [hu]
   simp [zlo,zmP,zmO,zmN,zmM,zmL,zmK,zmJ,zhv,zhu,zht,zhs,zhr,zad hs,zaa hs,zab hs,zac hs]
   refine zGk ?_ rfl ?_
   ·simp
   cases hrb:zcw l.length mn mx with
   | true=>simp [zgB,zgA,zgz,zad hs,zaa hs,zab hs,zac hs]
   | false =>
    rcases hrow with ⟨rfl,hrow⟩ | ⟨hl,hrow⟩
    all_goals
     rw [hrow] at hcont ⊢
     simp [zgB,zgA,zgz,zad hs,zaa hs,zab hs,zac hs,hcont]
  ·have hu:(Re.mk k [a,b,c,d] mn mx l).can within deep=false:=by unfold Re.can;simp [hb,e0,e123,e45,e6]
   rw [hu]
   have b0:(k==0)=false:=by simpa using e0
   have b1:(k==1)=false:=by simp;omega
   have b2:(k==2)=false:=by simp;omega
   have b3:(k==3)=false:=by simp;omega
   have b4:(k==4)=false:=by simp;omega
   have b5:(k==5)=false:=by simp;omega
   have b6:(k==6)=false:=by simpa using e6
   simp [zlo,zmP,zmO,zmN,zmM,zmL,zmK,zmJ,zhv,zhu,zht,zhs,zhr,zdw,zgB,zgA,zgz,zad hs,zaa hs,zab hs,zac hs,b0,b1,b2,b3,b4,b5,b6]
mutual
theorem ztB: ∀ (r:Re),r.wide→ ∀ (within deep:Int),0≤deep→deep≤1000→ ∀ (bar:Nat) (H:Heap),Rn fsT S.sp bar 65 [r.av, .int .i64 within, .int .i64 deep] H=some (.ret (.bool (r.can within deep)),H)
 | .mk k set mn mx l,hw,within,deep,h0,h1,bar,H=>zB3 hw ⟨h0,h1⟩ (fun x hx w d d0 d1 bar H=>zva l (by unfold Re.wide at hw;exact hw.2.2.2) x hx w d d0 d1 bar H) H
theorem zva: ∀ (l:List Re),Re.wideL l→ ∀ x∈l,∀ (within deep:Int),0≤deep→deep≤1000→ ∀ (bar:Nat) (H:Heap),Rn fsT S.sp bar 65 [x.av, .int .i64 within, .int .i64 deep] H=some (.ret (.bool (x.can within deep)),H)
 | [],_=>fun x hx=>by cases hx
 | y::l,hw=>fun x hx w d d0 d1 bar H=>by
  unfold Re.wideL at hw
  rcases List.mem_cons.1 hx with e | h
  ·rw [e];exact ztB y hw.1 w d d0 d1 bar H
  ·exact zva l hw.2 x h w d d0 d1 bar H
end
theorem zHr {r:Re} (hw:r.wide) (H:Heap):Rn fsT S.sp bar 81 [r.av] H=some (.ret (.bool (r.can (-1) 1)),H):=by
 have hs:=S.mono
 refine zao hs zIa rfl (by simp only [zdv,zfG,clo];rfl) rfl ?_
 rw [env81]
 have hc:=ztB (S:=S) r hw (-1) 1 (by omega) (by omega)
 obtain ⟨c,hcs,hcl⟩:=Re.av_agg hw
 rw [hcs] at hc ⊢
 have hcl8:8≤c.length:=by omega
 have htk:List.take 8 c=c:=List.take_of_length_le (by omega)
 simp [a81,zKy,zKx,zad hs,zaa hs,hcl,hcl8,htk,hc]
def Re.states (r:Re):Nat:=if r.can (-1) 1 then min r.cap 500+1 else 0
theorem zvK {r:Re} (hw:r.wide) (H:Heap):Rn fsT S.sp bar 57 [r.av] H=some (.ret (num r.states),H):=by
 have hs:=S.mono
 refine zao hs zIn rfl (by simp only [zdv,zfG,clo];rfl) rfl ?_
 rw [env57]
 have hC:=fun bar H=>zHr (S:=S) (bar:=bar) hw H
 have hcnt:=fun h=>zrn (S:=S) r (-1) 1 h hw (by omega)
 obtain ⟨c,hcs,hcl⟩:=Re.av_agg hw
 rw [hcs] at hC hcnt ⊢
 have hcl8:8≤c.length:=by omega
 have htk:List.take 8 c=c:=List.take_of_length_le (by omega)
 unfold Re.states
 cases h:r.can (-1) 1 with
 | false =>
  rw [h] at hC
  simp [a57,zCG,zCF,zCE,zCD,zad hs,zaa hs,zac hs,hcl,hcl8,htk,hC]
 | true =>
  rw [h] at hC
  have hcnt:=hcnt h
  by_cases h5:(500:Int)<(r.cap:Int)
  ·have:min r.cap 500=500:=by omega
   simp [a57,zCG,zCF,zCE,zCD,zad hs,zaa hs,zac hs,hcl,hcl8,htk,hC,hcnt,h5,this,zal]
  ·have:min r.cap 500=r.cap:=by omega
   have hw1:IntKind.i64.wrap ((r.cap:Int)+1)=(r.cap:Int)+1:=zal _ (by omega)
   simp [a57,zCG,zCF,zCE,zCD,zad hs,zaa hs,zac hs,hcl,hcl8,htk,hC,hcnt,h5,this,hw1]
end
section
variable {S:Sp} {bar:Nat}
theorem zyF {H:Heap} {p:Nat} {L:List NS} {first:Nat} (hb:bar≤p) (hl:L.length<1000000) (h:PH H p L first) :
  Wc (Rn fsT S.sp bar 58 [.ptr p 0, .agg [.int .i64 4, .int .u64 0, .int .u64 0, .int .u64 0, .int .u64 0, .int .i64 0, .int .i64 0]] H) (fun o H'=>o= .ret (num L.length)∧PH H' p (L ++ [⟨4,zbH,0,0⟩]) first∧Front p H H') :=
 zpO ⟨4,zbH,0,0⟩ hb rfl hl h
def zAO (r:Re) (H:Heap) (o:Out) (H':Heap):Prop :=
 (r.states=0∧o= .ret (.tup [.nilp, .int .i64 1])∧H'=H)∨(500<r.states∧o= .ret (.tup [.nilp, .int .i64 2])∧H'=H) ∨
 (0<r.states∧r.states≤500∧o= .ret (.tup [.ptr H.length 0, .int .i64 0])∧(∀ i,i<H.length→hget H' i=hget H i)∧ ∃ q,H.length<q∧PC H' H.length q (machine r).2 (machine r).1)
theorem zAN {H:Heap} {r:Re} (hw:r.wide) (hb:bar≤H.length):Wc (Rn fsT S.sp bar 34 [r.av] H) (zAO r H):=by
 have hs:=S.mono
 refine zaO hs zIv rfl rfl ?_
 rw [env34]
 have hS:=fun H=>zvK (S:=S) (bar:=bar) hw H
 obtain ⟨c,hcs,hcl⟩:=Re.av_agg hw
 have hcl8:8≤c.length:=by omega
 have htk:List.take 8 c=c:=List.take_of_length_le (by omega)
 by_cases h0:r.states=0
 ·rw [h0] at hS
  rw [hcs] at hS ⊢
  simp [zC3,zC2,zC1,zC0,zCZ,zCY,a34,zad hs,zaa hs,zab hs,zac hs,hcl,hcl8,htk,hS]
  exact .inl ⟨h0,rfl,rfl⟩
 by_cases h5:500<r.states
 ·rw [hcs] at hS ⊢
  have h0':((r.states:Int)==0)=false:=by simp;omega
  have h5':(500:Int)<(r.states:Int):=by omega
  simp [zC3,zC2,zC1,zC0,zCZ,zCY,a34,zad hs,zaa hs,zab hs,zac hs,hcl,hcl8,htk,hS,h0',h5']
  exact .inr (.inl ⟨h5,rfl,rfl⟩)
 ·have hcan:r.can (-1) 1=true:=by
   cases h:r.can (-1) 1 with
   | true=>rfl
   | false=>simp [Re.states,h] at h0
  have hst:r.states=min r.cap 500+1:=by simp [Re.states,hcan]
  have hcap:r.cap≤499:=by omega
  have hfine:=Re.can_fine r (-1) 1 hcan
  have hcnt:=Re.cap_cnt r (-1) 1 hcan (by omega)
  have hP0:PH (H ++ [some [.nils, .int .i64 0]]) H.length [] 0:=⟨.nils,zbp _ _,show zEM []∧_ from ⟨fun x hx=>(by cases hx), .inl ⟨rfl,rfl⟩⟩⟩
  obtain ⟨o,H1,hcall1,rfl,hP1,hF1⟩:=zyF (S:=S) (bar:=bar) hb (by simp) hP0
  simp only [List.length_nil,List.nil_append] at hcall1 hP1
  have hcall1:Rn fsT S.sp bar 58 [.ptr H.length 0, .agg [.int .i64 4, .int .u64 0, .int .u64 0, .int .u64 0, .int .u64 0, .int .i64 0, .int .i64 0]] (H ++ [some [.nils, .int .i64 0]])=some (.ret (.int .i64 0),H1):=hcall1
  obtain ⟨o,H2,hcall2,rfl,hP2,hF2⟩:=zry (S:=S) r hfine hw bar H.length H1 [⟨4,zbH,0,0⟩] 0 0 hb hP1 (by simp;omega)
  have hcall2:Rn fsT S.sp bar 59 [.ptr H.length 0,r.av, .int .i64 0] H1=some (.ret (num (machine r).1),H2):=hcall2
  obtain ⟨lv,d1,d2,d3⟩:=hP2
  have hml:=(zg2 hfine).2.2.2
  rcases d3 with ⟨d4,_⟩ | ⟨q,rfl,d4,d5⟩
  ·exfalso
   have:(machine r).2.length=0:=by unfold machine;rw [d4];rfl
   omega
  have hne:H.length≠q:=by omega
  rw [hcs] at hS hcall2 ⊢
  have h0':((r.states:Int)==0)=false:=by simp;omega
  have h5': ¬ (500:Int)<(r.states:Int):=by omega
  simp [a34,zC3,zC2,zC1,zC0,zCZ,zCY,zK5,zK6,zK4,zad hs,zaa hs,zai hs,zab hs,zac hs,hcl,hcl8,htk,hS,h0',h5',hcall1,hcall2,d1,hb]
  refine .inr (.inr ⟨by omega,by omega,rfl,fun i hi=> ?_,q,d4,⟨?_,?_,d2⟩⟩)
  ·rw [zaw _ (by omega),hF2.2 i hi,hF1.2 i hi,za5 _ hi]
  ·rw [zae _ (zas d1)];rfl
  ·rw [zaw _ hne];exact d5
end
section
variable {S:Sp} {bar:Nat}
theorem zq8 (n0:Nat) (H:Heap): ∀ (l:List Nat) (r:List AV),zbd n0 H (l.map u64++r)=(match zbd n0 H r with | some bs=>some (l.map u64++bs) | none=>none)
 | [],r=>by simp only [List.map_nil,List.nil_append];cases zbd n0 H r<;>rfl
 | a::l,r=>by
  simp only [List.map_cons,List.cons_append,zbd,frz,zq8 n0 H l r]
  cases zbd n0 H r<;>rfl
mutual
theorem zg6 (n0:Nat) (H:Heap): ∀ (r:Re),frz n0 H r.av=some r.av
 | .mk k set mn mx l=>by
  have h:=zyp n0 H l
  rw [Re.av]
  simp only [frz,zbd,zq8]
  cases l with
  | nil=>simp [Re.avs,rowOf,frz]
  | cons x l=>simp only [Re.avs,rowOf,frz] at h ⊢;rw [h]
theorem zyp (n0:Nat) (H:Heap): ∀ (l:List Re),zbd n0 H (Re.avs l)=some (Re.avs l)
 | []=>by simp [Re.avs,zbd]
 | x::l=>by simp [Re.avs,zbd,zg6 n0 H x,zyp n0 H l]
end
theorem zcZ {l:List Re} (h:Re.wideL l):zpn 8 (Re.avs l)=true:=by
 cases l with
 | nil=>rfl
 | cons x l =>
  unfold Re.wideL at h
  obtain ⟨cs,hcs,hcl⟩:=Re.av_agg h.1
  simp [Re.avs,zpn,hcs,AV.cells,hcl,step,zg1]
theorem zbO (a b:List Re):Re.avs a++Re.avs b=Re.avs (a++b):=by simp [Re.avs_map]
def zDk (a:AV) (l:List Re):Prop:=a= .slc .ro (Re.avs l)∨(l= []∧a= .nils)
theorem Re.av_eight {r:Re} (h:r.wide): ∃ c1 c2 c3 c4 c5 c6,r.av= .agg [.int .i64 r.k,c1,c2,c3,c4,c5,c6,rowOf (Re.avs r.l)]:=by
 obtain ⟨k,set,mn,mx,l⟩:=r
 unfold Re.wide at h
 obtain ⟨a,b,c,d,rfl⟩:=four h.1
 exact ⟨_,_,_,_,_,_,by rw [Re.av];rfl⟩
theorem zc4 (k:Int) (a b:List Re):joinL k (a++b)=joinL k a++joinL k b:=by simp [joinL]
theorem zyd {k:Int} {a:AV} {l:List Re} (ha:zDk a l) (hw:Re.wideL l) (hlen:(joinL k l).length+l.length<1000000) {H:Heap} :
  ∀ (rest:List Re) (i:Nat) (v:Nat→AV),i≤l.length→l.drop i=rest→v 0= .int .i64 k→v 1=a→v 6=num i→v 5= .slc .own (Re.avs (joinL k (l.take i))) →
   Wp (evI fsT S.sp bar (.loop a3l9) (mkE 2392674742044787 v,H)) (fun e t=>e= .exit 0∧ ∃ v',t=(mkE 2392674742044787 v',H)∧v' 0= .int .i64 k∧v' 4=v 4∧v' 5= .slc .own (Re.avs (joinL k l))):=by
 have hs:=S.mono
 intro rest
 induction rest with
 | nil =>
  intro i v hi hr v0 v1 v6 v5
  have hi':i=l.length:=by
   have:=congrArg List.length hr
   rw [List.length_drop] at this;simp at this;omega
  subst hi'
  rw [zaj hs a3l9.eq_1]
  rcases ha with rfl | ⟨rfl,rfl⟩
  ·simp [zad hs,zaa hs,zab hs,zac hs,zDO,v1,v6,zaq]
   exact ⟨_,rfl,by simpa using v0,by simp,by simpa using v5⟩
  ·simp [zad hs,zaa hs,zab hs,zac hs,zDO,v1,v6,zaq]
   exact ⟨_,rfl,by simpa using v0,by simp,by simpa using v5⟩
 | cons x rest ihr =>
  intro i v hi hr v0 v1 v6 v5
  have hi':i<l.length:=by
   have:=congrArg List.length hr
   rw [List.length_drop] at this;simp at this;omega
  have hdc:=List.drop_eq_getElem_cons hi'
  rw [hr] at hdc
  obtain ⟨hx,hr'⟩:=List.cons.inj hdc
  have hmem:x∈l:=hx▸List.getElem_mem hi'
  have hxw:=zaC.1 hw x hmem
  obtain ⟨c1,c2,c3,c4,c5,c6,hcs⟩:=Re.av_eight hxw
  have hg:(Re.avs l)[i]? = some (.agg [.int .i64 x.k,c1,c2,c3,c4,c5,c6,rowOf (Re.avs x.l)]):=by rw [zeo hi',←hx,hcs]
  have ha':a= .slc .ro (Re.avs l):=by
   rcases ha with h | ⟨rfl,_⟩
   ·exact h
   ·simp at hi'
  subst ha'
  have htake:l.take (i+1)=l.take i ++ [x]:=by rw [List.take_succ_eq_append_getElem hi',hx]
  have hju:joinL k (l.take (i+1))=joinL k (l.take i)++x.part k:=by rw [htake,zc4];simp [joinL]
  have hsplit:joinL k l=joinL k (l.take (i+1))++joinL k (l.drop (i+1)):=by rw [←zc4,List.take_append_drop]
  have hll:(joinL k (l.take i)).length+(x.part k).length≤(joinL k l).length:=by
   rw [hsplit,hju];simp only [List.length_append];omega
  have hwt:Re.wideL (joinL k (l.take i)):=zeC (zaC.2 fun y hy=>zaC.1 hw y (List.mem_of_mem_take hy))
  have hok:=zcZ hwt
  have hw1:IntKind.i64.wrap ((i:Int)+1)=(i:Int)+1:=zal _ (by omega)
  have hgo: ∀ v',v' 0= .int .i64 k→v' 1= .slc .ro (Re.avs l)→v' 6=num (i+1)→v' 4=v 4→v' 5= .slc .own (Re.avs (joinL k (l.take (i+1)))) →
    Wp (evI fsT S.sp bar (.loop a3l9) (mkE 2392674742044787 v',H)) (fun e t=>e= .exit 0∧ ∃ v',t=(mkE 2392674742044787 v',H)∧v' 0= .int .i64 k∧v' 4=v 4∧v' 5= .slc .own (Re.avs (joinL k l))):=fun v' w0 w1 w6 w4 w5=>by
   rw [←w4]
   exact ihr (i+1) v' (by omega) hr'.symm w0 w1 w6 w5
  rw [zaj hs a3l9.eq_1]
  by_cases hk:x.k=k
  ·have hp:x.part k=x.l:=by simp [Re.part,hk]
   have hok2:zpn 8 (Re.avs x.l)=true:=zcZ (by rw [←hp];exact zlR hxw)
   rw [hp] at hll hju
   rw [hju,←zbO] at hgo
   have hle:((joinL k (l.take i)).length+x.l.length)*8≤4294967296:=by omega
   have hrow:(x.l= []∧rowOf (Re.avs x.l)= .nils)∨rowOf (Re.avs x.l)= .slc .ro (Re.avs x.l):=by
    cases x.l with
    | nil=>exact .inl ⟨rfl,rfl⟩
    | cons y l=>exact .inr rfl
   rcases hrow with ⟨hxl,hrow⟩ | hrow
   ·rw [hxl] at hgo hle hok2
    simp only [Re.avs,List.append_nil] at hgo
    have hle0:(joinL k (l.take i)).length*8≤4294967296:=by simpa using hle
    simp [zad hs,zaa hs,zab hs,zac hs,zDO,zHA,zHz,zHy,zHx,zHw,v0,v1,v6,v5,zaq,hi',hg,hk,hrow,hw1,hok,hle0]
    refine (hgo _ ?_ ?_ ?_ ?_ ?_).mono fun e t h=>by simpa using h
    all_goals simp [v0,v1]
   ·simp [zad hs,zaa hs,zab hs,zac hs,zDO,zHA,zHz,zHy,zHx,zHw,v0,v1,v6,v5,zaq,hi',hg,hk,hrow,hw1,hok,hok2,hle]
    refine (hgo _ ?_ ?_ ?_ ?_ ?_).mono fun e t h=>by simpa using h
    all_goals simp [v0,v1]
  ·have hk':(x.k==k)=false:=by simpa using hk
   by_cases h0:x.k=0
   ·have h0':(x.k != 0)=false:=by simp [h0]
    by_cases h5:k=5
    ·have h5':(k==5)=true:=by simp [h5]
     have hp:x.part k= [x]:=by unfold Re.part;rw [if_neg hk,if_pos (.inr h5)]
     rw [hp] at hll hju
     rw [hju,←zbO] at hgo
     simp only [Re.avs,hcs] at hgo
     have hle:((joinL k (l.take i)).length+1)*8≤4294967296:=by simp only [List.length_cons,List.length_nil] at hll;omega
     simp [zad hs,zaa hs,zab hs,zac hs,zDO,zHA,zHz,zHy,zHx,zHw,v0,v1,v6,v5,zaq,hi',hg,hk',h0',h5',hw1,hok,hle]
     refine (hgo _ ?_ ?_ ?_ ?_ ?_).mono fun e t h=>by simpa using h
     all_goals simp [v0,v1]
    ·have h5':(k==5)=false:=by simpa using h5
     have hp:x.part k= []:=by unfold Re.part;rw [if_neg hk,if_neg (by omega)]
     rw [hp,List.append_nil] at hju
     rw [hju] at hgo
     simp [zad hs,zaa hs,zab hs,zac hs,zDO,zHA,zHz,zHy,zHx,zHw,v0,v1,v6,v5,zaq,hi',hg,hk',h0',h5',hw1]
     refine (hgo _ ?_ ?_ ?_ ?_ ?_).mono fun e t h=>by simpa using h
     all_goals simp [v0,v1,v5]
   ·have h0':(x.k != 0)=true:=by simpa using h0
    have hp:x.part k= [x]:=by simp [Re.part,hk,h0]
    rw [hp] at hll hju
    rw [hju,←zbO] at hgo
    simp only [Re.avs,hcs] at hgo
    have hle:((joinL k (l.take i)).length+1)*8≤4294967296:=by simp only [List.length_cons,List.length_nil] at hll;omega
    simp [zad hs,zaa hs,zab hs,zac hs,zDO,zHA,zHz,zHy,zHx,zHw,v0,v1,v6,v5,zaq,hi',hg,hk',h0',hw1,hok,hle]
    refine (hgo _ ?_ ?_ ?_ ?_ ?_).mono fun e t h=>by simpa using h
    all_goals simp [v0,v1]
end
section
variable {S:Sp} {bar:Nat}
theorem zDe {k:Int} {a:AV} {l:List Re} (ha:zDk a l) (hw:Re.wideL l) (hlen:(joinL k l).length+l.length<1000000) (H:Heap):Rn fsT S.sp bar 3 [.int .i64 k,a] H=some (.ret (zaQ k l).av,H):=by
 have hs:=S.mono
 have hca:zdv [.int .i64 k,a]=true:=by
  rcases ha with rfl | ⟨rfl,rfl⟩
  ·simp [zdv,clo,zlN]
  ·simp [zdv,clo]
 refine zao hs fsT_3 rfl hca rfl ?_
 rw [env3]
 have hw2:=zeC (k:=k) hw
 have hend: ∀ (v:Nat→AV),v 0= .int .i64 k→v 1=a→v 6=num 0→v 5= .slc .own []→v 4= .box [.int .i64 0, .int .u64 0, .int .u64 0, .int .u64 0, .int .u64 0, .int .i64 0, .int .i64 0, .nils] →
   Wp (evI fsT S.sp 0 (.loop a3l9) (mkE 2392674742044787 v,[])) (fun e t=>e= .exit 0∧ ∃ v',t=(mkE 2392674742044787 v',[])∧v' 0= .int .i64 k∧v' 4= .box [.int .i64 0, .int .u64 0, .int .u64 0, .int .u64 0, .int .u64 0, .int .i64 0, .int .i64 0, .nils]∧v' 5= .slc .own (Re.avs (joinL k l))):=by
  intro v v0 v1 v6 v5 v4
  rw [←v4]
  exact zyd ha hw hlen l 0 v (by omega) rfl v0 v1 v6 (by simpa [joinL,Re.avs] using v5)
 have hres: ∀ r:Re,frz 0 [] r.av=some r.av:=zg6 0 []
 unfold zaQ
 rcases ha with rfl | ⟨rfl,rfl⟩
 all_goals
  simp [a3r0,a3r1,a3r2,a3,zad hs,zaa hs,zab hs]
  refine (hend _ ?_ ?_ ?_ ?_ ?_).mono fun e t h=> ?_
  ·simp
  ·simp
  ·simp
  ·simp
  ·simp
  ·obtain ⟨rfl,v',rfl,w0,w4,w5⟩:=h
   generalize joinL k _=J at w5 hw2
   match J,w5,hw2 with
   | [],w5,hw2 =>
    have:=hres emptyRe
    simp only [emptyRe,Re.av,zbH,Re.avs,rowOf,List.map_cons,List.map_nil,List.cons_append,List.nil_append] at this
    simp [zCV,zCU,zCT,zCS,zCR,zad hs,zaa hs,zac hs,w0,w4,w5,Re.avs,oneOf,emptyRe,Re.av,zbH,rowOf]
    exact this
   | [x],w5,hw2 =>
    obtain ⟨c1,c2,c3,c4,c5,c6,hcs⟩:=Re.av_eight (by simpa [Re.wideL] using hw2:x.wide)
    have:=hres x
    rw [hcs] at this
    simp only [Re.avs,hcs] at w5
    simp [zCV,zCU,zCT,zCS,zCR,zad hs,zaa hs,zac hs,w0,w4,w5,oneOf,hcs]
    exact this
   | x::y::J,w5,hw2 =>
    have:=hres (oneOf k (x::y::J))
    simp only [oneOf,Re.av,zbH,rowOf,Re.avs,List.map_cons,List.map_nil,List.cons_append,List.nil_append] at this
    have hl1:(((Re.avs J).length:Int)+1+1==0)=false:=by simp;omega
    have hl2:(((Re.avs J).length:Int)+1+1==1)=false:=by simp;omega
    simp only [Re.avs] at w5
    simp [zCV,zCU,zCT,zCS,zCR,zad hs,zaa hs,zac hs,w0,w4,w5,oneOf,hl1,hl2,Re.av,zbH,rowOf,Re.avs]
    exact this
end
section
variable {S:Sp} {bar:Nat}
theorem zu3 (n:Nat) (h:n<256) (k:Int) (hk:k=n):IntKind.u8.wrap k=n:=by
 subst hk
 simp only [IntKind.wrap,IntKind.bits,IntKind.signed];simp;omega
theorem zEO (k:Nat) (h:k<64):IntKind.u64.wrap (2^k)=((2^k:Nat):Int):=by
 have h1:2^k<2^64:=Nat.pow_lt_pow_right (by omega) h
 have e:(2:Int)^k=((2^k:Nat):Int):=by push_cast;rfl
 rw [e]
 generalize 2^k=P at h1
 simp only [IntKind.wrap,IntKind.bits,IntKind.signed]
 simp
 omega
end
end Go.Ak
