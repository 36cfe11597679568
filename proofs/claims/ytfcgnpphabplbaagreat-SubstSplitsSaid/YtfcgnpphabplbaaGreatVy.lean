/- That the law answers true. -/
import Derived.Test.YtfcgnpphabplbaaGreatUx
import Derived.Test.YtfcgnpphabplbaaGreatUw
set_option linter.unusedVariables false
set_option linter.unusedSimpArgs false

namespace Go.Ak
attribute [local simp] zbF zcX zcY zew zbg zcB zaC zaU zaK zaV zbb zbm zbn zaY zbT zcU zcV zbJ zbK
 zaO zcH wanted zbl opd opdL live zbM zcG zbi zbH zf7 put zdi esc escs arg1 args drop1 nbeq nble nblt binA binI rd wr zbB sub AV.cells pack one setCells zdV resV zcM roOf zaJ zeH zaw zav zda za1 newRow newObj step zbP zbo contents take flat look lim zdL bound zc7 zdj eqS eqL eqA ver
 zbS zcT zcS zbQ zbR
 List.getElem?_cons_zero List.getElem?_cons_succ zcR zbc zaA zaB zbO
attribute [local simp] mvV mvL mgV mgL asL asI asB ldN ldV ldL ldG stV stL fdL fdV fdG fgL nlC nlG bnI bvI bnL bvL bxI bxU bgI bgL exT lnS lgS clA clB clC clI pkT pkF pvT pvF pgT pgF ixL axV bxV apL
attribute [-simp] getElem?_pos

section

/-- A text parted at the parts that are not empty. -/
def zbZ (s:List UInt8):Nat→List (Nat×Nat)→List (List UInt8)
 | at',[]=> [s.drop at']
 | at',(f,t)::l=>if f<t then (s.drop at').take (f-at')::zbZ s t l else zbZ s at' l

/-- Texts as a row's elements. -/
def zbf (l:List (List UInt8)):List AV:=l.map fun x=> .str x

theorem zfB (l:List (List UInt8)):(zbf l).length=l.length:=by simp [zbf]
theorem strsA_app (l m:List (List UInt8)):zbf (l++m)=zbf l++zbf m:=by simp [zbf]
theorem hdOk_strs (l:List (List UInt8)):hdOk 0 (zbf l)=true:=by
 cases l with
 | nil=>rfl
 | cons x l=>rfl

theorem cloL_strs (l:List (List UInt8)):zbW (zbf l)=true:=by
 unfold zbf
 induction l with
 | nil=>rfl
 | cons x l ih=>simp [zbW,clo,ih]

theorem frz_strs (H:Heap) (p:Perm) (l:List (List UInt8)):frz 0 H (.slc p (zbf l))=some (.slc p (zbf l)):=by
 have:zbG 0 H (zbf l)=some (zbf l):=by
  unfold zbf
  induction l with
  | nil=>rfl
  | cons x l ih=>simp [zbG,frz,ih]
 simp only [frz,this]

theorem strsA_get {l:List (List UInt8)} {i:Nat} {x:List UInt8} (h:l[i]? = some x):(zbf l)[i]? = some (.str x):=by
 unfold zbf
 rw [List.getElem?_map,h];rfl

/-- Texts in a row that begins as none. -/
def strRow:List (List UInt8)→AV
 | []=> .nils
 | x::l=> .slc .own (zbf (x::l))

theorem strRow_snoc (l:List (List UInt8)) (x:List UInt8):strRow (l ++ [x])= .slc .own (zbf l ++ [.str x]):=by
 cases l with
 | nil=>rfl
 | cons y l=>simp [strRow,zbf]

theorem split_loop {bar:Nat} {H:Heap} {s:List UInt8} (hl:s.length≤1000) {A:List AV} {N:Nat} (hN:A.length=N) (hN2:N≤1001) (total:List (List UInt8)) :
  ∀ (rest:List (Nat×Nat)) (i at' b:Nat) (last:Int) (out:List (List UInt8)) (v:Nat→AV),i+rest.length=N→A.drop i=zaH rest→at'≤b→at'≤s.length→InOrder s.length b last rest →
   v 1= .str s→v 5=strRow out→v 6=num at'→v 15= .slc .ro A→v 16=num N→v 17=num i→out.length≤i→out++zbZ s at' rest=total →
   Wp (evI fsT SA.sp bar (.loop a153l13) (mkE 34051443 v,H)) (fun e t=>e= .exit 0∧ ∃ v' out' a,t=(mkE 34051443 v',H)∧v' 1= .str s∧v' 5=strRow out'∧v' 6=num a∧a≤s.length∧out'.length≤1001∧out' ++ [s.drop a]=total):=by
 have hs:=SA.mono
 intro rest
 induction rest with
 | nil =>
  intro i at' b last out v hi hd hab hat hord v1 v5 v6 v15 v16 v17 hout htot
  simp only [List.length_nil,Nat.add_zero] at hi
  subst hi
  rw [zah hs a153l13.eq_1]
  simp [zad hs,zaa hs,zab hs,zac hs,a153r7,v16,v17]
  exact ⟨_,rfl,by simp [v1],out,by simp [v5],at',by simp [v6],hat,by omega,htot⟩
 | cons x rest ih =>
  obtain ⟨f,t⟩:=x
  intro i at' b last out v hi hd hab hat hord v1 v5 v6 v15 v16 v17 hout htot
  obtain ⟨o1,o2,o3,o4,o5⟩:=hord
  simp only [List.length_cons] at hi
  have hiN:i<N:=by omega
  have hiNI:(i:Int)<(N:Int):=by omega
  have hg:A[i]? = some (.agg [num f,num t]):=by
   have:(A.drop i)[0]? = some (.agg [num f,num t]):=by rw [hd];rfl
   simpa using this
  have hd2:A.drop (i+1)=zaH rest:=by
   have:(A.drop i).drop 1=zaH rest:=by rw [hd];rfl
   rw [List.drop_drop] at this
   exact this
  have hw1:IntKind.i64.wrap ((i:Int)+1)=(i:Int)+1:=zaj _ (by omega)
  have hf:f≤s.length:=by omega
  have haf:at'≤f:=by omega
  rw [zah hs a153l13.eq_1]
  by_cases hft:f<t
  ·rw [zbZ,if_pos hft] at htot
   have next:=fun w=>ih (i+1) t t t (out ++ [(s.drop at').take (f-at')]) w (by omega) hd2 (Nat.le_refl _) o3 o5
   rw [strRow_snoc] at next
   have htot2:(out ++ [(s.drop at').take (f-at')])++zbZ s t rest=total:=by rw [←htot];simp
   cases out with
   | nil =>
    simp only [strRow] at v5
    simp [zad hs,zaa hs,zab hs,zac hs,a153r7,a153r8,a153r9,a153r10,a153r11,a153r12,v1,v5,v6,v15,v16,v17,hN,hiN,hiNI,hg,hw1,hft,hf,haf,za1]
    refine (next _ ?_ ?_ ?_ ?_ ?_ ?_ (by simp) htot2).mono fun e t h=>by simpa using h
    all_goals simp [v1,v15,v16,zbf]
   | cons y out =>
    simp only [strRow] at v5
    have hok:=hdOk_strs (y::out)
    have hlen:(zbf (y::out)).length+1≤4294967296:=by rw [zfB];omega
    generalize zbf (y::out)=Y at *
    simp [zad hs,zaa hs,zab hs,zac hs,a153r7,a153r8,a153r9,a153r10,a153r11,a153r12,v1,v5,v6,v15,v16,v17,hN,hiN,hiNI,hg,hw1,hft,hf,haf,za1,hok,hlen]
    refine (next _ ?_ ?_ ?_ ?_ ?_ ?_ (by simp at hout ⊢;omega) htot2).mono fun e t h=>by simpa using h
    all_goals simp [v1,v15,v16]
  ·rw [zbZ,if_neg hft] at htot
   simp [zad hs,zaa hs,zab hs,zac hs,a153r7,a153r8,a153r9,a153r10,a153r11,a153r12,v1,v5,v6,v15,v16,v17,hN,hiN,hiNI,hg,hw1,hft]
   refine (ih (i+1) at' t t out _ (by omega) hd2 (by omega) hat o5 ?_ ?_ ?_ ?_ ?_ ?_ (by omega) htot).mono fun e t h=>by simpa using h
   all_goals simp [v1,v5,v6,v15,v16]

theorem split_run {bar:Nat} {H:Heap} {p:Nat} {t:List UInt8} {r:Re} (hP:Pat H p t r) {s:List UInt8} (hl:s.length≤1000) :
  Rn fsT SA.sp bar 153 [.ptr p 0, .str s] H=some (.ret (if s= [] then .nils else .slc .own (zbf (zbZ s 0 (zcO r s)))),H):=by
 have hs:=SA.mono
 have hall:=All_run (bar:=H.length) hP (s:=s) (by omega)
 have hord:=zeU hP.fine s
 have hlen:(zcO r s).length≤1001:=by
  rcases zeP hord (by omega) with h | h
  ·omega
  ·rw [h];simp
 generalize zcO r s=L at *
 refine zcZ hs fsT_153 rfl rfl rfl ?_
 rw [env153]
 cases s with
 | nil=>simp [a153r0,a153r1,a153r2,a153,zad hs,zaa hs,zac hs,binS,beqS]
 | cons c s' =>
  rw [if_neg (by simp)]
  have hbe:beqS (c::s') []=false:=rfl
  generalize c::s'=s at *
  -- the end
  have fin2: ∀ (w:Nat→AV) (out:List (List UInt8)) (a:Nat),w 1= .str s→w 5=strRow out→w 6=num a→a≤s.length→out.length≤1001→out ++ [s.drop a]=zbZ s 0 L →
    Wp (evI fsT SA.sp H.length (.seq (.region a153r14) .ret) (mkE 34051443 w,H)) (fin [.tmp 4] (thaw H.length (· = .ret (.slc .own (zbf (zbZ s 0 L)))))):=fun w out a w1 w5 w6 ha ho htot=>by
   have htk:List.take (s.length-a) (s.drop a)=s.drop a:=List.take_of_length_le (by simp)
   have hfr: ∀ l,frz H.length H (.slc .own (zbf l))=some (.slc .own (zbf l)):=fun l=>by
    have:zbG H.length H (zbf l)=some (zbf l):=by
     unfold zbf
     induction l with
     | nil=>rfl
     | cons x l ih=>simp [zbG,frz,ih]
    simp only [frz,this]
   rw [←htot]
   cases out with
   | nil =>
    simp only [strRow] at w5
    have:=hfr [s.drop a]
    simp [zbf] at this
    simp [a153r14,zad hs,zaa hs,w1,w5,w6,ha,htk,za1,zbf,this]
   | cons y out =>
    simp only [strRow] at w5
    have hok:=hdOk_strs (y::out)
    have hle:(zbf (y::out)).length+1≤4294967296:=by rw [zfB];omega
    have hf:=hfr ((y::out) ++ [s.drop a])
    rw [strsA_app] at hf ⊢
    have h1:zbf [s.drop a]= [.str (s.drop a)]:=rfl
    rw [h1] at hf ⊢
    generalize zbf (y::out)=Y at *
    simp [a153r14,zad hs,zaa hs,w1,w5,w6,ha,htk,za1,hok,hle,hf]
  have hfin:=fin2
  simp only [zad hs,zaa hs] at hfin
  cases hL:L with
  | nil =>
   rw [hL] at hall hfin
   replace hall:Rn fsT SA.sp H.length 11 [.ptr p 0, .str s] H=some (.ret .nils,H):=hall
   simp [a153r0,a153r1,a153r2,a153r3,a153r4,a153r5,a153r6,a153,zad hs,zaa hs,zab hs,zac hs,binS,hbe,hall]
   rw [zah hs a153l13.eq_1]
   simp [a153r7,zad hs,zaa hs,zab hs,zac hs]
   refine hfin _ [] 0 ?_ ?_ ?_ (Nat.zero_le _) (by simp) rfl
   all_goals simp [strRow]
  | cons x L' =>
   rw [hL] at hall hfin hord hlen
   have hrow:zfb ((x::L').map zdX)= .slc .ro (zaH (x::L')):=rfl
   rw [hrow] at hall
   have hA:=zba (x::L')
   generalize x::L'=M at *
   have hloop:=fun v=>split_loop (bar:=H.length) (H:=H) hl hA hlen (zbZ s 0 M) M 0 0 0 (-1) [] v (by omega) rfl (Nat.le_refl _) (Nat.zero_le _) hord
   generalize zaH M=A at *
   simp [a153r0,a153r1,a153r2,a153r3,a153r4,a153r5,a153r6,a153,zad hs,zaa hs,zab hs,zac hs,binS,hbe,hall,hA]
   refine (hloop _ ?_ ?_ ?_ ?_ ?_ ?_ (by simp) rfl).mono fun e t h=> ?_
   all_goals try simp [strRow]
   obtain ⟨rfl,v',out,a,rfl,k1,k5,k6,ha,ho,htot⟩:=h
   have h:=hfin v' out a k1 k5 k6 ha ho htot
   simpa [zad hs,zaa hs] using h

theorem splitNil_run {bar:Nat} {H:Heap} {s:List UInt8}:Rn fsT SA.sp bar 153 [.nilp, .str s] H=some (.ret (if s= [] then .nils else .slc .own [.str s]),H):=by
 have hs:=SA.mono
 refine zao hs fsT_153 rfl rfl rfl ?_
 rw [env153]
 cases s with
 | nil=>simp [a153r0,a153r1,a153r2,a153,zad hs,zaa hs,zac hs,binS,beqS]
 | cons c s' =>
  rw [if_neg (by simp)]
  have hbe:beqS (c::s') []=false:=rfl
  generalize c::s'=s at *
  simp [a153r0,a153r1,a153r2,a153r3,a153r4,a153r5,a153r6,a153r7,a153r8,a153r9,a153r10,a153r11,a153r12,a153r14,a153,zad hs,zaa hs,zac hs,binS,hbe,za1,frz,zbG]

theorem rsplit_loop {bar:Nat} {H:Heap} {s:List UInt8} (hl:s.length≤1000) {A:List AV} {N:Nat} (hN:A.length=N) (hN2:N≤1001) (total:List (List UInt8)) :
  ∀ (rest:List (Nat×Nat)) (i at' b:Nat) (last:Int) (out:List (List UInt8)) (v:Nat→AV),i+rest.length=N→A.drop i=zaH rest→at'≤b→at'≤s.length→InOrder s.length b last rest →
   v 1= .str s→v 5= .slc .own (zbf out)→v 6=num at'→v 7= .slc .own A→v 8=num i→out.length≤i→out++zbZ s at' rest=total →
   Wp (evI fsT SA.sp bar (.loop a148l10) (mkE 4295494135 v,H)) (fun e t=>e= .exit 0∧ ∃ v' out' a,t=(mkE 4295494135 v',H)∧v' 1= .str s∧v' 5= .slc .own (zbf out')∧v' 6=num a∧a≤s.length∧out'.length≤1001∧out' ++ [s.drop a]=total):=by
 have hs:=SA.mono
 intro rest
 induction rest with
 | nil =>
  intro i at' b last out v hi hd hab hat hord v1 v5 v6 v7 v8 hout htot
  simp only [List.length_nil,Nat.add_zero] at hi
  subst hi
  rw [zah hs a148l10.eq_1]
  simp [zad hs,zaa hs,zab hs,zac hs,a148r6,v7,v8,hN]
  exact ⟨_,rfl,by simp [v1],out,by simp [v5],at',by simp [v6],hat,by omega,htot⟩
 | cons x rest ih =>
  obtain ⟨f,t⟩:=x
  intro i at' b last out v hi hd hab hat hord v1 v5 v6 v7 v8 hout htot
  obtain ⟨o1,o2,o3,o4,o5⟩:=hord
  simp only [List.length_cons] at hi
  have hiN:i<N:=by omega
  have hg:A[i]? = some (.agg [num f,num t]):=by
   have:(A.drop i)[0]? = some (.agg [num f,num t]):=by rw [hd];rfl
   simpa using this
  have hd2:A.drop (i+1)=zaH rest:=by
   have:(A.drop i).drop 1=zaH rest:=by rw [hd];rfl
   rw [List.drop_drop] at this
   exact this
  have hw1:IntKind.i64.wrap ((i:Int)+1)=(i:Int)+1:=zaj _ (by omega)
  have hf:f≤s.length:=by omega
  have haf:at'≤f:=by omega
  rw [zah hs a148l10.eq_1]
  by_cases hft:f<t
  ·rw [zbZ,if_pos hft] at htot
   have next:=fun w=>ih (i+1) t t t (out ++ [(s.drop at').take (f-at')]) w (by omega) hd2 (Nat.le_refl _) o3 o5
   have htot2:(out ++ [(s.drop at').take (f-at')])++zbZ s t rest=total:=by rw [←htot];simp
   have hok:=hdOk_strs out
   have hlen:(zbf out).length+1≤4294967296:=by rw [zfB];omega
   rw [strsA_app] at next
   have h1: ∀ x,zbf [x]= [.str x]:=fun _=>rfl
   rw [h1] at next
   generalize zbf out=Y at *
   simp [zad hs,zaa hs,zai hs,zab hs,zac hs,a148r6,a148p7,a148p8,a148r9,v1,v5,v6,v7,v8,hN,hiN,hg,hw1,hft,hf,haf,za1,hok,hlen]
   refine (next _ ?_ ?_ ?_ ?_ ?_ (by simp;omega) htot2).mono fun e t h=>by simpa using h
   all_goals simp [v1,v7]
  ·rw [zbZ,if_neg hft] at htot
   simp [zad hs,zaa hs,zai hs,zab hs,zac hs,a148r6,a148p7,a148p8,a148r9,v1,v5,v6,v7,v8,hN,hiN,hg,hw1,hft]
   refine (ih (i+1) at' t t out _ (by omega) hd2 (by omega) hat o5 ?_ ?_ ?_ ?_ ?_ (by omega) htot).mono fun e t h=>by simpa using h
   all_goals simp [v1,v5,v6,v7]

theorem rsplit_run {bar:Nat} {H:Heap} {s:List UInt8} (hl:s.length≤900) {r:Re} (hf:r.fine) (hc:r.can (-1) 1=true) (hw:r.wide) :
  Rn fsT SA.sp bar 148 [r.av, .str s] H=some (.ret (.slc .own (if s= [] then [] else zbf (zbZ s 0 (zcO r s)))),H):=by
 have hs:=SA.mono
 have hclo:zbW [r.av,AV.str s]=true:=by simp only [zbW,zeD];rfl
 obtain ⟨d,hcs,hcl⟩:=Re.av_agg hw
 have hcl8:8≤d.length:=by omega
 have htk:List.take 8 d=d:=List.take_of_length_le (by omega)
 have hrall:=rall_run (bar:=0) (H:= []) hl hf hc hw
 have hord:=zeU hf s
 have hlen:(zcO r s).length≤1001:=by
  rcases zeP hord (by omega) with h | h
  ·omega
  ·rw [h];simp
 rw [hcs] at hclo hrall ⊢
 generalize zcO r s=L at *
 refine zao hs fsT_148 rfl hclo rfl ?_
 rw [env148]
 cases s with
 | nil=>simp [a148r0,a148r1,a148r2,a148r3,a148,zad hs,zaa hs,zac hs,binS,beqS,hcl,frz,zbG]
 | cons c s' =>
  rw [if_neg (by simp)]
  have hbe:beqS (c::s') []=false:=rfl
  generalize c::s'=s at *
  have hA:=zba L
  have hloop:=fun v=>rsplit_loop (bar:=0) (H:= []) (by omega) hA hlen (zbZ s 0 L) L 0 0 0 (-1) [] v (by omega) rfl (Nat.le_refl _) (Nat.zero_le _) hord
  generalize zaH L=A at *
  simp [a148r0,a148r1,a148r2,a148r3,a148r4,a148r5,a148,zad hs,zaa hs,zab hs,zac hs,binS,hbe,hcl,hcl8,htk,hrall]
  refine (hloop _ ?_ ?_ ?_ ?_ ?_ (by simp) rfl).mono fun e t h=> ?_
  ·simp
  ·simp [zbf]
  ·simp
  ·simp
  ·simp
  obtain ⟨rfl,v',out,a,rfl,k1,k5,k6,ha,ho,htot⟩:=h
  have htk2:List.take (s.length-a) (s.drop a)=s.drop a:=List.take_of_length_le (by simp)
  have hok:=hdOk_strs out
  have hle:(zbf out).length+1≤4294967296:=by rw [zfB];omega
  have hfr:=frz_strs [] .own (out ++ [s.drop a])
  rw [←htot]
  rw [strsA_app] at hfr ⊢
  have h1:zbf [s.drop a]= [.str (s.drop a)]:=rfl
  rw [h1] at hfr ⊢
  generalize zbf out=Y at *
  simp [a148r11,zad hs,zaa hs,k1,k5,k6,ha,htk2,za1,hok,hle,hfr]

theorem samestr_loop {bar:Nat} {H:Heap} {l:List (List UInt8)} (hl:l.length≤1000000): ∀ (n i:Nat) (v:Nat→AV),i+n=l.length→v 0= .slc .ro (zbf l)→v 1= .slc .ro (zbf l)→v 5=num i →
  Wp (evI fsT SA.sp bar (.loop a147l8) (mkE 33571891 v,H)) (fun e t=>e= .exit 0∧ ∃ v',t=(mkE 33571891 v',H)):=by
 have hs:=SA.mono
 intro n
 induction n with
 | zero =>
  intro i v hi v0 v1 v5
  have hi':i=l.length:=by omega
  subst hi'
  rw [zah hs a147l8.eq_1]
  simp [zad hs,zaa hs,zab hs,zac hs,a147r4,v0,v5,zfB]
  exact ⟨_,rfl⟩
 | succ n ih =>
  intro i v hi v0 v1 v5
  have hi':i<l.length:=by omega
  have hg:=strsA_get (List.getElem?_eq_getElem hi')
  have hw1:IntKind.i64.wrap ((i:Int)+1)=(i:Int)+1:=zaj _ (by omega)
  have hne: ∀ x:List UInt8,binS .neq x x=some (.bool false):=fun x=>by simp [binS,zfP]
  rw [zah hs a147l8.eq_1]
  simp [zad hs,zaa hs,zai hs,zab hs,zac hs,a147r4,a147p5,a147r6,a147r7,v0,v1,v5,zfB,hi',hg,hne,hw1]
  refine ih (i+1) _ (by omega) ?_ ?_ ?_
  all_goals simp [v0,v1]

/-- Two rows of the same texts are the same. -/
theorem samestr_run {bar:Nat} {H:Heap} {l:List (List UInt8)} (hl:l.length≤1000000) {a b:AV} (ha:a= .slc .ro (zbf l)∨(l= []∧a= .nils)) (hb:b= .slc .ro (zbf l)∨(l= []∧b= .nils)):Rn fsT SA.sp bar 147 [a,b] H=some (.ret (.bool true),H):=by
 have hs:=SA.mono
 have h0:=cloL_strs l
 have hclo:zbW [a,b]=true:=by
  rcases ha with rfl | ⟨_,rfl⟩<;>rcases hb with rfl | ⟨_,rfl⟩<;>simp only [zbW,clo,h0]<;>rfl
 refine zao hs fsT_147 rfl hclo rfl ?_
 rw [env147]
 rcases ha with rfl | ⟨rfl,rfl⟩
 ·rcases hb with rfl | ⟨rfl,rfl⟩
  ·simp [a147r0,a147r1,a147r2,a147r3,a147,zad hs,zaa hs,zab hs,zac hs]
   refine (samestr_loop (bar:=0) (H:= []) hl l.length 0 _ (by omega) ?_ ?_ ?_).mono fun e t h=> ?_
   all_goals try simp
   obtain ⟨rfl,v',rfl⟩:=h
   simp [a147r9,zad hs,zaa hs]
  ·simp [a147r0,a147r1,a147r2,a147r3,a147,zad hs,zaa hs,zab hs,zac hs,zbf]
   rw [zah hs a147l8.eq_1]
   simp [a147r4,a147p5,a147r6,a147r7,a147r9,zad hs,zaa hs,zab hs,zac hs]
 ·rcases hb with rfl | ⟨_,rfl⟩
  all_goals
   simp [a147r0,a147r1,a147r2,a147r3,a147,zad hs,zaa hs,zab hs,zac hs,zbf]
   rw [zah hs a147l8.eq_1]
   simp [a147r4,a147p5,a147r6,a147r7,a147r9,zad hs,zaa hs,zab hs,zac hs]

end

section

theorem frzH_strs (n:Nat) (H:Heap) (p:Perm) (l:List (List UInt8)):frz n H (.slc p (zbf l))=some (.slc p (zbf l)):=by
 have:zbG n H (zbf l)=some (zbf l):=by
  unfold zbf
  induction l with
  | nil=>rfl
  | cons x l ih=>simp [zbG,frz,ih]
 simp only [frz,this]

theorem Split_run {bar:Nat} {H:Heap} {p:Nat} {t:List UInt8} {r:Re} (hP:Pat H p t r) {s:List UInt8} (hl:s.length≤1000) :
  Rn fsT SA.sp bar 146 [.ptr p 0, .str s] H=some (.ret (if s= [] then .nils else .slc .own (zbf (zbZ s 0 (zcO r s)))),H):=by
 have hs:=SA.mono
 have h:=split_run (bar:=H.length) hP hl
 have hfr:=frzH_strs H.length H .own (zbZ s 0 (zcO r s))
 have hok:=hdOk_strs (zbZ s 0 (zcO r s))
 refine zcZ hs fsT_146 rfl rfl rfl ?_
 rw [env146]
 by_cases e:s= []
 ·rw [if_pos e] at h ⊢
  simp [a146,a146r0,a146r1,zad hs,zaa hs,h]
 ·rw [if_neg e] at h ⊢
  generalize zbf (zbZ s 0 (zcO r s))=A at *
  simp [a146,a146r0,a146r1,zad hs,zaa hs,h,hfr]

theorem SplitNil_run {bar:Nat} {H:Heap} {s:List UInt8}:Rn fsT SA.sp bar 146 [.nilp, .str s] H=some (.ret (if s= [] then .nils else .slc .own [.str s]),H):=by
 have hs:=SA.mono
 have h:=splitNil_run (bar:=0) (H:= []) (s:=s)
 refine zao hs fsT_146 rfl rfl rfl ?_
 rw [env146]
 by_cases e:s= []
 ·rw [if_pos e] at h ⊢
  simp [a146,a146r0,a146r1,zad hs,zaa hs,h]
 ·rw [if_neg e] at h ⊢
  simp [a146,a146r0,a146r1,zad hs,zaa hs,h,frz,zbG]

theorem substSplits_all (p s:List UInt8):Wc (Rn fsT SA.sp 0 145 [.str p, .str s] []) (fun o _=>o= .ret (.bool true)):=by
 have hs:=SA.mono
 have hlives:=fun H=>lives08 0 H
 obtain ⟨lt,h25,hb⟩:=light8_run p s
 have hb:=fun H=>hb 0 H
 have hnew:=fun H=>ref_new (bar:=0) (H:=H) p
 have hz:emptyRe.av= .agg [.int .i64 0, .int .u64 0, .int .u64 0, .int .u64 0, .int .u64 0, .int .i64 0, .int .i64 0, .nils]:=rfl
 refine za0 hs fsT_145 rfl rfl ?_
 rw [env145]
 cases lt with
 | false=>simp [a145r0,a145r1,a145r2,a145,zad hs,zaa hs,zac hs,hb,hlives]
 | true =>
 have hl:=h25 rfl
 obtain ⟨o,K,q1,q2⟩:=New_run (bar:=0) (H:= []) p (Nat.zero_le _)
 cases hx:newF p with
 | er a w =>
  have hw:=newF_er hx
  have hw2:((w:Int) != 0)=true:=by simp [bne];omega
  rw [hx] at q2 hnew
  obtain ⟨rfl,rfl⟩:=q2
  simp only [zbx,hz] at hnew
  have hsp:=fun H=>SplitNil_run (bar:=0) (H:=H) (s:=s)
  have hsame:=fun H=>samestr_run (bar:=0) (H:=H) (l:= [s]) (by simp) (.inl rfl) (.inl rfl)
  replace hsame: ∀ H,Rn fsT SA.sp 0 147 [.slc .ro [.str s], .slc .ro [.str s]] H=some (.ret (.bool true),H):=hsame
  by_cases e:s= []
  ·subst e
   simp only [if_true] at hsp
   simp [a145r0,a145r1,a145r2,a145r3,a145r4,a145r5,a145r6,a145r7,a145,zad hs,zaa hs,zac hs,hb,q1,hnew,hsp,hlives,binS,beqS]
  ·simp only [if_neg e] at hsp
   have hbe:beqS s []=false:=by
    cases s with
    | nil=>exact absurd rfl e
    | cons c s=>rfl
   simp [a145r0,a145r1,a145r2,a145r3,a145r4,a145r5,a145r6,a145r7,a145,zad hs,zaa hs,zac hs,hb,q1,hnew,hsp,hlives,binS,hbe,hsame,za1]
 | ok r j =>
  have hc:=newF_can hx
  have hw:=newF_wide hx
  rw [hx] at q2 hnew
  obtain ⟨pid,rfl,hpl,hF,hP⟩:=q2
  simp only [zbx] at hnew
  obtain ⟨c1,c2,c3,c4,c5,c6,hcs⟩:=Re.av_eight hw
  have hrs:=fun H=>rsplit_run (bar:=0) (H:=H) (s:=s) (by omega) hP.fine hc hw
  rw [hcs] at hnew hrs
  have hsp:=Split_run (bar:=0) hP (s:=s) (by omega)
  have hll:(zbZ s 0 (zcO r s)).length≤1000000:=by
   have h1: ∀ (l:List (Nat×Nat)) (a:Nat),(zbZ s a l).length≤l.length+1:=fun l=>by
    induction l with
    | nil=>intro a;simp [zbZ]
    | cons x l ih =>
     obtain ⟨f,t⟩:=x
     intro a
     have h1:=ih t
     have h2:=ih a
     rw [zbZ];split<;>simp<;>omega
   have h2:=h1 (zcO r s) 0
   rcases zeP (zeU hP.fine s) (by omega) with h | h
   ·omega
   ·rw [h];simp [zbZ]
  have hsame:=fun H=>samestr_run (bar:=0) (H:=H) (l:=zbZ s 0 (zcO r s)) hll (.inl rfl) (.inl rfl)
  by_cases e:s= []
  ·simp only [if_pos e] at hrs hsp
   have hsame0:=fun H=>samestr_run (bar:=0) (H:=H) (l:= []) (by simp) (.inr ⟨rfl,rfl⟩) (.inl rfl)
   have e0:zbf []= []:=rfl
   simp only [e0] at hsame0
   simp [a145r0,a145r1,a145r2,a145r3,a145r4,a145r5,a145r6,a145r7,a145p8,a145,zad hs,zaa hs,zai hs,zac hs,hb,q1,hnew,hrs,hsp,hsame0,hlives]
  ·simp only [if_neg e] at hrs hsp
   generalize zbf (zbZ s 0 (zcO r s))=A at *
   simp [a145r0,a145r1,a145r2,a145r3,a145r4,a145r5,a145r6,a145r7,a145p8,a145,zad hs,zaa hs,zai hs,zac hs,hb,q1,hnew,hrs,hsp,hsame,hlives]

end

end Go.Ak

