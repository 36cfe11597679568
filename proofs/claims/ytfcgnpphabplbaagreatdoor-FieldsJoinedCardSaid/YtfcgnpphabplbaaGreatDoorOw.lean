/- A text parted by a pattern: Split. -/
import Derived.Test.YtfcgnpphabplbaaGreatDoorOm
import Derived.Test.YtfcgnpphabplbaaGreatDoorOu
import Derived.ProofKit
import Derived.Test.YtfcgnpphabplbaaGreatDoorOv
set_option linter.unusedVariables false
set_option linter.unusedSimpArgs false
namespace Go.Ak
attribute [local simp] zcx zd7 zd8 zfV zbm zc2 zaG za9 za0 zba zbs zbK zbL zbg zcJ zdJ zdK zcB zcC
 zaN zcN wanted zbb opd zkt live zcD zde zbA zcA ziq put zes esc zqx ztJ args drop1 zg1 zuW zuV ztH zou rd wr zbE sub AV.cells pack one setCells zeH znX zc3 roOf zaL zfw zav zau zey zbw newRow newObj step zcF zbM contents take flat look lim zex bound zec zeu eqS eqL eqA ver
 zcI zdI zdH zcG zcH
 List.getElem?_cons_zero List.getElem?_cons_succ zdl zbp zaE zaF zcE
attribute [local simp] sR sT cV bL mvV mvL mgV mgL asL asI asB ldN ldV ldL ldG stV stL fdL fdV fdG fgL nlC nlG bnI bvI bnL bvL bxI bxU bgI bgL exT lnS lgS clA clB clC clI pkT pkF pvT pvF pgT pgF ixL axV bxV apL
attribute [-simp] getElem?_pos
section
def zmf (l:List (Nat×Nat)):List AV:=(l.map zqV).map zBj
theorem zwb (l:List (Nat×Nat)):(zmf l).length=l.length:=by simp [zmf]
end
section
def zeb (s:List UInt8):Nat→List (Nat×Nat)→List (List UInt8)
 | at',[]=> [s.drop at']
 | at',(f,t)::l=>if f<t then (s.drop at').take (f-at')::zeb s t l else zeb s at' l
def zax (l:List (List UInt8)):List AV:=l.map fun x=> .str x
theorem zbI (l:List (List UInt8)):(zax l).length=l.length:=by simp [zax]
theorem zqG (l m:List (List UInt8)):zax (l++m)=zax l++zax m:=by simp [zax]
theorem zji (l:List (List UInt8)):zpn 0 (zax l)=true:=by
 cases l with
 | nil=>rfl
 | cons x l=>rfl
theorem zrp (l:List (List UInt8)):zdv (zax l)=true:=by
 unfold zax
 induction l with
 | nil=>rfl
 | cons x l ih=>simp [zdv,clo,ih]
theorem zBM (H:Heap) (p:Perm) (l:List (List UInt8)):frz 0 H (.slc p (zax l))=some (.slc p (zax l)):=by
 have:zbd 0 H (zax l)=some (zax l):=by
  unfold zax
  induction l with
  | nil=>rfl
  | cons x l ih=>simp [zbd,frz,ih]
 simp only [frz,this]
theorem zi2 {l:List (List UInt8)} {i:Nat} {x:List UInt8} (h:l[i]? = some x):(zax l)[i]? = some (.str x):=by
 unfold zax
 rw [List.getElem?_map,h];rfl
def zgV:List (List UInt8)→AV
 | []=> .nils
 | x::l=> .slc .own (zax (x::l))
theorem zsE (l:List (List UInt8)) (x:List UInt8):zgV (l ++ [x])= .slc .own (zax l ++ [.str x]):=by
 cases l with
 | nil=>rfl
 | cons y l=>simp [zgV,zax]
theorem zvL {bar:Nat} {H:Heap} {s:List UInt8} (hl:s.length≤1000) {A:List AV} {N:Nat} (hN:A.length=N) (hN2:N≤1001) (total:List (List UInt8)) :
  ∀ (rest:List (Nat×Nat)) (i at' b:Nat) (last:Int) (out:List (List UInt8)) (v:Nat→AV),i+rest.length=N→A.drop i=zmf rest→at'≤b→at'≤s.length→InOrder s.length b last rest →
   v 1= .str s→v 5=zgV out→v 6=num at'→v 15= .slc .ro A→v 16=num N→v 17=num i→out.length≤i→out++zeb s at' rest=total →
   Wp (evI fsT SA.sp bar (.loop a153l13) (mkE 34051443 v,H)) (fun e t=>e= .exit 0∧ ∃ v' out' a,t=(mkE 34051443 v',H)∧v' 1= .str s∧v' 5=zgV out'∧v' 6=num a∧a≤s.length∧out'.length≤1001∧out' ++ [s.drop a]=total):=by
 have hs:=SA.mono
 intro rest
 induction rest with
 | nil =>
  intro i at' b last out v hi hd hab hat hord v1 v5 v6 v15 v16 v17 hout htot
  simp only [List.length_nil,Nat.add_zero] at hi
  subst hi
  rw [zaj hs a153l13.eq_1]
  simp [zad hs,zaa hs,zab hs,zac hs,zoR,v16,v17]
  exact ⟨_,rfl,by simp [v1],out,by simp [v5],at',by simp [v6],hat,by omega,htot⟩
 | cons x rest ih =>
  obtain ⟨f,t⟩:=x
  intro i at' b last out v hi hd hab hat hord v1 v5 v6 v15 v16 v17 hout htot
  obtain ⟨o1,o2,o3,o4,o5⟩:=hord
  simp only [List.length_cons] at hi
  have hiN:i<N:=by omega
  have hiNI:(i:Int)<(N:Int):=by omega
  have hg:A[i]? = some (.agg [num f,num t]):=by
   have:(A.drop i)[0]? = some (.agg [num f,num t]):=by rw [hd];rfl
   simpa using this
  have hd2:A.drop (i+1)=zmf rest:=by
   have:(A.drop i).drop 1=zmf rest:=by rw [hd];rfl
   rw [List.drop_drop] at this
   exact this
  have hw1:IntKind.i64.wrap ((i:Int)+1)=(i:Int)+1:=zal _ (by omega)
  have hf:f≤s.length:=by omega
  have haf:at'≤f:=by omega
  rw [zaj hs a153l13.eq_1]
  by_cases hft:f<t
  ·rw [zeb,if_pos hft] at htot
   have next:=fun w=>ih (i+1) t t t (out ++ [(s.drop at').take (f-at')]) w (by omega) hd2 (Nat.le_refl _) o3 o5
   rw [zsE] at next
   have htot2:(out ++ [(s.drop at').take (f-at')])++zeb s t rest=total:=by rw [←htot];simp
   cases out with
   | nil =>
    simp only [zgV] at v5
    simp [zad hs,zaa hs,zab hs,zac hs,zoR,zvt,zvs,zqj,zqi,zqh,v1,v5,v6,v15,v16,v17,hN,hiN,hiNI,hg,hw1,hft,hf,haf,zbw]
    refine (next _ ?_ ?_ ?_ ?_ ?_ ?_ (by simp) htot2).mono fun e t h=>by simpa using h
    all_goals simp [v1,v15,v16,zax]
   | cons y out =>
    simp only [zgV] at v5
    have hok:=zji (y::out)
    have hlen:(zax (y::out)).length+1≤4294967296:=by rw [zbI];omega
    generalize zax (y::out)=Y at *
    simp [zad hs,zaa hs,zab hs,zac hs,zoR,zvt,zvs,zqj,zqi,zqh,v1,v5,v6,v15,v16,v17,hN,hiN,hiNI,hg,hw1,hft,hf,haf,zbw,hok,hlen]
    refine (next _ ?_ ?_ ?_ ?_ ?_ ?_ (by simp at hout ⊢;omega) htot2).mono fun e t h=>by simpa using h
    all_goals simp [v1,v15,v16]
  ·rw [zeb,if_neg hft] at htot
   simp [zad hs,zaa hs,zab hs,zac hs,zoR,zvt,zvs,zqj,zqi,zqh,v1,v5,v6,v15,v16,v17,hN,hiN,hiNI,hg,hw1,hft]
   refine (ih (i+1) at' t t out _ (by omega) hd2 (by omega) hat o5 ?_ ?_ ?_ ?_ ?_ ?_ (by omega) htot).mono fun e t h=>by simpa using h
   all_goals simp [v1,v5,v6,v15,v16]
theorem zxg {bar:Nat} {H:Heap} {p:Nat} {t:List UInt8} {r:Re} (hP:Pat H p t r) {s:List UInt8} (hl:s.length≤1000) :
  Rn fsT SA.sp bar 153 [.ptr p 0, .str s] H=some (.ret (if s= [] then .nils else .slc .own (zax (zeb s 0 (zln r s)))),H):=by
 have hs:=SA.mono
 have hall:=zHs (bar:=H.length) hP (s:=s) (by omega)
 have hord:=zrD hP.fine s
 have hlen:(zln r s).length≤1001:=by
  rcases zmg hord (by omega) with h | h
  ·omega
  ·rw [h];simp
 generalize zln r s=L at *
 refine zcX hs zFG rfl rfl rfl ?_
 rw [zIU]
 cases s with
 | nil=>simp [zvw,zvv,zvu,a153,zad hs,zaa hs,zac hs,zlP,zju]
 | cons c s' =>
  rw [if_neg (by simp)]
  have hbe:zju (c::s') []=false:=rfl
  generalize c::s'=s at *
  -- the end
  have fin2: ∀ (w:Nat→AV) (out:List (List UInt8)) (a:Nat),w 1= .str s→w 5=zgV out→w 6=num a→a≤s.length→out.length≤1001→out ++ [s.drop a]=zeb s 0 L →
    Wp (evI fsT SA.sp H.length (.seq (.region zqg) .ret) (mkE 34051443 w,H)) (fin [.tmp 4] (thaw H.length (· = .ret (.slc .own (zax (zeb s 0 L)))))):=fun w out a w1 w5 w6 ha ho htot=>by
   have htk:List.take (s.length-a) (s.drop a)=s.drop a:=List.take_of_length_le (by simp)
   have hfr: ∀ l,frz H.length H (.slc .own (zax l))=some (.slc .own (zax l)):=fun l=>by
    have:zbd H.length H (zax l)=some (zax l):=by
     unfold zax
     induction l with
     | nil=>rfl
     | cons x l ih=>simp [zbd,frz,ih]
    simp only [frz,this]
   rw [←htot]
   cases out with
   | nil =>
    simp only [zgV] at w5
    have:=hfr [s.drop a]
    simp [zax] at this
    simp [zqg,zad hs,zaa hs,w1,w5,w6,ha,htk,zbw,zax,this]
   | cons y out =>
    simp only [zgV] at w5
    have hok:=zji (y::out)
    have hle:(zax (y::out)).length+1≤4294967296:=by rw [zbI];omega
    have hf:=hfr ((y::out) ++ [s.drop a])
    rw [zqG] at hf ⊢
    have h1:zax [s.drop a]= [.str (s.drop a)]:=rfl
    rw [h1] at hf ⊢
    generalize zax (y::out)=Y at *
    simp [zqg,zad hs,zaa hs,w1,w5,w6,ha,htk,zbw,hok,hle,hf]
  have hfin:=fin2
  simp only [zad hs,zaa hs] at hfin
  cases hL:L with
  | nil =>
   rw [hL] at hall hfin
   replace hall:Rn fsT SA.sp H.length 11 [.ptr p 0, .str s] H=some (.ret .nils,H):=hall
   simp [zvw,zvv,zvu,zzD,zzC,zzB,zzA,a153,zad hs,zaa hs,zab hs,zac hs,zlP,hbe,hall]
   rw [zaj hs a153l13.eq_1]
   simp [zoR,zad hs,zaa hs,zab hs,zac hs]
   refine hfin _ [] 0 ?_ ?_ ?_ (Nat.zero_le _) (by simp) rfl
   all_goals simp [zgV]
  | cons x L' =>
   rw [hL] at hall hfin hord hlen
   have hrow:zuO ((x::L').map zqV)= .slc .ro (zmf (x::L')):=rfl
   rw [hrow] at hall
   have hA:=zwb (x::L')
   generalize x::L'=M at *
   have hloop:=fun v=>zvL (bar:=H.length) (H:=H) hl hA hlen (zeb s 0 M) M 0 0 0 (-1) [] v (by omega) rfl (Nat.le_refl _) (Nat.zero_le _) hord
   generalize zmf M=A at *
   simp [zvw,zvv,zvu,zzD,zzC,zzB,zzA,a153,zad hs,zaa hs,zab hs,zac hs,zlP,hbe,hall,hA]
   refine (hloop _ ?_ ?_ ?_ ?_ ?_ ?_ (by simp) rfl).mono fun e t h=> ?_
   all_goals try simp [zgV]
   obtain ⟨rfl,v',out,a,rfl,k1,k5,k6,ha,ho,htot⟩:=h
   have h:=hfin v' out a k1 k5 k6 ha ho htot
   simpa [zad hs,zaa hs] using h
end
section
theorem zjk (n:Nat) (H:Heap) (p:Perm) (l:List (List UInt8)):frz n H (.slc p (zax l))=some (.slc p (zax l)):=by
 have:zbd n H (zax l)=some (zax l):=by
  unfold zax
  induction l with
  | nil=>rfl
  | cons x l ih=>simp [zbd,frz,ih]
 simp only [frz,this]
end
end Go.Ak
