/- The evaluator's soundness, parts 15 to 27. No program stands here. -/
import Derived.Test.YtfcgnpphabplbaaGreatDoorPa
import Derived.Laws.BytesString
import Derived.Orders
set_option linter.unusedVariables false
set_option linter.unusedSimpArgs false
namespace Go.Ak
section
variable {T:Tr} {ae:Nat} {vs:List Nat} {N:Nat} {g:Gh} {w:World} {σ:St} {tm:Array Value} {ds:List Deferred} {o:Oper} {r:OpR}
theorem zcv{P:Program}{α β:Type}(f:α->Sem β)(gg:α->β)(w:World):∀(l:List α),(∀x∈l,(f x).run P w=.ok (gg x) w)->(l.mapM f).run P w=.ok (l.map gg) w
 | [],_=>by simp
 |x::l,h=>by
  have ih:=zcv f gg w l fun y hy=>h y (by simp[hy]);simp[List.mapM_cons,h x (by simp),ih]
theorem zcw{P:Program}{α β:Type}(f:α->Sem β)(gg:α->β)(w:World)(l:Array α)(h:∀x∈l.toList,(f x).run P w=.ok (gg x) w):(l.mapM f).run P w=.ok (l.map gg) w:=by
 have:=zcv (P:=P) f gg w l.toList h;rw[Array.mapM_eq_mapM_toList];simp only[Sem.run_map,this,Result.andThen_ok];congr 1;apply Bt;simp
theorem zea(ai:Nat):∀(us:List Value)(j:Nat)(cs:Array Value),(us.zipIdx j).foldl (fun cs (c,j)=>cs.setIfInBounds (ai+j) c) cs=(kL cs.toList (ai+j) us).toArray
 | [],j,cs=>by simp[kL]
 |u::us,j,cs=>by
  simp only[List.zipIdx_cons,List.foldl_cons];rw[zea ai us (j+1)];simp only[kL,Array.toList_setIfInBounds];rw[tX]
theorem zoI(ai:Nat)(us:Array Value)(cs:Array Value):us.zipIdx.foldl (fun cs (c,j)=>cs.setIfInBounds (ai+j) c) cs=(kL cs.toList ai us.toList).toArray:=by
 rw[←Array.foldl_toList];have:=zea ai us.toList 0 cs;simpa using this
theorem zeh{place:Nat->Option (Nat×Nat)}{i ai n:Nat}(hp:place i=some (ai,n)){v:Value}(hn:v.cells.size=n){cells:Array Value}(cu:ai+n<=cells.size)(aY:List (Nat×Value)):
  Instr.fill place cells ((i,v)::aY)=Instr.fill place (kL cells.toList ai v.cells.toList).toArray aY:=by
 have h1:¬(v.cells.size≠n):=by simp[hn]
 have h2:¬(ai+v.cells.size>cells.size):=by omega
 simp only[Instr.fill,hp,zoI,hn,ne_eq,not_true_eq_false,decide_false,xJ,ik];rw[aF (by omega)]
def GM(T:Tr)(vs:List Nat)(N:Nat)(place:Nat->Option (Nat×Nat)):List (Nat×Operand)->List (Nat×Nat×Opd)->Bool
 | [],[]=>true
 |(i,x)::ps,(ai,n,y)::qs=>place i==some (ai,n)&&bE T vs N x y&&GM T vs N place ps qs
 |_,_=>false
theorem W9{place:Nat->Option (Nat×Nat)}:∀{ps:List (Nat×Operand)}{qs:List (Nat×Nat×Opd)}{g:Gh}{σ:St}(_:Rel T vs N g w σ tm)(_:GM T vs N place ps qs=true){cs out:List AV}{σ':St}{cells:List Value}
  (_:Vs T g w cs cells) (_:∀v∈cells,v.oneCell'=true) (_:mf cs σ qs=some (out, σ')),
  ∃g' us,Ext ae g w g' w∧Rel T vs N g' w σ' tm∧Vs T g' w out us∧(∀v∈us,v.oneCell'=true)∧Instr.fill place cells.toArray (ps.map fun p=>(p.1,(Act.mk tm ds).eval p.2))=some us.toArray∧us.length=cells.length∧σ'.H=σ.H
 | [],[],g, σ,h,_,cs,out, σ',cells,hv,h1,he=>by
  simp only[mf,aD,eU]at he;obtain⟨rfl,rfl⟩:=he;exact⟨g,cells,.refl _ _ _,h,hv,h1,rfl,rfl,rfl⟩
 | [],_::_,_,_,_,hc,_,_,_,_,_,_,_=>by simp[GM]at hc
 |_::_,[],_,_,_,hc,_,_,_,_,_,_,_=>by simp[GM]at hc
 |(i,x)::ps,(ai,n,y)::qs,g, σ,h,hc,cs,out, σ',cells,hv,h1,he=>by
  simp only[GM,aU,gM]at hc;obtain⟨⟨hp,hx⟩,hc⟩:=hc;simp only[mf]at he;split at he
  ·rename_i a σ1 hq;obtain⟨g1,e1,e2,e3,e4,e5,e6,_⟩:=ut (ds:=ds) (ae:=ae) h hx hq;cases hb:(Nat.beq a.cells.length n&&Nat.ble (ai+n) cs.length)with
   |false=>rw[hb]at he;simp at he
   |true=>
    rw[hb]at he;simp only[bA]at he;simp only[aU]at hb;have hn:=dH hb.1;have cu:=iy hb.2;obtain⟨k1,k2⟩:=V.cells e3 (V.defined e4) e5;have hl:=k1.length;have hv':=Vs.mono e1 hv;obtain⟨g2,us,j1,j2,j3,j4,j5,j6,j7⟩:=W9 e2 hc (Vs.setCells k1 ai hv') (fun v hv=>(QC _ _ _ _ hv).elim (h1 v) (k2 v)) he;refine⟨g2,us,e1.trans j1,j2,j3,j4,?_,?_,j7.trans e6⟩
    ·simp only[mE];have fu:((Act.mk tm ds).eval x).cells.size=n:=by rw[←hn,hl];simp
     rw[zeh hp fu (by rw[hv.length]at cu;simpa using cu)];exact j5
    ·rw[j6,xP]
  ·cases he
def Wi(P:Program)(fs:Array Field)(i:Nat):Option (Nat×Nat):=(fs[i]?).map fun f=>(f.offset,P.cellsOf f.type)
def Xy(T:Tr)(vs:List Nat)(N:Nat)(t:Nat)(ps:Array (Nat×Operand))(z:List AV)(qs:List (Nat×Nat×Opd)):Bool:=
 Az T.P t z&&match T.P.underlying t with
 |some (.struct fs)=>fs.toList.all (fun f=>(T.P.info? f.type).isSome)&&GM T vs N (Wi T.P fs) ps.toList qs
 |some (.array _ e)=>match T.P.info? e with
  |some i=>GM T vs N (fun k=>some (k*i.size,i.size)) ps.toList qs
  |none=>false
 |_=>false
theorem zmB(h:Rel T vs N g w σ tm){t:Nat}{ps:Array (Nat×Operand)}{z:List AV}{qs:List (Nat×Nat×Opd)}{call:CallF}(ho:o.op=.build t ps)(hc:Xy T vs N t ps z qs=true)(he:cB call ae (.build z qs) σ=some r):
  iW T ae vs N g w tm (execOp (Act.mk tm ds).eval o) r:=by
 unfold Xy at hc;simp only[aU]at hc;obtain⟨hz,hc⟩:=hc;obtain⟨inf,zv,hi,hzv,aH⟩:=Nc hz;obtain⟨h1,h2⟩:=GR (T:=T) (g:=g) (w:=w) aH;simp only[cB]at he;split at he
 ·rename_i cs σ' hq;simp only[aD]at he;have hlist:(ps.map fun(i,x)=>(i,(Act.mk tm ds).eval x)).toList=ps.toList.map fun p=>(p.1,(Act.mk tm ds).eval p.2):=by simp
  split at hc
  ·rename_i fs hu;simp only[aU]at hc;obtain⟨hinf,hp⟩:=hc;obtain⟨g',us,e1,e2,e3,e4,e5,_,_⟩:=W9 (ds:=ds) (ae:=ae) h hp h1 h2 hq;refine Ae (v:=.agg us.toArray) (fun w'=>?_) he.symm e1 e2 (.of_V (.agg cs us e3 e4));have hm:=zcw (P:=T.P) (fun f:Field=>do pure (f.offset,←sizeOf f.type)) (fun f=>(f.offset,T.P.cellsOf f.type)) w' fs (fun f hf=>by
    obtain⟨i,hi⟩:=Qb.1 ((Gf.1 hinf) f hf);simp[pE hi,Program.cellsOf,hi])
   have dK:(fun i=>(fs.map fun f=>(f.offset,T.P.cellsOf f.type))[i]?)=Wi T.P fs:=by
    funext i;simp[Wi]
   simp only[LX]at e5;simp only[execOp,ho,Instr.build,Sem.run_bind,Gr hi hzv,Result.andThen_ok,run_underlying hu,hm,dK,hlist,e5,Sem.run_pure]
  ·rename_i n e hu;split at hc
   ·rename_i ei hei;obtain⟨g',us,e1,e2,e3,e4,e5,_,_⟩:=W9 (ds:=ds) (ae:=ae) h hc h1 h2 hq;refine Ae (v:=.agg us.toArray) (fun w'=>?_) he.symm e1 e2 (.of_V (.agg cs us e3 e4));simp only[LX]at e5;simp only[execOp,ho,Instr.build,Sem.run_bind,Gr hi hzv,Result.andThen_ok,run_underlying hu,pE hei,hlist,e5,Sem.run_pure]
   ·cases hc
  ·cases hc
 ·cases he
end
end Go.Ak
namespace Go.Ak
theorem setCells_eq:∀(bs xs:List AV)(ai:Nat),ai+bs.length<=xs.length->setCells xs ai bs=xs.take ai++bs++xs.drop (ai+bs.length)
 | [],xs,ai,_=>by simp[setCells]
 |b::bs,xs,ai,h=>by
  simp only[fF]at h;simp only[setCells];rw[setCells_eq bs (xs.set ai b) (ai+1) (by simp;omega)];have h1:(xs.set ai b).take (ai+1)=xs.take ai ++[b]:=by
   rw[LH,List.take_set_of_le (aX _),zO (by omega)];rfl
  rw[h1,List.drop_set_of_lt (by omega)];simp[Bo 1,tX]
theorem zoK{st:Nat}{es:List AV}{i:Nat}{e':AV}(hu:∀e∈es,e.cells.length=st)(hi:i<es.length)(hl:e'.cells.length=st):cz (es.set i e')=setCells (cz es) (i*st) e'.cells:=by
 have hfl:=pF hu;have hmul:i*st+st<=es.length*st:=by rw[←rf];exact zM _ hi
 rw[WZ hu (gG hi) hl,setCells_eq _ _ _ (by omega),hl]
theorem zee(z:AV)(n:Nat):cz (List.replicate n z)=(List.replicate n z.cells).flatten:=by
 simp[cz,List.flatMap_replicate]
theorem QZ(z:List Value)(hz:0<z.length):∀(n:Nat),(madeCells z.toArray (n*z.length)).toList=(List.replicate n z).flatten
 |0=>by simp[madeCells]
 |n+1=>by
  have ih:=QZ z hz n;simp only[Vz,List.flatten_append,List.flatten_cons,List.flatten_nil,ry,←ih];apply Br;intro k;simp only[madeCells,Array.toList_map,Array.toList_range,xH,List.getElem?_append,pX,List.length_range,Jf];have hn:(n+1)*z.length=n*z.length+z.length:=rf _ _;by_cases h1:k<n*z.length
  ·have h2:k<(n+1)*z.length:=by omega
   simp[h1,h2]
  ·by_cases h2:k<(n+1)*z.length
   ·have h3:k%z.length=k-n*z.length:=by
     obtain⟨j,rfl⟩:∃j,k=n*z.length+j:=⟨k-n*z.length,by omega⟩
     rw[Ga,Nat.mul_add_mod,EG (by omega)];rw[Ga z.length n];omega
    have h4:k-n*z.length<z.length:=by omega
    simp[h1,h2,h3,h4]
   ·have h4:¬k-n*z.length<z.length:=by omega
    simp[h1,h2,pq (Nat.le_of_not_lt h4)]
theorem Vs.flatten_rep{T:Tr}{g:Gh}{w:World}{cs:List AV}{us:List Value}(h:Vs T g w cs us):∀n,Vs T g w (List.replicate n cs).flatten (List.replicate n us).flatten
 |0=>by simpa using .nil
 |n+1=>by
  simp only[tY,List.flatten_cons];exact h.append (Vs.flatten_rep h n)
section
variable {T:Tr} {ae:Nat} {vs:List Nat} {N:Nat} {g:Gh} {w:World} {σ:St} {tm:Array Value} {ds:List Deferred} {o:Oper} {r:OpR}
def GL(T:Tr)(vs:List Nat)(N:Nat):List (Nat×Operand)->List (Nat×Opd)->Bool
 | [],[]=>true
 |(i,x)::ps,(j,y)::qs=>i==j&&bE T vs N x y&&GL T vs N ps qs
 |_,_=>false
theorem zei{st:Nat}:∀{ps:List (Nat×Operand)}{qs:List (Nat×Opd)}{g:Gh}{σ:St}(_:Rel T vs N g w σ tm)(_:GL T vs N ps qs=true){es out:List AV}{σ':St}{cells:List Value}
  (_:Vs T g w (cz es) cells) (_:∀e∈es,e.cells.length=st) (_:∀v∈cells,v.oneCell'=true) (_:eY st es σ qs=some (out, σ')),
  ∃g' us,Ext ae g w g' w∧Rel T vs N g' w σ' tm∧Vs T g' w (cz out) us∧(∀e∈out,e.cells.length=st)∧(∀v∈us,v.oneCell'=true)∧Instr.fill (fun i=>some (i*st,st)) cells.toArray (ps.map fun p=>(p.1,(Act.mk tm ds).eval p.2))=some us.toArray∧us.length=cells.length∧out.length=es.length∧σ'.H=σ.H
 | [],[],g, σ,h,_,es,out, σ',cells,hv,hu,h1,he=>by
  simp only[eY,aD,eU]at he;obtain⟨rfl,rfl⟩:=he;exact⟨g,cells,.refl _ _ _,h,hv,hu,h1,rfl,rfl,rfl,rfl⟩
 | [],_::_,_,_,_,hc,_,_,_,_,_,_,_,_=>by simp[GL]at hc
 |_::_,[],_,_,_,hc,_,_,_,_,_,_,_,_=>by simp[GL]at hc
 |(i,x)::ps,(j,y)::qs,g, σ,h,hc,es,out, σ',cells,hv,hu,h1,he=>by
  simp only[GL,aU,gM]at hc;obtain⟨⟨rfl,hx⟩,hc⟩:=hc;simp only[eY]at he;split at he
  ·rename_i a σ1 hq;obtain⟨g1,e1,e2,e3,e4,e5,e6,_⟩:=ut (ds:=ds) (ae:=ae) h hx hq;cases hb:(Nat.blt i es.length&&Nat.beq a.cells.length st)with
   |false=>rw[hb]at he;simp at he
   |true=>
    rw[hb]at he;simp only[bA]at he;simp only[aU]at hb;have hn:=dH hb.2;have aB:=Ai hb.1;obtain⟨k1,k2⟩:=V.cells e3 (V.defined e4) e5;have hl:=k1.length;have hfl:=pF hu;have hmul:i*st+st<=es.length*st:=by rw[←rf];exact zM _ aB
    have hv':=Vs.mono e1 hv;have hvl:=hv.length;have huni:∀e∈es.set i a,e.cells.length=st:=fun e he=>by
     rcases Gc he with he|rfl
     ·exact hu e he
     ·exact hn
    obtain⟨g2,us,j1,j2,j3,j4,j5,j6,j7,j8,j9⟩:=zei e2 hc (es:=es.set i a) (by rw[zoK hu aB hn];exact Vs.setCells k1 (i*st) hv') huni (fun v hv=>(QC _ _ _ _ hv).elim (h1 v) (k2 v)) he;refine⟨g2,us,e1.trans j1,j2,j3,j4,j5,?_,?_,?_,j9.trans e6⟩
    ·simp only[mE];have fu:((Act.mk tm ds).eval x).cells.size=st:=by rw[←hn,hl];simp
     rw[zeh (place:=fun i=>some (i*st,st)) rfl fu (by simp;omega)];exact j6
    ·rw[j7,xP]
    ·rw[j8];simp
  ·cases he
def JZ(P:Program)(t:Nat)(z:AV):Bool:=
 match P.underlying t with
 |some (.slice e)=>Az P e z.cells&&(match P.info? e with|some i=>i.size==z.cells.length&&i.size != 0&&decide (i.bytes<=24*i.size)|none=>false)
 |_=>false
theorem ze4{P:Program}{t:Nat}{z:AV}(h:JZ P t z=true):∃e i v,P.underlying t=some (.slice e)∧P.info? e=some i∧i.zero=some v∧Fv z.cells v.cells.toList=true∧i.size=z.cells.length∧i.size≠0∧i.bytes<=24*i.size:=by
 unfold JZ at h;split at h
 ·rename_i e hu;simp only[aU]at h;obtain⟨h1,h2⟩:=h;obtain⟨i,v,k1,k2,k3⟩:=Nc h1;rw[k1]at h2;simp only[aU,gM,bne_iff_ne,ne_eq,ik]at h2;exact⟨e,i,v,hu,k1,k2,k3,h2.1.1,h2.1.2,h2.2⟩
 ·cases h
theorem QI{h0:Bool}{w1:World}{aI:Array Value}{ty:TypeId}{fz:Nat×Nat}{es:List AV}{st cap:Nat}{us:List Value}(h:Rel T vs N g w σ tm)(hm:More w w1 (.cells aI ty fz))(hfz:∀k,k<aI.size->¬(fz.1<=k∧k<fz.2))
  (fJ:∀v∈aI.toList,v.oneCell'=true) (hv:Vs T g w (cz es) us) (hpre:us=aI.toList.take us.length) (hu:∀e∈es,e.cells.length=st) (dx:0<st) (mZ:cap*st<=aI.size) (hl:es.length<=cap)
  {res:Result Next} (dA:res=.ok (.value (.slice (some ⟨w.heap.size,0,none⟩) es.length cap)) w1) (hr:r=bif h0 then Ak.newRow σ st es else .ok (.slc .own es) σ) (h00:h0=false->es=[]->cap=0) :
  OpOKr T res (OpPost T ae vs N g w tm r) (jY T ae vs N g w tm r):=by
 have hvl:=hv.length;have hfl:=pF hu;have hmul:es.length*st<=cap*st:=zM _ hl;cases h0 with
 |true=>
  simp only[bA,Ak.newRow]at hr;obtain⟨e1,e2,e3⟩:=h.newObj (ae:=ae) (cs:=cz es) hm hfz fJ (by rw[hvl,←hpre];exact hv) (by omega);have hsh:w1.shape? w.heap.size=some (ty,aI.size):=by simp[World.shape?,hm.new]
  exact qL dA hr e1 e2 (.of_V (.msl st _ 0 es.length _ cap ty aI.size e3 hsh (by omega) hl dx))
 |false=>
  simp only[fq]at hr;obtain⟨e1,e2,e3,e4⟩:=h.more (ae:=ae) hm;refine qL dA hr e1 e2 (AVR.of_SV ?_);refine⟨w.heap.size,0,cap,aI,st,rfl,Xb hm hfz fJ e3 e4,by omega,hl,⟨dx,h00 rfl⟩,hu,us,Vs.mono e1 hv,fun k v hk=>?_⟩;rw[hpre,mP]at hk;split at hk
  ·rw[jZ,←mR];exact hk
  ·cases hk
theorem run_buildSlice{P:Program}{w:World}{t e n:Nat}{i:TypeInfo}{v:Value}{parts:Array (Nat×Value)}{us:List Value}(hu:P.underlying t=some (.slice e))(hi:P.info? e=some i)(hz:i.zero=some v)(cu:n*i.size<=16777216)
  (hf:Instr.fill (fun k=>some (k*i.size,i.size)) (madeCells v.cells (n*i.size)) parts.toList=some us.toArray) :
  (Instr.buildSlice t n parts).run P w=.ok (.slice (some ⟨w.heap.size,0,none⟩) n n) (w.alloc (.cells us.toArray e)):=by
 have gJ:¬(n*i.size>2^24):=by omega
 unfold Instr.buildSlice;by_cases h0:n*i.size=0
 ·rw[h0]at hf;have h4:∀f:Nat->Value,Array.map f (Array.range 0)=madeCells v.cells 0:=fun f=>by simp[madeCells,Array.range_zero']
  simp only[Sem.run_bind,run_underlying hu,Result.andThen_ok,pE hi,h0,fD];simp only[h4];simp[Go.newRow,hf]
 ·have h4:(Array.map (fun x=>v.cells[x%v.cells.size]!) (Array.range (n*i.size)))=madeCells v.cells (n*i.size):=rfl;simp only[Sem.run_bind,run_underlying hu,Result.andThen_ok,pE hi,h0,ig,gJ,Gr hi hz,Sem.run_pure,h4,hf];simp[Go.newRow]
theorem zmC(h:Rel T vs N g w σ tm){t n:Nat}{hb:Bool}{ps:Array (Nat×Operand)}{z:AV}{qs:List (Nat×Opd)}{call:CallF}(ho:o.op=.buildSlice t n ps)(hc:JZ T.P t z=true)(hp:GL T vs N ps.toList qs=true)(hn:n*z.cells.length<=16777216)
  (he:cB call ae (.bslice hb z n qs) σ=some r):OpOKr T ((execOp (Act.mk tm ds).eval o).run T.P w) (OpPost T ae vs N g w tm r) (jY T ae vs N g w tm r):=by
 obtain⟨e,i,v,hu,hi,hz,aH,fu,hs0,_⟩:=ze4 hc;obtain⟨h1,h2⟩:=GR (T:=T) (g:=g) (w:=w) aH;have hzl:=h1.length;have lH:0<v.cells.toList.length:=by omega
 simp only[cB]at he;split at he
 ·rename_i es σ' hq;have hVs:Vs T g w (cz (List.replicate n z)) (madeCells v.cells (n*i.size)).toList:=by
   have:=QZ v.cells.toList lH n;rw[LX]at this;rw[zee,fu,hzl,this];exact Vs.flatten_rep h1 n
  have fJ:∀u∈(madeCells v.cells (n*i.size)).toList,u.oneCell'=true:=fun u hu=>by
   have:=QZ v.cells.toList lH n;rw[LX]at this;rw[fu,hzl,this]at hu;obtain⟨l,hl,hul⟩:=List.mem_flatten.1 hu;rw[LP hl]at hul;exact h2 u hul
  have huni:∀e∈List.replicate n z,e.cells.length=z.cells.length:=fun e he=>by rw[LP he]
  obtain⟨g',us,e1,e2,e3,e4,e5,e6,e7,e8,e9⟩:=zei (ds:=ds) (ae:=ae) h hp hVs huni fJ hq;have bq:es.length=n:=by rw[e8];simp
  have husl:us.length=n*i.size:=by rw[e7];simp[madeCells]
  have hlist:(ps.map fun(i,x)=>(i,(Act.mk tm ds).eval x)).toList=ps.toList.map fun p=>(p.1,(Act.mk tm ds).eval p.2):=by simp
  have hm:More w (w.alloc (.cells us.toArray e)) (.cells us.toArray e (0,0)):=⟨rfl,rfl,rfl⟩
  have dA:(execOp (Act.mk tm ds).eval o).run T.P w=.ok (.value (.slice (some ⟨w.heap.size,0,none⟩) es.length es.length)) (w.alloc (.cells us.toArray e)):=by
   rw[bq];simp only[LX]at e6;rw[←fu,←hlist]at e6;have:=run_buildSlice (w:=w) (n:=n) hu hi hz (by rw[fu];exact hn) e6;simp only[execOp,ho,Sem.run_bind,this,Result.andThen_ok,Sem.run_pure]
  have hx:r=bif hb then Ak.newRow σ' z.cells.length es else .ok (.slc .own es) σ':=by
   cases hb<;>simp only[bA,fq,aD]at he ⊢ <;> exact he.symm
  have:=QI (ae:=ae) (h0:=hb) e2 hm (fun k _=>by simp) (by simpa using e5) e3 (by simp) e4 (by omega) (by simp;rw[bq,husl,fu];exact aX _) (aX es.length) dA hx (fun _ e=>by rw[e];rfl);revert this
  generalize(execOp (Act.mk tm ds).eval o).run T.P w=res at dA;intro this;rw[dA]at this ⊢;obtain⟨a,s2,g2,k1,k2,k3,k4⟩:=this;exact⟨a,s2,g2,k1,e1.trans k2,k3,k4⟩
 ·cases he
theorem zmo(h:Rel T vs N g w σ tm){t:Nat}{hb:Bool}{xl xc:Operand}{yl yc:Opd}{z:AV}{call:CallF}(ho:o.op=.makeSlice t xl xc)(hc:JZ T.P t z=true)(h1:bE T vs N xl yl=true)(h2:bE T vs N xc yc=true)
  (he:cB call ae (.mslice hb z yl yc) σ=some r):OpOKr T ((execOp (Act.mk tm ds).eval o).run T.P w) (OpPost T ae vs N g w tm r) (jY T ae vs N g w tm r):=by
 obtain⟨e,i,v,hu,hi,hz,aH,fu,hs0,hby⟩:=ze4 hc;obtain⟨k1,k2⟩:=GR (T:=T) (g:=g) (w:=w) aH;have hzl:=k1.length;have lH:0<v.cells.toList.length:=by omega
 simp only[cB]at he;split at he
 ·rename_i n c hn hcn;obtain⟨kl,e1⟩:=Gu (ds:=ds) h h1 hn;obtain⟨kc,e2⟩:=Gu (ds:=ds) h h2 hcn;cases dW:(Nat.ble n c&&Nat.ble (c*z.cells.length) lim)with
  |false=>rw[dW]at he;simp at he
  |true=>
   rw[dW]at he;simp only[bA]at he;simp only[aU]at dW;have hnc:=iy dW.1;have ja:=iy dW.2;simp only[lim]at ja;rw[←fu]at ja;have hcle:c<=c*i.size:=Nat.le_mul_of_pos_right _ (by omega);have hbytes:i.bytes*c<=24*i.size*c:=zM _ hby;have jG:24*i.size*c=24*(c*i.size):=by rw[LD,Ga i.size c]
   have hbytes':((i.bytes:Int)*(c:Int))<=281474976710656:=by
    have:((i.bytes*c:Nat):Int)<=281474976710656:=by omega
    rwa[Int.natCast_mul]at this
   have hrm:=run_make (P:=T.P) w t e i v hu hi hz kl kc n c (by omega) (by omega) hbytes' (by omega);simp only[Int.toNat_natCast]at hrm;have hm:More w (w.alloc (.cells (madeCells v.cells (c*i.size)) e)) (.cells (madeCells v.cells (c*i.size)) e (0,0)):=⟨rfl,rfl,rfl⟩
   have hmade:=QZ v.cells.toList lH;simp only[LX]at hmade;have dA:(execOp (Act.mk tm ds).eval o).run T.P w=.ok (.value (.slice (some ⟨w.heap.size,0,none⟩) (List.replicate n z).length c)) (w.alloc (.cells (madeCells v.cells (c*i.size)) e)):=by
    simp only[execOp,ho,e1,e2,Sem.run_bind,hrm,Result.andThen_ok,Sem.run_pure,List.length_replicate]
   have hVs:Vs T g w (cz (List.replicate n z)) (madeCells v.cells (n*i.size)).toList:=by
    rw[zee,fu,hzl,hmade n];exact Vs.flatten_rep k1 n
   have hpre:(madeCells v.cells (n*i.size)).toList=(madeCells v.cells (c*i.size)).toList.take (madeCells v.cells (n*i.size)).toList.length:=by
    obtain⟨d,rfl⟩:∃d,c=n+d:=⟨c-n,by omega⟩
    rw[fu,hzl,hmade n,hmade (n+d),←List.replicate_append_replicate,List.flatten_append,List.take_left]
   refine QI (ae:=ae) (h0:=hb) (st:=z.cells.length) h hm (fun k _=>by simp) (fun u hu=>?_) hVs hpre (fun e he=>by rw[LP he]) (by omega) (by rw[size_madeCells,fu];exact aX _) (by simpa using hnc) dA ?_ ?_
   ·rw[fu,hzl,hmade c]at hu;obtain⟨l,hl,hul⟩:=List.mem_flatten.1 hu;rw[LP hl]at hul;exact k2 u hul
   ·cases hb with
    |true=>simp only[bA,aD]at he ⊢;exact he.symm
    |false=>
     simp only[fq]at he ⊢;cases hn0:(Nat.beq n 0 && !Nat.beq c 0)with
     |true=>simp[hn0]at he
     |false=>simp only[hn0,fq,aD]at he;exact he.symm
   ·intro e1 e2;subst e1;simp only[fq]at he;have:n=0:=by simpa using e2
    subst this;cases hn0:Nat.beq c 0 with
    |true=>exact dH hn0
    |false=>simp[hn0]at he
 ·cases he
end
end Go.Ak
namespace Go.Ak
theorem MQ{sz st:Nat}{es:List AV}(h:jF sz es=true)(hu:∀e∈es,e.cells.length=st):∀e∈es,e.cells.length=step sz:=by
 cases es with
 |nil=>intro e he;simp at he
 |cons e0 es=>
  have h0:=dH h;have:st=step sz:=(hu e0 (by simp)).symm.trans h0;subst this;exact hu
theorem WT{sz:Nat}:∀(n:Nat)(cs:List AV),cs.length=n*step sz->(∀c∈cs,∀l,c ≠ .agg l)->cz (group sz cs n)=cs∧(∀e∈group sz cs n,e.cells.length=step sz)∧(group sz cs n).length=n
 |0,cs,h,_=>by
  have:cs=[]:=by simpa using h
  subst this;exact⟨rfl,by simp[group],rfl⟩
 |n+1,cs,h,hn=>by
  rw[rf]at h;simp only[group];cases hz:Nat.beq sz 0 with
  |true=>
   have hs:step sz=1:=by simp[step,hz]
   rw[hs]at h ⊢;simp only[bA];match cs,h,hn with
   | [],h,_=>simp at h
   |c::cs,h,hn=>
    have ih:=WT (sz:=sz) n cs (by rw[hs];simp at h ⊢;omega) (fun x hx=>hn x (by simp[hx]));have hc:c.cells=[c]:=by
     cases c with
     |agg l=>exact absurd rfl (hn _ (by simp) l)
     |_=>rfl
    simp only[List.drop_succ_cons,xI];refine⟨?_,fun e he=>?_,by simp[ih.2.2]⟩
    ·have:=ih.1;simp only[cz,lq,hc]at this ⊢;rw[this];rfl
    ·rcases il.1 he with rfl|he
     ·rw[hc];rfl
     ·rw[ih.2.1 e he,hs]
  |false=>
   have hs:step sz=sz:=by simp[step,hz]
   rw[hs]at h ⊢;simp only[fq];have ih:=WT (sz:=sz) n (cs.drop sz) (by rw[hs];simp;omega) (fun x hx=>hn x (EL hx));refine⟨?_,fun e he=>?_,by simp[ih.2.2]⟩
   ·have:=ih.1;simp only[cz,lq,AV.cells]at this ⊢;rw[this,Gb]
   ·rcases il.1 he with rfl|he
    ·simp[AV.cells];omega
    ·rw[ih.2.1 e he,hs]
section
variable {T:Tr} {ae:Nat} {vs:List Nat} {N:Nat} {g:Gh} {w:World} {σ:St} {tm:Array Value} {ds:List Deferred} {o:Oper} {r:OpR}
def RowOf(T:Tr)(g:Gh)(w:World)(sz:Nat)(ys:List AV)(v:Value):Prop:=
 (∀e∈ys,e.cells.length=step sz)∧∃us,Vs T g w (cz ys) us∧(∀u∈us,u.oneCell'=true)∧
  ((v=.slice none 0 0∧ys=[])∨(∃b ai cap,v=.slice (some ⟨b,ai,none⟩) ys.length cap∧∀(k:Nat)(u:Value),us[k]?=some u->w.cell? ⟨b,ai+k,none⟩=some u)∨
   ∃s,v=.string ⟨s.toArray⟩∧ys=iD s∧step sz=1∧us=s.map fun b=>Value.int .u8 b.toNat)
theorem zef(s:List UInt8):cz (iD s)=iD s:=by
 induction s with
 |nil=>rfl
 |cons b s ih=>
  simp only[cz,iD,mE,lq,AV.cells]at ih ⊢;rw[ih];rfl
theorem Vs.bytes:∀(s:List UInt8),Vs T g w (iD s) (s.map fun b=>Value.int .u8 b.toNat)
 | []=>.nil
 |b::s=>.cons _ _ _ _ (.int _ _) (Vs.bytes s)
theorem zqi{us:List Value}{lo n k:Nat}{u:Value}(h:((us.drop lo).take n)[k]?=some u):us[lo+k]?=some u:=(GH h).1
theorem SV.row{o':Own}{p:Perm}{es:List AV}{v:Value}(hs:SV T g w o' (.slc p es) v):∃b ai cap us st,v=.slice (some ⟨b,ai,none⟩) es.length cap∧Vs T g w (cz es) us∧(∀u∈us,u.oneCell'=true)∧(∀e∈es,e.cells.length=st)∧
  ∀(k:Nat)(u:Value),us[k]?=some u->w.cell? ⟨b,ai+k,none⟩=some u:=by
 have MX:∀{b ai:Nat}{aI:Array Value}{us:List Value},blk w b aI->(∀(k:Nat)(v:Value),us[k]?=some v->aI[ai+k]?=some v)->(∀u∈us,u.oneCell'=true)∧∀(k:Nat)(u:Value),us[k]?=some u->w.cell? ⟨b,ai+k,none⟩=some u:=
  fun{_ ai aI us} hb hu=>by
   refine⟨fun u hm=>?_,fun k u hk=>by rw[hb.cell,hu k u hk]⟩;obtain⟨k,hk⟩:=Qf hm;have h5:=hu k u hk;rw[←mR]at h5;exact hb.2.2 u (jm h5)
 cases p with
 |ro=>
  obtain⟨_,b,o',us,st,cap,k1,k2,k3,_,_,k6⟩:=V.slc_inv hs;refine⟨b,o',cap,us,st,k6,k2,fun u hm=>?_,k3,fun k u hk=>(k1 k u hk).2.1⟩;obtain⟨k,hk⟩:=Qf hm;exact(k1 k u hk).2.2
 |own=>
  obtain⟨b,ai,cap,aI,st,k1,⟨_,_,k4⟩,_,_,_,k7,us,k8,k9⟩:=hs;obtain⟨j1,j2⟩:=MX k4 k9;exact⟨b,ai,cap,us,st,k1,k8,j1,k7,j2⟩
 |app=>
  obtain⟨b,ai,cap,aI,st,k1,_,_,k4,_,_,_,k7,us,k8,k9⟩:=hs;obtain⟨j1,j2⟩:=MX k4 k9;exact⟨b,ai,cap,us,st,k1,k8,j1,k7,j2⟩
theorem M8(h:Rel T vs N g w σ tm){x:Operand}{y:Opd}(hc:bE T vs N x y=true){sz:Nat}{ys:List AV}(he:qR σ sz y=some ys):RowOf T g w sz ys ((Act.mk tm ds).eval x):=by
 have hr:=lS (ds:=ds) h hc;unfold qR at he;split at he
 ·rename_i ha;rw[ha]at hr;simp only[aD]at he;subst he;exact⟨by simp,[],.nil,by simp,.inl ⟨V.nils_inv hr,rfl⟩⟩
 ·rename_i p es ha;rw[ha]at hr;cases hh:jF sz es with
  |false=>simp[hh]at he
  |true=>
   simp only[hh,bA,aD]at he;subst he;obtain⟨b,ai,cap,us,st,k1,k2,k3,k4,k5⟩:=SV.row (hr.SV_of rfl);exact⟨MQ hh k4,us,k2,k3,.inr (.inl ⟨b,ai,cap,k1,k5⟩)⟩
 ·rename_i s ha;rw[ha]at hr;cases hh:Nat.beq (step sz) 1 with
  |false=>simp[hh]at he
  |true=>
   simp only[hh,bA,aD]at he;subst he;have h1:=dH hh;refine⟨fun e hm=>?_,_,by rw[zef];exact Vs.bytes s,fun u hm=>?_,.inr (.inr ⟨s,V.str_inv hr,rfl,h1,rfl⟩)⟩
   ·obtain⟨b,_,rfl⟩:=pg.1 hm;rw[h1];rfl
   ·obtain⟨b,_,rfl⟩:=pg.1 hm;rfl
 ·rename_i t k lo n ha;rw[ha]at hr;cases hk:Nat.beq (fO σ.mods t) k with
  |false=>simp[hk]at he
  |true=>
   simp only[hk,bA]at he;split at he
   ·rename_i p es hl;cases hh:jF sz es with
    |false=>simp[hh]at he
    |true=>
     simp only[hh,bA,aD]at he;subst he;obtain⟨cu,b,o',cap,st,xx,iN,j1,j2,j3,j4,j5,j6⟩:=hr.2 (dH hk).symm p es hl;have hs:=h.env t;rw[hl,j2]at hs;obtain⟨b',off',cap'',us,st',k1,k2,k3,k4,k5⟩:=hs.row;simp only[Value.slice.injEq,aD,Addr.mk.injEq,nE,Bj]at k1;obtain⟨⟨rfl,rfl⟩,rfl⟩:=k1;have hu:=MQ hh k4;have bq:((es.drop lo).take n).length=n:=by simp;omega
     refine⟨Qr (Jl hu lo) n,(us.drop (lo*step sz)).take (n*step sz),?_,fun u hm=>k3 u (EL (vU hm)),.inr (.inl ⟨b,xx,iN,by rw[bq];exact j3,fun k u hk=>?_⟩)⟩
     ·rw[M0 n (Jl hu lo),Rk lo hu];exact(k2.drop _).take _
     ·rcases j4 with j4|j4
      ·subst j4;simp at hk
      ·have dx:st=step sz∨es=[]:=by
        cases es with
        |nil=>exact .inr rfl
        |cons e es=>exact .inl ((j1 e (by simp)).symm.trans (hu e (by simp)))
       rcases dx with rfl|rfl
       ·have:=k5 _ u (zqi hk);rw[j4,tX];exact this
       ·simp at cu;obtain⟨_,rfl⟩:=cu;simp at hk
   ·cases he
 ·rename_i st id ai n ha;rw[ha]at hr;cases dx:Nat.beq st (step sz)with
  |false=>simp[dx]at he
  |true=>
   simp only[dx,bA]at he;split at he
   ·rename_i cs hid;split at he
    ·rename_i l hl;simp only[aD]at he;subst he;obtain⟨b,cap,ty,m,k1,k2,k3,k4,k5,k6⟩:=V.msl_inv hr;obtain⟨b',aI,j1,⟨_,_,j3⟩,j4,j5⟩:=h.heap.objs id cs hid;rw[k1]at j1;cases j1;have hs:=dH dx;obtain⟨q1,q2⟩:=EO hl j4;have fJ:∀u∈((aI.toList.take cs.length).drop ai).take (n*st),u.oneCell'=true:=fun u hu=>j3.2.2 u (vU (EL (vU hu)));have iV:l.length=n*step sz:=by rw[q1.length,q2,hs]
     obtain⟨p1,p2,p3⟩:=WT (sz:=sz) n l iV (Vs.noagg q1 fJ);refine⟨p2,_,by rw[p1];exact q1,fJ,.inr (.inl ⟨b,ai,cap,by rw[p3];exact k6,fun k u hk=>?_⟩)⟩;obtain⟨z1,_⟩:=GH hk;rw[mP]at z1;split at z1
     ·rw[j3.cell,←mR];exact z1
     ·cases z1
    ·cases he
   ·cases he
 ·cases he
theorem RowOf.read{P:Program}{sz:Nat}{ys:List AV}{v:Value}(h:RowOf T g w sz ys v):∃us,Vs T g w (cz ys) us∧(∀u∈us,u.oneCell'=true)∧us.length=ys.length*step sz∧
  (∀w',w'.heap=w.heap->(Builtin.lenOf v).run P w'=.ok ys.length w'∧(Builtin.firstCells (step sz) ys.length v).run P w'=.ok us.toArray w'):=by
 obtain⟨hu,us,h1,h2,h3⟩:=h;have hl:us.length=ys.length*step sz:=by rw[←h1.length,pF hu]
 refine⟨us,h1,h2,hl,fun w' hw=>?_⟩;rcases h3 with⟨rfl,rfl⟩|⟨b,ai,cap,rfl,hc⟩|⟨s,rfl,rfl,hs,rfl⟩
 ·have:us=[]:=by simpa using hl
  subst this;exact⟨by simp[Builtin.lenOf],by simp[Builtin.firstCells]⟩
 ·refine⟨by simp[Builtin.lenOf],?_⟩;refine run_firstCells_some w' (step sz) ys.length ⟨b,ai,none⟩ ys.length cap us hl fun j v hv=>?_;rw[Addr.add_lit];have:=hc j v hv;simpa only[World.cell?,hw]using this
 ·have hb:(iD s).length=s.length:=by simp[iD]
  have fu:(⟨s.toArray⟩:ByteArray).size=s.length:=rfl;refine⟨by simp only[Builtin.lenOf,Sem.run_pure,fu,hb],?_⟩;simp only[Builtin.firstCells,Sem.run_pure,hb];congr 1;apply Bt;simp[ByteArray.extract_mk]
set_option maxHeartbeats 4000000 in
theorem zcB{P:Program}{w:World}{t u e:Nat}{d:TypeDesc}{i:TypeInfo}{sz n cap:Nat}{fE:Option Addr}{v:Value}{ty:Nat}{m:Nat}{eu:List Value}
  (ht:P.underlying t=some (.slice e)) (hu:P.underlying u=some d) (hd:∀k,d ≠ .int k) (hi:P.info? e=some i) (hs:i.size=step sz)
  (l1:(Builtin.lenOf v).run P w=.ok m w) (f1:(Builtin.firstCells (step sz) m v).run P w=.ok eu.toArray w) (hr:n+m<=cap):(Builtin.append_ #[t,u] ty #[.slice fE n cap,v]).run P w=match fE with
   |some a=>((storeCells (a.add (n*step sz)) eu).run P w).andThen fun _ w'=>.ok (.slice fE (n+m) cap) w'
   |none=>.ok (.slice fE (n+m) cap) w:=by
 cases fE with
 |none=>cases d<;>first|(exact absurd rfl (hd _))|simp[Builtin.append_,run_underlying ht,run_underlying hu,pE hi,hs,l1,f1,hr]
 |some a=>cases d<;>first|(exact absurd rfl (hd _))|simp[Builtin.append_,run_underlying ht,run_underlying hu,pE hi,hs,l1,f1,hr]
set_option maxHeartbeats 4000000 in
theorem zcC{P:Program}{w:World}{t u e:Nat}{d:TypeDesc}{i:TypeInfo}{z:Value}{sz n cap:Nat}{fE:Option Addr}{v:Value}{ty:Nat}{m:Nat}{eu:List Value}
  (ht:P.underlying t=some (.slice e)) (hu:P.underlying u=some d) (hd:∀k,d ≠ .int k) (hi:P.info? e=some i) (hz:i.zero=some z) (hs:i.size=step sz) (hby:i.bytes<=24*i.size) (ja:(n+m)*step sz<=lim)
  (hx:∀w',w'.heap=w.heap->(Builtin.lenOf v).run P w'=.ok m w'∧(Builtin.firstCells (step sz) m v).run P w'=.ok eu.toArray w') :
  (n+m<=cap->(Builtin.append_ #[t,u] ty #[.slice fE n cap,v]).run P w=match fE with
   |some a=>((storeCells (a.add (n*step sz)) eu).run P w).andThen fun _ w'=>.ok (.slice fE (n+m) cap) w'
   |none=>.ok (.slice fE (n+m) cap) w)∧
  (cap<n+m->∀mW:List Value,(∀w',w'.heap=w.heap->(Builtin.firstCells (step sz) n (.slice fE n cap)).run P w'=.ok mW.toArray w')->
   (Builtin.append_ #[t,u] ty #[.slice fE n cap,v]).run P w=.ok (.slice (some ⟨w.heap.size,0,none⟩) (n+m) (grownCap w (n+m) cap e))
    (w.drew.alloc (.cells (mW.toArray++eu.toArray++Builtin.zeroCells z.cells (grownCap w (n+m) cap e-(n+m))) e))):=by
 have hb:(n+m)*i.bytes<=140737488355328:=by
  have h1:(n+m)*i.bytes<=(n+m)*(24*i.size):=Nat.mul_le_mul_left _ hby;have h2:(n+m)*(24*i.size)=24*((n+m)*i.size):=by rw[←LD,Ga (n+m) 24,LD]
  rw[hs]at h1 h2;simp only[lim]at ja;omega
 have hnm:n+m<=(n+m)*step sz:=Nat.le_mul_of_pos_right _ (Qw sz);simp only[lim]at ja;obtain⟨l1,f1⟩:=hx w rfl;have hdz:(match d with|.int _=>true|_=>false)=false:=by cases d<;>first|rfl|exact absurd rfl (hd _)
 refine⟨fun hr=>?_,fun hg mW ho=>?_⟩
 ·exact zcB ht hu hd hi hs l1 f1 hr
 ·have hn:¬(n+m<=cap):=by omega
  have h63:¬(9223372036854775807<((n:Int)+(m:Int))):=by omega
  have h48:¬(281474976710656<Builtin.nextslicecap (n+m) cap*i.bytes):=by have:=growslice_fits hg hb;omega
  obtain⟨l2,f2⟩:=hx w.drew rfl;have o2:=ho w.drew rfl;have hinf:∀w',(typeInfo e).run P w'=.ok i w':=fun w'=>by simp[typeInfo,hi]
  cases d<;>first|(exact absurd rfl (hd _))|skip
  all_goals
   simp[Builtin.append_,run_underlying ht,run_underlying hu,pE hi,hs,l1,f2,o2,hn,h63,h48,hinf,Gr hi hz,Question.forced,Go.newRow,grownCap];congr 2;apply Bt;simp[zR]
end
end Go.Ak
namespace Go.Ak
section
variable {T:Tr} {ae:Nat} {vs:List Nat} {N:Nat} {g:Gh} {w:World} {σ:St} {tm:Array Value} {ds:List Deferred} {o:Oper} {r:OpR}
theorem Rel.write_res(h:Rel T vs N g w σ tm){b ai:Nat}{us:List Value}(hb:g.own b=.res)(h0:g.S b<=ai):Rel T vs N g (w.setCells b ai us) σ tm:=
 h.write hb h0 (by simp) rfl rfl (fun _ _=>rfl) (fun t e=>by cases e) (fun t e=>by cases e) (fun _ _ _ hc=>hc) (fun _ _ e=>by cases e) rfl (fun _ e=>by cases e)
theorem Rel.settle_res(h:Rel T vs N g w σ tm){b n:Nat}(hb:g.own b=.res)(h0:g.S b<=n)(hn:b<w.heap.size):Rel T vs N (g.settle b n) w σ tm:=
 h.settle hb (.inr (.inr rfl)) h0 (fun _=>hn) rfl rfl (fun _=>.inl rfl) (fun t e=>by cases e) (fun _=>.inl rfl) (fun t e=>by cases e) h.nobox
theorem zeg(a b:List AV):cz (a++b)=cz a++cz b:=by simp[cz]
theorem zcI{aI:Array Value}{ai st n m:Nat}{es ys:List AV}{eu:List Value}(h:QJ T g w aI ai st es)(hy:Vs T g w (cz ys) eu)(hu:∀e∈ys,e.cells.length=st)(hn:es.length=n)(hm:ys.length=m)(hfit:ai+(n+m)*st<=aI.size):
  QJ T g w (kL aI.toList (ai+n*st) eu).toArray ai st (es++ys):=by
 obtain⟨h1,us,h2,h3⟩:=h;have hul:us.length=n*st:=by rw[←h2.length,pF h1,hn]
 have kw:eu.length=m*st:=by rw[←hy.length,pF hu,hm]
 rw[tV]at hfit;refine⟨fun e he=>(qy.1 he).elim (h1 e) (hu e),us++eu,by rw[zeg];exact h2.append hy,fun k v hk=>?_⟩;rw[List.getElem?_toArray];by_cases c:k<us.length
 ·rw[zP c]at hk;rw[EQ _ _ _ _ (by omega),mR];exact h3 k v hk
 ·rw[Gd (by omega)]at hk;have hk2:k-us.length<eu.length:=(eD.1 hk).1;obtain⟨j,rfl⟩:∃j,k=us.length+j:=⟨k-us.length,by omega⟩
  rw[hul,←tX,Gq _ _ _ _ (by simp;omega) (by rw[hul]at hk2;omega)];rw[Nat.add_sub_cancel_left]at hk;exact hk
def J3(P:Program)(t u sz:Nat):Bool:=
 match P.underlying t,P.underlying u with
 |some (.slice e),some d=>nR P e sz&&(match d with|.int _=>false|_=>true)&&(match P.info? e with
  |some i=>decide (i.bytes<=24*i.size)&&(match i.zero with|some z=>z.cells.size==i.size&&z.cells.toList.all (·.oneCell')|none=>false)
  |none=>false)
 |_,_=>false
theorem ze7{P:Program}{t u sz:Nat}(h:J3 P t u sz=true):∃e d i z,P.underlying t=some (.slice e)∧P.underlying u=some d∧(∀k,d ≠ .int k)∧P.info? e=some i∧i.zero=some z∧i.size=step sz∧i.bytes<=24*i.size∧z.cells.size=i.size∧∀v∈z.cells.toList,v.oneCell'=true:=by
 unfold J3 at h;split at h
 ·rename_i e d hu hv;simp only[aU]at h;obtain⟨⟨h1,h2⟩,h3⟩:=h;obtain⟨i,hi,hs⟩:=yg h1;rw[hi]at h3;simp only[aU,ik]at h3;obtain⟨h4,h5⟩:=h3;split at h5
  ·rename_i z hz;simp only[aU,gM,Gf]at h5;refine⟨e,d,i,z,hu,hv,fun k e=>?_,hi,hz,hs,h4,h5.1,h5.2⟩;subst e;simp at h2
  ·cases h5
 ·cases h
theorem VC{z:Array Value}{n:Nat}(h:∀v∈z.toList,v.oneCell'=true):∀v∈(Builtin.zeroCells z n).toList,v.oneCell'=true:=by
 intro v hv;simp only[Builtin.zeroCells,Array.toList_map,Array.toList_range,pg,EK]at hv;obtain⟨i,hi,rfl⟩:=hv;have lH:0<z.size:=by
  rcases Je z.size with h0|h0
  ·simp[h0]at hi
  ·exact h0
 have aB:i%z.size<z.size:=Nat.mod_lt _ lH;rw[getElem!_pos z _ aB];exact h _ (by simp)
theorem zfr{h0:Bool}{p:Perm}{e:Nat}{z:Value}{sz n m cap:Nat}{es ys:List AV}{mW eu:List Value}(h:Rel T vs N g w σ tm)(hz:∀v∈z.cells.toList,v.oneCell'=true)(hzs:z.cells.size=step sz)
  (dz:∀x∈es,x.cells.length=step sz) (hys:∀x∈ys,x.cells.length=step sz) (ho:Vs T g w (cz es) mW) (hn:Vs T g w (cz ys) eu) (ho1:∀u∈mW,u.oneCell'=true) (jB:∀u∈eu,u.oneCell'=true) (hel:es.length=n) (hyl:ys.length=m) (hp:p=.own) (hnm:0<n+m)
  {res:Result Next} (dA:res=.ok (.value (.slice (some ⟨w.heap.size,0,none⟩) (n+m) (grownCap w (n+m) cap e))) (w.drew.alloc (.cells (mW.toArray++eu.toArray++Builtin.zeroCells z.cells (grownCap w (n+m) cap e-(n+m))) e)))
  (hr:r=bif h0 then Ak.newRow σ (step sz) (es++ys)else .ok (.slc p (es++ys)) σ):OpOKr T res (OpPost T ae vs N g w tm r) (jY T ae vs N g w tm r):=by
 subst hp;have jD:=grownCap_ge w (n+m) cap e;have hol:mW.length=n*step sz:=by rw[←ho.length,pF dz,hel]
 have kw:eu.length=m*step sz:=by rw[←hn.length,pF hys,hyl]
 have hm:More w (w.drew.alloc (.cells (mW.toArray++eu.toArray++Builtin.zeroCells z.cells (grownCap w (n+m) cap e-(n+m))) e)) (.cells (mW.toArray++eu.toArray++Builtin.zeroCells z.cells (grownCap w (n+m) cap e-(n+m))) e (0,0)):=⟨rfl,rfl,rfl⟩
 have rO:(mW.toArray++eu.toArray++Builtin.zeroCells z.cells (grownCap w (n+m) cap e-(n+m))).size=grownCap w (n+m) cap e*step sz:=by
  simp only[Array.size_append,Jf,size_zeroCells,hzs,hol,kw];rw[←tV,←tV];congr 1;omega
 have bq:(es++ys).length=n+m:=by simp[hel,hyl]
 refine QI (ae:=ae) (h0:=h0) (st:=step sz) (es:=es++ys) (us:=mW++eu) h hm (fun k _=>by simp) (fun v hv=>?_) (by rw[zeg];exact ho.append hn) ?_ (fun x hx=>(qy.1 hx).elim (dz x) (hys x)) (Qw sz) (by rw[rO];exact aX _) (by omega) (by rw[bq];exact dA) hr (fun _ e=>by rw[e]at bq;simp at bq;omega)
 ·simp only[LW,qy]at hv;rcases hv with(hv|hv)|hv
  ·exact ho1 v hv
  ·exact jB v hv
  ·exact VC hz v hv
 ·simp only[LW];rw[List.take_left'];simp
theorem Rel.dropObj(h:Rel T vs N g w σ tm)(id:Nat):Rel T vs N g w { σ with H:=σ.H.set id none } tm:=
 ⟨h.size,h.envk,h.lenvk,h.env,fun t=>by
  have:=h.lenv t;cases ha:bB σ.lenv t with
  |loc a b c=>rw[ha]at this;simpa only[ha,AVR]using this
  |eloc a b c d=>rw[ha]at this;simpa only[ha,AVR]using this
  |ref a b c d=>rw[ha]at this;simpa only[ha,AVR]using this
  |_=>rw[ha]at this;exact AVR.of_SV (AVR.SV_of rfl this),h.nobox,⟨fun i cs hc=>by
   simp only[EN]at hc;split at hc
   ·split at hc
    ·simp at hc
    ·cases hc
   ·exact h.heap.objs i cs hc,fun i b hb=>by simpa using h.heap.ob i b hb,h.heap.fresh,h.heap.gl⟩⟩
theorem Rel.rename(h:Rel T vs N g w σ tm){id b:Nat}{aI:Array Value}{cs:List AV}(nM:ae<=id)(hid:σ.H[id]?=some none)(hx:excl g w (.obj id) b aI)(hv:Vs T g w cs (aI.toList.take cs.length))(hl:cs.length<=aI.size):
  Ext ae g w (g.obj σ.H.length b) w∧Rel T vs N (g.obj σ.H.length b) w { σ with H:=σ.H ++[some cs] } tm∧(g.obj σ.H.length b).ob σ.H.length=some b:=by
 have hob:∀i x,g.ob i=some x->(g.obj σ.H.length b).ob i=some x:=fun i x hb=>by
  have:=h.heap.ob i x hb;simp only[Gh.obj];rw[aF (by omega)];exact hb
 have dw:∀x,g.own x ≠ .obj id->(g.obj σ.H.length b).own x=g.own x:=fun x hx'=>by
  simp only[Gh.obj];rw[aF (fun e=>hx' (by rw[e,hx.1]))]
 have he:∀ae,ae<=id->Ext ae g w (g.obj σ.H.length b) w:=fun ae nM=>⟨aX _,fun _=>aX _,fun _ _ _=>rfl,hob,fun _ _ h=>h,fun x hx'=>⟨by rw[dw x (by rw[hx'];simp)];exact hx',rfl,rfl⟩,
  fun i x hi _ hx'=>⟨by rw[dw x (by rw[hx'];simp;omega)];exact hx',rfl,rfl⟩,rfl,rfl⟩
 refine⟨he ae nM,?_,by simp[Gh.obj]⟩;refine h.frame (H':=σ.H ++[some cs]) (he 0 (jK _)) (fun x t hb _=>⟨by rw[dw x (by rw[hb];simp)];exact hb,rfl,rfl⟩) (fun x t hb _=>⟨by rw[dw x (by rw[hb];simp)];exact hb,rfl,rfl⟩) ⟨fun i cs' hc=>?_,fun i x hb=>?_,fun x hb=>?_,fun x ob hx'=>by
  obtain⟨k1,k2⟩:=h.heap.gl x ob hx';exact⟨(dw x (by rw[k1];simp)).trans k1,k2⟩⟩
 ·rw[List.getElem?_append]at hc;split at hc
  ·obtain⟨x,arr',k1,⟨k2,k3,k4⟩,k5,k6⟩:=h.heap.objs i cs' hc;have aR:i≠id:=fun e=>by rw[e,hid]at hc;simp at hc
   exact⟨x,arr',hob i x k1,⟨by rw[dw x (by rw[k2];simpa using aR)];exact k2,k3,k4⟩,Vs.mono (he 0 (jK _)) k5,k6⟩
  ·have hi:i=σ.H.length:=by
    have:=(eD.1 hc).1;simp at this;omega
   subst hi;simp at hc;subst hc;exact⟨b,aI,by simp[Gh.obj],⟨by simp[Gh.obj],hx.2.1,hx.2.2⟩,Vs.mono (he 0 (jK _)) hv,hl⟩
 ·simp only[Gh.obj]at hb;simp only[iF,fF,gW];split at hb
  ·omega
  ·have:=h.heap.ob i x hb;omega
 ·obtain⟨k1,k2⟩:=h.heap.fresh x hb;exact⟨by rw[dw x (by rw[k1];simp)];exact k1,k2⟩
theorem OpPost.weaken{es:List AV}{v:Value}{w':World}{σ':St}(h:OpPost T ae vs N g w tm (.ok (.slc .own es) σ') v w'):OpPost T ae vs N g w tm (.ok (.slc .app es) σ') v w':=by
 obtain⟨a, σ1,g1,e,h1,h2,h3⟩:=h;cases e;obtain⟨b,n,k1,k2,k3,k4,_⟩:=SV.settle (AVR.SV_of rfl h3) (by simp) (by simp);refine⟨_,_,g1.settle b n,rfl,h1.trans (Ext.settle k2 (by rw[k1];simp) (by rw[k1];simp)),?_,.of_SV k4⟩;by_cases hn:b<w'.heap.size
 ·exact h2.settle_res k1 k2 hn
 ·have:n=0:=by
   rcases Je n with h0|h0
   ·exact h0
   ·exact absurd (k3 h0) hn
  subst this;exact absurd (Ah h2.heap (by rw[k1];simp)) hn
theorem OpOKr.imp{res:Result Next}{R R':Value->World->Prop}{Pn Pn':Value->World->Prop}(h:OpOKr T res R Pn)(h1:∀v w,R v w->R' v w)(h2:∀v w,Pn v w->Pn' v w):OpOKr T res R' Pn':=by
 unfold OpOKr at h ⊢;split at h<;>rename_i heq
 ·exact h1 _ _ h
 ·exact h1 _ _ h
 ·refine h.mono ?_;intro e w'' he;cases e with
  |returned v=>exact h1 _ _ he
  |panicked ch=>
   obtain⟨v,k1,k2⟩:=he;exact⟨v,k1,h2 _ _ k2⟩
  |outgrown=>exact he
 ·exact h2 _ _ h
 ·exact h.elim
end
end Go.Ak
namespace Go.Ak
section
variable {T:Tr} {ae:Nat} {vs:List Nat} {N:Nat} {g:Gh} {w:World} {σ:St} {tm:Array Value} {ds:List Deferred} {o:Oper} {r:OpR}
def J7(P:Program)(w:World)(e:Nat)(z:Value)(sz n m cap:Nat)(fE:Option Addr)(eu:List Value)(res:Result Next):Prop:=
 (n+m<=cap->res=match fE with
   |some a=>(((storeCells (a.add (n*step sz)) eu).run P w).andThen fun _ w'=>.ok (Value.slice fE (n+m) cap) w').andThen fun v w=>.ok (.value v) w
   |none=>.ok (.value (.slice fE (n+m) cap)) w)∧
  (cap<n+m->∀mW:List Value,(∀w',w'.heap=w.heap->(Builtin.firstCells (step sz) n (.slice fE n cap)).run P w'=.ok mW.toArray w')->
   res=.ok (.value (.slice (some ⟨w.heap.size,0,none⟩) (n+m) (grownCap w (n+m) cap e)))
    (w.drew.alloc (.cells (mW.toArray++eu.toArray++Builtin.zeroCells z.cells (grownCap w (n+m) cap e-(n+m))) e)))
theorem zfq{a:AV}{Q:TypeId->Prop}{e:Nat}{z:Value}{sz st id n m:Nat}{cs l ys:List AV}{eu:List Value}(h:Rel T vs N g w σ tm)(hz:∀v∈z.cells.toList,v.oneCell'=true)(hzs:z.cells.size=step sz)
  {v:Value} {cap:Nat} {fE:Option Addr} (hv:V T g w (.msl st id 0 n) v) (hve:v=.slice fE n cap) (dx:st=step sz) (nM:ae<=id) (hid:σ.H[id]?=some (some cs)) (hl:sub cs 0 (n*st)=some l) (hys:∀x∈ys,x.cells.length=step sz)
  (hn:Vs T g w (cz ys) eu) (jB:∀u∈eu,u.oneCell'=true) (hyl:ys.length=m) {res:Result Next} (dA:J7 T.P w e z sz n m cap fE eu res)
  (hQ1:∀b ty k,g.ob id=some b->w.shape? b=some (ty,k)->Q ty) (hQ2:Q e)
  (ha:∀g' w' b cap ty k,g'.ob σ.H.length=some b->w'.shape? b=some (ty,k)->cap*step sz<=k->n+m<=cap->Q ty->V T g' w' a (.slice (some ⟨b,0,none⟩) (n+m) cap))
  (hr:r=.ok a { σ with H:=σ.H.set id none ++[some (l++cz ys)] }):OpOKr T res (OpPost T ae vs N g w tm r) (jY T ae vs N g w tm r):=by
 subst dx;obtain⟨b,iN,ty,sz',k1,k2,k3,k4,k5,k6⟩:=V.msl_inv hv;rw[hve]at k6;simp only[Value.slice.injEq]at k6;obtain⟨rfl,_,rfl⟩:=k6;obtain⟨b',aI,j1,⟨j2,j3,j4⟩,j5,j6⟩:=h.heap.objs id cs hid;rw[k1]at j1;cases j1;obtain⟨q1,q2⟩:=Mc hl;have kw:eu.length=m*step sz:=by rw[←hn.length,pF hys,hyl]
 have harr:aI.size=sz':=by
  obtain⟨ty',h'⟩:=j4.shape;rw[k2]at h';cases h';rfl
 have iV:l.length=n*step sz:=by rw[q2];simp at q1 ⊢;omega
 obtain⟨s1,s2⟩:=EO hl j5;have hpre:Vs T g w l (aI.toList.take (n*step sz)):=by
  have:((aI.toList.take cs.length).drop 0).take (n*step sz)=aI.toList.take (n*step sz):=by
   rw[xI,List.take_take];congr 1;simp at q1;omega
  rw[←this];exact s1
 have fJ:∀u∈aI.toList.take (n*step sz),u.oneCell'=true:=fun u hu=>j4.2.2 u (vU hu);have fu:(n+m)*step sz=n*step sz+m*step sz:=tV _ _ _;by_cases hc:n+m<=cap
 ·have hfit:n*step sz+m*step sz<=aI.size:=by
   have:(n+m)*step sz<=cap*step sz:=zM _ hc;omega
  have dx:=V3 (P:=T.P) j4 (n*step sz) eu jB (by omega);have gI:res=.ok (.value (.slice (some ⟨b,0,none⟩) (n+m) cap)) (w.setCells b (n*step sz) eu):=by
   rw[dA.1 hc];show((Sem.run T.P (storeCells ((⟨b,0,none⟩:Addr).add (n*step sz)) eu) w).andThen _).andThen _=_;rw[show(⟨b,0,none⟩:Addr).add (n*step sz)=⟨b,n*step sz,none⟩ by rw[Addr.add_lit,jZ],dx];rfl
  have e0:=h.dropObj id;have e1:Rel T vs N g (w.setCells b (n*step sz) eu) { σ with H:=σ.H.set id none } tm:=by
   refine(h.dropObj id).write j2 (by rw[j3];exact jK _) (by simp) rfl rfl (fun _ _=>rfl) (fun t e=>by cases e) (fun t e=>by cases e) (fun _ _ _ hc=>hc) (fun i cs' e aH=>?_) rfl (fun i e b' ky=>?_)
   ·simp only[Own.obj.injEq]at e;subst e;simp only[EN]at aH;simp at aH
   ·simp only[Own.obj.injEq]at e;subst e;rw[k1]at ky;simpa using ky.symm
  have x1:Ext ae g w g (w.setCells b (n*step sz) eu):=Ext.setCells (by rw[j3];exact jK _) (by rw[j2];simp) (fun i hi=>by rw[j2];simp;omega);have aB:id<σ.H.length:=(eD.1 hid).1;have jG:=j4.setCells (n*step sz) eu jB;have Ao:(l++cz ys).length=n*step sz+m*step sz:=by rw[iF,iV,pF hys,hyl]
  obtain⟨e2,e3,e4⟩:=e1.rename (ae:=ae) (cs:=l++cz ys) nM (by simp[aB]) ⟨j2,j3,jG⟩ (by
   have ht:(kL aI.toList (n*step sz) eu).take (n*step sz+m*step sz)=aI.toList.take (n*step sz)++eu:=by
    apply Br;intro k;rw[mP];by_cases c1:k<n*step sz
    ·rw[aS (by omega),EQ _ _ _ _ c1,zP (by simp;omega),mP,aS c1]
    ·by_cases c2:k<n*step sz+m*step sz
     ·rw[aS c2,Gd (by simp;omega)];obtain⟨j,rfl⟩:∃j,k=n*step sz+j:=⟨k-n*step sz,by omega⟩
      rw[Gq _ _ _ _ (by simp;omega) (by omega)];congr 1;simp;omega
     ·rw[aF c2,pq];simp;omega
   rw[Ao,ht];exact(Vs.mono x1 hpre).append (Vs.mono x1 hn)) (by rw[Ao];simp[xP];omega)
  refine qL gI (by rw[hr]) (x1.trans e2) (by simpa using e3) (.of_V ?_);exact ha _ _ b cap ty sz' (by simpa using e4) ((x1.trans e2).shape b _ k2) (by simpa using k3) hc (hQ1 b ty sz' k1 k2)
 ·have hgc:cap<n+m:=by omega
  have jD:=grownCap_ge w (n+m) cap e;have gI:=dA.2 hgc (aI.toList.take (n*step sz)) (fun w' hw=>by
   refine run_firstCells_some w' (step sz) n ⟨b,0,none⟩ n cap _ (by simp;simp at q1;omega) fun j v hv=>?_;rw[Addr.add_lit];rw[mP]at hv;split at hv
   ·have:=j4.cell j;simp only[World.cell?,hw]at this ⊢;rw[jZ,this,←mR];exact hv
   ·cases hv)
  have aB:id<σ.H.length:=(eD.1 hid).1;have rO:((aI.toList.take (n*step sz)).toArray++eu.toArray++Builtin.zeroCells z.cells (grownCap w (n+m) cap e-(n+m))).size=grownCap w (n+m) cap e*step sz:=by
   simp only[Array.size_append,Jf,size_zeroCells,hzs,kw];have:(aI.toList.take (n*step sz)).length=n*step sz:=by simp;simp at q1;omega
   rw[this,←tV,←tV];congr 1;omega
  have hm:More w (w.drew.alloc (.cells ((aI.toList.take (n*step sz)).toArray++eu.toArray++Builtin.zeroCells z.cells (grownCap w (n+m) cap e-(n+m))) e)) (.cells ((aI.toList.take (n*step sz)).toArray++eu.toArray++Builtin.zeroCells z.cells (grownCap w (n+m) cap e-(n+m))) e (0,0)):=⟨rfl,rfl,rfl⟩
  have Ao:(l++cz ys).length=((aI.toList.take (n*step sz))++eu).length:=by rw[iF,iV,pF hys,hyl,iF,kw];simp;simp at q1;omega
  obtain⟨e1,e2,e3⟩:=(h.dropObj id).newObj (ae:=ae) (cs:=l++cz ys) hm (fun k _=>by simp) (fun v hv=>by
   simp only[LW,qy]at hv;rcases hv with(hv|hv)|hv
   ·exact fJ v hv
   ·exact jB v hv
   ·exact VC hz v hv) (by
   rw[Ao];simp only[LW];rw[List.take_left' rfl];exact hpre.append hn) (by
   rw[Ao,rO];have:(n+m)*step sz<=grownCap w (n+m) cap e*step sz:=zM _ jD;rw[iF,kw];simp;omega)
  refine qL gI (by rw[hr]) e1 (by simpa using e2) (.of_V ?_);refine ha _ _ w.heap.size _ e _ (by simpa using e3) (by simp only[World.shape?,hm.new];rfl) ?_ jD hQ2;have:=rO;simp only[Array.size_append,Jf]at this ⊢;omega
theorem zro{e:Nat}{z:Value}{sz st id n m:Nat}{cs l ys:List AV}{eu:List Value}(h:Rel T vs N g w σ tm)(hz:∀v∈z.cells.toList,v.oneCell'=true)(hzs:z.cells.size=step sz)
  {v:Value} {cap:Nat} {fE:Option Addr} (hv:V T g w (.msl st id 0 n) v) (hve:v=.slice fE n cap) (dx:st=step sz) (nM:ae<=id) (hid:σ.H[id]?=some (some cs)) (hl:sub cs 0 (n*st)=some l) (hys:∀x∈ys,x.cells.length=step sz)
  (hn:Vs T g w (cz ys) eu) (jB:∀u∈eu,u.oneCell'=true) (hyl:ys.length=m) {res:Result Next} (dA:J7 T.P w e z sz n m cap fE eu res)
  (hr:r=.ok (.msl st σ.H.length 0 (n+m)) { σ with H:=σ.H.set id none ++[some (l++cz ys)] }):OpOKr T res (OpPost T ae vs N g w tm r) (jY T ae vs N g w tm r):=
 zfq (Q:=fun _=>True) h hz hzs hv hve dx nM hid hl hys hn jB hyl dA (fun _ _ _ _ _=>trivial) trivial
  (fun _ _ b cap ty k h1 h2 h3 h4 _=>.msl _ _ 0 _ b cap ty k h1 h2 (by rw[dx];simpa using h3) h4 (by rw[dx];exact Qw sz)) hr
theorem zrn{e:Nat}{z:Value}{sz n m:Nat}{p:Perm}{es ys:List AV}{eu:List Value}(h:Rel T vs N g w σ tm)(hz:∀v∈z.cells.toList,v.oneCell'=true)(hzs:z.cells.size=step sz)
  {v:Value} {cap:Nat} {fE:Option Addr} (hp:p ≠ .ro) (hv:SV T g w .res (.slc p es) v) (hve:v=.slice fE n cap) (hhd:jF sz es=true) (hel:es.length=n) (hys:∀x∈ys,x.cells.length=step sz)
  (hn:Vs T g w (cz ys) eu) (jB:∀u∈eu,u.oneCell'=true) (hyl:ys.length=m) {res:Result Next} (dA:J7 T.P w e z sz n m cap fE eu res)
  (hr:r=.ok (.slc p (es++ys)) σ):OpOKr T res (OpPost T ae vs N g w tm r) (jY T ae vs N g w tm r):=by
 obtain⟨b0,kI,cap0,us,st0,p1,p2,p3,p4,p5⟩:=hv.row;have hu:∀x∈es,x.cells.length=step sz:=MQ hhd p4;have kw:eu.length=m*step sz:=by rw[←hn.length,pF hys,hyl]
 have hul:us.length=n*step sz:=by rw[←p2.length,pF hu,hel]
 have fu:(n+m)*step sz=n*step sz+m*step sz:=tV _ _ _;rw[hve]at p1;simp only[Value.slice.injEq]at p1;obtain⟨rfl,_,rfl⟩:=p1;by_cases hc:n+m<=cap
 ·have hnn:=dA.1 hc;have hadd:(⟨b0,kI,none⟩:Addr).add (n*step sz)=⟨b0,kI+n*step sz,none⟩:=Addr.add_lit ..;by_cases dz:es=[]
  ·have mZ:cap=0:=by
    cases p with
    |ro=>exact absurd rfl hp
    |own=>
     obtain⟨b,ai,iN,aI,st,e,_,_,_,h6,_⟩:=hv;rw[hve]at e;simp only[Value.slice.injEq]at e;rw[e.2.2];exact h6.2 dz
    |app=>
     obtain⟨b,ai,iN,aI,st,e,_,_,_,_,_,h6,_⟩:=hv;rw[hve]at e;simp only[Value.slice.injEq]at e;rw[e.2.2];exact h6.2 dz
   have hm0:m=0:=by omega
   subst hm0;have hy0:ys=[]:=mi hyl;have hn0:eu=[]:=mi (by omega);subst hn0;have gI:res=.ok (.value v) w:=by
    rw[hnn];simp[storeCells,hve]
   refine qL gI (by rw[hr,hy0,ry]) (.refl _ _ _) h (.of_SV hv)
  ·have gI:∀{aI:Array Value},blk w b0 aI->kI+(n+m)*step sz<=aI.size->res=.ok (.value (.slice (some ⟨b0,kI,none⟩) (n+m) cap)) (w.setCells b0 (kI+n*step sz) eu):=fun{aI} hb hfit=>by
    have dx:=V3 (P:=T.P) hb (kI+n*step sz) eu jB (by omega);rw[hnn];show((Sem.run T.P (storeCells ((⟨b0,kI,none⟩:Addr).add (n*step sz)) eu) w).andThen _).andThen _=_;rw[hadd,dx];rfl
   have aR:∀{st:Nat},(∀x∈es,x.cells.length=st)->st=step sz:=fun{st} hs=>by
    cases es with
    |nil=>exact absurd rfl dz
    |cons e0 es=>exact(hs e0 (by simp)).symm.trans (hu e0 (by simp))
   have hmul:∀{aI:Array Value},kI+cap*step sz<=aI.size->kI+(n+m)*step sz<=aI.size:=fun{aI} hh=>by
    have:(n+m)*step sz<=cap*step sz:=zM _ hc;omega
   have rP:es++ys=[]->cap=0:=fun e=>absurd (List.append_eq_nil_iff.1 e).1 dz;have bq:(es++ys).length=n+m:=by simp[hel,hyl]
   cases p with
   |ro=>exact absurd rfl hp
   |own=>
    obtain⟨b,ai,iN,aI,st,e,⟨h1,h2,h3⟩,h4,h5,h6,h7,h8⟩:=hv;rw[hve]at e;simp only[Value.slice.injEq,aD,Addr.mk.injEq,nE]at e;obtain⟨⟨rfl,rfl⟩,_,rfl⟩:=e;have:=aR h7;subst this;have x1:Ext ae g w g (w.setCells b0 (kI+n*step sz) eu):=Ext.setCells (by rw[h2];exact jK _) (by rw[h1];simp) (fun i hi=>by rw[h1];simp);refine qL (gI h3 (hmul h4)) hr x1 (h.write_res h1 (by rw[h2];exact jK _)) (.of_SV ?_);obtain⟨r1,us',r2,r3⟩:=zcI ⟨h7,h8⟩ hn hys hel hyl (hmul h4);exact⟨b0,kI,cap,_,step sz,by rw[bq],⟨h1,h2,h3.setCells _ eu jB⟩,by simpa[xP]using h4,by rw[bq];exact hc,⟨h6.1,rP⟩,r1,us',Vs.mono x1 r2,r3⟩
   |app=>
    obtain⟨b,ai,iN,aI,st,e,h1,h2,h3,h4,h5,h6,h7,h8⟩:=hv;rw[hve]at e;simp only[Value.slice.injEq,aD,Addr.mk.injEq,nE]at e;obtain⟨⟨rfl,rfl⟩,_,rfl⟩:=e;have:=aR h7;subst this;rw[hel]at h2;have x1:Ext ae g w g (w.setCells b0 (kI+n*step sz) eu):=Ext.setCells (by rw[h2];exact aX _) (by rw[h1];simp) (fun i hi=>by rw[h1];simp);have e1:=h.write_res (us:=eu) h1 (by rw[h2];exact aX (kI+n*step sz));have x2:Ext ae g (w.setCells b0 (kI+n*step sz) eu) (g.settle b0 (kI+(n+m)*step sz)) (w.setCells b0 (kI+n*step sz) eu):=Ext.settle (by omega) (by rw[h1];simp) (by rw[h1];simp);have jG:=h3.setCells (kI+n*step sz) eu jB;refine qL (gI h3 (hmul h4)) hr (x1.trans x2) (e1.settle_res h1 (by omega) jG.lt) (.of_SV ?_);obtain⟨r1,us',r2,r3⟩:=zcI ⟨h7,h8⟩ hn hys hel hyl (hmul h4);exact⟨b0,kI,cap,_,step sz,by rw[bq],h1,by simp[Gh.settle,bq],jG,by simpa[xP]using h4,by rw[bq];exact hc,⟨h6.1,rP⟩,r1,us',Vs.mono (x1.trans x2) r2,r3⟩
 ·have hgc:cap<n+m:=by omega
  have gI:=dA.2 hgc us (fun w' hw=>run_firstCells_some w' (step sz) n ⟨b0,kI,none⟩ n cap us hul fun j v hv=>by
   rw[Addr.add_lit];have:=p5 j v hv;simpa only[World.cell?,hw]using this)
  have dw:=zfr (ae:=ae) (h0:=false) (p:=.own) (r:=.ok (.slc .own (es++ys)) σ) h hz hzs hu hys p2 hn p3 jB hel hyl rfl (by omega) gI rfl;cases p with
  |ro=>exact absurd rfl hp
  |own=>rw[hr];exact dw
  |app=>
   rw[hr];refine dw.imp (fun v w hvw=>hvw.weaken) (fun v w hvw=>?_);obtain⟨_,_,_,e,_⟩:=hvw;cases e
theorem zfs{P:Program}{e:Nat}{z:Value}{sz n cap:Nat}{fE:Option Addr}{res:Result Next}(h:J7 P w e z sz n 0 cap fE [] res)(hn:n<=cap):res=.ok (.value (.slice fE n cap)) w:=by
 rw[h.1 hn];cases fE with
 |none=>rfl
 |some a=>simp[storeCells]
theorem zmI(h:Rel T vs N g w σ tm){x1 x2:Operand}{y1 y2:Opd}{h0:Bool}{t u sz:Nat}{call:CallF}(ho:o.op=.call { callee:=.builtin .append,args:= #[x1,x2],argTypes:= #[t,u] })(h1:bE T vs N x1 y1=true)(h2:bE T vs N x2 y2=true)
  (hc:J3 T.P t u sz=true) (he:cB call ae (.append h0 sz y1 y2) σ=some r):OpOKr T ((execOp (Act.mk tm ds).eval o).run T.P w) (OpPost T ae vs N g w tm r) (jY T ae vs N g w tm r):=by
 obtain⟨e,d,i,z,c1,c2,c3,c4,c5,c6,c7,c8,c9⟩:=ze7 hc;simp only[cB]at he;split at he
 ·cases he
 ·rename_i ys hys;obtain⟨eu,n1,n2,n3,n4⟩:=(M8 (ds:=ds) h h2 hys).read (P:=T.P);have hyu:=(M8 (ds:=ds) h h2 hys).1;have dA:∀{n cap:Nat}{fE:Option Addr},(Act.mk tm ds).eval x1=.slice fE n cap->(n+ys.length)*step sz<=lim->J7 T.P w e z sz n ys.length cap fE eu ((execOp (Act.mk tm ds).eval o).run T.P w):=fun{n cap fE} hv hl=>by
   obtain⟨k1,k2⟩:=zcC (P:=T.P) (w:=w) (ty:=o.type) (fE:=fE) (n:=n) (cap:=cap) (z:=z) c1 c2 c3 c4 c5 c6 c7 hl n4;have hx:(execOp (Act.mk tm ds).eval o).run T.P w=((Builtin.append_ #[t,u] o.type #[.slice fE n cap,(Act.mk tm ds).eval x2]).run T.P w).andThen fun v w=>.ok (.value v) w:=by
    simp[execOp,ho,resolve,invoke,builtin,hv]
   refine⟨fun cu=>?_,fun hg mW hol=>?_⟩
   ·rw[hx,k1 cu];cases fE<;>rfl
   ·rw[hx,k2 hg mW hol];rfl
  have hr1:=lS (ds:=ds) h h1;split at he
  ·rename_i st id ai n ha;rw[ha]at hr1;cases dW:(Nat.ble ae id&&Nat.beq st (step sz)&&Nat.ble ((n+ys.length)*st) lim&&Nat.beq ai 0)with
   |false=>simp[dW]at he
   |true=>
    simp only[dW,bA]at he;simp only[aU]at dW;obtain⟨⟨⟨q1,q2⟩,q3⟩,q4⟩:=dW;have q2:=dH q2;have q4:=dH q4;subst q4;split at he
    ·rename_i cs hid;split at he
     ·rename_i l hl;simp only[aD]at he;have hV:V T g w (.msl st id 0 n) ((Act.mk tm ds).eval x1):=hr1;obtain⟨b,cap,ty,m',k1,k2,k3,k4,k5,k6⟩:=V.msl_inv hV;exact zro h c9 (by rw[c8,c6]) hV k6 q2 (iy q1) hid hl hyu n1 n2 rfl (dA k6 (by rw[←q2];exact iy q3)) he.symm
     ·cases he
    ·cases he
  ·rename_i ha;rw[ha]at hr1;have hv:=V.nils_inv hr1;split at he
   ·simp only[aD]at he;have hl:(0+([]:List AV).length)*step sz<=lim:=by simp
    have hnn:eu=[]:=mi (by rw[n3];simp);subst hnn;exact Ww (zfs (dA hv hl) (aX _)) h he.symm (.of_V .nils)
   ·rename_i aR;cases ja:Nat.ble (ys.length*step sz) lim with
    |false=>simp[ja]at he
    |true=>
     simp only[ja,bA]at he;have lH:0<ys.length:=by
      rcases Je ys.length with h0|h0
      ·exact absurd (mi h0) aR
      ·exact h0
     have hl:(0+ys.length)*step sz<=lim:=by rw[jZ];exact iy ja
     have gI:=(dA hv hl).2 (by omega) [] (fun w' _=>by simp[Builtin.firstCells]);have hr:r=bif h0 then Ak.newRow σ (step sz) ([]++ys)else .ok (.slc .own ([]++ys)) σ:=by
      cases h0<;>simp only[bA,fq,aD,gV]at he ⊢ <;> exact he.symm
     exact zfr (n:=0) (es:=[]) (mW:=[]) (p:=.own) h c9 (by rw[c8,c6]) (by simp) hyu .nil n1 (by simp) n2 rfl rfl rfl (by omega) gI hr
  ·split at he
   ·rename_i es σ' ht;obtain⟨g',e1,e2,e3,_⟩:=Jn (ds:=ds) (ae:=ae) h h1 ht;split at he
    ·simp only[aD]at he;obtain⟨_,b,o',us,st,cap,_,_,_,_,k5,k6⟩:=V.slc_inv e3;have hnn:eu=[]:=mi (by rw[n3];simp);subst hnn;have hx:(execOp (Act.mk tm ds).eval o).run T.P w=((Builtin.append_ #[t,u] o.type #[.slice (some ⟨b,o',none⟩) es.length cap,(Act.mk tm ds).eval x2]).run T.P w).andThen fun v w=>.ok (.value v) w:=by
      simp[execOp,ho,resolve,invoke,builtin,k6]
     obtain⟨l1,f1⟩:=n4 w rfl;have hru:(execOp (Act.mk tm ds).eval o).run T.P w=.ok (.value ((Act.mk tm ds).eval x1)) w:=by
      rw[hx,zcB c1 c2 c3 c4 c6 l1 f1 k5,k6];rfl
     exact qL hru he.symm e1 e2 (.of_SV e3)
    ·cases he
   ·rename_i p es σ' hp ht;obtain⟨g',e1,e2,e3,_⟩:=Jn (ds:=ds) (ae:=ae) h h1 ht;cases dW:(jF sz es&&Nat.ble ((es.length+ys.length)*step sz) lim)with
    |false=>simp[dW]at he
    |true=>
     simp only[dW,bA,aD]at he;simp only[aU]at dW;obtain⟨b0,kI,cap0,us,st0,p1,_⟩:=e3.row;have hp':p ≠ .ro:=fun e=>by subst e;exact hp rfl
     have:=zrn (ae:=ae) (r:=r) e2 c9 (by rw[c8,c6]) hp' e3 p1 dW.1 rfl hyu (Vs.mono e1 n1) n2 rfl (dA p1 (iy dW.2)) he.symm;refine this.imp (fun v w'' hh=>?_) (fun v w'' hh=>?_)
     ·obtain⟨a,s2,g2,k1,k2,k3,k4⟩:=hh;exact⟨a,s2,g2,k1,e1.trans k2,k3,k4⟩
     ·obtain⟨a,s2,g2,k1,k2,k3,k4⟩:=hh;exact⟨a,s2,g2,k1,e1.trans k2,k3,k4⟩
   ·cases he
theorem zmJ(h:Rel T vs N g w σ tm){x1 x2:Operand}{y1 y2:Opd}{t u:Nat}{call:CallF}(ho:o.op=.call { callee:=.builtin .append,args:= #[x1,x2],argTypes:= #[t,u] })(h1:bE T vs N x1 y1=true)(h2:bE T vs N x2 y2=true)
  (hc:J3 T.P t u 0=true) (ht:T.P.underlying t=some (.slice (T.tm 5))) (he:cB call ae (.appB y1 y2) σ=some r):OpOKr T ((execOp (Act.mk tm ds).eval o).run T.P w) (OpPost T ae vs N g w tm r) (jY T ae vs N g w tm r):=by
 obtain⟨e,d,i,z,c1,c2,c3,c4,c5,c6,c7,c8,c9⟩:=ze7 hc;have hte:e=T.tm 5:=by rw[ht]at c1;cases c1;rfl
 subst hte;simp only[cB]at he;split at he
 ·cases he
 ·rename_i ys hys;obtain⟨eu,n1,n2,n3,n4⟩:=(M8 (ds:=ds) h h2 hys).read (P:=T.P);have hyu:=(M8 (ds:=ds) h h2 hys).1;have hs1:step 0=1:=rfl;have dA:∀{n cap:Nat}{fE:Option Addr},(Act.mk tm ds).eval x1=.slice fE n cap->(n+ys.length)*step 0<=lim->J7 T.P w (T.tm 5) z 0 n ys.length cap fE eu ((execOp (Act.mk tm ds).eval o).run T.P w):=fun{n cap fE} hv hl=>by
   obtain⟨k1,k2⟩:=zcC (P:=T.P) (w:=w) (ty:=o.type) (fE:=fE) (n:=n) (cap:=cap) (z:=z) c1 c2 c3 c4 c5 c6 c7 hl n4;have hx:(execOp (Act.mk tm ds).eval o).run T.P w=((Builtin.append_ #[t,u] o.type #[.slice fE n cap,(Act.mk tm ds).eval x2]).run T.P w).andThen fun v w=>.ok (.value v) w:=by
    simp[execOp,ho,resolve,invoke,builtin,hv]
   refine⟨fun cu=>?_,fun hg mW hol=>?_⟩
   ·rw[hx,k1 cu];cases fE<;>rfl
   ·rw[hx,k2 hg mW hol];rfl
  have hr1:=lS (ds:=ds) h h1;split at he
  ·rename_i id n ha;rw[ha]at hr1;cases dW:(Nat.ble ae id&&Nat.ble (n+ys.length) lim)with
   |false=>simp[dW]at he
   |true=>
    simp only[dW,bA]at he;simp only[aU]at dW;obtain⟨q1,q3⟩:=dW;split at he
    ·rename_i cs hid;split at he
     ·rename_i l hl;simp only[aD]at he;have hV0:V T g w (.bsl id n) ((Act.mk tm ds).eval x1):=hr1;obtain⟨b,cap,m',k1,k2,k3,k4,k5⟩:=V.bsl_inv hV0;have hV:V T g w (.msl 1 id 0 n) ((Act.mk tm ds).eval x1):=by rw[k5];exact .msl 1 id 0 n b cap _ _ k1 k2 (by omega) k4 (by omega)
      exact zfq (Q:=fun ty=>ty=T.tm 5) h c9 (by rw[c8,c6]) hV k5 hs1.symm (iy q1) hid (by simpa using hl) hyu n1 n2 rfl (dA k5 (by rw[hs1,F9];exact iy q3))
       (fun b' ty k z1 z2=>by rw[k1]at z1;cases z1;rw[k2]at z2;cases z2;rfl) rfl
       (fun g' w' b cap ty k z1 z2 z3 z4 z5=>by subst z5;exact .bsl _ _ b cap k z1 z2 (by simpa[hs1]using z3) z4) he.symm
     ·cases he
    ·cases he
  ·rename_i ha;rw[ha]at hr1;have hv:=V.nils_inv hr1;split at he
   ·simp only[aD]at he;have hl:(0+([]:List AV).length)*step 0<=lim:=by simp
    have hnn:eu=[]:=mi (by rw[n3];simp);subst hnn;exact Ww (zfs (dA hv hl) (aX _)) h he.symm (.of_V .nils)
   ·rename_i aR;cases ja:Nat.ble ys.length lim with
    |false=>simp[ja]at he
    |true=>
     simp only[ja,bA,aD]at he;have lH:0<ys.length:=by
      rcases Je ys.length with h0|h0
      ·exact absurd (mi h0) aR
      ·exact h0
     have hl:(0+ys.length)*step 0<=lim:=by rw[jZ,hs1,F9];exact iy ja
     have gI:=(dA hv hl).2 (by omega) [] (fun w' _=>by simp[Builtin.firstCells]);rw[jZ]at gI;have jD:=grownCap_ge w ys.length 0 (T.tm 5);have hfl:(cz ys).length=eu.length:=n1.length;have kw:eu.length=ys.length:=by rw[n3,hs1,F9]
     have hzz:z.cells.size=1:=by rw[c8,c6,hs1]
     have hm:More w (w.drew.alloc (.cells (([]:List Value).toArray++eu.toArray++Builtin.zeroCells z.cells (grownCap w ys.length 0 (T.tm 5)-ys.length)) (T.tm 5))) (.cells (([]:List Value).toArray++eu.toArray++Builtin.zeroCells z.cells (grownCap w ys.length 0 (T.tm 5)-ys.length)) (T.tm 5) (0,0)):=⟨rfl,rfl,rfl⟩
     obtain⟨e1,e2,e3⟩:=h.newObj (ae:=ae) (cs:=cz ys) hm (fun k _=>by simp) (fun v hv=>by
       simp only[LW,qy]at hv;rcases hv with(hv|hv)|hv
       ·simp at hv
       ·exact n2 v hv
       ·exact VC c9 v hv) (by
       simp only[LW,gV];rw[zby (by simp[hfl]),hfl];simpa using n1) (by simp[hfl])
     refine qL gI he.symm e1 e2 (.of_V ?_);refine .bsl _ _ _ _ _ e3 (by simp only[World.shape?,hm.new];rfl) ?_ jD;simp[size_zeroCells,hzz,kw];omega
  ·cases he
end
end Go.Ak
namespace Go.Ak
theorem zqE{P:Program}{t:Nat}{n:Option Nat}(h:sU P t n=true):∃i,P.info? t=some i∧i.size=kW n:=by
 cases n with
 |none=>exact yg (Rw h)
 |some n=>
  obtain⟨h0,h1⟩:=Xt h;obtain⟨i,h2,h3⟩:=yg h1;exact⟨i,h2,by rw[h3,VQ h0];rfl⟩
section
variable {T:Tr} {ae:Nat} {vs:List Nat} {N:Nat} {g:Gh} {w:World} {σ:St} {tm:Array Value} {ds:List Deferred} {o:Oper} {r:OpR}
theorem zmh(h:Rel T vs N g w σ tm){x1 x2:Operand}{y1 y2:Opd}{t:Nat}{n:Option Nat}{call:CallF}(ho:o.op=.store t x1 x2)(h1:bE T vs N x1 y1=true)(h2:bE T vs N x2 y2=true)(hn:sU T.P t n=true)
  (he:cB call ae (.store n y1 y2) σ=some r):OpOKr T ((execOp (Act.mk tm ds).eval o).run T.P w) (OpPost T ae vs N g w tm r) (jY T ae vs N g w tm r):=by
 simp only[cB]at he;split at he
 ·rename_i a σ' hesc;obtain⟨g1,e1,e2,e3,e4,e5,_⟩:=ut (ds:=ds) (ae:=ae) h h2 hesc;have bM:=V.cells e3 (V.defined e4) e5;cases hl:Nat.beq a.cells.length (kW n)with
  |false=>simp[hl]at he
  |true=>
   simp only[hl,bA]at he;split at he
   ·rename_i σ2 hw;simp only[aD]at he;obtain⟨b,ai,aI,k1,k2,k3,k4,k5⟩:=zbE (ae:=ae) e2 (lS (ds:=ds) e2 h1) bM.1 bM.2 hw;obtain⟨i,i1,i2⟩:=zqE hn;have fu:((Act.mk tm ds).eval x2).cells.size=i.size:=by
     have h1:=bM.1.length;have h2:=dH hl;rw[i2,←h2,h1];simp
    have dA:(execOp (Act.mk tm ds).eval o).run T.P w=.ok .skip (w.setCells b ai ((Act.mk tm ds).eval x2).cells.toList):=by
     have dx:=V3 (P:=T.P) k2 ai _ bM.2 k3;simp only[execOp,ho,Instr.storeAt,k1,Instr.sureAddr,Sem.run_bind,Sem.run_pure,Result.andThen_ok,storeVar,pE i1];simp[fu,dx]
    rw[dA];exact⟨.undef, σ2,g1,he.symm,e1.trans k4,k5,V.undef _⟩
   ·cases he
 ·cases he
theorem zmm(h:Rel T vs N g w σ tm){x:Operand}{y:Opd}{call:CallF}(ho:o.op=.panic x)(hc:bE T vs N x y=true)(he:cB call ae (.panic y) σ=some r):
  OpOKr T ((execOp (Act.mk tm ds).eval o).run T.P w) (OpPost T ae vs N g w tm r) (jY T ae vs N g w tm r):=by
 simp only[cB]at he;split at he
 ·rename_i t v σ' hesc;simp only[aD]at he;obtain⟨g1,e1,e2,e3,_⟩:=ut (ds:=ds) (ae:=ae) h hc hesc;obtain⟨u,k1,k2⟩:=V.ifc_inv e3;have dA:(execOp (Act.mk tm ds).eval o).run T.P w=.halt (.panic ((Act.mk tm ds).eval x)) w:=by
   simp[execOp,ho,k2,Instr.panic,goPanic]
  rw[dA];exact⟨_, σ',g1,he.symm,e1,e2,e3⟩
 ·cases he
theorem zmk(h:Rel T vs N g w σ tm){x:Operand}{y:Opd}{s d e:Nat}{h0:Bool}{call:CallF}(ho:o.op=.convert s d x)(hc:bE T vs N x y=true)(hs:T.P.underlying s=some .string)(hd:T.P.underlying d=some (.slice e))(hu:T.P.underlying e=some (.int .u8))
  (he:cB call ae (.s2b h0 y) σ=some r):OpOKr T ((execOp (Act.mk tm ds).eval o).run T.P w) (OpPost T ae vs N g w tm r) (jY T ae vs N g w tm r):=by
 simp only[cB]at he;split at he
 ·rename_i s' je;have hv:=JC (ds:=ds) h hc je;have fu:(⟨s'.toArray⟩:ByteArray).size=s'.length:=rfl;have jD:=grownCap_ge w s'.length 0 e;have dA:(execOp (Act.mk tm ds).eval o).run T.P w=.ok (.value (.slice (some ⟨w.heap.size,0,none⟩) (iD s').length (grownCap w s'.length 0 e))) (Lib.bytesWorld w e ⟨s'.toArray⟩):=by
   simp only[execOp,ho,hv,Sem.run_bind,Lib.run_convert_string_bytes w s d e _ hs hd hu,Result.andThen_ok,Sem.run_pure,fu];simp[iD]
  have aH:(Lib.bytesCells w e ⟨s'.toArray⟩).toList=(s'.map fun b=>Value.int .u8 b.toNat)++List.replicate (grownCap w s'.length 0 e-s'.length) (.int .u8 0):=by
   simp[Lib.bytesCells,fu]
  have hcz:(Lib.bytesCells w e ⟨s'.toArray⟩).size=grownCap w s'.length 0 e:=by
   rw[←Qj,aH];simp;omega
  have hm:More w (Lib.bytesWorld w e ⟨s'.toArray⟩) (.cells (Lib.bytesCells w e ⟨s'.toArray⟩) e ((Lib.bytesCells w e ⟨s'.toArray⟩).size,(Lib.bytesCells w e ⟨s'.toArray⟩).size+1)):=by
   refine⟨?_,rfl,rfl⟩;apply Bt;apply Br;intro i;rw[mR,mR];by_cases c:i<w.heap.size
   ·rw[Lib.bytesWorld_at_old w e _ i c,Ji];rw[aF (by omega)]
   ·by_cases c2:i=w.heap.size
    ·subst c2;rw[Lib.bytesWorld_at_new,Ji];simp
    ·rw[xK (by rw[Lib.bytesWorld_size];omega),xK (by simp;omega)]
  by_cases h00:h0=false∧s'=[]
  ·obtain⟨rfl,rfl⟩:=h00;simp only[fq,aD]at he;obtain⟨e1,e2,_⟩:=h.more (ae:=ae) hm;exact qL dA he.symm e1 e2 (.of_V (.slc [] w.heap.size 0 [] 1 _ (fun k v hk=>by simp at hk) .nil (by simp) (by omega) (by simp)))
  have hs0:h0=true∨∃a l,s'=a::l:=by
   cases h0 with
   |true=>exact .inl rfl
   |false=>cases s' with
    |nil=>exact absurd ⟨rfl,rfl⟩ h00
    |cons a l=>exact .inr ⟨a,l,rfl⟩
  refine QI (ae:=ae) (h0:=h0) (st:=1) (es:=iD s') (us:=s'.map fun b=>Value.int .u8 b.toNat) h hm (fun k hk hh=>by have:=hh.1;omega) (fun v hv=>?_) (by rw[zef];exact Vs.bytes s') ?_ (fun x hx=>?_) (by omega) (by rw[hcz];omega) (by simp[iD];exact jD) dA ?_ ?_
  ·rw[aH]at hv;rcases qy.1 hv with hv|hv
   ·obtain⟨b,_,rfl⟩:=pg.1 hv;rfl
   ·rw[LP hv];rfl
  ·rw[aH,List.take_left'];simp
  ·obtain⟨b,_,rfl⟩:=pg.1 hx;rfl
  ·rcases hs0 with rfl|⟨a,l,rfl⟩
   ·simp only[bA,aD]at he ⊢;exact he.symm
   ·cases h0<;>simp only[bA,fq,aD]at he ⊢ <;> exact he.symm
  ·intro e1 e2;rcases hs0 with rfl|⟨a,l,rfl⟩
   ·cases e1
   ·simp[iD]at e2
 ·cases he
theorem zb3:∀{l:List AV}{s:List UInt8}{us:List Value},strOf l=some s->Vs T g w l us->∃ns:List Int,us=ns.map (Value.int .u8)∧∀aW:ByteArray,(ns.foldl (fun r n=>r.push (UInt8.ofNat n.toNat)) aW)=⟨aW.data++s.toArray⟩
 | [],s,us,h,hv=>by
  cases hv;simp only[strOf,aD]at h;subst h;exact⟨[],rfl,fun aW=>by simp⟩
 |a::l,s,us,h,hv=>by
  cases hv with
  |cons _ v _ vs h1 h2=>
   unfold strOf at h;split at h
   ·rename_i e;cases e
   ·rename_i n l' e;cases e;split at h
    ·rename_i s' hs;simp only[aD]at h;subst h;have:=V.int_inv h1;subst this;obtain⟨ns,k1,k2⟩:=zb3 hs h2;refine⟨n::ns,by simp[k1],fun aW=>?_⟩;rw[List.foldl_cons,k2];congr 1;apply Bt;simp[ByteArray.push]
    ·cases h
   ·cases h
theorem zmH(h:Rel T vs N g w σ tm){x:Operand}{y:Opd}{s d e:Nat}{call:CallF}(ho:o.op=.convert s d x)(hc:bE T vs N x y=true)(hs:T.P.underlying s=some (.slice e))(hd:T.P.underlying d=some .string)(hu:T.P.underlying e=some (.int .u8))
  (he:cB call ae (.b2s y) σ=some r):OpOKr T ((execOp (Act.mk tm ds).eval o).run T.P w) (OpPost T ae vs N g w tm r) (jY T ae vs N g w tm r):=by
 have hr:=lS (ds:=ds) h hc;simp only[cB]at he;split at he
 ·cases he
 rename_i hns;split at he
 ·rename_i l hl;split at he
  ·rename_i st dx;simp only[aD]at he;obtain⟨h1,us,h2,h3,h4⟩:=M8 (ds:=ds) h hc hl;have hfl:cz l=l:=by
    have:∀(l:List AV)(s:List UInt8),strOf l=some s->cz l=l:=by
     intro l;induction l with
     |nil=>intro s _;rfl
     |cons a l ih=>
      intro s hs;unfold strOf at hs;split at hs
      ·rename_i e;cases e
      ·rename_i n l' e;cases e;split at hs
       ·rename_i s' gz;have:=ih s' gz;simp only[cz,lq,AV.cells]at this ⊢;rw[this];rfl
       ·cases hs
      ·cases hs
    exact this l st dx
   rw[hfl]at h2;obtain⟨ns,k1,k2⟩:=zb3 dx h2;refine Ww (v:=.string ⟨st.toArray⟩) ?_ h he.symm (.of_V (.str st));rcases h4 with⟨hv,rP⟩|⟨b,ai,cap,hv,sQ⟩|⟨s',hv,hb,_,hus⟩
   ·subst rP;simp only[strOf,aD]at dx;subst dx;simp[execOp,ho,hv,convert,run_underlying hs,run_underlying hd,run_underlying hu,Conv.bytesToString];rfl
   ·have hlc:(loadCells ⟨b,ai,none⟩ l.length).run T.P w=.ok (ns.map (Value.int .u8)).toArray w:=by
     have:=run_loadCells_list (P:=T.P) w ⟨b,ai,none⟩ us (fun j v hj=>by rw[Addr.add_lit];exact sQ j v hj);rw[k1]at this;have bq:(ns.map (Value.int .u8)).length=l.length:=by rw[←k1,←h2.length]
     rw[bq]at this;exact this
    have:=run_bytesToString (P:=T.P) w ⟨b,ai,none⟩ l.length cap ns hlc;rw[k2]at this;simp[execOp,ho,hv,convert,run_underlying hs,run_underlying hd,run_underlying hu,this]
   ·exfalso;unfold qR at hl;split at hl
    ·rename_i ha;rw[ha]at hr;rw[V.nils_inv hr]at hv;cases hv
    ·rename_i p es ha;rw[ha]at hr;obtain⟨b,ai,cap,us',st',q1,_⟩:=SV.row (hr.SV_of rfl);rw[q1]at hv;cases hv
    ·rename_i s2 ha;exact hns s2 ha
    ·rename_i t' k lo n ha;rw[ha]at hr;cases hk:Nat.beq (fO σ.mods t') k with
     |false=>simp[hk]at hl
     |true=>
      simp only[hk,bA]at hl;split at hl
      ·rename_i p es hlk;obtain⟨_,b,o',cap,st',xx,iN,_,_,j3,_⟩:=hr.2 (dH hk).symm p es hlk;rw[j3]at hv;cases hv
      ·cases hl
    ·rename_i st' id ai n ha;rw[ha]at hr;obtain⟨b,cap,ty,m,_,_,_,_,_,k6⟩:=V.msl_inv hr;rw[k6]at hv;cases hv
    ·cases hl
  ·cases he
 ·cases he
def Fu(T:Tr)(vs:List Nat)(N:Nat):Option Operand->Option Opd->Bool
 |none,none=>true
 |some x,some y=>bE T vs N x y
 |_,_=>false
def JY(P:Program)(t:Nat):Option Nat->Bool
 |none=>match P.underlying t with|some .string=>true|_=>false
 |some sz=>match P.underlying t with|some (.slice e)=>nR P e sz|_=>false
theorem V4{P:Program}(isS:Bool)(len cap l h':Nat)(lo hi:Option Value)(hl:(lo=none∧l=0)∨∃k,lo=some (.int k (l:Int)))(hh:(hi=none∧h'=len)∨∃k,hi=some (.int k (h':Int)))(h1:l<=h')(h2:h'<=cap)(w:World):
  (Instr.sliceBounds isS len cap lo hi none).run P w=.ok (l,h',cap) w:=by
 have e1:(0:Int)<=(h':Int)∧(h':Int)<=(cap:Int):=by omega
 have e2:(0:Int)<=(l:Int)∧(l:Int)<=(h':Int):=by omega
 rcases hl with⟨rfl,rfl⟩|⟨k,rfl⟩<;>rcases hh with⟨rfl,rfl⟩|⟨k',rfl⟩<;>simp[Instr.sliceBounds,Instr.sliceBound,asIntOf,h1,h2]
theorem ze5{lo:Option Operand}{yl:Option Opd}(h:Rel T vs N g w σ tm)(hc:Fu T vs N lo yl=true){d n:Nat}(hb:bound σ d yl=some n):
  (lo=none∧yl=none∧n=d)∨∃k,lo.map (Act.mk tm ds).eval=some (.int k (n:Int)):=by
 cases lo with
 |none=>cases yl with
  |none=>simp only[bound,aD]at hb;exact .inl ⟨rfl,rfl,hb.symm⟩
  |some y=>simp[Fu]at hc
 |some x=>cases yl with
  |none=>simp[Fu]at hc
  |some y=>
   obtain⟨k,hk⟩:=Gu (ds:=ds) h hc hb;exact .inr ⟨k,by simp[hk]⟩
theorem zch(h:Rel T vs N g w σ tm){x:Operand}{y:Opd}{t:Nat}{sz:Option Nat}(hc:bE T vs N x y=true)(ht:JY T.P t sz=true){lo hi:Option Value}{l:Nat}{hA:Option Nat}{a:AV}
  (hl:(lo=none∧l=0)∨∃k,lo=some (.int k (l:Int))) (hh:(hi=none∧hA=none)∨∃k n,hA=some n∧hi=some (.int k (n:Int))) (he:uh σ sz (l8 σ y) l hA=some a) :
  ∃v,(∀w',(Instr.sliceAt t ((Act.mk tm ds).eval x) lo hi none).run T.P w'=.ok v w')∧AVR T g w σ tm .res a v:=by
 have hr:=lS (ds:=ds) h hc;have hhi:∀d:Nat,(hi=none∧hA.getD d=d)∨∃k,hi=some (.int k ((hA.getD d:Nat):Int)):=fun d=>by
  rcases hh with⟨h1,rfl⟩|⟨k,n,rfl,h1⟩
  ·exact .inl ⟨h1,rfl⟩
  ·exact .inr ⟨k,h1⟩
 have hhi':∀d:Nat,(hi=none∧hA.getD d=d)∨∃k,hi=some (.int k ((hA.getD d:Nat):Int)):=hhi;have dw:∀{b o' n cap:Nat},(Act.mk tm ds).eval x=.slice (some ⟨b,o',none⟩) n cap->l<=hA.getD n->hA.getD n<=n->n<=cap->∀sz',sz=some sz'->
   ∃v,(∀w',(Instr.sliceAt t ((Act.mk tm ds).eval x) lo hi none).run T.P w'=.ok v w')∧∃x',v=.slice (some ⟨b,x',none⟩) (hA.getD n-l) (cap-l)∧(hA.getD n-l=0∨x'=o'+l*step sz')∧(l=0->x'=o'):=fun{b o' n cap} hv q1 q2 q3 sz' hs=>by
  subst hs;simp only[JY]at ht;split at ht
  ·rename_i e hu;obtain⟨i,i1,i2⟩:=yg ht;have hb:=V4 (P:=T.P) true n cap l (hA.getD n) lo hi hl (hhi n) q1 (by omega);by_cases hc:cap=l
   ·refine⟨_,?_,o',rfl,.inl (by omega),fun _=>rfl⟩;simp[Instr.sliceAt,Instr.slice,underlying,hu,hv,hb,pE i1];simp[hc]
   ·refine⟨_,?_,o'+l*step sz',rfl,.inr rfl,fun e=>by simp[e]⟩;simp[Instr.sliceAt,Instr.slice,underlying,hu,hv,hb,pE i1,hc,i2,Addr.add_lit]
  ·cases ht
 unfold uh at he;split at he
 ·rename_i s hL;have hv:=JC (ds:=ds) h hc (kv hL (by simp)).1;cases dW:(Nat.ble l (hA.getD s.length)&&Nat.ble (hA.getD s.length) s.length)with
  |false=>simp[dW]at he
  |true=>
   simp only[dW,bA,aD]at he;simp only[aU]at dW;have q1:=iy dW.1;have q2:=iy dW.2;have hu:T.P.underlying t=some .string:=by
    simp only[JY]at ht;split at ht
    ·assumption
    ·cases ht
   have hb:=V4 (P:=T.P) false s.length s.length l (hA.getD s.length) lo hi hl (hhi _) q1 q2;have fu:(⟨s.toArray⟩:ByteArray).size=s.length:=rfl;refine⟨.string ((⟨s.toArray⟩:ByteArray).extract l (hA.getD s.length)),?_,?_⟩
   ·simp[Instr.sliceAt,Instr.slice,underlying,hu,hv,fu,hb]
   ·subst he;have:(⟨s.toArray⟩:ByteArray).extract l (hA.getD s.length)=⟨((s.drop l).take (hA.getD s.length-l)).toArray⟩:=by
     rw[ByteArray.extract_mk]
    rw[this];exact .of_V (.str _)
 ·rename_i sz' hL;have hn:=kv hL (by simp);rw[hn.1]at hr;have hv:=V.nils_inv hr;cases dW:(Nat.beq l 0&&Nat.beq (hA.getD 0) 0)with
  |false=>simp[dW]at he
  |true=>
   simp only[dW,bA,aD]at he;simp only[aU]at dW;have q1:=dH dW.1;have q2:=dH dW.2;subst q1;simp only[JY]at ht;split at ht
   ·rename_i e hu;obtain⟨i,i1,i2⟩:=yg ht;have hb:=V4 (P:=T.P) true 0 0 0 0 lo hi hl (by have:=hhi 0;rw[q2]at this;exact this) (aX _) (aX _);refine⟨.slice none 0 0,?_,?_⟩
    ·simp[Instr.sliceAt,Instr.slice,underlying,hu,hv,hb,pE i1]
    ·subst he;exact .of_V .nils
   ·cases ht
 ·rename_i sz' es hL;rw[(kv hL (by simp)).1]at hr;obtain⟨_,b,o',us,st,cap,k1,k2,k3,k4,k5,hv⟩:=V.slc_inv hr;cases dW:(Nat.ble l (hA.getD es.length)&&Nat.ble (hA.getD es.length) es.length&&jF sz' es)with
  |false=>simp[dW]at he
  |true=>
   simp only[dW,bA,aD]at he;simp only[aU]at dW;have q1:=iy dW.1.1;have q2:=iy dW.1.2;have hu:=MQ dW.2 k3;obtain⟨v,r1,r2⟩:=dw hv q1 q2 (by omega) sz' rfl;refine⟨v,r1,?_⟩;subst he;obtain⟨x',rfl,hx,_⟩:=r2;have bq:((es.drop l).take (hA.getD es.length-l)).length=hA.getD es.length-l:=by simp;omega
   have mZ:((es.drop l).take (hA.getD es.length-l)).length<=cap-l:=by rw[bq];omega
   refine .of_V ?_;rcases hx with hx|rfl
   ·rw[hx,xD];exact .slc [] b x' [] 1 (cap-l) (fun k v hk=>by simp at hk) .nil (by simp) (by omega) (by simp)
   ·have hval:(Value.slice (some ⟨b,o'+l*step sz',none⟩) (hA.getD es.length-l) (cap-l))=.slice (some ⟨b,o'+l*step sz',none⟩) ((es.drop l).take (hA.getD es.length-l)).length (cap-l):=by rw[bq]
    rw[hval];refine .slc _ b _ ((us.drop (l*step sz')).take ((hA.getD es.length-l)*step sz')) (step sz') (cap-l) (k1.sub _ _) ?_ (Qr (Jl hu l) _) (Qw _) mZ;rw[M0 _ (Jl hu l),Rk l hu];exact(k2.drop _).take _
 ·rename_i sz' t' k o2 n hL;obtain⟨ha,hlv⟩:=kv hL (by simp);rw[ha]at hr;obtain⟨hk,p,es,hlk,_,b,o',cap,st,xx,iN,j1,j2,hv,j4,j5,j6⟩:=Q4 hlv hr;simp only[hlk]at he;cases dW:(Nat.ble l (hA.getD n)&&Nat.ble (hA.getD n) n&&jF sz' es)with
  |false=>simp[dW]at he
  |true=>
   simp only[dW,bA,aD]at he;simp only[aU]at dW;have q1:=iy dW.1.1;have q2:=iy dW.1.2;obtain⟨v,r1,x',r2,hx,hx0⟩:=dw hv q1 q2 j6 sz' rfl;refine⟨v,r1,?_⟩;subst he;refine⟨hr.1,fun hk2 p2 es2 hes2=>?_⟩;rw[hlk]at hes2;cases hes2;have hu:=MQ dW.2 j1;obtain⟨cu,_⟩:=hr.2 hk2 p es hlk;refine⟨by omega,b,o',cap,st,x',iN-l,j1,j2,r2,?_,fun h0=>?_,by omega⟩
   ·rcases hx with hx|rfl
    ·exact .inl hx
    ·rcases j4 with j4|j4
     ·left;omega
     ·by_cases h0:hA.getD n-l=0
      ·exact .inl h0
      ·right;have:st=step sz':=by
        cases es with
        |nil=>simp at cu;omega
        |cons e es=>exact(j1 e (by simp)).symm.trans (hu e (by simp))
       rw[j4,this,tX,tV]
   ·have h1:o2=0:=by omega
    have h2:l=0:=by omega
    obtain⟨h3,h4⟩:=j5 h1;exact⟨by rw[hx0 h2,h3],by omega⟩
 ·rename_i sz' st id ai n hL;rw[(kv hL (by simp)).1]at hr;obtain⟨b,cap,ty,m,k1,k2,k3,k4,k5,hv⟩:=V.msl_inv hr;cases dW:(Nat.ble l (hA.getD n)&&Nat.ble (hA.getD n) n&&Nat.beq st (step sz'))with
  |false=>simp[dW]at he
  |true=>
   simp only[dW,bA]at he;simp only[aU]at dW;have q1:=iy dW.1.1;have q2:=iy dW.1.2;have q3:=dH dW.2;obtain⟨v,r1,x',r2,hx,hx0⟩:=dw hv q1 q2 k4 sz' rfl;refine⟨v,r1,?_⟩;subst r2;cases hz:(Nat.beq (hA.getD n-l) 0 && !Nat.beq l 0)with
   |true=>
    simp only[hz,bA,aD]at he;subst he;have h0:hA.getD n-l=0:=by
     simp only[aU]at hz;exact dH hz.1
    rw[h0];exact .of_V (.slc [] b x' [] 1 (cap-l) (fun k v hk=>by simp at hk) .nil (by simp) (by omega) (by simp))
   |false=>
    simp only[hz,fq,aD]at he;subst he;have hxx:x'=ai+l*st:=by
     rcases hx with hx|hx
     ·have:l=0:=by
       rw[hx]at hz;simpa using hz
      rw[hx0 this,this];simp
     ·rw[hx,q3]
    rw[hxx];refine .of_V (.msl st id _ _ b (cap-l) ty m k1 k2 ?_ (by omega) k5);have:l*st+(cap-l)*st=cap*st:=by rw[←tV];congr 1;omega
    omega
 ·cases he
theorem zmi(h:Rel T vs N g w σ tm){x:Operand}{y:Opd}{t:Nat}{sz:Option Nat}{lo hi:Option Operand}{yl yh:Option Opd}{call:CallF}(ho:o.op=.slice t x lo hi none)(hc:bE T vs N x y=true)(hlo:Fu T vs N lo yl=true)(hhi:Fu T vs N hi yh=true)(ht:JY T.P t sz=true)
  (he:cB call ae (.slice sz y yl yh) σ=some r):iW T ae vs N g w tm (execOp (Act.mk tm ds).eval o) r:=by
 simp only[cB]at he;split at he
 ·rename_i l hb;have hl:(lo.map (Act.mk tm ds).eval=none∧l=0)∨∃k,lo.map (Act.mk tm ds).eval=some (.int k (l:Int)):=by
   rcases ze5 (ds:=ds) h hlo hb with⟨h1,_,h2⟩|h1
   ·exact .inl ⟨by simp[h1],h2⟩
   ·exact .inr h1
  split at he
  ·rename_i a ha;simp only[aD]at he;obtain⟨v,k1,k2⟩:∃v,(∀w',(Instr.sliceAt t ((Act.mk tm ds).eval x) (lo.map (Act.mk tm ds).eval) (hi.map (Act.mk tm ds).eval) none).run T.P w'=.ok v w')∧AVR T g w σ tm .res a v:=by
    cases yh with
    |none=>
     refine zch (ds:=ds) h hc ht hl (hA:=none) ?_ ha;cases hi with
     |none=>exact .inl ⟨rfl,rfl⟩
     |some x=>simp[Fu]at hhi
    |some yh'=>
     simp only at ha;split at ha
     ·rename_i hn hhn;refine zch (ds:=ds) h hc ht hl (hA:=some hn) ?_ ha;rcases ze5 (ds:=ds) (d:=0) h hhi (n:=hn) hhn with⟨_,h1,_⟩|⟨k,h1⟩
      ·cases h1
      ·exact .inr ⟨k,hn,rfl,h1⟩
     ·cases ha
   refine lg (fun w'=>?_) h he.symm k2;have k1:=k1 w';simp only[execOp,ho,Option.map_none,Sem.run_bind,k1,Result.andThen_ok,Sem.run_pure]
  ·cases he
 ·cases he
end
end Go.Ak
namespace Go.Ak
inductive ArgsV(T:Tr)(g:Gh)(w:World):Nat->List AV->List Value->Prop
 |nil (i:Nat):ArgsV T g w i [] []
 |cons (i:Nat) (a:AV) (v:Value) (as:List AV) (vs:List Value):SV T g w (.arg i) a v->ArgsV T g w (i+1) as vs->ArgsV T g w i (a::as) (v::vs)
def l7(T:Tr)(ae:Nat)(g:Gh)(w:World)(out:Out)(H':aj)(e:Ending)(w':World):Prop:=
 match e with
 | .returned v=> ∃g' a,out=.ret a∧Ext ae g w g' w'∧HeapR T g' w' H'∧SV T g' w' .res a v
 | .panicked ch=> ∃g' a v,ch=[{ v:=v,recovered:=false }]∧out=.pan a∧Ext ae g w g' w'∧HeapR T g' w' H'∧V T g' w' a v
 | .outgrown=>False
def GN(P:Program)(f:FuncId):Bool:=
 match P.funcs[f]? with
 |some fn=>fn.name != "runtime.NumGoroutine" && fn.body.isSome
 |none=>false
def Wu(out:Out)(σ:St)(H':aj):OpR:=
 match out with
 | .ret v=>.ok v { σ with H:=H' }
 | .pan v=>.pan v { σ with H:=H' }
def o9(T:Tr)(ae:Nat)(call:CallF):Prop:=
 ∀(f:Nat)(as:List AV)(H:aj)(out:Out)(H':aj),call f as H=some (out,H')->GN T.P (T.fm f)=true∧
  ∀(g:Gh)(w:World)(us:List Value),HeapR T g w H->ArgsV T g w 0 as us->Calls T.P (T.fm f) us.toArray w (l7 T ae g w out H')
theorem zcA{P:Program}{f:FuncId}(h:GN P f=true)(args:Array Value)(w:World):(callFunc f args).run P w=.ok (.enter f args) w:=by
 unfold GN at h;split at h
 ·rename_i fn hf;simp only[aU,bne_iff_ne,ne_eq]at h;obtain⟨h1,h2⟩:=h;obtain⟨c,hb⟩:=Qb.1 h2;simp[callFunc,hf,h1,hb]
 ·cases h
section
variable {T:Tr} {ae:Nat} {vs:List Nat} {N:Nat} {g:Gh} {w:World} {σ:St} {tm:Array Value} {ds:List Deferred} {o:Oper} {r:OpR}
theorem ArgsV.frame{g':Gh}{w':World}(he:Ext ae g w g' w')(hf:∀b i,g.own b=.arg i->g'.own b=.arg i∧g'.S b=g.S b∧w'.heap[b]?=w.heap[b]?):
  ∀{i:Nat}{as:List AV}{us:List Value},ArgsV T g w i as us->ArgsV T g' w' i as us
 |_,_,_,.nil i=>.nil i
 |_,_,_,.cons i a v as us h1 h2=>.cons i a v as us (h1.frame he fun b hb=>hf b i hb) (ArgsV.frame he hf h2)
def uA(T:Tr)(vs:List Nat)(N:Nat):List Operand->List Arg->Bool
 | [],[]=>true
 |x::xs,.pl y::ys=>bE T vs N x y&&uA T vs N xs ys
 |x::xs,.tk y::ys=>bE T vs N x y&&uA T vs N xs ys
 |_,_=>false
theorem XV:∀{xs:List Operand}{ys:List Arg}{g:Gh}{σ:St}(i:Nat)(_:Rel T vs N g w σ tm)(_:uA T vs N xs ys=true){as:List AV}{σ':St}(_:args σ ys=some (as, σ')),
  ∃g',Ext ae g w g' w∧Rel T vs N g' w σ' tm∧ArgsV T g' w i as (xs.map (Act.mk tm ds).eval)∧σ'.H=σ.H∧∀b j,j<i->g.own b=.arg j->g'.own b=.arg j∧g'.S b=g.S b
 | [],[],g, σ,i,h,_,as, σ',he=>by
  simp only[args,aD,eU]at he;obtain⟨rfl,rfl⟩:=he;exact⟨g,.refl _ _ _,h,.nil i,rfl,fun _ _ _ hb=>⟨hb,rfl⟩⟩
 | [],_::_,_,_,_,_,hc,_,_,_=>by simp[uA]at hc
 |_::_,[],_,_,_,_,hc,_,_,_=>by simp[uA]at hc
 |x::xs,y::ys,g, σ,i,h,hc,as, σ',he=>by
  simp only[args]at he
  -- the first one
  have first:∀{a:AV}{σ1:St},yn σ y=some (a, σ1)->
    ∃g1,Ext ae g w g1 w∧Rel T vs N g1 w σ1 tm∧SV T g1 w (.arg i) a ((Act.mk tm ds).eval x)∧σ1.H=σ.H∧∀b j,j<i->g.own b=.arg j->g1.own b=.arg j∧g1.S b=g.S b:=fun{a σ1} hq=>by
   cases y with
   |pl y=>
    simp only[uA,aU]at hc;obtain⟨g1,e1,e2,e3,_,_,e6,_,e8⟩:=ut (ds:=ds) (ae:=ae) h hc.1 hq;exact⟨g1,e1,e2,.of_V e3,e6,fun b j _ hb=>by
     obtain⟨k1,k2⟩:=e8 b (by rw[hb];simp) (by rw[hb];simp);exact⟨by rw[k1,hb],k2⟩⟩
   |tk y=>
    simp only[uA,aU]at hc;obtain⟨g1,e1,e2,e3,_,_,_,_,e6,e8⟩:=Jn (ds:=ds) (ae:=ae) h hc.1 hq;obtain⟨g2,f1,f2,f3,f4,f5⟩:=hold (ae:=ae) e2 (.arg i) e3;exact⟨g2,e1.trans f1,f2,f3,e6,fun b j _ hb=>by
     obtain⟨k1,k2⟩:=e8 b (by rw[hb];simp) (by rw[hb];simp);exact⟨by rw[f4 b (by rw[k1,hb];simp),k1,hb],by rw[f5,k2]⟩⟩
  have hc2:uA T vs N xs ys=true:=by
   cases y<;>simp only[uA,aU]at hc<;>exact hc.2
  split at he
  ·rename_i a σ1 hq;obtain⟨g1,e1,e2,e3,e4,e5⟩:=first hq
   split at he
   ·rename_i as' σ2 hr;simp only[aD,eU]at he;obtain⟨rfl,rfl⟩:=he;obtain⟨g2,f1,f2,f3,f4,f5⟩:=XV (i+1) e2 hc2 hr;refine⟨g2,e1.trans f1,f2,.cons i _ _ _ _ (e3.frame f1 fun b hb=>?_) f3,f4.trans e4,fun b j hj hb=>?_⟩
    ·obtain⟨k1,k2⟩:=f5 b i (by omega) hb;exact⟨k1,k2,rfl⟩
    ·obtain⟨k1,k2⟩:=e5 b j hj hb;obtain⟨k3,k4⟩:=f5 b j (by omega) k1;exact⟨k3,k4.trans k2⟩
   ·cases he
  ·cases he
def Gh.call(g:Gh):Gh:={ g with own:=fun b=>match g.own b with|.slot _|.temp _|.res=>.kept|o=>o }
def Gh.back(g g':Gh):Gh:={ g' with own:=fun b=>match g.own b with
 | .slot t=>.slot t
 | .temp t=>.temp t
 | .res=>.res
 | .kept=>.kept
 |_=>match g'.own b with
  | .res=>.res
  | .obj id=>.obj id
  |_=>.free }
theorem AC{b:Nat}(h:(∃t,g.own b=.slot t)∨(∃t,g.own b=.temp t)∨g.own b=.res∨g.own b=.kept):g.call.own b=.kept:=by
 simp only[Gh.call];rcases h with⟨t,h⟩|⟨t,h⟩|h|h<;>rw[h]
theorem Ext.call:Ext ae g w g.call w where
 size:=aX _
 S _:=aX _
 cell _ _ _:=rfl
 ob _ _ h:=h
 shape _ _ h:=h
 kept b hb:=⟨AC (.inr (.inr (.inr hb))),rfl,rfl⟩
 low id b _ _ hb:=⟨by simp[Gh.call,hb],rfl,rfl⟩
 os:=rfl
 out:=rfl
theorem HeapR.call{H:aj}(h:HeapR T g w H):HeapR T g.call w H:=by
 refine h.frame (Ext.call (ae:=0)) (fun b id hb=>⟨by simp[Gh.call,hb],rfl,rfl⟩) rfl fun b hb=>?_;obtain⟨h1,h2⟩:=h.fresh b hb;exact⟨by simp[Gh.call,h1],h2⟩
theorem Ext.back{g':Gh}{w':World}(h:Ext ae g.call w g' w'):Ext ae g w (g.back g') w' where
 size:=h.size
 S:=h.S
 cell:=h.cell
 ob:=h.ob
 shape:=h.shape
 kept b hb:=by
  obtain⟨_,h2,h3⟩:=h.kept b (AC (.inr (.inr (.inr hb))));exact⟨by simp[Gh.back,hb],h2,h3⟩
 low id b hi ho hb:=by
  obtain⟨h1,h2,h3⟩:=h.low id b hi ho (by simp[Gh.call,hb]);exact⟨by simp[Gh.back,hb,h1],h2,h3⟩
 os:=h.os
 out:=h.out
mutual
theorem V.reown(f:Nat->Own):∀{a:AV}{v:Value},V T g w a v->V T { g with own:=f } w a v
 |_,_,.undef v=>.undef v
 |_,_,.bool b=>.bool b
 |_,_,.int k n=>.int k n
 |_,_,.str s=>.str s
 |_,_,.nilp=>.nilp
 |_,_,.nils=>.nils
 |_,_,.nilf=>.nilf
 |_,_,.nili=>.nili
 |_,_,.ptr id ai b hb=>.ptr id ai b hb
 |_,_,.tptr ty n id ai b hb hs=>.tptr ty n id ai b hb hs
 |_,_,.rptr cs ai b o vs hs hv=>.rptr cs ai b o vs hs (Vs.reown f hv)
 |_,_,.slc es b o vs st cap hs hv h1 h2 h3=>.slc es b o vs st cap hs (Vs.reown f hv) h1 h2 h3
 |_,_,.msl st id ai len b cap ty n hb hs h1 h2 h3=>.msl st id ai len b cap ty n hb hs h1 h2 h3
 |_,_,.bsl id n b cap m hb hs h1 h2=>.bsl id n b cap m hb hs h1 h2
 |_,_,.agg cs vs hv h1=>.agg cs vs (Vs.reown f hv) h1
 |_,_,.tup cs vs hv=>.tup cs vs (Vs.reown f hv)
 |_,_,.fn n cap vs hv=>.fn n cap vs (Vs.reown f hv)
 |_,_,.ifc t a v hv=>.ifc t a v (V.reown f hv)
theorem Vs.reown(f:Nat->Own):∀{as:List AV}{us:List Value},Vs T g w as us->Vs T { g with own:=f } w as us
 |_,_,.nil=>.nil
 |_,_,.cons a v as vs hv hvs=>.cons a v as vs (V.reown f hv) (Vs.reown f hvs)
end
theorem excl.reown{ow ow':Own}{b:Nat}{aI:Array Value}(f:Nat->Own)(h:excl g w ow b aI)(hf:g.own b=ow->f b=ow'):excl { g with own:=f } w ow' b aI:=⟨hf h.1,h.2.1,h.2.2⟩
theorem SV.reown{ow ow':Own}{a:AV}{v:Value}(f:Nat->Own)(h:SV T g w ow a v)(hf:∀b,g.own b=ow->f b=ow'):SV T { g with own:=f } w ow' a v:=by
 cases a with
 |box cs=>
  obtain⟨b,aI,hv,h1,h4⟩:=h;exact⟨b,aI,hv,h1.reown f (hf b),Vs.reown f h4⟩
 |slc p es=>cases p with
  |ro=>exact V.reown f h
  |own=>
   obtain⟨b,ai,cap,aI,st,hv,h1,h4,h5,h6,h7,us,h8,h9⟩:=h;exact⟨b,ai,cap,aI,st,hv,h1.reown f (hf b),h4,h5,h6,h7,us,Vs.reown f h8,h9⟩
  |app=>
   obtain⟨b,ai,cap,aI,st,hv,h1,h2,h3,h4,h5,h6,h7,us,h8,h9⟩:=h;exact⟨b,ai,cap,aI,st,hv,hf b h1,h2,h3,h4,h5,h6,h7,us,Vs.reown f h8,h9⟩
 |loc a b c=>exact h.elim
 |eloc a b c d=>exact h.elim
 |ref a b c d=>exact h.elim
 |_=>exact V.reown f h
theorem HeapR.reown{H:aj}(f:Nat->Own)(h:HeapR T g w H)(hf:∀b id,g.own b=.obj id->f b=.obj id)(hf':∀b,w.heap.size<=b->f b=.free)(hk:∀b x,T.gl b=some x->f b=.kept):HeapR T { g with own:=f } w H where
 objs id cs hc:=by
  obtain⟨b,aI,h1,h2,h5,h6⟩:=h.objs id cs hc;exact⟨b,aI,h1,h2.reown f (hf b id),Vs.reown f h5,h6⟩
 ob:=h.ob
 fresh b hb:=⟨hf' b hb,(h.fresh b hb).2⟩
 gl b x hb:=⟨hk b x hb,(h.gl b x hb).2⟩
theorem Rel.back{g':Gh}{w':World}{H':aj}(h:Rel T vs N g w σ tm)(he:Ext ae g.call w g' w')(hh:HeapR T g' w' H'):
  Ext ae g w (g.back g') w'∧Rel T vs N (g.back g') w' { σ with H:=H' } tm:=by
 have hb:=Ext.back he;have dw:∀b,((∃t,g.own b=.slot t)∨(∃t,g.own b=.temp t))->(g.back g').own b=g.own b∧(g.back g').S b=g.S b∧w'.heap[b]?=w.heap[b]? := fun b hx=>by
  obtain⟨_,h2,h3⟩:=he.kept b (AC (hx.elim (fun h=>.inl h) (fun h=>.inr (.inl h))));refine⟨?_,h2,h3⟩;rcases hx with⟨t,hx⟩|⟨t,hx⟩<;>simp[Gh.back,hx]
 refine⟨hb,h.frame hb (fun b t hbt _=>?_) (fun b t hbt _=>?_) ?_⟩
 ·obtain⟨k1,k2,k3⟩:=dw b (.inl ⟨t,hbt⟩);exact⟨by rw[k1,hbt],k2,k3⟩
 ·obtain⟨k1,k2,k3⟩:=dw b (.inr ⟨t,hbt⟩);exact⟨by rw[k1,hbt],k2,k3⟩
 ·refine hh.reown (g.back g').own (fun b id hbo=>?_) (fun b hbs=>?_) fun b x hb=>by simp only[Gh.back,(h.heap.gl b x hb).1]
  ·simp only[Gh.back];cases hg:g.own b with
   |slot t=>obtain⟨k,_⟩:=he.kept b (AC (.inl ⟨t,hg⟩));rw[k]at hbo;cases hbo
   |temp t=>obtain⟨k,_⟩:=he.kept b (AC (.inr (.inl ⟨t,hg⟩)));rw[k]at hbo;cases hbo
   |res=>obtain⟨k,_⟩:=he.kept b (AC (.inr (.inr (.inl hg))));rw[k]at hbo;cases hbo
   |kept=>obtain⟨k,_⟩:=he.kept b (AC (.inr (.inr (.inr hg))));rw[k]at hbo;cases hbo
   |free=>simp[hbo]
   |obj i=>simp[hbo]
   |arg i=>simp[hbo]
  ·have aB:w.heap.size<=b:=fT he.size hbs;simp only[Gh.back,(h.heap.fresh b aB).1,(hh.fresh b hbs).1]
theorem SV.back{g':Gh}{w':World}{a:AV}{v:Value}(he:Ext ae g.call w g' w')(h:SV T g' w' .res a v):SV T (g.back g') w' .res a v:=by
 refine h.reown (g.back g').own fun b hbo=>?_;simp only[Gh.back];cases hg:g.own b with
 |slot t=>obtain⟨k,_⟩:=he.kept b (AC (.inl ⟨t,hg⟩));rw[k]at hbo;cases hbo
 |temp t=>obtain⟨k,_⟩:=he.kept b (AC (.inr (.inl ⟨t,hg⟩)));rw[k]at hbo;cases hbo
 |res=>rfl
 |kept=>obtain⟨k,_⟩:=he.kept b (AC (.inr (.inr (.inr hg))));rw[k]at hbo;cases hbo
 |free=>simp[hbo]
 |obj i=>simp[hbo]
 |arg i=>simp[hbo]
theorem V.back{g':Gh}{w':World}{a:AV}{v:Value}(h:V T g' w' a v):V T (g.back g') w' a v:=h.reown (g.back g').own
theorem ArgsV.call{i:Nat}{as:List AV}{us:List Value}(h:ArgsV T g w i as us):ArgsV T g.call w i as us:=
 h.frame (Ext.call (ae:=0)) fun b i hb=>⟨by simp[Gh.call,hb],rfl,rfl⟩
theorem zfg{call:CallF}{f:Nat}{as:List AV}{out:Out}{H':aj}{us:List Value}(bf:o9 T ae call)(h:Rel T vs N g w σ tm)(ha:ArgsV T g w 0 as us)(hq:call f as σ.H=some (out,H'))
  (hr:r=Wu out σ H') {res:Result Next} (gI:GN T.P (T.fm f)=true->res=.ok (.enter (T.fm f) us.toArray) w) :
  OpOKr T res (OpPost T ae vs N g w tm r) (jY T ae vs N g w tm r):=by
 obtain⟨h1,h2⟩:=bf f as σ.H out H' hq;rw[gI h1];refine(h2 g.call w us h.heap.call ha.call).mono fun e w' he=>?_;cases e with
 |returned v=>
  obtain⟨g',a,rfl,e1,e2,e3⟩:=he;obtain⟨k1,k2⟩:=h.back e1 e2;exact⟨a,_,_,hr,k1,k2,.of_SV (e3.back e1)⟩
 |panicked ch=>
  obtain⟨g',a,v,rfl,rfl,e1,e2,e3⟩:=he;obtain⟨k1,k2⟩:=h.back e1 e2;exact⟨v,rfl,a,_,_,hr,k1,k2,e3.back⟩
 |outgrown=>exact he
theorem zmA{call:CallF}(bf:o9 T ae call)(h:Rel T vs N g w σ tm){f:Nat}{F:FuncId}{xs:Array Operand}{ts:Array TypeId}{ys:List Arg}(ho:o.op=.call { callee:=.value (.func F),args:=xs,argTypes:=ts })(hF:T.fm f=F)(hc:uA T vs N xs.toList ys=true)
  (he:cB call ae (.call f ys) σ=some r):OpOKr T ((execOp (Act.mk tm ds).eval o).run T.P w) (OpPost T ae vs N g w tm r) (jY T ae vs N g w tm r):=by
 subst hF;simp only[cB]at he;split at he
 ·rename_i as σ' Cg;obtain⟨g1,e1,e2,e3,e4,_⟩:=XV (ae:=ae) (ds:=ds) 0 h hc Cg;have hmap:(xs.map (Act.mk tm ds).eval)=(xs.toList.map (Act.mk tm ds).eval).toArray:=by
   apply Bt;simp
  have fin:∀{out:Out}{H':aj},call (f) as σ'.H=some (out,H')->r=Wu out σ' H'->
    OpOKr T ((execOp (Act.mk tm ds).eval o).run T.P w) (OpPost T ae vs N g w tm r) (jY T ae vs N g w tm r):=fun{out H'} hq hr=>by
   refine(zfg bf e2 e3 hq hr (fun hfn=>?_)).imp ?_ ?_
   ·simp[execOp,ho,resolve,Act.eval,Deferred.ofValue,invoke,zcA hfn,hmap]
   ·rintro v w2 ⟨a,s2,g2,k1,k2,k3,k4⟩;exact⟨a,s2,g2,k1,e1.trans k2,k3,k4⟩
   ·rintro v w2 ⟨a,s2,g2,k1,k2,k3,k4⟩;exact⟨a,s2,g2,k1,e1.trans k2,k3,k4⟩
  split at he
  ·rename_i v H' hq;simp only[aD]at he;exact fin hq he.symm
  ·rename_i v H' hq;simp only[aD]at he;exact fin hq he.symm
  ·cases he
 ·cases he
end
end Go.Ak
namespace Go.Ak
section
variable {T:Tr} {ae:Nat} {vs:List Nat} {N:Nat} {g:Gh} {w:World} {σ:St} {tm:Array Value} {ds:List Deferred} {o:Oper} {r:OpR}
theorem ArgsV.of_Vs:∀{cap:List AV}{us:List Value}(i:Nat),Vs T g w cap us->ArgsV T g w i cap us
 |_,_,i,.nil=>.nil i
 |_,_,i,.cons a v as vs h1 h2=>.cons i a v as vs (.of_V h1) (ArgsV.of_Vs (i+1) h2)
theorem ArgsV.append:∀{i:Nat}{as cap:List AV}{us cs:List Value},ArgsV T g w i as us->Vs T g w cap cs->ArgsV T g w i (as++cap) (us++cs)
 |_,_,_,_,_,.nil i,h=>ArgsV.of_Vs i h
 |_,_,_,_,_,.cons i a v as us h1 h2,h=>.cons i a v _ _ h1 (ArgsV.append h2 h)
theorem zmz{call:CallF}(bf:o9 T ae call)(h:Rel T vs N g w σ tm){x:Operand}{y:Opd}{xs:Array Operand}{ts:Array TypeId}{ys:List Arg}(ho:o.op=.call { callee:=.value x,args:=xs,argTypes:=ts })(hx:bE T vs N x y=true)(hc:uA T vs N xs.toList ys=true)
  (he:cB call ae (.callv y ys) σ=some r):OpOKr T ((execOp (Act.mk tm ds).eval o).run T.P w) (OpPost T ae vs N g w tm r) (jY T ae vs N g w tm r):=by
 have hr:=lS (ds:=ds) h hx;simp only[cB]at he;split at he
 ·rename_i f cap je;rw[je]at hr;obtain⟨cs,aH,hv⟩:=V.fn_inv hr;split at he
  ·rename_i as σ' Cg;obtain⟨g1,e1,e2,e3,e4,_⟩:=XV (ae:=ae) (ds:=ds) 0 h hc Cg;have hmap:(xs.map (Act.mk tm ds).eval)=(xs.toList.map (Act.mk tm ds).eval).toArray:=by
    apply Bt;simp
   have fin:∀{out:Out}{H':aj},call f (as++cap) σ'.H=some (out,H')->r=Wu out σ' H'->
     OpOKr T ((execOp (Act.mk tm ds).eval o).run T.P w) (OpPost T ae vs N g w tm r) (jY T ae vs N g w tm r):=fun{out H'} hq hr=>by
    refine(zfg bf e2 (e3.append (Vs.mono e1 aH)) hq hr (fun hfn=>?_)).imp ?_ ?_
    ·simp[execOp,ho,resolve,hv,Deferred.ofValue,invoke,zcA hfn,hmap]
    ·rintro v w2 ⟨a,s2,g2,k1,k2,k3,k4⟩;exact⟨a,s2,g2,k1,e1.trans k2,k3,k4⟩
    ·rintro v w2 ⟨a,s2,g2,k1,k2,k3,k4⟩;exact⟨a,s2,g2,k1,e1.trans k2,k3,k4⟩
   split at he
   ·rename_i v H' hq;simp only[aD]at he;exact fin hq he.symm
   ·rename_i v H' hq;simp only[aD]at he;exact fin hq he.symm
   ·cases he
  ·cases he
 ·cases he
end
end Go.Ak
namespace Go.Ak
def ME:AOp->Bool
 | .mov _|.asg ..|.pick ..|.build ..|.nilchk _|.bin ..|.eq ..|.eqG ..|.un ..|.conv ..|.mkifc ..|.mkfn ..|.slice ..|.faddr ..|.iaddr ..|.aaddr ..|.sidx ..|.aidx ..|.ext ..|.tassert ..|.len ..|.minI ..|.maxI .. => true
 |_=>false
def Xv(P:Program)(t f:Nat)(sz:Option Nat)(yi:Opd):Bool:=
 match P.underlying t,sz,yi with
 |some (.struct fs),none,.c (.int _ (.ofNat i))=>match fs[f]? with
  |some F=>F.offset==i&&sU P F.type none
  |none=>false
 |_,_,_=>false
def Xr(T:Tr)(vs:List Nat)(N:Nat)(p:Op):AOp->Bool
 | .mov y=>match p with
  | .move x=>bE T vs N x y
  | .assign x=>bE T vs N x y
  |_=>false
 | .asg _ y=>match p with
  | .move x=>bE T vs N x y
  | .assign x=>bE T vs N x y
  |_=>false
 | .pick y1 y2 y3=>match p with
  | .pick x1 x2 x3=>bE T vs N x1 y1&&bE T vs N x2 y2&&bE T vs N x3 y3
  |_=>false
 | .build z qs=>match p with
  | .build t ps=>Xy T vs N t ps z qs
  |_=>false
 | .nilchk y=>match p with
  | .nilCheck x=>bE T vs N x y
  |_=>false
 | .bin op y1 y2=>match p with
  | .binOp op' _ x1 x2 _=>decide (op'=op)&&bE T vs N x1 y1&&bE T vs N x2 y2
  |_=>false
 | .eq neg k y1 y2=>match p with
  | .binOp op t x1 x2 _=>decide (op=if neg then .neq else .eql)&&bE T vs N x1 y1&&bE T vs N x2 y2&&GQ T.P t k x1 x2
  |_=>false
 | .eqG neg ks y1 y2=>match p with
  | .binOp op t x1 x2 _=>decide (op=if neg then .neq else .eql)&&bE T vs N x1 y1&&bE T vs N x2 y2&&Nh T.P t ks
  |_=>false
 | .un op y=>match p with
  | .unOp op' _ x=>decide (op'=op)&&bE T vs N x y
  |_=>false
 | .conv k y=>match p with
  | .convert s d x=>bE T vs N x y&&(T.P.underlying s).isSome&&(match T.P.underlying d with|some (.int k')=>decide (k'=k)|_=>false)
  |_=>false
 | .mkifc t' y=>match p with
  | .makeInterface t x=>bE T vs N x y&&(T.tm t'==t)&&(match T.P.underlying t with|some (.interface _)=>false|some _=>true|none=>false)
  |_=>false
 | .mkfn f' ys=>match p with
  | .makeFunc (.func f) first xs=>(T.fm f'==f)&&first.toList.isEmpty&&(xs.toList.length==ys.length&&(xs.toList.zip ys).all fun p=>bE T vs N p.1 p.2)
  |_=>false
 | .slice sz y yl yh=>match p with
  | .slice t x lo hi none=>bE T vs N x y&&Fu T vs N lo yl&&Fu T vs N hi yh&&JY T.P t sz
  |_=>false
 | .faddr ai y=>match p with
  | .fieldAddr t x f=>bE T vs N x y&&Xw T.P t f ai
  |_=>false
 | .iaddr sz y yi=>match p with
  | .indexAddr t x xi=>bE T vs N x y&&bE T vs N xi yi&&(match T.P.underlying t with|some (.slice e)=>nR T.P e sz|_=>false)
  |_=>false
 | .aaddr n sz y yi=>match p with
  | .indexAddr t x xi=>bE T vs N x y&&bE T vs N xi yi&&(match T.P.underlying t with|some (.array n' e)=>n'==n&&nR T.P e sz|_=>false)
  |_=>false
 | .sidx y yi=>match p with
  | .index t x xi=>bE T vs N x y&&bE T vs N xi yi&&(match T.P.underlying t with|some .string=>true|_=>false)
  |_=>false
 | .aidx n sz y yi=>match p with
  | .index t x xi=>bE T vs N x y&&bE T vs N xi yi&&(match T.P.underlying t with|some (.array n' e)=>n'==n&&sU T.P e sz|_=>false)
  | .field t x f=>bE T vs N x y&&Xv T.P t f sz yi
  |_=>false
 | .ext n y=>match p with
  | .extract x n'=>bE T vs N x y&&n'==n
  |_=>false
 | .tassert t y=>match p with
  | .typeAssert x _ a true=>bE T vs N x y&&(T.tm t==a)&&(match T.P.underlying a with|some (.interface _)=>false|some _=>true|none=>false)
  |_=>false
 | .len sb y=>match p with
  | .call ⟨.builtin .len,xs,ts⟩=>match xs.toList,ts.toList with
   | [x],[t]=>bE T vs N x y&&(match sb,T.P.underlying t with|true,some .string=>true|false,some (.slice _)=>true|_,_=>false)
   |_,_=>false
  |_=>false
 | .minI y1 y2=>match p with
  | .call ⟨.builtin .min,xs,_⟩=>match xs.toList with
   | [x1,x2]=>bE T vs N x1 y1&&bE T vs N x2 y2
   |_=>false
  |_=>false
 | .maxI y1 y2=>match p with
  | .call ⟨.builtin .max,xs,_⟩=>match xs.toList with
   | [x1,x2]=>bE T vs N x1 y1&&bE T vs N x2 y2
   |_=>false
  |_=>false
 |_=>false
theorem Cx{α:Type}{xs:Array α}{l:List α}(h:xs.toList=l):xs=l.toArray:=Bt (by simpa using h)
section
variable {T:Tr} {ae:Nat} {vs:List Nat} {N:Nat} {g:Gh} {w:World} {σ:St} {tm:Array Value} {ds:List Deferred} {o:Oper} {r:OpR}
theorem zmu(h:Rel T vs N g w σ tm){x:Operand}{y yi:Opd}{t f n:Nat}{sz:Option Nat}{call:CallF}(ho:o.op=.field t x f)(hc:bE T vs N x y=true)(hf:Xv T.P t f sz yi=true)
  (he:cB call ae (.aidx n sz y yi) σ=some r):iW T ae vs N g w tm (execOp (Act.mk tm ds).eval o) r:=by
 unfold Xv at hf;split at hf
 ·rename_i fs k i hu;split at hf
  ·rename_i F hF;simp only[aU,gM]at hf;obtain⟨rfl,fu⟩:=hf;simp only[cB]at he;split at he
   ·rename_i cs j ha hn;have hj:j=F.offset:=by
     simp only[dZ,mG]at hn;exact(Bl hn).symm
    subst hj;have hv:=BQ (ds:=ds) h hc ha rfl;obtain⟨us,h1,h2,hx⟩:=hv.agg_inv;cases hb:Nat.blt F.offset n with
    |false=>simp[hb]at he
    |true=>
     simp only[hb,bA]at he;split at he
     ·rename_i l hl;split at he
      ·rename_i a hp;simp only[aD]at he;obtain⟨j1,j2⟩:=EO hl h1;have fJ:∀u∈(us.drop (F.offset*kW none)).take (kW none),u.oneCell'=true:=fun u hu=>h2 u (EL (vU hu));have hpk:=QT hp j1 fJ;refine lg ?_ h he.symm (.of_V hpk);obtain⟨cu,_⟩:=Mc hl;rw[h1.length]at cu;have hsz':=Rw fu;simp only[kW,F9]at cu ⊢;have aB:F.offset<us.length:=by omega
       simp[execOp,ho,hx,Instr.field,asAgg,underlying,hu,hF,part,Ju hsz',aB,BK,List.getD]
      ·cases he
     ·cases he
   ·cases he
  ·cases hf
 ·cases hf
theorem zdf{call:CallF}(h:Rel T vs N g w σ tm){s:AOp}(hc:Xr T vs N o.op s=true)(he:cB call ae s σ=some r):iW T ae vs N g w tm (execOp (Act.mk tm ds).eval o) r:=by
 unfold Xr at hc;split at hc
 ·split at hc
  ·rename_i ho;exact zdg h (.inl ho) hc he
  ·rename_i ho;exact zdg h (.inr ho) hc he
  ·cases hc
 ·split at hc
  ·rename_i ho;exact zdk h (.inl ho) hc he
  ·rename_i ho;exact zdk h (.inr ho) hc he
  ·cases hc
 ·split at hc
  ·rename_i ho;simp only[aU]at hc;exact zml h ho hc.1.1 hc.1.2 hc.2 he
  ·cases hc
 ·split at hc
  ·rename_i ho;exact zmB h ho hc he
  ·cases hc
 ·split at hc
  ·rename_i ho;exact zmn h ho hc he
  ·cases hc
 ·split at hc
  ·rename_i ho;simp only[aU,ik]at hc;obtain⟨⟨rfl,h1⟩,h2⟩:=hc;exact zmG h ho h1 h2 he
  ·cases hc
 ·split at hc
  ·rename_i ho;simp only[aU,ik]at hc;obtain⟨⟨⟨h0,h1⟩,h2⟩,h3⟩:=hc;exact op_eq h ho h0 h1 h2 h3 he
  ·cases hc
 ·split at hc
  ·rename_i ho;simp only[aU,ik]at hc;obtain⟨⟨⟨h0,h1⟩,h2⟩,h3⟩:=hc;exact zmx h ho h0 h1 h2 h3 he
  ·cases hc
 ·split at hc
  ·rename_i ho;simp only[aU,ik]at hc;obtain⟨rfl,h1⟩:=hc;exact op_un h ho h1 he
  ·cases hc
 ·split at hc
  ·rename_i ho;simp only[aU]at hc;obtain⟨⟨h1,h2⟩,h3⟩:=hc;split at h3
   ·rename_i hd;simp only[ik]at h3;subst h3;exact zmy h ho h1 h2 hd he
   ·cases h3
  ·cases hc
 ·split at hc
  ·rename_i ho;simp only[aU,gM]at hc;obtain⟨⟨h1,h2⟩,h3⟩:=hc;split at h3
   ·cases h3
   ·rename_i d hn hd;exact zmp h ho h1 h2 hd hn he
   ·cases h3
  ·cases hc
 ·split at hc
  ·rename_i first xs ho;simp only[aU,gM]at hc
   obtain⟨⟨h1,h2⟩,h3⟩:=hc;have hf:first= #[]:=Cx (l:=[]) (List.isEmpty_iff.1 h2)
   subst hf;exact zmq h ho h1 (by simp only[aU,gM];exact h3) he
  ·cases hc
 ·split at hc
  ·rename_i ho;simp only[aU]at hc;obtain⟨⟨⟨h1,h2⟩,h3⟩,h4⟩:=hc;exact zmi h ho h1 h2 h3 h4 he
  ·cases hc
 ·split at hc
  ·rename_i ho;simp only[aU]at hc;exact zmv h ho hc.1 hc.2 he
  ·cases hc
 ·split at hc
  ·rename_i ho;simp only[aU]at hc;obtain⟨⟨h1,h2⟩,h3⟩:=hc;split at h3
   ·rename_i hu;exact zmt h ho h1 h2 hu h3 he
   ·cases h3
  ·cases hc
 ·split at hc
  ·rename_i ho;simp only[aU]at hc;obtain⟨⟨h1,h2⟩,h3⟩:=hc;split at h3
   ·rename_i hu;simp only[aU,gM]at h3;obtain⟨rfl,h3⟩:=h3;exact zmO h ho h1 h2 hu h3 he
   ·cases h3
  ·cases hc
 ·split at hc
  ·rename_i ho;simp only[aU]at hc;obtain⟨⟨h1,h2⟩,h3⟩:=hc;split at h3
   ·rename_i hu;exact zmj h ho h1 h2 hu he
   ·cases h3
  ·cases hc
 ·split at hc
  ·rename_i ho;simp only[aU]at hc;obtain⟨⟨h1,h2⟩,h3⟩:=hc;split at h3
   ·rename_i hu;simp only[aU,gM]at h3;obtain⟨rfl,h3⟩:=h3;exact zmN h ho h1 h2 hu h3 he
   ·cases h3
  ·rename_i ho;simp only[aU]at hc;exact zmu h ho hc.1 hc.2 he
  ·cases hc
 ·split at hc
  ·rename_i ho;simp only[aU,gM]at hc;obtain⟨h1,rfl⟩:=hc;exact zmw h ho h1 he
  ·cases hc
 ·split at hc
  ·rename_i ho;simp only[aU,gM]at hc;obtain⟨⟨h1,h2⟩,h3⟩:=hc;split at h3
   ·cases h3
   ·rename_i d hn hd;exact zmg h ho h1 h2 hd hn he
   ·cases h3
  ·cases hc
 ·split at hc
  ·rename_i ho;split at hc
   ·rename_i x t hxs hts;simp only[aU]at hc;rw[Cx hxs,Cx hts]at ho;obtain⟨h1,h2⟩:=hc;split at h2
    ·rename_i hu;exact zdi h ho h1 (.inl ⟨rfl,hu⟩) he
    ·rename_i hu;exact zdi h ho h1 (.inr ⟨rfl,_,hu⟩) he
    ·cases h2
   ·cases hc
  ·cases hc
 ·split at hc
  ·rename_i ho;split at hc
   ·rename_i x1 x2 hxs;simp only[aU]at hc;rw[Cx hxs]at ho;exact zmr h ho hc.1 hc.2 he
   ·cases hc
  ·cases hc
 ·split at hc
  ·rename_i ho;split at hc
   ·rename_i x1 x2 hxs;simp only[aU]at hc;rw[Cx hxs]at ho;exact zms h ho hc.1 hc.2 he
   ·cases hc
  ·cases hc
 ·cases hc
def Nf(T:Tr)(vs:List Nat)(N:Nat)(p:Op):AOp->Bool
 | .allocL z=>match p with
  | .alloc t=>Az T.P t z
  |_=>false
 | .allocH z=>match p with
  | .alloc t=>Az T.P t z
  |_=>false
 | .allocT ty z=>match p with
  | .alloc t=>Az T.P t z&&(T.tm ty==t)
  |_=>false
 | .boxT ty y=>match p with
  | .box t x=>bE T vs N x y&&(T.tm ty==t)
  |_=>false
 | .boxL y=>match p with
  | .box _ x=>bE T vs N x y
  |_=>false
 | .boxH y=>match p with
  | .box _ x=>bE T vs N x y
  |_=>false
 | .bslice _ z n qs=>match p with
  | .buildSlice t n' ps=>n'==n&&JZ T.P t z&&GL T vs N ps.toList qs&&decide (n*z.cells.length<=16777216)
  |_=>false
 | .load n y=>match p with
  | .load t x=>bE T vs N x y&&sU T.P t n
  |_=>false
 | .store n y1 y2=>match p with
  | .store t x1 x2=>bE T vs N x1 y1&&bE T vs N x2 y2&&sU T.P t n
  |_=>false
 | .s2b _ y=>match p with
  | .convert s d x=>bE T vs N x y&&(match T.P.underlying s,T.P.underlying d with|some .string,some (.slice e)=>(match T.P.underlying e with|some (.int .u8)=>true|_=>false)|_,_=>false)
  |_=>false
 | .b2s y=>match p with
  | .convert s d x=>bE T vs N x y&&(match T.P.underlying s,T.P.underlying d with|some (.slice e),some .string=>(match T.P.underlying e with|some (.int .u8)=>true|_=>false)|_,_=>false)
  |_=>false
 | .mslice _ z yl yc=>match p with
  | .makeSlice t xl xc=>JZ T.P t z&&bE T vs N xl yl&&bE T vs N xc yc
  |_=>false
 | .append _ sz y1 y2=>match p with
  | .call ⟨.builtin .append,xs,ts⟩=>match xs.toList,ts.toList with
   | [x1,x2],[t,u]=>bE T vs N x1 y1&&bE T vs N x2 y2&&J3 T.P t u sz
   |_,_=>false
  |_=>false
 | .appB y1 y2=>match p with
  | .call ⟨.builtin .append,xs,ts⟩=>match xs.toList,ts.toList with
   | [x1,x2],[t,u]=>bE T vs N x1 y1&&bE T vs N x2 y2&&J3 T.P t u 0&&(match T.P.underlying t with|some (.slice e)=>e==T.tm 5|_=>false)
   |_,_=>false
  |_=>false
 | .call f ys=>match p with
  | .call ⟨.value (.func F),xs,_⟩=>T.fm f==F&&uA T vs N xs.toList ys
  |_=>false
 | .callv y ys=>match p with
  | .call ⟨.value x,xs,_⟩=>bE T vs N x y&&uA T vs N xs.toList ys
  |_=>false
 | .panic y=>match p with
  | .panic x=>bE T vs N x y
  |_=>false
 |_=>false
theorem zdj{call:CallF}(bf:o9 T ae call)(h:Rel T vs N g w σ tm){s:AOp}(hc:Nf T vs N o.op s=true)(he:cB call ae s σ=some r):
  OpOKr T ((execOp (Act.mk tm ds).eval o).run T.P w) (OpPost T ae vs N g w tm r) (jY T ae vs N g w tm r):=by
 unfold Nf at hc;split at hc
 ·split at hc
  ·rename_i ho;exact zmL h ho hc he
  ·cases hc
 ·split at hc
  ·rename_i ho;exact zmM h ho hc he
  ·cases hc
 ·split at hc
  ·rename_i ho;simp only[aU,gM]at hc;exact zmK h ho hc.1 hc.2 he
  ·cases hc
 ·split at hc
  ·rename_i ho;simp only[aU,gM]at hc;exact zmD h ho hc.1 hc.2 he
  ·cases hc
 ·split at hc
  ·rename_i ho;exact zmE h ho hc he
  ·cases hc
 ·split at hc
  ·rename_i ho;exact zmF h ho hc he
  ·cases hc
 ·split at hc
  ·rename_i ho;simp only[aU,gM,ik]at hc;obtain⟨⟨⟨rfl,h1⟩,h2⟩,h3⟩:=hc;exact zmC h ho h1 h2 h3 he
  ·cases hc
 ·split at hc
  ·rename_i ho;simp only[aU]at hc;exact(zdh h ho hc.1 hc.2 he).ok
  ·cases hc
 ·split at hc
  ·rename_i ho;simp only[aU]at hc;exact zmh h ho hc.1.1 hc.1.2 hc.2 he
  ·cases hc
 ·split at hc
  ·rename_i ho;simp only[aU]at hc;obtain⟨h1,h2⟩:=hc;split at h2
   ·rename_i hs hd;split at h2
    ·rename_i hu;exact zmk h ho h1 hs hd hu he
    ·cases h2
   ·cases h2
  ·cases hc
 ·split at hc
  ·rename_i ho;simp only[aU]at hc;obtain⟨h1,h2⟩:=hc;split at h2
   ·rename_i hs hd;split at h2
    ·rename_i hu;exact zmH h ho h1 hs hd hu he
    ·cases h2
   ·cases h2
  ·cases hc
 ·split at hc
  ·rename_i ho;simp only[aU]at hc;exact zmo h ho hc.1.1 hc.1.2 hc.2 he
  ·cases hc
 ·split at hc
  ·rename_i ho;split at hc
   ·rename_i x1 x2 t u hxs hts;simp only[aU]at hc;rw[Cx hxs,Cx hts]at ho;exact zmI h ho hc.1.1 hc.1.2 hc.2 he
   ·cases hc
  ·cases hc
 ·split at hc
  ·rename_i ho;split at hc
   ·rename_i x1 x2 t u hxs hts;simp only[aU]at hc;rw[Cx hxs,Cx hts]at ho;have ht:=hc.2;split at ht
    ·rename_i e hu;simp only[gM]at ht;subst ht;exact zmJ h ho hc.1.1.1 hc.1.1.2 hc.1.2 hu he
    ·cases ht
   ·cases hc
  ·cases hc
 ·split at hc
  ·rename_i ho;simp only[aU,gM]at hc;exact zmA bf h ho hc.1 hc.2 he
  ·cases hc
 ·split at hc
  ·rename_i ho;simp only[aU]at hc;exact zmz bf h ho hc.1 hc.2 he
  ·cases hc
 ·split at hc
  ·rename_i ho;exact zmm h ho hc he
  ·cases hc
 ·cases hc
end
end Go.Ak
namespace Go.Ak
inductive Kind where
 |quiet|load|heavy
 deriving DecidableEq
def lh:Op->Kind
 | .move _|.assign _|.pick ..|.build ..|.nilCheck _|.binOp ..|.unOp ..|.makeInterface ..|.makeFunc ..|.slice ..|.fieldAddr ..|.indexAddr ..|.index ..|.extract .. =>.quiet
 | .load .. =>.load
 | .call ⟨.builtin .len,_,_⟩=>.quiet
 | .call ⟨.builtin .min,_,_⟩=>.quiet
 |_=>.heavy
section
variable {P:Program} {ops:Array Oper} {Q:Exit->Act->World->Prop} {md:Region.Mode}
def YieldsL(P:Program)(ops:Array Oper)(o:Oper)(v:Value)(a:Act)(w:World):Prop:=
 (Region.wanted o (yielded ops a.tmps)=true∧(execOp a.eval o).run P w=.ok (.value v) w)∨(Region.wanted o (yielded ops a.tmps)=false∧v=undef)
def lD(P:Program)(ops:Array Oper)(Q:Exit->Act->World->Prop)(i:Nat)(K:Act->World->Prop)(a:Act)(w:World):Prop:=
 match ops[i]? with
 |none=>K a w
 |some o=>match lh o.op with
  | .quiet=> ∃v,Yields P ops o v a∧K (a.put o.dst v) w
  | .load=> ∃v,YieldsL P ops o v a w∧K (a.put o.dst v) w
  | .heavy=>if Region.wanted o (yielded ops a.tmps)then o.wp P a w K Q else K (a.put o.dst undef) w
def sj(P:Program)(md:Region.Mode)(ops:Array Oper)(Q:Exit->Act->World->Prop):Nat->Array Bool->Act->World->Prop
 |0,dD,a,w=>Region.ready md ops dD=[]∧Q .normal a w
 |qP+1,dD,a,w=>
  (Region.ready md ops dD=[]->Q .normal a w)∧
  ∀i∈Region.ready md ops dD,lD P ops Q i (sj P md ops Q qP (dD.setIfInBounds i true)) a w
theorem Wv{i:Nat}{a:Act}{w:World}{K K':Act->World->Prop}(h:∀a w,K a w->K' a w)(hh:lD P ops Q i K a w):lD P ops Q i K' a w:=by
 unfold lD at *;split
 ·exact h _ _ (by simpa[*]using hh)
 ·rename_i o ho;simp only[ho]at hh;split
  ·rename_i hk;simp only[hk]at hh;obtain⟨v,h1,h2⟩:=hh;exact⟨v,h1,h _ _ h2⟩
  ·rename_i hk;simp only[hk]at hh;obtain⟨v,h1,h2⟩:=hh;exact⟨v,h1,h _ _ h2⟩
  ·rename_i hk;simp only[hk]at hh;split
   ·rename_i hw;simp only[hw,fD]at hh;exact Oper.wp_mono h hh
   ·rename_i hw;simp only[hw]at hh;exact h _ _ hh
theorem zi7{i:Nat}{a:Act}{w:World}{K K':Act->World->Prop}(h:∀a w,K a w->K' a w)(hh:lD P ops Q i K a w):wpOp P ops Q i K' a w:=by
 unfold lD at hh;unfold wpOp;split
 ·exact h _ _ (by simpa[*]using hh)
 ·rename_i o ho;simp only[ho]at hh;split at hh
  ·obtain⟨v,h1,h2⟩:=hh;rcases h1 with⟨hw,hv⟩|⟨hw,rfl⟩
   ·simp only[hw,fD,Oper.wp,hv w,Oper.upon];exact .inl (h _ _ h2)
   ·simp only[hw,mQ,ig];exact h _ _ h2
  ·obtain⟨v,h1,h2⟩:=hh;rcases h1 with⟨hw,hv⟩|⟨hw,rfl⟩
   ·simp only[hw,fD,Oper.wp,hv,Oper.upon];exact .inl (h _ _ h2)
   ·simp only[hw,mQ,ig];exact h _ _ h2
  ·split
   ·rename_i hw;simp only[hw,fD]at hh;exact .inl (Oper.wp_mono h hh)
   ·rename_i hw;simp only[hw]at hh;exact h _ _ hh
theorem zbG:∀(qP:Nat)(dD:Array Bool)(a:Act)(w:World),sj P md ops Q qP dD a w->wpAny P md ops Q qP dD a w
 |0,_,_,_,h=>h
 |qP+1,_,_,_,h=>⟨h.1,fun i hi=>zi7 (fun a w=>zbG qP _ a w) (h.2 i hi)⟩
theorem YieldsL.of_same{o:Oper}{v:Value}{a a':Act}{w:World}(hy:YieldsL P ops o v a w)(he:execOp a'.eval o=execOp a.eval o)(hw:Region.wanted o (yielded ops a'.tmps)=Region.wanted o (yielded ops a.tmps)):YieldsL P ops o v a' w:=by
 unfold YieldsL at *;rw[he,hw];exact hy
theorem zmQ{j:Nat}{oi oj:Oper}{v:Value}(hj:ops[j]?=some oj)(hap:oi.apart ops oj=true)(hsi:∀cs b,oi.op ≠ .select cs b)(hsj:∀cs b,oj.op ≠ .select cs b)
  (hQ:∀c a w,Q (.panic c) (a.put oi.dst v) w->Q (.panic c) a w) {K:Act->World->Prop} {a:Act} {w:World} (hy:Yields P ops oi v a) (h:lD P ops Q j K (a.put oi.dst v) w) :
  lD P ops Q j (fun a' w'=>Yields P ops oi v a'∧K (a'.put oi.dst v) w') a w:=by
 obtain⟨h1,h2,h3⟩:=Oper.apart_spec hap;have keep:∀(a:Act),Yields P ops oi v a->∀u,Yields P ops oi v (a.put oj.dst u):=fun a hy u=>
  hy.of_same (execOp_put oi hsi a oj.dst u h3) (wanted_put oi a oj.dst u h3)
 unfold lD at *;simp only[hj]at *;split
 ·rename_i hk;simp only[hk]at h;obtain⟨u,hu,hK⟩:=h;exact⟨u,hu.of_same (execOp_put oj hsj a oi.dst v h1).symm (wanted_put oj a oi.dst v h1).symm,keep a hy u,by rw[←Act.put_comm a v u h2];exact hK⟩
 ·rename_i hk;simp only[hk]at h;obtain⟨u,hu,hK⟩:=h;exact⟨u,hu.of_same (execOp_put oj hsj a oi.dst v h1).symm (wanted_put oj a oi.dst v h1).symm,keep a hy u,by rw[←Act.put_comm a v u h2];exact hK⟩
 ·rename_i hk;simp only[hk]at h;rw[wanted_put oj a oi.dst v h1]at h;have keepD:∀d,Yields P ops oi v { a with defers:=d::a.defers }:=fun d=>hy.of_same rfl rfl;split
  ·rename_i hw;simp only[hw,fD]at h;unfold Oper.wp at *;rw[execOp_put oj hsj a oi.dst v h1]at h;generalize(execOp a.eval oj).run P w=r at *;cases r with
   |ok n w'=>
    cases n<;>simp only[Oper.upon]at h ⊢
    case value u=>exact⟨keep a hy u,by rw[←Act.put_comm a v u h2];exact h⟩
    case skip=>exact⟨keep a hy _,by rw[←Act.put_comm a v undef h2];exact h⟩
    case defer d=>
     refine⟨(keepD d).of_same (execOp_put oi hsi _ oj.dst _ h3) (wanted_put oi _ oj.dst _ h3),?_⟩;rw[←Act.put_comm _ v undef h2,←Act.put_defers];exact h
    case enter f args=>
     refine Calls.mono h fun e w'' he=>?_;cases e with
     |returned u=>exact⟨keep a hy u,by rw[←Act.put_comm a v u h2];exact he⟩
     |panicked c=>exact hQ _ _ _ he
     |outgrown=>exact he
    case row row args=>exact Rows.mono h fun u w'' he=>⟨keep a hy u,by rw[←Act.put_comm a v u h2];exact he⟩
   |halt x w'=>
    cases x<;>simp only[Oper.upon]at h ⊢
    case panic u=>exact hQ _ _ _ h
  ·rename_i hw;simp only[hw]at h;exact⟨keep a hy _,by rw[←Act.put_comm a v undef h2];exact h⟩
theorem zmP{j:Nat}{oi oj:Oper}{v:Value}(hj:ops[j]?=some oj)(hnh:lh oj.op ≠ .heavy)(hap:oi.apart ops oj=true)(hsi:∀cs b,oi.op ≠ .select cs b)(hsj:∀cs b,oj.op ≠ .select cs b)
  {K:Act->World->Prop} {a:Act} {w:World} (hy:YieldsL P ops oi v a w) (h:lD P ops Q j K (a.put oi.dst v) w) :
  lD P ops Q j (fun a' w'=>YieldsL P ops oi v a' w'∧K (a'.put oi.dst v) w') a w:=by
 obtain⟨h1,h2,h3⟩:=Oper.apart_spec hap;have keep:∀(a:Act),YieldsL P ops oi v a w->∀u,YieldsL P ops oi v (a.put oj.dst u) w:=fun a hy u=>
  hy.of_same (execOp_put oi hsi a oj.dst u h3) (wanted_put oi a oj.dst u h3)
 unfold lD at *;simp only[hj]at *;split
 ·rename_i hk;simp only[hk]at h;obtain⟨u,hu,hK⟩:=h;exact⟨u,hu.of_same (execOp_put oj hsj a oi.dst v h1).symm (wanted_put oj a oi.dst v h1).symm,keep a hy u,by rw[←Act.put_comm a v u h2];exact hK⟩
 ·rename_i hk;simp only[hk]at h;obtain⟨u,hu,hK⟩:=h;exact⟨u,hu.of_same (execOp_put oj hsj a oi.dst v h1).symm (wanted_put oj a oi.dst v h1).symm,keep a hy u,by rw[←Act.put_comm a v u h2];exact hK⟩
 ·rename_i hk;exact absurd hk hnh
def behind(md:Region.Mode)(ops:Array Oper)(i:Nat):Nat->Nat->Bool
 |0,_=>false
 |f+1,j=>match ops[j]? with
  |some oj=>oj.after.any fun e=>Region.binds md e&&(e.on==i||behind md ops i f e.on)
  |none=>false
def Closed(md:Region.Mode)(ops:Array Oper)(dD:Array Bool):Prop:=
 ∀(j:Nat)(oj:Oper),ops[j]?=some oj->dD.getD j false=true->∀e∈oj.after,Region.binds md e=true->dD.getD e.on false=true
theorem zds{dD:Array Bool}(hc:Closed md ops dD){i:Nat}(hi:dD.getD i false=false):∀(f j:Nat)(oj:Oper),ops[j]?=some oj->(∀e∈oj.after,Region.binds md e=true->dD.getD e.on false=true)->behind md ops i f j=false
 |0,_,_,_,_=>rfl
 |f+1,j,oj,hj,jg=>by
  simp only[behind,hj];cases hb:(oj.after.any fun e=>Region.binds md e&&(e.on==i||behind md ops i f e.on))with
  |false=>rfl
  |true=>
   obtain⟨e,he,h⟩:=Array.any_eq_true'.1 hb;simp only[aU,nG,gM]at h;have hl:=jg e he h.1;rcases h.2 with h2|h2
   ·rw[h2,hi]at hl;cases hl
   ·cases ho:ops[e.on]? with
    |none=>cases f<;>simp[behind,ho]at h2
    |some oe=>rw[zds hc hi f e.on oe ho (fun e' he' ky=>hc e.on oe ho hl e' he' ky)]at h2;cases h2
theorem Closed.set{dD:Array Bool}(hc:Closed md ops dD){i:Nat}(hr:i∈Region.ready md ops dD):Closed md ops (dD.setIfInBounds i true):=by
 intro j oj hj hl e he hb;obtain⟨h0,oi,hoi,jg⟩:=mem_ready.1 hr;by_cases hji:i=j
 ·subst hji;rw[hoi]at hj;cases hj;exact getD_set_true (jg e he hb)
 ·have jN:dD.getD j false=true:=by rw[Go.getD_set_ne false hji]at hl;exact hl
  exact getD_set_true (hc j oj hj jN e he hb)
def WY(md:Region.Mode)(ops:Array Oper)(dD:Array Bool)(i:Nat):Bool:=
 match ops[i]? with
 |none=>false
 |some oi=>(List.range ops.size).all fun j=>j==i||dD.getD j true||match ops[j]? with
   |some oj=>oi.apart ops oj&&(lh oi.op ==.quiet||lh oi.op ==.load&&lh oj.op !=.heavy)||behind md ops i 5 j
   |none=>true
theorem zoF{i:Nat}{oi:Oper}{dD:Array Bool}(hi:ops[i]?=some oi)(h:WY md ops dD i=true)(j:Nat)(oj:Oper)(hj:ops[j]?=some oj)(aR:j≠i)(hun:dD.getD j true=false)
  (hno:behind md ops i 5 j=false):oi.apart ops oj=true∧(lh oi.op=.quiet∨(lh oi.op=.load∧lh oj.op ≠ .heavy)):=by
 simp only[WY,hi,Gf,EK]at h;have h1:=h j (rz.1 hj).1;simp only[hj,nG,gM,aR,false_or,hun,mQ,aU,bne_iff_ne,ne_eq,hno,or_false]at h1;exact h1
def First(P:Program)(ops:Array Oper)(o:Oper)(v:Value)(a:Act)(w:World):Prop:=
 (lh o.op=.quiet∧Yields P ops o v a)∨(lh o.op=.load∧YieldsL P ops o v a w)
theorem zi8{i:Nat}{oi:Oper}{v:Value}(hi:ops[i]?=some oi)(hsel:∀(j:Nat)(o:Oper) cs b,ops[j]?=some o->o.op ≠ .select cs b)
  (hQ:∀c a w,Q (.panic c) (a.put oi.dst v) w->Q (.panic c) a w) :
  ∀(qP:Nat)(dD:Array Bool)(a:Act)(w:World),
   Closed md ops dD->(∀j oj,ops[j]?=some oj->j≠i->dD.getD j true=false->behind md ops i 5 j=false->oi.apart ops oj=true∧(lh oi.op=.quiet∨(lh oi.op=.load∧lh oj.op ≠ .heavy)))->
   i∈Region.ready md ops dD->First P ops oi v a w->
   sj P md ops Q qP (dD.setIfInBounds i true) (a.put oi.dst v) w->sj P md ops Q (qP+1) dD a w:=by
 have go:∀{K:Act->World->Prop}{a:Act}{w:World},First P ops oi v a w->K (a.put oi.dst v) w->lD P ops Q i K a w:=fun{K a w} hy hK=>by
  unfold lD;simp only[hi];rcases hy with⟨hk,hy⟩|⟨hk,hy⟩
  ·simp only[hk];exact⟨v,hy,hK⟩
  ·simp only[hk];exact⟨v,hy,hK⟩
 intro qP;induction qP with
 |zero=>
  intro dD a w _ _ hr hy H;refine⟨fun h=>(by rw[h]at hr;cases hr),fun j hj=>?_⟩;by_cases hji:j=i
  ·subst hji;exact go hy H
  ·have:=ready_mono hj hji;rw[H.1]at this;cases this
 |succ qP ih=>
  intro dD a w bM hfree hr hy H;refine⟨fun h=>(by rw[h]at hr;cases hr),fun j hj=>?_⟩;by_cases hji:j=i
  ·subst hji;exact go hy H
  ·have h1:=H.2 j (ready_mono hj hji);obtain⟨hjun,oj,hoj,jg⟩:=mem_ready.1 hj;have hiun:dD.getD i false=false:=by
    have h0:=(mem_ready.1 hr).1;rcases kY i dD.size with h'|h'
    ·simp[h']at h0 ⊢;exact h0
    ·simp[xK h']at h0
   have hnot:behind md ops i 5 j=false:=zds bM hiun 5 j oj hoj jg;obtain⟨hap,hkind⟩:=hfree j oj hoj hji hjun hnot;have h2:lD P ops Q j (fun a' w'=>First P ops oi v a' w'∧sj P md ops Q qP ((dD.setIfInBounds i true).setIfInBounds j true) (a'.put oi.dst v) w') a w:=by
    rcases hy with⟨hk,hy⟩|⟨hk,hy⟩
    ·exact Wv (fun a' w' h=>⟨.inl ⟨hk,h.1⟩,h.2⟩) (zmQ hoj hap (fun cs b=>hsel i oi cs b hi) (fun cs b=>hsel j oj cs b hoj) hQ hy h1)
    ·have hnh:lh oj.op ≠ .heavy:=hkind.elim (fun h=>by rw[hk]at h;cases h) (·.2);exact Wv (fun a' w' h=>⟨.inr ⟨hk,h.1⟩,h.2⟩) (zmP hoj hnh hap (fun cs b=>hsel i oi cs b hi) (fun cs b=>hsel j oj cs b hoj) hy h1)
   have hfree':∀k ok,ops[k]?=some ok->k≠i->(dD.setIfInBounds j true).getD k true=false->
     behind md ops i 5 k=false->oi.apart ops ok=true∧(lh oi.op=.quiet∨(lh oi.op=.load∧lh ok.op ≠ .heavy)):=fun k ok hk hki hun hno=>by
    refine hfree k ok hk hki ?_ hno;by_cases hjk:j=k
    ·subst hjk;exact hjun
    ·rw[Go.getD_set_ne true hjk]at hun;exact hun
   refine Wv (fun a' w' h3=>ih (dD.setIfInBounds j true) a' w' (bM.set hj) hfree' (ready_mono hr (vT hji)) h3.1 ?_) h2;rw[Array.setIfInBounds_comm _ _ hji];exact h3.2
end
end Go.Ak
namespace Go.Ak
def Ng(vs:List Nat)(N:Nat):Option Tmp->Dst->Bool
 |none,.no=>true
 |some d,.l t=>d==t && !vs.contains t&&decide (t<N)
 |some d,.v t=>d==t&&vs.contains t&&decide (t<N)
 |_,_=>false
def Xu(T:Tr)(vs:List Nat)(N:Nat)(ops:Array Oper):Option (Nat×Bool)->Option (Opd×Bool)->Bool
 |none,none=>true
 |some (j,a),some (y,b)=>a==b&&match(ops[j]?).bind (·.dst)with
  |some t=>bE T vs N (.tmp t) y
  |none=>false
 |_,_=>false
def zdC:AOp->Bool
 | .load .. => true
 |_=>false
def AA(T:Tr)(vs:List Nat)(N:Nat)(ops:Array Oper)(o:Oper)(s:AStep):Bool:=
 Ng vs N o.dst s.dst&&Xu T vs N ops o.guard s.guard&&(bif ME s.op then Xr T vs N o.op s.op else Nf T vs N o.op s.op)
section
variable {T:Tr} {ae:Nat} {vs:List Nat} {N:Nat} {g:Gh} {w:World} {σ:St} {tm:Array Value} {ds:List Deferred} {o:Oper} {r:OpR} {ops:Array Oper} {call:CallF}
theorem QN(h:Rel T vs N g w σ tm){od:Option Tmp}{d:Dst}(hd:Ng vs N od d=true){a:AV}{v:Value}(hv:AVR T g w σ tm .res a v){σ':St}(hp:put d a σ=some σ'):
  ∃g',Ext ae g w g' w∧Rel T vs N g' w σ' ((Act.mk tm ds).put od v).tmps:=by
 unfold Ng at hd;split at hd
 ·simp only[put,aD]at hp;subst hp;exact⟨g,.refl _ _ _,h⟩
 ·rename_i dd t;simp only[aU,gM,LU,ik]at hd;obtain⟨⟨rfl,h1⟩,h2⟩:=hd;have hnb:∀cs,a ≠ .box cs:=fun cs e=>by subst e;simp[put]at hp
  have hp':some { σ with lenv:=(dd,a)::σ.lenv }=some σ':=by
   rw[←hp];cases a<;>first|rfl|exact absurd rfl (hnb _)
  simp only[aD]at hp';subst hp';exact put_l h (by simpa using h1) h2 hnb hv
 ·rename_i dd t;simp only[aU,gM,ik]at hd;obtain⟨⟨rfl,h1⟩,h2⟩:=hd;simp only[put]at hp;cases hs:vZ a with
  |false=>simp[hs]at hp
  |true=>
   simp only[hs,bA,aD]at hp;subst hp;have hr:qb a=false:=by cases a<;>simp_all[vZ,qb]
   exact put_v h (by simpa using h1) h2 (hv.SV_of hr)
 ·cases hd
theorem zbI(h:Rel T vs N g w σ tm){gd:Option (Opd×Bool)}(hg:Xu T vs N ops o.guard gd=true){b:Bool}(hw:wanted σ gd=some b):Region.wanted o (yielded ops tm)=b:=by
 unfold Region.wanted;unfold Xu at hg;split at hg
 ·rename_i e;rw[e];simp only[wanted,aD]at hw;exact hw
 ·rename_i j a y b' e;rw[e];simp only[aU,gM]at hg;obtain⟨rfl,hg⟩:=hg;split at hg
  ·rename_i t ht;have hr:=lS (ds:=[]) h hg;have htN:t<tm.size:=by
    rw[h.size];cases y<;>simp[bE]at hg
    ·exact hg.2
    ·exact hg.2
   have jD:tm[t]?=some (tm.getD t undef):=by simp[Ql,htN]
   simp only[wanted]at hw;split at hw
   ·rename_i c hc;rw[hc]at hr;have hv:tm.getD t undef=.bool c:=V.bool_inv hr;simp only[aD]at hw;simp only[yielded,ht,Option.bind_some,jD,hv];rw[←hw];cases c<;>cases a<;>rfl
   ·rename_i l hc;rw[hc]at hr;obtain⟨us,_,hv⟩:=V.tup_inv hr;have hv:tm.getD t undef=.tuple us.toArray:=hv;simp only[aD]at hw;simp only[yielded,ht,Option.bind_some,jD,hv];exact hw
   ·cases hw
  ·cases hg
 ·cases hg
theorem zb6(bf:o9 T ae call)(h:Rel T vs N g w σ tm){s:AStep}(hc:AA T vs N ops o s=true){x:AExit}{σ1:St}(he:kr call ae s σ=some (x, σ1)):
  (Region.wanted o (yielded ops tm)=false∧x=.norm∧∃g',Ext ae g w g' w∧Rel T vs N g' w σ1 ((Act.mk tm ds).put o.dst undef).tmps)∨
  (Region.wanted o (yielded ops tm)=true∧ME s.op=true∧x=.norm∧∃v,(∀w',(execOp (Act.mk tm ds).eval o).run T.P w'=.ok (.value v) w')∧∃g',Ext ae g w g' w∧Rel T vs N g' w σ1 ((Act.mk tm ds).put o.dst v).tmps)∨
  (Region.wanted o (yielded ops tm)=true∧ME s.op=false∧Nf T vs N o.op s.op=true∧∃r,cB call ae s.op σ=some r∧OpOKr T ((execOp (Act.mk tm ds).eval o).run T.P w) (OpPost T ae vs N g w tm r) (jY T ae vs N g w tm r)∧
   ((∃a σ0,r=.ok a σ0∧put s.dst a σ0=some σ1∧x=.norm)∨(∃v,r=.pan v σ1∧x=.pan v))):=by
 simp only[AA,aU]at hc;obtain⟨⟨hd,hg⟩,ho⟩:=hc;simp only[kr]at he;split at he
 ·rename_i hw;have hw':=zbI h hg hw;right;cases hq:ME s.op with
  |true=>
   left;simp only[hq,bA]at ho;split at he
   ·rename_i a σ0 je;obtain⟨v,dA,a', σ',g1,e,e1,e2,e3⟩:=zdf (ds:=ds) h ho je;cases e;split at he
    ·rename_i σ2 hput;simp only[aD,eU]at he;obtain⟨rfl,rfl⟩:=he;obtain⟨g2,f1,f2⟩:=QN (ae:=ae) (ds:=ds) e2 hd e3 hput;exact⟨hw',rfl,rfl,v,dA,g2,e1.trans f1,f2⟩
    ·cases he
   ·rename_i v σ0 je;obtain⟨v,dA,a', σ',g1,e,_⟩:=zdf (ds:=ds) h ho je;cases e
   ·cases he
  |false=>
   right;simp only[hq,fq]at ho;refine⟨hw',rfl,ho,?_⟩;split at he
   ·rename_i a σ0 je;split at he
    ·rename_i σ2 hput;simp only[aD,eU]at he;obtain⟨rfl,rfl⟩:=he;exact⟨_,je,zdj bf h ho je,.inl ⟨a, σ0,rfl,hput,rfl⟩⟩
    ·cases he
   ·rename_i v σ0 je;simp only[aD,eU]at he;obtain⟨rfl,rfl⟩:=he;exact⟨_,je,zdj bf h ho je,.inr ⟨v,rfl,rfl⟩⟩
   ·cases he
 ·rename_i hw;left;refine⟨zbI h hg hw,?_⟩;split at he
  ·rename_i σ2 hput;simp only[aD,eU]at he;obtain⟨rfl,rfl⟩:=he;exact⟨rfl,QN (ae:=ae) (ds:=ds) h hd (.of_V (.tup [] [] .nil)) hput⟩
  ·cases he
 ·cases he
theorem zb5(bf:o9 T ae call)(h:Rel T vs N g w σ tm){s:AStep}(hc:AA T vs N ops o s=true){x:AExit}{σ1:St}(he:kr call ae s σ=some (x, σ1)){K:Act->World->Prop}{Q:Exit->Act->World->Prop}
  (hK:x=.norm->∀(tm':Array Value)(g':Gh)(w':World),Ext ae g w g' w'->Rel T vs N g' w' σ1 tm'->K ⟨tm',ds⟩ w')
  (hQ:∀v,x=.pan v->∀(u:Value)(g':Gh)(w':World),Ext ae g w g' w'->HeapR T g' w' σ1.H->V T g' w' v u->Q (.panic [{ v:=u,recovered:=false }]) ⟨tm,ds⟩ w') :
  if Region.wanted o (yielded ops tm)then o.wp T.P ⟨tm,ds⟩ w K Q else K ((Act.mk tm ds).put o.dst undef) w:=by
 have hput:∀(v:Value),(Act.mk tm ds).put o.dst v=⟨((Act.mk tm ds).put o.dst v).tmps,ds⟩:=fun v=>by cases o.dst<;>rfl
 rcases zb6 (ds:=ds) bf h hc he with⟨hw,hx,g',e1,e2⟩|⟨hw,_,hx,v,dA,g',e1,e2⟩|⟨hw,_,_,r,je,dA,hr⟩
 ·rw[hw,hput];simp only[mQ,ig];exact hK hx _ g' w e1 e2
 ·rw[hw];simp only[fD,Oper.wp,dA,Oper.upon];rw[hput];exact hK hx _ g' w e1 e2
 ·rw[hw];simp only[fD,Oper.wp];have hd:Ng vs N o.dst s.dst=true:=by
   simp only[AA,aU]at hc;exact hc.1.1
  have onR:∀v w',OpPost T ae vs N g w tm r v w'->K ((Act.mk tm ds).put o.dst v) w':=by
   rintro v w' ⟨a, σ',g',e,e1,e2,e3⟩;rcases hr with⟨a', σ0,e',hp,hx⟩|⟨v',e',_⟩
   ·rw[e']at e;cases e;obtain⟨g2,f1,f2⟩:=QN (ae:=ae) (ds:=ds) e2 hd e3 hp;rw[hput];exact hK hx _ g2 w' (e1.trans f1) f2
   ·rw[e']at e;cases e
  have onP:∀v w',jY T ae vs N g w tm r v w'->Q (.panic [{ v:=v,recovered:=false }]) ⟨tm,ds⟩ w':=by
   rintro v w' ⟨a, σ',g',e,e1,e2,e3⟩;rcases hr with⟨a', σ0,e',_,_⟩|⟨v',e',hx⟩
   ·rw[e']at e;cases e
   ·rw[e']at e;cases e;exact hQ _ hx v g' w' e1 e2.heap e3
  generalize(execOp (Act.mk tm ds).eval o).run T.P w=res at dA;cases res with
  |ok n w'=>
   cases n<;>simp only[OpOKr]at dA<;>simp only[Oper.upon]
   case value v=>exact onR v w' dA
   case skip=>exact onR undef w' dA
   case enter f args=>
    refine dA.mono fun e w'' hh=>?_;cases e with
    |returned v=>exact onR v w'' hh
    |panicked ch=>
     obtain⟨v,rfl,hh⟩:=hh;exact onP v w'' hh
    |outgrown=>exact hh.elim
  |halt x w'=>
   cases x<;>simp only[OpOKr]at dA<;>simp only[Oper.upon]
   case panic v=>exact onP v w' dA
def RPost(T:Tr)(ae:Nat)(vs:List Nat)(N:Nat)(g:Gh)(w:World)(ds:List Deferred)(r:AExit×St):Exit->Act->World->Prop
 | .normal,a,w'=>r.1=.norm∧a.defers=ds∧∃g',Ext ae g w g' w'∧Rel T vs N g' w' ⟨r.2.env,[],[],r.2.H⟩ a.tmps
 | .panic ch,a,w'=>a.defers=ds∧∃v u g',r.1=.pan v∧ch=[{ v:=u,recovered:=false }]∧Ext ae g w g' w'∧HeapR T g' w' r.2.H∧V T g' w' v u
 |_,_,_=>False
theorem Rel.bare(h:Rel T vs N g w σ tm):Rel T vs N g w ⟨σ.env,[],[], σ.H⟩ tm:=
 ⟨h.size,h.envk,fun _ _=>rfl,h.env,fun _=>V.undef _,fun _ _=>by simp[bB],h.heap⟩
theorem RPost.mono{g0:Gh}{w0:World}(he:Ext ae g0 w0 g w){r:AExit×St}{e:Exit}{a:Act}{w':World}(h:RPost T ae vs N g w ds r e a w'):RPost T ae vs N g0 w0 ds r e a w':=by
 cases e with
 |normal=>obtain⟨h1,h2,g',h3,h4⟩:=h;exact⟨h1,h2,g',he.trans h3,h4⟩
 |panic ch=>obtain⟨h1,v,u,g',h2,h3,h4,h5⟩:=h;exact⟨h1,v,u,g',h2,h3,he.trans h4,h5⟩
 |_=>exact h.elim
theorem zbN{a:Act}{K K':Act->World->Prop}{Q Q':Exit->Act->World->Prop}(hK:∀a w,K a w->K' a w)(hQ:∀e a w,Q e a w->Q' e a w){P:Program}{res:Result Next}(h:o.upon P a K Q res):o.upon P a K' Q' res:=by
 cases res with
 |ok n w'=>
  cases n<;>simp only[Oper.upon]at h ⊢
  case value v=>exact hK _ _ h
  case skip=>exact hK _ _ h
  case defer d=>exact hK _ _ h
  case enter f args=>
   refine h.mono fun e w'' hh=>?_;cases e with
   |returned v=>exact hK _ _ hh
   |panicked ch=>exact hQ _ _ _ hh
   |outgrown=>obtain⟨a,w,hh⟩:=hh;exact⟨a,w,hQ _ _ _ hh⟩
  case row row args=>exact h.mono fun v w'' hh=>hK _ _ hh
 |halt x w'=>
  cases x<;>simp only[Oper.upon]at h ⊢
  case panic v=>exact hQ _ _ _ h
theorem Qn{P:Program}{Q Q':Exit->Act->World->Prop}(hQ:∀e a w,Q e a w->Q' e a w):∀(l:List Nat)(a:Act)(w:World),wpOps P ops Q l a w->wpOps P ops Q' l a w
 | [],a,w,h=>hQ _ _ _ h
 |i::l,a,w,h=>by
  simp only[wpOps]at h ⊢;split
  ·rename_i ho;simp only[ho]at h;exact Qn hQ l a w h
  ·rename_i o' ho;simp only[ho]at h;split
   ·rename_i hw;simp only[hw,fD]at h;rcases h with h|⟨h,h2⟩
    ·exact .inl (zbN (fun a w=>Qn hQ l a w) hQ h)
    ·obtain⟨a,w,h2⟩:=h2;exact .inr ⟨h,a,w,hQ _ _ _ h2⟩
   ·rename_i hw;simp only[hw]at h;exact Qn hQ l _ w h
def JX(T:Tr)(vs:List Nat)(N:Nat)(ops:Array Oper):Nat->List AStep->Bool
 |k,[]=>k==ops.size
 |k,s::r=>match ops[k]? with
  |some o=>AA T vs N ops o s&&JX T vs N ops (k+1) r
  |none=>false
theorem zbF(bf:o9 T ae call):∀(l:List AStep)(k:Nat)(g:Gh)(w:World)(σ:St)(tm:Array Value)(_:Rel T vs N g w σ tm)(_:JX T vs N ops k l=true){r:AExit×St}(_:jP call ae l σ=some r),
  wpOps T.P ops (RPost T ae vs N g w ds r) (List.range' k (ops.size-k)) ⟨tm,ds⟩ w
 | [],k,g,w, σ,tm,h,hc,r,he=>by
  simp only[JX,gM]at hc;simp only[jP,aD]at he;subst he;rw[hc,Nat.sub_self,List.range'_zero];exact⟨rfl,rfl,g,.refl _ _ _,h.bare⟩
 |s::l,k,g,w, σ,tm,h,hc,r,he=>by
  simp only[JX]at hc;split at hc
  ·rename_i o ho;simp only[aU]at hc;have hk:k<ops.size:=(rz.1 ho).1;obtain⟨d,hd⟩:∃d,ops.size-k=d+1:=⟨ops.size-k-1,by omega⟩
   have hd':ops.size-(k+1)=d:=by omega
   rw[hd,List.range'_succ];simp only[wpOps,ho];have hstep:∃x σ1,kr call ae s σ=some (x, σ1):=by
    simp only[jP]at he;cases hs:kr call ae s σ with
    |none=>rw[hs]at he;cases he
    |some p=>exact⟨p.1,p.2,rfl⟩
   obtain⟨x, σ1,hs⟩:=hstep;have dw:=zb5 (ds:=ds) (K:=wpOps T.P ops (RPost T ae vs N g w ds r) (List.range' (k+1) d)) (Q:=RPost T ae vs N g w ds r) bf h hc.1 hs (fun hx tm' g' w' e1 e2=>by
    subst hx;simp only[jP,hs]at he;have:=zbF bf l (k+1) g' w' σ1 tm' e2 hc.2 he;rw[hd']at this;refine Qn (fun e a w=>RPost.mono e1) _ _ _ this) (fun v hx u g' w' e1 e2 e3=>by
    subst hx;simp only[jP,hs,aD]at he;subst he;exact⟨rfl,v,u,g',rfl,rfl,e1,e2,e3⟩)
   split
   ·rename_i hw;rw[aS hw]at dw;exact .inl dw
   ·rename_i hw;rw[aF hw]at dw;exact dw
  ·cases hc
end
end Go.Ak
namespace Go.Ak
mutual
theorem RD:∀(a b:AV),fC a b=true->a=b
 | .undef,b,h=>by cases b<;>first|rfl|simp[fC]at h
 | .bool x,b,h=>by cases b<;>first|(simp[fC]at h;done)|(simp only[fC,gM]at h;rw[h])
 | .int k x,b,h=>by
  cases b<;>first|(simp[fC]at h;done)|skip
  simp only[fC,aU,ik,gM]at h;rw[h.1,h.2]
 | .str x,b,h=>by
  cases b<;>first|(simp[fC]at h;done)|skip
  simp only[fC,RA,gM]at h;rw[h]
 | .nilp,b,h=>by cases b<;>first|rfl|simp[fC]at h
 | .nils,b,h=>by cases b<;>first|rfl|simp[fC]at h
 | .nilf,b,h=>by cases b<;>first|rfl|simp[fC]at h
 | .nili,b,h=>by cases b<;>first|rfl|simp[fC]at h
 | .ptr x y,b,h=>by
  cases b<;>first|(simp[fC]at h;done)|skip
  simp only[fC,aU]at h;rw[dH h.1,dH h.2]
 | .tptr x y z u,b,h=>by
  cases b<;>first|(simp[fC]at h;done)|skip
  simp only[fC,aU]at h;rw[dH h.1.1.1,dH h.1.1.2,dH h.1.2,dH h.2]
 | .rptr x y,b,h=>by
  cases b<;>first|(simp[fC]at h;done)|skip
  simp only[fC,aU]at h;rw[Cw _ _ h.1,dH h.2]
 | .slc p x,b,h=>by
  cases b<;>first|(simp[fC]at h;done)|skip
  simp only[fC,aU,ik]at h;rw[h.1,Cw _ _ h.2]
 | .msl x y z u,b,h=>by
  cases b<;>first|(simp[fC]at h;done)|skip
  simp only[fC,aU]at h;rw[dH h.1.1.1,dH h.1.1.2,dH h.1.2,dH h.2]
 | .bsl x y,b,h=>by
  cases b<;>first|(simp[fC]at h;done)|skip
  simp only[fC,aU]at h;rw[dH h.1,dH h.2]
 | .agg x,b,h=>by
  cases b<;>first|(simp[fC]at h;done)|skip
  simp only[fC]at h;rw[Cw _ _ h]
 | .tup x,b,h=>by
  cases b<;>first|(simp[fC]at h;done)|skip
  simp only[fC]at h;rw[Cw _ _ h]
 | .fn x y,b,h=>by
  cases b<;>first|(simp[fC]at h;done)|skip
  simp only[fC,aU]at h;rw[dH h.1,Cw _ _ h.2]
 | .ifc x y,b,h=>by
  cases b<;>first|(simp[fC]at h;done)|skip
  simp only[fC,aU]at h;rw[dH h.1,RD _ _ h.2]
 | .box x,b,h=>by
  cases b<;>first|(simp[fC]at h;done)|skip
  simp only[fC]at h;rw[Cw _ _ h]
 | .loc x y z,b,h=>by
  cases b<;>first|(simp[fC]at h;done)|skip
  simp only[fC,aU]at h;rw[dH h.1.1,dH h.1.2,dH h.2]
 | .eloc x y z u,b,h=>by
  cases b<;>first|(simp[fC]at h;done)|skip
  simp only[fC,aU]at h;rw[dH h.1.1.1,dH h.1.1.2,dH h.1.2,dH h.2]
 | .ref x y z u,b,h=>by
  cases b<;>first|(simp[fC]at h;done)|skip
  simp only[fC,aU]at h;rw[dH h.1.1.1,dH h.1.1.2,dH h.1.2,dH h.2]
theorem Cw:∀(a b:List AV),qY a b=true->a=b
 | [],[],_=>rfl
 | [],_::_,h=>by simp[qY]at h
 |_::_,[],h=>by simp[qY]at h
 |a::x,b::y,h=>by
  simp only[qY,aU]at h;rw[RD _ _ h.1,Cw _ _ h.2]
end
theorem zfp:∀(a b:List (Nat×AV)),Fx a b=true->a=b
 | [],[],_=>rfl
 | [],_::_,h=>by simp[Fx]at h
 |_::_,[],h=>by simp[Fx]at h
 |(k,a)::x,(l,b)::y,h=>by
  simp only[Fx,aU]at h;rw[dH h.1.1,RD _ _ h.1.2,zfp _ _ h.2]
theorem RB:∀(a b:aj),rV a b=true->a=b
 | [],[],_=>rfl
 | [],_::_,h=>by simp[rV]at h
 |none::x,[],h=>by simp[rV]at h
 |some _::x,[],h=>by simp[rV]at h
 |none::x,none::y,h=>by
  simp only[rV]at h;rw[RB _ _ h]
 |none::x,some b::y,h=>by simp[rV]at h
 |some a::x,none::y,h=>by simp[rV]at h
 |some a::x,some b::y,h=>by
  simp only[rV,aU]at h;rw[Cw _ _ h.1,RB _ _ h.2]
section
variable {T:Tr} {ae:Nat} {vs:List Nat} {N:Nat} {g:Gh} {w:World} {σ:St} {tm:Array Value} {ds:List Deferred} {o:Oper} {r:OpR} {ops:Array Oper} {call:CallF}
theorem RPost.same{a b:AExit×St}(h:qF a b=true){e:Exit}{x:Act}{w':World}(hb:RPost T ae vs N g w ds b e x w'):RPost T ae vs N g w ds a e x w':=by
 obtain⟨ea, σa⟩:=a;obtain⟨eb, σb⟩:=b;unfold qF at h;split at h
 ·rename_i σ τ e1 e2;cases e1;cases e2;simp only[aU]at h;have k1:=zfp _ _ h.1;have k2:=RB _ _ h.2;cases e with
  |normal=>
   obtain⟨_,h2,g',h3,h4⟩:=hb;exact⟨rfl,h2,g',h3,by simp only[k1,k2];exact h4⟩
  |panic ch=>obtain⟨_,v,u,g',h2,_⟩:=hb;cases h2
  |_=>exact hb.elim
 ·rename_i v σ u τ e1 e2;cases e1;cases e2;simp only[aU]at h;have k1:=RD _ _ h.1;have k2:=RB _ _ h.2;cases e with
  |normal=>obtain⟨h1,_⟩:=hb;cases h1
  |panic ch=>
   obtain⟨h1,v',u',g',h2,h3,h4,h5,h6⟩:=hb;cases h2;exact⟨h1,v,u',g',rfl,h3,h4,by simp only[k2];exact h5,by rw[k1];exact h6⟩
  |_=>exact hb.elim
 ·cases h
theorem zdl{P:Program}{Q Q':Exit->Act->World->Prop}{i:Nat}{a:Act}{w:World}{K K':Act->World->Prop}(hK:∀a w,K a w->K' a w)(hQ:∀e a w,Q e a w->Q' e a w)(h:lD P ops Q i K a w):lD P ops Q' i K' a w:=by
 unfold lD at *;split
 ·exact hK _ _ (by simpa[*]using h)
 ·rename_i o ho;simp only[ho]at h;split
  ·rename_i hk;simp only[hk]at h;obtain⟨v,h1,h2⟩:=h;exact⟨v,h1,hK _ _ h2⟩
  ·rename_i hk;simp only[hk]at h;obtain⟨v,h1,h2⟩:=h;exact⟨v,h1,hK _ _ h2⟩
  ·rename_i hk;simp only[hk]at h;split
   ·rename_i hw;simp only[hw,fD]at h;exact zbN hK hQ h
   ·rename_i hw;simp only[hw]at h;exact hK _ _ h
theorem Qo{P:Program}{md:Region.Mode}{Q Q':Exit->Act->World->Prop}(hQ:∀e a w,Q e a w->Q' e a w):∀(n:Nat)(dD:Array Bool)(a:Act)(w:World),sj P md ops Q n dD a w->sj P md ops Q' n dD a w
 |0,_,_,_,h=>⟨h.1,hQ _ _ _ h.2⟩
 |n+1,_,_,_,h=>⟨fun h0=>hQ _ _ _ (h.1 h0),fun i hi=>zdl (fun a w=>Qo hQ n _ a w) hQ (h.2 i hi)⟩
def JI(p:Op)(s:AOp):Bool:=
 match lh p with
 | .quiet=>ME s
 | .load=>zdC s
 | .heavy=>true
theorem put_eq(a:Act)(d:Option Tmp)(v:Value):a.put d v=⟨(a.put d v).tmps,a.defers⟩:=by cases d<;>rfl
theorem VR(bf:o9 T ae call)(h:Rel T vs N g w σ tm){s:AStep}(hc:AA T vs N ops o s=true)(hk:JI o.op s.op=true)(hh:lh o.op ≠ .heavy){x:AExit}{σ1:St}(he:kr call ae s σ=some (x, σ1)):
  x=.norm∧∃v g',First T.P ops o v ⟨tm,ds⟩ w∧Ext ae g w g' w∧Rel T vs N g' w σ1 ((Act.mk tm ds).put o.dst v).tmps:=by
 have hfirst:∀{v:Value},(lh o.op=.quiet->Yields T.P ops o v ⟨tm,ds⟩)->(lh o.op=.load->YieldsL T.P ops o v ⟨tm,ds⟩ w)->First T.P ops o v ⟨tm,ds⟩ w:=fun{v} h1 h2=>by
  cases hm:lh o.op with
  |quiet=>exact .inl ⟨hm,h1 hm⟩
  |load=>exact .inr ⟨hm,h2 hm⟩
  |heavy=>exact absurd hm hh
 rcases zb6 (ds:=ds) bf h hc he with⟨hw,hx,g',e1,e2⟩|⟨hw,_,hx,v,dA,g',e1,e2⟩|⟨hw,hq,hv,r,je,dA,hr⟩
 ·exact⟨hx,undef,g',hfirst (fun _=>.inr ⟨hw,rfl⟩) (fun _=>.inr ⟨hw,rfl⟩),e1,e2⟩
 ·exact⟨hx,v,g',hfirst (fun _=>.inl ⟨hw,dA⟩) (fun _=>.inl ⟨hw,dA w⟩),e1,e2⟩
 ·have hd:Ng vs N o.dst s.dst=true:=by
   simp only[AA,aU]at hc;exact hc.1.1
  have hm:lh o.op=.load:=by
   cases hm:lh o.op with
   |quiet=>simp only[JI,hm]at hk;rw[hk]at hq;cases hq
   |load=>rfl
   |heavy=>exact absurd hm hh
  simp only[JI,hm]at hk;cases hs:s.op with
  |load n y=>
   rw[hs]at hv je;simp only[Nf]at hv;split at hv
   ·rename_i t x' ho;simp only[aU]at hv;obtain⟨v,hr1,a', σ',g1,e,e1,e2,e3⟩:=zdh (ds:=ds) h ho hv.1 hv.2 je;subst e;rcases hr with⟨a0, σ0,e',hp,hx⟩|⟨v',e',_⟩
    ·cases e';obtain⟨g2,f1,f2⟩:=QN (ae:=ae) (ds:=ds) e2 hd e3 hp;exact⟨hx,v,g2,hfirst (fun hm'=>by rw[hm]at hm';cases hm') (fun _=>.inl ⟨hw,hr1⟩),e1.trans f1,f2⟩
    ·cases e'
   ·cases hv
  |_=>rw[hs]at hk;simp[zdC]at hk
theorem zjU(bf:o9 T ae call)(h:Rel T vs N g w σ tm){i:Nat}(hi:ops[i]?=some o){s:AStep}(hc:AA T vs N ops o s=true)(hk:JI o.op s.op=true){x:AExit}{σ1:St}(he:kr call ae s σ=some (x, σ1)){K:Act->World->Prop}{Q:Exit->Act->World->Prop}
  (hK:x=.norm->∀(tm':Array Value)(g':Gh)(w':World),Ext ae g w g' w'->Rel T vs N g' w' σ1 tm'->K ⟨tm',ds⟩ w')
  (hQ:∀v,x=.pan v->∀(u:Value)(g':Gh)(w':World),Ext ae g w g' w'->HeapR T g' w' σ1.H->V T g' w' v u->Q (.panic [{ v:=u,recovered:=false }]) ⟨tm,ds⟩ w') :
  lD T.P ops Q i K ⟨tm,ds⟩ w:=by
 unfold lD;simp only[hi];cases hm:lh o.op with
 |heavy=>exact zb5 bf h hc he hK hQ
 |quiet=>
  obtain⟨hx,v,g',h1,h2,h3⟩:=VR (ds:=ds) bf h hc hk (by rw[hm];simp) he;rcases h1 with⟨_,h1⟩|⟨h1,_⟩
  ·exact⟨v,h1,by rw[put_eq];exact hK hx _ g' w h2 h3⟩
  ·rw[hm]at h1;cases h1
 |load=>
  obtain⟨hx,v,g',h1,h2,h3⟩:=VR (ds:=ds) bf h hc hk (by rw[hm];simp) he;rcases h1 with⟨h1,_⟩|⟨_,h1⟩
  ·rw[hm]at h1;cases h1
  ·exact⟨v,h1,by rw[put_eq];exact hK hx _ g' w h2 h3⟩
def Cn:Plan->List Nat
 | .one i _ _=>[i]
 | .alt i _ _ q=>i::Cn q
 |_=>[]
def J2(T:Tr)(vs:List Nat)(N:Nat)(ops:Array Oper)(i:Nat)(s:AStep):Bool:=
 match ops[i]? with
 |some o=>AA T vs N ops o s&&JI o.op s.op
 |none=>false
def QL(ops:Array Oper)(dD:Array Bool)(i:Nat):Bool:=(Region.ready .any ops dD).contains i
def cover(ops:Array Oper)(dD:Array Bool)(l:List Nat):Bool:= !(Region.ready .any ops dD).isEmpty&&(Region.ready .any ops dD).all l.contains
def qV(T:Tr)(vs:List Nat)(N:Nat)(ops:Array Oper):Plan->Bool->Nat->Array Bool->Bool
 | .fin,_,_,dD=>(Region.ready .any ops dD).isEmpty
 | .seq i s p,_,n+1,dD=>(Region.ready .any ops dD).contains i&&WY .any ops dD i&&(match ops[i]? with|some o=>lh o.op !=.heavy|none=>false)&&J2 T vs N ops i s&&qV T vs N ops p true n (dD.setIfInBounds i true)
 | .one i s p,top,n+1,dD=>(!top||cover ops dD [i])&&QL ops dD i&&J2 T vs N ops i s&&qV T vs N ops p true n (dD.setIfInBounds i true)
 | .alt i s p q,top,n+1,dD=>(!top||cover ops dD (i::Cn q))&&QL ops dD i&&J2 T vs N ops i s&&qV T vs N ops p true n (dD.setIfInBounds i true)&&qV T vs N ops q false (n+1) dD
 |_,_,0,_=>false
theorem ze6{i:Nat}{s:AStep}(h:J2 T vs N ops i s=true):∃o,ops[i]?=some o∧AA T vs N ops o s=true∧JI o.op s.op=true:=by
 unfold J2 at h;split at h
 ·rename_i o ho;simp only[aU]at h;exact⟨o,ho,h.1,h.2⟩
 ·cases h
def L8(call:CallF)(ae:Nat)(s:AStep)(p:Plan)(σ:St):Option (AExit×St):=
 match kr call ae s σ with
 |some (.norm, σ)=>gT call ae p σ
 |r=>r
theorem zlS(bf:o9 T ae call)(hsel:Region.noSelect ops=true):∀(p:Plan)(top:Bool)(n:Nat)(dD:Array Bool)(g:Gh)(w:World)(σ:St)(tm:Array Value)(_:Closed .any ops dD)(_:Rel T vs N g w σ tm)(_:qV T vs N ops p top n dD=true){r:AExit×St}(_:gT call ae p σ=some r),
  (top=true->sj T.P .any ops (RPost T ae vs N g w ds r) n dD ⟨tm,ds⟩ w)∧(∀i∈Cn p,∃m,n=m+1∧lD T.P ops (RPost T ae vs N g w ds r) i (sj T.P .any ops (RPost T ae vs N g w ds r) m (dD.setIfInBounds i true)) ⟨tm,ds⟩ w):=by
 intro p
 -- what one branch comes to
 have branch:∀(i:Nat)(s:AStep)(p:Plan),(∀(top:Bool)(n:Nat)(dD:Array Bool)(g:Gh)(w:World)(σ:St)(tm:Array Value)(_:Closed .any ops dD)(_:Rel T vs N g w σ tm)(_:qV T vs N ops p top n dD=true){r:AExit×St}(_:gT call ae p σ=some r),
   (top=true->sj T.P .any ops (RPost T ae vs N g w ds r) n dD ⟨tm,ds⟩ w)∧(∀i∈Cn p,∃m,n=m+1∧lD T.P ops (RPost T ae vs N g w ds r) i (sj T.P .any ops (RPost T ae vs N g w ds r) m (dD.setIfInBounds i true)) ⟨tm,ds⟩ w))->
   ∀(n:Nat)(dD:Array Bool)(g:Gh)(w:World)(σ:St)(tm:Array Value)(_:Closed .any ops dD)(_:i∈Region.ready .any ops dD)(_:Rel T vs N g w σ tm),J2 T vs N ops i s=true->qV T vs N ops p true n (dD.setIfInBounds i true)=true->∀{r:AExit×St},L8 call ae s p σ=some r->
   lD T.P ops (RPost T ae vs N g w ds r) i (sj T.P .any ops (RPost T ae vs N g w ds r) n (dD.setIfInBounds i true)) ⟨tm,ds⟩ w:=by
  intro i s p ih n dD g w σ tm bM hri h hn hp r he;obtain⟨o,ho,h1,h2⟩:=ze6 hn;unfold L8 at he;cases hs:kr call ae s σ with
  |none=>rw[hs]at he;cases he
  |some pr=>
   obtain⟨x, σ1⟩:=pr;refine zjU bf h ho h1 h2 hs (fun hx tm' g' w' e1 e2=>?_) (fun v hx u g' w' e1 e2 e3=>?_)
   ·subst hx;simp only[hs]at he;exact Qo (fun e a w=>RPost.mono e1) _ _ _ _ ((ih true n _ g' w' σ1 tm' (bM.set hri) e2 hp he).1 rfl)
   ·subst hx;simp only[hs,aD]at he;subst he;exact⟨rfl,v,u,g',rfl,rfl,e1,e2,e3⟩
 induction p with
 |fin=>
  intro top n dD g w σ tm bM h hc r he;simp only[qV,List.isEmpty_iff]at hc;simp only[gT,aD]at he;subst he;have hQ:RPost T ae vs N g w ds (AExit.norm, σ) .normal ⟨tm,ds⟩ w:=⟨rfl,rfl,g,.refl _ _ _,h.bare⟩
  refine⟨fun _=>?_,fun i hi=>by simp[Cn]at hi⟩;cases n with
  |zero=>exact⟨hc,hQ⟩
  |succ n=>exact⟨fun _=>hQ,by rw[hc];simp⟩
 |seq i s p ih=>
  intro top n dD g w σ tm bM h hc r he;refine⟨fun _=>?_,fun i hi=>by simp[Cn]at hi⟩;cases n with
  |zero=>simp[qV]at hc
  |succ n=>
   simp only[qV,aU]at hc;obtain⟨⟨⟨⟨c1,c2⟩,c3⟩,c4⟩,c5⟩:=hc;obtain⟨o,ho,h1,h2⟩:=ze6 c4;rw[ho]at c3;simp only[bne_iff_ne,ne_eq]at c3;cases hs:kr call ae s σ with
   |none=>simp only[gT,hs]at he;cases he
   |some pr=>
    obtain⟨x, σ1⟩:=pr;obtain⟨hx,v,g',k1,k2,k3⟩:=VR (ds:=ds) bf h h1 h2 c3 hs;subst hx;simp only[gT,hs]at he;refine zi8 ho (fun j o cs b hj=>Region.noSelect_spec hsel j o cs b hj) (fun c a w hp=>?_) n dD ⟨tm,ds⟩ w bM (fun j oj hj aR hun hno=>zoF ho c2 j oj hj aR hun hno) (by simpa using c1) k1 ?_
    ·obtain⟨p1,p2⟩:=hp;refine⟨?_,p2⟩;rw[←p1];cases o.dst<;>rfl
    ·rw[put_eq];exact Qo (fun e a w=>RPost.mono k2) _ _ _ _ ((ih true n _ g' w σ1 _ (bM.set (by simpa using c1)) k3 c5 he).1 rfl)
 |one i s p ih=>
  intro top n dD g w σ tm bM h hc r he;cases n with
  |zero=>simp[qV]at hc
  |succ n=>
   simp only[qV,aU]at hc;obtain⟨⟨⟨c1,cr⟩,c2⟩,c3⟩:=hc;have hb:=branch i s p ih n dD g w σ tm bM (by simpa[QL]using cr) h c2 c3 (r:=r) (by simp only[gT]at he;change L8 call ae s p σ=some r at he;exact he);have jg:∀j ∈ [i],lD T.P ops (RPost T ae vs N g w ds r) j (sj T.P .any ops (RPost T ae vs N g w ds r) n (dD.setIfInBounds j true)) ⟨tm,ds⟩ w:=fun j hj=>by
    have:j=i:=by simpa using hj
    subst this;exact hb
   refine⟨fun ht=>?_,fun j hj=>⟨n,rfl,jg j (by simpa[Cn]using hj)⟩⟩;subst ht;simp only[Bool.not_true,xJ,cover,aU,LU,Gf]at c1;exact⟨fun h0=>by rw[h0]at c1;simp at c1,fun j hj=>jg j (by simpa using c1.2 j hj)⟩
 |alt i s p q ihp ihq=>
  intro top n dD g w σ tm bM h hc r he;cases n with
  |zero=>simp[qV]at hc
  |succ n=>
   simp only[qV,aU]at hc;obtain⟨⟨⟨⟨c1,cr⟩,c2⟩,c3⟩,c4⟩:=hc;have hev:∃a b,L8 call ae s p σ=some a∧gT call ae q σ=some b∧qF a b=true∧r=a:=by
    simp only[gT]at he;change (match L8 call ae s p σ,gT call ae q σ with
     |some a,some b=>bif qF a b then some a else none
     |_,_=>none)=some r at he
    split at he
    ·rename_i a b h1 h2;cases hs:qF a b with
     |false=>simp[hs]at he
     |true=>simp only[hs,bA,aD]at he;exact⟨a,b,h1,h2,hs,he.symm⟩
    ·cases he
   obtain⟨a,b,h1,h2,h3,rfl⟩:=hev;have hb:=branch i s p ihp n dD g w σ tm bM (by simpa[QL]using cr) h c2 c3 h1;have hq:=(ihq false (n+1) dD g w σ tm bM h c4 h2).2;have jg:∀j∈i::Cn q,lD T.P ops (RPost T ae vs N g w ds r) j (sj T.P .any ops (RPost T ae vs N g w ds r) n (dD.setIfInBounds j true)) ⟨tm,ds⟩ w:=fun j hj=>by
    rcases il.1 hj with rfl|hj
    ·exact hb
    ·obtain⟨m,hm,je⟩:=hq j hj;have:m=n:=by omega
     subst this;exact zdl (fun a w=>Qo (fun e x w=>RPost.same h3) _ _ a w) (fun e x w=>RPost.same h3) je
   refine⟨fun ht=>?_,fun j hj=>⟨n,rfl,jg j (by simpa[Cn]using hj)⟩⟩;subst ht;simp only[Bool.not_true,xJ,cover,aU,LU,Gf]at c1;exact⟨fun h0=>by rw[h0]at c1;simp at c1,fun j hj=>jg j (by simpa using c1.2 j hj)⟩
end
end Go.Ak
namespace Go.Ak
def lJ(T:Tr)(vs:List Nat)(N:Nat):Code->ACode->Bool
 | .skip,.skip=>true
 | .region _ ops false,.region l=>JX T vs N ops 0 l
 | .region _ ops true,.draw p=>Region.noSelect ops&&qV T vs N ops p true ops.size (Array.replicate ops.size false)
 | .seq x y,.seq a b=>lJ T vs N x a&&lJ T vs N y b
 | .cond c x y,.cond _ c' a b=>bE T vs N c c'&&lJ T vs N x a&&lJ T vs N y b
 | .block i x,.block j a=>i==j&&lJ T vs N x a
 | .loop x,.loop a=>lJ T vs N x a
 | .exit i,.exit j=>i==j
 | .ret,.ret=>true
 |_,_=>false
section
variable {T:Tr} {ae:Nat} {vs:List Nat} {N:Nat} {g:Gh} {w:World} {σ:St} {tm:Array Value} {ds:List Deferred} {call:CallF}
def Fr(T:Tr)(ae:Nat)(vs:List Nat)(N:Nat)(g:Gh)(w:World)(ds:List Deferred)(s:EH)(a:Act)(w':World):Prop:=
 a.defers=ds∧∃g',Ext ae g w g' w'∧Rel T vs N g' w' ⟨s.1,[],[],s.2⟩ a.tmps
def CPost(T:Tr)(ae:Nat)(vs:List Nat)(N:Nat)(g:Gh)(w:World)(ds:List Deferred)(r:AExit×EH):Exit->Act->World->Prop
 | .normal,a,w'=>r.1=.norm∧Fr T ae vs N g w ds r.2 a w'
 | .exit i,a,w'=>r.1=.exit i∧Fr T ae vs N g w ds r.2 a w'
 | .ret,a,w'=>r.1=.ret∧Fr T ae vs N g w ds r.2 a w'
 | .panic ch,a,w'=>a.defers=ds∧∃v u g',r.1=.pan v∧ch=[{ v:=u,recovered:=false }]∧Ext ae g w g' w'∧HeapR T g' w' r.2.2∧V T g' w' v u
 |_,_,_=>False
theorem Fr.mono{g0:Gh}{w0:World}(he:Ext ae g0 w0 g w){s:EH}{a:Act}{w':World}(h:Fr T ae vs N g w ds s a w'):Fr T ae vs N g0 w0 ds s a w':=
 let ⟨h1,g',h2,h3⟩:=h;⟨h1,g',he.trans h2,h3⟩
theorem CPost.mono{g0:Gh}{w0:World}(he:Ext ae g0 w0 g w){r:AExit×EH}{e:Exit}{a:Act}{w':World}(h:CPost T ae vs N g w ds r e a w'):CPost T ae vs N g0 w0 ds r e a w':=by
 cases e with
 |normal=>exact⟨h.1,h.2.mono he⟩
 |exit i=>exact⟨h.1,h.2.mono he⟩
 |ret=>exact⟨h.1,h.2.mono he⟩
 |panic ch=>obtain⟨h1,v,u,g',h2,h3,h4,h5⟩:=h;exact⟨h1,v,u,g',h2,h3,he.trans h4,h5⟩
 |_=>exact h.elim
theorem CPost.of_R{r:AExit×St}{e:Exit}{a:Act}{w':World}(h:RPost T ae vs N g w ds r e a w'):CPost T ae vs N g w ds (r.1,(r.2.env,r.2.H)) e a w':=by
 cases e with
 |normal=>exact h
 |panic ch=>exact h
 |_=>exact h.elim
theorem Ext.heap_eq{w':World}(h:w'.heap=w.heap)(h1:w'.os=w.os)(h2:(w'.output,w'.tape)=(w.output,w.tape)):Ext ae g w g w' where
 size:=by rw[h];exact aX _
 S _:=aX _
 cell b o _:=by simp only[World.cell?,h]
 ob _ _ h:=h
 shape b x hx:=by simpa only[World.shape?,h]using hx
 kept b hb:=⟨hb,rfl,by rw[h]⟩
 low id b _ _ hb:=⟨hb,rfl,by rw[h]⟩
 os:=h1
 out:=h2
theorem Rel.heap_eq{w':World}(h:Rel T vs N g w σ tm)(hh:w'.heap=w.heap)(h1:w'.os=w.os)(h2:(w'.output,w'.tape)=(w.output,w.tape)):Rel T vs N g w' σ tm:=by
 refine h.frame (H':=σ.H) (Ext.heap_eq (ae:=0) hh h1 h2) (fun b t hb _=>⟨hb,rfl,by rw[hh]⟩) (fun b t hb _=>⟨hb,rfl,by rw[hh]⟩) ?_;exact h.heap.frame (Ext.heap_eq (ae:=0) hh h1 h2) (fun b id hb=>⟨hb,rfl,by rw[hh]⟩) rfl fun b hb=>h.heap.fresh b (by rw[hh]at hb;exact hb)
theorem zlm(bf:o9 T ae call){id:Nat}{ops:Array Oper}{l:List AStep}(hc:JX T vs N ops 0 l=true){s:EH}(h:Rel T vs N g w ⟨s.1,[],[],s.2⟩ tm){r:AExit×St}(he:jP call ae l ⟨s.1,[],[],s.2⟩=some r):
  (Code.region id ops false).wp T.P (CPost T ae vs N g w ds (r.1,(r.2.env,r.2.H))) ⟨tm,ds⟩ w:=by
 refine wp_mono (wp_region ?_) fun e a w'=>CPost.of_R;have:=zbF (ds:=ds) bf l 0 g w _ tm h hc he;rw[Nat.sub_zero]at this;rw[List.range_eq_range'];exact this
theorem zqj(hm:T.P.follows .mixedOrders=true)(bf:o9 T ae call){id:Nat}{ops:Array Oper}{p:Plan}(hs:Region.noSelect ops=true)(hc:qV T vs N ops p true ops.size (Array.replicate ops.size false)=true){s:EH}(h:Rel T vs N g w ⟨s.1,[],[],s.2⟩ tm){r:AExit×St}(he:gT call ae p ⟨s.1,[],[],s.2⟩=some r):
  (Code.region id ops true).wp T.P (CPost T ae vs N g w ds (r.1,(r.2.env,r.2.H))) ⟨tm,ds⟩ w:=by
 refine wp_mono (wp_region_any hm (zbG _ _ _ _ ?_)) fun e a w' hh=>CPost.mono (Ext.heap_eq (w:=w) (w':={ w with drawn:=w.drawn+1 }) rfl rfl rfl) (CPost.of_R hh);exact(zlS (ds:=ds) bf hs p true ops.size _ g { w with drawn:=w.drawn+1 } _ tm (fun j oj _ hl=>by simp[Ql,Array.getElem?_replicate]at hl;split at hl<;>simp at hl) (h.heap_eq rfl rfl rfl) hc he).1 rfl
theorem zeX{c:Operand}{y:Opd}{clr:Bool}(hc:bE T vs N c y=true){s s':EH}{b:Bool}(h:Rel T vs N g w ⟨s.1,[],[],s.2⟩ tm)(he:GJ s clr y=some (b,s')):
  (Act.mk tm ds).eval c=.bool b∧Rel T vs N g w ⟨s'.1,[],[],s'.2⟩ tm:=by
 unfold GJ at he;split at he
 ·rename_i t;split at he
  ·rename_i b' hb;have je:dZ ⟨s.1,[],[],s.2⟩ (.v t)=.bool b':=by simp only[dZ,hb]
   have hv:=MH (ds:=ds) h hc je;simp only[aD,eU]at he;obtain⟨rfl,rfl⟩:=he;refine⟨hv,?_⟩;cases clr with
   |false=>exact h
   |true=>exact(h.clear_slot t).bare
  ·cases he
 ·rename_i b';simp only[aD,eU]at he;obtain⟨rfl,rfl⟩:=he;exact⟨MH (ds:=ds) h hc (b:=b') rfl,h⟩
 ·cases he
theorem znF{C:Code}{body:EH->Option (AExit×EH)}
  (ih:∀(g:Gh)(w:World)(s:EH)(tm:Array Value),Rel T vs N g w ⟨s.1,[],[],s.2⟩ tm->∀{r:AExit×EH},body s=some r->C.wp T.P (CPost T ae vs N g w ds r) ⟨tm,ds⟩ w) :
  ∀(n:Nat)(g:Gh)(w:World)(s:EH)(tm:Array Value),Rel T vs N g w ⟨s.1,[],[],s.2⟩ tm->∀{r:AExit×EH},um body n s=some r->(Code.loop C).wp T.P (CPost T ae vs N g w ds r) ⟨tm,ds⟩ w:=by
 intro n g w s tm h r he b k cs;have dw:∀(n:Nat)(g:Gh)(w:World)(s:EH)(tm:Array Value),Rel T vs N g w ⟨s.1,[],[],s.2⟩ tm->∀{r:AExit×EH},um body n s=some r->
   ∃e a' w',CPost T ae vs N g w ds r e a' w'∧Arrives T.P (lone (b.at ⟨tm,ds⟩ (.code C :: .inLoop C::k)) cs w) b k cs e a' w':=by
  intro n;induction n with
  |zero=>intro g w s tm _ r he;simp[um]at he
  |succ n ihn=>
   intro g w s tm h r he;simp only[um]at he;cases hb:body s with
   |none=>rw[hb]at he;cases he
   |some q=>
    obtain⟨e,a₁,w₁,hq,harr⟩:=ih g w s tm h hb b (.inLoop C::k) cs;rw[hb]at he;cases e with
    |normal=>
     obtain⟨h1,h2,g',h3,h4⟩:=hq;obtain⟨q1,q2⟩:=q;subst h1;obtain⟨tm1,ds1⟩:=a₁;subst h2;obtain⟨e₂,a₂,w₂,hq₂,harr₂⟩:=ihn g' w₁ q2 tm1 h4 he;exact⟨e₂,a₂,w₂,hq₂.mono h3,.of_steps (Steps.trans harr (.one step_inLoop)) harr₂⟩
    |exit id=>
     have:some q=some r:=by
      obtain⟨q1,q2⟩:=q;have:=hq.1;subst this;exact he
     cases this;exact⟨_,a₁,w₁,hq,.pass (x:=.inLoop C) rfl (fun _ _=>.inl (by simp)) harr⟩
    |goto l=>exact hq.elim
    |ret=>
     have:some q=some r:=by
      obtain⟨q1,q2⟩:=q;have:=hq.1;subst this;exact he
     cases this;exact⟨_,a₁,w₁,hq,.pass (x:=.inLoop C) rfl (fun _ _=>.inl (by simp)) harr⟩
    |panic ch=>
     have:some q=some r:=by
      obtain⟨q1,q2⟩:=q;obtain⟨_,v,u,g',hv,_⟩:=hq;subst hv;exact he
     cases this;exact⟨_,a₁,w₁,hq,.pass (x:=.inLoop C) rfl (fun _ _=>.inl (by simp)) harr⟩
    |outgrown=>exact hq.elim
 obtain⟨e,a',w',hq,harr⟩:=dw n g w s tm h he;exact⟨e,a',w',hq,.of_steps (.one step_loop) harr⟩
theorem ev_ok(hm:T.P.follows .mixedOrders=true)(bf:o9 T ae call)(lf:Nat):∀(c:ACode)(C:Code),lJ T vs N C c=true->∀(g:Gh)(w:World)(s:EH)(tm:Array Value),Rel T vs N g w ⟨s.1,[],[],s.2⟩ tm->∀{r:AExit×EH},ev call ae lf c s=some r->
  C.wp T.P (CPost T ae vs N g w ds r) ⟨tm,ds⟩ w:=by
 intro c;induction c with
 |skip=>
  intro C hc g w s tm h r he;cases C<;>simp only[lJ]at hc<;>try (cases hc;done)
  simp only[ev,aD]at he;subst he;exact wp_skip ⟨rfl,rfl,g,.refl _ _ _,h⟩
 |region l=>
  intro C hc g w s tm h r he;cases C with
  |region id ops d=>
   cases d with
   |true=>simp[lJ]at hc
   |false=>
    simp only[lJ]at hc;simp only[ev]at he;split at he
    ·rename_i e σ hq;simp only[aD]at he;subst he;exact zlm bf hc h hq
    ·cases he
  |_=>simp[lJ]at hc
 |draw p=>
  intro C hc g w s tm h r he;cases C with
  |region id ops d=>
   cases d with
   |false=>simp[lJ]at hc
   |true=>
    simp only[lJ,aU]at hc;simp only[ev]at he;split at he
    ·rename_i e σ hq;simp only[aD]at he;subst he;exact zqj hm bf hc.1 hc.2 h hq
    ·cases he
  |_=>simp[lJ]at hc
 |seq x y ihx ihy=>
  intro C hc g w s tm h r he;cases C with
  |seq X Y=>
   simp only[lJ,aU]at hc;simp only[ev]at he;cases hx:ev call ae lf x s with
   |none=>rw[hx]at he;cases he
   |some q=>
    rw[hx]at he;refine wp_seq (wp_mono (ihx X hc.1 g w s tm h hx) fun e a w' hq=>?_);obtain⟨q1,q2⟩:=q;cases e with
    |normal=>
     obtain⟨h1,h2,g',h3,h4⟩:=hq;subst h1;obtain⟨tm1,ds1⟩:=a;subst h2;exact wp_mono (ihy Y hc.2 g' w' q2 tm1 h4 he) fun e a w'=>CPost.mono h3
    |exit id=>
     have:=hq.1;subst this;simp only[aD]at he;subst he;exact hq
    |ret=>
     have:=hq.1;subst this;simp only[aD]at he;subst he;exact hq
    |panic ch=>
     obtain⟨_,v,u,g',hv,_⟩:=id hq;subst hv;simp only[aD]at he;subst he;exact hq
    |_=>exact hq.elim
  |_=>simp[lJ]at hc
 |cond clr c x y ihx ihy=>
  intro C hc g w s tm h r he;cases C with
  |cond c' X Y=>
   simp only[lJ,aU]at hc;simp only[ev]at he;split at he
   ·rename_i s' hq;obtain⟨k1,k2⟩:=zeX (ds:=ds) hc.1.1 h hq;exact wp_cond_true k1 (ihx X hc.1.2 g w s' tm k2 he)
   ·rename_i s' hq;obtain⟨k1,k2⟩:=zeX (ds:=ds) hc.1.1 h hq;exact wp_cond_false k1 (ihy Y hc.2 g w s' tm k2 he)
   ·cases he
  |_=>simp[lJ]at hc
 |block i x ih=>
  intro C hc g w s tm h r he;cases C with
  |block j X=>
   simp only[lJ,aU,gM]at hc;obtain⟨rfl,hc⟩:=hc;simp only[ev]at he;cases hx:ev call ae lf x s with
   |none=>rw[hx]at he;cases he
   |some q=>
    rw[hx]at he;refine wp_block (wp_mono (ih X hc g w s tm h hx) fun e a w' hq=>?_);obtain⟨q1,q2⟩:=q;cases e with
    |normal=>
     have:=hq.1;subst this;simp only[aD]at he;subst he;exact hq
    |exit ii=>
     obtain⟨h1,h2⟩:=hq;subst h1;simp only at he;simp only[Exit.inBlock];cases hb:Nat.beq ii j with
     |true=>
      rw[hb]at he;simp only[bA,aD]at he;subst he;rw[aS (dH hb)];exact⟨rfl,h2⟩
     |false=>
      rw[hb]at he;simp only[fq,aD]at he;subst he;rw[aF (LC hb)];exact⟨rfl,h2⟩
    |ret=>
     have:=hq.1;subst this;simp only[aD]at he;subst he;exact hq
    |panic ch=>
     obtain⟨_,v,u,g',hv,_⟩:=id hq;subst hv;simp only[aD]at he;subst he;exact hq
    |_=>exact hq.elim
  |_=>simp[lJ]at hc
 |loop x ih=>
  intro C hc g w s tm h r he;cases C with
  |loop X=>
   simp only[lJ]at hc;simp only[ev]at he;exact znF (fun g w s tm h r=>ih X hc g w s tm h) lf g w s tm h he
  |_=>simp[lJ]at hc
 |exit i=>
  intro C hc g w s tm h r he;cases C<;>simp only[lJ]at hc<;>try (cases hc;done)
  simp only[gM]at hc;subst hc;simp only[ev,aD]at he;subst he;exact wp_exit ⟨rfl,rfl,g,.refl _ _ _,h⟩
 |ret=>
  intro C hc g w s tm h r he;cases C<;>simp only[lJ]at hc<;>try (cases hc;done)
  simp only[ev,aD]at he;subst he;exact wp_ret ⟨rfl,rfl,g,.refl _ _ _,h⟩
end
end Go.Ak
