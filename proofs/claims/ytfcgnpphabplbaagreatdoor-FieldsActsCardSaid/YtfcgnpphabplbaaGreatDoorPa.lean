/- The evaluator of functions over abstract values, and its soundness, parts 0 to 14. No program stands here. -/
import Derived.Test.YtfcgnpphabplbaaGreatDoorP0
import GoSem.Core.Next
import Derived.WalkKit
import Derived.Laws.IdiomCopy
import Derived.WalkLawsBesides
import Derived.Laws.StructEq
import Derived.Lib.ConvBytes
import Derived.Laws.MakeOwn
set_option linter.unusedVariables false
set_option linter.unusedSimpArgs false
namespace Go.Ak
inductive Perm where
 |ro|app|own
 deriving DecidableEq
inductive AV where
 |undef
 |bool (b:Bool)
 |int (k:IntKind) (n:Int)
 |str (s:List UInt8)
 |nilp|nils|nilf|nili
 |ptr (id ai:Nat)
 |tptr (ty n id ai:Nat)
 |rptr (cs:List AV) (ai:Nat)
 |slc (p:Perm) (es:List AV)
 |msl (st id ai len:Nat)
 |bsl (id n:Nat)
 |agg (cs:List AV)
 |tup (vs:List AV)
 |fn (f:Nat) (cap:List AV)
 |ifc (t:Nat) (v:AV)
 |box (cs:List AV)
 |loc (t fO ai:Nat)
 |eloc (t fO i ai:Nat)
 |ref (t fO lo len:Nat)
 deriving Inhabited
inductive Opd where
 |v (t:Nat)
 |l (t:Nat)
 |c (a:AV)
 deriving Inhabited
inductive Arg where
 |pl (x:Opd)
 |tk (x:Opd)
 deriving Inhabited
inductive AOp where
 |mov (x:Opd)
 |asg (d:Nat) (x:Opd)
 |pick (c a b:Opd)
 |allocL (z:List AV)
 |boxL (x:Opd)
 |allocH (z:List AV)
 |boxH (x:Opd)
 |allocT (ty:Nat) (z:List AV)
 |boxT (ty:Nat) (x:Opd)
 |build (z:List AV) (ps:List (Nat×Nat×Opd))
 |bslice (h:Bool) (z:AV) (len:Nat) (ps:List (Nat×Opd))
 |load (n:Option Nat) (x:Opd)
 |store (n:Option Nat) (x y:Opd)
 |nilchk (x:Opd)
 |bin (op:BinOp) (x y:Opd)
 |eq (neg:Bool) (k:Nat) (x y:Opd)
 |eqG (neg:Bool) (ks:List Nat) (x y:Opd)
 |un (op:UnOp) (x:Opd)
 |conv (k:IntKind) (x:Opd)
 |s2b (h:Bool) (x:Opd)
 |b2s (x:Opd)
 |mkifc (t:Nat) (x:Opd)
 |mkfn (f:Nat) (cap:List Opd)
 |mslice (h:Bool) (z:AV) (len cap:Opd)
 |slice (sz:Option Nat) (x:Opd) (lo hi:Option Opd)
 |faddr (ai:Nat) (x:Opd)
 |iaddr (sz:Nat) (x i:Opd)
 |aaddr (n sz:Nat) (x i:Opd)
 |sidx (x i:Opd)
 |aidx (n:Nat) (sz:Option Nat) (x i:Opd)
 |ext (n:Nat) (x:Opd)
 |tassert (t:Nat) (x:Opd)
 |len (s:Bool) (x:Opd)
 |minI (x y:Opd)
 |maxI (x y:Opd)
 |append (h:Bool) (sz:Nat) (x y:Opd)
 |appB (x y:Opd)
 |copy (sz:Nat) (x y:Opd)
 |call (f:Nat) (xs:List Arg)
 |callv (x:Opd) (xs:List Arg)
 |panic (x:Opd)
 deriving Inhabited
inductive Dst where
 |no
 |l (t:Nat)
 |v (t:Nat)
 deriving Inhabited
structure AStep where
 dst:Dst
 guard:Option (Opd×Bool)
 op:AOp
 deriving Inhabited
inductive Plan where
 |fin
 |seq (i:Nat) (s:AStep) (p:Plan)
 |one (i:Nat) (s:AStep) (p:Plan)
 |alt (i:Nat) (s:AStep) (p q:Plan)
 deriving Inhabited
inductive ACode where
 |skip
 |region (ops:List AStep)
 |draw (p:Plan)
 |seq (a b:ACode)
 |cond (clr:Bool) (c:Opd) (thn els:ACode)
 |block (id:Nat) (body:ACode)
 |loop (body:ACode)
 |exit (id:Nat)
 |ret
 deriving Inhabited
inductive ARes where
 |tmp (t:Nat)
 |cell (t:Nat) (n:Option Nat)
 deriving Inhabited
structure AFunc where
 np:Nat
 vars:List Nat
 res:List ARes
 body:ACode
 pure:Bool
 deriving Inhabited
abbrev aj:=List (Option (List AV))
structure St where
 env:List (Nat×AV)
 lenv:List (Nat×AV)
 mods:List Nat
 H:aj
 deriving Inhabited
inductive Out where
 |ret (v:AV)
 |pan (v:AV)
inductive AExit where
 |norm
 |exit (id:Nat)
 |ret
 |pan (v:AV)
abbrev CallF:=Nat->List AV->aj->Option (Out×aj)
def bB:List (Nat×AV)->Nat->AV
 | [],_=>.undef
 |(k,a)::r,t=>bif Nat.beq k t then a else bB r t
def upd:List (Nat×AV)->Nat->AV->List (Nat×AV)
 | [],_,_=>[]
 |(k,b)::r,t,a=>bif Nat.beq k t then(k,a)::r else(k,b)::upd r t a
def fO:List Nat->Nat->Nat
 | [],_=>0
 |k::r,t=>bif Nat.beq k t then Nat.succ (fO r t)else fO r t
def AV.cells:AV->List AV
 | .agg cs=>cs
 |a=>[a]
def sub(cs:List AV)(ai n:Nat):Option (List AV):=
 bif Nat.ble (ai+n) cs.length then some ((cs.drop ai).take n)else none
def setCells(cs:List AV)(ai:Nat):List AV->List AV
 | []=>cs
 |v::vs=>setCells (cs.set ai v) (ai+1) vs
def dZ(σ:St):Opd->AV
 | .c a=>a
 | .l t=>bB σ.lenv t
 | .v t=>match bB σ.env t with
  | .box _=>.loc t (fO σ.mods t) 0
  | .slc .ro es=>.slc .ro es
  | .slc _ es=>.ref t (fO σ.mods t) 0 es.length
  |a=>a
def live(σ:St):AV->Bool
 | .loc t k _=>Nat.beq (fO σ.mods t) k&&(match bB σ.env t with|.box _=>true|_=>false)
 | .eloc t k i _=>Nat.beq (fO σ.mods t) k&&(match bB σ.env t with|.slc _ es=>Nat.blt i es.length|_=>false)
 | .ref t k _ _=>Nat.beq (fO σ.mods t) k&&(match bB σ.env t with|.slc _ _=>true|_=>false)
 |_=>true
def l8(σ:St)(x:Opd):AV:=bif live σ (dZ σ x)then dZ σ x else .undef
def one:List AV->Option AV
 | [a]=>some a
 |_=>none
def pack(n:Option Nat)(cs:List AV):Option AV:=
 match n with
 |none=>one cs
 |some _=>some (.agg cs)
def rd(σ:St)(n:Nat):AV->Option (List AV)
 | .ptr id ai=>match σ.H[id]? with
  |some (some cs)=>sub cs ai n
  |_=>none
 | .tptr _ _ id ai=>match σ.H[id]? with
  |some (some cs)=>sub cs ai n
  |_=>none
 | .rptr cs ai=>sub cs ai n
 | .loc t k ai=>bif Nat.beq (fO σ.mods t) k then
   match bB σ.env t with
   | .box cs=>sub cs ai n
   |_=>none
  else none
 | .eloc t k i ai=>bif Nat.beq (fO σ.mods t) k then
   match bB σ.env t with
   | .slc _ es=>match es[i]? with
    |some e=>sub e.cells ai n
    |none=>none
   |_=>none
  else none
 |_=>none
def kW:Option Nat->Nat
 |none=>1
 |some n=>n
def plain:AV->Bool
 | .box _|.loc ..|.eloc ..|.ref ..|.undef=>false
 | .slc p _=>match p with|.ro=>true|_=>false
 |_=>true
def ww(e:AV)(cs:List AV):Option AV:=
 match e with
 | .agg _=>some (.agg cs)
 |_=>one cs
def wr(σ:St)(ae:Nat)(p:AV)(vs:List AV):Option St:=
 match p with
 | .ptr id ai=>bif Nat.ble ae id then
   match σ.H[id]? with
   |some (some cs)=>bif Nat.ble (ai+vs.length) cs.length then some { σ with H:=σ.H.set id (some (setCells cs ai vs)) }else none
   |_=>none
  else none
 | .tptr _ _ id ai=>bif Nat.ble ae id then
   match σ.H[id]? with
   |some (some cs)=>bif Nat.ble (ai+vs.length) cs.length then some { σ with H:=σ.H.set id (some (setCells cs ai vs)) }else none
   |_=>none
  else none
 | .loc t k ai=>bif Nat.beq (fO σ.mods t) k then
   match bB σ.env t with
   | .box cs=>bif Nat.ble (ai+vs.length) cs.length then some { σ with env:=upd σ.env t (.box (setCells cs ai vs)) }else none
   |_=>none
  else none
 | .eloc t k i ai=>bif Nat.beq (fO σ.mods t) k then
   match bB σ.env t with
   | .slc .own es=>match es[i]? with
    |some e=>bif Nat.ble (ai+vs.length) e.cells.length then
      match ww e (setCells e.cells ai vs)with
      |some e'=>some { σ with env:=upd σ.env t (.slc .own (es.set i e')) }
      |none=>none
     else none
    |none=>none
   |_=>none
  else none
 |_=>none
def drop1:Perm->Perm
 | .own=>.app
 |p=>p
def esc(σ:St)(x:Opd):Option (AV×St):=
 match dZ σ x with
 | .ref t k lo n=>bif Nat.beq (fO σ.mods t) k then
   match bB σ.env t with
   | .slc p es=>some (.slc .ro ((es.drop lo).take n),{ σ with env:=upd σ.env t (.slc (drop1 p) es) })
   |_=>none
  else none
 | .slc .ro es=>some (.slc .ro es, σ)
 | .slc p es=>match x with
  | .l u=>some (.slc .ro es,{ σ with lenv:=(u,.slc (drop1 p) es)::σ.lenv })
  |_=>none
 | .box _|.loc ..|.eloc ..|.undef|.tup _=>none
 |a=>some (a, σ)
def take(σ:St)(x:Opd):Option (AV×St):=
 match dZ σ x with
 | .ref t k lo n=>bif Nat.beq (fO σ.mods t) k then
   match bB σ.env t with
   | .slc p es=>bif Nat.beq lo 0 then
     (bif Nat.beq n es.length then some (.slc p es,{ σ with env:=upd σ.env t .undef,mods:=t::σ.mods })
      else match p,n with
      | .own,Nat.succ _=>some (.slc .own (es.take n),{ σ with env:=upd σ.env t .undef,mods:=t::σ.mods })
      |_,_=>none)
    else none
   |_=>none
  else none
 | .slc .ro es=>some (.slc .ro es, σ)
 | .slc p es=>match x with
  | .l u=>some (.slc p es,{ σ with lenv:=(u,.undef)::σ.lenv })
  |_=>none
 | .box _|.loc ..|.eloc ..|.undef|.tup _=>none
 |a=>some (a, σ)
def sS(σ:St):List Opd->Option (List AV×St)
 | []=>some ([], σ)
 |x::xs=>match esc σ x with
  |some (a, σ)=>match sS σ xs with
   |some (as, σ)=>some (a::as, σ)
   |none=>none
  |none=>none
def yn(σ:St):Arg->Option (AV×St)
 | .pl x=>esc σ x
 | .tk x=>take σ x
def args(σ:St):List Arg->Option (List AV×St)
 | []=>some ([], σ)
 |x::xs=>match yn σ x with
  |some (a, σ)=>match args σ xs with
   |some (as, σ)=>some (a::as, σ)
   |none=>none
  |none=>none
def iD(s:List UInt8):List AV:=s.map fun b=>.int .u8 b.toNat
def strOf:List AV->Option (List UInt8)
 | []=>some []
 | .int .u8 n::r=>match strOf r with
  |some s=>some (UInt8.ofNat n.toNat::s)
  |none=>none
 |_::_=>none
def group(sz:Nat)(cs:List AV):Nat->List AV
 |0=>[]
 |n+1=>(bif Nat.beq sz 0 then(match cs with|a::_=>a | []=>.undef)else .agg (cs.take sz))::group sz (cs.drop (bif Nat.beq sz 0 then 1 else sz)) n
def step(sz:Nat):Nat:=bif Nat.beq sz 0 then 1 else sz
def jF(sz:Nat):List AV->Bool
 | []=>true
 |e::_=>Nat.beq e.cells.length (step sz)
def qR(σ:St)(sz:Nat)(x:Opd):Option (List AV):=
 match dZ σ x with
 | .nils=>some []
 | .slc _ es=>bif jF sz es then some es else none
 | .str s=>bif Nat.beq (step sz) 1 then some (iD s)else none
 | .ref t k lo n=>bif Nat.beq (fO σ.mods t) k then
   match bB σ.env t with
   | .slc _ es=>bif jF sz es then some ((es.drop lo).take n)else none
   |_=>none
  else none
 | .msl st id ai n=>bif Nat.beq st (step sz)then
   match σ.H[id]? with
   |some (some cs)=>match sub cs ai (n*st)with
    |some l=>some (group sz l n)
    |none=>none
   |_=>none
  else none
 |_=>none
def cz(es:List AV):List AV:=es.flatMap AV.cells
def bytesLess:List UInt8->List UInt8->Bool
 |_,[]=>false
 | [],_::_=>true
 |a::x,b::y=>Nat.blt a.toNat b.toNat||(Nat.beq a.toNat b.toNat&&bytesLess x y)
def ic:List UInt8->List UInt8->Bool
 | [],[]=>true
 |a::x,b::y=>Nat.beq a.toNat b.toNat&&ic x y
 |_,_=>false
def qX(op:BinOp)(k:IntKind)(a b:Int):Option AV:=
 match op with
 | .add=>some (.int k (k.wrap (a+b)))
 | .sub=>some (.int k (k.wrap (a-b)))
 | .mul=>some (.int k (k.wrap (a*b)))
 | .quo=>bif b==0 then none else some (.int k (k.wrap (a.tdiv b)))
 | .rem=>bif b==0 then none else some (.int k (a.tmod b))
 | .and=>some (.int k (k.wrap (BitVec.ofInt k.bits a &&& BitVec.ofInt k.bits b).toNat))
 | .or=>some (.int k (k.wrap (BitVec.ofInt k.bits a ||| BitVec.ofInt k.bits b).toNat))
 | .xor=>some (.int k (k.wrap (BitVec.ofInt k.bits a ^^^ BitVec.ofInt k.bits b).toNat))
 | .eql=>some (.bool (a==b))
 | .neq=>some (.bool (a != b))
 | .lss=>some (.bool (decide (a<b)))
 | .leq=>some (.bool (decide (a<=b)))
 | .gtr=>some (.bool (decide (a>b)))
 | .geq=>some (.bool (decide (a>=b)))
 |_=>none
def iw(op:BinOp)(a b:List UInt8):Option AV:=
 match op with
 | .add=>bif Nat.ble (a.length+b.length) 4611686018427387904 then some (.str (a++b))else none
 | .eql=>some (.bool (ic a b))
 | .neq=>some (.bool (!ic a b))
 | .lss=>some (.bool (bytesLess a b))
 | .leq=>some (.bool (bytesLess a b||ic a b))
 | .gtr=>some (.bool (!(bytesLess a b||ic a b)))
 | .geq=>some (.bool (!bytesLess a b))
 |_=>none
def yj(op:BinOp)(x y:AV):Option AV:=
 match x,y with
 | .int k a,.int k' b=>
  match op with
  | .shl=>bif decide (b<0)then none else some (.int k (k.wrap (a*2^(min b.toNat k.bits))))
  | .shr=>bif decide (b<0)then none else some (.int k (a.fdiv (2^(min b.toNat k.bits))))
  |_=>bif decide (k=k')then qX op k a b else none
 | .str a,.str b=>iw op a b
 |_,_=>none
def uu:Nat->AV->AV->Option Bool
 |1,.int k a,.int k' b=>bif decide (k=k')then some (a==b)else none
 |2,.str a,.str b=>some (ic a b)
 |0,.bool a,.bool b=>some (a==b)
 |_,_,_=>none
def nO:List Nat->List AV->List AV->Option Bool
 | [],[],[]=>some true
 |k::ks,a::x,b::y=>match uu k a b with
  |some c=>match nO ks x y with
   |some d=>some (c&&d)
   |none=>none
  |none=>none
 |_,_,_=>none
def yf:Nat->AV->AV->Option Bool
 |0,.bool a,.bool b=>some (a==b)
 |1,.nilp,.nilp=>some true
 |1,.nilp,.ptr .. => some false
 |1,.ptr ..,.nilp=>some false
 |1,.nilp,.tptr .. => some false
 |1,.tptr ..,.nilp=>some false
 |1,.nilp,.rptr .. => some false
 |1,.rptr ..,.nilp=>some false
 |2,.nils,.nils=>some true
 |2,.nils,.slc .. => some false
 |2,.slc ..,.nils=>some false
 |2,.nils,.msl .. => some false
 |2,.msl ..,.nils=>some false
 |2,.nils,.ref .. => some false
 |2,.ref ..,.nils=>some false
 |3,.nilf,.nilf=>some true
 |3,.nilf,.fn .. => some false
 |3,.fn ..,.nilf=>some false
 |4,.nili,.nili=>some true
 |4,.nili,.ifc .. => some false
 |4,.ifc ..,.nili=>some false
 |_,_,_=>none
inductive OpR where
 |ok (a:AV) (σ:St)
 |pan (v:AV) (σ:St)
def mf(cs:List AV)(σ:St):List (Nat×Nat×Opd)->Option (List AV×St)
 | []=>some (cs, σ)
 |(ai,n,x)::r=>match esc σ x with
  |some (a, σ)=>bif Nat.beq a.cells.length n&&Nat.ble (ai+n) cs.length then mf (setCells cs ai a.cells) σ r else none
  |none=>none
def eY(st:Nat)(es:List AV)(σ:St):List (Nat×Opd)->Option (List AV×St)
 | []=>some (es, σ)
 |(i,x)::r=>match esc σ x with
  |some (a, σ)=>bif Nat.blt i es.length&&Nat.beq a.cells.length st then eY st (es.set i a) σ r else none
  |none=>none
def mG:AV->Option Nat
 | .int _ n=>bif decide (0<=n)then some n.toNat else none
 |_=>none
def bound(σ:St)(d:Nat):Option Opd->Option Nat
 |none=>some d
 |some x=>mG (dZ σ x)
def newObj(σ:St)(cs:List AV):OpR:=.ok (.ptr σ.H.length 0) { σ with H:=σ.H ++[some cs] }
def newRow(σ:St)(st:Nat)(es:List AV):OpR:=.ok (.msl st σ.H.length 0 es.length) { σ with H:=σ.H ++[some (cz es)] }
def lim:Nat:=4294967296
def uh(σ:St)(sz:Option Nat)(a:AV)(lo:Nat)(hi:Option Nat):Option AV:=
 match sz,a with
 |none,.str s=>bif Nat.ble lo (hi.getD s.length)&&Nat.ble (hi.getD s.length) s.length then some (.str ((s.drop lo).take (hi.getD s.length-lo)))else none
 |some _,.nils=>bif Nat.beq lo 0&&Nat.beq (hi.getD 0) 0 then some .nils else none
 |some sz,.slc .ro es=>bif Nat.ble lo (hi.getD es.length)&&Nat.ble (hi.getD es.length) es.length&&jF sz es then some (.slc .ro ((es.drop lo).take (hi.getD es.length-lo)))else none
 |some sz,.ref t k o n=>bif Nat.ble lo (hi.getD n)&&Nat.ble (hi.getD n) n&&(match bB σ.env t with|.slc _ es=>jF sz es|_=>false)then some (.ref t k (o+lo) (hi.getD n-lo))else none
 |some sz,.msl st id ai n=>bif Nat.ble lo (hi.getD n)&&Nat.ble (hi.getD n) n&&Nat.beq st (step sz)then(bif Nat.beq (hi.getD n-lo) 0 && !Nat.beq lo 0 then some (.slc .ro [])else some (.msl st id (ai+lo*st) (hi.getD n-lo)))else none
 |_,_=>none
def cB(call:CallF)(ae:Nat)(op:AOp)(σ:St):Option OpR:=
 match op with
 | .mov x=>match x with
  | .l u=>match bB σ.lenv u with
   | .slc .ro es=>some (.ok (.slc .ro es) σ)
   | .slc p es=>some (.ok (.slc p es) { σ with lenv:=(u,.undef)::σ.lenv })
   |a=>some (.ok a σ)
  |x=>some (.ok (dZ σ x) σ)
 | .asg d x=>
  match(match dZ σ x with
   | .ref t k lo _=>bif Nat.beq t d&&Nat.beq lo 0&&Nat.beq (fO σ.mods t) k then take σ x else esc σ x
   | .undef=>some (.undef, σ)
   | .slc _ _=>take σ x
   |_=>esc σ x)with
  |some (a, σ)=>some (.ok a σ)
  |none=>none
 | .pick c a b=>match dZ σ c with
  | .bool true=>match esc σ a with|some (v, σ)=>some (.ok v σ)|none=>none
  | .bool false=>match esc σ b with|some (v, σ)=>some (.ok v σ)|none=>none
  |_=>none
 | .allocL z=>some (.ok (.box z) σ)
 | .boxL x=>match esc σ x with
  |some (a, σ)=>some (.ok (.box a.cells) σ)
  |none=>none
 | .allocH z=>some (newObj σ z)
 | .boxH x=>match esc σ x with
  |some (a, σ)=>some (newObj σ a.cells)
  |none=>none
 | .allocT ty z=>some (.ok (.tptr ty z.length σ.H.length 0) { σ with H:=σ.H ++[some z] })
 | .boxT ty x=>match esc σ x with
  |some (a, σ)=>some (.ok (.tptr ty a.cells.length σ.H.length 0) { σ with H:=σ.H ++[some a.cells] })
  |none=>none
 | .build z ps=>match mf z σ ps with
  |some (cs, σ)=>some (.ok (.agg cs) σ)
  |none=>none
 | .bslice h z n ps=>match eY z.cells.length (List.replicate n z) σ ps with
  |some (es, σ)=>bif h then some (newRow σ z.cells.length es)else some (.ok (.slc .own es) σ)
  |none=>none
 | .load n x=>match rd σ (kW n) (dZ σ x)with
  |some cs=>match pack n cs with
   |some a=>some (.ok a σ)
   |none=>none
  |none=>none
 | .store n x y=>match esc σ y with
  |some (a, σ)=>bif Nat.beq a.cells.length (kW n)then
    match wr σ ae (dZ σ x) a.cells with
    |some σ=>some (.ok .undef σ)
    |none=>none
   else none
  |none=>none
 | .nilchk x=>match l8 σ x with
  | .ptr id ai=>some (.ok (.ptr id ai) σ)
  | .tptr ty n id ai=>some (.ok (.tptr ty n id ai) σ)
  | .rptr cs ai=>some (.ok (.rptr cs ai) σ)
  | .loc t k ai=>some (.ok (.loc t k ai) σ)
  | .eloc t k i ai=>some (.ok (.eloc t k i ai) σ)
  |_=>none
 | .bin op x y=>match yj op (dZ σ x) (dZ σ y)with
  |some a=>some (.ok a σ)
  |none=>none
 | .eq neg k x y=>match yf k (l8 σ x) (l8 σ y)with
  |some b=>some (.ok (.bool (bif neg then !b else b)) σ)
  |none=>none
 | .eqG neg ks x y=>match dZ σ x,dZ σ y with
  | .agg xs,.agg ys=>match nO ks xs ys with
   |some b=>some (.ok (.bool (bif neg then !b else b)) σ)
   |none=>none
  |_,_=>none
 | .un op x=>match op,dZ σ x with
  | .not,.bool b=>some (.ok (.bool !b) σ)
  | .neg,.int k n=>match qX .sub k 0 n with|some a=>some (.ok a σ)|none=>none
  | .xor,.int k n=>match qX .xor k (bif k.signed then -1 else k.max) n with|some a=>some (.ok a σ)|none=>none
  |_,_=>none
 | .conv k x=>match dZ σ x with
  | .int _ n=>some (.ok (.int k (k.wrap n)) σ)
  |_=>none
 | .s2b h x=>match dZ σ x with
  | .str s=>bif h then some (newRow σ 1 (iD s))else some (.ok (.slc (match s with | []=>.ro|_=>.own) (iD s)) σ)
  |_=>none
 | .b2s x=>match dZ σ x with
  | .str _=>none
  |_=>match qR σ 0 x with
   |some l=>match strOf l with
    |some s=>some (.ok (.str s) σ)
    |none=>none
   |none=>none
 | .mkifc t x=>match esc σ x with
  |some (a, σ)=>some (.ok (.ifc t a) σ)
  |none=>none
 | .mkfn f cap=>match sS σ cap with
  |some (l, σ)=>some (.ok (.fn f l) σ)
  |none=>none
 | .mslice h z n c=>match mG (dZ σ n),mG (dZ σ c)with
  |some n,some c=>bif Nat.ble n c&&Nat.ble (c*z.cells.length) lim then
    (bif h then some (newRow σ z.cells.length (List.replicate n z))else bif Nat.beq n 0 && !Nat.beq c 0 then none else some (.ok (.slc .own (List.replicate n z)) σ))else none
  |_,_=>none
 | .slice sz x lo hi=>match bound σ 0 lo with
  |some l=>match(match hi with
    |none=>uh σ sz (l8 σ x) l none
    |some h=>match mG (dZ σ h)with
     |some h=>uh σ sz (l8 σ x) l (some h)
     |none=>none)with
   |some a=>some (.ok a σ)
   |none=>none
  |none=>none
 | .faddr ai x=>match l8 σ x with
  | .ptr id o=>some (.ok (.ptr id (o+ai)) σ)
  | .tptr ty n id o=>some (.ok (.tptr ty n id (o+ai)) σ)
  | .rptr cs o=>some (.ok (.rptr cs (o+ai)) σ)
  | .loc t k o=>some (.ok (.loc t k (o+ai)) σ)
  | .eloc t k i o=>some (.ok (.eloc t k i (o+ai)) σ)
  |_=>none
 | .iaddr sz x i=>match mG (dZ σ i)with
  |some i=>match l8 σ x with
   | .slc .ro es=>match es[i]? with
    |some e=>bif Nat.beq e.cells.length (step sz)then some (.ok (.rptr e.cells 0) σ)else none
    |none=>none
   | .ref t k lo n=>bif Nat.blt i n then
     match bB σ.env t with
     | .slc _ es=>match es[lo+i]? with
      |some e=>bif Nat.beq e.cells.length (step sz)then some (.ok (.eloc t k (lo+i) 0) σ)else none
      |none=>none
     |_=>none
    else none
   | .msl st id ai n=>bif Nat.blt i n&&Nat.beq st (step sz)then some (.ok (.ptr id (ai+i*st)) σ)else none
   |_=>none
  |none=>none
 | .aaddr n sz x i=>match mG (dZ σ i)with
  |some i=>bif Nat.blt i n then
    match l8 σ x with
    | .ptr id o=>some (.ok (.ptr id (o+i*step sz)) σ)
    | .rptr cs o=>some (.ok (.rptr cs (o+i*step sz)) σ)
    | .loc t k o=>some (.ok (.loc t k (o+i*step sz)) σ)
    | .eloc t k j o=>some (.ok (.eloc t k j (o+i*step sz)) σ)
    |_=>none
   else none
  |none=>none
 | .sidx x i=>match dZ σ x,mG (dZ σ i)with
  | .str s,some i=>match s[i]? with
   |some b=>some (.ok (.int .u8 b.toNat) σ)
   |none=>none
  |_,_=>none
 | .aidx n sz x i=>match dZ σ x,mG (dZ σ i)with
  | .agg cs,some i=>bif Nat.blt i n then
    match sub cs (i*kW sz) (kW sz)with
    |some l=>match pack sz l with
     |some a=>some (.ok a σ)
     |none=>none
    |none=>none
   else none
  |_,_=>none
 | .ext n x=>match dZ σ x with
  | .tup vs=>match vs[n]? with
   |some a=>some (.ok a σ)
   |none=>none
  |_=>none
 | .tassert t x=>match dZ σ x with
  | .ifc u v=>bif Nat.beq u t then some (.ok (.tup [v,.bool true]) σ)else none
  |_=>none
 | .len s x=>match s,l8 σ x with
  |true,.str s=>some (.ok (.int .i64 s.length) σ)
  |false,.nils=>some (.ok (.int .i64 0) σ)
  |false,.slc _ es=>some (.ok (.int .i64 es.length) σ)
  |false,.ref _ _ _ n=>some (.ok (.int .i64 n) σ)
  |false,.msl _ _ _ n=>some (.ok (.int .i64 n) σ)
  |_,_=>none
 | .minI x y=>match dZ σ x,dZ σ y with
  | .int k a,.int _ b=>some (.ok (.int k (bif decide (b<a)then b else a)) σ)
  |_,_=>none
 | .maxI x y=>match dZ σ x,dZ σ y with
  | .int k a,.int _ b=>some (.ok (.int k (bif decide (a<b)then b else a)) σ)
  |_,_=>none
 | .append h sz x y=>match qR σ sz y with
  |none=>none
  |some ys=>match dZ σ x with
   | .msl st id ai n=>bif Nat.ble ae id&&Nat.beq st (step sz)&&Nat.ble ((n+ys.length)*st) lim&&Nat.beq ai 0 then
     match σ.H[id]? with
     |some (some cs)=>match sub cs ai (n*st)with
      |some l=>some (.ok (.msl st σ.H.length 0 (n+ys.length)) { σ with H:=σ.H.set id none ++[some (l++cz ys)] })
      |none=>none
     |_=>none
    else none
   | .nils=>match ys with
    | []=>some (.ok .nils σ)
    |_=>bif Nat.ble (ys.length*step sz) lim then
      (bif h then some (newRow σ (step sz) ys)else some (.ok (.slc .own ys) σ))else none
   |_=>match take σ x with
    |some (.slc .ro es, σ)=>match ys with
     | []=>some (.ok (.slc .ro es) σ)
     |_=>none
    |some (.slc p es, σ)=>bif jF sz es&&Nat.ble ((es.length+ys.length)*step sz) lim then some (.ok (.slc p (es++ys)) σ)else none
    |_=>none
 | .appB x y=>match qR σ 0 y with
  |none=>none
  |some ys=>match dZ σ x with
   | .bsl id n=>bif Nat.ble ae id&&Nat.ble (n+ys.length) lim then
     match σ.H[id]? with
     |some (some cs)=>match sub cs 0 n with
      |some l=>some (.ok (.bsl σ.H.length (n+ys.length)) { σ with H:=σ.H.set id none ++[some (l++cz ys)] })
      |none=>none
     |_=>none
    else none
   | .nils=>match ys with
    | []=>some (.ok .nils σ)
    |_=>bif Nat.ble ys.length lim then some (.ok (.bsl σ.H.length ys.length) { σ with H:=σ.H ++[some (cz ys)] })else none
   |_=>none
 | .copy sz x y=>match qR σ sz y,dZ σ x with
  |some ys,.msl st id ai n=>bif Nat.ble ae id&&Nat.beq st (step sz)then
    match σ.H[id]? with
    |some (some cs)=>bif Nat.ble (ai+n*st) cs.length then
      some (.ok (.int .i64 (min n ys.length)) { σ with H:=σ.H.set id (some (setCells cs ai (cz (ys.take n)))) })else none
    |_=>none
   else none
  |some ys,.ref t k lo n=>bif Nat.beq (fO σ.mods t) k then
    match bB σ.env t with
    | .slc .own es=>some (.ok (.int .i64 (min n ys.length)) { σ with env:=upd σ.env t (.slc .own (setCells es lo (ys.take n))) })
    |_=>none
   else none
  |_,_=>none
 | .call f xs=>match args σ xs with
  |some (as, σ)=>match call f as σ.H with
   |some (.ret v,H)=>some (.ok v { σ with H })
   |some (.pan v,H)=>some (.pan v { σ with H })
   |none=>none
  |none=>none
 | .callv x xs=>match dZ σ x with
  | .fn f cap=>match args σ xs with
   |some (as, σ)=>match call f (as++cap) σ.H with
    |some (.ret v,H)=>some (.ok v { σ with H })
    |some (.pan v,H)=>some (.pan v { σ with H })
    |none=>none
   |none=>none
  |_=>none
 | .panic x=>match esc σ x with
  |some (.ifc t v, σ)=>some (.pan (.ifc t v) σ)
  |_=>none
def vZ:AV->Bool
 | .loc ..|.eloc ..|.ref .. => false
 |_=>true
def put(d:Dst)(a:AV)(σ:St):Option St:=
 match d with
 | .no=>some σ
 | .l t=>match a with
  | .box _=>none
  |_=>some { σ with lenv:=(t,a)::σ.lenv }
 | .v t=>bif vZ a then some { σ with env:=upd σ.env t a,mods:=t::σ.mods }else none
def wanted(σ:St):Option (Opd×Bool)->Option Bool
 |none=>some true
 |some (x,b)=>match dZ σ x with
  | .bool c=>some (c==b)
  | .tup _=>some false
  |_=>none
def kr(call:CallF)(ae:Nat)(s:AStep)(σ:St):Option (AExit×St):=
 match wanted σ s.guard with
 |some true=>match cB call ae s.op σ with
  |some (.ok a σ)=>match put s.dst a σ with
   |some σ=>some (.norm, σ)
   |none=>none
  |some (.pan v σ)=>some (.pan v, σ)
  |none=>none
 |some false=>match put s.dst (.tup []) σ with
  |some σ=>some (.norm, σ)
  |none=>none
 |none=>none
def jP(call:CallF)(ae:Nat):List AStep->St->Option (AExit×St)
 | [], σ=>some (.norm, σ)
 |s::r, σ=>match kr call ae s σ with
  |some (.norm, σ)=>jP call ae r σ
  |r=>r
mutual
def fC:AV->AV->Bool
 | .undef,.undef=>true
 | .bool a,.bool b=>a==b
 | .int k a,.int l b=>decide (k=l)&&a==b
 | .str a,.str b=>ic a b
 | .nilp,.nilp=>true
 | .nils,.nils=>true
 | .nilf,.nilf=>true
 | .nili,.nili=>true
 | .ptr a b,.ptr c d=>Nat.beq a c&&Nat.beq b d
 | .tptr a b c d,.tptr e f g h=>Nat.beq a e&&Nat.beq b f&&Nat.beq c g&&Nat.beq d h
 | .rptr a b,.rptr c d=>qY a c&&Nat.beq b d
 | .slc p a,.slc q b=>decide (p=q)&&qY a b
 | .msl a b c d,.msl e f g h=>Nat.beq a e&&Nat.beq b f&&Nat.beq c g&&Nat.beq d h
 | .bsl a b,.bsl c d=>Nat.beq a c&&Nat.beq b d
 | .agg a,.agg b=>qY a b
 | .tup a,.tup b=>qY a b
 | .fn a b,.fn c d=>Nat.beq a c&&qY b d
 | .ifc a b,.ifc c d=>Nat.beq a c&&fC b d
 | .box a,.box b=>qY a b
 | .loc a b c,.loc d e f=>Nat.beq a d&&Nat.beq b e&&Nat.beq c f
 | .eloc a b c d,.eloc e f g h=>Nat.beq a e&&Nat.beq b f&&Nat.beq c g&&Nat.beq d h
 | .ref a b c d,.ref e f g h=>Nat.beq a e&&Nat.beq b f&&Nat.beq c g&&Nat.beq d h
 |_,_=>false
def qY:List AV->List AV->Bool
 | [],[]=>true
 |a::x,b::y=>fC a b&&qY x y
 |_,_=>false
end
def Fx:List (Nat×AV)->List (Nat×AV)->Bool
 | [],[]=>true
 |(k,a)::x,(l,b)::y=>Nat.beq k l&&fC a b&&Fx x y
 |_,_=>false
def rV:aj->aj->Bool
 | [],[]=>true
 |none::x,none::y=>rV x y
 |some a::x,some b::y=>qY a b&&rV x y
 |_,_=>false
def qF:AExit×St->AExit×St->Bool
 |(.norm, σ),(.norm, τ)=>Fx σ.env τ.env&&rV σ.H τ.H
 |(.pan v, σ),(.pan u, τ)=>fC v u&&rV σ.H τ.H
 |_,_=>false
def gT(call:CallF)(ae:Nat):Plan->St->Option (AExit×St)
 | .fin, σ=>some (.norm, σ)
 | .seq _ s p, σ=>match kr call ae s σ with
  |some (.norm, σ)=>gT call ae p σ
  |r=>r
 | .one _ s p, σ=>match kr call ae s σ with
  |some (.norm, σ)=>gT call ae p σ
  |r=>r
 | .alt _ s p q, σ=>match(match kr call ae s σ with
   |some (.norm, σ)=>gT call ae p σ
   |r=>r),gT call ae q σ with
  |some a,some b=>bif qF a b then some a else none
  |_,_=>none
abbrev EH:=List (Nat×AV)×aj
def um(body:EH->Option (AExit×EH)):Nat->EH->Option (AExit×EH)
 |0,_=>none
 |n+1,s=>match body s with
  |some (.norm,s)=>um body n s
  |r=>r
def GJ(s:EH)(clr:Bool):Opd->Option (Bool×EH)
 | .v t=>match bB s.1 t with
  | .bool b=>some (b,bif clr then(upd s.1 t .undef,s.2)else s)
  |_=>none
 | .c (.bool b)=>some (b,s)
 |_=>none
def ev(call:CallF)(ae lf:Nat):ACode->EH->Option (AExit×EH)
 | .skip,s=>some (.norm,s)
 | .region ops,s=>match jP call ae ops ⟨s.1,[],[],s.2⟩with
  |some (e, σ)=>some (e,(σ.env, σ.H))
  |none=>none
 | .draw p,s=>match gT call ae p ⟨s.1,[],[],s.2⟩with
  |some (e, σ)=>some (e,(σ.env, σ.H))
  |none=>none
 | .seq a b,s=>match ev call ae lf a s with
  |some (.norm,s)=>ev call ae lf b s
  |r=>r
 | .cond clr c x y,s=>match GJ s clr c with
  |some (true,s)=>ev call ae lf x s
  |some (false,s)=>ev call ae lf y s
  |none=>none
 | .block id c,s=>match ev call ae lf c s with
  |some (.exit i,s)=>bif Nat.beq i id then some (.norm,s)else some (.exit i,s)
  |r=>r
 | .loop c,s=>um (ev call ae lf c) lf s
 | .exit id,s=>some (.exit id,s)
 | .ret,s=>some (.ret,s)
def bC:List Nat->List AV->List (Nat×AV)
 | [],_=>[]
 |t::r,[]=>(t,.undef)::bC r []
 |t::r,a::as=>(t,a)::bC r as
def qI(s:EH):ARes->Option AV
 | .tmp t=>match bB s.1 t with
  | .box _=>none
  |a=>some a
 | .cell t n=>match bB s.1 t with
  | .box cs=>match sub cs 0 (kW n)with
   |some l=>pack n l
   |none=>none
  | .ptr id ai=>match s.2[id]? with
   |some (some cs)=>match sub cs ai (kW n)with
    |some l=>pack n l
    |none=>none
   |_=>none
  |_=>none
def roOf:AV->AV
 | .slc _ es=>.slc .ro es
 |a=>a
def qJ(s:EH):List ARes->Option (List AV)
 | []=>some []
 |r::rs=>match qI s r with
  |some a=>match qJ s rs with
   |some l=>some (roOf a::l)
   |none=>none
  |none=>none
def nJ(s:EH):List ARes->Option AV
 | [r]=>qI s r
 |rs=>match qJ s rs with
  |some l=>some (.tup l)
  |none=>none
def scal:AV->Bool
 | .bool _|.int ..|.str _|.nilp|.nils|.nilf|.nili=>true
 |_=>false
mutual
def aN(n0:Nat)(H:aj):AV->Option AV
 | .bool b=>some (.bool b)
 | .int k n=>some (.int k n)
 | .str s=>some (.str s)
 | .nilp=>some .nilp
 | .nils=>some .nils
 | .nilf=>some .nilf
 | .nili=>some .nili
 | .ptr id ai=>bif Nat.blt id n0 then some (.ptr id ai)else none
 | .tptr ty n id ai=>bif Nat.blt id n0 then some (.tptr ty n id ai)else none
 | .msl st id ai n=>bif Nat.blt id n0 then some (.msl st id ai n)else bif Nat.beq st 1 then
   match H[id]? with
   |some (some cs)=>match sub cs ai n with
    |some l=>bif l.all scal then some (.slc .ro l)else none
    |none=>none
   |_=>none
  else none
 | .slc p es=>match bg n0 H es with
  |some l=>some (.slc p l)
  |none=>none
 | .agg cs=>match bg n0 H cs with
  |some l=>some (.agg l)
  |none=>none
 | .tup cs=>match bg n0 H cs with
  |some l=>some (.tup l)
  |none=>none
 | .ifc t v=>match aN n0 H v with
  |some v=>some (.ifc t v)
  |none=>none
 |_=>none
def bg(n0:Nat)(H:aj):List AV->Option (List AV)
 | []=>some []
 |a::as=>match aN n0 H a with
  |some b=>match bg n0 H as with
   |some bs=>some (b::bs)
   |none=>none
  |none=>none
end
mutual
def gq:AV->Bool
 | .bool _|.int ..|.str _|.nilp|.nils|.nilf|.nili=>true
 | .slc _ es=>dG es
 | .rptr cs _=>dG cs
 | .agg cs=>dG cs
 | .tup cs=>dG cs
 | .fn _ cs=>dG cs
 | .ifc _ a=>gq a
 |_=>false
def dG:List AV->Bool
 | []=>true
 |a::as=>gq a&&dG as
end
def wo(call:CallF)(n ae:Nat)(F:AFunc)(as:List AV)(H:aj):Option (Out×aj):=
 bif Nat.beq as.length F.np then
  match ev call ae n F.body (bC F.vars as,H)with
  |some (.norm,s)=>match nJ s F.res with
   |some v=>some (.ret v,s.2)
   |none=>none
  |some (.ret,s)=>match nJ s F.res with
   |some v=>some (.ret v,s.2)
   |none=>none
  |some (.pan v,s)=>some (.pan v,s.2)
  |_=>none
 else none
def lC(n0:Nat)(H:aj):Option (Out×aj)->Option (Out×aj)
 |some (.ret v,H')=>match aN n0 H' v with
  |some v=>some (.ret v,H)
  |none=>none
 |some (.pan v,H')=>match aN n0 H' v with
  |some v=>some (.pan v,H)
  |none=>none
 |none=>none
def run(fs:Nat->Option AFunc)(sp:Nat->(Nat->CallF)->Nat->CallF):Nat->Nat->Nat->List AV->aj->Option (Out×aj)
 |0,_,_,_,_=>none
 |n+1,ae,f,as,H=>match fs f with
  |none=>sp n (run fs sp n) ae f as H
  |some F=>bif F.pure then(bif dG as then lC 0 H (wo (run fs sp n 0) n 0 F as [])else lC H.length H (wo (run fs sp n H.length) n H.length F as H))else wo (run fs sp n ae) n ae F as H
end Go.Ak
namespace Go.Ak
inductive Own where
 |free|kept
 |slot (t:Nat)
 |temp (t:Nat)
 |obj (id:Nat)
 |arg (i:Nat)
 |res
 deriving DecidableEq
structure Gh where
 ob:Nat->Option Nat
 S:Nat->Nat
 own:Nat->Own
structure Tr where
 P:Program
 fm:Nat->FuncId
 tm:Nat->TypeId
 gl:Nat->Option Obj
def settled(g:Gh)(w:World)(b o:Nat)(vs:List Value):Prop:=
 ∀(k:Nat)(v:Value),vs[k]?=some v->o+k<g.S b∧w.cell? ⟨b,o+k,none⟩=some v∧v.oneCell'=true
mutual
inductive V(T:Tr)(g:Gh)(w:World):AV->Value->Prop
 |undef (v:Value):V T g w .undef v
 |bool (b:Bool):V T g w (.bool b) (.bool b)
 |int (k:IntKind) (n:Int):V T g w (.int k n) (.int k n)
 |str (s:List UInt8):V T g w (.str s) (.string ⟨s.toArray⟩)
 |nilp:V T g w .nilp (.pointer none)
 |nils:V T g w .nils (.slice none 0 0)
 |nilf:V T g w .nilf .nilFunc
 |nili:V T g w .nili .nilIface
 |ptr (id ai b:Nat):g.ob id=some b->V T g w (.ptr id ai) (.pointer (some ⟨b,ai,none⟩))
 |tptr (ty n id ai b:Nat):g.ob id=some b->w.shape? b=some (T.tm ty,n)->V T g w (.tptr ty n id ai) (.pointer (some ⟨b,ai,none⟩))
 |rptr (cs:List AV) (ai b o:Nat) (vs:List Value):settled g w b o vs->Vs T g w cs vs->V T g w (.rptr cs ai) (.pointer (some ⟨b,o+ai,none⟩))
 |slc (es:List AV) (b o:Nat) (vs:List Value) (st cap:Nat):settled g w b o vs->Vs T g w (cz es) vs->(∀e∈es,e.cells.length=st)->0<st->es.length<=cap->
   V T g w (.slc .ro es) (.slice (some ⟨b,o,none⟩) es.length cap)
 |msl (st id ai len b cap:Nat) (ty:TypeId) (n:Nat):g.ob id=some b->w.shape? b=some (ty,n)->ai+cap*st<=n->len<=cap->0<st->
   V T g w (.msl st id ai len) (.slice (some ⟨b,ai,none⟩) len cap)
 |bsl (id n b cap m:Nat):g.ob id=some b->w.shape? b=some (T.tm 5,m)->cap<=m->n<=cap->V T g w (.bsl id n) (.slice (some ⟨b,0,none⟩) n cap)
 |agg (cs:List AV) (vs:List Value):Vs T g w cs vs->(∀v∈vs,v.oneCell'=true)->V T g w (.agg cs) (.agg vs.toArray)
 |tup (cs:List AV) (vs:List Value):Vs T g w cs vs->V T g w (.tup cs) (.tuple vs.toArray)
 |fn (f:Nat) (cap:List AV) (vs:List Value):Vs T g w cap vs->V T g w (.fn f cap) (.func (.func (T.fm f)) #[] vs.toArray)
 |ifc (t:Nat) (a:AV) (v:Value):V T g w a v->V T g w (.ifc t a) (.iface (T.tm t) v)
inductive Vs(T:Tr)(g:Gh)(w:World):List AV->List Value->Prop
 |nil:Vs T g w [] []
 |cons (a:AV) (v:Value) (as:List AV) (vs:List Value):V T g w a v->Vs T g w as vs->Vs T g w (a::as) (v::vs)
end
structure Ext(ae:Nat)(g:Gh)(w:World)(g':Gh)(w':World):Prop where
 size:w.heap.size<=w'.heap.size
 S:∀b,g.S b<=g'.S b
 cell:∀b o,o<g.S b->w'.cell? ⟨b,o,none⟩=w.cell? ⟨b,o,none⟩
 ob:∀id b,g.ob id=some b->g'.ob id=some b
 shape:∀b x,w.shape? b=some x->w'.shape? b=some x
 kept:∀b,g.own b=.kept->g'.own b=.kept∧g'.S b=g.S b∧w'.heap[b]?=w.heap[b]?
 low:∀id b,id<ae->g.ob id=some b->g.own b=.obj id->g'.own b=.obj id∧g'.S b=g.S b∧w'.heap[b]?=w.heap[b]?
 os:w'.os=w.os
 out:(w'.output,w'.tape)=(w.output,w.tape)
theorem Ext.refl(ae:Nat)(g:Gh)(w:World):Ext ae g w g w:=
 ⟨aX _,fun _=>aX _,fun _ _ _=>rfl,fun _ _ h=>h,fun _ _ h=>h,fun _ h=>⟨h,rfl,rfl⟩,fun _ _ _ _ h=>⟨h,rfl,rfl⟩,rfl,rfl⟩
theorem Ext.trans{ae:Nat}{g g1 g2:Gh}{w w1 w2:World}(h:Ext ae g w g1 w1)(h':Ext ae g1 w1 g2 w2):Ext ae g w g2 w2 where
 size:=fT h.size h'.size
 S b:=fT (h.S b) (h'.S b)
 cell b o hb:=by rw[h'.cell b o (EI hb (h.S b)),h.cell b o hb]
 ob id b hb:=h'.ob id b (h.ob id b hb)
 shape b x hb:=h'.shape b x (h.shape b x hb)
 kept b hb:=by
  obtain⟨h1,h2,h3⟩:=h.kept b hb;obtain⟨k1,k2,k3⟩:=h'.kept b h1;exact⟨k1,k2.trans h2,k3.trans h3⟩
 low id b hi ho hb:=by
  obtain⟨h1,h2,h3⟩:=h.low id b hi ho hb;obtain⟨k1,k2,k3⟩:=h'.low id b hi (h.ob id b ho) h1;exact⟨k1,k2.trans h2,k3.trans h3⟩
 os:=h'.os.trans h.os
 out:=h'.out.trans h.out
theorem Ext.settled{ae:Nat}{g g':Gh}{w w':World}(h:Ext ae g w g' w'){b o:Nat}{vs:List Value}(hs:settled g w b o vs):settled g' w' b o vs:=by
 intro k v hv;obtain⟨h1,h2,h3⟩:=hs k v hv;exact⟨EI h1 (h.S b),by rw[h.cell b _ h1,h2],h3⟩
mutual
theorem V.mono{T:Tr}{ae:Nat}{g g':Gh}{w w':World}(h:Ext ae g w g' w'):∀{a:AV}{v:Value},V T g w a v->V T g' w' a v
 |_,_,.undef v=>.undef v
 |_,_,.bool b=>.bool b
 |_,_,.int k n=>.int k n
 |_,_,.str s=>.str s
 |_,_,.nilp=>.nilp
 |_,_,.nils=>.nils
 |_,_,.nilf=>.nilf
 |_,_,.nili=>.nili
 |_,_,.ptr id ai b hb=>.ptr id ai b (h.ob id b hb)
 |_,_,.tptr ty n id ai b hb hs=>.tptr ty n id ai b (h.ob id b hb) (h.shape b _ hs)
 |_,_,.rptr cs ai b o vs hs hv=>.rptr cs ai b o vs (h.settled hs) (Vs.mono h hv)
 |_,_,.slc es b o vs st cap hs hv h1 h2 h3=>.slc es b o vs st cap (h.settled hs) (Vs.mono h hv) h1 h2 h3
 |_,_,.msl st id ai len b cap ty n hb hs h1 h2 h3=>.msl st id ai len b cap ty n (h.ob id b hb) (h.shape b _ hs) h1 h2 h3
 |_,_,.bsl id n b cap m hb hs h1 h2=>.bsl id n b cap m (h.ob id b hb) (h.shape b _ hs) h1 h2
 |_,_,.agg cs vs hv h1=>.agg cs vs (Vs.mono h hv) h1
 |_,_,.tup cs vs hv=>.tup cs vs (Vs.mono h hv)
 |_,_,.fn f cap vs hv=>.fn f cap vs (Vs.mono h hv)
 |_,_,.ifc t a v hv=>.ifc t a v (V.mono h hv)
theorem Vs.mono{T:Tr}{ae:Nat}{g g':Gh}{w w':World}(h:Ext ae g w g' w'):∀{as:List AV}{vs:List Value},Vs T g w as vs->Vs T g' w' as vs
 |_,_,.nil=>.nil
 |_,_,.cons a v as vs hv hvs=>.cons a v as vs (V.mono h hv) (Vs.mono h hvs)
end
section lists
variable {T:Tr} {g:Gh} {w:World}
theorem Vs.length:∀{as:List AV}{vs:List Value},Vs T g w as vs->as.length=vs.length
 |_,_,.nil=>rfl
 |_,_,.cons _ _ _ _ _ h=>by simp[Vs.length h]
theorem Vs.get:∀{as:List AV}{vs:List Value},Vs T g w as vs->∀(i:Nat)(a:AV),as[i]?=some a->∃v,vs[i]?=some v∧V T g w a v
 |_,_,.nil,i,a,h=>by simp at h
 |_,_,.cons a v as vs hv hvs,0,a',h=>by simp at h;subst h;exact⟨v,by simp,hv⟩
 |_,_,.cons a v as vs hv hvs,i+1,a',h=>by simp at h;simpa using Vs.get hvs i a' h
theorem Vs.of_get:∀{as:List AV}{vs:List Value},as.length=vs.length->(∀(i:Nat)(a:AV)(v:Value),as[i]?=some a->vs[i]?=some v->V T g w a v)->Vs T g w as vs
 | [],[],_,_=>.nil
 | [],_::_,h,_=>by simp at h
 |_::_,[],h,_=>by simp at h
 |a::as,v::vs,h,hg=>.cons a v as vs (hg 0 a v rfl rfl) (Vs.of_get (by simpa using h) fun i a' v' ha hv=>hg (i+1) a' v' (by simpa using ha) (by simpa using hv))
theorem Vs.append:∀{as bs:List AV}{vs us:List Value},Vs T g w as vs->Vs T g w bs us->Vs T g w (as++bs) (vs++us)
 |_,_,_,_,.nil,h=>h
 |_,_,_,_,.cons a v as vs hv hvs,h=>.cons a v _ _ hv (Vs.append hvs h)
theorem Vs.take:∀{as:List AV}{vs:List Value}(n:Nat),Vs T g w as vs->Vs T g w (as.take n) (vs.take n)
 |_,_,0,_=>by simpa using .nil
 |_,_,_+1,.nil=>by simpa using .nil
 |_,_,n+1,.cons a v as vs hv hvs=>by simpa using .cons a v _ _ hv (Vs.take n hvs)
theorem Vs.drop:∀{as:List AV}{vs:List Value}(n:Nat),Vs T g w as vs->Vs T g w (as.drop n) (vs.drop n)
 |_,_,0,h=>by simpa using h
 |_,_,_+1,.nil=>by simpa using .nil
 |_,_,n+1,.cons a v as vs hv hvs=>by simpa using Vs.drop n hvs
theorem Vs.set{as:List AV}{vs:List Value}(h:Vs T g w as vs)(i:Nat){a:AV}{v:Value}(hv:V T g w a v):Vs T g w (as.set i a) (vs.set i v):=by
 refine Vs.of_get (by simp[h.length]) fun j a' v' ha hv'=>?_;by_cases hij:i=j
 ·subst hij;rw[EN]at ha hv';simp only[fD]at ha hv';split at ha
  ·split at hv'
   ·simp at ha hv';subst ha;subst hv';exact hv
   ·simp at hv'
  ·simp at ha
 ·rw[tZ hij]at ha hv';obtain⟨u,hu,hV⟩:=h.get j a' ha;rw[hu]at hv';simp at hv';subst hv';exact hV
def kL(vs:List Value)(ai:Nat):List Value->List Value
 | []=>vs
 |u::us=>kL (vs.set ai u) (ai+1) us
theorem Vs.setCells:∀{bs:List AV}{us:List Value},Vs T g w bs us->∀{as:List AV}{vs:List Value}(ai:Nat),Vs T g w as vs->Vs T g w (setCells as ai bs) (kL vs ai us)
 |_,_,.nil,_,_,_,h=>h
 |_,_,.cons _ _ _ _ hv hvs,_,_,ai,h=>Vs.setCells hvs (ai+1) (h.set ai hv)
theorem xP:∀(us vs:List Value)(ai:Nat),(kL vs ai us).length=vs.length
 | [],_,_=>rfl
 |u::us,vs,ai=>by simp[kL,xP us]
theorem Mt:∀(us vs:List AV)(ai:Nat),(Ak.setCells vs ai us).length=vs.length
 | [],_,_=>rfl
 |u::us,vs,ai=>by simp[Ak.setCells,Mt us]
theorem EQ:∀(us vs:List Value)(ai k:Nat),k<ai->(kL vs ai us)[k]?=vs[k]?
 | [],_,_,_,_=>rfl
 |u::us,vs,ai,k,h=>by
  simp only[kL];rw[EQ us _ (ai+1) k (by omega),tZ (by omega)]
theorem Ms:∀(us vs:List Value)(ai k:Nat),ai+us.length<=k->(kL vs ai us)[k]?=vs[k]?
 | [],_,_,_,_=>rfl
 |u::us,vs,ai,k,h=>by
  simp only[fF]at h;simp only[kL];rw[Ms us _ (ai+1) k (by omega),tZ (by omega)]
theorem Gq:∀(us vs:List Value)(ai k:Nat),ai+us.length<=vs.length->k<us.length->(kL vs ai us)[ai+k]?=us[k]?
 | [],_,_,_,_,h=>by simp at h
 |u::us,vs,ai,0,h,_=>by
  simp only[kL,qx,pY];simp only[fF]at h;rw[EQ us _ (ai+1) ai (by omega),zO (by omega)]
 |u::us,vs,ai,k+1,h,hk=>by
  simp only[kL];simp only[fF]at h hk;have:=Gq us (vs.set ai u) (ai+1) k (by simp;omega) (by omega);rw[show ai+(k+1)=ai+1+k by omega,this];simp
theorem QC:∀(us vs:List Value)(ai:Nat)(v:Value),v∈kL vs ai us->v∈vs∨v∈us
 | [],_,_,_,h=>.inl h
 |u::us,vs,ai,v,h=>by
  rcases QC us _ _ v h with h|h
  ·rcases Gc h with h|h
   ·exact .inl h
   ·subst h;exact .inr (by simp)
  ·exact .inr (by simp[h])
theorem V.cells{a:AV}{v:Value}(h:V T g w a v)(h1:a ≠ .undef)(h3:∀cs,a ≠ .tup cs):Vs T g w a.cells v.cells.toList∧∀x∈v.cells.toList,x.oneCell'=true:=by
 cases h with
 |agg cs vs hv ho=>exact⟨by simpa[AV.cells,Value.cells]using hv,by simpa[Value.cells]using ho⟩
 |undef v=>exact absurd rfl h1
 |tup cs vs hv=>exact absurd rfl (h3 _)
 |ptr id ai b hb=>exact⟨.cons _ _ _ _ (.ptr id ai b hb) .nil,by simp[Value.cells,Value.oneCell']⟩
 |tptr ty n id ai b hb hs=>exact⟨.cons _ _ _ _ (.tptr ty n id ai b hb hs) .nil,by simp[Value.cells,Value.oneCell']⟩
 |rptr cs ai b o vs hs hv=>exact⟨.cons _ _ _ _ (.rptr cs ai b o vs hs hv) .nil,by simp[Value.cells,Value.oneCell']⟩
 |slc es b o vs st cap hs hv k1 k2 k3=>exact⟨.cons _ _ _ _ (.slc es b o vs st cap hs hv k1 k2 k3) .nil,by simp[Value.cells,Value.oneCell']⟩
 |msl st id ai len b cap ty n hb hs k1 k2 k3=>exact⟨.cons _ _ _ _ (.msl st id ai len b cap ty n hb hs k1 k2 k3) .nil,by simp[Value.cells,Value.oneCell']⟩
 |bsl id n b cap m hb hs k1 k2=>exact⟨.cons _ _ _ _ (.bsl id n b cap m hb hs k1 k2) .nil,by simp[Value.cells,Value.oneCell']⟩
 |fn f cap vs hv=>exact⟨.cons _ _ _ _ (.fn f cap vs hv) .nil,by simp[Value.cells,Value.oneCell']⟩
 |ifc t a v hv=>exact⟨.cons _ _ _ _ (.ifc t a v hv) .nil,by simp[Value.cells,Value.oneCell']⟩
 |bool b=>exact⟨.cons _ _ _ _ (.bool b) .nil,by simp[Value.cells,Value.oneCell']⟩
 |int k n=>exact⟨.cons _ _ _ _ (.int k n) .nil,by simp[Value.cells,Value.oneCell']⟩
 |str s=>exact⟨.cons _ _ _ _ (.str s) .nil,by simp[Value.cells,Value.oneCell']⟩
 |nilp=>exact⟨.cons _ _ _ _ .nilp .nil,by simp[Value.cells,Value.oneCell']⟩
 |nils=>exact⟨.cons _ _ _ _ .nils .nil,by simp[Value.cells,Value.oneCell']⟩
 |nilf=>exact⟨.cons _ _ _ _ .nilf .nil,by simp[Value.cells,Value.oneCell']⟩
 |nili=>exact⟨.cons _ _ _ _ .nili .nil,by simp[Value.cells,Value.oneCell']⟩
end lists
/-! ### Blocks -/
def blk(w:World)(b:Nat)(aI:Array Value):Prop:=
 (∃ty fz,w.heap[b]?=some (.cells aI ty fz))∧(∀k,k<aI.size->w.frozen? ⟨b,k,none⟩=false)∧∀v∈aI.toList,v.oneCell'=true
theorem blk.cell{w:World}{b:Nat}{aI:Array Value}(h:blk w b aI)(k:Nat):w.cell? ⟨b,k,none⟩=aI[k]? := by
 obtain⟨⟨ty,fz,hb⟩,_⟩:=h;simp[World.cell?,hb]
theorem blk.lt{w:World}{b:Nat}{aI:Array Value}(h:blk w b aI):b<w.heap.size:=by
 obtain⟨⟨ty,fz,hb⟩,_⟩:=h;rcases kY b w.heap.size with h'|h'
 ·exact h'
 ·simp[xK h']at hb
theorem blk.congr{w w':World}{b:Nat}{aI:Array Value}(h:blk w b aI)(hh:w'.heap[b]?=w.heap[b]?):blk w' b aI:=by
 obtain⟨⟨ty,fz,hb⟩,h2,h3⟩:=h;refine⟨⟨ty,fz,by rw[hh,hb]⟩,fun k hk=>?_,h3⟩;have:=h2 k hk;simp only[World.frozen?,hh]at this ⊢;exact this
theorem blk.shape{w:World}{b:Nat}{aI:Array Value}(h:blk w b aI):∃ty,w.shape? b=some (ty,aI.size):=by
 obtain⟨⟨ty,fz,hb⟩,_⟩:=h;exact⟨ty,by simp[World.shape?,hb]⟩
def Np(w:World)(b:Nat):Array Value:=
 match w.heap[b]? with
 |some (.cells c _ _)=>c
 |_=> #[]
theorem MO(b o:Nat):∀(vs:List Value)(w:World)(b':Nat),b'≠b->(w.setCells b o vs).heap[b']?=w.heap[b']?
 | [],_,_,_=>rfl
 |v::vs,w,b',h=>by
  have ih:=MO b (o+1) vs (w.setCell ⟨b,o,none⟩ v) b' h;simp only[World.setCells];rw[ih];simp only[World.setCell,zS];rw[aF (by simpa using fun h'=>h h'.symm)]
theorem WS(b:Nat)(ty:TypeId)(fz:Nat×Nat):∀(vs:List Value)(o:Nat)(w:World)(aI:Array Value),w.heap[b]?=some (.cells aI ty fz)->
  (w.setCells b o vs).heap[b]?=some (.cells (kL aI.toList o vs).toArray ty fz)
 | [],o,w,aI,h=>by simpa[World.setCells,kL]using h
 |v::vs,o,w,aI,h=>by
  simp only[World.setCells,kL];have h1:(w.setCell ⟨b,o,none⟩ v).heap[b]?=some (.cells (aI.setIfInBounds o v) ty fz):=by
   simp only[World.setCell,zS,h];simp
  rw[WS b ty fz vs (o+1) _ _ h1];simp
theorem setCells_size(b o:Nat)(vs:List Value)(w:World):(w.setCells b o vs).heap.size=w.heap.size:=by
 induction vs generalizing o w with
 |nil=>rfl
 |cons v vs ih=>simp only[World.setCells];rw[ih];simp
theorem zcl(b o:Nat)(vs:List Value)(w:World):(w.setCells b o vs).os=w.os∧((w.setCells b o vs).output,(w.setCells b o vs).tape)=(w.output,w.tape):=by
 induction vs generalizing o w with
 |nil=>exact⟨rfl,rfl⟩
 |cons v vs ih=>simp only[World.setCells];exact ih (o+1) _
theorem zoy(b o:Nat)(vs:List Value)(w:World)(a:Addr):(w.setCells b o vs).frozen? a=w.frozen? a:=by
 induction vs generalizing o w with
 |nil=>rfl
 |cons v vs ih=>simp only[World.setCells];rw[ih];simp
theorem blk.setCells{w:World}{b:Nat}{aI:Array Value}(h:blk w b aI)(o:Nat)(vs:List Value)(hv:∀v∈vs,v.oneCell'=true):
  blk (w.setCells b o vs) b (kL aI.toList o vs).toArray:=by
 obtain⟨⟨ty,fz,hb⟩,h2,h3⟩:=h;refine⟨⟨ty,fz,WS b ty fz vs o w aI hb⟩,fun k hk=>?_,fun v hm=>?_⟩
 ·rw[zoy];exact h2 k (by simpa[xP]using hk)
 ·rcases QC _ _ _ _ (by simpa using hm)with h|h
  ·exact h3 v (by simpa using h)
  ·exact hv v h
theorem V3{P:Program}{w:World}{b:Nat}{aI:Array Value}(h:blk w b aI)(o:Nat)(vs:List Value)(hv:∀v∈vs,v.oneCell'=true)(ho:o+vs.length<=aI.size):
  (storeCells ⟨b,o,none⟩ vs).run P w=.ok () (w.setCells b o vs):=by
 have:=run_storeCells_cells (P:=P) b o vs 0 w (fun j hj=>by rw[h.cell];simp;omega) (fun j hj=>h.2.1 _ (by omega)) hv;simpa using this
end Go.Ak
namespace Go.Ak
def excl(g:Gh)(w:World)(o:Own)(b:Nat)(aI:Array Value):Prop:=g.own b=o∧g.S b=0∧blk w b aI
def QJ(T:Tr)(g:Gh)(w:World)(aI:Array Value)(ai st:Nat)(es:List AV):Prop:=
 (∀e∈es,e.cells.length=st)∧∃vs,Vs T g w (cz es) vs∧∀(k:Nat)(v:Value),vs[k]?=some v->aI[ai+k]?=some v
def SV(T:Tr)(g:Gh)(w:World)(o:Own):AV->Value->Prop
 | .box cs,v=> ∃b aI,v=.pointer (some ⟨b,0,none⟩)∧excl g w o b aI∧Vs T g w cs aI.toList
 | .slc .own es,v=> ∃b ai cap aI st,v=.slice (some ⟨b,ai,none⟩) es.length cap∧excl g w o b aI∧ai+cap*st<=aI.size∧es.length<=cap∧(0<st∧(es=[]->cap=0))∧QJ T g w aI ai st es
 | .slc .app es,v=> ∃b ai cap aI st,v=.slice (some ⟨b,ai,none⟩) es.length cap∧g.own b=o∧g.S b=ai+es.length*st∧blk w b aI∧ai+cap*st<=aI.size∧es.length<=cap∧(0<st∧(es=[]->cap=0))∧QJ T g w aI ai st es
 | .loc ..,_=>False
 | .eloc ..,_=>False
 | .ref ..,_=>False
 |a,v=>V T g w a v
theorem SV.of_V{T:Tr}{g:Gh}{w:World}{o:Own}{a:AV}{v:Value}(h:V T g w a v):SV T g w o a v:=by
 cases h<;>(simp only[SV];constructor<;>assumption)
theorem SV.frame{T:Tr}{ae:Nat}{g g':Gh}{w w':World}{o o':Own}{a:AV}{v:Value}(h:SV T g w o a v)(he:Ext ae g w g' w')
  (hf:∀b,g.own b=o->g'.own b=o'∧g'.S b=g.S b∧w'.heap[b]?=w.heap[b]?):SV T g' w' o' a v:=by
 cases a with
 |box cs=>
  obtain⟨b,aI,hv,⟨h1,h2,h3⟩,h4⟩:=h;obtain⟨k1,k2,k3⟩:=hf b h1;exact⟨b,aI,hv,⟨k1,k2.trans h2,h3.congr k3⟩,Vs.mono he h4⟩
 |slc p es=>cases p with
  |ro=>exact V.mono he h
  |own=>
   obtain⟨b,ai,cap,aI,st,hv,⟨h1,h2,h3⟩,h4,h5,h6,h7,vs,h8,h9⟩:=h;obtain⟨k1,k2,k3⟩:=hf b h1;exact⟨b,ai,cap,aI,st,hv,⟨k1,k2.trans h2,h3.congr k3⟩,h4,h5,h6,h7,vs,Vs.mono he h8,h9⟩
  |app=>
   obtain⟨b,ai,cap,aI,st,hv,h1,h2,h3,h4,h5,h6,h7,vs,h8,h9⟩:=h;obtain⟨k1,k2,k3⟩:=hf b h1;exact⟨b,ai,cap,aI,st,hv,k1,k2.trans h2,h3.congr k3,h4,h5,h6,h7,vs,Vs.mono he h8,h9⟩
 |loc a b c=>exact h.elim
 |eloc a b c d=>exact h.elim
 |ref a b c d=>exact h.elim
 |_=>exact V.mono he h
def AVR(T:Tr)(g:Gh)(w:World)(σ:St)(tm:Array Value)(o:Own):AV->Value->Prop
 | .loc t k ai,v=>k<=fO σ.mods t∧(k=fO σ.mods t->∀cs,bB σ.env t=.box cs->∃b,tm.getD t undef=.pointer (some ⟨b,0,none⟩)∧v=.pointer (some ⟨b,ai,none⟩))
 | .eloc t k i ai,v=>k<=fO σ.mods t∧(k=fO σ.mods t->∀p es e,bB σ.env t=.slc p es->es[i]?=some e->
   ∃b o' n cap,tm.getD t undef=.slice (some ⟨b,o',none⟩) n cap∧v=.pointer (some ⟨b,o'+i*e.cells.length+ai,none⟩))
 | .ref t k lo n,v=>k<=fO σ.mods t∧(k=fO σ.mods t->∀p es,bB σ.env t=.slc p es->lo+n<=es.length∧
   ∃b o' cap st x iN,(∀e∈es,e.cells.length=st)∧tm.getD t undef=.slice (some ⟨b,o',none⟩) es.length cap∧v=.slice (some ⟨b,x,none⟩) n iN∧(n=0∨x=o'+lo*st)∧(lo=0->x=o'∧iN=cap)∧n<=iN)
 |a,v=>SV T g w o a v
structure HeapR(T:Tr)(g:Gh)(w:World)(H:aj):Prop where
 objs:∀id cs,H[id]?=some (some cs)->∃b aI,g.ob id=some b∧excl g w (.obj id) b aI∧Vs T g w cs (aI.toList.take cs.length)∧cs.length<=aI.size
 ob:∀id b,g.ob id=some b->id<H.length
 fresh:∀b,w.heap.size<=b->g.own b=.free∧g.S b=0
 gl:∀b x,T.gl b=some x->g.own b=.kept∧w.heap[b]?=some x
structure Rel(T:Tr)(vs:List Nat)(N:Nat)(g:Gh)(w:World)(σ:St)(tm:Array Value):Prop where
 size:tm.size=N
 envk:∀t,t ∉ vs->bB σ.env t=.undef
 lenvk:∀t,t∈vs->bB σ.lenv t=.undef
 env:∀t,SV T g w (.slot t) (bB σ.env t) (tm.getD t undef)
 lenv:∀t,AVR T g w σ tm (.temp t) (bB σ.lenv t) (tm.getD t undef)
 nobox:∀t cs,bB σ.lenv t ≠ .box cs
 heap:HeapR T g w σ.H
theorem rJ{e:List (Nat×AV)}{t t':Nat}(a:AV)(h:t'≠t):bB (upd e t a) t'=bB e t':=by
 induction e with
 |nil=>rfl
 |cons x r ih=>
  obtain⟨k,b⟩:=x;simp only[upd];by_cases hk:k=t
  ·have h1:Nat.beq k t=true:=by
    cases hb:Nat.beq k t with
    |true=>rfl
    |false=>exact absurd hk (LC hb)
   have h2:Nat.beq k t'=false:=by
    cases hb:Nat.beq k t' with
    |false=>rfl
    |true=>exact absurd ((LG hb).symm.trans hk) h
   simp[h1,bB,h2]
  ·have h1:Nat.beq k t=false:=by
    cases hb:Nat.beq k t with
    |false=>rfl
    |true=>exact absurd (LG hb) hk
   simp[h1,bB,ih]
theorem Gw(e:List (Nat×AV))(t:Nat)(a:AV):bB (upd e t a) t=a∨(bB (upd e t a) t=.undef∧bB e t=.undef):=by
 induction e with
 |nil=>exact .inr ⟨rfl,rfl⟩
 |cons x r ih=>
  obtain⟨k,b⟩:=x;simp only[upd];cases hb:Nat.beq k t with
  |true=>simp[bB,hb]
  |false=>simpa[bB,hb]using ih
theorem JG(l:List (Nat×AV))(t:Nat)(a:AV):bB ((t,a)::l) t=a:=by simp[bB]
theorem BU{l:List (Nat×AV)}{t t':Nat}(a:AV)(h:t'≠t):bB ((t,a)::l) t'=bB l t':=by
 have h2:Nat.beq t t'=false:=by
  cases hb:Nat.beq t t' with
  |false=>rfl
  |true=>exact absurd (LG hb).symm h
 simp[bB,h2]
theorem vW(l:List Nat)(t:Nat):fO (t::l) t=fO l t+1:=by simp[fO]
theorem vX{l:List Nat}{t t':Nat}(h:t'≠t):fO (t::l) t'=fO l t':=by
 have h2:Nat.beq t t'=false:=by
  cases hb:Nat.beq t t' with
  |false=>rfl
  |true=>exact absurd (LG hb).symm h
 simp[fO,h2]
theorem zd2{tm:Array Value}{t:Nat}(v:Value)(h:t<tm.size):(tm.setIfInBounds t v).getD t undef=v:=by
 simp[Ql,h]
theorem getD_set_ne{tm:Array Value}{t t':Nat}(v:Value)(h:t'≠t):(tm.setIfInBounds t v).getD t' undef=tm.getD t' undef:=by
 simp[Ql,vT h]
theorem dH{a b:Nat}(h:Nat.beq a b=true):a=b:=LG h
section rel
variable {T:Tr} {vs:List Nat} {N:Nat} {g:Gh} {w:World} {σ:St} {tm:Array Value}
theorem AVR.of_SV{o:Own}{a:AV}{v:Value}(h:SV T g w o a v):AVR T g w σ tm o a v:=by
 cases a with
 |loc a b c=>exact h.elim
 |eloc a b c d=>exact h.elim
 |ref a b c d=>exact h.elim
 |_=>exact h
def qb:AV->Bool
 | .loc ..|.eloc ..|.ref .. => true
 |_=>false
theorem AVR.SV_of{o:Own}{a:AV}{v:Value}(h0:qb a=false)(h:AVR T g w σ tm o a v):SV T g w o a v:=by
 cases a with
 |loc a b c=>simp[qb]at h0
 |eloc a b c d=>simp[qb]at h0
 |ref a b c d=>simp[qb]at h0
 |_=>exact h
theorem AVR.ref_of{o o':Own}{a:AV}{v:Value}(h0:qb a=true)(h:AVR T g w σ tm o a v):AVR T g w σ tm o' a v:=by
 cases a with
 |loc a b c=>exact h
 |eloc a b c d=>exact h
 |ref a b c d=>exact h
 |_=>simp[qb]at h0
theorem AVR.of_V{o:Own}{a:AV}{v:Value}(h:V T g w a v):AVR T g w σ tm o a v:=.of_SV (.of_V h)
theorem AVR.plain{o:Own}{a:AV}{v:Value}(h:AVR T g w σ tm o a v)(h0:plain a=true):V T g w a v:=by
 cases a with
 |slc p es=>cases p with
  |ro=>exact h
  |app=>simp[Ak.plain]at h0
  |own=>simp[Ak.plain]at h0
 |box cs=>simp[Ak.plain]at h0
 |loc a b c=>simp[Ak.plain]at h0
 |eloc a b c d=>simp[Ak.plain]at h0
 |ref a b c d=>simp[Ak.plain]at h0
 |undef=>simp[Ak.plain]at h0
 |_=>exact h
theorem Rel.frame{ae:Nat}{g':Gh}{w':World}{H':aj}(h:Rel T vs N g w σ tm)(he:Ext ae g w g' w')
  (hs:∀b t,g.own b=.slot t->bB σ.env t ≠ .undef->g'.own b=.slot t∧g'.S b=g.S b∧w'.heap[b]?=w.heap[b]?)
  (ht:∀b t,g.own b=.temp t->bB σ.lenv t ≠ .undef->g'.own b=.temp t∧g'.S b=g.S b∧w'.heap[b]?=w.heap[b]?) (hh:HeapR T g' w' H') :
  Rel T vs N g' w' { σ with H:=H' } tm where
 size:=h.size
 envk:=h.envk
 lenvk:=h.lenvk
 env t:=by
  by_cases hu:bB σ.env t=.undef
  ·simp only[hu];exact V.undef _
  ·exact(h.env t).frame he fun b hb=>hs b t hb hu
 lenv t:=by
  have:=h.lenv t;cases ha:bB σ.lenv t with
  |loc a b c=>rw[ha]at this;simpa only[ha,AVR]using this
  |eloc a b c d=>rw[ha]at this;simpa only[ha,AVR]using this
  |ref a b c d=>rw[ha]at this;simpa only[ha,AVR]using this
  |box cs=>exact absurd ha (h.nobox t cs)
  |undef=>exact V.undef _
  |_=>
   rw[ha]at this;exact AVR.of_SV (SV.frame (by exact this) he fun b hb=>ht b t hb (by rw[ha];intro h;cases h))
 nobox:=h.nobox
 heap:=hh
end rel
end Go.Ak
namespace Go.Ak
def GU:AV->Value->Bool
 | .bool a,.bool b=>a==b
 | .int k a,.int k' b=>decide (k=k')&&a==b
 | .str s,.string b=>s==b.data.toList
 | .nilp,.pointer none=>true
 | .nils,.slice none 0 0=>true
 | .nilf,.nilFunc=>true
 | .nili,.nilIface=>true
 |_,_=>false
theorem Xx{T:Tr}{g:Gh}{w:World}:∀{a:AV}{v:Value},GU a v=true->V T g w a v:=by
 intro a v h;unfold GU at h;split at h
 ·have:=eq_of_beq h;subst this;exact .bool _
 ·rename_i k a k' b;simp only[aU,ik,gM]at h;obtain⟨rfl,rfl⟩:=h;exact .int _ _
 ·rename_i s b;have:s=b.data.toList:=eq_of_beq h;subst this;exact .str _
 ·exact .nilp
 ·exact .nils
 ·exact .nilf
 ·exact .nili
 ·cases h
def bE(T:Tr)(vs:List Nat)(N:Nat):Operand->Opd->Bool
 | .tmp t,.v u=>t==u&&vs.contains t&&decide (t<N)
 | .tmp t,.l u=>t==u && !vs.contains t&&decide (t<N)
 | .const v,.c a=>GU a v
 | .func f,.c (.fn g [])=>T.fm g==f
 |_,_=>false
section
variable {T:Tr} {vs:List Nat} {N:Nat} {g:Gh} {w:World} {σ:St} {tm:Array Value} {ds:List Deferred}
def JB:Opd->Own
 | .l t=>.temp t
 |_=>.free
theorem lS(h:Rel T vs N g w σ tm){x:Operand}{y:Opd}(hc:bE T vs N x y=true):AVR T g w σ tm (JB y) (dZ σ y) ((Act.mk tm ds).eval x):=by
 unfold bE at hc;split at hc
 ·rename_i t u;simp only[aU,gM]at hc;obtain⟨⟨rfl,_⟩,_⟩:=hc;have he:=h.env t;simp only[dZ,Act.eval];cases ha:bB σ.env t with
  |box cs=>
   rw[ha]at he;obtain⟨b,aI,hv,_,_⟩:=he;exact⟨aX _,fun _ _ _=>⟨b,hv,hv⟩⟩
  |slc p es=>
   rw[ha]at he;cases p with
   |ro=>exact AVR.of_V he
   |own=>
    obtain⟨b,ai,cap,aI,st,hv,_,_,h5,_,h7,_⟩:=he;refine⟨aX _,fun _ p es' dz=>?_⟩;rw[ha]at dz;cases dz;exact⟨by simp,b,ai,cap,st,ai,cap,h7,hv,hv,.inr (by simp),fun _=>⟨rfl,rfl⟩,h5⟩
   |app=>
    obtain⟨b,ai,cap,aI,st,hv,_,_,_,_,h5,_,h7,_⟩:=he;refine⟨aX _,fun _ p es' dz=>?_⟩;rw[ha]at dz;cases dz;exact⟨by simp,b,ai,cap,st,ai,cap,h7,hv,hv,.inr (by simp),fun _=>⟨rfl,rfl⟩,h5⟩
  |loc a b c=>rw[ha]at he;exact he.elim
  |eloc a b c d=>rw[ha]at he;exact he.elim
  |ref a b c d=>rw[ha]at he;exact he.elim
  |_=>rw[ha]at he;exact AVR.of_V (by exact he)
 ·rename_i t u;simp only[aU,gM]at hc;obtain⟨⟨rfl,_⟩,_⟩:=hc;exact h.lenv t
 ·rename_i v a;cases a<;>first|exact AVR.of_V (Xx hc)|(simp[GU]at hc)
 ·rename_i f gg;have:T.fm gg=f:=eq_of_beq hc;subst this;exact AVR.of_V (.fn gg [] [] .nil)
 ·cases hc
theorem BQ(h:Rel T vs N g w σ tm){x:Operand}{y:Opd}(hc:bE T vs N x y=true){a:AV}(ha:dZ σ y=a)(hp:plain a=true):V T g w a ((Act.mk tm ds).eval x):=by
 have:=lS (ds:=ds) h hc;rw[ha]at this;exact this.plain hp
theorem V.int_inv{k:IntKind}{n:Int}{v:Value}(h:V T g w (.int k n) v):v=.int k n:=by cases h;rfl
theorem V.bool_inv{b:Bool}{v:Value}(h:V T g w (.bool b) v):v=.bool b:=by cases h;rfl
theorem V.str_inv{s:List UInt8}{v:Value}(h:V T g w (.str s) v):v=.string ⟨s.toArray⟩:=by cases h;rfl
theorem V.nilp_inv{v:Value}(h:V T g w .nilp v):v=.pointer none:=by cases h;rfl
theorem V.nils_inv{v:Value}(h:V T g w .nils v):v=.slice none 0 0:=by cases h;rfl
theorem V.bsl_inv{id n:Nat}{v:Value}(h:V T g w (.bsl id n) v):∃b cap m,g.ob id=some b∧w.shape? b=some (T.tm 5,m)∧cap<=m∧n<=cap∧v=.slice (some ⟨b,0,none⟩) n cap:=by cases h;exact⟨_,_,_,by assumption,by assumption,by assumption,by assumption,rfl⟩
theorem V.nilf_inv{v:Value}(h:V T g w .nilf v):v=.nilFunc:=by cases h;rfl
theorem V.nili_inv{v:Value}(h:V T g w .nili v):v=.nilIface:=by cases h;rfl
theorem V.tptr_inv{ty n id ai:Nat}{v:Value}(h:V T g w (.tptr ty n id ai) v):∃b,g.ob id=some b∧w.shape? b=some (T.tm ty,n)∧v=.pointer (some ⟨b,ai,none⟩):=by cases h;exact⟨_,by assumption,by assumption,rfl⟩
theorem V.tptr_ptr{ty n id ai:Nat}{v:Value}(h:V T g w (.tptr ty n id ai) v):V T g w (.ptr id ai) v:=by
 obtain⟨b,h1,_,rfl⟩:=h.tptr_inv;exact .ptr id ai b h1
theorem V.ptr_inv{id ai:Nat}{v:Value}(h:V T g w (.ptr id ai) v):∃b,g.ob id=some b∧v=.pointer (some ⟨b,ai,none⟩):=by cases h;exact⟨_,by assumption,rfl⟩
theorem V.rptr_inv{cs:List AV}{ai:Nat}{v:Value}(h:V T g w (.rptr cs ai) v):∃b o vs,settled g w b o vs∧Vs T g w cs vs∧v=.pointer (some ⟨b,o+ai,none⟩):=by
 cases h;exact⟨_,_,_,by assumption,by assumption,rfl⟩
theorem V.slc_inv{p:Perm}{es:List AV}{v:Value}(h:V T g w (.slc p es) v):p=.ro∧∃b o vs st cap,settled g w b o vs∧Vs T g w (cz es) vs∧(∀e∈es,e.cells.length=st)∧0<st∧es.length<=cap∧v=.slice (some ⟨b,o,none⟩) es.length cap:=by
 cases h;exact⟨rfl,_,_,_,_,_,by assumption,by assumption,by assumption,by assumption,by assumption,rfl⟩
theorem V.msl_inv{st id ai len:Nat}{v:Value}(h:V T g w (.msl st id ai len) v):∃b cap ty n,g.ob id=some b∧w.shape? b=some (ty,n)∧ai+cap*st<=n∧len<=cap∧0<st∧v=.slice (some ⟨b,ai,none⟩) len cap:=by
 cases h;exact⟨_,_,_,_,by assumption,by assumption,by assumption,by assumption,by assumption,rfl⟩
theorem V.agg_inv{cs:List AV}{v:Value}(h:V T g w (.agg cs) v):∃us,Vs T g w cs us∧(∀x∈us,x.oneCell'=true)∧v=.agg us.toArray:=by cases h;exact⟨_,by assumption,by assumption,rfl⟩
theorem V.tup_inv{cs:List AV}{v:Value}(h:V T g w (.tup cs) v):∃us,Vs T g w cs us∧v=.tuple us.toArray:=by cases h;exact⟨_,by assumption,rfl⟩
theorem V.fn_inv{f:Nat}{cs:List AV}{v:Value}(h:V T g w (.fn f cs) v):∃us,Vs T g w cs us∧v=.func (.func (T.fm f)) #[] us.toArray:=by cases h;exact⟨_,by assumption,rfl⟩
theorem V.ifc_inv{t:Nat}{a:AV}{v:Value}(h:V T g w (.ifc t a) v):∃u,V T g w a u∧v=.iface (T.tm t) u:=by cases h;exact⟨_,by assumption,rfl⟩
theorem Ad(h:Rel T vs N g w σ tm){x:Operand}{y:Opd}(hc:bE T vs N x y=true){k:IntKind}{n:Int}(ha:dZ σ y=.int k n):(Act.mk tm ds).eval x=.int k n:=(BQ (ds:=ds) h hc ha rfl).int_inv
theorem MH(h:Rel T vs N g w σ tm){x:Operand}{y:Opd}(hc:bE T vs N x y=true){b:Bool}(ha:dZ σ y=.bool b):(Act.mk tm ds).eval x=.bool b:=(BQ (ds:=ds) h hc ha rfl).bool_inv
theorem JC(h:Rel T vs N g w σ tm){x:Operand}{y:Opd}(hc:bE T vs N x y=true){s:List UInt8}(ha:dZ σ y=.str s):(Act.mk tm ds).eval x=.string ⟨s.toArray⟩:=(BQ (ds:=ds) h hc ha rfl).str_inv
theorem zng{a:AV}{n:Nat}(h:mG a=some n):∃k,a=.int k (n:Int):=by
 unfold mG at h;split at h
 ·rename_i k m;cases hd:decide (0<=m)with
  |true=>
   simp only[hd,bA,aD]at h;simp only[ik]at hd;exact⟨k,by rw[←h,Int.toNat_of_nonneg hd]⟩
  |false=>simp[hd]at h
 ·cases h
theorem Gu(h:Rel T vs N g w σ tm){x:Operand}{y:Opd}(hc:bE T vs N x y=true){n:Nat}(ha:mG (dZ σ y)=some n):∃k,(Act.mk tm ds).eval x=.int k (n:Int):=by
 obtain⟨k,hk⟩:=zng ha;exact⟨k,Ad h hc hk⟩
/-! ### Rights handed on -/
def Gh.give(g:Gh)(b:Nat)(o:Own):Gh:={ g with own:=fun x=>if x=b then o else g.own x }
def Gh.settle(g:Gh)(b n:Nat):Gh:={ g with S:=fun x=>if x=b then n else g.S x }
theorem Ext.give{ae:Nat}{b:Nat}{o:Own}(h1:g.own b ≠ .kept)(h2:∀id,g.own b ≠ .obj id):Ext ae g w (g.give b o) w where
 size:=aX _
 S _:=aX _
 cell _ _ _:=rfl
 ob _ _ h:=h
 shape _ _ h:=h
 kept x hx:=by
  refine⟨?_,rfl,rfl⟩;simp only[Gh.give];by_cases hb:x=b
  ·subst hb;exact absurd hx h1
  ·simp[hb,hx]
 low id x _ _ hx:=by
  refine⟨?_,rfl,rfl⟩;simp only[Gh.give];by_cases hb:x=b
  ·subst hb;exact absurd hx (h2 id)
  ·simp[hb,hx]
 os:=rfl
 out:=rfl
theorem Ext.settle{ae:Nat}{b n:Nat}(h0:g.S b<=n)(h1:g.own b ≠ .kept)(h2:∀id,g.own b ≠ .obj id):Ext ae g w (g.settle b n) w where
 size:=aX _
 S x:=by
  simp only[Gh.settle];by_cases hb:x=b
  ·subst hb;simpa using h0
  ·simp[hb]
 cell _ _ _:=rfl
 ob _ _ h:=h
 shape _ _ h:=h
 kept x hx:=by
  refine⟨hx,?_,rfl⟩;simp only[Gh.settle];by_cases hb:x=b
  ·subst hb;exact absurd hx h1
  ·simp[hb]
 low id x _ _ hx:=by
  refine⟨hx,?_,rfl⟩;simp only[Gh.settle];by_cases hb:x=b
  ·subst hb;exact absurd hx (h2 id)
  ·simp[hb]
 os:=rfl
 out:=rfl
theorem HeapR.frame{ae:Nat}{g':Gh}{w':World}{H:aj}(h:HeapR T g w H)(he:Ext ae g w g' w')
  (ho:∀b id,g.own b=.obj id->g'.own b=.obj id∧g'.S b=g.S b∧w'.heap[b]?=w.heap[b]?) (hob:g'.ob=g.ob)
  (hf:∀b,w'.heap.size<=b->g'.own b=.free∧g'.S b=0):HeapR T g' w' H where
 objs id cs hc:=by
  obtain⟨b,aI,h1,⟨h2,h3,h4⟩,h5,h6⟩:=h.objs id cs hc;obtain⟨k1,k2,k3⟩:=ho b id h2;exact⟨b,aI,he.ob id b h1,⟨k1,k2.trans h3,h4.congr k3⟩,Vs.mono he h5,h6⟩
 ob id b hb:=h.ob id b (by rw[←hob];exact hb)
 fresh:=hf
 gl b x hb:=by
  obtain⟨k1,k2⟩:=h.gl b x hb;obtain⟨j1,_,j3⟩:=he.kept b k1;exact⟨j1,j3.trans k2⟩
theorem Ah{H:aj}(h:HeapR T g w H){b:Nat}(hb:g.own b ≠ .free):b<w.heap.size:=by
 rcases kY b w.heap.size with h'|h'
 ·exact h'
 ·exact absurd (h.fresh b h').1 hb
end
end Go.Ak
namespace Go.Ak
theorem pF{st:Nat}:∀{es:List AV},(∀e∈es,e.cells.length=st)->(cz es).length=es.length*st
 | [],_=>by simp[cz]
 |e::es,h=>by
  have ih:=pF (es:=es) fun x hx=>h x (by simp[hx]);have he:=h e (by simp);simp only[cz,lq,iF]at ih ⊢;rw[ih,he,fF,rf,Bo]
theorem Rk{st:Nat}:∀(n:Nat){es:List AV},(∀e∈es,e.cells.length=st)->cz (es.drop n)=(cz es).drop (n*st)
 |0,es,_=>by simp
 |n+1,[],_=>by simp[cz]
 |n+1,e::es,h=>by
  have ih:=Rk n (es:=es) fun x hx=>h x (by simp[hx]);have he:=h e (by simp);simp only[List.drop_succ_cons];rw[ih];simp only[cz,lq];rw[rf,Bo,←Qh,←he,List.drop_left]
theorem M0{st:Nat}:∀(n:Nat){es:List AV},(∀e∈es,e.cells.length=st)->cz (es.take n)=(cz es).take (n*st)
 |0,es,_=>by simp[cz]
 |n+1,[],_=>by simp[cz]
 |n+1,e::es,h=>by
  have ih:=M0 n (es:=es) fun x hx=>h x (by simp[hx]);have he:=h e (by simp);simp only[EJ];simp only[cz,lq]at ih ⊢;rw[ih,rf,Bo,←he,List.take_length_add_append]
theorem Jl{st:Nat}{es:List AV}(h:∀e∈es,e.cells.length=st)(n:Nat):∀e∈es.drop n,e.cells.length=st:=fun e he=>h e (EL he)
theorem Qr{st:Nat}{es:List AV}(h:∀e∈es,e.cells.length=st)(n:Nat):∀e∈es.take n,e.cells.length=st:=fun e he=>h e (vU he)
section
variable {T:Tr} {vs:List Nat} {N:Nat} {g:Gh} {w:World} {σ:St} {tm:Array Value} {ds:List Deferred}
theorem Rel.give(h:Rel T vs N g w σ tm){b:Nat}{o:Own}(hb:g.own b=.res):Rel T vs N (g.give b o) w σ tm:=by
 have he:Ext 0 g w (g.give b o) w:=Ext.give (by simp[hb]) (by simp[hb]);have dw:∀x,g.own x ≠ .res->(g.give b o).own x=g.own x:=fun x hx=>by
  simp only[Gh.give];rw[aF (fun h'=>hx (by rw[h',hb]))]
 refine h.frame (H':=σ.H) he (fun x t hx _=>⟨by rw[dw x (by simp[hx]),hx],rfl,rfl⟩) (fun x t hx _=>⟨by rw[dw x (by simp[hx]),hx],rfl,rfl⟩) ?_;refine h.heap.frame he (fun x id hx=>⟨by rw[dw x (by simp[hx]),hx],rfl,rfl⟩) rfl fun x hx=>?_;obtain⟨h1,h2⟩:=h.heap.fresh x hx;refine⟨?_,h2⟩;rw[dw x (by simp[h1]),h1]
theorem hold{ae:Nat}(h:Rel T vs N g w σ tm){a:AV}{v:Value}(o:Own)(hv:SV T g w .res a v):
  ∃g',Ext ae g w g' w∧Rel T vs N g' w σ tm∧SV T g' w o a v∧(∀x,g.own x ≠ .res->g'.own x=g.own x)∧g'.S=g.S:=by
 have go:∀b,g.own b=.res->∃g',Ext ae g w g' w∧Rel T vs N g' w σ tm∧(∀x,g.own x ≠ .res->g'.own x=g.own x)∧g'.S=g.S∧g'.own b=o∧g'.ob=g.ob:=fun b hb=>by
  refine⟨g.give b o,Ext.give (by simp[hb]) (by simp[hb]),h.give hb,fun x hx=>?_,rfl,by simp[Gh.give],rfl⟩;simp only[Gh.give];rw[aF (fun h'=>hx (by rw[h',hb]))]
 have idle:V T g w a v->∃g',Ext ae g w g' w∧Rel T vs N g' w σ tm∧SV T g' w o a v∧(∀x,g.own x ≠ .res->g'.own x=g.own x)∧g'.S=g.S:=
  fun hv=>⟨g,.refl _ _ _,h,.of_V hv,fun _ _=>rfl,rfl⟩
 cases a with
 |box cs=>
  obtain⟨b,aI,e,⟨h1,h2,h3⟩,h4⟩:=hv;obtain⟨g',he,hr,hk,hS,hb,_⟩:=go b h1;exact⟨g',he,hr,⟨b,aI,e,⟨hb,by rw[hS];exact h2,h3⟩,Vs.mono he h4⟩,hk,hS⟩
 |slc p es=>cases p with
  |ro=>exact idle hv
  |own=>
   obtain⟨b,ai,cap,aI,st,e,⟨h1,h2,h3⟩,h4,h5,h6,h7,us,h8,h9⟩:=hv;obtain⟨g',he,hr,hk,hS,hb,_⟩:=go b h1;exact⟨g',he,hr,⟨b,ai,cap,aI,st,e,⟨hb,by rw[hS];exact h2,h3⟩,h4,h5,h6,h7,us,Vs.mono he h8,h9⟩,hk,hS⟩
  |app=>
   obtain⟨b,ai,cap,aI,st,e,h1,h2,h3,h4,h5,h6,h7,us,h8,h9⟩:=hv;obtain⟨g',he,hr,hk,hS,hb,_⟩:=go b h1;exact⟨g',he,hr,⟨b,ai,cap,aI,st,e,hb,by rw[hS];exact h2,h3,h4,h5,h6,h7,us,Vs.mono he h8,h9⟩,hk,hS⟩
 |loc a b c=>exact hv.elim
 |eloc a b c d=>exact hv.elim
 |ref a b c d=>exact hv.elim
 |_=>exact idle hv
theorem put_l{ae:Nat}(h:Rel T vs N g w σ tm){a:AV}{v:Value}{t:Nat}(ht:t ∉ vs)(hN:t<N)(hb:∀cs,a ≠ .box cs)(hv:AVR T g w σ tm .res a v):
  ∃g',Ext ae g w g' w∧Rel T vs N g' w { σ with lenv:=(t,a)::σ.lenv } (tm.setIfInBounds t v):=by
 have core:∀g',Ext ae g w g' w->Rel T vs N g' w σ tm->AVR T g' w σ tm (.temp t) a v->Rel T vs N g' w { σ with lenv:=(t,a)::σ.lenv } (tm.setIfInBounds t v):=fun g' _ hr ha=>by
  have hu:bB σ.env t=.undef:=hr.envk t ht;have turn:∀(o:Own)(a':AV)(v':Value),AVR T g' w σ tm o a' v'->AVR T g' w { σ with lenv:=(t,a)::σ.lenv } (tm.setIfInBounds t v) o a' v':=fun o a' v' ha'=>by
   cases a' with
   |loc t' k ai=>
    refine⟨ha'.1,fun hk cs aH=>?_⟩;have aR:t'≠t:=fun e=>by subst e;simp only[hu]at aH;cases aH
    rw[getD_set_ne v aR];exact ha'.2 hk cs aH
   |eloc t' k i ai=>
    refine⟨ha'.1,fun hk p es e dz=>?_⟩;have aR:t'≠t:=fun e=>by subst e;simp only[hu]at dz;cases dz
    rw[getD_set_ne v aR];exact ha'.2 hk p es e dz
   |ref t' k lo n=>
    refine⟨ha'.1,fun hk p es dz=>?_⟩;have aR:t'≠t:=fun e=>by subst e;simp only[hu]at dz;cases dz
    rw[getD_set_ne v aR];exact ha'.2 hk p es dz
   |_=>exact ha'
  refine⟨by simpa using hr.size,hr.envk,fun x hx=>?_,fun x=>?_,fun x=>?_,fun x cs=>?_,hr.heap⟩
  ·rw[BU a (fun e=>ht (by rw[←e];exact hx))];exact hr.lenvk x hx
  ·by_cases hx:x=t
   ·subst hx;simp only[hu];exact V.undef _
   ·rw[getD_set_ne v hx];exact hr.env x
  ·by_cases hx:x=t
   ·subst hx;simp only[JG];rw[zd2 v (by rw[hr.size];exact hN)];exact turn _ _ _ ha
   ·simp only[BU a hx];rw[getD_set_ne v hx];exact turn _ _ _ (hr.lenv x)
  ·by_cases hx:x=t
   ·subst hx;rw[JG];exact hb cs
   ·rw[BU a hx];exact hr.nobox x cs
 cases hr0:qb a with
 |true=>exact⟨g,.refl _ _ _,core g (.refl _ _ _) h (hv.ref_of hr0)⟩
 |false=>
  obtain⟨g',he,hr,hs,_,_⟩:=hold (ae:=ae) h (.temp t) (hv.SV_of hr0);exact⟨g',he,core g' he hr (.of_SV hs)⟩
theorem put_v{ae:Nat}(h:Rel T vs N g w σ tm){a:AV}{v:Value}{t:Nat}(ht:t∈vs)(hN:t<N)(hv:SV T g w .res a v):
  ∃g',Ext ae g w g' w∧Rel T vs N g' w { σ with env:=upd σ.env t a,mods:=t::σ.mods } (tm.setIfInBounds t v):=by
 obtain⟨g',he,hr,hs,_,_⟩:=hold (ae:=ae) h (.slot t) hv;refine⟨g',he,by simpa using hr.size,fun x hx=>?_,hr.lenvk,fun x=>?_,fun x=>?_,hr.nobox,hr.heap⟩
 ·have aR:x≠t:=fun e=>hx (e▸ht);simp only[rJ a aR];exact hr.envk x hx
 ·by_cases hx:x=t
  ·subst hx;rw[zd2 v (by rw[hr.size];exact hN)];rcases Gw σ.env x a with h1|⟨h1,_⟩
   ·simp only[h1];exact hs
   ·simp only[h1];exact V.undef _
  ·rw[getD_set_ne v hx];simp only[rJ a hx];exact hr.env x
 ·have hx':∀x',bB σ.lenv x ≠ .undef->x≠x'∨True:=fun _ _=>.inr trivial;have hl:=hr.lenv x;by_cases hx:x=t
  ·subst hx;simp only[hr.lenvk x ht];exact V.undef _
  ·rw[getD_set_ne v hx];cases ha:bB σ.lenv x with
   |loc t' k ai=>
    rw[ha]at hl;by_cases aR:t'=t
    ·subst aR;refine⟨?_,fun hk=>?_⟩
     ·simp only[vW];have:=hl.1;omega
     ·simp only[vW]at hk;have:=hl.1;omega
    ·refine⟨by simp only[vX aR];exact hl.1,fun hk cs aH=>?_⟩;rw[getD_set_ne v aR];simp only[rJ a aR]at aH;exact hl.2 (by simpa only[vX aR]using hk) cs aH
   |eloc t' k i ai=>
    rw[ha]at hl;by_cases aR:t'=t
    ·subst aR;refine⟨?_,fun hk=>?_⟩
     ·simp only[vW];have:=hl.1;omega
     ·simp only[vW]at hk;have:=hl.1;omega
    ·refine⟨by simp only[vX aR];exact hl.1,fun hk p es e dz=>?_⟩;rw[getD_set_ne v aR];simp only[rJ a aR]at dz;exact hl.2 (by simpa only[vX aR]using hk) p es e dz
   |ref t' k lo n=>
    rw[ha]at hl;by_cases aR:t'=t
    ·subst aR;refine⟨?_,fun hk=>?_⟩
     ·simp only[vW];have:=hl.1;omega
     ·simp only[vW]at hk;have:=hl.1;omega
    ·refine⟨by simp only[vX aR];exact hl.1,fun hk p es dz=>?_⟩;rw[getD_set_ne v aR];simp only[rJ a aR]at dz;exact hl.2 (by simpa only[vX aR]using hk) p es dz
   |_=>rw[ha]at hl;exact hl
end
end Go.Ak
namespace Go.Ak
section
variable {T:Tr} {vs:List Nat} {N:Nat} {g:Gh} {w:World} {σ:St} {tm:Array Value} {ds:List Deferred}
def RowV(T:Tr)(g:Gh)(w:World)(es:List AV)(v:Value):Prop:=
 ∃b ai cap st us,v=.slice (some ⟨b,ai,none⟩) es.length cap∧settled g w b ai us∧Vs T g w (cz es) us∧(∀e∈es,e.cells.length=st)∧0<st∧es.length<=cap
theorem RowV.of_V{es:List AV}{v:Value}(h:V T g w (.slc .ro es) v):RowV T g w es v:=by
 obtain⟨_,b,o,us,st,cap,h1,h2,h3,h4,h5,h6⟩:=h.slc_inv;exact⟨b,o,cap,st,us,h6,h1,h2,h3,h4,h5⟩
theorem RowV.V{es:List AV}{v:Value}(h:RowV T g w es v):V T g w (.slc .ro es) v:=by
 obtain⟨b,ai,cap,st,us,rfl,h1,h2,h3,h4,h5⟩:=h;exact .slc es b ai us st cap h1 h2 h3 h4 h5
theorem settled.sub{b ai:Nat}{us:List Value}(h:settled g w b ai us)(lo n:Nat):settled g w b (ai+lo) ((us.drop lo).take n):=by
 intro k v hv;rw[mP]at hv;split at hv
 ·rw[List.getElem?_drop]at hv;have:=h (lo+k) v hv;rwa[←tX]at this
 ·cases hv
theorem RowV.sub{es:List AV}{b ai cap x iN n lo st:Nat}(h:RowV T g w es (.slice (some ⟨b,ai,none⟩) es.length cap))(dx:∀e∈es,e.cells.length=st)(hl:lo+n<=es.length)
  (hx:n=0∨x=ai+lo*st) (hc:n<=iN):Ak.V T g w (.slc .ro ((es.drop lo).take n)) (.slice (some ⟨b,x,none⟩) n iN):=by
 obtain⟨b',off',cap'',st',us,he,h1,h2,h3,h4,h5⟩:=h;simp only[Value.slice.injEq,aD,Addr.mk.injEq,nE,Bj]at he;obtain⟨⟨rfl,rfl⟩,rfl⟩:=he;have bq:((es.drop lo).take n).length=n:=by simp;omega
 rcases hx with hn|hx
 ·subst hn;have:=Ak.V.slc (T:=T) (g:=g) (w:=w) [] b x [] 1 iN (by intro k v hv;simp at hv) (by simpa[cz]using .nil) (by simp) (by omega) (by simp);simpa using this
 ·subst hx;have e:st'=st∨es=[]:=by
   cases es with
   |nil=>exact .inr rfl
   |cons e es=>exact .inl ((h3 e (by simp)).symm.trans (dx e (by simp)))
  rcases e with rfl|rfl
  ·have hu:=Qr (Jl dx lo) n;have hv:Vs T g w (cz ((es.drop lo).take n)) ((us.drop (lo*st')).take (n*st')):=by
    rw[M0 n (Jl dx lo),Rk lo dx];exact(h2.drop _).take _
   have:=Ak.V.slc (T:=T) (g:=g) (w:=w) ((es.drop lo).take n) b (ai+lo*st') _ st' iN (h1.sub _ _) hv hu h4 (by rw[bq];exact hc);rwa[bq]at this
  ·have hn:n=0:=by simp at hl;omega
   subst hn;have:=Ak.V.slc (T:=T) (g:=g) (w:=w) [] b (ai+lo*st) [] 1 iN (by intro k v hv;simp at hv) (by simpa[cz]using .nil) (by simp) (by omega) (by simp);simpa using this
theorem Rel.settle(h:Rel T vs N g w σ tm){b n:Nat}{o:Own}(hb:g.own b=o)(ho:(∃t,o=.slot t)∨(∃t,o=.temp t)∨o=.res)(h0:g.S b<=n)(hn:n>0->b<w.heap.size)
  {σ':St} (hH:σ'.H=σ.H) (hm:σ'.mods=σ.mods)
  (henv:∀t,bB σ'.env t=bB σ.env t∨(SV T (g.settle b n) w (.slot t) (bB σ'.env t) (tm.getD t undef)∧t∈vs∧∃p p' es,bB σ.env t=.slc p es∧bB σ'.env t=.slc p' es))
  (henv':∀t,o=.slot t->SV T (g.settle b n) w (.slot t) (bB σ'.env t) (tm.getD t undef))
  (hlenv:∀t,bB σ'.lenv t=bB σ.lenv t∨(SV T (g.settle b n) w (.temp t) (bB σ'.lenv t) (tm.getD t undef)∧t ∉ vs))
  (hlenv':∀t,o=.temp t->SV T (g.settle b n) w (.temp t) (bB σ'.lenv t) (tm.getD t undef) )
  (hnb:∀t cs,bB σ'.lenv t ≠ .box cs) :
  Rel T vs N (g.settle b n) w σ' tm:=by
 have hk:g.own b ≠ .kept∧(∀id,g.own b ≠ .obj id)∧g.own b ≠ .free:=by
  rcases ho with⟨t,rfl⟩|⟨t,rfl⟩|rfl<;>simp[hb]
 have he:Ext 0 g w (g.settle b n) w:=Ext.settle h0 hk.1 hk.2.1;have dw:∀x,g.own x≠o->(g.settle b n).own x=g.own x∧(g.settle b n).S x=g.S x:=fun x hx=>⟨rfl,by
  simp only[Gh.settle];rw[aF (fun e=>hx (by rw[e,hb]))]⟩
 have heq:∀t,(∃es p,bB σ'.env t=.slc p es)∨bB σ'.env t=bB σ.env t:=fun t=>by
  rcases henv t with e|⟨_,_,p,p',es,_,e⟩
  ·exact .inr e
  ·exact .inl ⟨es,p',e⟩
 have avr:∀(o':Own)(a:AV)(v:Value),qb a=true->AVR T g w σ tm o' a v->AVR T (g.settle b n) w σ' tm o' a v:=fun o' a v hr ha=>by
  have back:∀t p es,bB σ'.env t=.slc p es->∃p0,bB σ.env t=.slc p0 es:=fun t p es e=>by
   rcases henv t with e1|⟨_,_,p1,p2,es1,e1,e2⟩
   ·exact⟨p,by rw[←e1];exact e⟩
   ·rw[e2]at e;cases e;exact⟨p1,e1⟩
  have backb:∀t cs,bB σ'.env t=.box cs->bB σ.env t=.box cs:=fun t cs e=>by
   rcases henv t with e1|⟨_,_,p1,p2,es1,_,e2⟩
   ·rw[←e1];exact e
   ·rw[e2]at e;cases e
  cases a with
  |loc t k ai=>exact⟨by rw[hm];exact ha.1,fun hk cs aH=>ha.2 (by rw[hk,hm]) cs (backb t cs aH)⟩
  |eloc t k i ai=>
   refine⟨by rw[hm];exact ha.1,fun hk p es e dz=>?_⟩;obtain⟨p0,e0⟩:=back t p es dz;exact ha.2 (by rw[hk,hm]) p0 es e e0
  |ref t k lo m=>
   refine⟨by rw[hm];exact ha.1,fun hk p es dz=>?_⟩;obtain⟨p0,e0⟩:=back t p es dz;exact ha.2 (by rw[hk,hm]) p0 es e0
  |_=>simp[qb]at hr
 refine⟨h.size,fun t ht=>?_,fun t ht=>?_,fun t=>?_,fun t=>?_,hnb,?_⟩
 ·rcases henv t with e|⟨_,h2,_⟩
  ·rw[e];exact h.envk t ht
  ·exact absurd h2 ht
 ·rcases hlenv t with e|⟨_,h2⟩
  ·rw[e];exact h.lenvk t ht
  ·exact absurd ht h2
 ·rcases henv t with e|⟨h2,_⟩
  ·by_cases hot:o=.slot t
   ·exact henv' t hot
   ·rw[e];refine(h.env t).frame he fun x hx=>?_;obtain⟨k1,k2⟩:=dw x (by rw[hx];exact fun e=>hot e.symm);exact⟨by rw[k1,hx],k2,rfl⟩
  ·exact h2
 ·rcases hlenv t with e|⟨h2,_⟩
  ·by_cases hot:o=.temp t
   ·exact .of_SV (hlenv' t hot)
   ·rw[e];cases hr:qb (bB σ.lenv t)with
    |true=>exact avr _ _ _ hr (h.lenv t)
    |false=>
     refine .of_SV (((h.lenv t).SV_of hr).frame he fun x hx=>?_);obtain⟨k1,k2⟩:=dw x (by rw[hx];exact fun e=>hot e.symm);exact⟨by rw[k1,hx],k2,rfl⟩
  ·exact .of_SV h2
 ·rw[hH];refine h.heap.frame he (fun x id hx=>?_) rfl fun x hx=>?_
  ·obtain⟨k1,k2⟩:=dw x (by rw[hx];rcases ho with⟨t,rfl⟩|⟨t,rfl⟩|rfl<;>simp);exact⟨by rw[k1,hx],k2,rfl⟩
  ·obtain⟨h1,h2⟩:=h.heap.fresh x hx;refine⟨h1,?_⟩;simp only[Gh.settle];by_cases hxb:x=b
   ·subst hxb;simp only[fD];rcases Je n with h3|h3
    ·exact h3
    ·exact absurd (hn h3) (by omega)
   ·rw[aF hxb];exact h2
theorem SV.settle{o:Own}{es:List AV}{v:Value}(h:SV T g w o (.slc .own es) v)(hk1:o ≠ .kept)(hk2:∀id,o ≠ .obj id):
  ∃b n,g.own b=o∧g.S b<=n∧(n>0->b<w.heap.size)∧SV T (g.settle b n) w o (.slc .app es) v∧RowV T (g.settle b n) w es v:=by
 obtain⟨b,ai,cap,aI,st,e,⟨h1,h2,h3⟩,h4,h5,h6,h7,us,h8,h9⟩:=h;have bq:us.length=es.length*st:=by rw[←h8.length,pF h7]
 have he:Ext 0 g w (g.settle b (ai+es.length*st)) w:=Ext.settle (by omega) (by rw[h1];exact hk1) (by rw[h1];exact hk2);refine⟨b,ai+es.length*st,h1,by omega,fun _=>h3.lt,⟨b,ai,cap,aI,st,e,h1,by simp[Gh.settle],h3,h4,h5,h6,h7,us,Vs.mono he h8,h9⟩,?_⟩;refine⟨b,ai,cap,st,us,e,fun k v hv=>?_,Vs.mono he h8,h7,h6.1,h5⟩;have hk:k<us.length:=(eD.1 hv).1;refine⟨by simp[Gh.settle];omega,by rw[h3.cell];exact h9 k v hv,?_⟩;have:=h9 k v hv;rw[←mR]at this;exact h3.2.2 v (jm this)
theorem SV.app_row{o:Own}{es:List AV}{v:Value}(h:SV T g w o (.slc .app es) v):RowV T g w es v:=by
 obtain⟨b,ai,cap,aI,st,e,h1,h2,h3,h4,h5,h6,h7,us,h8,h9⟩:=h;have bq:us.length=es.length*st:=by rw[←h8.length,pF h7]
 refine⟨b,ai,cap,st,us,e,fun k v hv=>?_,h8,h7,h6.1,h5⟩;have hk:k<us.length:=(eD.1 hv).1;refine⟨by omega,by rw[h3.cell];exact h9 k v hv,?_⟩;have:=h9 k v hv;rw[←mR]at this;exact h3.2.2 v (jm this)
def still(g g':Gh):Prop:=∀b,(∀t,g.own b ≠ .slot t)->(∀t,g.own b ≠ .temp t)->g'.own b=g.own b∧g'.S b=g.S b
theorem still.refl(g:Gh):still g g:=fun _ _ _=>⟨rfl,rfl⟩
theorem still.settle{b n:Nat}(h:(∃t,g.own b=.slot t)∨∃t,g.own b=.temp t):still g (g.settle b n):=fun x h1 h2=>⟨rfl,by
 simp only[Gh.settle];rw[aF];intro e;subst e;rcases h with⟨t,e⟩|⟨t,e⟩
 ·exact h1 t e
 ·exact h2 t e⟩
theorem Rel.down_slot{ae:Nat}(h:Rel T vs N g w σ tm){t:Nat}{p:Perm}{es:List AV}(hl:bB σ.env t=.slc p es):
  ∃g',Ext ae g w g' w∧Rel T vs N g' w { σ with env:=upd σ.env t (.slc (drop1 p) es) } tm∧RowV T g' w es (tm.getD t undef)∧still g g':=by
 have ht:t∈vs:=by
  by_cases ht:t∈vs
  ·exact ht
  ·rw[h.envk t ht]at hl;cases hl
 have hs:=h.env t;rw[hl]at hs;have qc:bB (upd σ.env t (.slc (drop1 p) es)) t=.slc (drop1 p) es:=by
  rcases Gw σ.env t (.slc (drop1 p) es)with e|⟨_,e⟩
  ·exact e
  ·rw[hl]at e;cases e
 have same:drop1 p=p->Rel T vs N g w { σ with env:=upd σ.env t (.slc (drop1 p) es) } tm:=fun hp=>by
  have hlk:∀x,bB (upd σ.env t (.slc (drop1 p) es)) x=bB σ.env x:=fun x=>by
   by_cases hx:x=t
   ·subst hx;rw[qc,hl,hp]
   ·exact rJ _ hx
  refine⟨h.size,fun x hx=>by simpa only[hlk]using h.envk x hx,h.lenvk,fun x=>by simpa only[hlk]using h.env x,fun x=>?_,h.nobox,h.heap⟩;have:=h.lenv x;cases ha:bB σ.lenv x<;>rw[ha]at this<;>first|exact this|(simp only[AVR,hlk]at this ⊢;exact this)
 cases p with
 |ro=>exact⟨g,.refl _ _ _,same rfl,.of_V hs,.refl g⟩
 |app=>exact⟨g,.refl _ _ _,same rfl,hs.app_row,.refl g⟩
 |own=>
  obtain⟨b,n,h1,h2,h3,h4,h5⟩:=hs.settle (by simp) (by simp);refine⟨g.settle b n,Ext.settle h2 (by simp[h1]) (by simp[h1]),?_,h5,.settle (.inl ⟨t,h1⟩)⟩;refine h.settle h1 (.inl ⟨t,rfl⟩) h2 h3 rfl rfl (fun x=>?_) (fun x hx=>?_) (fun x=>.inl rfl) (fun x hx=>by cases hx) h.nobox
  ·by_cases hx:x=t
   ·subst hx;exact .inr ⟨by simp only[qc];exact h4,ht,.own,_,es,hl,qc⟩
   ·exact .inl (rJ _ hx)
  ·cases hx;simp only[qc];exact h4
theorem Rel.down_temp{ae:Nat}(h:Rel T vs N g w σ tm){t:Nat}{p:Perm}{es:List AV}(hl:bB σ.lenv t=.slc p es):
  ∃g',Ext ae g w g' w∧Rel T vs N g' w { σ with lenv:=(t,.slc (drop1 p) es)::σ.lenv } tm∧RowV T g' w es (tm.getD t undef)∧still g g':=by
 have ht:t ∉ vs:=by
  by_cases ht:t∈vs
  ·rw[h.lenvk t ht]at hl;cases hl
  ·exact ht
 have hs:=h.lenv t;rw[hl]at hs;have qc:bB ((t,AV.slc (drop1 p) es)::σ.lenv) t=.slc (drop1 p) es:=JG _ _ _;have same:drop1 p=p->Rel T vs N g w { σ with lenv:=(t,.slc (drop1 p) es)::σ.lenv } tm:=fun hp=>by
  have hlk:∀x,bB ((t,AV.slc (drop1 p) es)::σ.lenv) x=bB σ.lenv x:=fun x=>by
   by_cases hx:x=t
   ·subst hx;rw[qc,hl,hp]
   ·exact BU _ hx
  refine⟨h.size,h.envk,fun x hx=>by simpa only[hlk]using h.lenvk x hx,h.env,fun x=>?_,fun x cs=>by simpa only[hlk]using h.nobox x cs,h.heap⟩;have:=h.lenv x;simp only[hlk];cases ha:bB σ.lenv x<;>rw[ha]at this<;>exact this
 cases p with
 |ro=>exact⟨g,.refl _ _ _,same rfl,.of_V hs,.refl g⟩
 |app=>exact⟨g,.refl _ _ _,same rfl,SV.app_row (by exact hs),.refl g⟩
 |own=>
  obtain⟨b,n,h1,h2,h3,h4,h5⟩:=SV.settle (o:=.temp t) (by exact hs) (by simp) (by simp);refine⟨g.settle b n,Ext.settle h2 (by simp[h1]) (by simp[h1]),?_,h5,.settle (.inr ⟨t,h1⟩)⟩;refine h.settle h1 (.inr (.inl ⟨t,rfl⟩)) h2 h3 rfl rfl (fun x=>.inl rfl) (fun x hx=>by cases hx) (fun x=>?_) (fun x hx=>?_) (fun x cs=>?_)
  ·by_cases hx:x=t
   ·subst hx;exact .inr ⟨by simp only[qc];exact h4,ht⟩
   ·exact .inl (BU _ hx)
  ·cases hx;simp only[qc];exact h4
  ·by_cases hx:x=t
   ·subst hx;rw[qc];simp
   ·rw[BU _ hx];exact h.nobox x cs
theorem V.defined{a:AV}(h:plain a=true):a ≠ .undef:=by
 intro e;subst e;simp[plain]at h
theorem ut{ae:Nat}(h:Rel T vs N g w σ tm){x:Operand}{y:Opd}(hc:bE T vs N x y=true){a:AV}{σ':St}(he:esc σ y=some (a, σ')):
  ∃g',Ext ae g w g' w∧Rel T vs N g' w σ' tm∧Ak.V T g' w a ((Act.mk tm ds).eval x)∧plain a=true∧(∀cs,a ≠ .tup cs)∧σ'.H=σ.H∧σ'.mods=σ.mods∧still g g':=by
 have hr:=lS (ds:=ds) h hc;unfold esc at he;cases ha:dZ σ y with
 |ref t k lo n=>
  rw[ha]at he hr;simp only at he;cases hk:Nat.beq (fO σ.mods t) k with
  |false=>simp[hk]at he
  |true=>
   simp only[hk,bA]at he;cases hl:bB σ.env t with
   |slc p es=>
    rw[hl]at he;simp only[aD,eU]at he;obtain⟨rfl,rfl⟩:=he;obtain⟨bq,b,o',cap,st,xx,iN,h1,h2,h3,h4,h5,h6⟩:=hr.2 (dH hk).symm p es hl;obtain⟨g',e1,e2,e3,e4⟩:=h.down_slot (ae:=ae) hl;rw[h2]at e3;exact⟨g',e1,e2,by rw[h3];exact e3.sub h1 bq h4 h6,rfl,by simp,rfl,rfl,e4⟩
   |_=>rw[hl]at he;simp at he
 |slc p es=>
  rw[ha]at he hr;cases p with
  |ro=>
   simp only[aD,eU]at he;obtain⟨rfl,rfl⟩:=he;exact⟨g,.refl _ _ _,h,hr,rfl,by simp,rfl,rfl,.refl g⟩
  |app=>
   cases y with
   |l u=>
    simp only[aD,eU]at he;obtain⟨rfl,rfl⟩:=he;obtain⟨g',e1,e2,e3,e4⟩:=h.down_temp (ae:=ae) (t:=u) (p:=.app) (es:=es) ha;cases x with
    |tmp t=>
     simp only[bE,aU,gM]at hc;obtain⟨⟨rfl,_⟩,_⟩:=hc;exact⟨g',e1,e2,e3.V,rfl,by simp,rfl,rfl,e4⟩
    |_=>simp[bE]at hc
   |_=>simp at he
  |own=>
   cases y with
   |l u=>
    simp only[aD,eU]at he;obtain⟨rfl,rfl⟩:=he;obtain⟨g',e1,e2,e3,e4⟩:=h.down_temp (ae:=ae) (t:=u) (p:=.own) (es:=es) ha;cases x with
    |tmp t=>
     simp only[bE,aU,gM]at hc;obtain⟨⟨rfl,_⟩,_⟩:=hc;exact⟨g',e1,e2,e3.V,rfl,by simp,rfl,rfl,e4⟩
    |_=>simp[bE]at hc
   |_=>simp at he
 |box cs=>rw[ha]at he;simp at he
 |loc t k o=>rw[ha]at he;simp at he
 |eloc t k i o=>rw[ha]at he;simp at he
 |undef=>rw[ha]at he;simp at he
 |tup cs=>rw[ha]at he;simp at he
 |_=>
  rw[ha]at he hr;simp only[aD,eU]at he;obtain⟨rfl,rfl⟩:=he;exact⟨g,.refl _ _ _,h,hr,rfl,by simp,rfl,rfl,.refl g⟩
end
end Go.Ak
namespace Go.Ak
section
variable {T:Tr} {vs:List Nat} {N:Nat} {g:Gh} {w:World} {σ:St} {tm:Array Value} {ds:List Deferred}
theorem SV.turn{ae:Nat}{o:Own}(o':Own){a:AV}{v:Value}(h:SV T g w o a v)(hk1:o ≠ .kept)(hk2:∀id,o ≠ .obj id):
  ∃g',Ext ae g w g' w∧SV T g' w o' a v∧(∀b,g'.own b=g.own b∨(g.own b=o∧g'.own b=o'∧b<w.heap.size))∧g'.S=g.S∧g'.ob=g.ob:=by
 have go:∀b,g.own b=o->b<w.heap.size->∃g',Ext ae g w g' w∧(∀b,g'.own b=g.own b∨(g.own b=o∧g'.own b=o'∧b<w.heap.size))∧g'.S=g.S∧g'.own b=o'∧g'.ob=g.ob:=fun b hb hl=>by
  refine⟨g.give b o',Ext.give (by rw[hb];exact hk1) (by rw[hb];exact hk2),fun x=>?_,rfl,by simp[Gh.give],rfl⟩;by_cases hx:x=b
  ·subst hx;exact .inr ⟨hb,by simp[Gh.give],hl⟩
  ·exact .inl (by simp[Gh.give,hx])
 have idle:V T g w a v->∃g',Ext ae g w g' w∧SV T g' w o' a v∧(∀b,g'.own b=g.own b∨(g.own b=o∧g'.own b=o'∧b<w.heap.size))∧g'.S=g.S∧g'.ob=g.ob:=
  fun hv=>⟨g,.refl _ _ _,.of_V hv,fun _=>.inl rfl,rfl,rfl⟩
 cases a with
 |box cs=>
  obtain⟨b,aI,e,⟨h1,h2,h3⟩,h4⟩:=h;obtain⟨g',he,hk,hS,hb,ho⟩:=go b h1 h3.lt;exact⟨g',he,⟨b,aI,e,⟨hb,by rw[hS];exact h2,h3⟩,Vs.mono he h4⟩,hk,hS,ho⟩
 |slc p es=>cases p with
  |ro=>exact idle h
  |own=>
   obtain⟨b,ai,cap,aI,st,e,⟨h1,h2,h3⟩,h4,h5,h6,h7,us,h8,h9⟩:=h;obtain⟨g',he,hk,hS,hb,ho⟩:=go b h1 h3.lt;exact⟨g',he,⟨b,ai,cap,aI,st,e,⟨hb,by rw[hS];exact h2,h3⟩,h4,h5,h6,h7,us,Vs.mono he h8,h9⟩,hk,hS,ho⟩
  |app=>
   obtain⟨b,ai,cap,aI,st,e,h1,h2,h3,h4,h5,h6,h7,us,h8,h9⟩:=h;obtain⟨g',he,hk,hS,hb,ho⟩:=go b h1 h3.lt;exact⟨g',he,⟨b,ai,cap,aI,st,e,hb,by rw[hS];exact h2,h3,h4,h5,h6,h7,us,Vs.mono he h8,h9⟩,hk,hS,ho⟩
 |loc a b c=>exact h.elim
 |eloc a b c d=>exact h.elim
 |ref a b c d=>exact h.elim
 |_=>exact idle h
theorem Rel.regive{ae:Nat}(h:Rel T vs N g w σ tm){g':Gh}(he:Ext ae g w g' w){o o':Own}(hd:(∃t,o=.slot t∧bB σ.env t=.undef)∨(∃t,o=.temp t∧bB σ.lenv t=.undef)∨o=.res)
  (hg:∀b,g'.own b=g.own b∨(g.own b=o∧g'.own b=o'∧b<w.heap.size)) (hS:g'.S=g.S) (hob:g'.ob=g.ob):Rel T vs N g' w σ tm:=by
 refine h.frame (H':=σ.H) he (fun b t hb hl=>?_) (fun b t hb hl=>?_) ?_
 ·rcases hg b with e|⟨e,_⟩
  ·exact⟨by rw[e,hb],by rw[hS],rfl⟩
  ·rw[hb]at e;rcases hd with⟨t',h1,h2⟩|⟨t',h1,h2⟩|h1
   ·rw[h1]at e;cases e;exact absurd h2 hl
   ·rw[h1]at e;cases e
   ·rw[h1]at e;cases e
 ·rcases hg b with e|⟨e,_⟩
  ·exact⟨by rw[e,hb],by rw[hS],rfl⟩
  ·rw[hb]at e;rcases hd with⟨t',h1,h2⟩|⟨t',h1,h2⟩|h1
   ·rw[h1]at e;cases e
   ·rw[h1]at e;cases e;exact absurd h2 hl
   ·rw[h1]at e;cases e
 ·refine h.heap.frame he (fun b id hb=>?_) hob fun b hb=>?_
  ·rcases hg b with e|⟨e,_⟩
   ·exact⟨by rw[e,hb],by rw[hS],rfl⟩
   ·rw[hb]at e;rcases hd with⟨t',h1,h2⟩|⟨t',h1,h2⟩|h1<;>(rw[h1]at e;cases e)
  ·obtain⟨h1,h2⟩:=h.heap.fresh b hb;rcases hg b with e|⟨_,_,e⟩
   ·exact⟨by rw[e,h1],by rw[hS];exact h2⟩
   ·omega
theorem Rel.clear_slot(h:Rel T vs N g w σ tm)(t:Nat):Rel T vs N g w { σ with env:=upd σ.env t .undef,mods:=t::σ.mods } tm:=by
 have hlk:bB (upd σ.env t .undef) t=.undef:=by
  rcases Gw σ.env t .undef with e|⟨e,_⟩<;>exact e
 refine⟨h.size,fun x hx=>?_,h.lenvk,fun x=>?_,fun x=>?_,h.nobox,h.heap⟩
 ·by_cases hxt:x=t
  ·subst hxt;exact hlk
  ·simp only[rJ _ hxt];exact h.envk x hx
 ·by_cases hxt:x=t
  ·subst hxt;simp only[hlk];exact V.undef _
  ·simp only[rJ _ hxt];exact h.env x
 ·have hl:=h.lenv x;cases ha:bB σ.lenv x with
  |loc t' k ai=>
   rw[ha]at hl;by_cases aR:t'=t
   ·subst aR;refine⟨by simp only[vW];have:=hl.1;omega,fun hk=>?_⟩;simp only[vW]at hk;have:=hl.1;omega
   ·refine⟨by simp only[vX aR];exact hl.1,fun hk cs aH=>?_⟩;simp only[rJ _ aR]at aH;exact hl.2 (by simpa only[vX aR]using hk) cs aH
  |eloc t' k i ai=>
   rw[ha]at hl;by_cases aR:t'=t
   ·subst aR;refine⟨by simp only[vW];have:=hl.1;omega,fun hk=>?_⟩;simp only[vW]at hk;have:=hl.1;omega
   ·refine⟨by simp only[vX aR];exact hl.1,fun hk p es e dz=>?_⟩;simp only[rJ _ aR]at dz;exact hl.2 (by simpa only[vX aR]using hk) p es e dz
  |ref t' k lo n=>
   rw[ha]at hl;by_cases aR:t'=t
   ·subst aR;refine⟨by simp only[vW];have:=hl.1;omega,fun hk=>?_⟩;simp only[vW]at hk;have:=hl.1;omega
   ·refine⟨by simp only[vX aR];exact hl.1,fun hk p es dz=>?_⟩;simp only[rJ _ aR]at dz;exact hl.2 (by simpa only[vX aR]using hk) p es dz
  |_=>rw[ha]at hl;exact hl
theorem Rel.clear_temp(h:Rel T vs N g w σ tm){t:Nat}(ht:t ∉ vs):Rel T vs N g w { σ with lenv:=(t,.undef)::σ.lenv } tm:=by
 refine⟨h.size,h.envk,fun x hx=>?_,h.env,fun x=>?_,fun x cs=>?_,h.heap⟩
 ·rw[BU _ (fun e=>ht (by rw[←e];exact hx))];exact h.lenvk x hx
 ·by_cases hx:x=t
  ·subst hx;simp only[JG];exact V.undef _
  ·simp only[BU _ hx];have:=h.lenv x;cases ha:bB σ.lenv x<;>rw[ha]at this<;>exact this
 ·by_cases hx:x=t
  ·subst hx;rw[JG];simp
  ·rw[BU _ hx];exact h.nobox x cs
theorem SV.own_take{o:Own}{es:List AV}{b ai cap n:Nat}(h:SV T g w o (.slc .own es) (.slice (some ⟨b,ai,none⟩) es.length cap))(hn:n<=es.length)(hn0:0<n):
  SV T g w o (.slc .own (es.take n)) (.slice (some ⟨b,ai,none⟩) n cap):=by
 obtain⟨b',off',iN,aI,st,e,h1,h4,h5,h6,h7,us,h8,h9⟩:=h;simp only[Value.slice.injEq,aD,Addr.mk.injEq,nE,Bj]at e;obtain⟨⟨rfl,rfl⟩,rfl⟩:=e;have hl:(es.take n).length=n:=by simp;omega
 refine⟨b,ai,cap,aI,st,by rw[hl],h1,h4,by omega,⟨h6.1,fun e=>by rw[e]at hl;simp at hl;omega⟩,Qr h7 n,us.take (n*st),by rw[M0 n h7];exact h8.take _,fun k v hv=>?_⟩;rw[mP]at hv;split at hv
 ·exact h9 k v hv
 ·cases hv
theorem Jn{ae:Nat}(h:Rel T vs N g w σ tm){x:Operand}{y:Opd}(hc:bE T vs N x y=true){a:AV}{σ':St}(he:take σ y=some (a, σ')):
  ∃g',Ext ae g w g' w∧Rel T vs N g' w σ' tm∧SV T g' w .res a ((Act.mk tm ds).eval x)∧a ≠ .undef∧(∀cs,a ≠ .tup cs)∧(∀cs,a ≠ .box cs)∧qb a=false∧σ'.H=σ.H∧still g g':=by
 have hr:=lS (ds:=ds) h hc;unfold take at he;cases ha:dZ σ y with
 |ref t k lo n=>
  rw[ha]at he hr;simp only at he;cases hk:Nat.beq (fO σ.mods t) k with
  |false=>simp[hk]at he
  |true=>
   simp only[hk,bA]at he;cases hl:bB σ.env t with
   |slc p es=>
    rw[hl]at he;simp only at he;cases hlo:Nat.beq lo 0 with
    |false=>simp[hlo]at he
    |true=>
     have hlo0:=dH hlo;subst hlo0;simp only[hlo,bA]at he;obtain⟨bq,b,o',cap,st,xx,iN,h1,h2,h3,h4,h5,h6⟩:=hr.2 (dH hk).symm p es hl;obtain⟨rfl,rfl⟩:=h5 rfl;have hs:=h.env t;rw[hl,h2]at hs;have bM:=h.clear_slot t;have hun:bB (upd σ.env t .undef) t=.undef:=by
      rcases Gw σ.env t .undef with e|⟨e,_⟩<;>exact e
     have fin:∀p' es',SV T g w (.slot t) (.slc p' es') (.slice (some ⟨b,xx,none⟩) n iN)->∃g',Ext ae g w g' w∧Rel T vs N g' w { σ with env:=upd σ.env t .undef,mods:=t::σ.mods } tm∧SV T g' w .res (.slc p' es') ((Act.mk tm ds).eval x)∧still g g':=fun p' es' gz=>by
      obtain⟨g',e1,e2,e3,e4,e5⟩:=gz.turn (ae:=ae) .res (by simp) (by simp);exact⟨g',e1,bM.regive e1 (.inl ⟨t,rfl,hun⟩) e3 e4 e5,by rw[h3];exact e2,fun b k1 k2=>⟨(e3 b).resolve_right (fun h=>k1 t h.1),by rw[e4]⟩⟩
     cases hnn:Nat.beq n es.length with
     |true=>
      simp only[hnn,bA,aD,eU]at he;obtain⟨rfl,rfl⟩:=he;have hn:=dH hnn;subst hn;obtain⟨g',e1,e2,e3,e4⟩:=fin p es hs;exact⟨g',e1,e2,e3,by simp,by simp,by simp,rfl,rfl,e4⟩
     |false=>
      simp only[hnn,fq]at he;cases p with
      |own=>
       cases n with
       |zero=>simp at he
       |succ n=>
        simp only[aD,eU]at he;obtain⟨rfl,rfl⟩:=he;obtain⟨g',e1,e2,e3,e4⟩:=fin .own (es.take (n+1)) (SV.own_take hs (by omega) (by omega));exact⟨g',e1,e2,e3,by simp,by simp,by simp,rfl,rfl,e4⟩
      |_=>simp at he
   |_=>rw[hl]at he;simp at he
 |slc p es=>
  rw[ha]at he hr;have own_case:p ≠ .ro->∃u,y=.l u∧a=.slc p es∧σ'={ σ with lenv:=(u,.undef)::σ.lenv }:=fun hp=>by
   cases p with
   |ro=>exact absurd rfl hp
   |own=>cases y with
    |l u=>simp only[aD,eU]at he;exact⟨u,rfl,he.1.symm,he.2.symm⟩
    |_=>simp at he
   |app=>cases y with
    |l u=>simp only[aD,eU]at he;exact⟨u,rfl,he.1.symm,he.2.symm⟩
    |_=>simp at he
  by_cases hp:p=.ro
  ·subst hp;simp only[aD,eU]at he;obtain⟨rfl,rfl⟩:=he;exact⟨g,.refl _ _ _,h,hr,by simp,by simp,by simp,rfl,rfl,.refl g⟩
  ·obtain⟨u,rfl,rfl,rfl⟩:=own_case hp;have hu:u ∉ vs:=by
    intro hu;have:=h.lenvk u hu;simp only[dZ]at ha;rw[ha]at this;cases this
   obtain⟨g',e1,e2,e3,e4,e5⟩:=(hr.SV_of rfl).turn (ae:=ae) .res (by simp[JB]) (by simp[JB]);exact⟨g',e1,(h.clear_temp hu).regive e1 (.inr (.inl ⟨u,rfl,JG _ _ _⟩)) e3 e4 e5,e2,by simp,by simp,by simp,rfl,rfl,fun b k1 k2=>⟨(e3 b).resolve_right (fun h=>k2 u h.1),by rw[e4]⟩⟩
 |box cs=>rw[ha]at he;simp at he
 |loc t k o=>rw[ha]at he;simp at he
 |eloc t k i o=>rw[ha]at he;simp at he
 |undef=>rw[ha]at he;simp at he
 |tup cs=>rw[ha]at he;simp at he
 |_=>
  rw[ha]at he hr;simp only[aD,eU]at he;obtain⟨rfl,rfl⟩:=he;exact⟨g,.refl _ _ _,h,.of_V hr,by simp,by simp,by simp,rfl,rfl,.refl g⟩
end
end Go.Ak
namespace Go.Ak
section
variable {T:Tr} {vs:List Nat} {N:Nat} {g:Gh} {w:World} {σ:St} {tm:Array Value} {ds:List Deferred}
theorem Mc{cs l:List AV}{ai n:Nat}(h:sub cs ai n=some l):ai+n<=cs.length∧l=(cs.drop ai).take n:=by
 unfold sub at h;cases hb:Nat.ble (ai+n) cs.length with
 |true=>simp only[hb,bA,aD]at h;exact⟨iy hb,h.symm⟩
 |false=>simp[hb]at h
theorem EO{cs l:List AV}{ai n:Nat}{us:List Value}(h:sub cs ai n=some l)(hv:Vs T g w cs us):Vs T g w l ((us.drop ai).take n)∧((us.drop ai).take n).length=n:=by
 obtain⟨h1,rfl⟩:=Mc h;refine⟨(hv.drop _).take _,?_⟩;have:=hv.length;simp;omega
theorem GH{us:List Value}{ai n k:Nat}{u:Value}(h:((us.drop ai).take n)[k]?=some u):us[ai+k]?=some u∧k<n:=by
 rw[mP]at h;split at h
 ·rw[List.getElem?_drop]at h;exact⟨h,by assumption⟩
 ·cases h
theorem M4{st:Nat}:∀{es:List AV}{i:Nat}{e:AV},(∀e∈es,e.cells.length=st)->es[i]?=some e->e.cells=((cz es).drop (i*st)).take st
 | [],i,e,_,h=>by simp at h
 |a::es,0,e,hu,h=>by
  simp at h;subst h;simp only[cz,lq,Nat.zero_mul,xI];rw[←hu a (by simp),List.take_left]
 |a::es,i+1,e,hu,h=>by
  have:=M4 (es:=es) (i:=i) (e:=e) (fun x hx=>hu x (by simp[hx])) (by simpa using h);rw[this];simp only[cz,lq];rw[rf,Bo (i*st),←Qh];congr 2;rw[←hu a (by simp),List.drop_left]
theorem zcU(h:Rel T vs N g w σ tm){o:Own}{p:AV}{v:Value}(hp:AVR T g w σ tm o p v){n:Nat}{cs:List AV}(he:rd σ n p=some cs):
  ∃b ai us,v=.pointer (some ⟨b,ai,none⟩)∧us.length=n∧Vs T g w cs us∧∀(k:Nat)(u:Value),us[k]?=some u->w.cell? ⟨b,ai+k,none⟩=some u∧u.oneCell'=true:=by
 have fromBlk:∀{b:Nat}{aI:Array Value}{cs0:List AV}{ai:Nat},blk w b aI->Vs T g w cs0 (aI.toList.take cs0.length)->sub cs0 ai n=some cs->
   ∃us,us.length=n∧Vs T g w cs us∧∀(k:Nat)(u:Value),us[k]?=some u->w.cell? ⟨b,ai+k,none⟩=some u∧u.oneCell'=true:=fun{b aI cs0 ai} hb hv hs=>by
  obtain⟨h1,h2⟩:=EO hs hv;refine⟨_,h2,h1,fun k u hk=>?_⟩;obtain⟨h3,h4⟩:=GH hk;rw[mP]at h3;split at h3
  ·have h5:aI[ai+k]?=some u:=by rw[←mR];exact h3
   exact⟨by rw[hb.cell,h5],hb.2.2 u (jm h3)⟩
  ·cases h3
 unfold rd at he;cases p with
 |ptr id ai=>
  simp only at he;obtain⟨b,hb,rfl⟩:=V.ptr_inv hp;split at he
  ·rename_i cs0 hid;obtain⟨b',aI,h1,⟨_,_,h3⟩,h4,_⟩:=h.heap.objs id cs0 hid;rw[hb]at h1;cases h1;obtain⟨us,k1,k2,k3⟩:=fromBlk h3 h4 he;exact⟨b,ai,us,rfl,k1,k2,k3⟩
  ·cases he
 |tptr ty n id ai=>
  simp only at he;obtain⟨b,hb,rfl⟩:=V.ptr_inv (V.tptr_ptr hp);split at he
  ·rename_i cs0 hid;obtain⟨b',aI,h1,⟨_,_,h3⟩,h4,_⟩:=h.heap.objs id cs0 hid;rw[hb]at h1;cases h1;obtain⟨us,k1,k2,k3⟩:=fromBlk h3 h4 he;exact⟨b,ai,us,rfl,k1,k2,k3⟩
  ·cases he
 |rptr cs0 ai=>
  simp only at he;obtain⟨b,o',us,h1,h2,rfl⟩:=V.rptr_inv hp;obtain⟨k1,k2⟩:=EO he h2;refine⟨b,o'+ai,_,rfl,k2,k1,fun k u hk=>?_⟩;obtain⟨k3,_⟩:=GH hk;obtain⟨_,k5,k6⟩:=h1 _ _ k3;exact⟨by rw[tX];exact k5,k6⟩
 |loc t k ai=>
  simp only at he;cases hk:Nat.beq (fO σ.mods t) k with
  |false=>simp[hk]at he
  |true=>
   simp only[hk,bA]at he;split at he
   ·rename_i cs0 hl;obtain⟨b,h1,h2⟩:=hp.2 (dH hk).symm cs0 hl;have hs:=h.env t;rw[hl]at hs;obtain⟨b',aI,h3,⟨_,_,h4⟩,h5⟩:=hs;rw[h1]at h3;simp only[Value.pointer.injEq,aD,Addr.mk.injEq,nE]at h3;subst h3;have jh:Vs T g w cs0 (aI.toList.take cs0.length):=by
     rw[ek (by rw[h5.length];exact aX _)];exact h5
    obtain⟨us,k1,k2,k3⟩:=fromBlk h4 jh he;exact⟨b,ai,us,h2,k1,k2,k3⟩
   ·cases he
 |eloc t k i ai=>
  simp only at he;cases hk:Nat.beq (fO σ.mods t) k with
  |false=>simp[hk]at he
  |true=>
   simp only[hk,bA]at he;split at he
   ·rename_i pp es hl;split at he
    ·rename_i e dz;obtain⟨b,o',len,cap,h1,h2⟩:=hp.2 (dH hk).symm pp es e hl dz;have hs:=h.env t;rw[hl]at hs;have dw:∃us st,Vs T g w (cz es) us∧(∀e∈es,e.cells.length=st)∧∀(k:Nat)(u:Value),us[k]?=some u->w.cell? ⟨b,o'+k,none⟩=some u∧u.oneCell'=true:=by
      have MX:∀{aI:Array Value}{us:List Value},blk w b aI->(∀(k:Nat)(v:Value),us[k]?=some v->aI[o'+k]?=some v)->∀(k:Nat)(u:Value),us[k]?=some u->w.cell? ⟨b,o'+k,none⟩=some u∧u.oneCell'=true:=
       fun{aI us} hb hu k u hk=>by
        have h5:=hu k u hk;refine⟨by rw[hb.cell,h5],hb.2.2 u ?_⟩;rw[←mR]at h5;exact jm h5
      cases pp with
      |ro=>
       obtain⟨_,b',off',us,st,iN,k1,k2,k3,_,_,k6⟩:=V.slc_inv hs;rw[h1]at k6;simp only[Value.slice.injEq,aD,Addr.mk.injEq,nE]at k6;obtain⟨⟨rfl,rfl⟩,_,_⟩:=k6;exact⟨us,st,k2,k3,fun k u hk=>(k1 k u hk).2⟩
      |own=>
       obtain⟨b',off',iN,aI,st,k1,⟨_,_,k4⟩,_,_,_,k7,us,k8,k9⟩:=hs;rw[h1]at k1;simp only[Value.slice.injEq,aD,Addr.mk.injEq,nE]at k1;obtain⟨⟨rfl,rfl⟩,_,_⟩:=k1;exact⟨us,st,k8,k7,MX k4 k9⟩
      |app=>
       obtain⟨b',off',iN,aI,st,k1,_,_,k4,_,_,_,k7,us,k8,k9⟩:=hs;rw[h1]at k1;simp only[Value.slice.injEq,aD,Addr.mk.injEq,nE]at k1;obtain⟨⟨rfl,rfl⟩,_,_⟩:=k1;exact⟨us,st,k8,k7,MX k4 k9⟩
     obtain⟨us,st,k1,k2,k3⟩:=dw;have dx:e.cells.length=st:=k2 e (jm dz);have hv:Vs T g w e.cells ((us.drop (i*st)).take st):=by rw[M4 k2 dz];exact(k1.drop _).take _
     obtain⟨j1,j2⟩:=EO he hv;refine⟨b,o'+i*st+ai,_,by rw[h2,dx],j2,j1,fun k u hk=>?_⟩;obtain⟨j3,_⟩:=GH hk;obtain⟨j4,_⟩:=GH j3;have:=k3 _ _ j4;rwa[show o'+(i*st+(ai+k))=o'+i*st+ai+k by omega]at this
    ·cases he
   ·cases he
 |_=>simp at he
theorem Ext.setCells{ae:Nat}{b o:Nat}{us:List Value}(h0:g.S b<=o)(h1:g.own b ≠ .kept)(h2:∀id,id<ae->g.own b ≠ .obj id):Ext ae g w g (w.setCells b o us) where
 size:=by rw[setCells_size];exact aX _
 S _:=aX _
 cell x y hy:=World.cell?_setCells_out b us o w ⟨x,y,none⟩ (fun e _=>.inl (by simp only at e;subst e;simp only;omega))
 ob _ _ h:=h
 shape x z hz:=by
  by_cases hx:x=b
  ·subst hx;unfold World.shape? at hz ⊢;split at hz
   ·rename_i c e fz hc;rw[WS x e fz us o w c hc];simp only[aD]at hz ⊢;rw[←hz];simp[xP]
   ·cases hz
  ·simp only[World.shape?,MO b o us w x hx];exact hz
 kept x hx:=⟨hx,rfl,MO b o us w x (fun e=>by subst e;exact h1 hx)⟩
 low id x hi _ hx:=⟨hx,rfl,MO b o us w x (fun e=>by subst e;exact h2 id hi hx)⟩
 os:=(zcl b o us w).1
 out:=(zcl b o us w).2
theorem Rel.write(h:Rel T vs N g w σ tm){b ai:Nat}{us:List Value}{o:Own}(hb:g.own b=o)(h0:g.S b<=ai)(hk:o ≠ .kept){σ':St}(hm:σ'.mods=σ.mods)(hl:σ'.lenv=σ.lenv)
  (henv:∀t,o ≠ .slot t->bB σ'.env t=bB σ.env t)
  (henv':∀t,o=.slot t->SV T g (w.setCells b ai us) (.slot t) (bB σ'.env t) (tm.getD t undef)∧t∈vs∧((∃cs cs',bB σ.env t=.box cs∧bB σ'.env t=.box cs')∨
   ∃p es es',bB σ.env t=.slc p es∧bB σ'.env t=.slc p es'∧es.length=es'.length∧(∀(i:Nat)(e':AV),es'[i]?=some e'->∃e:AV,es[i]?=some e∧e.cells.length=e'.cells.length)∧∀st,(∀e∈es,e.cells.length=st)->∀e∈es',e.cells.length=st))
  (hot:∀t,o ≠ .temp t)
  (hH:∀id cs,o ≠ .obj id->σ'.H[id]?=some (some cs)->σ.H[id]?=some (some cs))
  (hH':∀id cs,o=.obj id->σ'.H[id]?=some (some cs)->∃b aI,g.ob id=some b∧excl g (w.setCells b ai us) (.obj id) b aI∧Vs T g (w.setCells b ai us) cs (aI.toList.take cs.length)∧cs.length<=aI.size∧b=b)
  (hHl:σ'.H.length=σ.H.length) (hHo:∀id,o=.obj id->∀b',g.ob id=some b'->b'=b) :
  Rel T vs N g (w.setCells b ai us) σ' tm:=by
 have he:Ext 0 g w g (w.setCells b ai us):=Ext.setCells h0 (by rw[hb];exact hk) (fun id hi=>absurd hi (Nat.not_lt_zero _));have other:∀x,g.own x≠o->(w.setCells b ai us).heap[x]?=w.heap[x]? := fun x hx=>MO b ai us w x (fun e=>hx (by rw[e,hb]));refine⟨h.size,fun t ht=>?_,fun t ht=>?_,fun t=>?_,fun t=>?_,fun t cs=>?_,⟨fun id cs hc=>?_,fun id x hx=>?_,fun x hx=>?_,fun x ob hx=>⟨(h.heap.gl x ob hx).1,(other x (by rw[(h.heap.gl x ob hx).1];exact fun e=>hk e.symm)).trans (h.heap.gl x ob hx).2⟩⟩⟩
 ·by_cases e:o=.slot t
  ·exact absurd (henv' t e).2.1 ht
  ·rw[henv t e];exact h.envk t ht
 ·rw[hl];exact h.lenvk t ht
 ·by_cases e:o=.slot t
  ·exact(henv' t e).1
  ·rw[henv t e];exact(h.env t).frame he fun x hx=>⟨hx,rfl,other x (by rw[hx];exact fun e'=>e e'.symm)⟩
 ·rw[hl];have aB:=h.lenv t;cases hr:qb (bB σ.lenv t)with
  |false=>exact .of_SV ((aB.SV_of hr).frame he fun x hx=>⟨hx,rfl,other x (by rw[hx];exact fun e'=>hot t e'.symm)⟩)
  |true=>
   cases ha:bB σ.lenv t with
   |loc t' k o'=>
    rw[ha]at aB;refine⟨by rw[hm];exact aB.1,fun hk cs aH=>?_⟩;by_cases e:o=.slot t'
    ·rcases(henv' t' e).2.2 with⟨cs0,cs1,e1,_⟩|⟨p,es,es',_,e2,_⟩
     ·exact aB.2 (by rw[hk,hm]) cs0 e1
     ·rw[e2]at aH;cases aH
    ·rw[henv t' e]at aH;exact aB.2 (by rw[hk,hm]) cs aH
   |eloc t' k i o'=>
    rw[ha]at aB;refine⟨by rw[hm];exact aB.1,fun hk p es e dz hi=>?_⟩;by_cases eo:o=.slot t'
    ·rcases(henv' t' eo).2.2 with⟨cs0,cs1,_,e1⟩|⟨p0,es0,es1,e1,e2,_,e3,_⟩
     ·rw[e1]at dz;cases dz
     ·rw[e2]at dz;cases dz;obtain⟨e0,h1,h2⟩:=e3 i e hi;have:=aB.2 (by rw[hk,hm]) _ es0 e0 e1 h1;rwa[h2]at this
    ·rw[henv t' eo]at dz;exact aB.2 (by rw[hk,hm]) p es e dz hi
   |ref t' k lo n=>
    rw[ha]at aB;refine⟨by rw[hm];exact aB.1,fun hk p es dz=>?_⟩;by_cases eo:o=.slot t'
    ·rcases(henv' t' eo).2.2 with⟨cs0,cs1,_,e1⟩|⟨p0,es0,es1,e1,e2,e4,_,e3⟩
     ·rw[e1]at dz;cases dz
     ·rw[e2]at dz;cases dz;obtain⟨k1,b',o',cap,st,xx,iN,k2,k3,k4,k5,k6,k7⟩:=aB.2 (by rw[hk,hm]) _ es0 e1;exact⟨by rw[←e4];exact k1,b',o',cap,st,xx,iN,e3 st k2,by rw[←e4];exact k3,k4,k5,k6,k7⟩
    ·rw[henv t' eo]at dz;exact aB.2 (by rw[hk,hm]) p es dz
   |_=>rw[ha]at hr;simp[qb]at hr
 ·rw[hl];exact h.nobox t cs
 ·by_cases e:o=.obj id
  ·obtain⟨b',aI,k1,k2,k3,k4,_⟩:=hH' id cs e hc;have:=hHo id e b' k1;subst this;exact⟨b',aI,k1,k2,k3,k4⟩
  ·obtain⟨b',aI,k1,⟨k2,k3,k4⟩,k5,k6⟩:=h.heap.objs id cs (hH id cs e hc);exact⟨b',aI,k1,⟨k2,k3,k4.congr (other b' (by rw[k2];exact fun e'=>e e'.symm))⟩,Vs.mono he k5,k6⟩
 ·rw[hHl];exact h.heap.ob id x hx
 ·rw[setCells_size]at hx;exact h.heap.fresh x hx
theorem zkC{as:List AV}{aI:List Value}{ai:Nat}{bs:List AV}{us:List Value}(h:Vs T g w as (aI.take as.length))(hl:as.length<=aI.length)(hv:Vs T g w bs us)(ho:ai+us.length<=as.length):
  Vs T g w (setCells as ai bs) ((kL aI ai us).take (setCells as ai bs).length):=by
 rw[Mt];have e:(kL aI ai us).take as.length=kL (aI.take as.length) ai us:=by
  apply Br;intro k;rw[mP];by_cases hk:k<as.length
  ·rw[aS hk];by_cases h1:k<ai
   ·rw[EQ _ _ _ _ h1,EQ _ _ _ _ h1,mP,aS hk]
   ·by_cases h2:ai+us.length<=k
    ·rw[Ms _ _ _ _ h2,Ms _ _ _ _ h2,mP,aS hk]
    ·obtain⟨j,rfl⟩:∃j,k=ai+j:=⟨k-ai,by omega⟩
     rw[Gq _ _ _ _ (by omega) (by omega),Gq _ _ _ _ (by simp;omega) (by omega)]
  ·rw[aF hk,pq];rw[xP];simp;omega
 rw[e];exact Vs.setCells hv ai h
theorem zdm{cs:List AV}{a:AV}(h:one cs=some a):cs=[a]:=by
 unfold one at h;split at h
 ·cases h;rfl
 ·cases h
theorem zll{e e':AV}{cs:List AV}(h:ww e cs=some e')(hf:e.cells.length=cs.length)(hn:∀c∈cs,∀l,c ≠ .agg l):e'.cells=cs:=by
 unfold ww at h;cases e with
 |agg l=>simp at h;rw[←h];rfl
 |_=>
  have:=zdm h;subst this;cases e' with
  |agg l=>exact absurd rfl (hn _ (by simp) l)
  |_=>rfl
theorem Vs.noagg:∀{as:List AV}{us:List Value},Vs T g w as us->(∀u∈us,u.oneCell'=true)->∀c∈as,∀l,c ≠ .agg l
 |_,_,.nil,_,c,hc,_=>by simp at hc
 |_,_,.cons a v as vs hv hvs,h1,c,hc,l=>by
  rcases il.1 hc with rfl|hc
  ·intro e;subst e;obtain⟨_,_,_,rfl⟩:=hv.agg_inv;have:=h1 _ (Qe);simp[Value.oneCell']at this
  ·exact Vs.noagg hvs (fun u hu=>h1 u (by simp[hu])) c hc l
theorem zcm:∀(us vs:List AV)(ai:Nat)(v:AV),v∈Ak.setCells vs ai us->v∈vs∨v∈us
 | [],_,_,_,h=>.inl h
 |u::us,vs,ai,v,h=>by
  rcases zcm us _ _ v h with h|h
  ·rcases Gc h with h|h
   ·exact .inl h
   ·subst h;exact .inr (by simp)
  ·exact .inr (by simp[h])
theorem WZ{st:Nat}:∀{es:List AV}{i:Nat}{e e':AV},(∀e∈es,e.cells.length=st)->es[i]?=some e->e'.cells.length=st->
  cz (es.set i e')=(cz es).take (i*st)++e'.cells++(cz es).drop (i*st+st)
 | [],i,e,e',_,h,_=>by simp at h
 |a::es,0,e,e',hu,h,hl=>by
  simp at h;subst h;have:=hu a (by simp);simp only[cz,List.set_cons_zero,lq,Nat.zero_mul,xD,gV,jZ];rw[←this,List.drop_left]
 |a::es,i+1,e,e',hu,h,hl=>by
  have ih:=WZ (es:=es) (i:=i) (e:=e) (e':=e') (fun x hx=>hu x (by simp[hx])) (by simpa using h) hl;have ha:=hu a (by simp);simp only[cz,Vy,lq]at ih ⊢;rw[ih];rw[show(i+1)*st=a.cells.length+i*st by rw[ha,rf];omega];rw[List.take_length_add_append,show a.cells.length+i*st+st=a.cells.length+(i*st+st) by omega];rw[List.drop_length_add_append];simp
theorem zbD{ae:Nat}(h:Rel T vs N g w σ tm){o:Own}{p:AV}{v:Value}(hnt:∀ty n id ai,p ≠ .tptr ty n id ai)(hp:AVR T g w σ tm o p v){bs:List AV}{us:List Value}(hv:Vs T g w bs us)(h1:∀u∈us,u.oneCell'=true)
  {σ':St} (he:wr σ ae p bs=some σ') :
  ∃b ai aI,v=.pointer (some ⟨b,ai,none⟩)∧blk w b aI∧ai+us.length<=aI.size∧Ext ae g w g (w.setCells b ai us)∧Rel T vs N g (w.setCells b ai us) σ' tm:=by
 have bq:=hv.length;unfold wr at he;cases p with
 |tptr ty n id ai=>exact absurd rfl (hnt ty n id ai)
 |ptr id ai=>
  simp only at he;obtain⟨b,hb,rfl⟩:=V.ptr_inv hp;cases nM:Nat.ble ae id with
  |false=>simp[nM]at he
  |true=>
   simp only[nM,bA]at he;split at he
   ·rename_i cs hid;obtain⟨b',aI,k1,⟨k2,k3,k4⟩,k5,k6⟩:=h.heap.objs id cs hid;rw[hb]at k1;cases k1;cases cu:Nat.ble (ai+bs.length) cs.length with
    |false=>simp[cu]at he
    |true=>
     simp only[cu,bA,aD]at he;have hle':=iy cu;have hbar':=iy nM;subst he;have hE:Ext ae g w g (w.setCells b ai us):=Ext.setCells (by omega) (by rw[k2];simp) (fun id' hi e=>by rw[k2]at e;cases e;omega);refine⟨b,ai,aI,rfl,k4,by omega,hE,?_⟩;refine h.write k2 (by omega) (by simp) rfl rfl (fun _ _=>rfl) (fun t e=>by cases e) (fun t e=>by cases e) (fun id' cs' aR hc=>?_) (fun id' cs' e hc=>?_) (by simp) (fun id' e b' ky=>?_)
     ·have:id≠id':=fun e=>aR (by rw[e]);rwa[tZ this]at hc
     ·cases e;rw[zO (by have:=(eD.1 hid).1;exact this)]at hc;simp only[aD]at hc;subst hc;refine⟨b,_,hb,⟨k2,k3,k4.setCells ai us h1⟩,?_,?_,rfl⟩
      ·exact Vs.mono hE (zkC k5 (by simpa using k6) hv (by omega))
      ·rw[Mt];simpa[xP]using k6
     ·cases e;rw[hb]at ky;cases ky;rfl
   ·cases he
 |loc t k ai=>
  simp only at he;cases hk:Nat.beq (fO σ.mods t) k with
  |false=>simp[hk]at he
  |true=>
   simp only[hk,bA]at he;split at he
   ·rename_i cs hl;obtain⟨b,e1,e2⟩:=hp.2 (dH hk).symm cs hl;have hs:=h.env t;rw[hl]at hs;obtain⟨b',aI,k1,⟨k2,k3,k4⟩,k5⟩:=hs;rw[e1]at k1;simp only[Value.pointer.injEq,aD,Addr.mk.injEq,nE]at k1;subst k1;cases cu:Nat.ble (ai+bs.length) cs.length with
    |false=>simp[cu]at he
    |true=>
     simp only[cu,bA,aD]at he;have hle':=iy cu;subst he;have k5l:=k5.length;have hE:∀ae,Ext ae g w g (w.setCells b ai us):=fun ae=>Ext.setCells (by omega) (by rw[k2];simp) (fun id' hi e=>by rw[k2]at e;cases e);have ht:t∈vs:=by
      by_cases ht:t∈vs
      ·exact ht
      ·rw[h.envk t ht]at hl;cases hl
     have qc:bB (upd σ.env t (.box (setCells cs ai bs))) t=.box (setCells cs ai bs):=by
      rcases Gw σ.env t (.box (setCells cs ai bs))with e|⟨_,e⟩
      ·exact e
      ·rw[hl]at e;cases e
     refine⟨b,ai,aI,e2,k4,by simp at k5l;omega,hE ae,?_⟩;refine h.write k2 (by omega) (by simp) rfl rfl (fun x hx=>rJ _ (fun e=>hx (by rw[e]))) (fun x hx=>?_) (fun t e=>by cases e) (fun id' cs' _ hc=>hc) (fun id' cs' e _=>by cases e) rfl (fun id' e=>by cases e);cases hx;refine⟨?_,ht,.inl ⟨cs,_,hl,qc⟩⟩;simp only[qc];exact⟨b,_,e1,⟨k2,k3,k4.setCells ai us h1⟩,by
      have:=Vs.mono (hE 0) (Vs.setCells hv ai k5);simpa using this⟩
   ·cases he
 |eloc t k i ai=>
  simp only at he;cases hk:Nat.beq (fO σ.mods t) k with
  |false=>simp[hk]at he
  |true=>
   simp only[hk,bA]at he;split at he
   ·rename_i es hl;split at he
    ·rename_i e dz;cases cu:Nat.ble (ai+bs.length) e.cells.length with
     |false=>simp[cu]at he
     |true=>
      simp only[cu,bA]at he;have hle':=iy cu;split at he
      ·rename_i e' hrm;simp only[aD]at he;subst he;obtain⟨b,o',len,cap,e1,e2⟩:=hp.2 (dH hk).symm .own es e hl dz;have hs:=h.env t;rw[hl]at hs;obtain⟨b',off',iN,aI,st,k1,⟨k2,k3,k4⟩,k5,k6,k7,k8,ws,k9,k10⟩:=hs;rw[e1]at k1;simp only[Value.slice.injEq,aD,Addr.mk.injEq,nE]at k1;obtain⟨⟨rfl,rfl⟩,rfl,rfl⟩:=k1;have dx:e.cells.length=st:=k8 e (jm dz);have hi:i<es.length:=(eD.1 dz).1;have hwl:ws.length=es.length*st:=by rw[←k9.length,pF k8]
       have hmul:i*st+st<=es.length*st:=by rw[←rf];exact zM _ hi
       have mZ:es.length*st<=cap*st:=zM _ k6;have hE:∀ae,Ext ae g w g (w.setCells b (o'+i*st+ai) us):=fun ae=>Ext.setCells (by omega) (by rw[k2];simp) (fun id' hi e=>by rw[k2]at e;cases e);have ht:t∈vs:=by
        by_cases ht:t∈vs
        ·exact ht
        ·rw[h.envk t ht]at hl;cases hl
       have qc:bB (upd σ.env t (.slc .own (es.set i e'))) t=.slc .own (es.set i e'):=by
        rcases Gw σ.env t (.slc .own (es.set i e'))with e|⟨_,e⟩
        ·exact e
        ·rw[hl]at e;cases e
       -- the element's own cells
       have hve:Vs T g w e.cells ((ws.drop (i*st)).take st):=by rw[M4 k8 dz];exact(k9.drop _).take _
       have fJ:∀u∈ws,u.oneCell'=true:=fun u hu=>by
        obtain⟨j,hj⟩:=Qf hu;have:=k10 j u hj;rw[←mR]at this;exact k4.2.2 u (jm this)
       have hna:∀c∈setCells e.cells ai bs,∀l,c ≠ .agg l:=fun c hc l=>by
        rcases zcm _ _ _ _ hc with hc|hc
        ·exact Vs.noagg hve (fun u hu=>fJ u (EL (vU hu))) c hc l
        ·exact Vs.noagg hv h1 c hc l
       have hec:e'.cells=setCells e.cells ai bs:=zll hrm (by rw[Mt]) hna;have hecl:e'.cells.length=st:=by rw[hec,Mt,dx]
       have huni:∀x∈es.set i e',x.cells.length=st:=fun x hx=>by
        rcases Gc hx with hx|rfl
        ·exact k8 x hx
        ·exact hecl
       refine⟨b,o'+i*st+ai,aI,by rw[e2,dx],k4,by omega,hE ae,?_⟩;refine h.write k2 (by omega) (by simp) rfl rfl (fun x hx=>rJ _ (fun e=>hx (by rw[e]))) (fun x hx=>?_) (fun t e=>by cases e) (fun id' cs' _ hc=>hc) (fun id' cs' e _=>by cases e) rfl (fun id' e=>by cases e);cases hx;refine⟨?_,ht,.inr ⟨.own,es,_,hl,qc,by simp,fun j x hj=>?_,fun st' hst' x hx=>?_⟩⟩
       ·simp only[qc];refine⟨b,o',cap,_,st,by rw[e1];simp,⟨k2,k3,k4.setCells _ us h1⟩,by simpa[xP]using k5,by simpa using k6,⟨k7.1,fun e=>k7.2 (by simpa using dF List.length e)⟩,huni,kL ws (i*st+ai) us,?_,fun j u hj=>?_⟩
        ·refine Vs.mono (hE 0) ?_;rw[WZ k8 dz hecl,hec];have e3:(cz es).take (i*st)++setCells e.cells ai bs++(cz es).drop (i*st+st)=setCells (cz es) (i*st+ai) bs:=by
          have hfl:=pF k8;apply Br;intro j;have gen:∀(bs0:List AV)(cs0:List AV)(kI:Nat),cs0.length=st->kI+bs0.length<=st->((cz es).take (i*st)++setCells cs0 kI bs0++(cz es).drop (i*st+st))=setCells ((cz es).take (i*st)++cs0++(cz es).drop (i*st+st)) (i*st+kI) bs0:=by
           intro bs0;induction bs0 with
           |nil=>intro cs0 kI _ _;rfl
           |cons x bs0 ih=>
            intro cs0 kI hc0 ho0;simp only[fF]at ho0;simp only[setCells];rw[ih (cs0.set kI x) (kI+1) (by simpa using hc0) (by omega)];congr 1;rw[List.set_append_left _ _ (by simp;omega),List.set_append_right _ _ (by simp;omega)];congr 3;simp;omega
          rw[gen bs e.cells ai dx (by omega)];congr 2;rw[M4 k8 dz,zR,←Qh,Gb,Gb]
         rw[e3];exact Vs.setCells hv _ k9
        ·rw[List.getElem?_toArray];by_cases c1:j<i*st+ai
         ·rw[EQ _ _ _ _ c1]at hj;rw[EQ _ _ _ _ (by omega),mR];exact k10 j u hj
         ·by_cases c2:i*st+ai+us.length<=j
          ·rw[Ms _ _ _ _ c2]at hj;rw[Ms _ _ _ _ (by omega),mR];exact k10 j u hj
          ·obtain⟨m,rfl⟩:∃m,j=i*st+ai+m:=⟨j-(i*st+ai),by omega⟩
           rw[Gq _ _ _ _ (by omega) (by omega)]at hj;rw[show o'+(i*st+ai+m)=o'+i*st+ai+m by omega,Gq _ _ _ _ (by simp;omega) (by omega)];exact hj
       ·by_cases hji:i=j
        ·subst hji;rw[zO hi]at hj;cases hj;exact⟨e,dz,by rw[dx,hecl]⟩
        ·rw[tZ hji]at hj;exact⟨x,hj,rfl⟩
       ·have:st'=st:=(hst' e (jm dz)).symm.trans dx;subst this;exact huni x hx
      ·cases he
    ·cases he
   ·cases he
 |_=>simp at he
theorem zbE{ae:Nat}(h:Rel T vs N g w σ tm){o:Own}{p:AV}{v:Value}(hp:AVR T g w σ tm o p v){bs:List AV}{us:List Value}(hv:Vs T g w bs us)(h1:∀u∈us,u.oneCell'=true)
  {σ':St} (he:wr σ ae p bs=some σ') :
  ∃b ai aI,v=.pointer (some ⟨b,ai,none⟩)∧blk w b aI∧ai+us.length<=aI.size∧Ext ae g w g (w.setCells b ai us)∧Rel T vs N g (w.setCells b ai us) σ' tm:=by
 cases p with
 |tptr ty n id ai=>exact zbD (o:=o) (p:=.ptr id ai) h (by simp) (V.tptr_ptr hp) hv h1 he
 |_=>exact zbD h (by simp) hp hv h1 he
end
end Go.Ak
namespace Go.Ak
def OpOKr(T:Tr)(res:Result Next)(R:Value->World->Prop)(Pn:Value->World->Prop):Prop:=
 match res with
 | .ok (.value v) w'=>R v w'
 | .ok .skip w'=>R undef w'
 | .ok (.enter f args) w'=>Calls T.P f args w' fun e w''=>match e with
  | .returned v=>R v w''
  | .panicked ch=> ∃v,ch=[{ v:=v,recovered:=false }]∧Pn v w''
  | .outgrown=>False
 | .halt (.panic v) w'=>Pn v w'
 |_=>False
def OpPost(T:Tr)(ae:Nat)(vs:List Nat)(N:Nat)(g:Gh)(w:World)(tm:Array Value)(r:OpR)(v:Value)(w':World):Prop:=
 ∃a σ' g',r=.ok a σ'∧Ext ae g w g' w'∧Rel T vs N g' w' σ' tm∧AVR T g' w' σ' tm .res a v
def jY(T:Tr)(ae:Nat)(vs:List Nat)(N:Nat)(g:Gh)(w:World)(tm:Array Value)(r:OpR)(v:Value)(w':World):Prop:=
 ∃a σ' g',r=.pan a σ'∧Ext ae g w g' w'∧Rel T vs N g' w' σ' tm∧V T g' w' a v
section
variable {T:Tr} {ae:Nat} {vs:List Nat} {N:Nat} {g:Gh} {w:World} {σ:St} {tm:Array Value} {ds:List Deferred} {o:Oper} {r:OpR}
theorem Ww{res:Result Next}{v:Value}{a:AV}(dA:res=.ok (.value v) w)(h:Rel T vs N g w σ tm)(hr:r=.ok a σ)(ha:AVR T g w σ tm .res a v):
  OpOKr T res (OpPost T ae vs N g w tm r) (jY T ae vs N g w tm r):=by
 rw[dA];exact⟨a, σ,g,hr,.refl _ _ _,h,ha⟩
theorem qL{res:Result Next}{v:Value}{a:AV}{σ':St}{g':Gh}{w':World}(dA:res=.ok (.value v) w')(hr:r=.ok a σ')(he:Ext ae g w g' w')(h:Rel T vs N g' w' σ' tm)(ha:AVR T g' w' σ' tm .res a v):
  OpOKr T res (OpPost T ae vs N g w tm r) (jY T ae vs N g w tm r):=by
 rw[dA];exact⟨a, σ',g',hr,he,h,ha⟩
def iW(T:Tr)(ae:Nat)(vs:List Nat)(N:Nat)(g:Gh)(w:World)(tm:Array Value)(s:Sem Next)(r:OpR):Prop:=
 ∃v,(∀w',s.run T.P w'=.ok (.value v) w')∧OpPost T ae vs N g w tm r v w
def OpAt(T:Tr)(ae:Nat)(vs:List Nat)(N:Nat)(g:Gh)(w:World)(tm:Array Value)(s:Sem Next)(r:OpR):Prop:=
 ∃v,s.run T.P w=.ok (.value v) w∧OpPost T ae vs N g w tm r v w
theorem OpAt.ok{s:Sem Next}(h:OpAt T ae vs N g w tm s r):OpOKr T (s.run T.P w) (OpPost T ae vs N g w tm r) (jY T ae vs N g w tm r):=by
 obtain⟨v,h1,h2⟩:=h;rw[h1];exact h2
theorem ok_at{s:Sem Next}{v:Value}{a:AV}(dA:s.run T.P w=.ok (.value v) w)(h:Rel T vs N g w σ tm)(hr:r=.ok a σ)(ha:AVR T g w σ tm .res a v):OpAt T ae vs N g w tm s r:=
 ⟨v,dA,a, σ,g,hr,.refl _ _ _,h,ha⟩
theorem lg{s:Sem Next}{v:Value}{a:AV}(dA:∀w',s.run T.P w'=.ok (.value v) w')(h:Rel T vs N g w σ tm)(hr:r=.ok a σ)(ha:AVR T g w σ tm .res a v):iW T ae vs N g w tm s r:=
 ⟨v,dA,a, σ,g,hr,.refl _ _ _,h,ha⟩
theorem Ae{s:Sem Next}{v:Value}{a:AV}{σ':St}{g':Gh}(dA:∀w',s.run T.P w'=.ok (.value v) w')(hr:r=.ok a σ')(he:Ext ae g w g' w)(h:Rel T vs N g' w σ' tm)(ha:AVR T g' w σ' tm .res a v):iW T ae vs N g w tm s r:=
 ⟨v,dA,a, σ',g',hr,he,h,ha⟩
theorem zde(h:Rel T vs N g w σ tm){x:Operand}{y:Opd}(hc:bE T vs N x y=true)(hy:∀u,y ≠ .l u):qb (dZ σ y)=true∨V T g w (dZ σ y) ((Act.mk tm ds).eval x):=by
 have hr:=lS (ds:=ds) h hc;cases y with
 |l u=>exact absurd rfl (hy u)
 |c a=>
  right;simp only[dZ]at hr ⊢;cases x with
  |const v=>exact Xx (T:=T) (g:=g) (w:=w) (a:=a) (v:=v) (by cases a<;>exact hc)
  |func f=>
   cases a with
   |fn gg l=>
    cases l with
    |nil=>
     have:T.fm gg=f:=eq_of_beq hc;subst this;exact .fn gg [] [] .nil
    |cons=>simp[bE]at hc
   |_=>simp[bE]at hc
  |_=>simp[bE]at hc
 |v t=>
  simp only[dZ]at hr ⊢;cases ha:bB σ.env t with
  |box cs=>left;rfl
  |slc p es=>cases p with
   |ro=>right;rw[ha]at hr;exact hr
   |own=>left;rfl
   |app=>left;rfl
  |loc a b c=>left;rfl
  |eloc a b c d=>left;rfl
  |ref a b c d=>left;rfl
  |_=>right;rw[ha]at hr;exact hr
theorem zdg(h:Rel T vs N g w σ tm){x:Operand}{y:Opd}{call:CallF}(ho:o.op=.move x∨o.op=.assign x)(hc:bE T vs N x y=true)(he:cB call ae (.mov y) σ=some r):
  iW T ae vs N g w tm (execOp (Act.mk tm ds).eval o) r:=by
 have dA:∀w,(execOp (Act.mk tm ds).eval o).run T.P w=.ok (.value ((Act.mk tm ds).eval x)) w:=fun w=>by
  rcases ho with ho|ho<;>simp[execOp,ho]
 cases y with
 |l u=>
  simp only[cB]at he;have hr:=lS (ds:=ds) h hc;simp only[dZ,JB]at hr;cases ha:bB σ.lenv u with
  |slc p es=>
   rw[ha]at he hr;cases p with
   |ro=>simp only[aD]at he;exact lg dA h he.symm hr
   |own=>
    simp only[aD]at he;have ht:take σ (.l u)=some (.slc .own es,{ σ with lenv:=(u,.undef)::σ.lenv }):=by simp[take,dZ,ha]
    obtain⟨g',e1,e2,e3,_⟩:=Jn (ds:=ds) (ae:=ae) h hc ht;exact Ae dA he.symm e1 e2 (.of_SV e3)
   |app=>
    simp only[aD]at he;have ht:take σ (.l u)=some (.slc .app es,{ σ with lenv:=(u,.undef)::σ.lenv }):=by simp[take,dZ,ha]
    obtain⟨g',e1,e2,e3,_⟩:=Jn (ds:=ds) (ae:=ae) h hc ht;exact Ae dA he.symm e1 e2 (.of_SV e3)
  |box cs=>exact absurd ha (h.nobox u cs)
  |_=>rw[ha]at he hr;simp only[aD]at he;exact lg dA h he.symm hr
 |v t=>
  simp only[cB,aD]at he;refine lg dA h he.symm ?_;rcases zde (ds:=ds) h hc (by simp)with h1|h1
  ·exact(lS (ds:=ds) h hc).ref_of h1
  ·exact .of_V h1
 |c a=>
  simp only[cB,aD]at he;refine lg dA h he.symm ?_;rcases zde (ds:=ds) h hc (by simp)with h1|h1
  ·exact(lS (ds:=ds) h hc).ref_of h1
  ·exact .of_V h1
theorem zdk(h:Rel T vs N g w σ tm){x:Operand}{y:Opd}{d:Nat}{call:CallF}(ho:o.op=.move x∨o.op=.assign x)(hc:bE T vs N x y=true)(he:cB call ae (.asg d y) σ=some r):
  iW T ae vs N g w tm (execOp (Act.mk tm ds).eval o) r:=by
 have dA:∀w,(execOp (Act.mk tm ds).eval o).run T.P w=.ok (.value ((Act.mk tm ds).eval x)) w:=fun w=>by
  rcases ho with ho|ho<;>simp[execOp,ho]
 have tk:∀{a σ'},take σ y=some (a, σ')->r=.ok a σ'->iW T ae vs N g w tm (execOp (Act.mk tm ds).eval o) r:=fun{a σ'} ht hr=>by
  obtain⟨g',e1,e2,e3,_⟩:=Jn (ds:=ds) (ae:=ae) h hc ht;exact Ae dA hr e1 e2 (.of_SV e3)
 have es:∀{a σ'},esc σ y=some (a, σ')->r=.ok a σ'->iW T ae vs N g w tm (execOp (Act.mk tm ds).eval o) r:=fun{a σ'} ht hr=>by
  obtain⟨g',e1,e2,e3,_⟩:=ut (ds:=ds) (ae:=ae) h hc ht;exact Ae dA hr e1 e2 (.of_V e3)
 simp only[cB]at he;split at he
 ·rename_i a σ' hq;simp only[aD]at he;split at hq
  ·rename_i t k lo n je;cases hb:(Nat.beq t d&&Nat.beq lo 0&&Nat.beq (fO σ.mods t) k)with
   |true=>rw[hb]at hq;exact tk hq he.symm
   |false=>rw[hb]at hq;exact es hq he.symm
  ·simp only[aD,eU]at hq;obtain⟨rfl,rfl⟩:=hq;exact lg dA h he.symm (V.undef _)
  ·exact tk hq he.symm
  ·exact es hq he.symm
 ·cases he
theorem zml(h:Rel T vs N g w σ tm){x1 x2 x3:Operand}{y1 y2 y3:Opd}{call:CallF}(ho:o.op=.pick x1 x2 x3)(h1:bE T vs N x1 y1=true)(h2:bE T vs N x2 y2=true)(h3:bE T vs N x3 y3=true)
  (he:cB call ae (.pick y1 y2 y3) σ=some r):iW T ae vs N g w tm (execOp (Act.mk tm ds).eval o) r:=by
 simp only[cB]at he;split at he
 ·rename_i hb;have hv:=MH (ds:=ds) h h1 hb;have dA:∀w,(execOp (Act.mk tm ds).eval o).run T.P w=.ok (.value ((Act.mk tm ds).eval x2)) w:=fun w=>by simp[execOp,ho,hv,asBool]
  split at he
  ·rename_i a σ' hq;simp only[aD]at he;obtain⟨g',e1,e2,e3,_⟩:=ut (ds:=ds) (ae:=ae) h h2 hq;exact Ae dA he.symm e1 e2 (.of_V e3)
  ·cases he
 ·rename_i hb;have hv:=MH (ds:=ds) h h1 hb;have dA:∀w,(execOp (Act.mk tm ds).eval o).run T.P w=.ok (.value ((Act.mk tm ds).eval x3)) w:=fun w=>by simp[execOp,ho,hv,asBool]
  split at he
  ·rename_i a σ' hq;simp only[aD]at he;obtain⟨g',e1,e2,e3,_⟩:=ut (ds:=ds) (ae:=ae) h h3 hq;exact Ae dA he.symm e1 e2 (.of_V e3)
  ·cases he
 ·cases he
theorem Ai{a b:Nat}(h:Nat.blt a b=true):a<b:=by rw[Bn]at h;exact h
theorem kv{y:Opd}{a:AV}(h:l8 σ y=a)(ha:a ≠ .undef):dZ σ y=a∧live σ a=true:=by
 unfold l8 at h;cases hl:live σ (dZ σ y)with
 |true=>rw[hl]at h;simp only[bA]at h;exact⟨h,by rw[←h];exact hl⟩
 |false=>rw[hl]at h;simp only[fq]at h;exact absurd h.symm ha
theorem WB{t k ai:Nat}{own:Own}{v:Value}(hl:live σ (.loc t k ai)=true)(hv:AVR T g w σ tm own (.loc t k ai) v):∃b,tm.getD t undef=.pointer (some ⟨b,0,none⟩)∧v=.pointer (some ⟨b,ai,none⟩):=by
 simp only[live,aU]at hl;obtain⟨h1,h2⟩:=hl;split at h2
 ·rename_i cs aH;exact hv.2 (dH h1).symm cs aH
 ·cases h2
theorem WC{t k i ai:Nat}{own:Own}{v:Value}(hl:live σ (.eloc t k i ai)=true)(hv:AVR T g w σ tm own (.eloc t k i ai) v):∃p es e b o' n cap,bB σ.env t=.slc p es∧es[i]?=some e∧
  tm.getD t undef=.slice (some ⟨b,o',none⟩) n cap∧v=.pointer (some ⟨b,o'+i*e.cells.length+ai,none⟩):=by
 simp only[live,aU]at hl;obtain⟨h1,h2⟩:=hl;split at h2
 ·rename_i p es dz;have hi:i<es.length:=Ai h2;obtain⟨b,o',n,cap,h3,h4⟩:=hv.2 (dH h1).symm p es es[i] dz (gG hi);exact⟨p,es,_,b,o',n,cap,dz,gG hi,h3,h4⟩
 ·cases h2
theorem Q4{t k lo n:Nat}{own:Own}{v:Value}(hl:live σ (.ref t k lo n)=true)(hv:AVR T g w σ tm own (.ref t k lo n) v):k=fO σ.mods t∧∃p es,bB σ.env t=.slc p es∧lo+n<=es.length∧
   ∃b o' cap st x iN,(∀e∈es,e.cells.length=st)∧tm.getD t undef=.slice (some ⟨b,o',none⟩) es.length cap∧v=.slice (some ⟨b,x,none⟩) n iN∧(n=0∨x=o'+lo*st)∧(lo=0->x=o'∧iN=cap)∧n<=iN:=by
 simp only[live,aU]at hl;obtain⟨h1,h2⟩:=hl;split at h2
 ·rename_i p es dz;exact⟨(dH h1).symm,p,es,dz,hv.2 (dH h1).symm p es dz⟩
 ·cases h2
theorem zmn(h:Rel T vs N g w σ tm){x:Operand}{y:Opd}{call:CallF}(ho:o.op=.nilCheck x)(hc:bE T vs N x y=true)(he:cB call ae (.nilchk y) σ=some r):
  iW T ae vs N g w tm (execOp (Act.mk tm ds).eval o) r:=by
 have hr:=lS (ds:=ds) h hc;have fin:∀{a:AV}{p:Addr},dZ σ y=a->(Act.mk tm ds).eval x=.pointer (some p)->some (OpR.ok a σ)=some r->(qb a=true∨V T g w a ((Act.mk tm ds).eval x))->iW T ae vs N g w tm (execOp (Act.mk tm ds).eval o) r:=fun{a p} ha hp gF hv=>by
  have dA:∀w,(execOp (Act.mk tm ds).eval o).run T.P w=.ok (.value ((Act.mk tm ds).eval x)) w:=fun w=>by simp[execOp,ho,hp]
  simp only[aD]at gF;rw[ha]at hr;refine lg dA h gF.symm ?_;rcases hv with h1|h1
  ·exact hr.ref_of h1
  ·exact .of_V h1
 simp only[cB]at he;split at he
 ·rename_i id ai hL;have ha:=(kv hL (by simp)).1;have h1:V T g w (.ptr id ai) ((Act.mk tm ds).eval x):=by rw[ha]at hr;exact hr
  obtain⟨b,_,hb⟩:=h1.ptr_inv;exact fin ha hb he (.inr h1)
 ·rename_i ty n id ai hL;have ha:=(kv hL (by simp)).1;have h1:V T g w (.tptr ty n id ai) ((Act.mk tm ds).eval x):=by rw[ha]at hr;exact hr
  obtain⟨b,_,_,hb⟩:=h1.tptr_inv;exact fin ha hb he (.inr h1)
 ·rename_i cs ai hL;have ha:=(kv hL (by simp)).1;have h1:V T g w (.rptr cs ai) ((Act.mk tm ds).eval x):=by rw[ha]at hr;exact hr
  obtain⟨b,_,_,_,_,hb⟩:=h1.rptr_inv;exact fin ha hb he (.inr h1)
 ·rename_i t k ai hL;obtain⟨ha,hlv⟩:=kv hL (by simp);have gF:=hr;rw[ha]at gF;obtain⟨b,_,hb⟩:=WB hlv gF;exact fin ha hb he (.inl rfl)
 ·rename_i t k i ai hL;obtain⟨ha,hlv⟩:=kv hL (by simp);have gF:=hr;rw[ha]at gF;obtain⟨_,_,_,b,_,_,_,_,_,_,hb⟩:=WC hlv gF;exact fin ha hb he (.inl rfl)
 ·cases he
end
end Go.Ak
namespace Go.Ak
def Xw(P:Program)(t f ai:Nat):Bool:=
 match P.underlying t with
 |some (.struct fs)=>match fs[f]? with
  |some F=>F.offset==ai&&(match P.info? F.type with|some i=>i.size != 0|none=>false)
  |none=>false
 |_=>false
def nR(P:Program)(e sz:Nat):Bool:=
 match P.info? e with
 |some i=>i.size==step sz&&(match P.underlying e with
  |some (.struct _)|some (.array _ _)=>sz != 0
  |some _=>sz==0
  |none=>false)
 |none=>false
def sU(P:Program)(t:Nat):Option Nat->Bool
 |none=>nR P t 0
 |some n=>n != 0&&nR P t n
section
variable {T:Tr} {ae:Nat} {vs:List Nat} {N:Nat} {g:Gh} {w:World} {σ:St} {tm:Array Value} {ds:List Deferred} {o:Oper} {r:OpR}
theorem Qw(sz:Nat):0<step sz:=by
 unfold step;cases h:Nat.beq sz 0 with
 |true=>simp
 |false=>simp;have:=LC h;omega
theorem VQ{sz:Nat}(h:sz≠0):step sz=sz:=by
 unfold step;cases h':Nat.beq sz 0 with
 |true=>exact absurd (dH h') h
 |false=>simp
theorem yg{P:Program}{e sz:Nat}(h:nR P e sz=true):∃i,P.info? e=some i∧i.size=step sz:=by
 unfold nR at h;split at h
 ·rename_i i hi;simp only[aU,gM]at h;exact⟨i,hi,h.1⟩
 ·cases h
theorem zqF{P:Program}{e sz:Nat}(h:nR P e sz=true):∃d,P.underlying e=some d∧((sz=0∧(∀fs,d ≠ .struct fs)∧∀n t,d ≠ .array n t)∨(sz≠0∧((∃fs,d=.struct fs)∨∃n t,d=.array n t))):=by
 unfold nR at h;split at h
 ·simp only[aU]at h;obtain⟨_,h⟩:=h;split at h
  ·rename_i fs hu;exact⟨_,hu,.inr ⟨by simpa using h,.inl ⟨fs,rfl⟩⟩⟩
  ·rename_i n t hu;exact⟨_,hu,.inr ⟨by simpa using h,.inr ⟨n,t,rfl⟩⟩⟩
  ·rename_i d h1 h2 hu;refine⟨d,hu,.inl ⟨by simpa using h,fun fs e=>?_,fun n t e=>?_⟩⟩
   ·exact h1 fs e
   ·exact h2 n t e
  ·cases h
 ·cases h
theorem pE{P:Program}{e:Nat}{i:TypeInfo}(h:P.info? e=some i)(w:World):(sizeOf e).run P w=.ok i.size w:=by simp[sizeOf,typeInfo,h]
theorem Ju{P:Program}{e sz:Nat}(h:nR P e sz=true)(w:World):(isAgg e).run P w=.ok (sz != 0) w:=by
 obtain⟨d,hu,h1⟩:=zqF h;rcases h1 with⟨h0,h1,h2⟩|⟨h0,⟨fs,rfl⟩|⟨n,t,rfl⟩⟩
 ·subst h0;cases d<;>first|(simp[isAgg,underlying,hu];done)|(exact absurd rfl (h1 _))|(exact absurd rfl (h2 _ _))
 ·simp[isAgg,underlying,hu,h0]
 ·simp[isAgg,underlying,hu,h0]
theorem zmv(h:Rel T vs N g w σ tm){x:Operand}{y:Opd}{t f ai:Nat}{call:CallF}(ho:o.op=.fieldAddr t x f)(hc:bE T vs N x y=true)(hf:Xw T.P t f ai=true)(he:cB call ae (.faddr ai y) σ=some r):
  iW T ae vs N g w tm (execOp (Act.mk tm ds).eval o) r:=by
 have hr:=lS (ds:=ds) h hc;unfold Xw at hf;split at hf
 ·rename_i fs hu;split at hf
  ·rename_i F hF;simp only[aU,gM]at hf;obtain⟨h1,h2⟩:=hf;split at h2
   ·rename_i i hi;have h3:i.size≠0:=by simpa using h2
    have dw:∀{b p:Nat}{a:AV},(Act.mk tm ds).eval x=.pointer (some ⟨b,p,none⟩)->some (OpR.ok a σ)=some r->AVR T g w σ tm .res a (.pointer (some ⟨b,p+ai,none⟩))->
      iW T ae vs N g w tm (execOp (Act.mk tm ds).eval o) r:=fun{b p a} hp gF hv=>by
     simp only[aD]at gF;refine lg ?_ h gF.symm hv;simp[execOp,ho,hp,Instr.fieldAt,underlying,hu,hF,Instr.sureAddr,fieldPlace,pE hi,h3,h1,Addr.add_lit]
    simp only[cB]at he;split at he
    ·rename_i id p hL;rw[(kv hL (by simp)).1]at hr;obtain⟨b,hb,hv⟩:=V.ptr_inv hr;exact dw hv he (.of_V (.ptr id (p+ai) b hb))
    ·rename_i ty n id p hL;rw[(kv hL (by simp)).1]at hr;obtain⟨b,hb,hsh,hv⟩:=V.tptr_inv hr;exact dw hv he (.of_V (.tptr ty n id (p+ai) b hb hsh))
    ·rename_i cs p hL;rw[(kv hL (by simp)).1]at hr;obtain⟨b,o',us,k1,k2,hv⟩:=V.rptr_inv hr;exact dw hv he (.of_V (by rw[tX];exact .rptr cs (p+ai) b o' us k1 k2))
    ·rename_i t' k p hL;obtain⟨ha,hl⟩:=kv hL (by simp);rw[ha]at hr;obtain⟨b,hb,hv⟩:=WB hl hr;refine dw hv he ⟨hr.1,fun hk cs aH=>⟨b,hb,rfl⟩⟩
    ·rename_i t' k j p hL;obtain⟨ha,hl⟩:=kv hL (by simp);rw[ha]at hr;obtain⟨pp,es,e,b,o',n,cap,k1,k2,k3,hv⟩:=WC hl hr;refine dw hv he ⟨hr.1,fun hk p' es' e' he' aK=>?_⟩;rw[k1]at he';cases he';rw[k2]at aK;cases aK;exact⟨b,o',n,cap,k3,by rw[tX]⟩
    ·cases he
   ·cases h2
  ·cases hf
 ·cases hf
theorem zmO(h:Rel T vs N g w σ tm){x xi:Operand}{y yi:Opd}{t n sz e:Nat}{call:CallF}(ho:o.op=.indexAddr t x xi)(hc:bE T vs N x y=true)(hi:bE T vs N xi yi=true)
  (hu:T.P.underlying t=some (.array n e)) (fu:nR T.P e sz=true) (he:cB call ae (.aaddr n sz y yi) σ=some r) :
  iW T ae vs N g w tm (execOp (Act.mk tm ds).eval o) r:=by
 have hr:=lS (ds:=ds) h hc;obtain⟨inf,hinf,rO⟩:=yg fu;simp only[cB]at he;split at he
 ·rename_i i hn;obtain⟨kk,hk⟩:=Gu (ds:=ds) h hi hn;cases hb:Nat.blt i n with
  |false=>simp[hb]at he
  |true=>
   have hin:=Ai hb;simp only[hb,bA]at he;have dw:∀{b p:Nat}{a:AV},(Act.mk tm ds).eval x=.pointer (some ⟨b,p,none⟩)->some (OpR.ok a σ)=some r->AVR T g w σ tm .res a (.pointer (some ⟨b,p+i*step sz,none⟩))->
     iW T ae vs N g w tm (execOp (Act.mk tm ds).eval o) r:=fun{b p a} hp gF hv=>by
    simp only[aD]at gF;refine lg ?_ h gF.symm hv;simp[execOp,ho,hp,hk,Instr.indexAt,asIntOf,underlying,hu,Instr.sureAddr,pE hinf,rO,hin,Addr.add_lit]
   split at he
   ·rename_i id p hL;rw[(kv hL (by simp)).1]at hr;obtain⟨b,hb,hv⟩:=V.ptr_inv hr;exact dw hv he (.of_V (.ptr id _ b hb))
   ·rename_i cs p hL;rw[(kv hL (by simp)).1]at hr;obtain⟨b,o',us,k1,k2,hv⟩:=V.rptr_inv hr;exact dw hv he (.of_V (by rw[tX];exact .rptr cs _ b o' us k1 k2))
   ·rename_i t' k p hL;obtain⟨ha,hl⟩:=kv hL (by simp);rw[ha]at hr;obtain⟨b,hb,hv⟩:=WB hl hr;refine dw hv he ⟨hr.1,fun hk cs aH=>⟨b,hb,rfl⟩⟩
   ·rename_i t' k j p hL;obtain⟨ha,hl⟩:=kv hL (by simp);rw[ha]at hr;obtain⟨pp,es,e,b,o',n,cap,k1,k2,k3,hv⟩:=WC hl hr;refine dw hv he ⟨hr.1,fun hk p' es' e' he' aK=>?_⟩;rw[k1]at he';cases he';rw[k2]at aK;cases aK;exact⟨b,o',n,cap,k3,by rw[tX]⟩
   ·cases he
 ·cases he
theorem zmt(h:Rel T vs N g w σ tm){x xi:Operand}{y yi:Opd}{t sz e:Nat}{call:CallF}(ho:o.op=.indexAddr t x xi)(hc:bE T vs N x y=true)(hi:bE T vs N xi yi=true)
  (hu:T.P.underlying t=some (.slice e)) (fu:nR T.P e sz=true) (he:cB call ae (.iaddr sz y yi) σ=some r) :
  iW T ae vs N g w tm (execOp (Act.mk tm ds).eval o) r:=by
 have hr:=lS (ds:=ds) h hc;obtain⟨inf,hinf,rO⟩:=yg fu;simp only[cB]at he;split at he
 ·rename_i i hn;obtain⟨kk,hk⟩:=Gu (ds:=ds) h hi hn;have dw:∀{b p n cap:Nat}{a:AV},i<n->(Act.mk tm ds).eval x=.slice (some ⟨b,p,none⟩) n cap->some (OpR.ok a σ)=some r->AVR T g w σ tm .res a (.pointer (some ⟨b,p+i*step sz,none⟩))->
    iW T ae vs N g w tm (execOp (Act.mk tm ds).eval o) r:=fun{b p n cap a} hin hp gF hv=>by
   simp only[aD]at gF;refine lg ?_ h gF.symm hv;simp[execOp,ho,hp,hk,Instr.indexAt,asIntOf,underlying,hu,pE hinf,rO,hin,Addr.add_lit]
  split at he
  ·rename_i es hL;rw[(kv hL (by simp)).1]at hr;obtain⟨_,b,o',us,st,cap,k1,k2,k3,k4,k5,hv⟩:=V.slc_inv hr;split at he
   ·rename_i e' hei;cases hb:Nat.beq e'.cells.length (step sz)with
    |false=>simp[hb]at he
    |true=>
     simp only[hb,bA]at he;have dx:st=step sz:=(k3 e' (jm hei)).symm.trans (dH hb);have aB:i<es.length:=(eD.1 hei).1;refine dw aB hv he (.of_V ?_);have hv2:Vs T g w e'.cells ((us.drop (i*st)).take st):=by rw[M4 k3 hei];exact(k2.drop _).take _
     have:=V.rptr (T:=T) e'.cells 0 b (o'+i*st) _ (k1.sub (i*st) st) hv2;rwa[dx,qx]at this
   ·cases he
  ·rename_i t' k lo n hL;obtain⟨ha,hl⟩:=kv hL (by simp);rw[ha]at hr;obtain⟨hk',p,es,dz,cu,b,o',cap,st,xx,iN,j1,j2,hv,j4,j5,j6⟩:=Q4 hl hr;cases hb:Nat.blt i n with
   |false=>simp[hb]at he
   |true=>
    have hin:=Ai hb;simp only[hb,bA]at he;rw[dz]at he;simp only at he;split at he
    ·rename_i e' hei;cases jG:Nat.beq e'.cells.length (step sz)with
     |false=>simp[jG]at he
     |true=>
      simp only[jG,bA]at he;have dx:st=step sz:=(j1 e' (jm hei)).symm.trans (dH jG);have hxx:xx=o'+lo*st:=by rcases j4 with j4|j4;(· omega);exact j4
      refine dw hin hv he ⟨hr.1,fun _ p' es' e'' he' aK=>?_⟩;rw[dz]at he';cases he';rw[hei]at aK;cases aK;exact⟨b,o',_,cap,j2,by rw[dH jG,hxx,dx,tV,qx,tX]⟩
    ·cases he
  ·rename_i st id ai n hL;rw[(kv hL (by simp)).1]at hr;obtain⟨b,cap,ty,m,k1,k2,k3,k4,k5,hv⟩:=V.msl_inv hr;cases hb:(Nat.blt i n&&Nat.beq st (step sz))with
   |false=>simp[hb]at he
   |true=>
    simp only[hb,bA]at he;simp only[aU]at hb;have dx:=dH hb.2;exact dw (Ai hb.1) hv he (.of_V (by rw[←dx];exact .ptr id _ b k1))
  ·cases he
 ·cases he
end
end Go.Ak
namespace Go.Ak
section
variable {T:Tr} {ae:Nat} {vs:List Nat} {N:Nat} {g:Gh} {w:World} {σ:St} {tm:Array Value} {ds:List Deferred} {o:Oper} {r:OpR}
theorem Rw{P:Program}{t:Nat}(h:sU P t none=true):nR P t 0=true:=h
theorem Xt{P:Program}{t n:Nat}(h:sU P t (some n)=true):n≠0∧nR P t n=true:=by
 simpa[sU]using h
def BK(n:Option Nat)(us:List Value):Value:=match n with|none=>us.getD 0 undef|some _=>.agg us.toArray
theorem zcx{P:Program}{w:World}{t:Nat}{n:Option Nat}(hn:sU P t n=true){b ai:Nat}{us:List Value}(hl:us.length=kW n)
  (hc:∀(k:Nat)(u:Value),us[k]?=some u->w.cell? ⟨b,ai+k,none⟩=some u) :
  (loadVar t ⟨b,ai,none⟩).run P w=.ok (BK n us) w:=by
 cases n with
 |none=>
  match us,hl with
  | [u],_=>
   have h0:=hc 0 u rfl;simp only[qx]at h0;simp[loadVar,Ju (Rw hn),h0,BK]
 |some n=>
  obtain⟨h0,h1⟩:=Xt hn;obtain⟨i,hi,hs⟩:=yg h1;rw[VQ h0]at hs;simp only[kW]at hl;have hlc:=run_loadCells_list (P:=P) w ⟨b,ai,none⟩ us (fun j v hv=>by rw[Addr.add_lit];exact hc j v hv);rw[hl]at hlc;simp[loadVar,Ju h1,h0,pE hi,hs,hlc,BK]
theorem QT{n:Option Nat}{cs:List AV}{us:List Value}{a:AV}(h:pack n cs=some a)(hv:Vs T g w cs us)(h1:∀u∈us,u.oneCell'=true):
  V T g w a (BK n us):=by
 cases n with
 |none=>
  have:=zdm h;subst this;cases hv with
  |cons _ v _ _ hv hvs=>cases hvs;exact hv
 |some n=>
  simp only[pack,aD]at h;subst h;exact .agg cs us hv h1
theorem zdh(h:Rel T vs N g w σ tm){x:Operand}{y:Opd}{t:Nat}{n:Option Nat}{call:CallF}(ho:o.op=.load t x)(hc:bE T vs N x y=true)(hn:sU T.P t n=true)(he:cB call ae (.load n y) σ=some r):
  OpAt T ae vs N g w tm (execOp (Act.mk tm ds).eval o) r:=by
 simp only[cB]at he;split at he
 ·rename_i cs hrd;split at he
  ·rename_i a hp;simp only[aD]at he;obtain⟨b,ai,us,hv,hl,h1,h2⟩:=zcU h (lS (ds:=ds) h hc) hrd;have dA:=zcx (w:=w) hn hl (fun k u hk=>(h2 k u hk).1);refine ok_at ?_ h he.symm (.of_V (QT hp h1 fun u hu=>?_))
   ·simp only[execOp,ho,Instr.loadAt,hv,Instr.sureAddr,Sem.run_bind,Sem.run_pure,Result.andThen_ok,dA]
   ·obtain⟨k,hk⟩:=Qf hu;exact(h2 k u hk).2
  ·cases he
 ·cases he
theorem zmj(h:Rel T vs N g w σ tm){x xi:Operand}{y yi:Opd}{t:Nat}{call:CallF}(ho:o.op=.index t x xi)(hc:bE T vs N x y=true)(hi:bE T vs N xi yi=true)(hu:T.P.underlying t=some .string)
  (he:cB call ae (.sidx y yi) σ=some r):iW T ae vs N g w tm (execOp (Act.mk tm ds).eval o) r:=by
 simp only[cB]at he;split at he
 ·rename_i s i hs hn;have hv:=JC (ds:=ds) h hc hs;obtain⟨kk,hk⟩:=Gu (ds:=ds) h hi hn;split at he
  ·rename_i b hb;simp only[aD]at he;refine lg ?_ h he.symm (.of_V (.int .u8 b.toNat));have aB:i<s.length:=(eD.1 hb).1;have ky:(⟨s.toArray⟩:ByteArray)[i]?=some b:=by
    have h1:i<(⟨s.toArray⟩:ByteArray).size:=by simpa[ByteArray.size]using aB
    rw[getElem?_pos (⟨s.toArray⟩:ByteArray) i h1];have h2:=(eD.1 hb).2;have:(⟨s.toArray⟩:ByteArray)[i]=s[i]:=rfl;rw[this,h2]
   simp[execOp,ho,hv,hk,Instr.index,asIntOf,underlying,hu,ky]
  ·cases he
 ·cases he
theorem zmN(h:Rel T vs N g w σ tm){x xi:Operand}{y yi:Opd}{t n e:Nat}{sz:Option Nat}{call:CallF}(ho:o.op=.index t x xi)(hc:bE T vs N x y=true)(hi:bE T vs N xi yi=true)(hu:T.P.underlying t=some (.array n e))
  (fu:sU T.P e sz=true) (he:cB call ae (.aidx n sz y yi) σ=some r):iW T ae vs N g w tm (execOp (Act.mk tm ds).eval o) r:=by
 simp only[cB]at he;split at he
 ·rename_i cs i ha hn;have hv:=BQ (ds:=ds) h hc ha rfl;obtain⟨us,h1,h2,hx⟩:=hv.agg_inv;obtain⟨kk,hk⟩:=Gu (ds:=ds) h hi hn;cases hb:Nat.blt i n with
  |false=>simp[hb]at he
  |true=>
   have hin:=Ai hb;simp only[hb,bA]at he;split at he
   ·rename_i l hl;split at he
    ·rename_i a hp;simp only[aD]at he;obtain⟨j1,j2⟩:=EO hl h1;have fJ:∀u∈(us.drop (i*kW sz)).take (kW sz),u.oneCell'=true:=fun u hu=>h2 u (EL (vU hu));have hpk:=QT hp j1 fJ;refine lg ?_ h he.symm (.of_V hpk);obtain⟨cu,_⟩:=Mc hl;rw[h1.length]at cu;cases sz with
     |none=>
      have hsz':=Rw fu;obtain⟨inf,hinf,rO⟩:=yg hsz';simp only[kW,F9]at cu ⊢;have hs1:inf.size=1:=by rw[rO];rfl
      have aB:i<us.length:=by omega
      simp[execOp,ho,hx,hk,Instr.index,asIntOf,underlying,hu,hin,pE hinf,hs1,part,Ju hsz',aB,BK,List.getD]
     |some m=>
      obtain⟨h0,hsz'⟩:=Xt fu;obtain⟨inf,hinf,rO⟩:=yg hsz';rw[VQ h0]at rO;simp only[kW]at cu ⊢;simp[execOp,ho,hx,hk,Instr.index,asIntOf,underlying,hu,hin,pE hinf,rO,part,Ju hsz',h0,BK,List.take_drop]
    ·cases he
   ·cases he
 ·cases he
theorem zmw(h:Rel T vs N g w σ tm){x:Operand}{y:Opd}{n:Nat}{call:CallF}(ho:o.op=.extract x n)(hc:bE T vs N x y=true)(he:cB call ae (.ext n y) σ=some r):
  iW T ae vs N g w tm (execOp (Act.mk tm ds).eval o) r:=by
 simp only[cB]at he;split at he
 ·rename_i us ha;have hv:=BQ (ds:=ds) h hc ha rfl;obtain⟨xs,h1,hx⟩:=hv.tup_inv;split at he
  ·rename_i a hn;simp only[aD]at he;obtain⟨v,hv1,hv2⟩:=h1.get n a hn;refine lg (v:=v) ?_ h he.symm (.of_V hv2);simp[execOp,ho,hx,Instr.extract,hv1]
  ·cases he
 ·cases he
theorem zmg(h:Rel T vs N g w σ tm){x:Operand}{y:Opd}{t xt a:Nat}{d:TypeDesc}{call:CallF}(ho:o.op=.typeAssert x xt a true)(hc:bE T vs N x y=true)(ht:T.tm t=a)(hu:T.P.underlying a=some d)(hd:∀ms,d ≠ .interface ms)
  (he:cB call ae (.tassert t y) σ=some r):iW T ae vs N g w tm (execOp (Act.mk tm ds).eval o) r:=by
 simp only[cB]at he;split at he
 ·rename_i u b ha;cases hb:Nat.beq u t with
  |false=>rw[hb]at he;cases he
  |true=>
   rw[hb]at he;have hut:=dH hb;subst hut;simp only[bA,aD]at he;have hv:=BQ (ds:=ds) h hc ha rfl;obtain⟨v,h1,hx⟩:=hv.ifc_inv;refine lg (v:=.tuple #[v,.bool true]) ?_ h he.symm (.of_V (.tup _ [v,.bool true] (.cons _ _ _ _ h1 (.cons _ _ _ _ (.bool true) .nil))));intro w';cases d<;>first|(simp[execOp,ho,hx,Instr.typeAssert,underlying,hu,ht];done)|(exact absurd rfl (hd _))
 ·cases he
theorem zmy(h:Rel T vs N g w σ tm){x:Operand}{y:Opd}{k:IntKind}{s d:Nat}{call:CallF}(ho:o.op=.convert s d x)(hc:bE T vs N x y=true)(hs:(T.P.underlying s).isSome=true)(hd:T.P.underlying d=some (.int k))
  (he:cB call ae (.conv k y) σ=some r):iW T ae vs N g w tm (execOp (Act.mk tm ds).eval o) r:=by
 simp only[cB]at he;split at he
 ·rename_i k' n ha;simp only[aD]at he;have hv:=Ad (ds:=ds) h hc ha;refine lg ?_ h he.symm (.of_V (.int k (k.wrap n)));obtain⟨u,hu⟩:=Qb.1 hs;simp[execOp,ho,hv,convert,underlying,hu,hd,Conv.intToInt]
 ·cases he
theorem zkO{P:Program}{w:World}{op:BinOp}{k:IntKind}{a b:Int}{c:AV}{t:Nat}{x y:Operand}(h:qX op k a b=some c):
  ∃v,(∀w',(do eqGuard op t x y (.int k a) (.int k b);binOp op t (.int k a) (.int k b):Sem Value).run P w'=.ok v w')∧V T g w c v:=by
 cases op<;>simp only[qX]at h
 case quo=>
  cases hb:(b==0)with
  |true=>simp[hb]at h
  |false=>
   simp only[hb,fq,aD]at h;subst h;have:b≠0:=by simpa using hb
   exact⟨_,fun w=>by simp[eqGuard,binOp,Op.intDiv,this],.int _ _⟩
 case rem=>
  cases hb:(b==0)with
  |true=>simp[hb]at h
  |false=>
   simp only[hb,fq,aD]at h;subst h;have:b≠0:=by simpa using hb
   exact⟨_,fun w=>by simp[eqGuard,binOp,Op.intDiv,this],.int _ _⟩
 all_goals first
  |(simp only[aD]at h;subst h;exact⟨_,fun w=>by simp[eqGuard,binOp,Op.intArith,Op.intBits,Op.intCmp];rfl,by first|exact .int _ _|exact .bool _⟩)
  |(cases h)
end
end Go.Ak
namespace Go.Ak
theorem RA:∀(a b:List UInt8),ic a b=(a==b)
 | [],[]=>rfl
 | [],_::_=>rfl
 |_::_,[]=>rfl
 |a::x,b::y=>by
  simp only[ic,RA x y,List.cons_beq_cons];congr 1;cases h:Nat.beq a.toNat b.toNat with
  |true=>have:=si.1 (dH h);subst this;simp
  |false=>
   have:=LC h;symm;rw[beq_eq_false_iff_ne];intro e;subst e;exact this rfl
theorem bytesLess_eq:∀(a b:List UInt8),bytesLess a b=Op.bytesLess a b
 | [],[]=>rfl
 | [],_::_=>rfl
 |_::_,[]=>rfl
 |a::x,b::y=>by
  simp only[bytesLess,Op.bytesLess,bytesLess_eq x y];have h1:Nat.blt a.toNat b.toNat=decide (a<b):=by
   simp only[EE];cases h:Nat.blt a.toNat b.toNat with
   |true=>have:=Ai h;simp[this]
   |false=>
    have:¬a.toNat<b.toNat:=by
     intro h';rw[←Bn]at h';rw[h']at h;cases h
    simp[this]
  have h2:Nat.beq a.toNat b.toNat=(a==b):=by
   cases h:Nat.beq a.toNat b.toNat with
   |true=>have:=si.1 (dH h);subst this;simp
   |false=>
    have:=LC h;symm;rw[beq_eq_false_iff_ne];intro e;subst e;exact this rfl
  rw[h1,h2]
section
variable {T:Tr} {ae:Nat} {vs:List Nat} {N:Nat} {g:Gh} {w:World} {σ:St} {tm:Array Value} {ds:List Deferred} {o:Oper} {r:OpR}
theorem zkN{P:Program}{w:World}{op:BinOp}{a b:List UInt8}{c:AV}{t:Nat}{x y:Operand}(h:iw op a b=some c):
  ∃v,(∀w',(do eqGuard op t x y (.string ⟨a.toArray⟩) (.string ⟨b.toArray⟩);binOp op t (.string ⟨a.toArray⟩) (.string ⟨b.toArray⟩):Sem Value).run P w'=.ok v w')∧V T g w c v:=by
 cases op<;>simp only[iw]at h
 case add=>
  cases hb:Nat.ble (a.length+b.length) 4611686018427387904 with
  |false=>rw[hb]at h;simp at h
  |true=>
   rw[hb]at h;simp only[bA,aD]at h;subst h;have cu:=iy hb;refine⟨.string (⟨a.toArray⟩++⟨b.toArray⟩),fun w=>?_,by rw[ByteArray.mk_append_mk];exact .str _⟩;have:=run_string_add_sum (P:=P) (w:=w) ⟨a.toArray⟩ ⟨b.toArray⟩ (by simp[ByteArray.size];omega);simp[eqGuard,binOp,this]
 all_goals first
  |(simp only[aD]at h;subst h;refine⟨_,fun w=>?_,.bool _⟩;simp only[eqGuard,binOp,Op.stringOp,ByteArray.toList_mk,RA,bytesLess_eq];rfl)
  |(cases h)
theorem zmG(h:Rel T vs N g w σ tm){x1 x2:Operand}{y1 y2:Opd}{op:BinOp}{t ty:Nat}{call:CallF}(ho:o.op=.binOp op t x1 x2 ty)(h1:bE T vs N x1 y1=true)(h2:bE T vs N x2 y2=true)
  (he:cB call ae (.bin op y1 y2) σ=some r):iW T ae vs N g w tm (execOp (Act.mk tm ds).eval o) r:=by
 simp only[cB]at he;split at he
 ·rename_i a ha;simp only[aD]at he;have fin:∀{u1 u2:Value},(Act.mk tm ds).eval x1=u1->(Act.mk tm ds).eval x2=u2->(∃v,(∀w',(do eqGuard op t x1 x2 u1 u2;binOp op t u1 u2:Sem Value).run T.P w'=.ok v w')∧V T g w a v)->
    iW T ae vs N g w tm (execOp (Act.mk tm ds).eval o) r:=fun{u1 u2} e1 e2 hh=>by
   obtain⟨v,hv,hV⟩:=hh;refine lg (v:=v) (fun w'=>?_) h he.symm (.of_V hV);have hv:=hv w';simp only[execOp,ho,e1,e2,Sem.run_bind]at hv ⊢;simp only[hv,Result.andThen_ok,Sem.run_pure]
  unfold yj at ha;split at ha
  ·rename_i k1 a1 k2 a2 e1 e2;have v1:=Ad (ds:=ds) h h1 e1;have v2:=Ad (ds:=ds) h h2 e2;split at ha
   ·cases hb:decide (a2<0)with
    |true=>rw[hb]at ha;simp at ha
    |false=>
     rw[hb]at ha;simp only[fq,aD]at ha;subst ha;have hn:¬a2<0:=by simpa using hb
     refine fin v1 v2 ⟨.int k1 (k1.wrap (a1*2^(min a2.toNat k1.bits))),fun w=>?_,.int _ _⟩;simp[eqGuard,binOp,Op.shift,hn]
   ·cases hb:decide (a2<0)with
    |true=>rw[hb]at ha;simp at ha
    |false=>
     rw[hb]at ha;simp only[fq,aD]at ha;subst ha;have hn:¬a2<0:=by simpa using hb
     refine fin v1 v2 ⟨.int k1 (a1.fdiv (2^(min a2.toNat k1.bits))),fun w=>?_,.int _ _⟩;simp[eqGuard,binOp,Op.shift,hn]
   ·cases hb:decide (k1=k2)with
    |false=>rw[hb]at ha;simp at ha
    |true=>
     rw[hb]at ha;simp only[bA]at ha;have hk:k1=k2:=by simpa using hb
     subst hk;exact fin v1 v2 (zkO ha)
  ·rename_i s1 s2 e1 e2;exact fin (JC (ds:=ds) h h1 e1) (JC (ds:=ds) h h2 e2) (zkN ha)
  ·cases ha
 ·cases he
theorem op_un(h:Rel T vs N g w σ tm){x:Operand}{y:Opd}{op:UnOp}{t:Nat}{call:CallF}(ho:o.op=.unOp op t x)(hc:bE T vs N x y=true)
  (he:cB call ae (.un op y) σ=some r):iW T ae vs N g w tm (execOp (Act.mk tm ds).eval o) r:=by
 simp only[cB]at he;split at he
 ·rename_i b ha;simp only[aD]at he;have hv:=MH (ds:=ds) h hc ha;exact lg (v:=.bool !b) (by simp[execOp,ho,hv,Op.unary]) h he.symm (.of_V (.bool _))
 ·rename_i k n ha;split at he
  ·rename_i a hb;simp only[aD]at he;have hv:=Ad (ds:=ds) h hc ha;simp only[qX,aD]at hb;subst hb;exact lg (v:=.int k (k.wrap (0-n))) (by simp[execOp,ho,hv,Op.unary,Op.intArith]) h he.symm (.of_V (.int _ _))
  ·cases he
 ·rename_i k n ha;split at he
  ·rename_i a hb;simp only[aD]at he;have hv:=Ad (ds:=ds) h hc ha;simp only[qX,aD]at hb;subst hb;refine lg ?_ h he.symm (.of_V (.int _ _));cases hs:k.signed<;>simp[execOp,ho,hv,Op.unary,Op.intBits,hs]
  ·cases he
 ·cases he
theorem zmr(h:Rel T vs N g w σ tm){x1 x2:Operand}{y1 y2:Opd}{ts:Array TypeId}{call:CallF}(ho:o.op=.call { callee:=.builtin .min,args:= #[x1,x2],argTypes:=ts })(h1:bE T vs N x1 y1=true)(h2:bE T vs N x2 y2=true)
  (he:cB call ae (.minI y1 y2) σ=some r):iW T ae vs N g w tm (execOp (Act.mk tm ds).eval o) r:=by
 simp only[cB]at he;split at he
 ·rename_i k a k' b e1 e2;simp only[aD]at he;have v1:=Ad (ds:=ds) h h1 e1;have v2:=Ad (ds:=ds) h h2 e2;refine lg (v:=.int k (if b<a then b else a)) ?_ h he.symm ?_
  ·simp[execOp,ho,resolve,invoke,builtin,Builtin.min_,Builtin.min2,v1,v2]
  ·have:(bif decide (b<a)then b else a)=(if b<a then b else a):=by by_cases hh:b<a<;>simp[hh]
   rw[this];exact .of_V (.int _ _)
 ·cases he
theorem zms(h:Rel T vs N g w σ tm){x1 x2:Operand}{y1 y2:Opd}{ts:Array TypeId}{call:CallF}(ho:o.op=.call { callee:=.builtin .max,args:= #[x1,x2],argTypes:=ts })(h1:bE T vs N x1 y1=true)(h2:bE T vs N x2 y2=true)
  (he:cB call ae (.maxI y1 y2) σ=some r):iW T ae vs N g w tm (execOp (Act.mk tm ds).eval o) r:=by
 simp only[cB]at he;split at he
 ·rename_i k a k' b e1 e2;simp only[aD]at he;have v1:=Ad (ds:=ds) h h1 e1;have v2:=Ad (ds:=ds) h h2 e2;refine lg (v:=.int k (if a<b then b else a)) ?_ h he.symm ?_
  ·simp[execOp,ho,resolve,invoke,builtin,Builtin.max_,Builtin.max2,v1,v2]
  ·have:(bif decide (a<b)then b else a)=(if a<b then b else a):=by by_cases hh:a<b<;>simp[hh]
   rw[this];exact .of_V (.int _ _)
 ·cases he
theorem zmp(h:Rel T vs N g w σ tm){x:Operand}{y:Opd}{t t':Nat}{d:TypeDesc}{call:CallF}(ho:o.op=.makeInterface t x)(hc:bE T vs N x y=true)(ht:T.tm t'=t)(hu:T.P.underlying t=some d)(hd:∀ms,d ≠ .interface ms)
  (he:cB call ae (.mkifc t' y) σ=some r):iW T ae vs N g w tm (execOp (Act.mk tm ds).eval o) r:=by
 simp only[cB]at he;split at he
 ·rename_i a σ' hq;simp only[aD]at he;obtain⟨g',e1,e2,e3,_⟩:=ut (ds:=ds) (ae:=ae) h hc hq;refine Ae ?_ he.symm e1 e2 (.of_V (.ifc t' a _ e3));rw[ht];cases d<;>first|(simp[execOp,ho,Instr.makeInterface,underlying,hu];done)|(exact absurd rfl (hd _))
 ·cases he
theorem zep{ae:Nat}:∀{xs:List Operand}{ys:List Opd}{g:Gh}{σ:St}(_:Rel T vs N g w σ tm)(_:(xs.length==ys.length&&(xs.zip ys).all fun p=>bE T vs N p.1 p.2)=true){as:List AV}{σ':St}(_:sS σ ys=some (as, σ')),
  ∃g',Ext ae g w g' w∧Rel T vs N g' w σ' tm∧Vs T g' w as (xs.map (Act.mk tm ds).eval)∧still g g'∧σ'.H=σ.H
 | [],[],g, σ,h,_,as, σ',he=>by
  simp only[sS,aD,eU]at he;obtain⟨rfl,rfl⟩:=he;exact⟨g,.refl _ _ _,h,.nil,.refl g,rfl⟩
 | [],_::_,_,_,_,hc,_,_,_=>by simp at hc
 |_::_,[],_,_,_,hc,_,_,_=>by simp at hc
 |x::xs,y::ys,g, σ,h,hc,as, σ',he=>by
  simp only[fF,List.zip_cons_cons,List.all_cons,aU]at hc;obtain⟨hl,jV,hc2⟩:=hc;simp only[sS]at he;split at he
  ·rename_i a σ1 hq;obtain⟨g1,e1,e2,e3,_,_,e5,_,e4⟩:=ut (ds:=ds) (ae:=ae) h jV hq;split at he
   ·rename_i as1 σ2 hq2;simp only[aD,eU]at he;obtain⟨rfl,rfl⟩:=he;obtain⟨g2,k1,k2,k3,k4,k5⟩:=zep (ae:=ae) (xs:=xs) e2 (by simp only[aU];exact⟨by simpa using hl,hc2⟩) hq2;refine⟨g2,e1.trans k1,k2,.cons _ _ _ _ (V.mono k1 e3) k3,fun b h1 h2=>?_,k5.trans e5⟩;obtain⟨j1,j2⟩:=e4 b h1 h2;obtain⟨j3,j4⟩:=k4 b (fun t=>by rw[j1];exact h1 t) (fun t=>by rw[j1];exact h2 t);exact⟨j3.trans j1,j4.trans j2⟩
   ·cases he
  ·cases he
theorem zmq(h:Rel T vs N g w σ tm){xs:Array Operand}{ys:List Opd}{f f':Nat}{call:CallF}(ho:o.op=.makeFunc (.func f) #[] xs)(hf:T.fm f'=f)(hc:(xs.toList.length==ys.length&&(xs.toList.zip ys).all fun p=>bE T vs N p.1 p.2)=true)
  (he:cB call ae (.mkfn f' ys) σ=some r):iW T ae vs N g w tm (execOp (Act.mk tm ds).eval o) r:=by
 simp only[cB]at he;split at he
 ·rename_i as σ' hq;simp only[aD]at he;obtain⟨g',e1,e2,e3,_⟩:=zep (ds:=ds) (ae:=ae) h hc hq;refine Ae ?_ he.symm e1 e2 (.of_V (.fn f' as _ e3));rw[hf];have hm:(xs.toList.map (Act.mk tm ds).eval).toArray=Array.map (Act.mk tm ds).eval xs:=by
   apply Bt;simp
  simp[execOp,ho,Instr.makeFunc,hm]
 ·cases he
theorem zdi(h:Rel T vs N g w σ tm){x:Operand}{y:Opd}{t:Nat}{sb:Bool}{call:CallF}(ho:o.op=.call { callee:=.builtin .len,args:= #[x],argTypes:= #[t] })(hc:bE T vs N x y=true)
  (hu:(sb=true∧T.P.underlying t=some .string)∨(sb=false∧∃e,T.P.underlying t=some (.slice e))) (he:cB call ae (.len sb y) σ=some r) :
  iW T ae vs N g w tm (execOp (Act.mk tm ds).eval o) r:=by
 have hr:=lS (ds:=ds) h hc;have keyS:∀{b:Option Addr}{n c:Nat}{e:Nat},T.P.underlying t=some (.slice e)->(Act.mk tm ds).eval x=.slice b n c->some (OpR.ok (.int .i64 (n:Int)) σ)=some r->
   iW T ae vs N g w tm (execOp (Act.mk tm ds).eval o) r:=fun{b n c e} hu hv gF=>by
  simp only[aD]at gF;refine lg (v:=.int .i64 n) ?_ h gF.symm (.of_V (.int _ _));simp[execOp,ho,resolve,invoke,builtin,Builtin.len_,hv,underlying,hu,goInt]
 rcases hu with⟨rfl,hu⟩|⟨rfl,e,hu⟩
 ·simp only[cB]at he;split at he
  ·rename_i s _ hL;simp only[aD]at he;have hv:=JC (ds:=ds) h hc (kv hL (by simp)).1;refine lg (v:=.int .i64 s.length) ?_ h he.symm (.of_V (.int _ _));have fu:(⟨s.toArray⟩:ByteArray).size=s.length:=rfl;simp[execOp,ho,resolve,invoke,builtin,Builtin.len_,hv,underlying,hu,goInt,fu]
  all_goals first|(exact absurd ‹true=false› (by simp))|cases he
 ·simp only[cB]at he;split at he
  ·exact absurd ‹false=true› (by simp)
  ·rename_i hL;rw[(kv hL (by simp)).1]at hr;exact keyS hu (V.nils_inv hr) he
  ·rename_i p es _ hL;rw[(kv hL (by simp)).1]at hr;cases p with
   |ro=>
    obtain⟨_,b,o',us,st,cap,_,_,_,_,_,hv⟩:=V.slc_inv hr;exact keyS hu hv he
   |own=>
    obtain⟨b,ai,cap,aI,st,hv,_⟩:=hr;exact keyS hu hv he
   |app=>
    obtain⟨b,ai,cap,aI,st,hv,_⟩:=hr;exact keyS hu hv he
  ·rename_i t' k lo n _ hL;obtain⟨ha,hl⟩:=kv hL (by simp);rw[ha]at hr;obtain⟨_,p,es,_,_,b,o',cap,st,xx,iN,_,_,hv,_⟩:=Q4 hl hr;exact keyS hu hv he
  ·rename_i st id ai n _ hL;rw[(kv hL (by simp)).1]at hr;obtain⟨b,cap,ty,m,_,_,_,_,_,hv⟩:=V.msl_inv hr;exact keyS hu hv he
  ·cases he
end
end Go.Ak
namespace Go.Ak
def ET(P:Program)(t:Nat):Option Nat:=
 match P.underlying t with
 |some .bool=>some 0
 |some (.int _)=>some 1
 |some .string=>some 2
 |_=>none
def Nh(P:Program)(t:Nat)(ks:List Nat):Bool:=
 !P.eqGuardType P.depth t&&match P.underlying t with
 |some (.struct fs)=> !P.stoodInHeld t&&fs.size==ks.length&&(List.range ks.length).all fun i=>match fs[i]? with
  |some f=>f.offset==i&&f.name != "_" && nR P f.type 0&&ET P f.type==ks[i]?
  |none=>false
 |some (.array n e)=>n==ks.length&&nR P e 0&&ks.all fun k=>ET P e==some k
 |_=>false
section
variable {T:Tr} {ae:Nat} {vs:List Nat} {N:Nat} {g:Gh} {w:World} {σ:St} {tm:Array Value} {ds:List Deferred} {o:Oper} {r:OpR}
theorem zkK{P:Program}{t k d:Nat}(hk:ET P t=some k){a b:AV}{c:Bool}(he:uu k a b=some c){va vb:Value}(h1:V T g w a va)(h2:V T g w b vb)(w':World):
  (Op.equalIn (d+1) t va vb).run P w'=.ok c w':=by
 unfold uu at he;split at he
 ·rename_i ka x kb y;cases hd:decide (ka=kb)with
  |false=>rw[hd]at he;simp at he
  |true=>
   rw[hd]at he;have:ka=kb:=by simpa using hd
   subst this;simp only[bA,aD]at he;subst he;rw[h1.int_inv,h2.int_inv];unfold ET at hk;split at hk<;>simp at hk;rename_i k' hu;exact run_equalIn_int w' d t ka k' x y hu
 ·simp only[aD]at he;subst he;rw[h1.str_inv,h2.str_inv];unfold ET at hk;split at hk<;>simp at hk;rename_i hu;rw[run_equalIn_string w' d t _ _ hu];simp[RA]
 ·simp only[aD]at he;subst he;rw[h1.bool_inv,h2.bool_inv];unfold ET at hk;split at hk<;>simp at hk;rename_i hu;exact run_equalIn_bool w' d t _ _ hu
 ·cases he
theorem QF{P:Program}{t ai:Nat}(ht:nR P t 0=true){xs:List Value}{v:Value}(hv:xs[ai]?=some v):(part t xs.toArray ai).run P w=.ok v w:=by
 simp[part,Ju ht,hv]
theorem zes:∀{ks:List Nat}{x y:List AV}{c:Bool},nO ks x y=some c->x.length=ks.length∧y.length=ks.length∧∃cs:List Bool,cs.length=ks.length∧c=cs.all id∧
  ∀(i k:Nat)(a b:AV),ks[i]?=some k->x[i]?=some a->y[i]?=some b->∃d:Bool,cs[i]?=some d∧uu k a b=some d
 | [],[],[],c,h=>by
  simp only[nO,aD]at h;subst h;exact⟨rfl,rfl,[],rfl,rfl,fun i k a b h=>by simp at h⟩
 | [],[],_::_,_,h=>by simp[nO]at h
 | [],_::_,_,_,h=>by simp[nO]at h
 |_::_,[],_,_,h=>by simp[nO]at h
 |_::_,_::_,[],_,h=>by simp[nO]at h
 |k::ks,a::x,b::y,c,h=>by
  simp only[nO]at h;split at h
  ·rename_i c1 h1;split at h
   ·rename_i c2 h2;simp only[aD]at h;subst h;obtain⟨l1,l2,cs,l3,rfl,l4⟩:=zes h2;refine⟨by simp[l1],by simp[l2],c1::cs,by simp[l3],by simp,fun i k' a' b' hk ha hb=>?_⟩;cases i with
    |zero=>simp at hk ha hb;subst hk;subst ha;subst hb;exact⟨c1,by simp,h1⟩
    |succ i=>simp at hk ha hb;simpa using l4 i k' a' b' hk ha hb
   ·cases h
  ·cases h
theorem zkJ{P:Program}{t:Nat}{ks:List Nat}(hc:Nh P t ks=true){x y:List AV}{c:Bool}(he:nO ks x y=some c){xs ys:List Value}(h1:Vs T g w x xs)(h2:Vs T g w y ys)(d:Nat)(w':World):
  (Op.equalIn (d+2) t (.agg xs.toArray) (.agg ys.toArray)).run P w'=.ok c w':=by
 unfold Nh at hc;simp only[aU]at hc;obtain⟨_,hc⟩:=hc;obtain⟨l1,l2,cs,l3,rfl,l4⟩:=zes he;have lx:xs.length=ks.length:=by rw[←h1.length,l1]
 have ly:ys.length=ks.length:=by rw[←h2.length,l2]
 obtain⟨m,hm⟩:∃m,m=d+1:=⟨_,rfl⟩
 rw[show d+2=m+1 by omega]
 -- one cell against another
 have cell:∀(i ty:Nat),i<ks.length->nR P ty 0=true->ET P ty=ks[i]? ->∃va vb b,xs[i]?=some va∧ys[i]?=some vb∧cs[i]?=some b∧(Op.equalIn m ty va vb).run P w'=.ok b w':=fun i ty hi _ hk=>by
  have e1:ks[i]?=some ks[i]:=gG hi;have e2:x[i]?=some x[i]:=gG (by omega);have e3:y[i]?=some y[i]:=gG (by omega);obtain⟨va,k1,k2⟩:=h1.get i _ e2;obtain⟨vb,k3,k4⟩:=h2.get i _ e3;obtain⟨b,k5,k6⟩:=l4 i _ _ _ e1 e2 e3;exact⟨va,vb,b,k1,k3,k5,by rw[hm];exact zkK (by rw[hk,e1]) k6 k2 k4 w'⟩
 clear hm;split at hc
 ·rename_i fs hu;simp only[aU,LU,gM]at hc;obtain⟨⟨dx,fu⟩,jg⟩:=hc;have hf:P.fieldsOf t=fs:=by simp[Program.fieldsOf,hu]
  rw[run_equalIn_struct w' m t _ _ (by rw[hf];exact hu) dx,hf]
  -- the fields from 'i' on
  have go:∀(j i:Nat),j+i=ks.length->(Op.eqFields m xs.toArray ys.toArray (fs.toList.drop i)).run P w'=.ok ((cs.drop i).all id) w':=by
   intro j;induction j with
   |zero=>
    intro i hi;rw[pu (by simp;omega),pu (by omega)];simp[Op.eqFields]
   |succ j ih=>
    intro i hi;have aK:i<fs.toList.length:=by simp;omega
    have hic:i<cs.length:=by omega
    have hfi:fs[i]?=some fs.toList[i]:=by rw[←mR];exact gG aK
    have:=(Gf.1 jg) i (EK.2 (by omega));rw[hfi]at this;simp only[aU,gM,bne_iff_ne,ne_eq]at this;obtain⟨⟨⟨f1,f2⟩,f3⟩,f4⟩:=this;obtain⟨va,vb,b,k1,k2,k3,k4⟩:=cell i _ (by omega) f3 f4;rw[iJ aK,iJ hic];have hb:cs[i]=b:=by rw[gG hic]at k3;exact Bl k3
    simp only[Op.eqFields,f2,ne_eq,not_false_eq_true,fD,Sem.run_bind,f1,QF f3 k1,QF f3 k2,Result.andThen_ok,k4,List.all_cons,hb,id_eq];cases b with
    |false=>simp
    |true=>
     simp only[Bool.not_true,mQ,ig,Gi];exact ih (i+1) (by omega)
  have:=go ks.length 0 (by omega);simpa using this
 ·rename_i n e hu;simp only[aU,gM]at hc;obtain⟨⟨hn,hel⟩,jg⟩:=hc;obtain⟨inf,hinf,rO⟩:=yg hel;have hs1:inf.size=1:=by rw[rO];rfl
  have hk:∀i,i<ks.length->ET P e=ks[i]? := fun i hi=>by
   rw[gG hi];exact eq_of_beq ((Gf.1 jg) ks[i] (mO hi))
  simp only[Op.equalIn,Sem.run_bind,run_underlying hu,Result.andThen_ok,pE hinf,hs1,F9];simp only[Std.Legacy.Range.forIn_eq_forIn_range',Std.Legacy.Range.size,Nat.sub_zero,Nat.add_one_sub_one,Nat.div_one];have go:∀(j i:Nat),j+i=ks.length->
    (Sem.run P (forIn (List.range' i j) ((none,()):Option Bool×Unit) fun i __s=>do
     let a ←part e xs.toArray i
     let b ←part e ys.toArray i
     let z ←Op.equalIn m e a b
     if(!z)=true then pure (ForInStep.done (some false,()))else pure (ForInStep.yield (none,()))) w')=.ok (if((cs.drop i).all id)=true then(none,())else(some false,())) w':=by
   intro j;induction j with
   |zero=>
    intro i hi;rw[pu (by omega)];simp
   |succ j ih=>
    intro i hi;have hic:i<cs.length:=by omega
    obtain⟨va,vb,b,k1,k2,k3,k4⟩:=cell i e (by omega) hel (hk i (by omega));have hb:cs[i]=b:=by rw[gG hic]at k3;exact Bl k3
    rw[iJ hic];simp only[List.range'_succ,List.forIn_cons,Sem.run_bind,QF hel k1,QF hel k2,Result.andThen_ok,k4,List.all_cons,hb,id_eq];cases b with
    |false=>simp
    |true=>
     simp only[Bool.not_true,mQ,ig,Gi,Sem.run_pure,Result.andThen_ok];exact ih (i+1) (by omega)
  have:=go ks.length 0 (by omega);rw[hn];simp only[xI]at this;rw[this];cases hb:cs.all id<;>simp
 ·cases hc
end
end Go.Ak
namespace Go.Ak
section
variable {T:Tr} {ae:Nat} {vs:List Nat} {N:Nat} {g:Gh} {w:World} {σ:St} {tm:Array Value} {ds:List Deferred} {o:Oper} {r:OpR}
def GQ(P:Program)(t k:Nat)(x y:Operand):Bool:=
 match k,P.underlying t with
 |0,some .bool=>true
 |1,some (.pointer _)=>true
 |2,some (.slice _)=>true
 |3,some (.func _ _ _)=>true
 |4,some (.interface _)=>(match x with|.const _=>true|_=>false)||(match y with|.const _=>true|_=>false)
 |_,_=>false
theorem E9{P:Program}{t:Nat}{va vb:Value}{b:Bool}(hn:(∀k n,va ≠ .int k n)∧(∀s,va ≠ .string s)∧(∀k n,va ≠ .float k n)∧(∀k x y,va ≠ .complex k x y))(w:World)(h:(Op.equal t va vb).run P w=.ok b w):
  (binOp .eql t va vb).run P w=.ok (.bool b) w∧(binOp .neq t va vb).run P w=.ok (.bool !b) w:=by
 have e1:binOp .eql t va vb=(do pure (.bool (←Op.equal t va vb))):=by
  cases va<;>first|rfl|(exact absurd rfl (hn.1 _ _))|(exact absurd rfl (hn.2.1 _))|(exact absurd rfl (hn.2.2.1 _ _))|(exact absurd rfl (hn.2.2.2 _ _ _))
 have e2:binOp .neq t va vb=(do pure (.bool (!(←Op.equal t va vb)))):=by
  cases va<;>first|rfl|(exact absurd rfl (hn.1 _ _))|(exact absurd rfl (hn.2.1 _))|(exact absurd rfl (hn.2.2.1 _ _))|(exact absurd rfl (hn.2.2.2 _ _ _))
 rw[e1,e2];simp only[Sem.run_bind,h,Result.andThen_ok,Sem.run_pure,and_self]
theorem zog{P:Program}{t e:Nat}(hu:P.underlying t=some (.pointer e))(a b:Option Addr)(hn:a=none∨b=none)(d:Nat)(w:World):(Op.equalIn (d+1) t (.pointer a) (.pointer b)).run P w=.ok (a.isNone&&b.isNone) w:=by
 rcases hn with rfl|rfl
 ·cases b<;>simp[Op.equalIn,run_underlying hu]
 ·cases a<;>simp[Op.equalIn,run_underlying hu]
theorem zof{P:Program}{t e:Nat}(hu:P.underlying t=some (.slice e))(a b:Option Addr)(l c l' c':Nat)(hn:a=none∨b=none)(d:Nat)(w:World):(Op.equalIn (d+1) t (.slice a l c) (.slice b l' c')).run P w=.ok (a.isNone&&b.isNone) w:=by
 rcases hn with rfl|rfl
 ·cases b<;>simp[Op.equalIn,run_underlying hu]
 ·cases a<;>simp[Op.equalIn,run_underlying hu]
theorem zer{P:Program}{t e:Nat}(hu:P.underlying t=some (.pointer e))(a b:Option Addr)(hn:a=none∨b=none)(w:World):
  (binOp .eql t (.pointer a) (.pointer b)).run P w=.ok (.bool (a.isNone&&b.isNone)) w∧(binOp .neq t (.pointer a) (.pointer b)).run P w=.ok (.bool !(a.isNone&&b.isNone)) w:=
 E9 (by simp) w (zog hu a b hn 9999 w)
theorem zeq{P:Program}{t e:Nat}(hu:P.underlying t=some (.slice e))(a b:Option Addr)(l c l' c':Nat)(hn:(a=none)∨(b=none))(w:World):
  (binOp .eql t (.slice a l c) (.slice b l' c')).run P w=.ok (.bool (a.isNone&&b.isNone)) w∧(binOp .neq t (.slice a l c) (.slice b l' c')).run P w=.ok (.bool !(a.isNone&&b.isNone)) w:=
 E9 (by simp) w (zof hu a b l c l' c' hn 9999 w)
theorem WQ{P:Program}{t:Nat}{ps rs:Array TypeId}{vd:Bool}(hu:P.underlying t=some (.func ps rs vd))(d:Nat)(w:World):
  (Op.equalIn (d+1) t .nilFunc .nilFunc).run P w=.ok true w∧(∀f a c,(Op.equalIn (d+1) t .nilFunc (.func f a c)).run P w=.ok false w)∧∀f a c,(Op.equalIn (d+1) t (.func f a c) .nilFunc).run P w=.ok false w:=by
 refine⟨?_,fun f a c=>?_,fun f a c=>?_⟩<;>simp[Op.equalIn,run_underlying hu]
theorem WP{P:Program}{t:Nat}{ms:Array (String×TypeId)}(hu:P.underlying t=some (.interface ms))(d:Nat)(w:World):
  (Op.equalIn (d+1) t .nilIface .nilIface).run P w=.ok true w∧(∀u x,(Op.equalIn (d+1) t .nilIface (.iface u x)).run P w=.ok false w)∧∀u x,(Op.equalIn (d+1) t (.iface u x) .nilIface).run P w=.ok false w:=by
 refine⟨?_,fun f a=>?_,fun f a=>?_⟩<;>simp[Op.equalIn,run_underlying hu]
theorem JP{P:Program}{t:Nat}{ps rs:Array TypeId}{vd:Bool}(hu:P.underlying t=some (.func ps rs vd))(w:World):
  ((binOp .eql t .nilFunc .nilFunc).run P w=.ok (.bool true) w∧(binOp .neq t .nilFunc .nilFunc).run P w=.ok (.bool !true) w)∧
  (∀f a c,(binOp .eql t .nilFunc (.func f a c)).run P w=.ok (.bool false) w∧(binOp .neq t .nilFunc (.func f a c)).run P w=.ok (.bool !false) w)∧
  (∀f a c,(binOp .eql t (.func f a c) .nilFunc).run P w=.ok (.bool false) w∧(binOp .neq t (.func f a c) .nilFunc).run P w=.ok (.bool !false) w):=
 ⟨E9 (by simp) w (WQ hu 9999 w).1,fun f a c=>E9 (by simp) w ((WQ hu 9999 w).2.1 f a c),fun f a c=>E9 (by simp) w ((WQ hu 9999 w).2.2 f a c)⟩
theorem JO{P:Program}{t:Nat}{ms:Array (String×TypeId)}(hu:P.underlying t=some (.interface ms))(w:World):
  ((binOp .eql t .nilIface .nilIface).run P w=.ok (.bool true) w∧(binOp .neq t .nilIface .nilIface).run P w=.ok (.bool !true) w)∧
  (∀d x,(binOp .eql t .nilIface (.iface d x)).run P w=.ok (.bool false) w∧(binOp .neq t .nilIface (.iface d x)).run P w=.ok (.bool !false) w)∧
  (∀d x,(binOp .eql t (.iface d x) .nilIface).run P w=.ok (.bool false) w∧(binOp .neq t (.iface d x) .nilIface).run P w=.ok (.bool !false) w):=
 ⟨E9 (by simp) w (WP hu 9999 w).1,fun u x=>E9 (by simp) w ((WP hu 9999 w).2.1 u x),fun u x=>E9 (by simp) w ((WP hu 9999 w).2.2 u x)⟩
theorem zcz{P:Program}{t:Nat}{x y:Operand}{op:BinOp}{va vb:Value}{b:Bool}{neg:Bool}(je:op=if neg then .neq else .eql)(hg:(eqGuard op t x y va vb).run P w=.ok () w)
  (h1:(binOp .eql t va vb).run P w=.ok (.bool b) w) (h2:(binOp .neq t va vb).run P w=.ok (.bool !b) w) :
  (do eqGuard op t x y va vb;binOp op t va vb:Sem Value).run P w=.ok (.bool (bif neg then !b else b)) w:=by
 subst je;cases neg
 ·simp only[mQ,ig,Sem.run_bind]at hg ⊢;simp[hg,h1]
 ·simp only[fD,Sem.run_bind]at hg ⊢;simp[hg,h2]
theorem op_eq(h:Rel T vs N g w σ tm){x1 x2:Operand}{y1 y2:Opd}{op:BinOp}{neg:Bool}{t k ty:Nat}{call:CallF}(ho:o.op=.binOp op t x1 x2 ty)(je:op=if neg then .neq else .eql)(h1:bE T vs N x1 y1=true)(h2:bE T vs N x2 y2=true)
  (hk:GQ T.P t k x1 x2=true) (he:cB call ae (.eq neg k y1 y2) σ=some r):iW T ae vs N g w tm (execOp (Act.mk tm ds).eval o) r:=by
 have hr1:=lS (ds:=ds) h h1;have hr2:=lS (ds:=ds) h h2;simp only[cB]at he;split at he
 ·rename_i b hb;simp only[aD]at he;have fin:∀{va vb:Value},(Act.mk tm ds).eval x1=va->(Act.mk tm ds).eval x2=vb->(∀w,(eqGuard op t x1 x2 va vb).run T.P w=.ok () w)->(∀w,(binOp .eql t va vb).run T.P w=.ok (.bool b) w)->(∀w,(binOp .neq t va vb).run T.P w=.ok (.bool !b) w)->
    iW T ae vs N g w tm (execOp (Act.mk tm ds).eval o) r:=fun{va vb} e1 e2 e3 e4 e5=>by
   refine lg (v:=.bool (bif neg then !b else b)) (fun w=>?_) h he.symm (.of_V (.bool _));have:=zcz (x:=x1) (y:=x2) je (e3 w) (e4 w) (e5 w);simp only[execOp,ho,e1,e2,Sem.run_bind]at this ⊢;simp only[this,Result.andThen_ok,Sem.run_pure]
  -- a slice's own shape
  have sl:∀{a:AV}{v:Value}{own:Own},AVR T g w σ tm own a v->live σ a=true->(∃p es,a=.slc p es)∨(∃st id ai n,a=.msl st id ai n)∨(∃t k lo n,a=.ref t k lo n)->∃ad l c,v=.slice (some ad) l c:=fun{a v own} hv hl hs=>by
   rcases hs with⟨p,es,rfl⟩|⟨st,id,ai,n,rfl⟩|⟨t,k,lo,n,rfl⟩
   ·cases p with
    |ro=>obtain⟨_,b,o',us,st,cap,_,_,_,_,_,e⟩:=V.slc_inv hv;exact⟨_,_,_,e⟩
    |own=>obtain⟨b,ai,cap,aI,st,e,_⟩:=hv;exact⟨_,_,_,e⟩
    |app=>obtain⟨b,ai,cap,aI,st,e,_⟩:=hv;exact⟨_,_,_,e⟩
   ·obtain⟨b,cap,ty,m,_,_,_,_,_,e⟩:=V.msl_inv hv;exact⟨_,_,_,e⟩
   ·obtain⟨_,p,es,_,_,b,o',cap,st,xx,iN,_,_,e,_⟩:=Q4 hl hv;exact⟨_,_,_,e⟩
  generalize hL1:l8 σ y1=A1 at hb;generalize hL2:l8 σ y2=A2 at hb;have get:A1 ≠ .undef->A2 ≠ .undef->AVR T g w σ tm (JB y1) A1 ((Act.mk tm ds).eval x1)∧live σ A1=true∧AVR T g w σ tm (JB y2) A2 ((Act.mk tm ds).eval x2)∧live σ A2=true:=fun n1 n2=>by
   obtain⟨a1,l1⟩:=kv hL1 n1;obtain⟨a2,l2⟩:=kv hL2 n2;exact⟨by rw[←a1];exact hr1,l1,by rw[←a2];exact hr2,l2⟩
  have gd:∀{va vb:Value},(∀cs,va ≠ .agg cs)->va ≠ .nilIface->∀w,(eqGuard op t x1 x2 va vb).run T.P w=.ok () w:=fun{va vb} n1 n2 w=>by
   rw[je];cases neg<;>cases va<;>first|(simp[eqGuard];done)|(exact absurd rfl n2)|(exact absurd rfl (n1 _))
  have gd2:∀{va vb:Value},vb ≠ .nilIface->va=.nilIface->∀w,(eqGuard op t x1 x2 va vb).run T.P w=.ok () w:=fun{va vb} n1 n2 w=>by
   subst n2;rw[je];cases neg<;>cases vb<;>first|(simp[eqGuard];done)|(exact absurd rfl n1)
  have ptr:∀{e:Nat}{a1 a2:Option Addr},T.P.underlying t=some (.pointer e)->(Act.mk tm ds).eval x1=.pointer a1->(Act.mk tm ds).eval x2=.pointer a2->(a1=none∨a2=none)->b=(a1.isNone&&a2.isNone)->
    iW T ae vs N g w tm (execOp (Act.mk tm ds).eval o) r:=fun{e a1 a2} hu e1 e2 hn hbb=>by
   exact fin e1 e2 (gd (by simp) (by simp)) (fun w=>by rw[(zer hu a1 a2 hn w).1,hbb]) (fun w=>by rw[(zer hu a1 a2 hn w).2,hbb])
  have slc:∀{e:Nat}{a1 a2:Option Addr}{l1 c1 l2 c2:Nat},T.P.underlying t=some (.slice e)->(Act.mk tm ds).eval x1=.slice a1 l1 c1->(Act.mk tm ds).eval x2=.slice a2 l2 c2->(a1=none∨a2=none)->b=(a1.isNone&&a2.isNone)->
    iW T ae vs N g w tm (execOp (Act.mk tm ds).eval o) r:=fun{e a1 a2 l1 c1 l2 c2} hu e1 e2 hn hbb=>by
   exact fin e1 e2 (gd (by simp) (by simp)) (fun w=>by rw[(zeq hu a1 a2 l1 c1 l2 c2 hn w).1,hbb]) (fun w=>by rw[(zeq hu a1 a2 l1 c1 l2 c2 hn w).2,hbb])
  have u1:k=1->∃e,T.P.underlying t=some (.pointer e):=fun e=>by subst e;unfold GQ at hk;split at hk<;>first|exact⟨_,by assumption⟩|(simp at *;done)|cases hk
  have u2:k=2->∃e,T.P.underlying t=some (.slice e):=fun e=>by subst e;unfold GQ at hk;split at hk<;>first|exact⟨_,by assumption⟩|(simp at *;done)|cases hk
  have u3:k=3->∃ps rs vd,T.P.underlying t=some (.func ps rs vd):=fun e=>by subst e;unfold GQ at hk;split at hk<;>first|exact⟨_,_,_,by assumption⟩|(simp at *;done)|cases hk
  have u4:k=4->∃ms,T.P.underlying t=some (.interface ms)∧((∃c,x1=.const c)∨∃c,x2=.const c):=fun e=>by
   subst e;unfold GQ at hk;split at hk;all_goals first|(cases hk;done)|(exact absurd ‹(4:Nat)=_› (by decide))|skip
   ·rename_i ms _ hu;refine⟨ms,hu,?_⟩;simp only[nG]at hk;rcases hk with hk|hk
    ·split at hk
     ·exact .inl ⟨_,rfl⟩
     ·cases hk
    ·split at hk
     ·exact .inr ⟨_,rfl⟩
     ·cases hk
  unfold yf at hb;split at hb
  · -- truths
   rename_i b1 b2;simp only[aD]at hb;subst hb;obtain⟨a1,_,a2,_⟩:=get (by simp) (by simp);have e1:=V.bool_inv a1;have e2:=V.bool_inv a2;unfold GQ at hk;split at hk<;>first|(cases hk;done)|skip
   all_goals first|(rename_i hu;refine fin e1 e2 (gd (by simp) (by simp)) (fun w=>run_eql_bool w t _ _ hu) (fun w=>run_neq_bool w t _ _ hu);done)|(simp at *;done)
  -- pointers
  ·simp only[aD]at hb;obtain⟨e,hu⟩:=u1 rfl;obtain⟨a1,_,a2,_⟩:=get (by simp) (by simp);exact ptr hu (V.nilp_inv a1) (V.nilp_inv a2) (.inl rfl) hb.symm
  ·simp only[aD]at hb;obtain⟨e,hu⟩:=u1 rfl;obtain⟨a1,_,a2,_⟩:=get (by simp) (by simp);obtain⟨_,_,e2⟩:=V.ptr_inv a2;exact ptr hu (V.nilp_inv a1) e2 (.inl rfl) hb.symm
  ·simp only[aD]at hb;obtain⟨e,hu⟩:=u1 rfl;obtain⟨a1,_,a2,_⟩:=get (by simp) (by simp);obtain⟨_,_,e1⟩:=V.ptr_inv a1;exact ptr hu e1 (V.nilp_inv a2) (.inr rfl) hb.symm
  ·simp only[aD]at hb;obtain⟨e,hu⟩:=u1 rfl;obtain⟨a1,_,a2,_⟩:=get (by simp) (by simp);obtain⟨_,_,_,e2⟩:=V.tptr_inv a2;exact ptr hu (V.nilp_inv a1) e2 (.inl rfl) hb.symm
  ·simp only[aD]at hb;obtain⟨e,hu⟩:=u1 rfl;obtain⟨a1,_,a2,_⟩:=get (by simp) (by simp);obtain⟨_,_,_,e1⟩:=V.tptr_inv a1;exact ptr hu e1 (V.nilp_inv a2) (.inr rfl) hb.symm
  ·simp only[aD]at hb;obtain⟨e,hu⟩:=u1 rfl;obtain⟨a1,_,a2,_⟩:=get (by simp) (by simp);obtain⟨_,_,_,_,_,e2⟩:=V.rptr_inv a2;exact ptr hu (V.nilp_inv a1) e2 (.inl rfl) hb.symm
  ·simp only[aD]at hb;obtain⟨e,hu⟩:=u1 rfl;obtain⟨a1,_,a2,_⟩:=get (by simp) (by simp);obtain⟨_,_,_,_,_,e1⟩:=V.rptr_inv a1;exact ptr hu e1 (V.nilp_inv a2) (.inr rfl) hb.symm
  -- slices
  ·simp only[aD]at hb;obtain⟨e,hu⟩:=u2 rfl;obtain⟨a1,_,a2,_⟩:=get (by simp) (by simp);exact slc hu (V.nils_inv a1) (V.nils_inv a2) (.inl rfl) hb.symm
  ·simp only[aD]at hb;obtain⟨e,hu⟩:=u2 rfl;obtain⟨a1,_,a2,l2⟩:=get (by simp) (by simp);obtain⟨_,_,_,e2⟩:=sl a2 l2 (.inl ⟨_,_,rfl⟩);exact slc hu (V.nils_inv a1) e2 (.inl rfl) hb.symm
  ·simp only[aD]at hb;obtain⟨e,hu⟩:=u2 rfl;obtain⟨a1,l1,a2,l2⟩:=get (by simp) (by simp);obtain⟨_,_,_,e1⟩:=sl a1 l1 (.inl ⟨_,_,rfl⟩);exact slc hu e1 (V.nils_inv a2) (.inr rfl) hb.symm
  ·simp only[aD]at hb;obtain⟨e,hu⟩:=u2 rfl;obtain⟨a1,_,a2,l2⟩:=get (by simp) (by simp);obtain⟨_,_,_,e2⟩:=sl a2 l2 (.inr (.inl ⟨_,_,_,_,rfl⟩));exact slc hu (V.nils_inv a1) e2 (.inl rfl) hb.symm
  ·simp only[aD]at hb;obtain⟨e,hu⟩:=u2 rfl;obtain⟨a1,l1,a2,l2⟩:=get (by simp) (by simp);obtain⟨_,_,_,e1⟩:=sl a1 l1 (.inr (.inl ⟨_,_,_,_,rfl⟩));exact slc hu e1 (V.nils_inv a2) (.inr rfl) hb.symm
  ·simp only[aD]at hb;obtain⟨e,hu⟩:=u2 rfl;obtain⟨a1,_,a2,l2⟩:=get (by simp) (by simp);obtain⟨_,_,_,e2⟩:=sl a2 l2 (.inr (.inr ⟨_,_,_,_,rfl⟩));exact slc hu (V.nils_inv a1) e2 (.inl rfl) hb.symm
  ·simp only[aD]at hb;obtain⟨e,hu⟩:=u2 rfl;obtain⟨a1,l1,a2,l2⟩:=get (by simp) (by simp);obtain⟨_,_,_,e1⟩:=sl a1 l1 (.inr (.inr ⟨_,_,_,_,rfl⟩));exact slc hu e1 (V.nils_inv a2) (.inr rfl) hb.symm
  -- functions
  ·simp only[aD]at hb;subst hb;obtain⟨_,_,_,hu⟩:=u3 rfl;obtain⟨a1,_,a2,_⟩:=get (by simp) (by simp);exact fin (V.nilf_inv a1) (V.nilf_inv a2) (gd (by simp) (by simp)) (fun w=>(JP hu w).1.1) (fun w=>(JP hu w).1.2)
  ·simp only[aD]at hb;subst hb;obtain⟨_,_,_,hu⟩:=u3 rfl;obtain⟨a1,_,a2,_⟩:=get (by simp) (by simp);obtain⟨_,_,e2⟩:=V.fn_inv a2;exact fin (V.nilf_inv a1) e2 (gd (by simp) (by simp)) (fun w=>((JP hu w).2.1 _ _ _).1) (fun w=>((JP hu w).2.1 _ _ _).2)
  ·simp only[aD]at hb;subst hb;obtain⟨_,_,_,hu⟩:=u3 rfl;obtain⟨a1,_,a2,_⟩:=get (by simp) (by simp);obtain⟨_,_,e1⟩:=V.fn_inv a1;exact fin e1 (V.nilf_inv a2) (gd (by simp) (by simp)) (fun w=>((JP hu w).2.2 _ _ _).1) (fun w=>((JP hu w).2.2 _ _ _).2)
  -- interfaces
  ·simp only[aD]at hb;subst hb;obtain⟨_,hu,hcn⟩:=u4 rfl;obtain⟨a1,_,a2,_⟩:=get (by simp) (by simp);refine fin (V.nili_inv a1) (V.nili_inv a2) ?_ (fun w=>(JO hu w).1.1) (fun w=>(JO hu w).1.2);rcases hcn with⟨c,rfl⟩|⟨c,rfl⟩
   ·rw[je];cases neg<;>simp[eqGuard]
   ·rw[je];cases neg<;>cases x1<;>simp[eqGuard]
  ·simp only[aD]at hb;subst hb;obtain⟨_,hu,_⟩:=u4 rfl;obtain⟨a1,_,a2,_⟩:=get (by simp) (by simp);obtain⟨_,_,e2⟩:=V.ifc_inv a2;exact fin (V.nili_inv a1) e2 (gd2 (by simp) rfl) (fun w=>((JO hu w).2.1 _ _).1) (fun w=>((JO hu w).2.1 _ _).2)
  ·simp only[aD]at hb;subst hb;obtain⟨_,hu,_⟩:=u4 rfl;obtain⟨a1,_,a2,_⟩:=get (by simp) (by simp);obtain⟨_,_,e1⟩:=V.ifc_inv a1;exact fin e1 (V.nili_inv a2) (gd (by simp) (by simp)) (fun w=>((JO hu w).2.2 _ _).1) (fun w=>((JO hu w).2.2 _ _).2)
  ·cases hb
 ·cases he
theorem zmx(h:Rel T vs N g w σ tm){x1 x2:Operand}{y1 y2:Opd}{op:BinOp}{neg:Bool}{t ty:Nat}{ks:List Nat}{call:CallF}(ho:o.op=.binOp op t x1 x2 ty)(je:op=if neg then .neq else .eql)(h1:bE T vs N x1 y1=true)(h2:bE T vs N x2 y2=true)
  (hk:Nh T.P t ks=true) (he:cB call ae (.eqG neg ks y1 y2) σ=some r):iW T ae vs N g w tm (execOp (Act.mk tm ds).eval o) r:=by
 simp only[cB]at he;split at he
 ·rename_i xs ys e1 e2;split at he
  ·rename_i b hb;simp only[aD]at he;obtain⟨us1,j1,_,v1⟩:=(BQ (ds:=ds) h h1 e1 rfl).agg_inv;obtain⟨us2,j2,_,v2⟩:=(BQ (ds:=ds) h h2 e2 rfl).agg_inv;have gJ:T.P.eqGuardType T.P.depth t=false:=by
    unfold Nh at hk;simp only[aU,LU]at hk;exact hk.1
   refine lg (v:=.bool (bif neg then !b else b)) (fun w'=>?_) h he.symm (.of_V (.bool _));have hq:=zkJ (w:=w) hk hb j1 j2 9998 w';have k1:=run_eql_struct (P:=T.P) w' t us1.toArray us2.toArray;have k2:=run_neq_struct (P:=T.P) w' t us1.toArray us2.toArray;rw[hq]at k1 k2;have:=zcz (x:=x1) (y:=x2) je (run_eqGuard_agg w' op t x1 x2 _ _ gJ) k1 k2;simp only[execOp,ho,v1,v2,Sem.run_bind]at this ⊢;simp only[this,Result.andThen_ok,Sem.run_pure]
  ·cases he
 ·cases he
end
end Go.Ak
namespace Go.Ak
def Fv:List AV->List Value->Bool
 | [],[]=>true
 |a::as,v::vs=>GU a v&&Fv as vs
 |_,_=>false
theorem zqG{a:AV}{v:Value}(h:GU a v=true):v.oneCell'=true:=by
 unfold GU at h;split at h<;>first|rfl|cases h
theorem GR{T:Tr}{g:Gh}{w:World}:∀{as:List AV}{vs:List Value},Fv as vs=true->Vs T g w as vs∧∀v∈vs,v.oneCell'=true
 | [],[],_=>⟨.nil,by simp⟩
 | [],_::_,h=>by simp[Fv]at h
 |_::_,[],h=>by simp[Fv]at h
 |a::as,v::vs,h=>by
  simp only[Fv,aU]at h;obtain⟨h1,h2⟩:=GR (T:=T) (g:=g) (w:=w) h.2;refine⟨.cons _ _ _ _ (Xx h.1) h1,fun x hx=>?_⟩;rcases il.1 hx with rfl|hx
  ·exact zqG h.1
  ·exact h2 x hx
def Az(P:Program)(t:Nat)(z:List AV):Bool:=
 match P.info? t with
 |some i=>match i.zero with
  |some v=>Fv z v.cells.toList
  |none=>false
 |none=>false
section
variable {T:Tr} {ae:Nat} {vs:List Nat} {N:Nat} {g:Gh} {w:World} {σ:St} {tm:Array Value} {ds:List Deferred} {o:Oper} {r:OpR}
theorem Nc{P:Program}{t:Nat}{z:List AV}(h:Az P t z=true):∃i v,P.info? t=some i∧i.zero=some v∧Fv z v.cells.toList=true:=by
 unfold Az at h;split at h
 ·rename_i i hi;split at h
  ·rename_i v hv;exact⟨i,v,hi,hv,h⟩
  ·cases h
 ·cases h
theorem Gr{P:Program}{t:Nat}{i:TypeInfo}{v:Value}(h1:P.info? t=some i)(h2:i.zero=some v)(w:World):(zeroValue t).run P w=.ok v w:=by simp[zeroValue,typeInfo,h1,h2]
structure More(w w1:World)(ob:Obj):Prop where
 heap:w1.heap=w.heap.push ob
 os:w1.os=w.os
 out:(w1.output,w1.tape)=(w.output,w.tape)
theorem More.old{w w1:World}{ob:Obj}(h:More w w1 ob){b:Nat}(hb:b<w.heap.size):w1.heap[b]?=w.heap[b]? := by
 rw[h.heap,Ji];simp only[show b≠w.heap.size by omega,ig]
theorem More.new{w w1:World}{ob:Obj}(h:More w w1 ob):w1.heap[w.heap.size]?=some ob:=by
 rw[h.heap,Ji];simp
theorem More.size{w w1:World}{ob:Obj}(h:More w w1 ob):w1.heap.size=w.heap.size+1:=by rw[h.heap];simp
theorem More.ext{w1:World}{ob:Obj}(h:More w w1 ob){H:aj}(hf:HeapR T g w H)(g':Gh)(hS:∀b,b<w.heap.size->g'.S b=g.S b)(hS':∀b,g.S b<=g'.S b)(gP:∀b,b<w.heap.size->g'.own b=g.own b)(hob:∀id b,g.ob id=some b->g'.ob id=some b):Ext ae g w g' w1 where
 size:=by rw[h.size];omega
 S:=hS'
 cell b ai hb:=by
  have aB:b<w.heap.size:=by
   rcases kY b w.heap.size with h'|h'
   ·exact h'
   ·have:=(hf.fresh b h').2;omega
  simp only[World.cell?,h.old aB]
 ob:=hob
 shape b x hx:=by
  have aB:b<w.heap.size:=by
   rcases kY b w.heap.size with h'|h'
   ·exact h'
   ·simp[World.shape?,xK h']at hx
  simp only[World.shape?,h.old aB]at hx ⊢;exact hx
 kept b hb:=by
  have aB:b<w.heap.size:=Ah hf (by rw[hb];simp);exact⟨by rw[gP b aB,hb],hS b aB,h.old aB⟩
 low id b _ _ hb:=by
  have aB:b<w.heap.size:=Ah hf (by rw[hb];simp);exact⟨by rw[gP b aB,hb],hS b aB,h.old aB⟩
 os:=h.os
 out:=h.out
theorem Rel.more{w1:World}{ob:Obj}(h:Rel T vs N g w σ tm)(hm:More w w1 ob):Ext ae g w (g.give w.heap.size .res) w1∧Rel T vs N (g.give w.heap.size .res) w1 σ tm∧(g.give w.heap.size .res).own w.heap.size=.res∧(g.give w.heap.size .res).S w.heap.size=0:=by
 have gP:∀b,b<w.heap.size->(g.give w.heap.size .res).own b=g.own b:=fun b hb=>by simp only[Gh.give];rw[aF (by omega)]
 have he:∀ae,Ext ae g w (g.give w.heap.size .res) w1:=fun ae=>hm.ext h.heap _ (fun _ _=>rfl) (fun _=>aX _) gP (fun _ _ h=>h);refine⟨he ae,?_,by simp[Gh.give],(h.heap.fresh w.heap.size (aX _)).2⟩;have dw:∀b,g.own b ≠ .free->(g.give w.heap.size .res).own b=g.own b∧(g.give w.heap.size .res).S b=g.S b∧w1.heap[b]?=w.heap[b]? := fun b hb=>by
  have aB:=Ah h.heap hb;exact⟨gP b aB,rfl,hm.old aB⟩
 refine h.frame (H':=σ.H) (he 0) (fun b t hb _=>?_) (fun b t hb _=>?_) ?_
 ·obtain⟨k1,k2,k3⟩:=dw b (by rw[hb];simp);exact⟨by rw[k1,hb],k2,k3⟩
 ·obtain⟨k1,k2,k3⟩:=dw b (by rw[hb];simp);exact⟨by rw[k1,hb],k2,k3⟩
 ·refine h.heap.frame (he 0) (fun b id hb=>?_) rfl fun b hb=>?_
  ·obtain⟨k1,k2,k3⟩:=dw b (by rw[hb];simp);exact⟨by rw[k1,hb],k2,k3⟩
  ·rw[hm.size]at hb;obtain⟨k1,k2⟩:=h.heap.fresh b (by omega);exact⟨by simp only[Gh.give];rw[aF (by omega)];exact k1,k2⟩
def Gh.obj(g:Gh)(id b:Nat):Gh:={ g with ob:=fun x=>if x=id then some b else g.ob x,own:=fun x=>if x=b then .obj id else g.own x }
theorem Rel.newObj{w1:World}{aI:Array Value}{ty:TypeId}{fz:Nat×Nat}{cs:List AV}(h:Rel T vs N g w σ tm)(hm:More w w1 (.cells aI ty fz))(hfz:∀k,k<aI.size->¬(fz.1<=k∧k<fz.2))(fJ:∀v∈aI.toList,v.oneCell'=true)
  (hv:Vs T g w cs (aI.toList.take cs.length)) (hl:cs.length<=aI.size) :
  Ext ae g w (g.obj σ.H.length w.heap.size) w1∧Rel T vs N (g.obj σ.H.length w.heap.size) w1 { σ with H:=σ.H ++[some cs] } tm∧(g.obj σ.H.length w.heap.size).ob σ.H.length=some w.heap.size:=by
 have gP:∀b,b<w.heap.size->(g.obj σ.H.length w.heap.size).own b=g.own b:=fun b hb=>by simp only[Gh.obj];rw[aF (by omega)]
 have hob:∀id b,g.ob id=some b->(g.obj σ.H.length w.heap.size).ob id=some b:=fun id b hb=>by
  have:=h.heap.ob id b hb;simp only[Gh.obj];rw[aF (by omega)];exact hb
 have he:∀ae,Ext ae g w (g.obj σ.H.length w.heap.size) w1:=fun ae=>hm.ext h.heap _ (fun _ _=>rfl) (fun _=>aX _) gP hob;refine⟨he ae,?_,by simp[Gh.obj]⟩;have dw:∀b,g.own b ≠ .free->(g.obj σ.H.length w.heap.size).own b=g.own b∧(g.obj σ.H.length w.heap.size).S b=g.S b∧w1.heap[b]?=w.heap[b]? := fun b hb=>by
  have aB:=Ah h.heap hb;exact⟨gP b aB,rfl,hm.old aB⟩
 refine h.frame (H':=σ.H ++[some cs]) (he 0) (fun b t hb _=>?_) (fun b t hb _=>?_) ⟨fun id cs' hc=>?_,fun id b hb=>?_,fun b hb=>?_,fun b x hx=>by
  obtain⟨k1,k2⟩:=h.heap.gl b x hx;obtain⟨j1,_,j3⟩:=dw b (by rw[k1];simp);exact⟨j1.trans k1,j3.trans k2⟩⟩
 ·obtain⟨k1,k2,k3⟩:=dw b (by rw[hb];simp);exact⟨by rw[k1,hb],k2,k3⟩
 ·obtain⟨k1,k2,k3⟩:=dw b (by rw[hb];simp);exact⟨by rw[k1,hb],k2,k3⟩
 ·rw[List.getElem?_append]at hc;split at hc
  ·obtain⟨b,arr',k1,⟨k2,k3,k4⟩,k5,k6⟩:=h.heap.objs id cs' hc;obtain⟨j1,j2,j3⟩:=dw b (by rw[k2];simp);exact⟨b,arr',hob id b k1,⟨by rw[j1,k2],by rw[j2];exact k3,k4.congr j3⟩,Vs.mono (he 0) k5,k6⟩
  ·rename_i aB;have hid:id=σ.H.length:=by
    have:=(eD.1 hc).1;simp at this;omega
   subst hid;simp at hc;subst hc;refine⟨w.heap.size,aI,by simp[Gh.obj],⟨by simp[Gh.obj],(h.heap.fresh _ (aX _)).2,⟨⟨ty,fz,hm.new⟩,fun k hk=>?_,fJ⟩⟩,Vs.mono (he 0) hv,hl⟩;simp only[World.frozen?,hm.new];have:=hfz k hk;simp only[LV,P9];omega
 ·simp only[Gh.obj]at hb;simp only[iF,fF,gW];split at hb
  ·omega
  ·have:=h.heap.ob id b hb;omega
 ·rw[hm.size]at hb;obtain⟨k1,k2⟩:=h.heap.fresh b (by omega);exact⟨by simp only[Gh.obj];rw[aF (by omega)];exact k1,k2⟩
theorem Ag(w:World)(ob:Obj):More w (w.alloc ob) ob:=⟨rfl,rfl,rfl⟩
theorem Xb{w1:World}{aI:Array Value}{ty:TypeId}{fz:Nat×Nat}{ow:Own}{g':Gh}(hm:More w w1 (.cells aI ty fz))(hfz:∀k,k<aI.size->¬(fz.1<=k∧k<fz.2))(fJ:∀v∈aI.toList,v.oneCell'=true)
  (h1:g'.own w.heap.size=ow) (h2:g'.S w.heap.size=0):excl g' w1 ow w.heap.size aI:=by
 refine⟨h1,h2,⟨⟨ty,fz,hm.new⟩,fun k hk=>?_,fJ⟩⟩;simp only[World.frozen?,hm.new];have:=hfz k hk;simp only[LV,P9];omega
theorem Jt{P:Program}(w:World)(t:Nat)(v:Value):(newVar t v).run P w=.ok ⟨w.heap.size,0,none⟩ (w.alloc (.cells v.cells t)):=by simp[newVar,Go.newRow]
theorem zmL(h:Rel T vs N g w σ tm){t:Nat}{z:List AV}{call:CallF}(ho:o.op=.alloc t)(hz:Az T.P t z=true)(he:cB call ae (.allocL z) σ=some r):
  OpOKr T ((execOp (Act.mk tm ds).eval o).run T.P w) (OpPost T ae vs N g w tm r) (jY T ae vs N g w tm r):=by
 simp only[cB,aD]at he;obtain⟨i,v,hi,hzv,hc⟩:=Nc hz;obtain⟨h1,h2⟩:=GR (T:=T) (g:=g) (w:=w) hc;obtain⟨e1,e2,e3,e4⟩:=h.more (ae:=ae) (Ag w (.cells v.cells t));refine qL (v:=.pointer (some ⟨w.heap.size,0,none⟩)) (w':=w.alloc (.cells v.cells t)) ?_ he.symm e1 e2 (AVR.of_SV ?_)
 ·simp[execOp,ho,Instr.alloc,Gr hi hzv,Jt]
 ·exact⟨w.heap.size,v.cells,rfl,Xb (Ag w _) (fun k _=>by simp) h2 e3 e4,Vs.mono e1 h1⟩
theorem zmM(h:Rel T vs N g w σ tm){t:Nat}{z:List AV}{call:CallF}(ho:o.op=.alloc t)(hz:Az T.P t z=true)(he:cB call ae (.allocH z) σ=some r):
  OpOKr T ((execOp (Act.mk tm ds).eval o).run T.P w) (OpPost T ae vs N g w tm r) (jY T ae vs N g w tm r):=by
 simp only[cB,Ak.newObj,aD]at he;obtain⟨i,v,hi,hzv,hc⟩:=Nc hz;obtain⟨h1,h2⟩:=GR (T:=T) (g:=g) (w:=w) hc;have hl:=h1.length;obtain⟨e1,e2,e3⟩:=h.newObj (ae:=ae) (cs:=z) (Ag w (.cells v.cells t)) (fun k _=>by simp) h2 (by rw[ek (by omega)];exact h1) (by simp at hl;omega);refine qL (v:=.pointer (some ⟨w.heap.size,0,none⟩)) (w':=w.alloc (.cells v.cells t)) ?_ he.symm e1 e2 (.of_V (.ptr _ _ _ e3));simp[execOp,ho,Instr.alloc,Gr hi hzv,Jt]
theorem zmK(h:Rel T vs N g w σ tm){t ty:Nat}{z:List AV}{call:CallF}(ho:o.op=.alloc t)(hz:Az T.P t z=true)(ht:T.tm ty=t)(he:cB call ae (.allocT ty z) σ=some r):
  OpOKr T ((execOp (Act.mk tm ds).eval o).run T.P w) (OpPost T ae vs N g w tm r) (jY T ae vs N g w tm r):=by
 simp only[cB,aD]at he;obtain⟨i,v,hi,hzv,hc⟩:=Nc hz;obtain⟨h1,h2⟩:=GR (T:=T) (g:=g) (w:=w) hc;have hl:=h1.length;obtain⟨e1,e2,e3⟩:=h.newObj (ae:=ae) (cs:=z) (Ag w (.cells v.cells t)) (fun k _=>by simp) h2 (by rw[ek (by omega)];exact h1) (by simp at hl;omega);refine qL (v:=.pointer (some ⟨w.heap.size,0,none⟩)) (w':=w.alloc (.cells v.cells t)) ?_ he.symm e1 e2 (.of_V (.tptr ty _ _ _ _ e3 (by rw[ht,World.shape?,(Ag w (.cells v.cells t)).new];simp;simpa using hl.symm)));simp[execOp,ho,Instr.alloc,Gr hi hzv,Jt]
theorem zmE(h:Rel T vs N g w σ tm){t:Nat}{x:Operand}{y:Opd}{call:CallF}(ho:o.op=.box t x)(hc:bE T vs N x y=true)(he:cB call ae (.boxL y) σ=some r):
  OpOKr T ((execOp (Act.mk tm ds).eval o).run T.P w) (OpPost T ae vs N g w tm r) (jY T ae vs N g w tm r):=by
 simp only[cB]at he;split at he
 ·rename_i a σ' hq;simp only[aD]at he;obtain⟨g1,e1,e2,e3,e4,e5,_⟩:=ut (ds:=ds) (ae:=ae) h hc hq;obtain⟨h1,h2⟩:=V.cells e3 (V.defined e4) e5;obtain⟨k1,k2,k3,k4⟩:=e2.more (ae:=ae) (Ag w (.cells ((Act.mk tm ds).eval x).cells t));refine qL (v:=.pointer (some ⟨w.heap.size,0,none⟩)) (w':=w.alloc (.cells ((Act.mk tm ds).eval x).cells t)) ?_ he.symm (e1.trans k1) k2 (AVR.of_SV ?_)
  ·simp[execOp,ho,Instr.box,Jt]
  ·exact⟨w.heap.size,_,rfl,Xb (Ag w _) (fun k _=>by simp) h2 k3 k4,Vs.mono k1 h1⟩
 ·cases he
theorem zmF(h:Rel T vs N g w σ tm){t:Nat}{x:Operand}{y:Opd}{call:CallF}(ho:o.op=.box t x)(hc:bE T vs N x y=true)(he:cB call ae (.boxH y) σ=some r):
  OpOKr T ((execOp (Act.mk tm ds).eval o).run T.P w) (OpPost T ae vs N g w tm r) (jY T ae vs N g w tm r):=by
 simp only[cB]at he;split at he
 ·rename_i a σ' hq;simp only[Ak.newObj,aD]at he;obtain⟨g1,e1,e2,e3,e4,e5,_⟩:=ut (ds:=ds) (ae:=ae) h hc hq;obtain⟨h1,h2⟩:=V.cells e3 (V.defined e4) e5;have hl:=h1.length;obtain⟨k1,k2,k3⟩:=e2.newObj (ae:=ae) (cs:=a.cells) (Ag w (.cells ((Act.mk tm ds).eval x).cells t)) (fun k _=>by simp) h2 (by rw[ek (by omega)];exact h1) (by simp at hl;omega);refine qL (v:=.pointer (some ⟨w.heap.size,0,none⟩)) (w':=w.alloc (.cells ((Act.mk tm ds).eval x).cells t)) ?_ he.symm (e1.trans k1) k2 (.of_V (.ptr _ _ _ k3));simp[execOp,ho,Instr.box,Jt]
 ·cases he
theorem zmD(h:Rel T vs N g w σ tm){t ty:Nat}{x:Operand}{y:Opd}{call:CallF}(ho:o.op=.box t x)(hc:bE T vs N x y=true)(ht:T.tm ty=t)(he:cB call ae (.boxT ty y) σ=some r):
  OpOKr T ((execOp (Act.mk tm ds).eval o).run T.P w) (OpPost T ae vs N g w tm r) (jY T ae vs N g w tm r):=by
 simp only[cB]at he;split at he
 ·rename_i a σ' hq;simp only[aD]at he;obtain⟨g1,e1,e2,e3,e4,e5,_⟩:=ut (ds:=ds) (ae:=ae) h hc hq;obtain⟨h1,h2⟩:=V.cells e3 (V.defined e4) e5;have hl:=h1.length;obtain⟨k1,k2,k3⟩:=e2.newObj (ae:=ae) (cs:=a.cells) (Ag w (.cells ((Act.mk tm ds).eval x).cells t)) (fun k _=>by simp) h2 (by rw[ek (by omega)];exact h1) (by simp at hl;omega);refine qL (v:=.pointer (some ⟨w.heap.size,0,none⟩)) (w':=w.alloc (.cells ((Act.mk tm ds).eval x).cells t)) ?_ he.symm (e1.trans k1) k2 (.of_V (.tptr ty _ _ _ _ k3 (by rw[ht,World.shape?,(Ag w (.cells ((Act.mk tm ds).eval x).cells t)).new];simp;simpa using hl.symm)));simp[execOp,ho,Instr.box,Jt]
 ·cases he
end
end Go.Ak
