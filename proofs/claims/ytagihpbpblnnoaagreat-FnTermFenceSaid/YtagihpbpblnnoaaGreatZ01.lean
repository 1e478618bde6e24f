import Derived.Calls
import Derived.Orders
import Derived.Laws.Sem
import Derived.Laws.World
import Derived.Laws.Cells
import Derived.Laws.CopyRow
import Derived.Laws.AppendOwn
import Derived.Laws.StructEq
import Derived.KernelRfl
import Derived.ArgAppend
import Derived.Test.YtagihpbpblnnoaaGreatZ00
set_option linter.all false
namespace AH
open Go
inductive U where
 |bool (b:Bool)
 |int (k:IntKind) (n:Int)
 |str (s:ByteArray)
 |ptr (i k:Nat)
 |oS
 |sl (i k n e:Nat)
 |al
 |fn (f:FuncId) (first captured:List U)
 |lA
 |iface (t:TypeId) (v:U)
 |lB
 |agg (cs:List U)
 |cw (vs:List U)
 |undef
structure cT where
 cells:List U
 rw:Bool
structure af where
 n:Nat
 get:Nat→Option cT
def af.push(I:af)(B:cT):af:=⟨I.n+1,fun j=>if j=I.n then some B else I.get j⟩
def af.set(I:af)(i:Nat)(B:cT):af:=⟨I.n,fun j=>if j=i then some B else I.get j⟩
def af.kill(I:af)(i:Nat):af:=⟨I.n,fun j=>if j=i then none else I.get j⟩
@[simp] theorem af.kU(I:af)(B:cT):(I.push B).n=I.n+1:=rfl
@[simp] theorem af.rx(I:af)(i:Nat)(B:cT):(I.set i B).n=I.n:=rfl
@[simp] theorem af.jr(I:af)(i:Nat):(I.kill i).n=I.n:=rfl
theorem af.cu(I:af)(B:cT)(j:Nat):(I.push B).get j=if j=I.n then some B else I.get j:=rfl
theorem af.cX(I:af)(i:Nat)(B:cT)(j:Nat):(I.set i B).get j=if j=i then some B else I.get j:=rfl
theorem af.jW(I:af)(i j:Nat):(I.kill i).get j=if j=i then none else I.get j:=rfl
structure Loc where
 b:Nat
 o:Nat
 c:Nat
abbrev Mu:=Nat→Option Loc
inductive VR(ajR:Mu):U→Value→Prop
 |bool (b:Bool):VR ajR (.bool b) (.bool b)
 |int (k:IntKind) (n:Int):VR ajR (.int k n) (.int k n)
 |str (s:ByteArray):VR ajR (.str s) (.string s)
 |ptr (i k:Nat) (l:Loc) (h:ajR i=some l):VR ajR (.ptr i k) (.pointer (some ⟨l.b,l.o+k,none⟩))
 |oS:VR ajR .oS (.pointer none)
 |sl (i k n e cap:Nat) (l:Loc) (off:Nat) (h:ajR i=some l) (hn:n≤cap∧cap≤9223372036854775807)
   (ho:(off=l.o+k∧k+cap*e≤l.c)∨cap=0):VR ajR (.sl i k n e) (.slice (some ⟨l.b,off,none⟩) n cap)
 |al:VR ajR .al (.slice none 0 0)
 |fn (f:FuncId) (xs ys:List U) (us vs:Array Value) (hx:xs.length=us.size) (hy:ys.length=vs.size)
   (h:∀(j:Nat) (a:U) (u:Value),xs[j]? =some a→us[j]? =some u→VR ajR a u)
   (h':∀(j:Nat) (a:U) (u:Value),ys[j]? =some a→vs[j]? =some u→VR ajR a u):VR ajR (.fn f xs ys) (.func (.func f) us vs)
 |lA:VR ajR .lA .nilFunc
 |iface (t:TypeId) (a:U) (u:Value) (h:VR ajR a u):VR ajR (.iface t a) (.iface t u)
 |lB:VR ajR .lB .nilIface
 |agg (cs:List U) (us:Array Value) (hl:cs.length=us.size) (h:∀(j:Nat) (a:U) (u:Value),cs[j]? =some a→us[j]? =some u→VR ajR a u):VR ajR (.agg cs) (.agg us)
 |cw (cs:List U) (us:Array Value) (hl:cs.length=us.size) (h:∀(j:Nat) (a:U) (u:Value),cs[j]? =some a→us[j]? =some u→VR ajR a u):VR ajR (.cw cs) (.tuple us)
 |undef (u:Value):VR ajR .undef u
def fW(ajR:Mu)(cs:List U)(us:List Value):Prop:=
 cs.length=us.length∧∀(j:Nat) (a:U) (u:Value),cs[j]? =some a→us[j]? =some u→VR ajR a u
structure mB(ajR:Mu)(w:World)(B:cT)(l:Loc):Prop where
 ex:∃arr el fr,w.heap[l.b]? =some (.cells arr el fr)∧l.o+l.c≤arr.size∧B.cells.length≤l.c∧(B.rw=true→fr=(0,0))∧
  ∀(j:Nat) (a:U),B.cells[j]? =some a→∃u,arr[l.o+j]? =some u∧VR ajR a u
def Loc.has(l:Loc)(b o:Nat):Prop:=b=l.b∧0≤o∧0≤o
def Loc.apart(l m:Loc):Prop:=∀b o,l.has b o→¬m.has b o
structure Rel(ajR:Mu)(I:af)(w:World):Prop where
 pe:∀i l,ajR i=some l→i<I.n
 lO:∀i B l,I.get i=some B→ajR i=some l→mB ajR w B l
 sep:∀i j B C l m,i≠j→I.get i=some B→I.get j=some C→B.rw=true→ajR i=some l→ajR j=some m→l.apart m
def H4(ajR:Mu)(I:af)(b o:Nat):Prop:=∃i B l,I.get i=some B∧B.rw=true∧ajR i=some l∧l.has b o
structure Step(ajR:Mu)(I:af)(w:World)(μ':Mu)(σ':af)(w':World):Prop where
 os:w'.os=w.os
 tape:w'.tape=w.tape
 output:w'.output=w.output
 size:w.heap.size≤w'.heap.size
 n:I.n≤σ'.n
 ext:∀i,i<I.n→μ' i=ajR i
 yq:∀b o,b<w.heap.size→H4 μ' σ' b o→H4 ajR I b o
 cells:∀(b:Nat) arr el fr,w.heap[b]? =some (.cells arr el fr)→∃jb,w'.heap[b]? =some (.cells jb el fr)∧jb.size=arr.size∧
  ∀o,¬H4 ajR I b o→jb[o]? =arr[o]?
 ro:∀i B,i<I.n→σ'.get i=some B→B.rw=false→∃B',I.get i=some B'∧B'.rw=false
 AP:∀i B,I.n≤i→i<σ'.n→σ'.get i=some B→B.rw=true
 other:∀(b:Nat) (ob:Obj),w.heap[b]? =some ob→(∀arr el fr,ob≠Obj.cells arr el fr)→w'.heap[b]? =some ob
def jY:Value→U
 | .bool b=> .bool b
 | .int k n=> .int k n
 | .string s=> .str s
 | .pointer none=> .oS
 | .slice none 0 0=> .al
 | .nilFunc=> .lA
 | .nilIface=> .lB
 |_=> .undef
def ofValue:Value→U
 | .agg cs=> .agg (cs.toList.map jY)
 |v=>jY v
def tL:TypeDesc→Bool
 | .struct _| .array _ _=>true
 |_=>false
def fq(P:Program)(t:TypeId):Option (Bool×Nat):=
 match P.underlying t,P.info? t with
 |some d,some i=>some (tL d,i.size)
 |_,_=>none
def br(P:Program)(s f:Nat):Option Nat:=
 match P.underlying s with
 |some (.struct fs)=>match fs[f]? with
  |some fd=>match P.info? fd.type with
   |some i=>if i.size=0 then none else some fd.offset
   |none=>none
  |none=>none
 |_=>none
def bR(P:Program)(t:TypeId):Option (Nat×Nat×List U):=
 match P.underlying t with
 |some (.slice e)=>match P.info? e with
  |some i=>match i.zero with
   |some z=>if z.cells.size=i.size∧0<i.size then some (i.size,i.bytes,z.cells.toList.map jY)else none
   |none=>none
  |none=>none
 |_=>none
def A8(P:Program)(t:TypeId):Option (Nat×Nat):=
 match P.underlying t with
 |some (.array n e)=>match P.info? e with
  |some i=>some (n,i.size)
  |none=>none
 |_=>none
def eJ(P:Program)(t:TypeId):Option (List U):=
 match P.info? t with
 |some i=>match i.zero with
  |some z=>some (z.cells.toList.map jY)
  |none=>none
 |none=>none
def fB(P:Program)(t:TypeId):Option (List (Nat×Nat)):=
 match P.underlying t with
 |some (.struct fs)=>fs.toList.mapM fun f=>(P.info? f.type).map fun i=>(f.offset,i.size)
 |_=>none
def U.cells:U→Option (List U)
 | .agg cs=>some cs
 | .cw _| .undef=>none
 |v=>some [v]
def U.one:U→Bool
 | .agg _| .cw _| .undef=>false
 |_=>true
def aB{α:Type}(cs:List α)(k:Nat)(vs:List α):List α:=cs.take k++vs++cs.drop (k+vs.length)
def iE(place:Nat→Option (Nat×Nat))(cells:List U):List (Nat×U)→Option (List U)
 |[]=>some cells
 |(i,v)::rest=>
  match place i,v.cells with
  |some (off,size),some vs=>if vs.length=size∧off+size≤cells.length then iE place (aB cells off vs) rest else none
  |_,_=>none
def pq(f:TypeId→U→U→Option Bool):List Field→List U→List U→Option Bool
 |[],_,_=>some true
 |fd::fs,xs,ys=>
  if fd.name= "_" then none else
  match xs[fd.offset]?,ys[fd.offset]? with
  |some a,some b=>match f fd.type a b with
   |some true=>pq f fs xs ys
   |some false=>some false
   |none=>none
  |_,_=>none
def qn(P:Program)(t:TypeId)(a b:U):Option Bool:=
 match P.underlying t,a,b with
 |some .bool,.bool x,.bool y=>some (x==y)
 |some (.int _),.int k x,.int k' y=>if k=k' then some (x==y)else none
 |some .string,.str x,.str y=>some (x==y)
 |_,_,_=>none
def Ft(P:Program)(t:TypeId)(xs ys:List U):Option Bool:=
 match P.underlying t with
 |some (.struct fs)=>if P.stoodInHeld t=false∧P.eqGuardType P.depth t=false then pq (qn P) fs.toList xs ys else none
 |_=>none
def lJ(op:BinOp)(k:IntKind)(a b:Int):Option U:=
 match op with
 | .add=>some (.int k (k.wrap (a+b)))
 | .sub=>some (.int k (k.wrap (a-b)))
 | .mul=>some (.int k (k.wrap (a*b)))
 | .quo=>if b=0 then none else some (.int k (k.wrap (a.tdiv b)))
 | .rem=>if b=0 then none else some (.int k (a.tmod b))
 | .and=>some (.int k (k.wrap (BitVec.ofInt k.bits a &&& BitVec.ofInt k.bits b).toNat))
 | .or=>some (.int k (k.wrap (BitVec.ofInt k.bits a ||| BitVec.ofInt k.bits b).toNat))
 | .xor=>some (.int k (k.wrap (BitVec.ofInt k.bits a ^^^ BitVec.ofInt k.bits b).toNat))
 | .eql=>some (.bool (a==b))
 | .neq=>some (.bool (a != b))
 | .lss=>some (.bool (decide (a<b)))
 | .leq=>some (.bool (decide (a≤b)))
 | .gtr=>some (.bool (decide (a>b)))
 | .geq=>some (.bool (decide (a≥b)))
 |_=>none
def mQ(op:BinOp)(k:IntKind)(a b:Int):Option U:=
 if b<0 then none else
 match op with
 | .shl=>some (.int k (k.wrap (a*2^(min b.toNat k.bits))))
 | .shr=>some (.int k (a.fdiv (2^(min b.toNat k.bits))))
 |_=>none
def eB(P:Program)(op:BinOp)(t:TypeId)(x y:U):Option U:=
 match x,y with
 | .int k a,.int k' b=>
   if op= .shl∨op= .shr then mQ op k a b else if k=k' then lJ op k a b else none
 | .bool a,.bool b=>match op with
   | .eql=>(qn P t (.bool a) (.bool b)).map .bool
   | .neq=>(qn P t (.bool a) (.bool b)).map fun r=> .bool (!r)
   |_=>none
 | .agg xs,.agg ys=>match op with
   | .eql=>(Ft P t xs ys).map .bool
   | .neq=>(Ft P t xs ys).map fun r=> .bool (!r)
   |_=>none
 | .str a,.str b=>match op with
   | .eql=>some (.bool (a==b))
   | .neq=>some (.bool (a != b))
   | .add=>if a.size+b.size≤9223372036854775807 then some (.str (a++b))else none
   |_=>none
 |a,.al=>match P.underlying t,op,a with
  |some (.slice _),.eql,.al=>some (.bool true)
  |some (.slice _),.eql,.sl .. =>some (.bool false)
  |some (.slice _),.neq,.al=>some (.bool false)
  |some (.slice _),.neq,.sl .. =>some (.bool true)
  |_,_,_=>none
 |_,_=>none
def qp(P:Program)(t:TypeId)(x i:U):Option U:=
 match i with
 | .int _ i=>match x with
   | .agg cs=>match P.underlying t with
     |some (.array n el)=>match fq P el with
      |some (false,e)=>if 0≤i∧i<n then cs[i.toNat*e]? else none
      |_=>none
     |_=>none
   | .str s=>match P.underlying t with
     |some .string=>if 0≤i then(s[i.toNat]?).map fun b=> .int .u8 b.toNat else none
     |_=>none
   |_=>none
 |_=>none
def Tp(op:UnOp)(x:U):Option U:=
 match op,x with
 | .neg,.int k n=>some (.int k (k.wrap (0-n)))
 | .not,.bool b=>some (.bool !b)
 |_,_=>none
def mM(d:Int):Option U→Option Int
 |none=>some d
 |some (.int _ q)=>some q
 |some _=>none
def jN(e':Nat)(x:U)(lo hi:Option U):Option U:=
 match x with
 | .sl i k n e=>
   match mM 0 lo,mM n hi with
   |some l,some h=>if e=e'∧0≤l∧l≤h∧h≤n then some (.sl i (k+l.toNat*e) (h.toNat-l.toNat) e)else none
   |_,_=>none
 |_=>none
def n9:U→U→Option U
 | .int k x,.int _ y=>some (.int k (if y>x then y else x))
 |_,_=>none
def n_:U→U→Option U
 | .int k x,.int _ y=>some (.int k (if y<x then y else x))
 |_,_=>none
def ja(P:Program)(t:TypeId)(a:U)(I:af):Option U:=
 match a with
 | .ptr i k=>match I.get i,fq P t with
   |some B,some (true,n)=>if k+n≤B.cells.length then some (.agg ((B.cells.drop k).take n))else none
   |some B,some (false,_)=>B.cells[k]?
   |_,_=>none
 |_=>none
def kH(P:Program)(t:TypeId)(a v:U)(I:af):Option af:=
 match a,v.cells,fq P t with
 | .ptr i k,some vs,some (_,n)=>match I.get i with
   |some B=>if B.rw=true∧vs.length=n∧k+n≤B.cells.length∧vs.all U.one=true then some (I.set i ⟨aB B.cells k vs,true⟩)else none
   |none=>none
 |_,_,_=>none
def fZ(e:Nat)(x:U)(I:af):Option (List U):=
 match x with
 | .al=>some []
 | .sl j k m e'=>if m=0 then some []else match I.get j with
   |some B=>if e'=e∧k+m*e≤B.cells.length∧((B.cells.drop k).take (m*e)).all U.one=true then some ((B.cells.drop k).take (m*e))else none
   |none=>none
 |_=>none
def eC:U→Option Nat
 | .al=>some 0
 | .sl _ _ n _=>some n
 | .str s=>some s.size
 |_=>none
def cJ(P:Program)(t:TypeId)(s x:U)(I:af):Option (U×af):=
 match bR P t with
 |none=>none
 |some (e,vt,_)=>
  match fZ e x I,eC x with
  |some vs,some m=>
   match s with
   | .al=>if m=0 then some (.al,I)else
     if m*vt≤140737488355328∧m≤9223372036854775807 then some (.sl I.n 0 m e,I.push ⟨vs,true⟩)else none
   | .sl i k n e'=>
     match I.get i with
     |some B=>if B.rw=true∧e'=e∧k+n*e=B.cells.length∧(n+m)*vt≤140737488355328∧n+m≤9223372036854775807 then
       some (.sl I.n 0 (n+m) e,(I.kill i).push ⟨B.cells.drop k++vs,true⟩)else if m=0 then some (.sl i k n e',I)else none
     |none=>if m=0 then some (.sl i k n e',I)else none
   |_=>none
  |_,_=>none
def qU(P:Program)(t:TypeId)(d x:U)(I:af):Option (U×af):=
 match bR P t,d,eC x with
 |some (e,_),.sl i k n e',some m=>
  if min m n=0 then some (.int .i64 0,I)else
  match x with
  | .sl j k' _ ex=>match fZ e (.sl j k' (min m n) ex) I,I.get i with
    |some vs,some B=>if B.rw=true∧e'=e∧k+n*e≤B.cells.length then some (.int .i64 (min m n:Nat),I.set i ⟨aB B.cells k vs,true⟩)else none
    |_,_=>none
  |_=>none
 |some _,.al,some _=>some (.int .i64 0,I)
 |_,_,_=>none
def qm(P:Program)(t:TypeId)(x:U)(I:af):Option (U×af):=
 match bR P t,x with
 |some _,.al=>some (.cw [],I)
 |some (e,_,z),.sl i k n e'=>
  if n=0 then some (.cw [],I)else
  match I.get i with
  |some B=>if B.rw=true∧e'=e∧k+n*e≤B.cells.length∧z.all U.one=true then some (.cw [],I.set i ⟨aB B.cells k (List.replicate n z).flatten,true⟩)else none
  |none=>none
 |_,_=>none
def kw(P:Program)(t:TypeId)(l c:U)(I:af):Option (U×af):=
 match bR P t,l,c with
 |some (e,vt,z),.int .i64 l,.int .i64 c=>
  if 0≤l∧l≤c∧c<9223372036854775807∧vt*c≤140737488355328 then some (.sl I.n 0 l.toNat e,I.push ⟨(List.replicate l.toNat z).flatten,true⟩)else none
 |_,_,_=>none
def db(P:Program)(ajS:Operand→U)(op:Op)(I:af):Option (U×af):=
 match op with
 | .move x| .assign x=>some (ajS x,I)
 | .pick c a b=>match ajS c with
   | .bool t=>some (if t then ajS a else ajS b,I)
   |_=>none
 | .alloc e=>(eJ P e).map fun z=>(.ptr I.n 0,I.push ⟨z,true⟩)
 | .box _ x=>(ajS x).cells.map fun cs=>(.ptr I.n 0,I.push ⟨cs,true⟩)
 | .build t parts=>match eJ P t,fB P t with
   |some z,some pl=>(iE (pl[·]?) z (parts.toList.map fun(i,x)=>(i,ajS x))).map fun cs=>(.agg cs,I)
   |_,_=>none
 | .buildSlice t len parts=>match bR P t with
   |some (e,_,z)=>if len*e≤16777216 then
     (iE (fun i=>some (i*e,e)) (List.replicate len z).flatten (parts.toList.map fun(i,x)=>(i,ajS x))).map fun cs=>(.sl I.n 0 len e,I.push ⟨cs,true⟩)
    else none
   |none=>none
 | .load t a=>(ja P t (ajS a) I).map fun v=>(v,I)
 | .store t a x=>(kH P t (ajS a) (ajS x) I).map fun σ'=>(.undef,σ')
 | .nilCheck x=>match ajS x with
   | .ptr i k=>some (.ptr i k,I)
   | .fn f a b=>some (.fn f a b,I)
   |_=>none
 | .binOp op t x y _=>(eB P op t (ajS x) (ajS y)).map fun v=>(v,I)
 | .unOp op _ x=>(Tp op (ajS x)).map fun v=>(v,I)
 | .convert src dst x=>match P.underlying src,P.underlying dst,ajS x with
   |some _,some (.int k),.int _ n=>some (.int k (k.wrap n),I)
   |_,_,_=>none
 | .makeFunc (.func f) a b=>some (.fn f (a.toList.map ajS) (b.toList.map ajS),I)
 | .makeSlice t l c=>kw P t (ajS l) (ajS c) I
 | .slice t x lo hi none=>match bR P t with
   |some (e,_)=>(jN e (ajS x) (lo.map ajS) (hi.map ajS)).map fun v=>(v,I)
   |none=>none
 | .fieldAddr s x f=>match ajS x,br P s f with
   | .ptr i k,some off=>some (.ptr i (k+off),I)
   |_,_=>none
 | .indexAddr t x ix=>match ajS ix with
   | .int _ i=>match ajS x with
     | .sl b k n e=>match bR P t with
       |some (e',_)=>if e=e'∧0≤i∧i<n then some (.ptr b (k+i.toNat*e),I)else none
       |none=>none
     | .ptr b k=>match A8 P t with
       |some (n,e)=>if 0≤i∧i<n then some (.ptr b (k+i.toNat*e),I)else none
       |none=>none
     |_=>none
   |_=>none
 | .index t x ix=>(qp P t (ajS x) (ajS ix)).map fun v=>(v,I)
 | .extract t i=>match ajS t with
   | .cw vs=>(vs[i]?).map fun v=>(v,I)
   |_=>none
 | .call ⟨.builtin b,args,ts⟩=>match b,args.toList,ts.toList with
   | .len,[x],[t]=>match P.underlying t,eC (ajS x),ajS x with
     |some (.slice _),some n,.sl .. =>some (.int .i64 n,I)
     |some (.slice _),some n,.al=>some (.int .i64 n,I)
     |some .string,some n,.str _=>some (.int .i64 n,I)
     |_,_,_=>none
   | .append,[s,x],[t,tx]=>if tx=t then cJ P t (ajS s) (ajS x) I else none
   | .copy,[d,x],[t,_]=>qU P t (ajS d) (ajS x) I
   | .clear,[x],[t]=>qm P t (ajS x) I
   | .max,x::xs,_=>(xs.foldlM (fun a y=>n9 a (ajS y)) (ajS x)).map fun v=>(v,I)
   | .min,x::xs,_=>(xs.foldlM (fun a y=>n_ a (ajS y)) (ajS x)).map fun v=>(v,I)
   |_,_,_=>none
 |_=>none
end AH
namespace AH
open Go
def Mu.gl(ajR:Mu)(i:Nat)(l:Loc):Mu:=fun j=>if j=i then some l else ajR j
theorem VR.mono{ajR μ':Mu}{a:U}{u:Value}(h:VR ajR a u)(hm:∀i l,ajR i=some l→μ' i=some l):VR μ' a u:=by
 induction h with
 |bool b=>exact .bool b
 |int k n=>exact .int k n
 |str s=>exact .str s
 |ptr i k l h=>exact .ptr i k l (hm _ _ h)
 |oS=>exact .oS
 |sl i k n e cap l off h hn ho=>exact .sl i k n e cap l off (hm _ _ h) hn ho
 |al=>exact .al
 |fn f xs ys us vs hx hy _ _ ih QY=>exact .fn f xs ys us vs hx hy ih QY
 |lA=>exact .lA
 |iface t a u _ ih=>exact .iface t a u ih
 |lB=>exact .lB
 |agg cs us hl _ ih=>exact .agg cs us hl ih
 |cw cs us hl _ ih=>exact .cw cs us hl ih
 |undef u=>exact .undef u
theorem fW.mono{ajR μ':Mu}{cs:List U}{us:List Value}(h:fW ajR cs us)(hm:∀i l,ajR i=some l→μ' i=some l):fW μ' cs us:=
 ⟨h.1,fun j a u ha hu=>(h.2 j a u ha hu).mono hm⟩
theorem fW.nil(ajR:Mu):fW ajR [] []:=⟨rfl,fun j a u ha _=>by simp at ha⟩
theorem fW.cons{ajR:Mu}{a:U}{u:Value}{cs:List U}{us:List Value}(h:VR ajR a u)(hs:fW ajR cs us):fW ajR (a::cs) (u::us):=by
 refine⟨by simp[hs.1],fun j b v hb hv=>?_⟩
 cases j with
 |zero=>simp at hb hv;subst hb;subst hv;exact h
 |succ j=>exact hs.2 j b v (by simpa using hb) (by simpa using hv)
theorem fW.append{ajR:Mu}{cs ds:List U}{us vs:List Value}(h:fW ajR cs us)(h':fW ajR ds vs):fW ajR (cs++ds) (us++vs):=by
 refine⟨by simp[h.1,h'.1],fun j a u ha hu=>?_⟩
 by_cases hj:j<cs.length
 ·rw[List.getElem?_append_left hj]at ha
  rw[List.getElem?_append_left (h.1▸hj)]at hu
  exact h.2 j a u ha hu
 ·rw[List.getElem?_append_right J]at ha
  rw[List.getElem?_append_right (by rw[←h.1];omega)]at hu
  rw[←h.1]at hu
  exact h'.2 _ a u ha hu
theorem fW.drop{ajR:Mu}{cs:List U}{us:List Value}(h:fW ajR cs us)(k:Nat):fW ajR (cs.drop k) (us.drop k):=
 ⟨by simp[h.1],fun j a u ha hu=>h.2 (k+j) a u (by simpa[List.getElem?_drop]using ha) (by simpa[List.getElem?_drop]using hu)⟩
theorem fW.take{ajR:Mu}{cs:List U}{us:List Value}(h:fW ajR cs us)(k:Nat):fW ajR (cs.take k) (us.take k):=by
 refine⟨by simp[h.1],fun j a u ha hu=>?_⟩
 rw[List.getElem?_take]at ha hu
 split at ha
 ·rename_i hj
  rw[if_pos hj]at hu
  exact h.2 j a u ha hu
 ·cases ha
theorem fW.DE{ajR:Mu}{cs:List U}{us:Array Value}(hl:cs.length=us.size)
 (h:∀(j:Nat) (a:U) (u:Value),cs[j]? =some a→us[j]? =some u→VR ajR a u):fW ajR cs us.toList:=
 ⟨by simpa using hl,fun j a u ha hu=>h j a u ha (by simpa using hu)⟩
theorem fW.agg{ajR:Mu}{cs:List U}{us:List Value}(h:fW ajR cs us):VR ajR (.agg cs) (.agg us.toArray):=
 .agg cs _ (by simp[h.1]) fun j a u ha hu=>h.2 j a u ha (by simpa using hu)
theorem fW.cw{ajR:Mu}{cs:List U}{us:List Value}(h:fW ajR cs us):VR ajR (.cw cs) (.tuple us.toArray):=
 .cw cs _ (by simp[h.1]) fun j a u ha hu=>h.2 j a u ha (by simpa using hu)
theorem fW.map{ajR:Mu}{α:Type}(l:List α)(f:α→U)(g:α→Value)(h:∀x∈l,VR ajR (f x) (g x)):fW ajR (l.map f) (l.map g):=by
 induction l with
 |nil=>exact fW.nil ajR
 |cons x l ih=>exact fW.cons (h x aV) (ih fun y hy=>h y (by simp[hy]))
theorem fW.get{ajR:Mu}{cs:List U}{us:List Value}(h:fW ajR cs us){j:Nat}{a:U}(ha:cs[j]? =some a):∃u,us[j]? =some u∧VR ajR a u:=by
 have hj:j<cs.length:=by
  rcases Nat.lt_or_ge j cs.length with h'|h'
  ·exact h'
  ·rw[List.getElem?_eq_none h']at ha;cases ha
 have hu:us[j]? =some (us[j]'(h.1▸hj)):=List.getElem?_eq_getElem _
 exact⟨_,hu,h.2 j a _ ha hu⟩
theorem fW.aB{ajR:Mu}{cs:List U}{us:List Value}(h:fW ajR cs us){vs:List U}{ws:List Value}(h':fW ajR vs ws)(k:Nat):
 fW ajR (aB cs k vs) (aB us k ws):=by
 unfold AH.aB
 rw[←h'.1]
 exact((h.take k).append h').append (h.drop _)
theorem vc(ajR:Mu)(c:Value):VR ajR (jY c) c:=by
 unfold jY
 split<;>constructor
theorem iN(ajR:Mu)(us:List Value):fW ajR (us.map jY) us:=by
 have:=fW.map (ajR:=ajR) us jY id fun x _=>vc ajR x
 simpa using this
theorem B7(ajR:Mu)(v:Value):VR ajR (ofValue v) v:=by
 unfold ofValue
 split
 ·rename_i cs
  have:=(iN ajR cs.toList).agg
  simpa using this
 ·exact vc ajR v
theorem VR.cells{ajR:Mu}{a:U}{u:Value}(h:VR ajR a u){cs:List U}(hc:a.cells=some cs):fW ajR cs u.cells.toList:=by
 cases h<;>simp only[U.cells,Option.some.injEq,reduceCtorEq]at hc<;>subst hc<;>simp only[Value.cells]
 case agg us hl h=>exact fW.DE hl h
 all_goals refine fW.cons ?_ (fW.nil ajR)
 case bool=>exact .bool _
 case int=>exact .int _ _
 case str=>exact .str _
 case ptr i k l h=>exact .ptr i k l h
 case oS=>exact .oS
 case sl i k n e cap l off h hn ho=>exact .sl i k n e cap l off h hn ho
 case al=>exact .al
 case fn f xs ys us vs hx hy h h'=>exact .fn f xs ys us vs hx hy h h'
 case lA=>exact .lA
 case iface t a u h=>exact .iface t a u h
 case lB=>exact .lB
theorem VR.Nz{ajR:Mu}{a:U}{u:Value}(h:VR ajR a u)(ha:a.one=true):u.oneCell'=true:=by
 cases h<;>simp_all[U.one,Value.oneCell']
theorem fW.tP{ajR:Mu}{cs:List U}{us:List Value}(h:fW ajR cs us)(ha:cs.all U.one=true):∀u∈us,u.oneCell'=true:=by
 intro u hu
 obtain⟨j,hj,rfl⟩:=List.mem_iff_getElem.1 hu
 have So:j<cs.length:=h.1▸hj
 have h1:cs[j]? =some cs[j]:=List.getElem?_eq_getElem So
 have h2:us[j]? =some us[j]:=List.getElem?_eq_getElem hj
 exact(h.2 j _ _ h1 h2).Nz (by rw[List.all_eq_true]at ha;exact ha _ (List.getElem_mem So))
theorem Step.refl(ajR:Mu)(I:af)(w:World):Step ajR I w ajR I w:=
 ⟨rfl,rfl,rfl,Nat.le_refl _,Nat.le_refl _,fun _ _=>rfl,fun _ _ _ h=>h,fun _ arr _ _ h=>⟨arr,h,rfl,fun _ _=>rfl⟩,fun _ B _ h h'=>⟨B,h,h'⟩,fun _ _ h h'=>absurd h' (Nat.not_lt.2 h),fun _ _ h _=>h⟩
theorem Step.trans{ajR μ' LR:Mu}{I σ' LU:af}{w w' Pn:World}(h:Step ajR I w μ' σ' w')(h':Step μ' σ' w' LR LU Pn):Step ajR I w LR LU Pn:=by
 refine⟨h'.os.trans h.os,h'.tape.trans h.tape,h'.output.trans h.output,Nat.le_trans h.size h'.size,Nat.le_trans h.n h'.n,
  fun i hi=>(h'.ext i (Nat.lt_of_lt_of_le hi h.n)).trans (h.ext i hi),fun b o hb ht=>h.yq b o hb (h'.yq b o (Nat.lt_of_lt_of_le hb h.size) ht),?_,?_,?_,?_⟩
 ·intro b arr el fr hb
  have Db:b<w.heap.size:=(Array.getElem?_eq_some_iff.1 hb).1
  obtain⟨jb,eR,BW,na⟩:=h.cells b arr el fr hb
  obtain⟨To,aae,abd,aa0⟩:=h'.cells b jb el fr eR
  exact⟨To,aae,abd.trans BW,fun o ht=>(aa0 o fun h2=>ht (h.yq b o Db h2)).trans (na o ht)⟩
 ·intro i B hi hB hr
  obtain⟨B',C_,yG⟩:=h'.ro i B (Nat.lt_of_lt_of_le hi h.n) hB hr
  exact h.ro i B' hi C_ yG
 ·intro i B hi hi' hB
  rcases Nat.lt_or_ge i σ'.n with dG|Dc
  ·cases hr:B.rw with
   |true=>rfl
   |false=>
    obtain⟨B',C_,yG⟩:=h'.ro i B dG hB hr
    rw[h.AP i B' hi dG C_]at yG
    cases yG
  ·exact h'.AP i B Dc hi' hB
 ·intro b ob hb hn
  exact h'.other b ob (h.other b ob hb hn) hn
theorem Step.drew(ajR:Mu)(I:af)(w:World):Step ajR I w ajR I w.drew:=
 ⟨rfl,rfl,rfl,Nat.le_refl _,Nat.le_refl _,fun _ _=>rfl,fun _ _ _ h=>h,fun _ arr _ _ h=>⟨arr,h,rfl,fun _ _=>rfl⟩,fun _ B _ h h'=>⟨B,h,h'⟩,fun _ _ h h'=>absurd h' (Nat.not_lt.2 h),fun _ _ h _=>h⟩
theorem Rel.drew{ajR:Mu}{I:af}{w:World}(h:Rel ajR I w):Rel ajR I w.drew:=⟨h.pe,fun i B l hB hl=>⟨(h.lO i B l hB hl).ex⟩,h.sep⟩
theorem mB.rows{ajR:Mu}{w:World}{B:cT}{l:Loc}(h:mB ajR w B l):∃us,fW ajR B.cells us∧∀(j:Nat) (u:Value),us[j]? =some u→w.cell? ⟨l.b,l.o+j,none⟩=some u:=by
 obtain⟨arr,el,fr,hb,hs,hlen,_,hc⟩:=h.ex
 refine⟨(arr.toList.drop l.o).take B.cells.length,⟨bX,?_⟩,?_⟩
 ·intro j a u ha hu
  obtain⟨u',po,hv⟩:=hc j a ha
  rw[List.getElem?_take]at hu
  split at hu
  ·rw[List.getElem?_drop]at hu
   simp only[Array.getElem?_toList]at hu
   rw[po]at hu
   cases hu
   exact hv
  ·cases hu
 ·intro j u hu
  rw[List.getElem?_take]at hu
  split at hu
  ·rw[List.getElem?_drop]at hu
   simp only[Array.getElem?_toList]at hu
   simp[World.cell?,hb,hu]
  ·cases hu
theorem mB.lt{ajR:Mu}{w:World}{B:cT}{l:Loc}(h:mB ajR w B l):l.b<w.heap.size:=by
 obtain⟨arr,el,fr,hb,_⟩:=h.ex
 exact(Array.getElem?_eq_some_iff.1 hb).1
theorem Rel.uh{ajR:Mu}{I:af}{w:World}(h:Rel ajR I w)(l:Loc):∀i m,ajR i=some m→Mu.gl ajR I.n l i=some m:=by
 intro i m hm
 have:=h.pe i m hm
 simp[Mu.gl,hm,Nat.ne_of_lt this]
theorem mB.mono{ajR μ':Mu}{w:World}{B:cT}{l:Loc}(h:mB ajR w B l)(hm:∀i l,ajR i=some l→μ' i=some l):mB μ' w B l:=by
 obtain⟨arr,el,fr,hb,hs,hlen,iC,hc⟩:=h.ex
 exact⟨arr,el,fr,hb,hs,hlen,iC,fun j a ha=>let⟨u,hu,hv⟩:=hc j a ha;⟨u,hu,hv.mono hm⟩⟩
theorem Rel.alloc{ajR:Mu}{I:af}{w:World}(h:Rel ajR I w)(cs:List U)(us:List Value)(rest:List Value)(el:TypeId)(hv:fW ajR cs us):
 Rel (ajR.gl I.n ⟨w.heap.size,0,(us++rest).length⟩) (I.push ⟨cs,true⟩) (w.alloc (.cells (us++rest).toArray el))∧
 Step ajR I w (ajR.gl I.n ⟨w.heap.size,0,(us++rest).length⟩) (I.push ⟨cs,true⟩) (w.alloc (.cells (us++rest).toArray el)):=by
 have iH:=h.uh ⟨w.heap.size,0,(us++rest).length⟩
 have mD:(w.alloc (.cells (us++rest).toArray el)).heap[w.heap.size]? =some (.cells (us++rest).toArray el):=by
  show(w.heap.push _)[w.heap.size]? =_
  simp
 have hold:∀(b:Nat),b<w.heap.size→(w.alloc (.cells (us++rest).toArray el)).heap[b]? =w.heap[b]? :=by
  intro b hb
  show(w.heap.push _)[b]? =_
  simp[Array.getElem?_push,Nat.ne_of_lt hb]
 have tk:∀i B l,i≠I.n→(I.push ⟨cs,true⟩).get i=some B→(ajR.gl I.n ⟨w.heap.size,0,(us++rest).length⟩) i=some l→I.get i=some B∧ajR i=some l:=by
  intro i B l hi hB hl
  simp only[af.push,Mu.gl,if_neg hi]at hB hl
  exact⟨hB,hl⟩
 refine⟨⟨?_,?_,?_⟩,?_⟩
 ·intro i l hl
  simp only[Mu.gl]at hl
  simp only[af.push]
  split at hl
  ·omega
  ·have:=h.pe i l hl;omega
 ·intro i B l hB hl
  by_cases hi:i=I.n
  ·subst hi
   simp only[af.push,Mu.gl,if_true,Option.some.injEq]at hB hl
   subst hB;subst hl
   refine⟨_,_,_,mD,aV,by simp[hv.1],fun _=>rfl,?_⟩
   intro j a ha
   obtain⟨u,hu,Gm⟩:=hv.get ha
   have hj:j<us.length:=(List.getElem?_eq_some_iff.1 hu).1
   exact⟨u,by simp[List.getElem?_append_left hj,hu],Gm.mono iH⟩
  ·obtain⟨hB,hl⟩:=tk i B l hi hB hl
   obtain⟨arr,RW,fr,hb,KM⟩:=((h.lO i B l hB hl).mono iH).ex
   exact⟨arr,RW,fr,(hold _ (h.lO i B l hB hl).lt).trans hb,KM⟩
 ·intro i j B C l m gW hB hC iC hl hm
  by_cases hi:i=I.n
  ·have hj:j≠I.n:=fun e=>gW (hi.trans e.symm)
   obtain⟨hC,hm⟩:=tk j C m hj hC hm
   subst hi
   simp only[Mu.gl,if_true,Option.some.injEq]at hl
   subst hl
   intro b o h1 h2
   have:=(h.lO j C m hC hm).lt
   have e1:=h1.1;have e2:=h2.1
   dsimp only at e1
   omega
  ·obtain⟨hB,hl⟩:=tk i B l hi hB hl
   by_cases hj:j=I.n
   ·subst hj
    simp only[Mu.gl,if_true,Option.some.injEq]at hm
    subst hm
    intro b o h1 h2
    have:=(h.lO i B l hB hl).lt
    have e1:=h1.1;have e2:=h2.1
    dsimp only at e2
    omega
   ·obtain⟨hC,hm⟩:=tk j C m hj hC hm
    exact h.sep i j B C l m gW hB hC iC hl hm
 ·refine⟨rfl,rfl,rfl,aV,by simp[af.push],?_,?_,?_,?_,?_,?_⟩
  ·intro i hi;simp[Mu.gl,Nat.ne_of_lt hi]
  ·rintro b o hb ⟨i,B,l,hB,iC,hl,h1⟩
   by_cases hi:i=I.n
   ·subst hi
    simp only[Mu.gl,if_true,Option.some.injEq]at hl
    subst hl
    have:=h1.1
    dsimp only at this
    omega
   ·obtain⟨hB,hl⟩:=tk i B l hi hB hl
    exact⟨i,B,l,hB,iC,hl,h1⟩
  ·intro b arr RW fr hb
   exact⟨arr,(hold _ (Array.getElem?_eq_some_iff.1 hb).1).trans hb,rfl,fun _ _=>rfl⟩
  ·intro i B hi hB hr
   rw[af.cu,if_neg (Nat.ne_of_lt hi)]at hB
   exact⟨B,hB,hr⟩
  ·intro i B hi hi' hB
   have:i=I.n:=by rw[af.kU]at hi';omega
   rw[af.cu,if_pos this]at hB
   cases hB;rfl
  ·intro b ob hb _
   exact(hold _ (Array.getElem?_eq_some_iff.1 hb).1).trans hb
theorem Rel.write{ajR:Mu}{I:af}{w w':World}(h:Rel ajR I w){i:Nat}{B:cT}{l:Loc}(hB:I.get i=some B)(iC:B.rw=true)(hl:ajR i=some l)
 (cs:List U) {arr jb:Array Value} {el:TypeId} {fr:Nat×Nat} (rV:w.heap[l.b]? =some (.cells arr el fr)) (Jj:w'.heap[l.b]? =some (.cells jb el fr)) (JI:jb.size=arr.size)
 (hlen:cs.length≤l.c)
 (kL:∀(j:Nat) (a:U),cs[j]? =some a→∃u,jb[l.o+j]? =some u∧VR ajR a u)
 (gy:∀o,o<l.o∨l.o+l.c≤o→jb[o]? =arr[o]?)
 (Dn:∀b,b≠l.b→w'.heap[b]? =w.heap[b]?) (UC:w'.os=w.os) (UL:w'.tape=w.tape) (M5:w'.output=w.output) (uB:w'.heap.size=w.heap.size):
 Rel ajR (I.set i ⟨cs,true⟩) w'∧Step ajR I w ajR (I.set i ⟨cs,true⟩) w':=by
 have ga:∀j C,j≠i→(I.set i ⟨cs,true⟩).get j=some C→I.get j=some C:=by
  intro j C hj hC
  simpa only[af.set,if_neg hj]using hC
 refine⟨⟨h.pe,?_,?_⟩,?_⟩
 ·intro j C m hC hm
  by_cases hj:j=i
  ·subst hj
   rw[hl]at hm;cases hm
   simp only[af.set,if_true,Option.some.injEq]at hC
   subst hC
   obtain⟨la,ZV,PS,OU,ll,_,pH,_⟩:=(h.lO j B l hB hl).ex
   rw[rV]at OU;cases OU
   exact⟨jb,el,fr,Jj,J,hlen,fun _=>pH iC,kL⟩
  ·have hC:=ga j C hj hC
   obtain⟨la,ZV,PS,OU,ll,Jx,pH,Se⟩:=(h.lO j C m hC hm).ex
   have BM:=h.sep i j B C l m (Ne.symm hj) hB hC iC hl hm
   by_cases hb:m.b=l.b
   ·rw[hb,rV]at OU;cases OU
    refine⟨jb,el,fr,hb▸Jj,J,Jx,pH,?_⟩
    intro k a ha
    obtain⟨u,hu,hv⟩:=Se k a ha
    refine⟨u,?_,hv⟩
    have hk:k<C.cells.length:=(List.getElem?_eq_some_iff.1 ha).1
    exact absurd (⟨hb.symm,J,J⟩:m.has l.b (m.o+k)) (BM l.b (m.o+k) ⟨rfl,J,J⟩)
   ·exact⟨la,ZV,PS,(Dn _ hb).trans OU,ll,Jx,pH,Se⟩
 ·intro j k C D m n Qm hC hD abc hm hn
  have key:∀j C,(I.set i ⟨cs,true⟩).get j=some C→∃C',I.get j=some C'∧(C.rw=true→C'.rw=true):=by
   intro j C hC
   by_cases hj:j=i
   ·subst hj;exact⟨B,hB,fun _=>iC⟩
   ·exact⟨C,ga j C hj hC,id⟩
  obtain⟨C',hC',hCr⟩:=key j C hC
  obtain⟨D',hD',_⟩:=key k D hD
  exact h.sep j k C' D' m n Qm hC' hD' (hCr abc) hm hn
 ·refine⟨UC,UL,M5,Nat.le_of_eq uB.symm,Nat.le_refl _,fun _ _=>rfl,?_,?_,?_,fun _ _ h h'=>absurd h' (Nat.not_lt.2 h),?_⟩
  ·rintro b o _ ⟨j,C,m,hC,hr,hm,h1⟩
   by_cases hj:j=i
   ·subst hj;exact⟨j,B,m,hB,iC,hm,h1⟩
   ·exact⟨j,C,m,ga j C hj hC,hr,hm,h1⟩
  ·intro b la ZV PS hb
   by_cases Db:b=l.b
   ·subst Db
    rw[rV]at hb;cases hb
    refine⟨jb,Jj,JI,fun o ho=>gy o ?_⟩
    by_cases h1:l.o≤o∧o<l.o+l.c
    ·exact absurd ⟨i,B,l,hB,iC,hl,rfl,J,J⟩ ho
    ·omega
   ·exact⟨la,(Dn b Db).trans hb,rfl,fun _ _=>rfl⟩
  ·intro j C _ hC hr
   by_cases hj:j=i
   ·subst hj
    rw[af.cX,if_pos rfl]at hC
    cases hC;cases hr
   ·exact⟨C,ga j C hj hC,hr⟩
  ·intro b ob hb hn
   have Db:b≠l.b:=by
    rintro rfl
    rw[rV]at hb;cases hb
    exact hn _ _ _ rfl
   exact(Dn b Db).trans hb
theorem Rel.kill{ajR:Mu}{I:af}{w:World}(h:Rel ajR I w)(i:Nat):Rel ajR (I.kill i) w∧Step ajR I w ajR (I.kill i) w:=by
 have ga:∀j C,(I.kill i).get j=some C→I.get j=some C:=by
  intro j C hC
  simp only[af.kill]at hC
  split at hC
  ·cases hC
  ·exact hC
 refine⟨⟨h.pe,fun j C m hC hm=>h.lO j C m (ga j C hC) hm,fun j k C D m n Qm hC hD=>h.sep j k C D m n Qm (ga j C hC) (ga k D hD)⟩,?_⟩
 refine⟨rfl,rfl,rfl,Nat.le_refl _,Nat.le_refl _,fun _ _=>rfl,?_,fun _ arr _ _ h=>⟨arr,h,rfl,fun _ _=>rfl⟩,fun j C _ hC hr=>⟨C,ga j C hC,hr⟩,fun _ _ h h'=>absurd h' (Nat.not_lt.2 h),fun _ _ h _=>h⟩
 rintro b o _ ⟨j,C,m,hC,rest⟩
 exact⟨j,C,m,ga j C hC,rest⟩
theorem Rel.move{ajR:Mu}{I:af}{w:World}(h:Rel ajR I w){i:Nat}{B:cT}{l:Loc}(hB:I.get i=some B)(iC:B.rw=true)(hl:ajR i=some l)
 (k c:Nat) (hc:k+c≤l.c) (hk:k≤B.cells.length) (hlen:B.cells.length≤k+c):
 Rel (ajR.gl I.n ⟨l.b,l.o+k,c⟩) ((I.kill i).push ⟨B.cells.drop k,true⟩) w∧Step ajR I w (ajR.gl I.n ⟨l.b,l.o+k,c⟩) ((I.kill i).push ⟨B.cells.drop k,true⟩) w:=by
 have iH:=h.uh ⟨l.b,l.o+k,c⟩
 have tk:∀j C m,j≠I.n→((I.kill i).push ⟨B.cells.drop k,true⟩).get j=some C→(ajR.gl I.n ⟨l.b,l.o+k,c⟩) j=some m→j≠i∧I.get j=some C∧ajR j=some m:=by
  intro j C m hj hC hm
  simp only[Mu.gl,if_neg hj]at hm
  rw[af.cu,af.jr,if_neg hj,af.jW]at hC
  split at hC
  ·cases hC
  ·rename_i Df;exact⟨Df,hC,hm⟩
 obtain⟨arr,el,fr,hb,hs,Jx,jn,fy⟩:=(h.lO i B l hB hl).ex
 refine⟨⟨?_,?_,?_⟩,?_⟩
 ·intro j m hm
  simp only[Mu.gl]at hm
  simp only[af.push,af.kill]
  split at hm
  ·omega
  ·have:=h.pe j m hm;omega
 ·intro j C m hC hm
  by_cases hj:j=I.n
  ·subst hj
   simp only[af.push,af.kill,Mu.gl,if_true,Option.some.injEq]at hC hm
   subst hC;subst hm
   refine⟨arr,el,fr,hb,py,bX,fun _=>jn iC,?_⟩
   intro q a ha
   obtain⟨u,hu,hv⟩:=fy (k+q) a (by simpa[List.getElem?_drop]using ha)
   exact⟨u,by rw[Nat.add_assoc];exact hu,hv.mono iH⟩
  ·obtain⟨_,hC,hm⟩:=tk j C m hj hC hm
   exact(h.lO j C m hC hm).mono iH
 ·intro j q C D m n Um hC hD hr hm hn
  by_cases hj:j=I.n
  ·have hq:q≠I.n:=fun e=>Um (hj.trans e.symm)
   obtain⟨BU,hD,hn⟩:=tk q D n hq hD hn
   subst hj
   simp only[Mu.gl,if_true,Option.some.injEq]at hm
   subst hm
   intro b o h1 h2
   refine h.sep i q B D l n (Ne.symm BU) hB hD iC hl hn b o ?_ h2
   simp only[Loc.has]at h1⊢
   omega
  ·obtain⟨Df,hC,hm⟩:=tk j C m hj hC hm
   by_cases hq:q=I.n
   ·subst hq
    simp only[Mu.gl,if_true,Option.some.injEq]at hn
    subst hn
    intro b o h1 h2
    refine h.sep j i C B m l Df hC hB hr hm hl b o h1 ?_
    simp only[Loc.has]at h2⊢
    omega
   ·obtain⟨_,hD,hn⟩:=tk q D n hq hD hn
    exact h.sep j q C D m n Um hC hD hr hm hn
 ·refine⟨rfl,rfl,rfl,Nat.le_refl _,by simp[af.push,af.kill],?_,?_,fun _ arr _ _ h=>⟨arr,h,rfl,fun _ _=>rfl⟩,?_,?_,fun _ _ h _=>h⟩
  rotate_right 2
  ·intro j C hj hC hr
   rw[af.cu,af.jr,if_neg (Nat.ne_of_lt hj),af.jW]at hC
   split at hC
   ·cases hC
   ·exact⟨C,hC,hr⟩
  ·intro j C hj So hC
   have:j=I.n:=by rw[af.kU,af.jr]at So;omega
   rw[af.cu,af.jr,if_pos this]at hC
   cases hC;rfl
  ·intro j hj;simp[Mu.gl,Nat.ne_of_lt hj]
  ·rintro b o _ ⟨j,C,m,hC,hr,hm,h1⟩
   by_cases hj:j=I.n
   ·subst hj
    simp only[Mu.gl,if_true,Option.some.injEq]at hm
    subst hm
    exact⟨i,B,l,hB,iC,hl,by simp only[Loc.has]at h1⊢;omega⟩
   ·obtain⟨_,hC,hm⟩:=tk j C m hj hC hm
    exact⟨j,C,m,hC,hr,hm,h1⟩
theorem af.KQ(I:af)(i:Nat)(B:cT):(I.set i B).kill i=I.kill i:=by
 unfold af.set af.kill
 congr 1
 funext j
 dsimp only
 split<;>rfl
end AH
namespace AH
open Go
def OpR(P:Program)(ajR:Mu)(I:af)(w:World)(s:Sem Next)(v:U)(σ':af):Prop:=
 ∃r u w' μ',s.run P w= .ok r w'∧(r= .value u∨r= .skip∧u=undef)∧VR μ' v u∧Rel μ' σ' w'∧Step ajR I w μ' σ' w'
def mL(P:Program)(ajR:Mu)(I:af)(w:World)(s:Sem Value)(v:U)(σ':af):Prop:=
 ∃u w' μ',s.run P w= .ok u w'∧VR μ' v u∧Rel μ' σ' w'∧Step ajR I w μ' σ' w'
section
variable {P:Program} {ajR:Mu} {I σ':af} {w:World} {v:U}
theorem mL.op{s:Sem Value}(h:mL P ajR I w s v σ'):OpR P ajR I w (do pure (.value (←s))) v σ':=by
 obtain⟨u,w',μ',hr,hv,hR,hS⟩:=h
 exact⟨.value u,u,w',μ',by simp[hr],.inl rfl,hv,hR,hS⟩
theorem mL.quiet{s:Sem Value}{u:Value}(hR:Rel ajR I w)(hr:s.run P w= .ok u w)(hv:VR ajR v u):mL P ajR I w s v I:=
 ⟨u,w,ajR,hr,hv,hR,Step.refl _ _ _⟩
theorem ba{t:TypeId}{d:TypeDesc}(h:P.underlying t=some d)(w:World):(underlying t).run P w= .ok d w:=by
 simp[underlying,h]
theorem dK{t:TypeId}{i:TypeInfo}(h:P.info? t=some i)(w:World):(typeInfo t).run P w= .ok i w:=by
 simp[typeInfo,h]
theorem cM{t:TypeId}{i:TypeInfo}(h:P.info? t=some i)(w:World):(Go.sizeOf t).run P w= .ok i.size w:=by
 simp[Go.sizeOf,dK h]
theorem add_lit(b o k:Nat):(⟨b,o,none⟩:Addr).add k=⟨b,o+k,none⟩:=by
 unfold Addr.add;split<;>simp_all
theorem mo{t:TypeId}{g:Bool}{n:Nat}(h:fq P t=some (g,n)):∃d i,P.underlying t=some d∧P.info? t=some i∧tL d=g∧i.size=n:=by
 unfold fq at h
 split at h
 ·rename_i d i hd hi
  simp at h
  exact⟨d,i,hd,hi,h.1,h.2⟩
 ·cases h
theorem qO{t:TypeId}{d:TypeDesc}(h:P.underlying t=some d)(w:World):(isAgg t).run P w= .ok (tL d) w:=by
 unfold isAgg
 simp only[Sem.run_bind,ba h,Result.andThen_ok]
 cases d<;>rfl
theorem ei{t:TypeId}{e b:Nat}{z:List U}(h:bR P t=some (e,b,z)):
 ∃el i zv,P.underlying t=some (.slice el)∧P.info? el=some i∧i.zero=some zv∧i.size=e∧i.bytes=b∧zv.cells.size=e∧0<e∧z=zv.cells.toList.map jY:=by
 unfold bR at h
 split at h
 ·rename_i el hu
  split at h
  ·rename_i i hi
   split at h
   ·rename_i zv hz
    split at h
    ·rename_i hc
     simp at h
     exact⟨el,i,zv,hu,hi,hz,h.1,h.2.1,hc.1.trans h.1,h.1▸hc.2,h.2.2.symm⟩
    ·cases h
   ·cases h
  ·cases h
 ·cases h
def jL(P:Program)(ajR:Mu)(w:World)(s:Sem Value)(v:U):Prop:=∃u,s.run P w= .ok u w∧VR ajR v u
theorem jL.mk'{s:Sem Value}{u:Value}(hr:s.run P w= .ok u w)(hv:VR ajR v u):jL P ajR w s v:=⟨u,hr,hv⟩
theorem jL.toR{s:Sem Value}(hR:Rel ajR I w)(h:jL P ajR w s v):mL P ajR I w s v I:=let⟨_,hr,hv⟩:=h;mL.quiet hR hr hv
theorem tN(hR:Rel ajR I w){t:TypeId}{a:U}{u:Value}(ha:VR ajR a u)(h:ja P t a I=some v):
 jL P ajR w (Instr.loadAt t u) v:=by
 unfold ja at h
 split at h
 next i k=>
  cases ha
  rename_i l hl
  split at h
  next B n hB ht=>
   split at h
   next hk=>
    cases h
    obtain⟨d,inf,hd,hi,Ji,uB⟩:=mo ht
    obtain⟨us,ms,hc⟩:=(hR.lO i B l hB hl).rows
    have Gi:=(ms.drop k).take n
    have hlen:((us.drop k).take n).length=n:=by rw[←Gi.1];simp;omega
    have hr:=run_loadCells_list (P:=P) w ⟨l.b,l.o+k,none⟩ ((us.drop k).take n) (by
     intro j x hx
     rw[add_lit,Nat.add_assoc]
     apply hc
     rw[List.getElem?_take]at hx
     split at hx
     ·simpa[List.getElem?_drop]using hx
     ·cases hx)
    rw[hlen]at hr
    refine jL.mk' (u:= .agg ((us.drop k).take n).toArray) ?_ Gi.agg
    simp[Instr.loadAt,Instr.sureAddr,loadVar,qO hd,Ji,cM hi,uB,hr]
   next=>cases h
  next B n hB ht=>
   obtain⟨d,inf,hd,hi,Ji,uB⟩:=mo ht
   obtain⟨us,ms,hc⟩:=(hR.lO i B l hB hl).rows
   obtain⟨x,hx,hv⟩:=ms.get h
   refine jL.mk' (u:=x) ?_ hv
   have:=hc k x hx
   simp[Instr.loadAt,Instr.sureAddr,loadVar,qO hd,Ji,this]
  next=>cases h
 next=>cases h
theorem A5(hR:Rel ajR I w){t:TypeId}{a x:U}{u y:Value}(ha:VR ajR a u)(hx:VR ajR x y)(h:kH P t a x I=some σ'):
 ∃w',(Instr.storeAt t u y).run P w= .ok () w'∧Rel ajR σ' w'∧Step ajR I w ajR σ' w':=by
 unfold kH at h
 split at h
 next i k vs g n xN ht=>
  cases ha
  rename_i l hl
  split at h
  next B hB=>
   split at h
   next hc=>
    cases h
    obtain⟨iC,hn,hk,jT⟩:=hc
    obtain⟨d,inf,hd,hi,Ji,uB⟩:=mo ht
    have QO:=hx.cells xN
    obtain⟨arr,el,fr,hb,hs,hlen,jn,fy⟩:=(hR.lO i B l hB hl).ex
    have pH:=jn iC
    subst pH
    have ln:=run_storeCells_at P l.b (l.o+k) el y.cells.toList 0 arr w hb (by rw[←QO.1];omega) (QO.tP jT)
    have UP:y.cells.size=n:=by have:=QO.1;simp at this;omega
    refine⟨w.setRow l.b (arr.toList.take (l.o+k+0)++y.cells.toList++arr.toList.drop (l.o+k+0+y.cells.toList.length)).toArray,?_,?_⟩
    ·simp only[Instr.storeAt,Instr.sureAddr,storeVar,Sem.run_bind,Sem.run_pure,Result.andThen_ok,cM hi,UP,uB,ne_eq,not_true,if_false]
     simpa using ln
    ·have JN:y.cells.toList.length=n:=by simp[UP]
     have mD:=setRow_heap w l.b arr (arr.toList.take (l.o+k+0)++y.cells.toList++arr.toList.drop (l.o+k+0+y.cells.toList.length)).toArray el (0,0) hb
     have ga:∀o,(arr.toList.take (l.o+k+0)++y.cells.toList++arr.toList.drop (l.o+k+0+y.cells.toList.length)).toArray[o]? =
      if l.o+k≤o∧o<l.o+k+n then y.cells.toList[o-(l.o+k)]? else arr[o]? :=by
      intro o
      simp only[List.getElem?_toArray,List.getElem?_append,List.length_append,List.length_take,Array.length_toList,List.getElem?_take,List.getElem?_drop,JN,Nat.add_zero]
      have Di:min (l.o+k) arr.size=l.o+k:=J
      rw[Di]
      by_cases h1:o<l.o+k
      ·rw[if_pos J,if_pos h1,if_pos h1,if_neg J];simp
      ·by_cases h2:o<l.o+k+n
       ·rw[if_pos J,if_neg h1,if_pos J]
       ·rw[if_neg J,if_neg J,show l.o+k+n+(o-(l.o+k+n))=o by omega];simp
     refine hR.write hB iC hl (aB B.cells k vs) hb mD ?_ ?_ ?_ ?_ ?_ rfl rfl rfl (by simp[World.setRow])
     ·simp;omega
     ·unfold aB;simp;omega
     ·intro j a ha
      unfold aB at ha
      rw[ga]
      have hj:j<B.cells.length:=by
       have:=(List.getElem?_eq_some_iff.1 ha).1
       simp at this;omega
      simp only[List.getElem?_append,List.length_append,List.length_take,List.getElem?_take,List.getElem?_drop,hn]at ha
      have Di:min k B.cells.length=k:=J
      rw[Di]at ha
      by_cases h1:j<k
      ·rw[if_pos J,if_pos h1,if_pos h1]at ha
       rw[if_neg J]
       exact fy j a ha
      ·by_cases h2:j<k+n
       ·rw[if_pos J,if_neg h1]at ha
        rw[if_pos J,show l.o+j-(l.o+k)=j-k by omega]
        exact QO.get ha
       ·rw[if_neg J,show k+n+(j-(k+n))=j by omega]at ha
        rw[if_neg J]
        exact fy j a ha
     ·intro o ho
      rw[ga,if_neg J]
     ·intro b eR
      exact setRow_other w l.b b _ eR
   next=>cases h
  next=>cases h
 next=>cases h
theorem ku(hR:Rel ajR I w)(cs:List U)(us rest:List Value)(el:TypeId)(hv:fW ajR cs us):
 ∃μ',(newRow el (us++rest).toArray).run P w= .ok ⟨w.heap.size,0,none⟩ (w.alloc (.cells (us++rest).toArray el))∧
  μ' I.n=some ⟨w.heap.size,0,(us++rest).length⟩∧(∀i l,ajR i=some l→μ' i=some l)∧
  Rel μ' (I.push ⟨cs,true⟩) (w.alloc (.cells (us++rest).toArray el))∧Step ajR I w μ' (I.push ⟨cs,true⟩) (w.alloc (.cells (us++rest).toArray el)):=by
 obtain⟨h1,h2⟩:=hR.alloc cs us rest el hv
 exact⟨_,rfl,by simp[Mu.gl],hR.uh _,h1,h2⟩
def ox(P:Program)(ajR:Mu)(w:World)(s:Sem Value)(f:Nat→U)(cs:List U):Prop:=
 ∃u us rest el,s.run P w= .ok u (w.alloc (.cells (us++rest).toArray el))∧fW ajR cs us∧
  ∀(y:Nat) (μ':Mu),μ' y=some ⟨w.heap.size,0,(us++rest).length⟩→VR μ' (f y) u
theorem ox.toR(hR:Rel ajR I w){s:Sem Value}{f:Nat→U}{cs:List U}(h:ox P ajR w s f cs):mL P ajR I w s (f I.n) (I.push ⟨cs,true⟩):=by
 obtain⟨u,us,rest,el,hr,hv,hf⟩:=h
 obtain⟨h1,h2⟩:=hR.alloc cs us rest el hv
 exact⟨u,_,_,hr,hf _ _ (by simp[Mu.gl]),h1,h2⟩
theorem rz{t:TypeId}{z:List U}(h:eJ P t=some z):∃i zv,P.info? t=some i∧i.zero=some zv∧z=zv.cells.toList.map jY:=by
 unfold eJ at h
 split at h
 ·rename_i i hi
  split at h
  ·rename_i zv hz
   simp at h
   exact⟨i,zv,hi,hz,h.symm⟩
  ·cases h
 ·cases h
theorem FN{el:TypeId}{x:U}{y:Value}{cs:List U}(hx:VR ajR x y)(hc:x.cells=some cs):
 ox P ajR w (Instr.box el y) (fun n=> .ptr n 0) cs:=by
 refine⟨.pointer (some ⟨w.heap.size,0,none⟩),y.cells.toList,[],el,?_,hx.cells hc,fun n μ' h=> .ptr n 0 _ h⟩
 simp only[Instr.box,newVar,Sem.run_bind,Sem.run_pure,List.append_nil,Array.toArray_toList]
 rfl
theorem yP{el:TypeId}{z:List U}(hz:eJ P el=some z):
 ox P ajR w (Instr.alloc el true (.tuple #[])) (fun n=> .ptr n 0) z:=by
 obtain⟨i,zv,hi,hzv,rfl⟩:=rz hz
 refine⟨.pointer (some ⟨w.heap.size,0,none⟩),zv.cells.toList,[],el,?_,iN ajR _,fun n μ' h=> .ptr n 0 _ h⟩
 simp only[Instr.alloc,zeroValue,Sem.run_bind,dK hi,Result.andThen_ok,hzv,Sem.run_pure,newVar,List.append_nil,Array.toArray_toList]
 rfl
theorem zL(cells:Array Value)(off:Nat)(vs:List Value)(h:off+vs.length≤cells.size):
 (vs.toArray.zipIdx.foldl (fun cs (c,j)=>cs.setIfInBounds (off+j) c) cells).toList=aB cells.toList off vs:=by
 rw[←Array.foldl_toList]
 have key:∀(vs:List Value) (n:Nat) (cells:Array Value),off+n+vs.length≤cells.size→
  ((vs.zipIdx n).foldl (fun(cs:Array Value) (p:Value×Nat)=>cs.setIfInBounds (off+p.2) p.1) cells).toList=aB cells.toList (off+n) vs:=by
  intro vs
  induction vs with
  |nil=>intro n cells _;simp[aB]
  |cons v vs ih=>
   intro n cells h
   simp only[List.length_cons]at h
   simp only[List.zipIdx_cons,List.foldl_cons]
   rw[ih (n+1) _ bX]
   unfold aB
   have e:=list_seg_step cells.toList (off+n) v vs bX
   simpa[Array.toList_setIfInBounds,Nat.add_assoc]using e
 have:=key vs 0 cells FU
 simpa[Array.toList_zipIdx]using this
theorem s9{place place':Nat→Option (Nat×Nat)}(hp:∀i p,place i=some p→place' i=some p):
 ∀(parts:List (Nat×U)) (mg:List (Nat×Value)) (cells:List U) (jO:Array Value) (out:List U),
  parts.length=mg.length→(∀(j:Nat) (p:Nat×U) (q:Nat×Value),parts[j]? =some p→mg[j]? =some q→p.1=q.1∧VR ajR p.2 q.2)→
  fW ajR cells jO.toList→iE place cells parts=some out→∃pR,Instr.fill place' jO mg=some pR∧fW ajR out pR.toList∧pR.size=jO.size:=by
 intro parts
 induction parts with
 |nil=>
  intro mg cells jO out hl _ hc h
  cases mg with
  |nil=>simp[iE]at h;subst h;exact⟨jO,rfl,hc,rfl⟩
  |cons _ _=>simp at hl
 |cons p parts ih=>
  intro mg cells jO out hl hq hc h
  cases mg with
  |nil=>simp at hl
  |cons q mg=>
   obtain⟨i,x⟩:=p
   obtain⟨i',y⟩:=q
   obtain⟨rfl,hxy⟩:=hq 0 (i,x) (i',y) rfl rfl
   simp only[iE]at h
   split at h
   next off size vs dO xN=>
    split at h
    next OW=>
     have QO:=hxy.cells xN
     have hlen:cells.length=jO.size:=by have:=hc.1;simpa using this
     have ahT:y.cells.size=vs.length:=by have:=QO.1;simp at this;omega
     have OY:=zL jO off y.cells.toList bX
     have hs:(y.cells.zipIdx.foldl (fun cs (c,j)=>cs.setIfInBounds (off+j) c) jO).size=jO.size:=by
      have:=congrArg List.length OY
      simp only[Array.toArray_toList,Array.length_toList]at this
      rw[this];unfold aB;simp;omega
     obtain⟨pR,h1,h2,h3⟩:=ih mg (aB cells off vs) (y.cells.zipIdx.foldl (fun cs (c,j)=>cs.setIfInBounds (off+j) c) jO) out (by simpa using hl)
      (fun j p q hp EK=>hq (j+1) p q (by simpa using hp) (by simpa using EK))
      (by
        have Jr:=OY
        simp only[Array.toArray_toList]at Jr
        rw[Jr];exact hc.aB QO off) h
     refine⟨pR,?_,h2,h3.trans hs⟩
     simp only[Instr.fill,hp _ _ dO]
     rw[if_neg bX]
     exact h1
    next=>cases h
   next=>cases h
theorem tT{ajS:Operand→U}{ρ':Operand→Value}(hρ:∀x,VR ajR (ajS x) (ρ' x))(parts:Array (Nat×Operand)):
 (parts.toList.map fun(i,x)=>(i,ajS x)).length=(parts.map fun(i,x)=>(i,ρ' x)).toList.length∧
 ∀(j:Nat) (p:Nat×U) (q:Nat×Value),(parts.toList.map fun(i,x)=>(i,ajS x))[j]? =some p→(parts.map fun(i,x)=>(i,ρ' x)).toList[j]? =some q→p.1=q.1∧VR ajR p.2 q.2:=by
 refine⟨aV,fun j p q hp hq=>?_⟩
 simp only[Array.toList_map,List.getElem?_map]at hp hq
 cases hj:parts.toList[j]? with
 |none=>simp[hj]at hp
 |some x=>
  simp only[hj,Option.map_some,Option.some.injEq]at hp hq
  subst hp;subst hq
  exact⟨rfl,hρ _⟩
theorem Ar(P:Program)(w:World):∀(fs:List Field) (pl:List (Nat×Nat)),fs.mapM (fun f=>(P.info? f.type).map fun i=>(f.offset,i.size))=some pl→
 (fs.mapM (m:=Sem) fun f=>Prod.mk f.offset <$> Go.sizeOf f.type).run P w= .ok pl w:=by
 intro fs
 induction fs with
 |nil=>intro pl h;simp at h;subst h;simp
 |cons f fs ih=>
  intro pl h
  simp only[List.mapM_cons]at h
  cases hi:P.info? f.type with
  |none=>simp[hi]at h
  |some i=>
   cases hm:fs.mapM (fun f=>(P.info? f.type).map fun i=>(f.offset,i.size))with
   |none=>simp[hi,hm]at h
   |some pl'=>
    simp[hi,hm]at h
    subst h
    have:=ih pl' hm
    simp only[List.mapM_cons,Sem.run_bind,Sem.run_map,cM hi,Sem.run_pure,Result.andThen_ok,this]
theorem zp{ajS:Operand→U}{ρ':Operand→Value}(hρ:∀x,VR ajR (ajS x) (ρ' x)){t:TypeId}{parts:Array (Nat×Operand)}{z:List U}{pl:List (Nat×Nat)}{cs:List U}
 (hz:eJ P t=some z) (dO:fB P t=some pl) (hf:iE (pl[·]?) z (parts.toList.map fun(i,x)=>(i,ajS x))=some cs):
 jL P ajR w (Instr.build t (parts.map fun(i,x)=>(i,ρ' x))) (.agg cs):=by
 obtain⟨i,zv,hi,hzv,rfl⟩:=rz hz
 unfold fB at dO
 split at dO
 next fs hu=>
  obtain⟨hl,hq⟩:=tT hρ parts
  have hm:=Ar P w fs.toList pl dO
  have yD:(fs.mapM (m:=Sem) fun f=>Prod.mk f.offset <$> Go.sizeOf f.type).run P w= .ok pl.toArray w:=by
   rw[show fs=fs.toList.toArray by simp,List.mapM_toArray]
   simp[hm]
  obtain⟨pR,h1,h2,_⟩:=s9 (ajR:=ajR) (place:=(pl[·]?)) (place':=(pl.toArray[·]?)) (fun i p hp=>by simpa using hp) _ _ _ zv.cells cs hl hq (iN ajR _) hf
  refine jL.mk' (u:= .agg pR) ?_ (by have:=h2.agg;simpa using this)
  have qB:Instr.fill (fun x=>pl[x]?) zv.cells (parts.map fun(i,x)=>(i,ρ' x)).toList=some pR:=by simpa using h1
  simp only[Instr.build,zeroValue,Sem.run_bind,dK hi,Result.andThen_ok,hzv,Sem.run_pure,ba hu]
  simp only[bind_pure_comp,yD,Sem.run_bind,Result.andThen_ok,List.getElem?_toArray,qB,Sem.run_pure]
 next=>cases dO
theorem range_zero(z:Array Value)(len:Nat)(hz:0<z.size):
 ((Array.range (len*z.size)).map (z[·% z.size]!)).toList=(List.replicate len z.toList).flatten:=by
 apply List.ext_getElem
 ·simp
 ·intro j h1 h2
  simp only[Array.toList_map,Array.toList_range,List.getElem_map,List.getElem_range]
  have hj:j<len*z.size:=by simpa using h1
  have hm:j % z.size<z.size:=Nat.mod_lt _ hz
  have key:∀(len j:Nat) (h:j<(List.replicate len z.toList).flatten.length),(List.replicate len z.toList).flatten[j]=z[j % z.size]! :=by
   intro len
   induction len with
   |zero=>intro j h;simp at h
   |succ len ih=>
    intro j h
    simp only[List.replicate_succ,List.flatten_cons,List.getElem_append,Array.length_toList]
    split
    ·rename_i dG
     rw[Nat.mod_eq_of_lt dG]
     simp[dG]
    ·rename_i Dc
     rw[ih]
     rw[Nat.mod_eq_sub_mod (Nat.le_of_not_lt Dc)]
  rw[key]
theorem kG{ajR:Mu}{cs:List U}{us:List Value}(h:fW ajR cs us)(n:Nat):fW ajR (List.replicate n cs).flatten (List.replicate n us).flatten:=by
 induction n with
 |zero=>exact fW.nil ajR
 |succ n ih=>simp only[List.replicate_succ,List.flatten_cons];exact h.append ih
theorem qw{ajS:Operand→U}{ρ':Operand→Value}(hρ:∀x,VR ajR (ajS x) (ρ' x)){t:TypeId}{len:Nat}{parts:Array (Nat×Operand)}{e vt:Nat}{z cs:List U}
 (ht:bR P t=some (e,vt,z)) (hlen:len*e≤16777216)
 (hf:iE (fun i=>some (i*e,e)) (List.replicate len z).flatten (parts.toList.map fun(i,x)=>(i,ajS x))=some cs):
 ox P ajR w (Instr.buildSlice t len (parts.map fun(i,x)=>(i,ρ' x))) (fun n=> .sl n 0 len e) cs:=by
 obtain⟨el,i,zv,hu,hi,hz,he,_,Dt,tB,rfl⟩:=ei ht
 obtain⟨hl,hq⟩:=tT hρ parts
 have hz0:(if len*e=0 then(pure #[]:Sem (Array Value))else do pure (←zeroValue el).cells).run P w= .ok (if len*e=0 then #[]else zv.cells) w:=by
  split
  ·rfl
  ·simp[zeroValue,dK hi,hz]
 have tm:((Array.range (len*e)).map ((if len*e=0 then #[]else zv.cells)[·% (if len*e=0 then #[]else zv.cells).size]!)).toList=(List.replicate len zv.cells.toList).flatten:=by
  by_cases h0:len*e=0
  ·have Jv:len=0:=by
    rcases Nat.mul_eq_zero.1 h0 with h|h
    ·exact h
    ·omega
   subst Jv
   simp
  ·simp only[h0,if_false]
   rw[←Dt]
   exact range_zero _ _ J
 obtain⟨pR,h1,h2,h3⟩:=s9 (ajR:=ajR) (place:=fun i=>some (i*e,e)) (place':=fun i=>some (i*e,e)) (fun i p hp=>hp) _ _ _
  ((Array.range (len*e)).map ((if len*e=0 then #[]else zv.cells)[·% (if len*e=0 then #[]else zv.cells).size]!)) cs hl hq
  (by rw[tm];exact kG (iN ajR _) len) hf
 have hr:(newRow el pR).run P w= .ok ⟨w.heap.size,0,none⟩ (w.alloc (.cells pR el)):=rfl
 have JI:pR.size=len*e:=by rw[h3];simp
 refine⟨.slice (some ⟨w.heap.size,0,none⟩) len len,pR.toList,[],el,?_,h2,fun n μ' hn=> .sl n 0 len e len _ 0 hn ⟨Nat.le_refl _,by have:=Nat.le_mul_of_pos_right len (show 0<e by omega);omega⟩ (.inl ⟨rfl,by simp[JI]⟩)⟩
 simp only[List.append_nil,Array.toArray_toList]
 have aaj:¬len*e>2^24:=by simpa using hlen
 simp only[Instr.buildSlice,Sem.run_bind,ba hu,Result.andThen_ok,cM hi,he]
 rw[if_neg aaj]
 have qB:Instr.fill (fun i=>some (i*e,e)) ((Array.range (len*e)).map ((if len*e=0 then #[]else zv.cells)[·% (if len*e=0 then #[]else zv.cells).size]!)) (parts.map fun(i,x)=>(i,ρ' x)).toList=some pR:=h1
 by_cases h0:len*e=0
 ·simp only[h0,↓reduceIte]at qB⊢
  simp only[Sem.run_bind,Sem.run_pure,Result.andThen_ok,qB,hr]
 ·simp only[h0,↓reduceIte]at qB⊢
  simp only[Sem.run_bind,Sem.run_pure,Result.andThen_ok,zeroValue,dK hi,hz,qB,hr]
theorem DC{t:TypeId}{l c:U}{u y:Value}(hl:VR ajR l u)(hc:VR ajR c y)(h:kw P t l c I=some (v,σ')):
 ∃f cs,v=f I.n∧σ'=I.push ⟨cs,true⟩∧(∀R,kw P t l c R=some (f R.n,R.push ⟨cs,true⟩))∧ox P ajR w (Instr.makeSlice t u y) f cs:=by
 unfold kw at h
 split at h
 next e vt z l c ht=>
  cases hl;cases hc
  split at h
  next OW=>
   cases h
   obtain⟨h0,h1,h2,h3⟩:=OW
   obtain⟨el,i,zv,hu,hi,hz,he,BO,Dt,tB,rfl⟩:=ei ht
   have aaU:IntKind.i64.wrap l=l:=by simp[IntKind.wrap,IntKind.signed,IntKind.bits];omega
   have aao:IntKind.i64.wrap c=c:=by simp[IntKind.wrap,IntKind.signed,IntKind.bits];omega
   have hz0:(if c.toNat*e=0 then(pure #[]:Sem (Array Value))else do pure (←zeroValue el).cells).run P w= .ok (if c.toNat*e=0 then #[]else zv.cells) w:=by
    split
    ·rfl
    ·simp[zeroValue,dK hi,hz]
   have tm:((Array.range (c.toNat*e)).map ((if c.toNat*e=0 then #[]else zv.cells)[·% (if c.toNat*e=0 then #[]else zv.cells).size]!)).toList=(List.replicate c.toNat zv.cells.toList).flatten:=by
    by_cases hq:c.toNat*e=0
    ·have Jv:c.toNat=0:=by
      rcases Nat.mul_eq_zero.1 hq with h|h
      ·exact h
      ·omega
     simp[Jv]
    ·simp only[hq,if_false]
     rw[←Dt]
     exact range_zero _ _ J
   have JJ:(List.replicate c.toNat zv.cells.toList).flatten=(List.replicate l.toNat zv.cells.toList).flatten++(List.replicate (c.toNat-l.toNat) zv.cells.toList).flatten:=by
    rw[←List.flatten_append,List.replicate_append_replicate,show l.toNat+(c.toNat-l.toNat)=c.toNat by omega]
   have hr:(newRow el (List.replicate c.toNat zv.cells.toList).flatten.toArray).run P w= .ok ⟨w.heap.size,0,none⟩ (w.alloc (.cells (List.replicate c.toNat zv.cells.toList).flatten.toArray el)):=rfl
   have hlen:(List.replicate c.toNat zv.cells.toList).flatten.length=c.toNat*e:=by simp[Dt]
   refine⟨fun n=> .sl n 0 l.toNat e,_,rfl,rfl,fun R=>by simp only[kw,ht,h0,h1,h2,h3,and_self,if_true],.slice (some ⟨w.heap.size,0,none⟩) l.toNat c.toNat,
    (List.replicate l.toNat zv.cells.toList).flatten,(List.replicate (c.toNat-l.toNat) zv.cells.toList).flatten,el,?_,kG (iN ajR _) l.toNat,
    fun n μ' hn=> .sl n 0 l.toNat e c.toNat _ 0 hn J (.inl ⟨rfl,by rw[←JJ];simp[Dt]⟩)⟩
   rw[←JJ]
   have rV:(Array.range (c.toNat*e)).map ((if c.toNat*e=0 then #[]else zv.cells)[·% (if c.toNat*e=0 then #[]else zv.cells).size]!)=(List.replicate c.toNat zv.cells.toList).flatten.toArray:=by
    apply Array.ext';rw[tm]
   rw[←rV]at hr⊢
   have g1:¬(c<0):=J
   have g2:¬((vt:Int)*c>2^48):=J
   have g3:¬(l<0):=J
   have g4:¬(l>c):=J
   simp only[Instr.makeSlice,Sem.run_bind,ba hu,Result.andThen_ok,asInt,asIntOf,Sem.run_pure,dK hi,aaU,aao,BO,g1,g2,g3,g4,decide_false,Bool.or_self,Bool.false_eq_true,if_false,run_askRoom,cM hi,he]
   by_cases hq:c.toNat*e=0
   ·simp only[hq,↓reduceIte]at hr⊢
    simp only[Sem.run_bind,Sem.run_pure,Result.andThen_ok,hr]
   ·simp only[hq,↓reduceIte]at hr⊢
    simp only[Sem.run_bind,Sem.run_pure,Result.andThen_ok,zeroValue,dK hi,hz,hr]
  next=>cases h
 next=>cases h
theorem q_(hR:Rel ajR I w){e:Nat}{x:U}{y:Value}{vs:List U}{m:Nat}(hx:VR ajR x y)(h:fZ e x I=some vs)(hm:eC x=some m):
 ∃us,fW ajR vs us∧us.length=m*e∧(∀u∈us,u.oneCell'=true)∧
  ((y= .slice none 0 0∧m=0)∨∃a cap,y= .slice (some a) m cap∧∀(j:Nat) (u:Value),us[j]? =some u→w.cell? (a.add j)=some u):=by
 unfold fZ at h
 split at h
 next=>
  cases h;cases hx
  simp[eC]at hm
  subst hm
  exact⟨[],fW.nil ajR,aV,aV,.inl ⟨rfl,rfl⟩⟩
 next j k n e'=>
  simp[eC]at hm
  subst hm
  cases hx
  rename_i cap l off hl hn ho
  split at h
  next h0=>
   subst h0;cases h
   exact⟨[],fW.nil ajR,aV,aV,.inr ⟨_,_,rfl,aV⟩⟩
  next h0=>
   split at h
   next B hB=>
    split at h
    next hc=>
     cases h
     obtain⟨rfl,hk,jT⟩:=hc
     obtain⟨us,ms,fy⟩:=(hR.lO j B l hB hl).rows
     have Gi:=(ms.drop k).take (n*e')
     rcases ho with⟨rfl,_⟩|h1
     ·refine⟨_,Gi,?_,Gi.tP jT,.inr ⟨_,_,rfl,?_⟩⟩
      ·rw[←Gi.1];simp;omega
      ·intro q u hu
       rw[add_lit,Nat.add_assoc]
       apply fy
       rw[List.getElem?_take]at hu
       split at hu
       ·simpa[List.getElem?_drop]using hu
       ·cases hu
     ·omega
    next=>cases h
   next=>cases h
 next=>cases h
theorem ij{t el:TypeId}{i:TypeInfo}(hu:P.underlying t=some (.slice el))(hi:P.info? el=some i)(ty:TypeId)
 {y:Value} {base:Option Addr} {n cap:Nat} (hn:n≤cap) (hy:y= .slice none 0 0∨∃a c,y= .slice (some a) 0 c):
 (Builtin.append_ #[t,t] ty #[.slice base n cap,y]).run P w= .ok (.slice base n cap) w:=by
 rcases hy with rfl|⟨a,c,rfl⟩
 ·cases base<;>simp[Builtin.append_,ba hu,cM hi,Builtin.lenOf,hn,Builtin.firstCells,storeCells]
 ·cases base<;>simp[Builtin.append_,ba hu,cM hi,Builtin.lenOf,hn,Builtin.firstCells,loadCells,loadCellsFrom,storeCells]
theorem rL{t el:TypeId}{i:TypeInfo}(hu:P.underlying t=some (.slice el))(hi:P.info? el=some i)(ty:TypeId)
 {b off n cap m c:Nat} {a:Addr} {us:List Value} {arr:Array Value} {et:TypeId} (hb:w.heap[b]? =some (.cells arr et (0,0)))
 (ms:us.length=m*i.size) (fy:∀(j:Nat) (u:Value),us[j]? =some u→w.cell? (a.add j)=some u) (jT:∀u∈us,u.oneCell'=true)
 (nf:n+m≤cap) (rW:off+n*i.size+us.length≤arr.size):
 (Builtin.append_ #[t,t] ty #[.slice (some ⟨b,off,none⟩) n cap,.slice (some a) m c]).run P w=
   .ok (.slice (some ⟨b,off,none⟩) (n+m) cap) (w.setRow b (aB arr.toList (off+n*i.size) us).toArray):=by
 have hf:=run_firstCells_some (P:=P) w i.size m a m c us ms fy
 have ln:=run_storeCells_at P b (off+n*i.size) et us 0 arr w hb (by simpa using rW) jT
 simp only[Nat.add_zero]at ln
 simp[Builtin.append_,ba hu,cM hi,Builtin.lenOf,nf,hf,add_lit,ln,aB]
theorem xh(hR:Rel ajR I w){t:TypeId}(ty:TypeId){s x:U}{u y:Value}(hs:VR ajR s u)(hx:VR ajR x y)(h:cJ P t s x I=some (v,σ')):
 mL P ajR I w (Builtin.append_ #[t,t] ty #[u,y]) v σ':=by
 unfold cJ at h
 split at h
 next=>cases h
 next e vt z ht=>
  obtain⟨el,i,zv,hu,hi,hz,he,BO,Dt,tB,rfl⟩:=ei ht
  split at h
  next vs m xN hm=>
   obtain⟨us,ms,z_,jT,hy⟩:=q_ hR hx xN hm
   split at h
   next=>
    cases hs
    split at h
    next h0=>
     cases h
     refine mL.quiet hR (ij hu hi ty (Nat.le_refl 0) ?_) .al
     rcases hy with⟨rfl,_⟩|⟨a,cap,rfl,_⟩
     ·exact .inl rfl
     ·subst h0;exact .inr ⟨a,cap,rfl⟩
    next h0=>
     split at h
     next hc=>
      cases h
      rcases hy with⟨_,h1⟩|⟨a,cap,rfl,fy⟩
      ·exact absurd h1 h0
      ·have hr:=run_append_nil (P:=P) w t ty el i zv hu hi hz a m cap us PF fy J J (by have:=hc.1;rw[BO];omega)
       obtain⟨μ',yG,hn,hmm,ji,hS⟩:=ku (P:=P) hR.drew vs us (Builtin.zeroCells zv.cells (grownCap w m 0 el-m)).toList el ms
       have Dc:=grownCap_ge w m 0 el
       have hle:=grownCap_le_maxLen w m 0 el hc.2
       have rV:(us++(Builtin.zeroCells zv.cells (grownCap w m 0 el-m)).toList).toArray=us.toArray++Builtin.zeroCells zv.cells (grownCap w m 0 el-m):=by apply Array.ext';simp
       rw[rV]at ji hS
       refine⟨_,_,μ',hr,?_,ji,(Step.drew ajR I w).trans hS⟩
       refine .sl I.n 0 m e _ _ 0 (by simpa using hn) ⟨Dc,hle⟩ (.inl ⟨rfl,?_⟩)
       simp only[List.length_append,Array.length_toList,size_zeroCells,Dt,z_,Nat.zero_add,←Nat.add_mul]
       exact Nat.mul_le_mul_right _ J
     next=>cases h
   next bi k n e'=>
    have ll:=hs
    cases hs
    rename_i cap l off hl Dm ho
    have JG:m=0→mL P ajR I w (Builtin.append_ #[t,t] ty #[.slice (some ⟨l.b,off,none⟩) n cap,y]) (.sl bi k n e') I:=by
     intro h0
     refine mL.quiet hR (ij hu hi ty Dm.1 ?_) ll
     rcases hy with⟨rfl,_⟩|⟨a,cap,rfl,_⟩
     ·exact .inl rfl
     ·subst h0;exact .inr ⟨a,cap,rfl⟩
    split at h
    next B hB=>
     split at h
     next hc=>
      cases h
      obtain⟨iC,rfl,hk,lY,eX⟩:=hc
      by_cases h0:m=0
      ·subst h0
       have pK:vs=[]:=by
        have:=ms.1
        rw[z_,Nat.zero_mul]at this
        exact List.eq_nil_of_length_eq_zero this
       subst pK
       rw[List.append_nil]
       have oL:=ij (P:=P) (w:=w) hu hi ty (base:=some ⟨l.b,off,none⟩) (y:=y) Dm.1 (by
        rcases hy with⟨rfl,_⟩|⟨a,cap,rfl,_⟩
        ·exact .inl rfl
        ·exact .inr ⟨a,cap,rfl⟩)
       have aeD:B.cells.length≤l.c:=by
        obtain⟨arr,et,fr,_,_,hlen,_⟩:=(hR.lO bi B l hB hl).ex
        exact hlen
       rcases ho with⟨rfl,Qo⟩|aar
       ·have hmul:n*e'≤cap*e':=Nat.mul_le_mul_right _ Dm.1
        obtain⟨EA,vL⟩:=hR.move hB iC hl k (cap*e') Qo J J
        exact⟨_,_,_,oL,.sl I.n 0 n e' cap ⟨l.b,l.o+k,cap*e'⟩ (l.o+k) (by simp[Mu.gl]) Dm (.inl ⟨rfl,aV⟩),EA,vL⟩
       ·have oH:n=0:=J
        subst oH
        rw[Nat.zero_mul]at hk
        obtain⟨EA,vL⟩:=hR.move hB iC hl k 0 J J J
        exact⟨_,_,_,oL,.sl I.n 0 0 e' cap ⟨l.b,l.o+k,0⟩ off (by simp[Mu.gl]) Dm (.inr aar),EA,vL⟩
      rcases hy with⟨_,h1⟩|⟨a,ca,rfl,fy⟩
      ·exact absurd h1 h0
      ·by_cases nf:n+m≤cap
       ·have ho:off=l.o+k∧k+cap*e'≤l.c:=by
         rcases ho with h1|h1
         ·exact h1
         ·omega
        obtain⟨rfl,Qo⟩:=ho
        obtain⟨arr,et,fr,hb,uB,hlen,jn,og⟩:=(hR.lO bi B l hB hl).ex
        have pH:=jn iC
        subst pH
        have hmul:(n+m)*e'≤cap*e':=Nat.mul_le_mul_right _ nf
        rw[Nat.add_mul]at hmul
        have rW:l.o+B.cells.length+us.length≤arr.size:=by rw[z_];omega
        have Gk:(aB arr.toList (l.o+B.cells.length) us).toArray.size=arr.size:=by unfold aB;simp;omega
        have hr:=rL (P:=P) hu hi ty (off:=l.o+k) (n:=n) (cap:=cap) (c:=ca) hb PF fy jT nf (by rw[he];omega)
        rw[he,show l.o+k+n*e'=l.o+B.cells.length by omega]at hr
        have mD:=setRow_heap w l.b arr (aB arr.toList (l.o+B.cells.length) us).toArray et (0,0) hb
        have HG:vs.length=m*e':=by rw[ms.1,z_]
        have ga:∀o,(aB arr.toList (l.o+B.cells.length) us).toArray[o]? =
         if l.o+B.cells.length≤o∧o<l.o+B.cells.length+us.length then us[o-(l.o+B.cells.length)]? else arr[o]? :=by
         intro o
         unfold aB
         simp only[List.getElem?_toArray,List.getElem?_append,List.length_append,List.length_take,Array.length_toList,List.getElem?_take,List.getElem?_drop]
         rw[show min (l.o+B.cells.length) arr.size=l.o+B.cells.length by omega]
         by_cases h1:o<l.o+B.cells.length
         ·rw[if_pos J,if_pos h1,if_pos h1,if_neg J];simp
         ·by_cases h2:o<l.o+B.cells.length+us.length
          ·rw[if_pos J,if_neg h1,if_pos J]
          ·rw[if_neg J,if_neg J,show l.o+B.cells.length+us.length+(o-(l.o+B.cells.length+us.length))=o by omega];simp
        obtain⟨R9,Sa⟩:=hR.write hB iC hl (B.cells++vs) hb mD Gk (by rw[List.length_append,HG];omega)
         (by
           intro j q hq
           rw[ga]
           by_cases hj:j<B.cells.length
           ·rw[List.getElem?_append_left hj]at hq
            rw[if_neg J]
            exact og j q hq
           ·rw[List.getElem?_append_right J]at hq
            obtain⟨u',po,qF⟩:=ms.get hq
            have:=(List.getElem?_eq_some_iff.1 po).1
            rw[if_pos J,show l.o+j-(l.o+B.cells.length)=j-B.cells.length by omega]
            exact⟨u',po,qF⟩)
         (by intro o ho;rw[ga,if_neg J])
         (fun b eR=>setRow_other w l.b b _ eR) rfl rfl rfl (by simp[World.setRow])
        have R2:(I.set bi ⟨B.cells++vs,true⟩).get bi=some ⟨B.cells++vs,true⟩:=by simp[af.set]
        obtain⟨EA,vL⟩:=R9.move R2 rfl hl k (cap*e') Qo bX bX
        rw[af.KQ,show(B.cells++vs).drop k=B.cells.drop k++vs by rw[List.drop_append_of_le_length J]]at EA vL
        refine⟨_,_,_,hr,?_,EA,Sa.trans vL⟩
        refine .sl I.n 0 (n+m) e' cap ⟨l.b,l.o+k,cap*e'⟩ (l.o+k) (by simp[Mu.gl,af.set]) ⟨nf,Dm.2⟩ (.inl ⟨rfl,aV⟩)
       ·obtain⟨ws,HI,Mc⟩:=(hR.lO bi B l hB hl).rows
        have hold:=HI.drop k
        have O5:(ws.drop k).length=n*e':=by rw[←hold.1];simp;omega
        have aa4:∀(j:Nat) (u:Value),(ws.drop k)[j]? =some u→w.cell? ((⟨l.b,off,none⟩:Addr).add j)=some u:=by
         intro j u po
         rcases ho with⟨rfl,_⟩|h1
         ·rw[add_lit,Nat.add_assoc]
          exact Mc _ _ (by simpa[List.getElem?_drop]using po)
         ·have:n=0:=J
          subst this
          have:=(List.getElem?_eq_some_iff.1 po).1
          omega
        have hr:=run_append_grow (P:=P) w t ty el i zv hu hi hz ⟨l.b,off,none⟩ n cap (ws.drop k) (by rw[he];exact O5) aa4 a m ca us PF fy J J (growslice_fits J (by rw[BO];exact lY))
        obtain⟨Z8,T2⟩:=hR.kill bi
        obtain⟨μ',yG,hn,hmm,ji,hS⟩:=ku (P:=P) Z8.drew (B.cells.drop k++vs) (ws.drop k++us) (Builtin.zeroCells zv.cells (grownCap w (n+m) cap el-(n+m))).toList el (hold.append ms)
        have Dc:=grownCap_ge w (n+m) cap el
        have hle:=grownCap_le_maxLen w (n+m) cap el eX
        have Dg:(I.kill bi).n=I.n:=rfl
        have rV:(ws.drop k++us++(Builtin.zeroCells zv.cells (grownCap w (n+m) cap el-(n+m))).toList).toArray=
         (ws.drop k).toArray++us.toArray++Builtin.zeroCells zv.cells (grownCap w (n+m) cap el-(n+m)):=by apply Array.ext';simp
        rw[rV]at ji hS
        refine⟨_,_,μ',hr,?_,ji,(T2.trans (Step.drew _ _ _)).trans hS⟩
        rw[Dg]at hn
        have hlT:(ws.drop k++us++(Builtin.zeroCells zv.cells (grownCap w (n+m) cap el-(n+m))).toList).length=grownCap w (n+m) cap el*e':=by
         rw[List.length_append,List.length_append,O5,z_,Array.length_toList,size_zeroCells,Dt,←Nat.add_mul,←Nat.add_mul]
         congr 1
         omega
        refine .sl I.n 0 (n+m) e' _ ⟨w.heap.size,0,_⟩ 0 hn ⟨Dc,hle⟩ (.inl ⟨rfl,?_⟩)
        dsimp only
        rw[hlT]
        omega
     next=>
      split at h
      next h0=>cases h;exact JG h0
      next=>cases h
    next=>
     split at h
     next h0=>cases h;exact JG h0
     next=>cases h
   next=>cases h
  next=>cases h
end
end AH
namespace AH
open Go
section
variable {P:Program} {ajR:Mu} {I σ':af} {w:World} {v:U}
theorem rB(hR:Rel ajR I w){i:Nat}{B:cT}{l:Loc}(hB:I.get i=some B)(iC:B.rw=true)(hl:ajR i=some l)(k:Nat){vs:List U}{us:List Value}
 (xN:fW ajR vs us) (jT:∀u∈us,u.oneCell'=true) (hk:k+vs.length≤B.cells.length):
 ∃w',(storeCells ⟨l.b,l.o+k,none⟩ us).run P w= .ok () w'∧Rel ajR (I.set i ⟨aB B.cells k vs,true⟩) w'∧Step ajR I w ajR (I.set i ⟨aB B.cells k vs,true⟩) w':=by
 obtain⟨arr,el,fr,hb,hs,hlen,jn,fy⟩:=(hR.lO i B l hB hl).ex
 have pH:=jn iC
 subst pH
 have nL:us.length=vs.length:=xN.1.symm
 have ln:=run_storeCells_at P l.b (l.o+k) el us 0 arr w hb J jT
 simp only[Nat.add_zero]at ln
 refine⟨_,ln,?_⟩
 have mD:=setRow_heap w l.b arr (arr.toList.take (l.o+k)++us++arr.toList.drop (l.o+k+us.length)).toArray el (0,0) hb
 have ga:∀o,(arr.toList.take (l.o+k)++us++arr.toList.drop (l.o+k+us.length)).toArray[o]? =
  if l.o+k≤o∧o<l.o+k+us.length then us[o-(l.o+k)]? else arr[o]? :=by
  intro o
  simp only[List.getElem?_toArray,List.getElem?_append,List.length_append,List.length_take,Array.length_toList,List.getElem?_take,List.getElem?_drop]
  rw[show min (l.o+k) arr.size=l.o+k by omega]
  by_cases h1:o<l.o+k
  ·rw[if_pos J,if_pos h1,if_pos h1,if_neg J];simp
  ·by_cases h2:o<l.o+k+us.length
   ·rw[if_pos J,if_neg h1,if_pos J]
   ·rw[if_neg J,if_neg J,show l.o+k+us.length+(o-(l.o+k+us.length))=o by omega];simp
 refine hR.write hB iC hl (aB B.cells k vs) hb mD ?_ ?_ ?_ ?_ ?_ rfl rfl rfl (by simp[World.setRow])
 ·simp;omega
 ·unfold aB;simp;omega
 ·intro j a ha
  unfold aB at ha
  rw[ga]
  have hj:j<B.cells.length:=by
   have:=(List.getElem?_eq_some_iff.1 ha).1
   simp at this;omega
  simp only[List.getElem?_append,List.length_append,List.length_take,List.getElem?_take,List.getElem?_drop]at ha
  rw[show min k B.cells.length=k by omega]at ha
  by_cases h1:j<k
  ·rw[if_pos J,if_pos h1,if_pos h1]at ha
   rw[if_neg J]
   exact fy j a ha
  ·by_cases h2:j<k+vs.length
   ·rw[if_pos J,if_neg h1]at ha
    rw[if_pos J,show l.o+j-(l.o+k)=j-k by omega]
    exact xN.get ha
   ·rw[if_neg J,show k+vs.length+(j-(k+vs.length))=j by omega]at ha
    rw[if_neg J]
    exact fy j a ha
 ·intro o ho
  rw[ga,if_neg J]
 ·intro b eR
  exact setRow_other w l.b b _ eR
theorem CT(hR:Rel ajR I w){t tx:TypeId}(ty:TypeId){d x:U}{u y:Value}(hd:VR ajR d u)(hx:VR ajR x y)(h:qU P t d x I=some (v,σ')):
 mL P ajR I w (Builtin.copy_ #[t,tx] ty #[u,y]) v σ':=by
 have len:∀{m},eC x=some m→(Builtin.lenOf y).run P w= .ok m w:=by
  intro m hm
  cases hx<;>simp[eC]at hm<;>subst hm<;>simp[Builtin.lenOf]
 unfold qU at h
 split at h
 next e z i k n e' m ht hm=>
  obtain⟨el,inf,zv,hu,hi,hz,he,BO,Dt,tB,_⟩:=ei ht
  cases hd
  rename_i cap l off hl Dm ho
  have hlen:=len hm
  split at h
  next h0=>
   cases h
   refine mL.quiet hR (u:= .int .i64 0) ?_ (.int _ _)
   have Di:Nat.min m n=0:=h0
   cases hx<;>simp[eC]at hm<;>subst hm<;>
    simp[Builtin.copy_,ba hu,cM hi,Builtin.lenOf,Di,Builtin.firstCells,loadCells,loadCellsFrom,storeCells,goInt]
  next h0=>
   split at h
   next j k' mx ex=>
    split at h
    next vs B xN hB=>
     split at h
     next hc=>
      cases h
      obtain⟨iC,rfl,hk⟩:=hc
      simp[eC]at hm;subst hm
      cases hx
      rename_i PB lx Ny Qt xM hox
      have Aa:VR ajR (.sl j k' (min mx n) ex) (.slice (some ⟨lx.b,Ny,none⟩) (min mx n) PB):= .sl j k' _ ex PB lx Ny Qt J hox
      obtain⟨us,ms,z_,jT,hy⟩:=q_ hR Aa xN (m:=min mx n) rfl
      have fy:∀(q:Nat) (u:Value),us[q]? =some u→w.cell? ((⟨lx.b,Ny,none⟩:Addr).add q)=some u:=by
       rcases hy with⟨h1,_⟩|⟨a,c,h1,h2⟩
       ·cases h1
       ·cases h1;exact h2
      have UB:off=l.o+k:=by
       rcases ho with h1|h1
       ·exact h1.1
       ·omega
      subst UB
      have hmul:min mx n*e'≤n*e':=Nat.mul_le_mul_right _ (Nat.min_le_right _ _)
      obtain⟨w',ln,ji,BL⟩:=rB (P:=P) hR hB iC hl k ms jT (by rw[ms.1,z_];omega)
      have hf:=run_firstCells_some (P:=P) w inf.size (min mx n) ⟨lx.b,Ny,none⟩ mx PB us PF fy
      refine⟨.int .i64 (min mx n:Nat),w',ajR,?_,.int _ _,ji,BL⟩
      have Di:Nat.min mx n=min mx n:=rfl
      simp only[Builtin.copy_,List.getElem?_toArray,List.getElem?_cons_zero,List.getElem?_cons_succ,Sem.run_bind,ba hu,Result.andThen_ok,Builtin.lenOf,Sem.run_pure,cM hi,Di,hf,ln,goInt]
     next=>cases h
    next=>cases h
   next=>cases h
 next q m ht hm=>
  cases h
  obtain⟨el,inf,zv,hu,hi,hz,he,BO,Dt,tB,_⟩:=ei ht
  cases hd
  refine mL.quiet hR (u:= .int .i64 0) ?_ (.int _ _)
  cases hx<;>simp[eC]at hm<;>
   simp[Builtin.copy_,ba hu,cM hi,Builtin.lenOf,Builtin.firstCells,loadCells,loadCellsFrom,goInt]
 next=>cases h
theorem zw(hR:Rel ajR I w){t:TypeId}(ty:TypeId){x:U}{y:Value}(hx:VR ajR x y)(h:qm P t x I=some (v,σ')):
 mL P ajR I w (Builtin.clear_ #[t] ty #[y]) v σ':=by
 unfold qm at h
 split at h
 next p ht=>
  obtain⟨e,b,z⟩:=p
  cases h
  obtain⟨el,inf,zv,hu,hi,hz,he,BO,Dt,tB,_⟩:=ei ht
  cases hx
  exact mL.quiet hR (u:= .tuple #[]) (by simp[Builtin.clear_,ba hu]) (.cw [] #[] rfl fun j a u ha _=>by simp at ha)
 next e b z i k n e' ht=>
  obtain⟨el,inf,zv,hu,hi,hz,he,BO,Dt,tB,rfl⟩:=ei ht
  cases hx
  rename_i cap l off hl Dm ho
  split at h
  next h0=>
   cases h
   subst h0
   exact mL.quiet hR (u:= .tuple #[]) (by simp[Builtin.clear_,ba hu]) (.cw [] #[] rfl fun j a u ha _=>by simp at ha)
  next h0=>
   split at h
   next B hB=>
    split at h
    next hc=>
     cases h
     obtain⟨iC,rfl,hk,jT⟩:=hc
     have UB:off=l.o+k:=by
      rcases ho with h1|h1
      ·exact h1.1
      ·omega
     subst UB
     have xN:fW ajR (zv.cells.toList.map jY) zv.cells.toList:=iN ajR _
     have tm:(Builtin.zeroCells zv.cells n).toList=(List.replicate n zv.cells.toList).flatten:=range_zero _ _ J
     obtain⟨w',ln,ji,BL⟩:=rB (P:=P) hR hB iC hl k (kG xN n) (fun u hu=>by
      obtain⟨l',df,po⟩:=List.mem_flatten.1 hu
      rw[List.eq_of_mem_replicate df]at po
      exact xN.tP jT u po) (by simp only[List.length_flatten,List.map_replicate,List.sum_replicate_nat,List.length_map,Array.length_toList,Dt];exact hk)
     rw[←tm]at ln
     refine⟨.tuple #[],w',ajR,?_,.cw [] #[] rfl fun j a u ha _=>by simp at ha,ji,BL⟩
     obtain⟨m,rfl⟩:∃m,n=m+1:=⟨n-1,J⟩
     simp[Builtin.clear_,ba hu,zeroValue,dK hi,hz,ln]
    next=>cases h
   next=>cases h
 next=>cases h
theorem iR(op:BinOp)(t:TypeId)(x y:Operand){a b:Value}(h1:∀cs,a≠ .agg cs)(h2:a≠ .nilIface):(eqGuard op t x y a b).run P w= .ok () w:=by
 unfold eqGuard
 cases op<;>simp
 all_goals(cases a<;>first|rfl|(exfalso;exact h2 rfl)|(exfalso;exact h1 _ rfl))
theorem Ce{op:BinOp}{k:IntKind}{a b:Int}(h:lJ op k a b=some v)(hs:op≠ .shl)(BW:op≠ .shr)(t:TypeId):
 ∃r,(binOp op t (.int k a) (.int k b)).run P w= .ok r w∧VR ajR v r:=by
 cases op<;>simp only[lJ,Option.some.injEq,reduceCtorEq]at h<;>try(exact absurd rfl hs)<;>try(exact absurd rfl BW)
 case quo=>
  split at h
  ·cases h
  ·rename_i hb
   cases h
   exact⟨_,by simp[binOp,Op.intDiv,hb],.int _ _⟩
 case rem=>
  split at h
  ·cases h
  ·rename_i hb
   cases h
   exact⟨_,by simp[binOp,Op.intDiv,hb],.int _ _⟩
 all_goals subst h
 case add=>exact⟨_,by simp[binOp,Op.intArith],.int _ _⟩
 case sub=>exact⟨_,by simp[binOp,Op.intArith],.int _ _⟩
 case mul=>exact⟨_,by simp[binOp,Op.intArith],.int _ _⟩
 case and=>exact⟨_,by simp only[binOp,ne_eq,not_true,if_false,Op.intBits];rfl,.int _ _⟩
 case or=>exact⟨_,by simp only[binOp,ne_eq,not_true,if_false,Op.intBits];rfl,.int _ _⟩
 case xor=>exact⟨_,by simp only[binOp,ne_eq,not_true,if_false,Op.intBits];rfl,.int _ _⟩
 all_goals exact⟨_,by simp only[binOp,ne_eq,not_true,if_false,Op.intCmp];rfl,.bool _⟩
theorem gN{t el:TypeId}(hu:P.underlying t=some (.slice el))(a:Option Addr)(n c:Nat):
 (Op.equal t (.slice a n c) (.slice none 0 0)).run P w= .ok a.isNone w:=by
 have key:∀d,(Op.equalIn (d+1) t (.slice a n c) (.slice none 0 0)).run P w= .ok a.isNone w:=by
  intro d
  cases a<;>simp[Op.equalIn,ba hu]
 exact key 9999
theorem xj{op:BinOp}{k k':IntKind}{a b:Int}(h:mQ op k a b=some v)(t:TypeId):
 ∃r,(binOp op t (.int k a) (.int k' b)).run P w= .ok r w∧VR ajR v r:=by
 unfold mQ at h
 split at h
 ·cases h
 ·rename_i hb
  have eR:¬b<0:=hb
  split at h
  ·cases h;exact⟨_,by simp[binOp,Op.shift,eR],.int _ _⟩
  ·cases h;exact⟨_,by simp[binOp,Op.shift,eR],.int _ _⟩
  ·cases h
theorem oy{t:TypeId}{a b:U}{u y:Value}{r:Bool}(ha:VR ajR a u)(hb:VR ajR b y)(h:qn P t a b=some r)(d:Nat):
 (Op.equalIn (d+1) t u y).run P w= .ok r w:=by
 unfold qn at h
 split at h
 next p q hu=>cases h;cases ha;cases hb;exact run_equalIn_bool' w d t _ _ hu
 next k k' x k'' y' hu=>
  split at h
  ·rename_i hk;subst hk;cases h;cases ha;cases hb;exact run_equalIn_int w d t _ _ _ _ hu
  ·cases h
 next x y' hu=>
  cases h;cases ha;cases hb
  rw[run_equalIn_string w d t _ _ hu,beq_toListBytes]
 next=>cases h
theorem oZ{t:TypeId}{cs:List U}{us:Array Value}(hl:cs.length=us.size)(hv:∀(j:Nat) (a:U) (u:Value),cs[j]? =some a→us[j]? =some u→VR ajR a u)
 {d:TypeDesc} (hd:P.underlying t=some d) (Ji:tL d=false) {o:Nat} {a:U} (ha:cs[o]? =some a):
 ∃u,(part t us o).run P w= .ok u w∧VR ajR a u:=by
 have ho:o<us.size:=by
  have:=(List.getElem?_eq_some_iff.1 ha).1;omega
 have hu:us[o]? =some us[o]:=Array.getElem?_eq_getElem ho
 exact⟨us[o],by simp[part,qO hd,Ji,hu],hv o a _ ha hu⟩
theorem Fs{t:TypeId}{a b:U}{r:Bool}(h:qn P t a b=some r):∃d,P.underlying t=some d∧tL d=false:=by
 unfold qn at h
 split at h
 next hu=>exact⟨_,hu,rfl⟩
 next hu=>exact⟨_,hu,rfl⟩
 next hu=>exact⟨_,hu,rfl⟩
 next=>cases h
theorem uF{xs ys:List U}{us vs:Array Value}(hl:xs.length=us.size)(hv:∀(j:Nat) (a:U) (u:Value),xs[j]? =some a→us[j]? =some u→VR ajR a u)
 (df:ys.length=vs.size) (qF:∀(j:Nat) (a:U) (u:Value),ys[j]? =some a→vs[j]? =some u→VR ajR a u) (d:Nat):
 ∀(fs:List Field) (r:Bool),pq (qn P) fs xs ys=some r→(Op.eqFields (d+1) us vs fs).run P w= .ok r w:=by
 intro fs
 induction fs with
 |nil=>intro r h;simp[pq]at h;subst h;rfl
 |cons f fs ih=>
  intro r h
  simp only[pq]at h
  split at h
  ·cases h
  ·rename_i gF
   split at h
   ·rename_i a b ha hb
    cases hq:qn P f.type a b with
    |none=>rw[hq]at h;cases h
    |some r'=>
     obtain⟨dd,hd,Ji⟩:=Fs hq
     obtain⟨u,hu,hau⟩:=oZ (P:=P) (w:=w) hl hv hd Ji ha
     obtain⟨y,hy,BO⟩:=oZ (P:=P) (w:=w) df qF hd Ji hb
     have he:=oy (P:=P) (w:=w) hau BO hq d
     rw[hq]at h
     cases r'
     ·cases h
      simp[Op.eqFields,gF,hu,hy,he]
     ·simp only at h
      simp[Op.eqFields,gF,hu,hy,he,ih r h]
   ·cases h
theorem sF{t:TypeId}{xs ys:List U}{us vs:Array Value}(hl:xs.length=us.size)(hv:∀(j:Nat) (a:U) (u:Value),xs[j]? =some a→us[j]? =some u→VR ajR a u)
 (df:ys.length=vs.size) (qF:∀(j:Nat) (a:U) (u:Value),ys[j]? =some a→vs[j]? =some u→VR ajR a u) {r:Bool} (h:Ft P t xs ys=some r) (op:BinOp) (x y:Operand):
 (eqGuard op t x y (.agg us) (.agg vs)).run P w= .ok () w∧(Op.equalIn 10000 t (.agg us) (.agg vs)).run P w= .ok r w:=by
 unfold Ft at h
 split at h
 next fs hu=>
  split at h
  ·rename_i hc
   refine⟨run_eqGuard_agg w op t x y us vs hc.2,?_⟩
   have hf:P.fieldsOf t=fs:=by simp[Program.fieldsOf,hu]
   rw[run_equalIn_struct w 9999 t us vs (by rw[hf];exact hu) hc.1,hf]
   exact uF hl hv df qF 9998 fs.toList r h
  ·cases h
 next=>cases h
theorem FL{op:BinOp}{t:TypeId}{a b:U}{u y:Value}(ha:VR ajR a u)(hb:VR ajR b y)(h:eB P op t a b=some v)(x z:Operand):
 ∃r,(do eqGuard op t x z u y;binOp op t u y:Sem Value).run P w= .ok r w∧VR ajR v r:=by
 unfold eB at h
 split at h
 next k p k' q=>
  cases ha;cases hb
  rw[Sem.run_bind,iR op t x z aV aV,Result.andThen_ok]
  split at h
  ·exact xj h t
  ·rename_i hs
   split at h
   ·rename_i hk;subst hk
    exact Ce h (fun e=>hs (.inl e)) (fun e=>hs (.inr e)) t
   ·cases h
 next p q=>
  cases ha;cases hb
  rw[Sem.run_bind,iR op t x z aV aV,Result.andThen_ok]
  split at h
  ·cases he:qn P t (.bool p) (.bool q)with
   |none=>rw[he]at h;cases h
   |some r=>
    rw[he]at h;cases h
    have:=oy (P:=P) (w:=w) (ajR:=ajR) (.bool p) (.bool q) he 9999
    exact⟨_,by simp[binOp,Op.equal,Op.maxDepth,this],.bool _⟩
  ·cases he:qn P t (.bool p) (.bool q)with
   |none=>rw[he]at h;cases h
   |some r=>
    rw[he]at h;cases h
    have:=oy (P:=P) (w:=w) (ajR:=ajR) (.bool p) (.bool q) he 9999
    exact⟨_,by simp[binOp,Op.equal,Op.maxDepth,this],.bool _⟩
  ·cases h
 next xs ys=>
  cases ha;cases hb
  rename_i us hl hv vs df qF
  split at h
  ·cases he:Ft P t xs ys with
   |none=>rw[he]at h;cases h
   |some r=>
    rw[he]at h;cases h
    obtain⟨h1,h2⟩:=sF (P:=P) (w:=w) hl hv df qF he .eql x z
    exact⟨_,by rw[Sem.run_bind,h1,Result.andThen_ok,run_eql_struct,h2];rfl,.bool _⟩
  ·cases he:Ft P t xs ys with
   |none=>rw[he]at h;cases h
   |some r=>
    rw[he]at h;cases h
    obtain⟨h1,h2⟩:=sF (P:=P) (w:=w) hl hv df qF he .neq x z
    exact⟨_,by rw[Sem.run_bind,h1,Result.andThen_ok,run_neq_struct,h2];rfl,.bool _⟩
  ·cases h
 next p q=>
  cases ha;cases hb
  rw[Sem.run_bind,iR op t x z aV aV,Result.andThen_ok]
  split at h
  ·cases h;exact⟨_,by simp[binOp,Op.stringOp,beq_toListBytes],.bool _⟩
  ·cases h;exact⟨_,by simp[binOp,Op.stringOp,beq_toListBytes,bne],.bool _⟩
  ·split at h
   ·rename_i dG
    cases h
    have:¬((p.size+q.size:Nat):Int)>IntKind.i64.max:=by simp[IntKind.max,IntKind.signed,IntKind.bits];omega
    exact⟨_,by simp only[binOp,Op.stringOp,this,if_false];rfl,.str _⟩
   ·cases h
  ·cases h
 next=>
  cases hb
  split at h
  ·rename_i hu
   cases h;cases ha
   rw[Sem.run_bind,iR .eql t x z aV aV,Result.andThen_ok]
   exact⟨.bool true,by simp[binOp,gN hu],.bool _⟩
  ·rename_i hu
   cases h;cases ha
   rw[Sem.run_bind,iR .eql t x z aV aV,Result.andThen_ok]
   exact⟨.bool false,by simp[binOp,gN hu],.bool _⟩
  ·rename_i hu
   cases h;cases ha
   rw[Sem.run_bind,iR .neq t x z aV aV,Result.andThen_ok]
   exact⟨.bool false,by simp[binOp,gN hu],.bool _⟩
  ·rename_i hu
   cases h;cases ha
   rw[Sem.run_bind,iR .neq t x z aV aV,Result.andThen_ok]
   exact⟨.bool true,by simp[binOp,gN hu],.bool _⟩
  ·cases h
 next=>cases h
end
end AH
namespace AH
open Go
def EP:Op→Bool
 | .store .. =>true
 | .call ⟨.value _,_,_⟩=>true
 | .call ⟨.builtin .append,_,_⟩=>true
 | .call ⟨.builtin .copy,_,_⟩=>true
 | .call ⟨.builtin .clear,_,_⟩=>true
 |_=>false
def aQ:Op→Bool
 | .load .. =>true
 |_=>false
def yH:Op→Bool
 | .alloc _| .box .. | .buildSlice .. | .makeSlice .. =>true
 |_=>false
section
variable {P:Program} {ajR:Mu} {I σ':af} {w:World} {v:U}
theorem qX{d:Int}{lo:Option U}{lo':Option Value}(rX:∀a,lo=some a→∃u,lo'=some u∧VR ajR a u)(Qs:lo=none→lo'=none){q:Int}(h:mM d lo=some q):
 (lo'=none∧q=d)∨∃kk,lo'=some (.int kk q):=by
 cases lo with
 |none=>simp[mM]at h;exact .inl ⟨Qs rfl,h.symm⟩
 |some a=>
  obtain⟨u,hu,hv⟩:=rX a rfl
  cases hv<;>simp[mM]at h
  subst h;exact .inr ⟨_,hu⟩
theorem A0{t:TypeId}{e b:Nat}{z:List U}(ht:bR P t=some (e,b,z)){x:U}{y:Value}(hx:VR ajR x y)
 {lo hi:Option U} {lo' hi':Option Value} (rX:∀a,lo=some a→∃u,lo'=some u∧VR ajR a u) (Qs:lo=none→lo'=none)
 (uA:∀a,hi=some a→∃u,hi'=some u∧VR ajR a u) (aaJ:hi=none→hi'=none) (h:jN e x lo hi=some v):
 jL P ajR w (Instr.sliceAt t y lo' hi' none) v:=by
 obtain⟨el,inf,zv,hu,xH,hz,he,BO,Dt,tB,_⟩:=ei ht
 unfold jN at h
 split at h
 next i k n e'=>
  cases hx
  rename_i cap l off hl Dm ho
  split at h
  next q p hq hp=>
   split at h
   next hc=>
    cases h
    obtain⟨rfl,h0,h1,h2⟩:=hc
    have hb:(Instr.sliceBounds true n cap lo' hi' none).run P w= .ok (q.toNat,p.toNat,cap) w:=by
     rcases qX rX Qs hq with⟨rfl,rfl⟩|⟨kk,rfl⟩<;>rcases qX uA aaJ hp with⟨rfl,rfl⟩|⟨kk',rfl⟩
     ·simp[Instr.sliceBounds]
     ·have:p≤(cap:Int):=J
      simp[Instr.sliceBounds,Instr.sliceBound,asIntOf,h1,this]
     ·simp[Instr.sliceBounds,Instr.sliceBound,asIntOf,h0,h1]
     ·have g1:p≤(cap:Int):=J
      have g2:0≤p:=J
      have g3:((p.toNat:Nat):Int)=p:=J
      simp only[Instr.sliceBounds,Instr.sliceBound,asIntOf,Sem.run_bind,Sem.run_pure,Result.andThen_ok,h0,g1,g2,g3,h1,and_self,if_true]
    refine jL.mk' (u:= .slice (if cap=q.toNat then some ⟨l.b,off,none⟩else(some ⟨l.b,off,none⟩:Option Addr).map (·.add (q.toNat*e'))) (p.toNat-q.toNat) (cap-q.toNat)) ?_ ?_
    ·simp only[Instr.sliceAt,Sem.run_bind,ba hu,Result.andThen_ok,Instr.slice,hb,cM xH,he,Sem.run_pure]
    ·by_cases hcq:cap=q.toNat
     ·rw[if_pos hcq]
      exact .sl i _ _ e' _ l off hl J (.inr J)
     ·rw[if_neg hcq]
      simp only[Option.map_some,add_lit]
      rcases ho with⟨rfl,Qo⟩|h3
      ·refine .sl i _ _ e' _ l _ hl J (.inl ⟨J,?_⟩)
       have hmul:q.toNat*e'+(cap-q.toNat)*e'=cap*e':=by
        rw[←Nat.add_mul];congr 1;omega
       omega
      ·exact .sl i _ _ e' _ l _ hl J (.inr J)
   next=>cases h
  next=>cases h
 next=>cases h
theorem I4{ajS:Operand→U}{ρ':Operand→Value}(hρ:∀x,VR ajR (ajS x) (ρ' x)):∀(xs:List Operand) (a:U) (u:Value) (v:U),VR ajR a u→
 xs.foldlM (fun a y=>n9 a (ajS y)) a=some v→∃r,((xs.map ρ').foldlM Builtin.max2 u).run P w= .ok r w∧VR ajR v r:=by
 intro xs
 induction xs with
 |nil=>intro a u v h hf;simp at hf;subst hf;exact⟨u,rfl,h⟩
 |cons x xs ih=>
  intro a u v h hf
  simp only[List.foldlM_cons]at hf
  cases hm:n9 a (ajS x)with
  |none=>rw[hm]at hf;cases hf
  |some b=>
   rw[hm]at hf
   have hx:=hρ x
   unfold n9 at hm
   split at hm
   ·rename_i hb
    cases hm;cases h
    rw[hb]at hx
    generalize hq:ρ' x=q at hx
    cases hx
    obtain⟨r,hr,hv⟩:=ih _ _ v (.int _ _) hf
    refine⟨r,?_,hv⟩
    simp only[List.map_cons,List.foldlM_cons,hq,Sem.run_bind,Builtin.max2,Sem.run_pure,Result.andThen_ok]
    exact hr
   ·cases hm
theorem I5{ajS:Operand→U}{ρ':Operand→Value}(hρ:∀x,VR ajR (ajS x) (ρ' x)):∀(xs:List Operand) (a:U) (u:Value) (v:U),VR ajR a u→
 xs.foldlM (fun a y=>n_ a (ajS y)) a=some v→∃r,((xs.map ρ').foldlM Builtin.min2 u).run P w= .ok r w∧VR ajR v r:=by
 intro xs
 induction xs with
 |nil=>intro a u v h hf;simp at hf;subst hf;exact⟨u,rfl,h⟩
 |cons x xs ih=>
  intro a u v h hf
  simp only[List.foldlM_cons]at hf
  cases hm:n_ a (ajS x)with
  |none=>rw[hm]at hf;cases hf
  |some b=>
   rw[hm]at hf
   have hx:=hρ x
   unfold n_ at hm
   split at hm
   ·rename_i hb
    cases hm;cases h
    rw[hb]at hx
    generalize hq:ρ' x=q at hx
    cases hx
    obtain⟨r,hr,hv⟩:=ih _ _ v (.int _ _) hf
    refine⟨r,?_,hv⟩
    simp only[List.map_cons,List.foldlM_cons,hq,Sem.run_bind,Builtin.min2,Sem.run_pure,Result.andThen_ok]
    exact hr
   ·cases hm
theorem Ao{t:TypeId}{x i:U}{u y:Value}(hx:VR ajR x u)(hi:VR ajR i y)(h:qp P t x i=some v):
 ∃r,(Instr.index t u y).run P w= .ok r w∧VR ajR v r:=by
 unfold qp at h
 split at h
 next kk i=>
  cases hi
  split at h
  next cs=>
   cases hx
   rename_i us hl hv
   split at h
   next n el hu=>
    split at h
    next e Ji=>
     split at h
     next hc=>
      obtain⟨d,inf,hd,xH,aad,uB⟩:=mo Ji
      obtain⟨r,hr,Gm⟩:=oZ (P:=P) (w:=w) hl hv hd aad h
      exact⟨r,by simp[Instr.index,asIntOf,ba hu,hc.1,hc.2,cM xH,uB,hr],Gm⟩
     next=>cases h
    next=>cases h
   next=>cases h
  next s=>
   cases hx
   split at h
   next hu=>
    split at h
    next hc=>
     cases hb:s[i.toNat]? with
     |none=>rw[hb]at h;cases h
     |some b=>
      rw[hb]at h;cases h
      exact⟨.int .u8 b.toNat,by simp[Instr.index,asIntOf,ba hu,hc,hb],.int _ _⟩
    next=>cases h
   next=>cases h
  next=>cases h
 next=>cases h
theorem Dy{t el:TypeId}{inf:TypeInfo}(hu:P.underlying t=some (.slice el))(hi:P.info? el=some inf){b off n cap:Nat}{kk:IntKind}{i:Int}(h0:0≤i)(h1:i<n):
 (Instr.indexAt t (.slice (some ⟨b,off,none⟩) n cap) (.int kk i)).run P w= .ok (.pointer (some ⟨b,off+i.toNat*inf.size,none⟩)) w:=by
 simp[Instr.indexAt,asIntOf,ba hu,cM hi,h0,h1,add_lit]
def ZB(P:Program)(ajR:Mu)(w:World)(s:Sem Next)(v:U):Prop:=∃u,s.run P w= .ok (.value u) w∧VR ajR v u
theorem jL.op{s:Sem Value}(h:jL P ajR w s v):ZB P ajR w (do pure (.value (←s))) v:=by
 obtain⟨u,hr,hv⟩:=h
 exact⟨u,by simp[hr],hv⟩
theorem oz(hR:Rel ajR I w){ajS:Operand→U}{ρ':Operand→Value}(hρ:∀x,VR ajR (ajS x) (ρ' x)){o:Oper}(hE:EP o.op=false)(hN:yH o.op=false)(h:db P ajS o.op I=some (v,σ')):
 ZB P ajR w (execOp ρ' o) v:=by
 obtain⟨dst,op,type,pos,after,guard⟩:=o
 dsimp only at h hE hN
 cases op<;>simp only[EP,yH,Bool.true_eq_false,reduceCtorEq]at hE hN<;>simp only[db]at h<;>try(cases h;done)
 case move x=>cases h;exact⟨_,rfl,hρ x⟩
 case assign x=>cases h;exact⟨_,rfl,hρ x⟩
 case pick c a b=>
  split at h
  next t hc=>
   cases h
   have:=hρ c
   rw[hc]at this
   generalize hq:ρ' c=q at this
   cases this
   refine⟨if t then ρ' a else ρ' b,?_,?_⟩
   ·simp only[execOp,hq,asBool];rfl
   ·cases t
    ·exact hρ b
    ·exact hρ a
  next=>cases h
 case build t parts=>
  split at h
  next z pl hz dO=>
   cases hf:iE (pl[·]?) z (parts.toList.map fun(i,x)=>(i,ajS x))with
   |none=>rw[hf]at h;cases h
   |some cs=>rw[hf]at h;cases h;exact(zp hρ hz dO hf).op
  next=>cases h
 case load t a=>
  cases hl:ja P t (ajS a) I with
  |none=>rw[hl]at h;cases h
  |some r=>rw[hl]at h;cases h;exact(tN hR (hρ a) hl).op
 case nilCheck x=>
  have:=hρ x
  split at h
  next i k hx=>
   cases h
   rw[hx]at this
   generalize hq:ρ' x=q at this
   have h0:=this
   cases this
   exact⟨_,by simp only[execOp,hq];rfl,h0⟩
  next f a b hx=>
   cases h
   rw[hx]at this
   generalize hq:ρ' x=q at this
   have h0:=this
   cases this
   exact⟨_,by simp only[execOp,hq];rfl,h0⟩
  next=>cases h
 case binOp op t x y yt=>
  cases hb:eB P op t (ajS x) (ajS y)with
  |none=>rw[hb]at h;cases h
  |some r=>
   rw[hb]at h;cases h
   obtain⟨u,hr,hv⟩:=FL (P:=P) (w:=w) (hρ x) (hρ y) hb x y
   exact(jL.mk' hr hv).op
 case unOp op t x=>
  cases hb:Tp op (ajS x)with
  |none=>rw[hb]at h;cases h
  |some r=>
   rw[hb]at h;cases h
   have hx:=hρ x
   unfold Tp at hb
   split at hb
   next k n he=>
    cases hb
    rw[he]at hx
    generalize hq:ρ' x=q at hx
    cases hx
    refine(jL.mk' (u:= .int k (k.wrap (0-n))) ?_ (.int _ _)).op
    simp[hq,Op.unary,Op.intArith]
   next b he=>
    cases hb
    rw[he]at hx
    generalize hq:ρ' x=q at hx
    cases hx
    refine(jL.mk' (u:= .bool (!b)) ?_ (.bool _)).op
    simp[hq,Op.unary]
   next=>cases hb
 case convert src dst x=>
  split at h
  next ds k kk n hs hd Ab=>
   cases h
   have hx:=hρ x
   rw[Ab]at hx
   generalize hq:ρ' x=q at hx
   cases hx
   refine(jL.mk' (u:= .int k (k.wrap n)) ?_ (.int _ _)).op
   simp[convert,ba hs,ba hd,hq,Conv.intToInt]
  next=>cases h
 case makeFunc fn a b=>
  cases fn<;>simp only at h<;>try(cases h;done)
  case func f=>
   cases h
   refine(jL.mk' (u:= .func (.func f) (a.map ρ') (b.map ρ')) rfl ?_).op
   have key:∀(a:Array Operand) (j:Nat) (p:U) (u:Value),(a.toList.map ajS)[j]? =some p→(a.map ρ')[j]? =some u→VR ajR p u:=by
    intro a j p u hp hu
    simp only[List.getElem?_map,Array.getElem?_toList,Array.getElem?_map]at hp hu
    cases hj:a[j]? with
    |none=>simp[hj]at hp
    |some y=>
     simp only[hj,Option.map_some,Option.some.injEq]at hp hu
     subst hp;subst hu;exact hρ y
   exact .fn f _ _ _ _ aV aV (key a) (key b)
 case slice t x lo hi mx=>
  cases mx<;>simp only at h<;>try(cases h;done)
  split at h
  next e rest ht=>
   cases hs:jN e (ajS x) (lo.map ajS) (hi.map ajS)with
   |none=>rw[hs]at h;cases h
   |some r=>
    rw[hs]at h;cases h
    obtain⟨b,z⟩:=rest
    refine(A0 (lo':=lo.map ρ') (hi':=hi.map ρ') ht (hρ x) ?_ ?_ ?_ ?_ hs).op
    ·intro a ha
     cases lo with
     |none=>cases ha
     |some y=>cases ha;exact⟨_,rfl,hρ y⟩
    ·intro ha;cases lo<;>simp at ha⊢
    ·intro a ha
     cases hi with
     |none=>cases ha
     |some y=>cases ha;exact⟨_,rfl,hρ y⟩
    ·intro ha;cases hi<;>simp at ha⊢
  next=>cases h
 case fieldAddr s x f=>
  split at h
  next i k off Ab hf=>
   cases h
   have hx:=hρ x
   rw[Ab]at hx
   generalize hq:ρ' x=q at hx
   cases hx
   rename_i l hl
   unfold br at hf
   split at hf
   next fs hu=>
    split at hf
    next fd hfd=>
     split at hf
     next inf xH=>
      split at hf
      next=>cases hf
      next gF=>
       cases hf
       refine(jL.mk' (u:= .pointer (some ⟨l.b,l.o+k+fd.offset,none⟩)) ?_ ?_).op
       ·simp[hq,Instr.fieldAt,ba hu,hfd,Instr.sureAddr,fieldPlace,cM xH,gF,add_lit]
       ·rw[Nat.add_assoc];exact .ptr i _ l hl
     next=>cases hf
    next=>cases hf
   next=>cases hf
  next=>cases h
 case indexAddr t x ix=>
  split at h
  next kk i OZ=>
   have hi:=hρ ix
   rw[OZ]at hi
   generalize BU:ρ' ix=qi at hi
   cases hi
   split at h
   next b k n e Ab=>
    have hx:=hρ x
    rw[Ab]at hx
    generalize hq:ρ' x=q at hx
    cases hx
    rename_i cap l off hl Dm ho
    split at h
    next e' rest ht=>
     split at h
     next hc=>
      cases h
      obtain⟨rfl,h0,h1⟩:=hc
      obtain⟨b',z⟩:=rest
      obtain⟨el,inf,zv,hu,xH,hz,he,BO,Dt,tB,_⟩:=ei ht
      have UB:off=l.o+k:=by
       rcases ho with h2|h2
       ·exact h2.1
       ·omega
      subst UB
      refine(jL.mk' (u:= .pointer (some ⟨l.b,l.o+k+i.toNat*e,none⟩)) ?_ ?_).op
      ·rw[hq,BU,Dy hu xH h0 h1,he]
      ·rw[Nat.add_assoc];exact .ptr b _ l hl
     next=>cases h
    next=>cases h
   next b k Ab=>
    have hx:=hρ x
    rw[Ab]at hx
    generalize hq:ρ' x=q at hx
    cases hx
    rename_i l hl
    split at h
    next n e ht=>
     split at h
     next hc=>
      cases h
      unfold A8 at ht
      split at ht
      next n' el hu=>
       split at ht
       next inf xH=>
        cases ht
        refine(jL.mk' (u:= .pointer (some ⟨l.b,l.o+k+i.toNat*inf.size,none⟩)) ?_ ?_).op
        ·simp[hq,BU,Instr.indexAt,asIntOf,ba hu,cM xH,Instr.sureAddr,hc.1,hc.2,add_lit]
        ·rw[Nat.add_assoc];exact .ptr b _ l hl
       next=>cases ht
      next=>cases ht
     next=>cases h
    next=>cases h
   next=>cases h
  next=>cases h
 case index t x ix=>
  cases hb:qp P t (ajS x) (ajS ix)with
  |none=>rw[hb]at h;cases h
  |some r=>
   rw[hb]at h;cases h
   obtain⟨u,hr,hv⟩:=Ao (P:=P) (w:=w) (hρ x) (hρ ix) hb
   exact(jL.mk' hr hv).op
 case extract t i=>
  split at h
  next vs Ab=>
   have hx:=hρ t
   rw[Ab]at hx
   generalize hq:ρ' t=q at hx
   cases hx
   rename_i us hl hv
   cases hi:vs[i]? with
   |none=>rw[hi]at h;cases h
   |some a=>
    rw[hi]at h;cases h
    have dG:i<us.size:=by have:=(List.getElem?_eq_some_iff.1 hi).1;omega
    refine(jL.mk' (u:=us[i]) ?_ (hv i _ _ hi (Array.getElem?_eq_getElem dG))).op
    simp[hq,Instr.extract,dG]
  next=>cases h
 case call c=>
  obtain⟨callee,args,ts⟩:=c
  cases callee<;>simp only at h<;>try(cases h;done)
  case builtin b=>
   have vM:args.map ρ'=(args.toList.map ρ').toArray:=by apply Array.ext';simp
   split at h
   next x t hx ht=>
    have e1:args= #[x]:=by apply Array.ext';simpa using hx
    have e2:ts= #[t]:=by apply Array.ext';simpa using ht
    subst e1;subst e2
    have hv:=hρ x
    split at h
    next el n b k m e hu hn h0=>
     cases h
     rw[h0]at hv hn
     simp[eC]at hn;subst hn
     generalize hq:ρ' x=q at hv
     cases hv
     refine⟨.int .i64 m,?_,.int _ _⟩
     simp[execOp,resolve,invoke,builtin,Builtin.len_,hq,ba hu,goInt]
    next el n hu hn h0=>
     cases h
     rw[h0]at hv hn
     simp[eC]at hn;subst hn
     generalize hq:ρ' x=q at hv
     cases hv
     refine⟨.int .i64 0,?_,.int _ _⟩
     simp[execOp,resolve,invoke,builtin,Builtin.len_,hq,ba hu,goInt]
    next n s hu hn h0=>
     cases h
     rw[h0]at hv hn
     simp[eC]at hn;subst hn
     generalize hq:ρ' x=q at hv
     cases hv
     refine⟨.int .i64 s.size,?_,.int _ _⟩
     simp[execOp,resolve,invoke,builtin,Builtin.len_,hq,ba hu,goInt]
    next=>cases h
   next=>cases hE
   next=>cases hE
   next=>cases hE
   next _ x xs hx=>
    cases hf:xs.foldlM (fun a y=>n9 a (ajS y)) (ajS x)with
    |none=>rw[hf]at h;cases h
    |some r=>
     rw[hf]at h;cases h
     obtain⟨u,hr,hv⟩:=I4 (P:=P) (w:=w) hρ xs _ _ _ (hρ x) hf
     refine⟨u,?_,hv⟩
     simp only[execOp,resolve,Sem.run_bind,Sem.run_pure,Result.andThen_ok,invoke,builtin,Builtin.max_,vM,hx,List.map_cons,hr]
   next _ x xs hx=>
    cases hf:xs.foldlM (fun a y=>n_ a (ajS y)) (ajS x)with
    |none=>rw[hf]at h;cases h
    |some r=>
     rw[hf]at h;cases h
     obtain⟨u,hr,hv⟩:=I5 (P:=P) (w:=w) hρ xs _ _ _ (hρ x) hf
     refine⟨u,?_,hv⟩
     simp only[execOp,resolve,Sem.run_bind,Sem.run_pure,Result.andThen_ok,invoke,builtin,Builtin.min_,vM,hx,List.map_cons,hr]
   next=>cases h
theorem eo{x:Option U}{I σ':af}{v:U}(h:x.map (fun v=>(v,I))=some (v,σ')):σ'=I∧∀R:af,x.map (fun v=>(v,R))=some (v,R):=by
 cases x with
 |none=>cases h
 |some a=>cases h;exact⟨rfl,fun R=>rfl⟩
theorem vd{ajS:Operand→U}{op:Op}(hE:EP op=false)(hN:yH op=false)(h:db P ajS op I=some (v,σ')):
 σ'=I∧(aQ op=false→∀R,db P ajS op R=some (v,R)):=by
 cases op<;>simp only[EP,yH,Bool.true_eq_false,reduceCtorEq]at hE hN<;>simp only[db]at h⊢ <;>try(cases h;done)
 case load t a=>exact⟨(eo h).1,fun hL=>by cases hL⟩
 case binOp=>exact⟨(eo h).1,fun _=>(eo h).2⟩
 case unOp=>exact⟨(eo h).1,fun _=>(eo h).2⟩
 case index=>exact⟨(eo h).1,fun _=>(eo h).2⟩
 case move=>cases h;exact⟨rfl,fun _ R=>rfl⟩
 case assign=>cases h;exact⟨rfl,fun _ R=>rfl⟩
 case pick=>split at h<;>first|(cases h;exact⟨rfl,fun _ R=>rfl⟩)|cases h
 case nilCheck=>split at h<;>first|(cases h;exact⟨rfl,fun _ R=>rfl⟩)|cases h
 case convert=>split at h<;>first|(cases h;exact⟨rfl,fun _ R=>rfl⟩)|cases h
 case fieldAddr=>split at h<;>first|(cases h;exact⟨rfl,fun _ R=>rfl⟩)|cases h
 case makeFunc fn a b=>cases fn<;>simp only at h⊢ <;>first|(cases h;exact⟨rfl,fun _ R=>rfl⟩)|cases h
 case extract=>split at h<;>first|exact⟨(eo h).1,fun _=>(eo h).2⟩|cases h
 case build=>
  split at h
  ·refine⟨?_,fun _ R=>?_⟩
   ·cases hf:iE _ _ _ with
    |none=>rw[hf]at h;cases h
    |some cs=>rw[hf]at h;cases h;rfl
   ·cases hf:iE _ _ _ with
    |none=>rw[hf]at h;cases h
    |some cs=>rw[hf]at h;cases h;rfl
  ·cases h
 case slice t x lo hi mx=>
  cases mx<;>simp only at h⊢ <;>try(cases h;done)
  split at h
  ·exact⟨(eo h).1,fun _=>(eo h).2⟩
  ·cases h
 case indexAddr t x ix=>
  (repeat' split at h)<;>first|(cases h;simp_all;done)|cases h
 case call c=>
  obtain⟨callee,args,ts⟩:=c
  cases callee<;>(try simp only at h⊢)<;>try(cases h;done)
  case builtin b=>
   split at h
   ·split at h<;>first|(cases h;exact⟨rfl,fun _ R=>rfl⟩)|cases h
   ·cases hE
   ·cases hE
   ·cases hE
   ·exact⟨(eo h).1,fun _=>(eo h).2⟩
   ·exact⟨(eo h).1,fun _=>(eo h).2⟩
   ·cases h
theorem qq{ajS:Operand→U}{op:Op}(hE:EP op=false)(hN:yH op=false)(h:db P ajS op I=some (v,σ')):σ'=I:=(vd hE hN h).1
theorem sH{ajS:Operand→U}{ρ':Operand→Value}(hρ:∀x,VR ajR (ajS x) (ρ' x)){o:Oper}(hN:yH o.op=true)(h:db P ajS o.op I=some (v,σ')):
 ∃f cs s,v=f I.n∧σ'=I.push ⟨cs,true⟩∧(∀R,db P ajS o.op R=some (f R.n,R.push ⟨cs,true⟩))∧execOp ρ' o=(do pure (.value (←s)))∧ox P ajR w s f cs:=by
 obtain⟨dst,op,type,pos,after,guard⟩:=o
 dsimp only at h hN
 cases op<;>simp only[yH,reduceCtorEq,Bool.false_eq_true]at hN<;>simp only[db]at h
 case alloc e=>
  cases hz:eJ P e with
  |none=>rw[hz]at h;cases h
  |some z=>rw[hz]at h;cases h;exact⟨_,_,_,rfl,rfl,fun R=>by simp only[db,hz,Option.map_some],rfl,yP hz⟩
 case box e x=>
  cases hc:(ajS x).cells with
  |none=>rw[hc]at h;cases h
  |some cs=>rw[hc]at h;cases h;exact⟨_,_,_,rfl,rfl,fun R=>by simp only[db,hc,Option.map_some],rfl,FN (hρ x) hc⟩
 case buildSlice t len parts=>
  split at h
  next e b z ht=>
   split at h
   next hlen=>
    cases hf:iE (fun i=>some (i*e,e)) (List.replicate len z).flatten (parts.toList.map fun(i,x)=>(i,ajS x))with
    |none=>rw[hf]at h;cases h
    |some cs=>rw[hf]at h;cases h;exact⟨_,_,_,rfl,rfl,fun R=>by simp only[db,ht,hlen,if_true,hf,Option.map_some],rfl,qw hρ ht hlen hf⟩
   next=>cases h
  next=>cases h
 case makeSlice t l c=>
  obtain⟨f,cs,h1,h2,h3,h4⟩:=DC (P:=P) (w:=w) (hρ l) (hρ c) h
  exact⟨f,cs,_,h1,h2,fun R=>by simp only[db,h3],rfl,h4⟩
theorem FA(hR:Rel ajR I w){ajS:Operand→U}{ρ':Operand→Value}(hρ:∀x,VR ajR (ajS x) (ρ' x)){o:Oper}(h:db P ajS o.op I=some (v,σ')):
 OpR P ajR I w (execOp ρ' o) v σ':=by
 cases hN:yH o.op with
 |true=>
  obtain⟨f,cs,s,rfl,rfl,_,he,ha⟩:=sH (w:=w) hρ hN h
  rw[he];exact(ha.toR hR).op
 |false=>
  cases hE:EP o.op with
  |false=>
   obtain⟨u,hr,hv⟩:=oz hR hρ hE hN h
   obtain⟨rfl⟩:=qq hE hN h
   exact⟨_,u,w,ajR,hr,.inl rfl,hv,hR,Step.refl _ _ _⟩
  |true=>
   obtain⟨dst,op,type,pos,after,guard⟩:=o
   dsimp only at h hE hN
   cases op<;>simp only[EP,Bool.false_eq_true]at hE<;>simp only[db]at h<;>try(cases h;done)
   case store t a x=>
    cases hs:kH P t (ajS a) (ajS x) I with
    |none=>rw[hs]at h;cases h
    |some r=>
     rw[hs]at h;cases h
     obtain⟨w',hr,ji,hS⟩:=A5 (P:=P) hR (hρ a) (hρ x) hs
     exact⟨.skip,undef,w',ajR,by simp only[execOp,Sem.run_bind,hr,Result.andThen_ok,Sem.run_pure],.inr ⟨rfl,rfl⟩,.undef _,ji,hS⟩
   case call c=>
    obtain⟨callee,args,ts⟩:=c
    cases callee<;>(try simp only at h)<;>try(cases h;done)
    case builtin b=>
     split at h
     next=>cases hE
     next s x t tx hx ht=>
      have e1:args= #[s,x]:=by apply Array.ext';simpa using hx
      have e2:ts= #[t,tx]:=by apply Array.ext';simpa using ht
      subst e1;subst e2
      split at h
      next he=>
       subst he
       obtain⟨u,w',μ',hr,hv,ji,hS⟩:=xh (P:=P) hR type (hρ s) (hρ x) h
       exact⟨.value u,u,w',μ',by simp[execOp,resolve,invoke,builtin,hr],.inl rfl,hv,ji,hS⟩
      next=>cases h
     next d x t tx hx ht=>
      have e1:args= #[d,x]:=by apply Array.ext';simpa using hx
      have e2:ts= #[t,tx]:=by apply Array.ext';simpa using ht
      subst e1;subst e2
      obtain⟨u,w',μ',hr,hv,ji,hS⟩:=CT (P:=P) (tx:=tx) hR type (hρ d) (hρ x) h
      exact⟨.value u,u,w',μ',by simp[execOp,resolve,invoke,builtin,hr],.inl rfl,hv,ji,hS⟩
     next x t hx ht=>
      have e1:args= #[x]:=by apply Array.ext';simpa using hx
      have e2:ts= #[t]:=by apply Array.ext';simpa using ht
      subst e1;subst e2
      obtain⟨u,w',μ',hr,hv,ji,hS⟩:=zw (P:=P) hR type (hρ x) h
      exact⟨.value u,u,w',μ',by simp[execOp,resolve,invoke,builtin,hr],.inl rfl,hv,ji,hS⟩
     next=>cases hE
     next=>cases hE
     next=>cases h
end
end AH
namespace AH
open Go
abbrev Env:=Nat→U
def Env.put(env:Env)(dst:Option Tmp)(v:U):Env:=
 match dst with
 |some d=>fun t=>if t=d then v else env t
 |none=>env
def bq(env:Env):Operand→U
 | .tmp t=>env t
 | .const v=>ofValue v
 | .global _=> .undef
 | .func f=> .fn f [] []
structure kF(ajR:Mu)(N:Nat)(env:Env)(a:Act):Prop where
 defers:a.defers=[]
 size:a.tmps.size=N
 tmps:∀t,VR ajR (env t) (a.tmps.getD t undef)
def Enters(P:Program)(f:FuncId):Prop:=∃fn,P.funcs[f]? =some fn∧(fn.name== "runtime.NumGoroutine")=false∧fn.body.isNone=false
def HW(ajR:Mu)(I:af)(w:World)(v:U)(σ':af):Ending→World→Prop:=fun e w'=>
 ∃u μ',e= .returned u∧VR μ' v u∧Rel μ' σ' w'∧Step ajR I w μ' σ' w'
def mq(P:Program)(f:FuncId)(args:List U)(I:af)(v:U)(σ':af):Prop:=
 Enters P f∧I.n≤σ'.n∧∀(ajR:Mu) (w:World) (us:Array Value),Rel ajR I w→fW ajR args us.toList→Calls P f us w (HW ajR I w v σ')
def Hm(P:Program)(ajS:Operand→U)(o:Oper)(I:af)(v:U)(σ':af):Prop:=
 match o.op with
 | .call ⟨.value f,args,_⟩=>match ajS f with
   | .fn g first cap=>mq P g (first++args.toList.map ajS++cap) I v σ'
   |_=>False
 |op=>db P ajS op I=some (v,σ')
def c_(ops:Array Oper)(env:Env)(o:Oper):Option Bool:=
 match o.guard with
 |none=>some true
 |some (j,want)=>match(ops[j]?).bind (·.dst)with
  |some d=>match env d with
   | .bool b=>some (b==want)
   | .cw []=>some false
   |_=>none
  |none=>none
theorem Ek(ajR:Mu):VR ajR (.cw []) undef:= .cw [] #[] rfl fun j a u ha _=>by simp at ha
class Kt (α:Sort _) where
 val:α
def dt(x:Option (U×af))[k:Kt (U→af→Prop)]:Prop:=
 match x with
 |some (v,I)=>k.val v I
 |none=>False
def dN(P:Program)(f:U)(args:List U)(I:af)[k:Kt (U→af→Prop)]:Prop:=
 match f with
 | .fn g first cap=>∃v σ',mq P g (first++args++cap) I v σ'∧k.val v σ'
 |_=>False
def dM(P:Program)(o:Oper)(env:Env)(I:af)(K:Env→af→Prop):Prop:=
 match o.op with
 | .call ⟨.value f,args,_⟩=> @dN P (bq env f) (args.toList.map (bq env)) I ⟨fun v σ'=>K (env.put o.dst v) σ'⟩
 |op=> @dt (db P (bq env) op I) ⟨fun v σ'=>K (env.put o.dst v) σ'⟩
def cN(g:Option Bool)[yes:Kt Prop][no:Kt Prop]:Prop:=
 match g with
 |some b=>(b=true→yes.val)∧(b=false→no.val)
 |none=>False
def dL(P:Program)(ops:Array Oper):List Oper→Env→af→(Env→af→Prop)→Prop
 |[],env,I,K=>K env I
 |o::os,env,I,K=> @cN (c_ ops env o) ⟨dM P o env I fun ce σ'=>dL P ops os ce σ' K⟩ ⟨dL P ops os (env.put o.dst (.cw [])) I K⟩
section
variable {P:Program} {ajR:Mu} {I σ':af} {w:World} {v:U} {N:Nat} {env:Env} {a:Act}
theorem kF.eval(h:kF ajR N env a)(x:Operand):VR ajR (bq env x) (a.eval x):=by
 cases x with
 |tmp t=>exact h.tmps t
 |const v=>exact B7 ajR v
 |global g=>exact .undef _
 |func f=>exact .fn f [] [] #[] #[] rfl rfl (fun j a u h _=>by simp at h) (fun j a u h _=>by simp at h)
theorem kF.mono{μ':Mu}(h:kF ajR N env a)(hm:∀i l,ajR i=some l→μ' i=some l):kF μ' N env a:=
 ⟨h.defers,h.size,fun t=>(h.tmps t).mono hm⟩
theorem kF.put(h:kF ajR N env a){dst:Option Tmp}(hd:∀d,dst=some d→d<N){u:Value}(hv:VR ajR v u):kF ajR N (env.put dst v) (a.put dst u):=by
 cases dst with
 |none=>exact h
 |some d=>
  have hdN:=hd d rfl
  refine⟨h.defers,by simp[Act.put,h.size],fun t=>?_⟩
  simp only[Env.put,Act.put]
  by_cases ht:t=d
  ·subst ht
   rw[if_pos rfl]
   have:t<a.tmps.size:=by rw[h.size];exact hdN
   have e:(a.tmps.setIfInBounds t u).getD t undef=u:=by simp[Array.getD,this]
   rw[e];exact hv
  ·rw[if_neg ht]
   have e:(a.tmps.setIfInBounds d u).getD t undef=a.tmps.getD t undef:=by
    simp only[Array.getD_eq_getD_getElem?]
    rw[Array.getElem?_setIfInBounds_ne (Ne.symm ht)]
   rw[e];exact h.tmps t
theorem lX(h:kF ajR N env a){ops:Array Oper}{o:Oper}{g:Bool}(hg:c_ ops env o=some g):Region.wanted o (yielded ops a.tmps)=g:=by
 unfold c_ at hg
 unfold Region.wanted
 split at hg
 next hgd=>rw[hgd];cases hg;rfl
 next j want hgd=>
  rw[hgd]
  split at hg
  next d hd=>
   split at hg
   next b hb=>
    cases hg
    have ht:=h.tmps d
    rw[hb]at ht
    have hy:yielded ops a.tmps j=some b:=by
     unfold yielded
     rw[hd]
     rw[Array.getD_eq_getD_getElem?]at ht
     cases hq:a.tmps[d]? with
     |none=>rw[hq]at ht;simp only[Option.getD_none,undef]at ht;cases ht
     |some x=>
      rw[hq]at ht
      simp only[Option.getD_some]at ht
      cases ht
      simp[hq]
    simp[hy]
   next hb=>
    cases hg
    have ht:=h.tmps d
    rw[hb]at ht
    have hy:yielded ops a.tmps j=none:=by
     unfold yielded
     rw[hd]
     rw[Array.getD_eq_getD_getElem?]at ht
     cases hq:a.tmps[d]? with
     |none=>simp[hq]
     |some x=>
      rw[hq]at ht
      simp only[Option.getD_some]at ht
      cases ht
      simp[hq]
    simp[hy]
   next=>cases hg
  next=>cases hg
def B5(P:Program)(N:Nat)(ajR:Mu)(I:af)(w:World)(K:Env→af→Prop)(a':Act)(w':World):Prop:=
 ∃ce σ' μ',K ce σ'∧kF μ' N ce a'∧Rel μ' σ' w'∧Step ajR I w μ' σ' w'
theorem Step.EV{μ':Mu}{w':World}(hR:Rel ajR I w)(h:Step ajR I w μ' σ' w'):∀i l,ajR i=some l→μ' i=some l:=by
 intro i l hl
 rw[h.ext i (hR.pe i l hl)];exact hl
theorem Cz{ajS:Operand→U}{ρ':Operand→Value}(hρ:∀x,VR ajR (ajS x) (ρ' x))(xs:List Operand):fW ajR (xs.map ajS) (xs.map ρ'):=fW.map xs ajS ρ' fun x _=>hρ x
theorem vb(hR:Rel ajR I w)(hE:kF ajR N env a){o:Oper}(hd:∀d,o.dst=some d→d<N)(h:Hm P (bq env) o I v σ')
 {K:Act→World→Prop} {Q:Exit→Act→World→Prop}
 (hK:∀(u:Value) w' μ',VR μ' v u→Rel μ' σ' w'→Step ajR I w μ' σ' w'→K (a.put o.dst u) w'):o.wp P a w K Q:=by
 unfold Hm at h
 split at h
 next f args ts ho=>
  split at h
  next g first cap hf=>
   have hv:=hE.eval f
   rw[hf]at hv
   generalize hq:a.eval f=q at hv
   cases hv
   rename_i us vs hx h1 hy h2
   obtain⟨⟨fn,hfn,hn,hb⟩,_,hc⟩:=h
   unfold Oper.wp
   have vM:fW ajR (first++args.toList.map (bq env)++cap) (us++args.map a.eval++vs).toList:=by
    simp only[Array.toList_append,Array.toList_map]
    exact((fW.DE hx h1).append (Cz (fun x=>hE.eval x) _)).append (fW.DE hy h2)
   have oL:(execOp a.eval o).run P w= .ok (.enter g (us++args.map a.eval++vs)) w:=by
    simp only[execOp,ho,resolve,hq,Deferred.ofValue,Sem.run_bind,Sem.run_pure,Result.andThen_ok,invoke,callFunc,run_program,hfn,hn,hb,Bool.false_eq_true,if_false]
   rw[oL,Oper.upon_enter]
   refine(hc ajR w _ hR vM).mono ?_
   rintro e w' ⟨u,μ',rfl,O_,ji,hS⟩
   exact hK u w' μ' O_ ji hS
  next=>exact h.elim
 next=>
  obtain⟨r,u,w',μ',hr,hru,O_,ji,hS⟩:=FA (P:=P) hR (fun x=>hE.eval x) h
  unfold Oper.wp
  rw[hr]
  rcases hru with rfl|⟨rfl,rfl⟩
  ·exact hK u w' μ' O_ ji hS
  ·exact hK undef w' μ' O_ ji hS
theorem vh{o:Oper}{K:Env→af→Prop}(h:dM P o env I K):∃v σ',Hm P (bq env) o I v σ'∧K (env.put o.dst v) σ':=by
 unfold dM at h
 unfold Hm
 split at h
 next f args ts ho=>
  unfold dN at h
  split at h
  next g first cap hf=>
   obtain⟨v,σ',hc,hK⟩:=h
   refine⟨v,σ',?_,hK⟩
   first
    |exact hc
    |(rw[hf];exact hc)
  next=>exact h.elim
 next op nc=>
  unfold dt at h
  split at h
  next v σ' he=>exact⟨v,σ',he,h⟩
  next=>exact h.elim
theorem B5.trans{μ':Mu}{w':World}{K:Env→af→Prop}{a':Act}{Pn:World}(hS:Step ajR I w μ' σ' w')(h:B5 P N μ' σ' w' K a' Pn):B5 P N ajR I w K a' Pn:=by
 obtain⟨e,s,m,hK,hE,hR,BL⟩:=h
 exact⟨e,s,m,hK,hE,hR,hS.trans BL⟩
def vG(N:Nat)(o:Oper):Bool:=
 match o.dst with
 |some d=>decide (d<N)
 |none=>true
theorem zF{o:Oper}(h:vG N o=true):∀d,o.dst=some d→d<N:=by
 intro d hd
 unfold vG at h
 rw[hd]at h
 simpa using h
theorem Cu(ops:Array Oper)(hd:ops.toList.all (vG N)=true){K:Env→af→Prop}{Q:Exit→Act→World→Prop}{μ₀:Mu}{σ₀:af}{w₀:World}
 (hQ:∀a w,B5 P N μ₀ σ₀ w₀ K a w→Q .normal a w):
 ∀(n k:Nat),k+n=ops.size→∀(env:Env) (I:af) (ajR:Mu) (a:Act) (w:World),dL P ops (ops.toList.drop k) env I K→kF ajR N env a→Rel ajR I w→Step μ₀ σ₀ w₀ ajR I w→
  wpOps P ops Q (List.range' k n) a w:=by
 intro n
 induction n with
 |zero=>
  intro k hk env I ajR a w h hE hR hS
  have:ops.toList.drop k=[]:=by rw[List.drop_eq_nil_iff];simp;omega
  rw[this]at h
  exact hQ a w ⟨env,I,ajR,h,hE,hR,hS⟩
 |succ n ih=>
  intro k hk env I ajR a w h hE hR hS
  have dG:k<ops.size:=J
  have Jq:ops.toList.drop k=ops[k]::ops.toList.drop (k+1):=by
   rw[List.drop_eq_getElem_cons (by simpa using dG)];simp
  rw[Jq]at h
  simp only[dL]at h
  have L9:∀d,ops[k].dst=some d→d<N:=zF (by rw[List.all_eq_true]at hd;exact hd _ aV)
  simp only[List.range'_succ,wpOps,Array.getElem?_eq_getElem dG]
  unfold cN at h
  cases X1:c_ ops env ops[k]with
  |none=>rw[X1]at h;exact h.elim
  |some g=>
  rw[X1]at h
  cases g with
  |true=>
   rw[lX hE X1,if_pos rfl]
   left
   obtain⟨v,σ',nc,hK⟩:=vh (h.1 rfl)
   refine vb hR hE L9 nc ?_
   intro u w' μ' hv ji BL
   exact ih (k+1) J _ _ _ _ _ hK ((hE.mono (BL.EV hR)).put L9 hv) ji (hS.trans BL)
  |false=>
   rw[lX hE X1]
   exact ih (k+1) J _ _ _ _ _ (h.2 rfl) (hE.put L9 (Ek _)) hR hS
theorem yo{id:Nat}{ops:Array Oper}(hd:ops.toList.all (vG N)=true){K:Env→af→Prop}{Q:Exit→Act→World→Prop}
 (hQ:∀a w',B5 P N ajR I w K a w'→Q .normal a w') (h:dL P ops ops.toList env I K) (hE:kF ajR N env a) (hR:Rel ajR I w):(Code.region id ops false).wp P Q a w:=by
 refine wp_region ?_
 rw[List.range_eq_range']
 exact Cu ops hd hQ ops.size 0 J env I ajR a w FU hE hR (Step.refl _ _ _)
end
end AH
namespace AH
open Go
structure bD where
 BI:List Nat
 HO:List (Nat×Nat)
 res:List Nat
structure dx where
 at_:Option Nat
 pre:af
 post:af
def af.iy(I:af)(c:Nat):af:=⟨I.n+c,fun x=>if I.n≤x∧x<I.n+c then none else I.get x⟩
def mO(P:Program)(ajS:Operand→U)(op:Op)(i:Nat)(I:af):Option (U×af):=
 match db P ajS op ⟨i,fun _=>none⟩with
 |some (v,R)=>match R.get i with
  |some B=>some (v,I.set i B)
  |none=>none
 |none=>none
def de(env:Env)(o:Oper):Option Nat:=
 match o.op with
 | .load _ a=>match bq env a with
   | .ptr i _=>some i
   |_=>none
 |_=>none
def cg(base:Nat)(res:List Nat)(k:Nat):Option Nat:=(res.findIdx? (·==k)).map (base+ ·)
def jo(P:Program)(o:Oper)(kept:Option Nat)(env:Env)(I:af)(K:Env→af→Prop):Prop:=
 match kept with
 |none=>dM P o env I K
 |some i=> @dt (mO P (bq env) o.op i I) ⟨fun v σ'=>K (env.put o.dst v) σ'⟩
def xm:Option Nat→Option Nat→Option Nat
 |none,t=>t
 |some i,_=>some i
def cj(P:Program)(ops:Array Oper)(base:Nat)(res:List Nat):Nat→List Oper→Env→af→List dx→(Env→af→List dx→Prop)→Prop
 |_,[],env,I,tr,K=>K env I tr
 |k,o::os,env,I,tr,K=> @cN (c_ ops env o)
   ⟨jo P o (cg base res k) env I fun ce σ'=>cj P ops base res (k+1) os ce σ' (⟨xm (cg base res k) (de env o),I,σ'⟩::tr) K⟩
   ⟨cj P ops base res (k+1) os (env.put o.dst (.cw [])) I (⟨cg base res k,I,I⟩::tr) K⟩
def nF(n:Nat)(tr:List dx)(p:Nat×Nat):Prop:=
 match tr[n-1-p.1]?,tr[n-1-p.2]? with
 |some x,some y=>match x.at_ with
  |some b=>y.pre.get b=y.post.get b
  |none=>True
 |_,_=>False
def lS(n:Nat)(tr:List dx):List (Nat×Nat)→Prop
 |[]=>True
 |p::ps=>nF n tr p∧lS n tr ps
def k_(P:Program)(ops:Array Oper)(d:bD)(env:Env)(I:af)[K:Kt (Env→af→Prop)]:Prop:=
 cj P ops I.n d.res 0 ops.toList env (if d.res=[]then I else I.iy d.res.length) [] fun ce σ' tr=>lS ops.size tr d.HO∧K.val ce σ'
def OG(ops:Array Oper)(B:List Nat):Bool:=
 (List.range ops.size).all fun j=>(List.range ops.size).all fun i=>
   !(B.getD j 0).testBit i||match ops[j]? with
     |some o=>o.after.any fun e=>Region.binds .any e&&decide (e.on<j)&&(e.on==i||(B.getD e.on 0).testBit i)
     |none=>false
def ordered(B:List Nat)(i j:Nat):Bool:=if i<j then(B.getD j 0).testBit i else(B.getD i 0).testBit j
def qh(res:List Nat)(k:Nat)(op:Op):Bool:= !res.contains k&&(EP op||yH op)
def xu(N:Nat)(ops:Array Oper)(d:bD):Bool:=
 OG ops d.BI&&ops.toList.all (vG N)&&(decide d.res.Nodup&&d.res.all (fun k=>decide (k<ops.size)))&&
 ((List.range ops.size).all fun j=>match ops[j]? with
   |some x=>(!d.res.contains j||yH x.op)&&x.after.all fun e=> !Region.binds .any e||decide (e.on<j)
   |none=>true)&&
 (List.range ops.size).all fun j=>(List.range ops.size).all fun i=>
   match ops[j]?,ops[i]? with
   |some x,some y=>
    i==j||
    ((match y.dst with
      |some t=>x.dst != some t&&(!(x.looksAt ops).contains t||ordered d.BI i j)
      |none=>true)&&
     (!(qh d.res j x.op&&qh d.res i y.op)||ordered d.BI i j)&&
     (!(aQ x.op&&qh d.res i y.op)||ordered d.BI i j||d.HO.contains (j,i))&&
     (!(d.res.contains j&&qh d.res i y.op)||(decide (j<i)&&ordered d.BI i j)||d.HO.contains (j,i)))
   |_,_=>true
end AH
namespace AH
open Go
theorem vf{P:Program}{ajS ρ':Operand→U}(op:Op)(I:af)(h:∀x∈op.operands,ajS x=ρ' x):db P ajS op I=db P ρ' op I:=by
 have Pj:∀ps:Array (Nat×Operand),(∀x∈(ps.toList.map (·.2)).toArray,ajS x=ρ' x)→(ps.toList.map fun(i,x)=>(i,ajS x))=(ps.toList.map fun(i,x)=>(i,ρ' x)):=by
  intro ps hp
  refine List.map_congr_left ?_
  rintro⟨i,x⟩ hm
  show(i,ajS x)=(i,ρ' x)
  rw[hp x (by simp;exact⟨i,by simpa using hm⟩)]
 have lst:∀xs:Array Operand,(∀x∈xs,ajS x=ρ' x)→xs.toList.map ajS=xs.toList.map ρ':=fun xs hx=>List.map_congr_left fun x hm=>hx x (by simpa using hm)
 have opt:∀x:Option Operand,(∀y∈x.toArray,ajS y=ρ' y)→x.map ajS=x.map ρ':=by
  intro x hx
  cases x with
  |none=>rfl
  |some y=>simp[hx y aV]
 cases op<;>simp only[Op.operands]at h<;>simp only[db]
 case move x=>rw[h x aV]
 case assign x=>rw[h x aV]
 case pick a b c=>rw[h a aV,h b aV,h c aV]
 case box e x=>rw[h x aV]
 case build t ps=>rw[Pj ps h]
 case buildSlice t n ps=>rw[Pj ps h]
 case load t x=>rw[h x aV]
 case store t x y=>rw[h x aV,h y aV]
 case nilCheck x=>rw[h x aV]
 case binOp op t x y u=>rw[h x aV,h y aV]
 case unOp op t x=>rw[h x aV]
 case convert s d x=>rw[h x aV]
 case makeFunc f a b=>
  cases f<;>simp only
  rw[lst a fun x hx=>h x (by simp[hx]),lst b fun x hx=>h x (by simp[hx])]
 case makeSlice t x y=>rw[h x aV,h y aV]
 case slice t x a b c=>
  cases c<;>simp only
  rw[h x aV,opt a fun y hy=>h y (by simp at hy⊢;simp[hy]),opt b fun y hy=>h y (by simp at hy⊢;simp[hy])]
 case fieldAddr t x f=>rw[h x aV]
 case indexAddr t x y=>rw[h x aV,h y aV]
 case index t x y=>rw[h x aV,h y aV]
 case extract x i=>rw[h x aV]
 case call c=>
  obtain⟨callee,args,ts⟩:=c
  cases callee<;>simp only
  case builtin b=>
   have ha:∀x∈args.toList,ajS x=ρ' x:=fun x hx=>h x (by simp[Call.operands];simpa using hx)
   generalize args.toList=as at ha
   split
   ·rename_i x t _;rw[ha x aV]
   ·rename_i s x t tx _;rw[ha s aV,ha x aV]
   ·rename_i s x t tx _;rw[ha s aV,ha x aV]
   ·rename_i x t _;rw[ha x aV]
   ·rename_i x xs
    have hx:=ha x aV
    have Sx:∀y∈xs,ajS y=ρ' y:=fun y hy=>ha y (by simp[hy])
    have key:∀(xs:List Operand) (a:U),(∀y∈xs,ajS y=ρ' y)→xs.foldlM (fun a y=>n9 a (ajS y)) a=xs.foldlM (fun a y=>n9 a (ρ' y)) a:=by
     intro xs
     induction xs with
     |nil=>intros;rfl
     |cons y ys ih=>
      intro a hy
      simp only[List.foldlM_cons,hy y aV]
      congr 1
      funext b
      exact ih b fun z hz=>hy z (by simp[hz])
    rw[hx,key xs _ Sx]
   ·rename_i x xs
    have hx:=ha x aV
    have Sx:∀y∈xs,ajS y=ρ' y:=fun y hy=>ha y (by simp[hy])
    have key:∀(xs:List Operand) (a:U),(∀y∈xs,ajS y=ρ' y)→xs.foldlM (fun a y=>n_ a (ajS y)) a=xs.foldlM (fun a y=>n_ a (ρ' y)) a:=by
     intro xs
     induction xs with
     |nil=>intros;rfl
     |cons y ys ih=>
      intro a hy
      simp only[List.foldlM_cons,hy y aV]
      congr 1
      funext b
      exact ih b fun z hz=>hy z (by simp[hz])
    rw[hx,key xs _ Sx]
   ·rfl
theorem OE{P:Program}{ajS:Operand→U}{op:Op}{I σ':af}{v:U}(h:db P ajS op I=some (v,σ')):I.n≤σ'.n:=by
 cases hN:yH op with
 |true=>
  cases op<;>simp only[yH,reduceCtorEq,Bool.false_eq_true]at hN<;>simp only[db]at h
  case alloc e=>cases hz:eJ P e with
   |none=>rw[hz]at h;cases h
   |some z=>rw[hz]at h;cases h;simp
  case box e x=>cases hc:(ajS x).cells with
   |none=>rw[hc]at h;cases h
   |some z=>rw[hc]at h;cases h;simp
  case buildSlice t len parts=>
   split at h
   ·split at h
    ·cases hf:iE _ _ _ with
     |none=>rw[hf]at h;cases h
     |some cs=>rw[hf]at h;cases h;simp
    ·cases h
   ·cases h
  case makeSlice t l c=>
   unfold kw at h
   split at h
   ·split at h
    ·cases h;simp
    ·cases h
   ·cases h
 |false=>
  cases hE:EP op with
  |false=>rw[qq hE hN h];exact Nat.le_refl _
  |true=>
   cases op<;>simp only[EP,Bool.false_eq_true]at hE<;>simp only[db]at h<;>try(cases h;done)
   case store t a x=>
    cases hs:kH P t (ajS a) (ajS x) I with
    |none=>rw[hs]at h;cases h
    |some r=>
     rw[hs]at h;cases h
     unfold kH at hs
     split at hs
     ·split at hs
      ·split at hs
       ·cases hs;simp
       ·cases hs
      ·cases hs
     ·cases hs
   case call c=>
    obtain⟨callee,args,ts⟩:=c
    cases callee<;>(try simp only at h)<;>try(cases h;done)
    case builtin b=>
     split at h
     ·cases hE
     ·split at h
      ·unfold cJ at h
       split at h
       ·cases h
       ·split at h
        ·split at h
         ·split at h
          ·cases h;exact Nat.le_refl _
          ·split at h
           ·cases h;simp
           ·cases h
         ·split at h
          ·split at h
           ·cases h;simp
           ·split at h
            ·cases h;exact Nat.le_refl _
            ·cases h
          ·split at h
           ·cases h;exact Nat.le_refl _
           ·cases h
         ·cases h
        ·cases h
      ·cases h
     ·unfold qU at h
      split at h
      ·split at h
       ·cases h;exact Nat.le_refl _
       ·split at h
        ·split at h
         ·split at h
          ·cases h;simp
          ·cases h
         ·cases h
        ·cases h
      ·cases h;exact Nat.le_refl _
      ·cases h
     ·unfold qm at h
      (repeat' split at h)<;>first|(cases h;first|exact Nat.le_refl _|simp)|cases h
     ·cases hE
     ·cases hE
     ·cases h
theorem Tg{P:Program}{ajS:Operand→U}{o:Oper}{I σ':af}{v:U}(h:Hm P ajS o I v σ'):I.n≤σ'.n:=by
 unfold Hm at h
 split at h
 ·split at h
  ·exact h.2.1
  ·exact h.elim
 ·exact OE h
def ZC(P:Program)(kept:Option Nat)(ajS:Operand→U)(o:Oper)(I:af)(v:U)(σ':af):Prop:=
 match kept with
 |none=>Hm P ajS o I v σ'
 |some x=>mO P ajS o.op x I=some (v,σ')
def sE(P:Program)(ops:Array Oper)(base:Nat)(res:List Nat)(E:Nat→Env)(S:Nat→af)(i:Nat)(o:Oper):Prop:=
 (c_ ops (E i) o=some true∧∃v,ZC P (cg base res i) (bq (E i)) o (S i) v (S (i+1))∧E (i+1)=(E i).put o.dst v)∨
 (c_ ops (E i) o=some false∧E (i+1)=(E i).put o.dst (.cw [])∧S (i+1)=S i)
def jt(ops:Array Oper)(base:Nat)(res:List Nat)(E:Nat→Env)(i:Nat)(o:Oper):Option Nat:=
 if c_ ops (E i) o=some true then xm (cg base res i) (de (E i) o)else cg base res i
theorem IA{P:Program}{ops:Array Oper}{base:Nat}{res:List Nat}{K:Env→af→List dx→Prop}:∀(m k:Nat) (env:Env) (I:af) (tr:List dx),k+m=ops.size→tr.length=k→
 cj P ops base res k (ops.toList.drop k) env I tr K→
 ∃(E:Nat→Env) (S:Nat→af) (Me:List dx),E k=env∧S k=I∧(∀i o,k≤i→ops[i]? =some o→sE P ops base res E S i o)∧
  (∀i,i<k→Me[ops.size-1-i]? =tr[k-1-i]?)∧(∀i o,k≤i→ops[i]? =some o→Me[ops.size-1-i]? =some ⟨jt ops base res E i o,S i,S (i+1)⟩)∧
  K (E ops.size) (S ops.size) Me:=by
 intro m
 induction m with
 |zero=>
  intro k env I tr hk UM h
  have Dg:k=ops.size:=J
  have:ops.toList.drop k=[]:=by rw[List.drop_eq_nil_iff];simp;omega
  rw[this]at h
  refine⟨fun _=>env,fun _=>I,tr,rfl,rfl,?_,?_,?_,h⟩
  ·intro i o hi ho
   have:=(Array.getElem?_eq_some_iff.1 ho).1
   omega
  ·intro i hi;rw[Dg]
  ·intro i o hi ho
   have:=(Array.getElem?_eq_some_iff.1 ho).1
   omega
 |succ m ih=>
  intro k env I tr hk UM h
  have dG:k<ops.size:=J
  have cq:ops[k]? =some ops[k]:=Array.getElem?_eq_getElem dG
  have Jq:ops.toList.drop k=ops[k]::ops.toList.drop (k+1):=by
   rw[List.drop_eq_getElem_cons (by simpa using dG)];simp
  rw[Jq]at h
  simp only[cj]at h
  have fin:∀(ce:Env) (σ':af) (at_:Option Nat),cj P ops base res (k+1) (ops.toList.drop (k+1)) ce σ' (⟨at_,I,σ'⟩::tr) K→
   (∀(E:Nat→Env) (S:Nat→af),E k=env→E (k+1)=ce→S k=I→S (k+1)=σ'→sE P ops base res E S k ops[k]∧jt ops base res E k ops[k]=at_)→
   ∃(E:Nat→Env) (S:Nat→af) (Me:List dx),E k=env∧S k=I∧(∀i o,k≤i→ops[i]? =some o→sE P ops base res E S i o)∧
    (∀i,i<k→Me[ops.size-1-i]? =tr[k-1-i]?)∧(∀i o,k≤i→ops[i]? =some o→Me[ops.size-1-i]? =some ⟨jt ops base res E i o,S i,S (i+1)⟩)∧
    K (E ops.size) (S ops.size) Me:=by
   intro ce σ' at_ oL JK
   obtain⟨E,S,Me,hE,hS,h1,h2,h3,h4⟩:=ih (k+1) ce σ' (⟨at_,I,σ'⟩::tr) J (by simp[UM]) oL
   let E':Nat→Env:=fun i=>if i=k then env else E i
   let S':Nat→af:=fun i=>if i=k then I else S i
   have eE:∀i,k+1≤i→E' i=E i:=fun i hi=>if_neg J
   have eS:∀i,k+1≤i→S' i=S i:=fun i hi=>if_neg J
   have gY:=JK E' S' (if_pos rfl) ((eE _ (Nat.le_refl _)).trans hE) (if_pos rfl) ((eS _ (Nat.le_refl _)).trans hS)
   refine⟨E',S',Me,if_pos rfl,if_pos rfl,?_,?_,?_,?_⟩
   ·intro i o hi ho
    by_cases hik:i=k
    ·subst hik;rw[cq]at ho;cases ho;exact gY.1
    ·have:=h1 i o J ho
     unfold sE at this⊢
     rw[eE i J,eE (i+1) J,eS i J,eS (i+1) J]
     exact this
   ·intro i hi
    rw[h2 i J,show k+1-1-i=(k-1-i)+1 by omega,List.getElem?_cons_succ]
   ·intro i o hi ho
    by_cases hik:i=k
    ·subst hik;rw[cq]at ho;cases ho
     rw[h2 i J,show i+1-1-i=0 by omega,List.getElem?_cons_zero,gY.2,eS (i+1) J,hS]
     simp[S']
    ·rw[h3 i o J ho]
     unfold jt
     rw[eE i J,eS i J,eS (i+1) J]
   ·rw[eE _ J,eS _ J];exact h4
  unfold cN at h
  cases hg:c_ ops env ops[k]with
  |none=>rw[hg]at h;exact h.elim
  |some g=>
   rw[hg]at h
   cases g with
   |true=>
    have h:=h.1 rfl
    have nc:∃v σ',ZC P (cg base res k) (bq env) ops[k] I v σ'∧cj P ops base res (k+1) (ops.toList.drop (k+1)) (env.put ops[k].dst v) σ' (⟨xm (cg base res k) (de env ops[k]),I,σ'⟩::tr) K:=by
     unfold jo at h
     cases hkp:cg base res k with
     |none=>
      rw[hkp]at h
      obtain⟨v,σ',h1,h2⟩:=vh h
      exact⟨v,σ',h1,h2⟩
     |some x=>
      rw[hkp]at h
      simp only[dt]at h
      split at h
      ·rename_i v σ' he;exact⟨v,σ',he,h⟩
      ·exact h.elim
    obtain⟨v,σ',h1,h2⟩:=nc
    refine fin _ _ _ h2 ?_
    intro E S e1 e2 e3 e4
    refine⟨.inl ⟨by rw[e1];exact hg,v,by rw[e1,e3,e4];exact h1,by rw[e1,e2]⟩,?_⟩
    unfold jt
    rw[e1,if_pos hg]
   |false=>
    have h:=h.2 rfl
    refine fin _ _ _ h ?_
    intro E S e1 e2 e3 e4
    refine⟨.inr ⟨by rw[e1];exact hg,by rw[e1,e2],by rw[e3,e4]⟩,?_⟩
    unfold jt
    rw[e1,hg,if_neg aV]
end AH
namespace AH
open Go
structure sB(N:Nat)(ops:Array Oper)(d:bD):Prop where
 BI:∀(j i:Nat),j<ops.size→i<ops.size→(d.BI.getD j 0).testBit i=true→
  ∃(o:Oper) (e:Edge),ops[j]? =some o∧e∈o.after∧Region.binds .any e=true∧e.on<j∧(e.on=i∨(d.BI.getD e.on 0).testBit i=true)
 dst:∀(i:Nat) (o:Oper),ops[i]? =some o→∀t,o.dst=some t→t<N
 nodup:d.res.Nodup
 Vw:∀k,k∈d.res→k<ops.size
 res:∀(j:Nat) (o:Oper),ops[j]? =some o→j∈d.res→yH o.op=true
 ZU:∀(j:Nat) (o:Oper) (e:Edge),ops[j]? =some o→e∈o.after→Region.binds .any e=true→e.on<j
 PQ:∀(j i:Nat) (x y:Oper) (t:Tmp),i≠j→ops[j]? =some x→ops[i]? =some y→y.dst=some t→x.dst≠some t
 names:∀(j i:Nat) (x y:Oper) (t:Tmp),i≠j→ops[j]? =some x→ops[i]? =some y→y.dst=some t→t∈x.looksAt ops→ordered d.BI i j=true
 mm:∀(j i:Nat) (x y:Oper),i≠j→ops[j]? =some x→ops[i]? =some y→qh d.res j x.op=true→qh d.res i y.op=true→ordered d.BI i j=true
 lm:∀(j i:Nat) (x y:Oper),i≠j→ops[j]? =some x→ops[i]? =some y→aQ x.op=true→qh d.res i y.op=true→ordered d.BI i j=true∨(j,i)∈d.HO
 rm:∀(j i:Nat) (x y:Oper),i≠j→ops[j]? =some x→ops[i]? =some y→j∈d.res→qh d.res i y.op=true→(j<i∧ordered d.BI i j=true)∨(j,i)∈d.HO
theorem PM{N:Nat}{ops:Array Oper}{d:bD}(h:xu N ops d=true):sB N ops d:=by
 unfold xu at h
 simp only[Bool.and_eq_true,List.all_eq_true,List.mem_range,decide_eq_true_eq]at h
 obtain⟨⟨⟨⟨h1,h2⟩,h3,Ez⟩,h4⟩,h5⟩:=h
 have pair:∀j i x y,i≠j→ops[j]? =some x→ops[i]? =some y→_:=fun j i x y gW hx hy=>by
  have:=h5 j (Array.getElem?_eq_some_iff.1 hx).1 i (Array.getElem?_eq_some_iff.1 hy).1
  rw[hx,hy]at this
  simp only[Bool.or_eq_true,beq_iff_eq,Bool.and_eq_true]at this
  exact this.resolve_left gW
 refine⟨?_,?_,h3,Ez,?_,?_,?_,?_,?_,?_,?_⟩
 ·intro j i hj hi hb
  unfold OG at h1
  simp only[List.all_eq_true,List.mem_range]at h1
  have:=h1 j hj i hi
  rw[hb,Array.getElem?_eq_getElem hj]at this
  simp only[Bool.not_true,Bool.false_or,Array.any_eq_true',Bool.and_eq_true,decide_eq_true_eq,Bool.or_eq_true,beq_iff_eq]at this
  obtain⟨e,he,⟨eR,dG⟩,tv⟩:=this
  exact⟨_,e,Array.getElem?_eq_getElem hj,he,eR,dG,tv⟩
 ·intro i o ho
  refine zF (h2 o ?_)
  rw[Array.mem_toList_iff]
  exact Array.mem_of_getElem? ho
 ·intro j o ho hj
  have:=h4 j (Array.getElem?_eq_some_iff.1 ho).1
  rw[ho]at this
  simp only[Bool.and_eq_true,Bool.or_eq_true,Bool.not_eq_true',List.contains_eq_mem,decide_eq_false_iff_not]at this
  exact this.1.resolve_left fun hn=>hn hj
 ·intro j o e ho he hb
  have:=h4 j (Array.getElem?_eq_some_iff.1 ho).1
  rw[ho]at this
  simp only[Bool.and_eq_true,Array.all_eq_true',Bool.or_eq_true,Bool.not_eq_true',decide_eq_true_eq]at this
  rcases this.2 e he with hf|dG
  ·rw[hb]at hf;cases hf
  ·exact dG
 ·intro j i x y t gW hx hy ht
  have:=(pair j i x y gW hx hy).1.1.1
  rw[ht]at this
  simp only[Bool.and_eq_true,bne_iff_ne,ne_eq]at this
  exact this.1
 ·intro j i x y t gW hx hy ht hm
  have:=(pair j i x y gW hx hy).1.1.1
  rw[ht]at this
  simp only[Bool.and_eq_true,Bool.or_eq_true,Bool.not_eq_true',List.contains_eq_mem,decide_eq_false_iff_not]at this
  exact this.2.resolve_left fun hn=>hn hm
 ·intro j i x y gW hx hy Uw Ux
  have:=(pair j i x y gW hx hy).1.1.2
  rw[Uw,Ux]at this
  simpa using this
 ·intro j i x y gW hx hy Uw Ux
  have:=(pair j i x y gW hx hy).1.2
  rw[Uw,Ux]at this
  simpa[or_assoc]using this
 ·intro j i x y gW hx hy Uw Ux
  have:=(pair j i x y gW hx hy).2
  rw[Ux,show d.res.contains j=true by simpa using Uw]at this
  simpa using this
theorem dV{base:Nat}{res:List Nat}{k x:Nat}(h:cg base res k=some x):k∈res∧base≤x∧x<base+res.length∧res[x-base]? =some k:=by
 unfold cg at h
 cases hf:res.findIdx? (·==k)with
 |none=>rw[hf]at h;cases h
 |some i=>
  rw[hf]at h
  obtain rfl:base+i=x:=by simpa using h
  obtain⟨hi,hk,_⟩:=List.findIdx?_eq_some_iff_getElem.1 hf
  have rh:res[i]=k:=by simpa using hk
  refine⟨by rw[←rh];exact List.getElem_mem hi,J,J,?_⟩
  rw[show base+i-base=i by omega,List.getElem?_eq_getElem hi,rh]
theorem gZ{base:Nat}{res:List Nat}{k k' x:Nat}(h:cg base res k=some x)(h':cg base res k'=some x):k=k':=by
 have h1:=(dV h).2.2.2
 have h2:=(dV h').2.2.2
 rw[h1]at h2;cases h2;rfl
theorem ni{base:Nat}{res:List Nat}{k:Nat}(h:k ∉ res):cg base res k=none:=by
 cases hk:cg base res k with
 |none=>rfl
 |some x=>exact absurd (dV hk).1 h
theorem nj{base:Nat}{res:List Nat}{k:Nat}(h:k∈res):∃x,cg base res k=some x:=by
 unfold cg
 cases hf:res.findIdx? (·==k)with
 |none=>
  rw[List.findIdx?_eq_none_iff]at hf
  have:=hf k h
  simp at this
 |some i=>exact⟨_,rfl⟩
structure Ctx(P:Program)(N:Nat)(ops:Array Oper)(d:bD)(base:Nat)(E:Nat→Env)(S:Nat→af):Prop where
 F:sB N ops d
 step:∀(i:Nat) (o:Oper),ops[i]? =some o→sE P ops base d.res E S i o
 PC:∀(j i:Nat) (oj oi:Oper),(j,i)∈d.HO→ops[j]? =some oj→ops[i]? =some oi→∀x,jt ops base d.res E j oj=some x→(S i).get x=(S (i+1)).get x
 Vn:∀k x,cg base d.res k=some x→(S 0).get x=none
 SN:∀k x,cg base d.res k=some x→x<(S 0).n
section
variable {P:Program} {N:Nat} {ops:Array Oper} {d:bD} {base:Nat} {E:Nat→Env} {S:Nat→af}
theorem Eh{ajS:Operand→U}{o:Oper}{I σ':af}{v:U}(hE:EP o.op=false)(h:Hm P ajS o I v σ'):db P ajS o.op I=some (v,σ'):=by
 unfold Hm at h
 split at h
 next ho=>rw[ho]at hE;cases hE
 next=>exact h
theorem v_{res:List Nat}{i:Nat}{op:Op}(hM:qh res i op=false)(hr:i ∉ res):EP op=false∧yH op=false:=by
 unfold qh at hM
 simpa[hr]using hM
theorem Ctx.same(C:Ctx P N ops d base E S){i:Nat}{o:Oper}(ho:ops[i]? =some o)(hM:qh d.res i o.op=false)(hr:i ∉ d.res):S (i+1)=S i:=by
 obtain⟨hE,hN⟩:=v_ hM hr
 rcases C.step i o ho with⟨_,v,nc,_⟩|⟨_,_,hs⟩
 ·rw[ni hr]at nc
  exact qq hE hN (Eh hE nc)
 ·exact hs
theorem Ctx.kept(C:Ctx P N ops d base E S){k x:Nat}{o:Oper}(ho:ops[k]? =some o)(hk:cg base d.res k=some x):
 (c_ ops (E k) o=some true∧∃v B R,db P (bq (E k)) o.op ⟨x,fun _=>none⟩=some (v,R)∧R.get x=some B∧S (k+1)=(S k).set x B∧E (k+1)=(E k).put o.dst v)∨
 (c_ ops (E k) o=some false∧E (k+1)=(E k).put o.dst (.cw [])∧S (k+1)=S k):=by
 rcases C.step k o ho with⟨hg,v,nc,he⟩|h
 ·left
  rw[hk]at nc
  simp only[ZC,mO]at nc
  split at nc
  ·rename_i v' R hv
   split at nc
   ·rename_i B hB
    simp only[Option.some.injEq,Prod.mk.injEq]at nc
    obtain⟨rfl,hs⟩:=nc
    exact⟨hg,v',B,R,hv,hB,hs.symm,he⟩
   ·cases nc
  ·cases nc
 ·exact .inr h
theorem Ctx.Q9(C:Ctx P N ops d base E S){i:Nat}(hi:i<ops.size):(S i).n≤(S (i+1)).n:=by
 have ho:ops[i]? =some ops[i]:=Array.getElem?_eq_getElem hi
 cases hk:cg base d.res i with
 |some x=>
  rcases C.kept ho hk with⟨_,v,B,R,_,_,hs,_⟩|⟨_,_,hs⟩
  ·rw[hs];exact Nat.le_refl _
  ·rw[hs];exact Nat.le_refl _
 |none=>
  rcases C.step i _ ho with⟨_,v,nc,_⟩|⟨_,_,hs⟩
  ·rw[hk]at nc
   exact Tg nc
  ·rw[hs];exact Nat.le_refl _
theorem Ctx.Kf(C:Ctx P N ops d base E S){i j:Nat}(gW:i≤j)(hj:j≤ops.size):(S i).n≤(S j).n:=by
 induction j with
 |zero=>rw[show i=0 by omega];exact Nat.le_refl _
 |succ j ih=>
  by_cases h:i=j+1
  ·rw[h];exact Nat.le_refl _
  ·exact Nat.le_trans (ih J J) (C.Q9 J)
theorem Ctx.lf(C:Ctx P N ops d base E S)(x:Nat){i j:Nat}(gW:i≤j)(hj:j≤ops.size)
 (hM:∀(q:Nat) (o:Oper),i≤q→q<j→ops[q]? =some o→qh d.res q o.op=true→(S q).get x=(S (q+1)).get x)
 (hK:∀q,i≤q→q<j→cg base d.res q≠some x):(S i).get x=(S j).get x:=by
 induction j with
 |zero=>rw[show i=0 by omega]
 |succ j ih=>
  by_cases h:i=j+1
  ·rw[h]
  ·have dG:j<ops.size:=J
   have ho:ops[j]? =some ops[j]:=Array.getElem?_eq_getElem dG
   rw[ih J J (fun q o h1 h2=>hM q o h1 J) (fun q h1 h2=>hK q h1 J)]
   cases hm:qh d.res j ops[j].op with
   |true=>exact hM j _ J J ho hm
   |false=>
    by_cases hr:j∈d.res
    ·obtain⟨y,hy⟩:=nj (base:=base) hr
     have gF:x≠y:=fun e=>hK j J J (e▸hy)
     rcases C.kept ho hy with⟨_,v,B,R,_,_,hs,_⟩|⟨_,_,hs⟩
     ·rw[hs,af.cX,if_neg gF]
     ·rw[hs]
    ·rw[C.same ho hm hr]
theorem Ctx.wc(C:Ctx P N ops d base E S){k x:Nat}{o:Oper}(hk:cg base d.res k=some x):jt ops base d.res E k o=some x:=by
 unfold jt
 rw[hk]
 split<;>rfl
theorem Ctx.qL(C:Ctx P N ops d base E S){k x:Nat}{o:Oper}(ho:ops[k]? =some o)(hk:cg base d.res k=some x){i:Nat}(hi:i≤k):(S i).get x=none:=by
 have Dg:k<ops.size:=(Array.getElem?_eq_some_iff.1 ho).1
 rw[←C.Vn k x hk]
 symm
 refine C.lf x (Nat.zero_le i) J ?_ ?_
 ·intro q oq _ hq oJ hm
  rcases C.F.rm k q o oq J ho oJ (dV hk).1 hm with⟨h1,_⟩|h1
  ·omega
  ·exact C.PC k q o oq h1 ho oJ x (C.wc hk)
 ·intro q _ hq e
  have:=gZ hk e
  omega
def hU(aS:Array Bool)(i:Nat):Prop:=aS.getD i false=true
theorem dQ{aS:Array Bool}{i k:Nat}(hi:i<aS.size):hU (aS.setIfInBounds i true) k↔k=i∨hU aS k:=by
 unfold hU
 simp only[Array.getD_eq_getD_getElem?]
 by_cases h:k=i
 ·subst h
  simp[Array.getElem?_setIfInBounds,hi]
 ·rw[Array.getElem?_setIfInBounds_ne (Ne.symm h)]
  simp[h]
theorem ru{aS:Array Bool}(hs:aS.size=ops.size){i:Nat}(h:i∈Region.ready .any ops aS):
 ∃o,ops[i]? =some o∧¬hU aS i∧∀e∈o.after,Region.binds .any e=true→hU aS e.on:=by
 unfold Region.ready at h
 simp only[List.mem_filter,List.mem_range,Bool.and_eq_true,Bool.not_eq_true']at h
 obtain⟨hi,hl,ha⟩:=h
 have ho:ops[i]? =some ops[i]:=Array.getElem?_eq_getElem hi
 refine⟨_,ho,?_,?_⟩
 ·unfold hU
  rw[Array.getD_eq_getD_getElem?]at hl⊢
  rw[Array.getElem?_eq_getElem J]at hl⊢
  simp only[Option.getD_some]at hl⊢
  rw[hl];simp
 ·intro e he hb
  rw[ho]at ha
  simp only[Option.map_some,Option.getD_some,Array.all_eq_true',Bool.or_eq_true,Bool.not_eq_true']at ha
  rcases ha e he with h1|h1
  ·rw[hb]at h1;cases h1
  ·exact h1
theorem GJ{aS:Array Bool}(hs:aS.size=ops.size)(F:sB N ops d)(h:Region.ready .any ops aS=[]):∀i,i<ops.size→hU aS i:=by
 intro i
 induction i using Nat.strongRecOn with
 |_ i ih=>
  intro hi
  by_cases hl:hU aS i
  ·exact hl
  ·have ho:ops[i]? =some ops[i]:=Array.getElem?_eq_getElem hi
   have hm:i∈Region.ready .any ops aS:=by
    unfold Region.ready
    simp only[List.mem_filter,List.mem_range,Bool.and_eq_true,Bool.not_eq_true']
    refine⟨hi,?_,?_⟩
    ·unfold hU at hl
     rw[Array.getD_eq_getD_getElem?]at hl⊢
     rw[Array.getElem?_eq_getElem J]at hl⊢
     simpa using hl
    ·rw[ho]
     simp only[Option.map_some,Option.getD_some,Array.all_eq_true',Bool.or_eq_true,Bool.not_eq_true']
     intro e he
     cases hb:Region.binds .any e with
     |false=>exact .inl rfl
     |true=>
      have dG:=F.ZU i _ e ho he hb
      exact .inr (ih e.on dG J)
   rw[h]at hm;cases hm
theorem lN{aS:Array Bool}(F:sB N ops d)(down:∀(k:Nat) (o:Oper) (e:Edge),ops[k]? =some o→hU aS k→e∈o.after→Region.binds .any e=true→hU aS e.on):
 ∀j i,j<ops.size→i<ops.size→(d.BI.getD j 0).testBit i=true→hU aS j→hU aS i:=by
 intro j
 induction j using Nat.strongRecOn with
 |_ j ih=>
  intro i hj hi hb hl
  obtain⟨o,e,ho,he,pG,dG,tv⟩:=F.BI j i hj hi hb
  have hle:=down j o e ho hl he pG
  rcases tv with rfl|h1
  ·exact hle
  ·exact ih e.on dG i J hi h1 hle
theorem qv{aS:Array Bool}(F:sB N ops d)(down:∀(k:Nat) (o:Oper) (e:Edge),ops[k]? =some o→hU aS k→e∈o.after→Region.binds .any e=true→hU aS e.on)
 {j i:Nat} {o:Oper} (ho:ops[j]? =some o) (hr:∀e∈o.after,Region.binds .any e=true→hU aS e.on) (hi:i<ops.size) (hb:(d.BI.getD j 0).testBit i=true):hU aS i:=by
 have hj:=(Array.getElem?_eq_some_iff.1 ho).1
 obtain⟨o',e,na,he,pG,dG,tv⟩:=F.BI j i hj hi hb
 rw[ho]at na;cases na
 have hle:=hr e he pG
 rcases tv with rfl|h1
 ·exact hle
 ·exact lN F down e.on i J hi h1 hle
structure Inv(P:Program)(N:Nat)(ops:Array Oper)(d:bD)(base:Nat)(E:Nat→Env)(S:Nat→af)(μ₀:Mu)(σ₀:af)(w₀:World)
 (aS:Array Bool) (ajR:Mu) (a:Act) (w:World) (p:Nat):Prop where
 sz:aS.size=ops.size
 down:∀(k:Nat) (o:Oper) (e:Edge),ops[k]? =some o→hU aS k→e∈o.after→Region.binds .any e=true→hU aS e.on
 Et:a.defers=[]
 Hq:a.tmps.size=N
 t0:∀t,(∀(i:Nat) (o:Oper),ops[i]? =some o→hU aS i→o.dst≠some t)→VR ajR (E 0 t) (a.tmps.getD t undef)
 t1:∀(i:Nat) (o:Oper) (t:Tmp),ops[i]? =some o→hU aS i→o.dst=some t→VR ajR (E (i+1) t) (a.tmps.getD t undef)
 Rk:p≤ops.size
 mlt:∀(i:Nat) (o:Oper),i<p→ops[i]? =some o→qh d.res i o.op=true→hU aS i
 Pc:∀(i:Nat) (o:Oper),p≤i→ops[i]? =some o→qh d.res i o.op=true→¬hU aS i
 rel:Rel ajR (S p) w
 qj:Step μ₀ σ₀ w₀ ajR (S p) w
 ny:∀(k x:Nat) (o:Oper),cg base d.res k=some x→ops[k]? =some o→(¬hU aS k∨c_ ops (E k) o≠some true)→ajR x=none
 KN:∀(k x:Nat) (o:Oper),cg base d.res k=some x→ops[k]? =some o→hU aS k→c_ ops (E k) o=some true→p≤k→
  ∃l B,ajR x=some l∧(S (k+1)).get x=some B∧B.rw=true∧mB ajR w B l∧w₀.heap.size≤l.b∧∀y m C,y≠x→ajR y=some m→(S p).get y=some C→m.apart l
 SR:∀k k' x x' l l',k≠k'→cg base d.res k=some x→cg base d.res k'=some x'→p≤k→p≤k'→ajR x=some l→ajR x'=some l'→l.apart l'
theorem Loc.lM{l m:Loc}(h:l.apart m):m.apart l:=fun b o h1 h2=>h b o h2 h1
theorem sC(C:Ctx P N ops d base E S){t:Nat}{i j:Nat}(gW:i≤j)(hj:j≤ops.size)(h:∀(q:Nat) (o:Oper),i≤q→q<j→ops[q]? =some o→o.dst≠some t):E j t=E i t:=by
 induction j with
 |zero=>rw[show i=0 by omega]
 |succ j ih=>
  by_cases hi:i=j+1
  ·rw[hi]
  ·have dG:j<ops.size:=J
   have ho:ops[j]? =some ops[j]:=Array.getElem?_eq_getElem dG
   rw[←ih J J fun q o h1 h2=>h q o h1 J]
   have hd:=h j _ J J ho
   have key:∀v,((E j).put ops[j].dst v) t=E j t:=by
    intro v
    cases hdd:ops[j].dst with
    |none=>rfl
    |some dd=>
     have gF:t≠dd:=fun e=>hd (by rw[hdd,e])
     show(if t=dd then v else E j t)=E j t
     rw[if_neg gF]
   rcases C.step j _ ho with⟨_,v,_,he⟩|⟨_,he,_⟩
   ·rw[he,key]
   ·rw[he,key]
theorem Inv.tmp{μ₀:Mu}{σ₀:af}{w₀:World}{aS:Array Bool}{ajR:Mu}{a:Act}{w:World}{p:Nat}(C:Ctx P N ops d base E S)(aa:Inv P N ops d base E S μ₀ σ₀ w₀ aS ajR a w p)
 {i:Nat} {o:Oper} (ho:ops[i]? =some o) (hl:¬hU aS i) (hr:∀e∈o.after,Region.binds .any e=true→hU aS e.on) {t:Nat} (ht:t∈o.looksAt ops):
 VR ajR (E i t) (a.tmps.getD t undef):=by
 have hi:i<ops.size:=(Array.getElem?_eq_some_iff.1 ho).1
 by_cases hw:∃q oq,ops[q]? =some oq∧oq.dst=some t∧q≠i
 ·obtain⟨q,oq,oJ,Si,BU⟩:=hw
  have hq:q<ops.size:=(Array.getElem?_eq_some_iff.1 oJ).1
  have uniq:∀q' o',ops[q']? =some o'→o'.dst=some t→q'=q:=by
   intro q' o' na xE
   by_cases e:q'=q
   ·exact e
   ·exact absurd xE (C.F.PQ q' q o' oq t (Ne.symm e) na oJ Si)
  have tw:=C.F.names i q o oq t BU ho oJ Si ht
  unfold ordered at tw
  by_cases dG:q<i
  ·rw[if_pos dG]at tw
   have Uu:=qv C.F aa.down ho hr hq tw
   have:=aa.t1 q oq t oJ Uu Si
   rw[sC C (i:=q+1) (j:=i) J J fun q' o' h1 h2 na xE=>by have:=uniq q' o' na xE;omega]
   exact this
  ·rw[if_neg dG]at tw
   have hnq:¬hU aS q:=fun h=>hl (lN C.F aa.down q i hq hi tw h)
   rw[sC C (i:=0) (j:=i) J J fun q' o' h1 h2 na xE=>by have:=uniq q' o' na xE;omega]
   exact aa.t0 t fun q' o' na df xE=>by
    have:=uniq q' o' na xE
    subst this
    exact hnq df
 ·have tu:∀q' o',ops[q']? =some o'→o'.dst=some t→q'=i:=by
   intro q' o' na xE
   by_cases e:q'=i
   ·exact e
   ·exact absurd ⟨q',o',na,xE,e⟩ hw
  rw[sC C (i:=0) (j:=i) J J fun q' o' h1 h2 na xE=>by have:=tu q' o' na xE;omega]
  exact aa.t0 t fun q' o' na df xE=>by
   have:=tu q' o' na xE
   subst this
   exact hl df
end
end AH
namespace AH
open Go
theorem Fz{P:Program}{ajS:Operand→U}{op:Op}{I σ':af}{v:U}(hN:yH op=true)(h:db P ajS op I=some (v,σ')):
 ∃(f:Nat→U) (cs:List U),v=f I.n∧σ'=I.push ⟨cs,true⟩∧∀R:af,db P ajS op R=some (f R.n,R.push ⟨cs,true⟩):=by
 cases op<;>simp only[yH,reduceCtorEq,Bool.false_eq_true]at hN<;>simp only[db]at h⊢
 case alloc e=>cases hz:eJ P e with
  |none=>rw[hz]at h;cases h
  |some z=>rw[hz]at h;cases h;exact⟨fun n=> .ptr n 0,z,rfl,rfl,fun R=>rfl⟩
 case box e x=>cases hc:(ajS x).cells with
  |none=>rw[hc]at h;cases h
  |some z=>rw[hc]at h;cases h;exact⟨fun n=> .ptr n 0,z,rfl,rfl,fun R=>rfl⟩
 case buildSlice t len parts=>
  split at h
  next e b z ht=>
   split at h
   next hlen=>
    cases hf:iE (fun i=>some (i*e,e)) (List.replicate len z).flatten (parts.toList.map fun(i,x)=>(i,ajS x))with
    |none=>rw[hf]at h;cases h
    |some cs=>rw[hf]at h;cases h;exact⟨fun n=> .sl n 0 len e,cs,rfl,rfl,fun R=>by rw[if_pos hlen];rfl⟩
   next=>cases h
  next=>cases h
 case makeSlice t l c=>
  unfold kw at h⊢
  split at h
  next e by_ z l c ht hl Se=>
   split at h
   next hc=>cases h;exact⟨fun n=> .sl n 0 l.toNat e,_,rfl,rfl,fun R=>by rw[if_pos hc]⟩
   next=>cases h
  next=>cases h
section
variable {P:Program} {N:Nat} {ops:Array Oper} {d:bD} {base:Nat} {E:Nat→Env} {S:Nat→af} {μ₀:Mu} {σ₀:af} {w₀:World} {aS:Array Bool} {ajR:Mu} {a:Act} {w:World} {p:Nat}
theorem Ctx.EQ(C:Ctx P N ops d base E S){k x:Nat}{o:Oper}(ho:ops[k]? =some o)(hk:cg base d.res k=some x)(hg:c_ ops (E k) o=some true):
 ∃(v:U) (f:Nat→U) (cs:List U),v=f x∧(∀R:af,db P (bq (E k)) o.op R=some (f R.n,R.push ⟨cs,true⟩))∧S (k+1)=(S k).set x ⟨cs,true⟩∧E (k+1)=(E k).put o.dst v:=by
 rcases C.kept ho hk with⟨_,v,B,R,hv,hB,hs,he⟩|⟨h,_⟩
 ·obtain⟨f,cs,h1,h2,h3⟩:=Fz (C.F.res k o ho (dV hk).1) hv
  subst h2
  rw[af.cu,if_pos rfl]at hB
  cases hB
  exact⟨v,f,cs,h1,h3,hs,he⟩
 ·rw[hg]at h;cases h
theorem Inv.adv(C:Ctx P N ops d base E S)(hb:σ₀.n≤base)(aa:Inv P N ops d base E S μ₀ σ₀ w₀ aS ajR a w p)(hp:p<ops.size){o:Oper}(ho:ops[p]? =some o)(hm:qh d.res p o.op=false):
 Inv P N ops d base E S μ₀ σ₀ w₀ aS ajR a w (p+1):=by
 have same:S (p+1)=S p→Inv P N ops d base E S μ₀ σ₀ w₀ aS ajR a w (p+1):=by
  intro hs
  refine⟨aa.sz,aa.down,aa.Et,aa.Hq,aa.t0,aa.t1,hp,?_,?_,hs▸aa.rel,hs▸aa.qj,aa.ny,?_,?_⟩
  ·intro i oi hi rZ Qw
   by_cases e:i=p
   ·subst e;rw[ho]at rZ;cases rZ;rw[hm]at Qw;cases Qw
   ·exact aa.mlt i oi J rZ Qw
  ·exact fun i oi hi=>aa.Pc i oi J
  ·intro k x ok hk cq hl hg zY
   obtain⟨l,B,h1,h2,h3,h4,h5,h6⟩:=aa.KN k x ok hk cq hl hg J
   exact⟨l,B,h1,h2,h3,h4,h5,fun y m Cc hy hym hyC=>h6 y m Cc hy hym (hs▸hyC)⟩
  ·exact fun k k' x x' l l' h1 h2 h3 h4 h5=>aa.SR k k' x x' l l' h1 h2 h3 J J
 by_cases hr:p∈d.res
 ·obtain⟨x,hx⟩:=nj (base:=base) hr
  cases hg:c_ ops (E p) o with
  |none=>rcases C.kept ho hx with⟨h,_⟩|⟨h,_⟩<;>rw[hg]at h<;>cases h
  |some g=>
   cases g with
   |false=>
    rcases C.kept ho hx with⟨h,_⟩|⟨_,_,hs⟩
    ·rw[hg]at h;cases h
    ·exact same hs
   |true=>
    obtain⟨v,f,cs,_,_,hs,_⟩:=C.EQ ho hx hg
    have hxb:base≤x:=(dV hx).2.1
    have ga:∀y,y≠x→(S (p+1)).get y=(S p).get y:=fun y hy=>by rw[hs,af.cX,if_neg hy]
    have hgx:(S (p+1)).get x=some ⟨cs,true⟩:=by rw[hs,af.cX,if_pos rfl]
    have hn:(S (p+1)).n=(S p).n:=by rw[hs];rfl
    have live:∀l,ajR x=some l→hU aS p:=by
     intro l hl
     by_cases h:hU aS p
     ·exact h
     ·rw[aa.ny p x o hx ho (.inl h)]at hl;cases hl
    refine⟨aa.sz,aa.down,aa.Et,aa.Hq,aa.t0,aa.t1,hp,?_,?_,?_,?_,aa.ny,?_,?_⟩
    ·intro i oi hi rZ Qw
     by_cases e:i=p
     ·subst e;rw[ho]at rZ;cases rZ;rw[hm]at Qw;cases Qw
     ·exact aa.mlt i oi J rZ Qw
    ·exact fun i oi hi=>aa.Pc i oi J
    ·refine⟨fun i l hl=>by rw[hn];exact aa.rel.pe i l hl,?_,?_⟩
     ·intro i B l hB hl
      by_cases e:i=x
      ·subst e
       obtain⟨l',B',h1,h2,_,h4,_⟩:=aa.KN p i o hx ho (live l hl) hg (Nat.le_refl _)
       rw[hl]at h1;cases h1
       rw[hB]at h2;cases h2
       exact h4
      ·exact aa.rel.lO i B l (ga i e▸hB) hl
     ·intro i j B Cc l m gW hB hC iC hl yD
      by_cases e:i=x
      ·subst e
       obtain⟨l',B',h1,_,_,_,_,h6⟩:=aa.KN p i o hx ho (live l hl) hg (Nat.le_refl _)
       rw[hl]at h1;cases h1
       exact Loc.lM (h6 j m Cc (Ne.symm gW) yD (ga j (Ne.symm gW)▸hC))
      ·by_cases e':j=x
       ·subst e'
        obtain⟨l',B',h1,_,_,_,_,h6⟩:=aa.KN p j o hx ho (live m yD) hg (Nat.le_refl _)
        rw[yD]at h1;cases h1
        exact h6 i l B e hl (ga i e▸hB)
       ·exact aa.rel.sep i j B Cc l m gW (ga i e▸hB) (ga j e'▸hC) iC hl yD
    ·refine⟨aa.qj.os,aa.qj.tape,aa.qj.output,aa.qj.size,by rw[hn];exact aa.qj.n,aa.qj.ext,?_,aa.qj.cells,?_,?_,aa.qj.other⟩
     ·rintro b q Db ⟨i,B,l,hB,iC,hl,hh⟩
      by_cases e:i=x
      ·subst e
       obtain⟨l',B',h1,_,_,_,h5,_⟩:=aa.KN p i o hx ho (live l hl) hg (Nat.le_refl _)
       rw[hl]at h1;cases h1
       have:=hh.1
       omega
      ·exact aa.qj.yq b q Db ⟨i,B,l,ga i e▸hB,iC,hl,hh⟩
     ·intro i B hi hB iC
      exact aa.qj.ro i B hi (ga i J▸hB) iC
     ·intro i B hi hi' hB
      by_cases e:i=x
      ·subst e;rw[hgx]at hB;cases hB;rfl
      ·exact aa.qj.AP i B hi (by rw[←hn];exact hi') (ga i e▸hB)
    ·intro k y ok hk cq hl Gd zY
     obtain⟨l,B,h1,h2,h3,h4,h5,h6⟩:=aa.KN k y ok hk cq hl Gd J
     refine⟨l,B,h1,h2,h3,h4,h5,fun z m Cc hz hzm hzC=>?_⟩
     by_cases e:z=x
     ·subst e
      exact aa.SR p k z y m l J hx hk (Nat.le_refl _) J hzm h1
     ·exact h6 z m Cc hz hzm (ga z e▸hzC)
    ·exact fun k k' x x' l l' h1 h2 h3 h4 h5=>aa.SR k k' x x' l l' h1 h2 h3 J J
 ·exact same (C.same ho hm hr)
theorem Inv.OD(C:Ctx P N ops d base E S)(hb:σ₀.n≤base){q:Nat}(hq:q≤ops.size):∀{p:Nat},Inv P N ops d base E S μ₀ σ₀ w₀ aS ajR a w p→p≤q→
 (∀(i:Nat) (o:Oper),p≤i→i<q→ops[i]? =some o→qh d.res i o.op=false)→Inv P N ops d base E S μ₀ σ₀ w₀ aS ajR a w q:=by
 induction q with
 |zero=>intro p aa O7 _;rw[show p=0 by omega]at aa;exact aa
 |succ q ih=>
  intro p aa O7 hm
  by_cases e:p=q+1
  ·subst e;exact aa
  ·have I':=ih J aa J fun i o h1 h2=>hm i o h1 J
   have ho:ops[q]? =some ops[q]:=Array.getElem?_eq_getElem J
   exact I'.adv C hb J ho (hm q _ J J ho)
theorem Inv.look(C:Ctx P N ops d base E S)(aa:Inv P N ops d base E S μ₀ σ₀ w₀ aS ajR a w p){j x:Nat}{o:Oper}(ho:ops[j]? =some o)(hL:aQ o.op=true)
 (zW:jt ops base d.res E j o=some x) (hl:¬hU aS j) (hr:∀e∈o.after,Region.binds .any e=true→hU aS e.on) {l:Loc} (hμ:ajR x=some l) {B:cT} (hB:(S j).get x=some B):mB ajR w B l:=by
 have Ul:j<ops.size:=(Array.getElem?_eq_some_iff.1 ho).1
 have hq:∀(q:Nat) (oq:Oper),(j≤q∧q<p∨p≤q∧q<j)→ops[q]? =some oq→qh d.res q oq.op=true→(S q).get x=(S (q+1)).get x:=by
  intro q oq tv oJ O3
  have hqn:q<ops.size:=(Array.getElem?_eq_some_iff.1 oJ).1
  have gF:q≠j:=by
   rintro rfl
   rw[ho]at oJ;cases oJ
   cases nc:o.op<;>rw[nc]at hL<;>simp only[aQ,Bool.false_eq_true]at hL
   rw[nc]at O3
   simp[qh,EP,yH]at O3
  rcases C.F.lm j q o oq gF ho oJ hL O3 with tw|UE
  ·exfalso
   unfold ordered at tw
   rcases tv with⟨h1,h2⟩|⟨h1,h2⟩
   ·rw[if_neg J]at tw
    exact hl (lN C.F aa.down q j hqn Ul tw (aa.mlt q oq h2 oJ O3))
   ·rw[if_pos h2]at tw
    exact aa.Pc q oq h1 oJ O3 (qv C.F aa.down ho hr hqn tw)
  ·exact C.PC j q o oq UE ho oJ x zW
 have atp:(∀q,(j≤q∧q<p∨p≤q∧q<j)→cg base d.res q≠some x)→mB ajR w B l:=by
  intro hK
  have hSp:(S p).get x=some B:=by
   rw[←hB]
   rcases Nat.le_total j p with h|h
   ·exact(C.lf x h aa.Rk (fun q oq h1 h2=>hq q oq (.inl ⟨h1,h2⟩)) (fun q h1 h2=>hK q (.inl ⟨h1,h2⟩))).symm
   ·exact C.lf x h J (fun q oq h1 h2=>hq q oq (.inr ⟨h1,h2⟩)) (fun q h1 h2=>hK q (.inr ⟨h1,h2⟩))
  exact aa.rel.lO x B l hSp hμ
 by_cases hk:∃k,cg base d.res k=some x
 ·obtain⟨k,hk⟩:=hk
  have Dg:k<ops.size:=C.F.Vw k (dV hk).1
  have cq:ops[k]? =some ops[k]:=Array.getElem?_eq_getElem Dg
  have Ur:hU aS k∧c_ ops (E k) ops[k]=some true:=by
   refine⟨?_,?_⟩
   ·by_cases h:hU aS k
    ·exact h
    ·rw[aa.ny k x _ hk cq (.inl h)]at hμ;cases hμ
   ·by_cases h:c_ ops (E k) ops[k]=some true
    ·exact h
    ·rw[aa.ny k x _ hk cq (.inr h)]at hμ;cases hμ
  by_cases Qm:j≤k
  ·rw[C.qL cq hk Qm]at hB;cases hB
  ·by_cases zY:p≤k
   ·obtain⟨l',B',h1,h2,_,h4,_⟩:=aa.KN k x _ hk cq Ur.1 Ur.2 zY
    rw[hμ]at h1;cases h1
    have:=C.lf x (i:=k+1) (j:=j) J J (fun q oq h1 h2=>hq q oq (.inr ⟨J,h2⟩)) (fun q h1 _ e=>by have:=gZ hk e;omega)
    rw[h2,hB]at this;cases this
    exact h4
   ·exact atp fun q tv e=>by have:=gZ hk e;omega
 ·exact atp fun q _ e=>hk ⟨q,e⟩
end
end AH
namespace AH
open Go
def mask(ops:Array Oper)(o:Oper)(env:Env):Env:=fun t=>if t∈o.looksAt ops then env t else .undef
theorem nN{ops:Array Oper}{o:Oper}(env:Env){x:Operand}(h:x∈o.op.operands):bq (mask ops o env) x=bq env x:=by
 cases x with
 |tmp t=>
  show(if t∈o.looksAt ops then env t else .undef)=env t
  rw[if_pos]
  unfold Oper.looksAt
  rw[List.mem_append,List.mem_filterMap]
  exact .inl ⟨.tmp t,FU,rfl⟩
 |const v=>rfl
 |global g=>rfl
 |func f=>rfl
theorem we{ops:Array Oper}{o:Oper}(env:Env):c_ ops (mask ops o env) o=c_ ops env o:=by
 unfold c_
 cases hg:o.guard with
 |none=>rfl
 |some jw=>
  obtain⟨j,want⟩:=jw
  simp only
  cases hd:(ops[j]?).bind (·.dst)with
  |none=>rfl
  |some t=>
   have:mask ops o env t=env t:=by
    unfold mask
    rw[if_pos]
    unfold Oper.looksAt
    rw[List.mem_append,hg]
    right
    simp only[hd]
    simp
   simp only[this]
theorem Ke{P:Program}{ops:Array Oper}{o:Oper}{env:Env}{I σ':af}{v:U}(h:Hm P (bq env) o I v σ'):Hm P (bq (mask ops o env)) o I v σ':=by
 unfold Hm at h⊢
 split at h
 next f args ts ho=>
  have hf:bq (mask ops o env) f=bq env f:=nN env (by rw[ho];simp[Op.operands,Call.operands])
  have ha:args.toList.map (bq (mask ops o env))=args.toList.map (bq env):=by
   refine List.map_congr_left fun x hx=>nN env ?_
   rw[ho];simp[Op.operands,Call.operands];right;simpa using hx
  rw[hf,ha];exact h
 next=>rw[vf _ _ fun x hx=>nN env hx];exact h
theorem pN{P:Program}{ops:Array Oper}{o:Oper}{env:Env}(I:af):db P (bq (mask ops o env)) o.op I=db P (bq env) o.op I:=
 vf _ _ fun _ hx=>nN env hx
theorem AL{N:Nat}{a:Act}(hs:a.tmps.size=N){dst:Option Tmp}(hd:∀d,dst=some d→d<N)(u:Value)(t:Nat):
 (a.put dst u).tmps.getD t undef=if dst=some t then u else a.tmps.getD t undef:=by
 cases dst with
 |none=>rfl
 |some d=>
  have hdN:=hd d rfl
  show(a.tmps.setIfInBounds d u).getD t undef=_
  by_cases ht:t=d
  ·subst ht
   rw[if_pos rfl]
   have:t<a.tmps.size:=by rw[hs];exact hdN
   simp[Array.getD,this]
  ·rw[if_neg (by intro e;cases e;exact ht rfl)]
   simp only[Array.getD_eq_getD_getElem?]
   rw[Array.getElem?_setIfInBounds_ne (Ne.symm ht)]
section
variable {P:Program} {N:Nat} {ops:Array Oper} {d:bD} {base:Nat} {E:Nat→Env} {S:Nat→af} {μ₀:Mu} {σ₀:af} {w₀:World} {aS:Array Bool} {ajR:Mu} {a:Act} {w:World} {p:Nat}
theorem Inv.env(C:Ctx P N ops d base E S)(aa:Inv P N ops d base E S μ₀ σ₀ w₀ aS ajR a w p){i:Nat}{o:Oper}(ho:ops[i]? =some o)(hl:¬hU aS i)
 (hr:∀e∈o.after,Region.binds .any e=true→hU aS e.on):kF ajR N (mask ops o (E i)) a:=by
 refine⟨aa.Et,aa.Hq,fun t=>?_⟩
 unfold mask
 split
 next ht=>exact aa.tmp C ho hl hr ht
 next=>exact .undef _
theorem Inv.names(C:Ctx P N ops d base E S)(aa:Inv P N ops d base E S μ₀ σ₀ w₀ aS ajR a w p){i:Nat}{o:Oper}(ho:ops[i]? =some o){μ':Mu}(iH:∀i l,ajR i=some l→μ' i=some l)
 {u:Value} (hu:∀t,o.dst=some t→VR μ' (E (i+1) t) u):
 (∀t,(∀(k:Nat) (ok:Oper),ops[k]? =some ok→hU (aS.setIfInBounds i true) k→ok.dst≠some t)→VR μ' (E 0 t) ((a.put o.dst u).tmps.getD t undef))∧
 (∀(k:Nat) (ok:Oper) (t:Tmp),ops[k]? =some ok→hU (aS.setIfInBounds i true) k→ok.dst=some t→VR μ' (E (k+1) t) ((a.put o.dst u).tmps.getD t undef)):=by
 have hi:i<aS.size:=by rw[aa.sz];exact(Array.getElem?_eq_some_iff.1 ho).1
 have hd:=C.F.dst i o ho
 refine⟨fun t ht=>?_,fun k ok t cq hl L9=>?_⟩
 ·rw[AL aa.Hq hd,if_neg (ht i o ho ((dQ hi).2 (.inl rfl)))]
  exact(aa.t0 t fun k ok cq hl=>ht k ok cq ((dQ hi).2 (.inr hl))).mono iH
 ·rw[AL aa.Hq hd]
  by_cases e:k=i
  ·subst e;rw[ho]at cq;cases cq
   rw[if_pos L9];exact hu t L9
  ·rw[if_neg (C.F.PQ i k o ok t e ho cq L9)]
   exact(aa.t1 k ok t cq (((dQ hi).1 hl).resolve_left e) L9).mono iH
theorem Inv.IY(aa:Inv P N ops d base E S μ₀ σ₀ w₀ aS ajR a w p){i:Nat}{o:Oper}(ho:ops[i]? =some o)(hr:∀e∈o.after,Region.binds .any e=true→hU aS e.on):
 ∀(k:Nat) (ok:Oper) (e:Edge),ops[k]? =some ok→hU (aS.setIfInBounds i true) k→e∈ok.after→Region.binds .any e=true→hU (aS.setIfInBounds i true) e.on:=by
 have hi:i<aS.size:=by rw[aa.sz];exact(Array.getElem?_eq_some_iff.1 ho).1
 intro k ok e cq hl he hb
 rcases(dQ hi).1 hl with rfl|h
 ·rw[ho]at cq;cases cq
  exact(dQ hi).2 (.inr (hr e he hb))
 ·exact(dQ hi).2 (.inr (aa.down k ok e cq h he hb))
theorem Inv.quiet(C:Ctx P N ops d base E S)(aa:Inv P N ops d base E S μ₀ σ₀ w₀ aS ajR a w p){i:Nat}{o:Oper}(ho:ops[i]? =some o)(hl:¬hU aS i)
 (hr:∀e∈o.after,Region.binds .any e=true→hU aS e.on) (hM:qh d.res i o.op=false) (hg:i ∉ d.res∨c_ ops (E i) o≠some true) {u:Value} (hu:∀t,o.dst=some t→VR ajR (E (i+1) t) u):
 Inv P N ops d base E S μ₀ σ₀ w₀ (aS.setIfInBounds i true) ajR (a.put o.dst u) w p:=by
 have hi:i<aS.size:=by rw[aa.sz];exact(Array.getElem?_eq_some_iff.1 ho).1
 have O4:=aa.names C ho (fun _ _ h=>h) hu
 refine⟨by rw[Array.size_setIfInBounds,aa.sz],aa.IY ho hr,?_,?_,O4.1,O4.2,aa.Rk,?_,?_,aa.rel,aa.qj,?_,?_,aa.SR⟩
 ·cases o.dst<;>exact aa.Et
 ·cases o.dst
  ·exact aa.Hq
  ·show(a.tmps.setIfInBounds _ _).size=N
   rw[Array.size_setIfInBounds,aa.Hq]
 ·exact fun k ok hk cq Dj=>(dQ hi).2 (.inr (aa.mlt k ok hk cq Dj))
 ·intro k ok hk cq Dj zW
  rcases(dQ hi).1 zW with rfl|h
  ·rw[ho]at cq;cases cq;rw[hM]at Dj;cases Dj
  ·exact aa.Pc k ok hk cq Dj h
 ·intro k x ok hk cq tv
  refine aa.ny k x ok hk cq ?_
  rcases tv with h|h
  ·exact .inl fun h'=>h ((dQ hi).2 (.inr h'))
  ·exact .inr h
 ·intro k x ok hk cq zW Gd zY
  rcases(dQ hi).1 zW with rfl|h
  ·rw[ho]at cq;cases cq
   rcases hg with h|h
   ·exact absurd (dV hk).1 h
   ·exact absurd Gd h
  ·exact aa.KN k x ok hk cq h Gd zY
theorem Inv.reach(C:Ctx P N ops d base E S)(hb:σ₀.n≤base)(aa:Inv P N ops d base E S μ₀ σ₀ w₀ aS ajR a w p){i:Nat}{o:Oper}(ho:ops[i]? =some o)(hl:¬hU aS i)
 (hr:∀e∈o.after,Region.binds .any e=true→hU aS e.on) (hM:qh d.res i o.op=true):Inv P N ops d base E S μ₀ σ₀ w₀ aS ajR a w i:=by
 have hi:i<ops.size:=(Array.getElem?_eq_some_iff.1 ho).1
 have M6:p≤i:=by
  rcases Nat.lt_or_ge i p with h|h
  ·exact absurd (aa.mlt i o h ho hM) hl
  ·exact h
 refine aa.OD C hb J M6 fun q oq h1 h2 oJ=>?_
 cases hm:qh d.res q oq.op with
 |false=>rfl
 |true=>
  have:=C.F.mm i q o oq J ho oJ hM hm
  unfold ordered at this
  rw[if_pos h2]at this
  exact absurd (qv C.F aa.down ho hr J this) (aa.Pc q oq h1 oJ hm)
theorem Inv.write(C:Ctx P N ops d base E S)(hb:σ₀.n≤base){i:Nat}(aa:Inv P N ops d base E S μ₀ σ₀ w₀ aS ajR a w i){o:Oper}(ho:ops[i]? =some o)
 (hr:∀e∈o.after,Region.binds .any e=true→hU aS e.on) (Dd:i ∉ d.res) {μ':Mu} {w':World} {u:Value} (hR:Rel μ' (S (i+1)) w') (hS:Step ajR (S i) w μ' (S (i+1)) w')
 (hu:∀t,o.dst=some t→VR μ' (E (i+1) t) u):
 Inv P N ops d base E S μ₀ σ₀ w₀ (aS.setIfInBounds i true) μ' (a.put o.dst u) w' (i+1):=by
 have kL:i<ops.size:=(Array.getElem?_eq_some_iff.1 ho).1
 have hi:i<aS.size:=by rw[aa.sz];exact kL
 have iH:=hS.EV aa.rel
 have O4:=aa.names C ho iH hu
 have rY:∀k x,cg base d.res k=some x→μ' x=ajR x:=fun k x hk=>hS.ext x (Nat.lt_of_lt_of_le (C.SN k x hk) (C.Kf (Nat.zero_le i) J))
 refine⟨by rw[Array.size_setIfInBounds,aa.sz],aa.IY ho hr,?_,?_,O4.1,O4.2,kL,?_,?_,hR,aa.qj.trans hS,?_,?_,?_⟩
 ·cases o.dst<;>exact aa.Et
 ·cases o.dst
  ·exact aa.Hq
  ·show(a.tmps.setIfInBounds _ _).size=N
   rw[Array.size_setIfInBounds,aa.Hq]
 ·intro k ok hk cq Dj
  by_cases e:k=i
  ·exact(dQ hi).2 (.inl e)
  ·exact(dQ hi).2 (.inr (aa.mlt k ok J cq Dj))
 ·intro k ok hk cq Dj zW
  rcases(dQ hi).1 zW with rfl|h
  ·omega
  ·exact aa.Pc k ok J cq Dj h
 ·intro k x ok hk cq tv
  rw[rY k x hk]
  refine aa.ny k x ok hk cq ?_
  rcases tv with h|h
  ·exact .inl fun h'=>h ((dQ hi).2 (.inr h'))
  ·exact .inr h
 ·intro k x ok hk cq zW Gd zY
  have Up:k≠i:=J
  obtain⟨l,B,h1,h2,h3,h4,h5,h6⟩:=aa.KN k x ok hk cq (((dQ hi).1 zW).resolve_left Up) Gd J
  have hxi:(S i).get x=none:=C.qL cq hk J
  have Ss:∀b q,l.has b q→¬H4 ajR (S i) b q:=by
   rintro b q BQ ⟨y,Y,m,hY,_,hm,hmb⟩
   have UQ:y≠x:=fun e=>by subst e;rw[hxi]at hY;cases hY
   exact h6 y m Y UQ hm hY b q hmb BQ
  have TZ:mB μ' w' B l:=by
   obtain⟨arr,el,fr,lY,eX,EB,T8,T9⟩:=h4.ex
   obtain⟨jb,T3,qf,Sc⟩:=hS.cells l.b arr el fr lY
   refine⟨jb,el,fr,T3,J,EB,T8,fun j c hc=>?_⟩
   obtain⟨uu,HF,fH⟩:=T9 j c hc
   have hj:j<B.cells.length:=(List.getElem?_eq_some_iff.1 hc).1
   refine⟨uu,?_,fH.mono iH⟩
   rw[Sc (l.o+j) (Ss l.b (l.o+j) ⟨rfl,J,J⟩)]
   exact HF
  refine⟨l,B,(rY k x hk).trans h1,h2,h3,TZ,h5,?_⟩
  intro y m Y UQ hm hY
  cases iC:Y.rw with
  |true=>
   intro b q hmb BQ
   have dG:b<w.heap.size:=by have:=BQ.1;have:=h4.lt;omega
   exact Ss b q BQ (hS.yq b q dG ⟨y,Y,m,hY,iC,hm,hmb⟩)
  |false=>
   have hyn:y<(S (i+1)).n:=hR.pe y m hm
   rcases Nat.lt_or_ge y (S i).n with dG|Dc
   ·obtain⟨Y',hY',_⟩:=hS.ro y Y dG hY iC
    exact h6 y m Y' UQ (hS.ext y dG▸hm) hY'
   ·rw[hS.AP y Y Dc hyn hY]at iC;cases iC
 ·intro k k' x x' l l' sf hk rh zY QD hl df
  rw[rY k x hk]at hl
  rw[rY k' x' rh]at df
  exact aa.SR k k' x x' l l' sf hk rh J J hl df
theorem Inv.place(C:Ctx P N ops d base E S)(hb:σ₀.n≤base)(aa:Inv P N ops d base E S μ₀ σ₀ w₀ aS ajR a w p){i:Nat}{o:Oper}(ho:ops[i]? =some o)(hl:¬hU aS i)
 (hr:∀e∈o.after,Region.binds .any e=true→hU aS e.on) {x:Nat} (hx:cg base d.res i=some x) (hg:c_ ops (E i) o=some true) {cs:List U} {us rest:List Value} {el:TypeId}
 (hs:S (i+1)=(S i).set x ⟨cs,true⟩) (hv:fW ajR cs us) {u:Value} (hu:∀t,o.dst=some t→VR (ajR.gl x ⟨w.heap.size,0,(us++rest).length⟩) (E (i+1) t) u):
 Inv P N ops d base E S μ₀ σ₀ w₀ (aS.setIfInBounds i true) (ajR.gl x ⟨w.heap.size,0,(us++rest).length⟩) (a.put o.dst u) (w.alloc (.cells (us++rest).toArray el)) p:=by
 have kL:i<ops.size:=(Array.getElem?_eq_some_iff.1 ho).1
 have hi:i<aS.size:=by rw[aa.sz];exact kL
 have Dd:=(dV hx).1
 have hM:qh d.res i o.op=false:=by simp[qh,Dd]
 have aby:ajR x=none:=aa.ny i x o hx ho (.inl hl)
 generalize hL:(⟨w.heap.size,0,(us++rest).length⟩:Loc)=L at hu⊢
 have iH:∀j l,ajR j=some l→ajR.gl x L j=some l:=by
  intro j l hj
  unfold Mu.gl
  rw[if_neg fun e=>by subst e;rw[aby]at hj;cases hj]
  exact hj
 have pJ:∀y,y≠x→ajR.gl x L y=ajR y:=fun y hy=>if_neg hy
 have mD:(w.alloc (.cells (us++rest).toArray el)).heap[w.heap.size]? =some (.cells (us++rest).toArray el):=by
  show(w.heap.push _)[w.heap.size]? =_
  simp
 have hold:∀(b:Nat),b<w.heap.size→(w.alloc (.cells (us++rest).toArray el)).heap[b]? =w.heap[b]? :=by
  intro b hb
  show(w.heap.push _)[b]? =_
  simp[Array.getElem?_push,Nat.ne_of_lt hb]
 have ahN:(w.alloc (.cells (us++rest).toArray el)).heap.size=w.heap.size+1:=by
  show(w.heap.push _).size=_
  simp
 have OV:mB (ajR.gl x L) (w.alloc (.cells (us++rest).toArray el)) ⟨cs,true⟩ L:=by
  subst hL
  refine⟨_,_,_,mD,aV,by simp[hv.1],fun _=>rfl,?_⟩
  intro j c hc
  obtain⟨q,hq,Gm⟩:=hv.get hc
  have hj:j<us.length:=(List.getElem?_eq_some_iff.1 hq).1
  exact⟨q,by simp[List.getElem?_append_left hj,hq],Gm.mono iH⟩
 have O0:∀B l,mB ajR w B l→mB (ajR.gl x L) (w.alloc (.cells (us++rest).toArray el)) B l:=by
  intro B l h
  obtain⟨arr,RW,fr,hb,KM⟩:=(h.mono iH).ex
  exact⟨arr,RW,fr,(hold _ h.lt).trans hb,KM⟩
 have hLb:L.b=w.heap.size:=by subst hL;rfl
 have TP:∀B l,mB ajR w B l→l.apart L:=by
  intro B l h b q h1 h2
  have:=h.lt;have:=h1.1;have:=h2.1
  omega
 have hSx:∀B,(S p).get x=some B→B=⟨cs,true⟩:=by
  intro B hB
  rcases Nat.lt_or_ge i p with h|h
  ·have yG:=C.lf x (i:=i+1) (j:=p) J aa.Rk (fun q oq h1 h2 oJ O3=>by
    rcases C.F.rm i q o oq J ho oJ Dd O3 with⟨_,tv⟩|UE
    ·exfalso
     unfold ordered at tv
     rw[if_neg J]at tv
     exact hl (lN C.F aa.down q i (by have:=aa.Rk;omega) kL tv (aa.mlt q oq h2 oJ O3))
    ·exact C.PC i q o oq UE ho oJ x (C.wc hx)) (fun q h1 _ e=>by have:=gZ hx e;omega)
   rw[hs,af.cX,if_pos rfl,hB]at yG
   cases yG;rfl
  ·rw[C.qL ho hx h]at hB;cases hB
 have O4:=aa.names C ho iH hu
 refine⟨by rw[Array.size_setIfInBounds,aa.sz],aa.IY ho hr,?_,?_,O4.1,O4.2,aa.Rk,?_,?_,⟨?_,?_,?_⟩,?_,?_,?_,?_⟩
 ·cases o.dst<;>exact aa.Et
 ·cases o.dst
  ·exact aa.Hq
  ·show(a.tmps.setIfInBounds _ _).size=N
   rw[Array.size_setIfInBounds,aa.Hq]
 ·exact fun k ok hk cq Dj=>(dQ hi).2 (.inr (aa.mlt k ok hk cq Dj))
 ·intro k ok hk cq Dj zW
  rcases(dQ hi).1 zW with rfl|h
  ·rw[ho]at cq;cases cq;rw[hM]at Dj;cases Dj
  ·exact aa.Pc k ok hk cq Dj h
 ·intro y l hy
  by_cases e:y=x
  ·subst e;exact Nat.lt_of_lt_of_le (C.SN i y hx) (C.Kf (Nat.zero_le p) aa.Rk)
  ·rw[pJ y e]at hy;exact aa.rel.pe y l hy
 ·intro y B l hB hy
  by_cases e:y=x
  ·subst e
   rw[hSx B hB]
   have:ajR.gl y L y=some L:=if_pos rfl
   rw[this]at hy;cases hy
   exact OV
  ·rw[pJ y e]at hy
   exact O0 B l (aa.rel.lO y B l hB hy)
 ·intro y z B D l m hyz hB hD iC hy hz
  by_cases e:y=x
  ·subst e
   have:ajR.gl y L y=some L:=if_pos rfl
   rw[this]at hy;cases hy
   rw[pJ z (Ne.symm hyz)]at hz
   exact Loc.lM (TP D m (aa.rel.lO z D m hD hz))
  ·rw[pJ y e]at hy
   by_cases e':z=x
   ·subst e'
    have:ajR.gl z L z=some L:=if_pos rfl
    rw[this]at hz;cases hz
    exact TP B l (aa.rel.lO y B l hB hy)
   ·rw[pJ z e']at hz
    exact aa.rel.sep y z B D l m hyz hB hD iC hy hz
 ·have hxb:base≤x:=(dV hx).2.1
  refine⟨aa.qj.os,aa.qj.tape,aa.qj.output,by have:=aa.qj.size;omega,aa.qj.n,?_,?_,?_,aa.qj.ro,aa.qj.AP,?_⟩
  ·intro j hj;rw[pJ j J];exact aa.qj.ext j hj
  ·rintro b q Db ⟨y,B,l,hB,iC,hy,hh⟩
   by_cases e:y=x
   ·subst e
    have:ajR.gl y L y=some L:=if_pos rfl
    rw[this]at hy;cases hy
    have:=hh.1;have:=aa.qj.size
    omega
   ·rw[pJ y e]at hy
    exact aa.qj.yq b q Db ⟨y,B,l,hB,iC,hy,hh⟩
  ·intro b arr RW fr hb
   obtain⟨jb,h1,h2,h3⟩:=aa.qj.cells b arr RW fr hb
   exact⟨jb,(hold _ (Array.getElem?_eq_some_iff.1 h1).1).trans h1,h2,h3⟩
  ·intro b ob hb gF
   have h1:=aa.qj.other b ob hb gF
   exact(hold _ (Array.getElem?_eq_some_iff.1 h1).1).trans h1
 ·intro k y ok hk cq tv
  have Up:k≠i:=by
   rintro rfl
   rw[ho]at cq;cases cq
   rcases tv with h|h
   ·exact h ((dQ hi).2 (.inl rfl))
   ·exact h hg
  rw[pJ y fun e=>Up (gZ (e▸hk) hx)]
  refine aa.ny k y ok hk cq ?_
  rcases tv with h|h
  ·exact .inl fun h'=>h ((dQ hi).2 (.inr h'))
  ·exact .inr h
 ·intro k y ok hk cq zW Gd zY
  rcases(dQ hi).1 zW with rfl|h
  ·rw[hx]at hk;cases hk
   refine⟨L,⟨cs,true⟩,if_pos rfl,by rw[hs,af.cX,if_pos rfl],rfl,OV,by have:=aa.qj.size;omega,?_⟩
   intro z m D hz hm hD
   rw[pJ z hz]at hm
   exact TP D m (aa.rel.lO z D m hD hm)
  ·have Up:k≠i:=fun e=>hl (e▸h)
   have UQ:y≠x:=fun e=>Up (gZ (e▸hk) hx)
   obtain⟨l,B,h1,h2,h3,h4,h5,h6⟩:=aa.KN k y ok hk cq h Gd zY
   refine⟨l,B,(pJ y UQ).trans h1,h2,h3,O0 B l h4,h5,?_⟩
   intro z m D hz hm hD
   by_cases e:z=x
   ·subst e
    have:ajR.gl z L z=some L:=if_pos rfl
    rw[this]at hm;cases hm
    exact Loc.lM (TP B l h4)
   ·rw[pJ z e]at hm
    exact h6 z m D hz hm hD
 ·have live:∀k y l,cg base d.res k=some y→p≤k→ajR y=some l→l.apart L:=by
   intro k y l hk zY Uv
   have Dg:=C.F.Vw k (dV hk).1
   have cq:ops[k]? =some ops[k]:=Array.getElem?_eq_getElem Dg
   have zW:hU aS k:=by
    by_cases h:hU aS k
    ·exact h
    ·rw[aa.ny k y _ hk cq (.inl h)]at Uv;cases Uv
   have Gd:c_ ops (E k) ops[k]=some true:=by
    by_cases h:c_ ops (E k) ops[k]=some true
    ·exact h
    ·rw[aa.ny k y _ hk cq (.inr h)]at Uv;cases Uv
   obtain⟨l',B,h1,_,_,h4,_⟩:=aa.KN k y _ hk cq zW Gd zY
   rw[Uv]at h1;cases h1
   exact TP B l h4
  intro k k' y y' l l' sf hk rh zY QD hy Pa
  by_cases e:y=x
  ·subst e
   have:ajR.gl y L y=some L:=if_pos rfl
   rw[this]at hy;cases hy
   have abr:y'≠y:=fun e=>sf (gZ hk (e▸rh))
   rw[pJ y' abr]at Pa
   exact Loc.lM (live k' y' l' rh QD Pa)
  ·rw[pJ y e]at hy
   by_cases e':y'=x
   ·subst e'
    have:ajR.gl y' L y'=some L:=if_pos rfl
    rw[this]at Pa;cases Pa
    exact live k y l hk zY hy
   ·rw[pJ y' e']at Pa
    exact aa.SR k k' y y' l l' sf hk rh zY QD hy Pa
end
end AH
namespace AH
open Go
section
variable {P:Program} {N:Nat} {ops:Array Oper} {d:bD} {base:Nat} {E:Nat→Env} {S:Nat→af} {μ₀:Mu} {σ₀:af} {w₀:World} {aS:Array Bool} {ajR:Mu} {a:Act} {w:World} {p:Nat} {Q:Exit→Act→World→Prop}
theorem pT(env:Env){dst:Option Tmp}{v:U}{t:Tmp}(h:dst=some t):env.put dst v t=v:=by
 subst h;exact if_pos rfl
theorem Cg{t:TypeId}{a v:U}{I:af}(h:ja P t a I=some v):∃i k,a= .ptr i k∧∀R:af,R.get i=I.get i→ja P t a R=some v:=by
 unfold ja at h
 split at h
 next i k=>
  refine⟨i,k,rfl,fun R hτ=>?_⟩
  unfold ja
  simp only[hτ]
  exact h
 next=>cases h
theorem Inv.NC(C:Ctx P N ops d base E S)(aa:Inv P N ops d base E S μ₀ σ₀ w₀ aS ajR a w p){i:Nat}{o:Oper}(ho:ops[i]? =some o)(hl:¬hU aS i)
 (hr:∀e∈o.after,Region.binds .any e=true→hU aS e.on) (hE:EP o.op=false) (hN:yH o.op=false) (Dd:i ∉ d.res) (hg:c_ ops (E i) o=some true) {v:U} {σ':af} (h:db P (bq (E i)) o.op (S i)=some (v,σ')):
 ZB P ajR w (execOp a.eval o) v:=by
 have Qf:=aa.env C ho hl hr
 cases hL:aQ o.op with
 |false=>
  have h':=(vd hE hN h).2 hL ⟨(S p).n,fun _=>none⟩
  rw[←pN (ops:=ops)]at h'
  refine oz (I:=⟨(S p).n,fun _=>none⟩) ⟨aa.rel.pe,?_,?_⟩ (fun x=>Qf.eval x) hE hN h'
  ·intro i B l hB;cases hB
  ·intro i j B D l m _ hB;cases hB
 |true=>
  cases nc:o.op<;>rw[nc]at hL<;>simp only[aQ,Bool.false_eq_true]at hL
  rename_i t x
  have h0:=h
  rw[nc]at h0
  simp only[db]at h0
  cases uW:ja P t (bq (E i) x) (S i)with
  |none=>rw[uW]at h0;cases h0
  |some v'=>
   rw[uW]at h0
   simp only[Option.map_some,Option.some.injEq,Prod.mk.injEq]at h0
   obtain⟨rfl,_⟩:=h0
   obtain⟨y,k,hy,P8⟩:=Cg uW
   have zW:jt ops base d.res E i o=some y:=by
    unfold jt de
    rw[if_pos hg,ni Dd,nc]
    simp only[hy,xm]
   have hτ:=P8 ⟨(S p).n,fun z=>if z=y then(S i).get y else none⟩ (if_pos rfl)
   have h':db P (bq (mask ops o (E i))) o.op ⟨(S p).n,fun z=>if z=y then(S i).get y else none⟩=some (v',⟨(S p).n,fun z=>if z=y then(S i).get y else none⟩):=by
    rw[pN,nc]
    simp only[db,hτ,Option.map_some]
   refine oz (I:=⟨(S p).n,fun z=>if z=y then(S i).get y else none⟩) ⟨aa.rel.pe,?_,?_⟩ (fun x=>Qf.eval x) hE hN h'
   ·intro z B l hB hz
    by_cases e:z=y
    ·subst e
     have hB:(if z=z then(S i).get z else none)=some B:=hB
     rw[if_pos rfl]at hB
     exact aa.look C ho (by rw[nc];rfl) zW hl hr hz hB
    ·have hB:(if z=y then(S i).get y else none)=some B:=hB
     rw[if_neg e]at hB;cases hB
   ·intro z z' B D l m hzz hB hD
    have hB:(if z=y then(S i).get y else none)=some B:=hB
    have hD:(if z'=y then(S i).get y else none)=some D:=hD
    by_cases e:z=y
    ·rw[if_neg J]at hD;cases hD
    ·rw[if_neg e]at hB;cases hB
theorem Inv.exec(C:Ctx P N ops d base E S)(hb:σ₀.n≤base)(aa:Inv P N ops d base E S μ₀ σ₀ w₀ aS ajR a w p){i:Nat}{o:Oper}(ho:ops[i]? =some o)(hl:¬hU aS i)
 (hr:∀e∈o.after,Region.binds .any e=true→hU aS e.on) {K:Act→World→Prop}
 (hK:∀μ' a' w' p',Inv P N ops d base E S μ₀ σ₀ w₀ (aS.setIfInBounds i true) μ' a' w' p'→K a' w'):wpOp P ops Q i K a w:=by
 have Qf:=aa.env C ho hl hr
 have aaz:=C.F.dst i o ho
 unfold wpOp
 rw[ho]
 simp only
 rcases C.step i o ho with⟨hg,v,nc,he⟩|⟨hg,he,hs⟩
 ·have hw:=lX Qf ((we (E i)).trans hg)
  rw[hw,if_pos rfl]
  left
  by_cases Dd:i∈d.res
  ·obtain⟨x,hx⟩:=nj (base:=base) Dd
   obtain⟨v',f,cs,qF,hf,hs,he'⟩:=C.EQ ho hx hg
   have hN:=C.F.res i o ho Dd
   have h1:=hf (S p)
   rw[←pN (ops:=ops)]at h1
   obtain⟨f',Tz,s,mJ,qE,P8,hex,u,us,rest,el,oL,xN,ig⟩:=sH (ajR:=ajR) (w:=w) (fun x=>Qf.eval x) hN h1
   have hff:∀n,f' n=f n∧Tz=cs:=by
    intro n
    have e1:=P8 ⟨n,fun _=>none⟩
    rw[pN,hf]at e1
    simp only[Option.some.injEq,Prod.mk.injEq]at e1
    have e2:=congrArg (fun R:af=>R.get n) e1.2
    simp only[af.cu,if_true,Option.some.injEq]at e2
    cases e2
    exact⟨e1.1.symm,rfl⟩
   obtain rfl:=(hff 0).2
   unfold Oper.wp
   have UI:(execOp a.eval o).run P w= .ok (.value u) (w.alloc (.cells (us++rest).toArray el)):=by
    rw[hex];simp[oL]
   rw[UI]
   refine hK _ _ _ p (aa.place C hb ho hl hr hx hg hs xN (u:=u) ?_)
   intro t ht
   rw[he',pT _ ht,qF,←(hff x).1]
   exact ig x _ (if_pos rfl)
  ·rw[ni Dd]at nc
   cases hM:qh d.res i o.op with
   |true=>
    have I':=aa.reach C hb ho hl hr hM
    refine vb I'.rel Qf aaz (Ke nc) ?_
    intro u w' μ' hv ji BL
    refine hK μ' _ w' (i+1) (I'.write C hb ho hr Dd ji BL ?_)
    intro t ht
    rw[he,pT _ ht]
    exact hv
   |false=>
    obtain⟨hE,hN⟩:=v_ hM Dd
    obtain⟨u,oL,hv⟩:=aa.NC C ho hl hr hE hN Dd hg (Eh hE nc)
    unfold Oper.wp
    rw[oL]
    refine hK ajR _ w p (aa.quiet C ho hl hr hM (.inl Dd) (u:=u) ?_)
    intro t ht
    rw[he,pT _ ht]
    exact hv
 ·have hw:=lX Qf ((we (E i)).trans hg)
  rw[hw]
  simp only[Bool.false_eq_true,if_false]
  have hu:∀t,o.dst=some t→VR ajR (E (i+1) t) undef:=by
   intro t ht
   rw[he,pT _ ht]
   exact Ek _
  cases hM:qh d.res i o.op with
  |false=>exact hK ajR _ w p (aa.quiet C ho hl hr hM (.inr (by rw[hg];simp)) hu)
  |true=>
   have I':=aa.reach C hb ho hl hr hM
   have Dd:i ∉ d.res:=by
    intro h
    simp[qh,h]at hM
   refine hK ajR _ w (i+1) (I'.write C hb ho hr Dd (by rw[hs];exact I'.rel) (by rw[hs];exact Step.refl _ _ _) hu)
theorem Inv.done(C:Ctx P N ops d base E S)(hb:σ₀.n≤base)(aa:Inv P N ops d base E S μ₀ σ₀ w₀ aS ajR a w p)(pF:∀i,i<ops.size→hU aS i):kF ajR N (E ops.size) a∧Rel ajR (S ops.size) w∧Step μ₀ σ₀ w₀ ajR (S ops.size) w:=by
 have I':=aa.OD C hb (Nat.le_refl _) aa.Rk fun i o h1 h2 ho=>by
  cases hm:qh d.res i o.op with
  |false=>rfl
  |true=>exact absurd (pF i h2) (aa.Pc i o h1 ho hm)
 refine⟨⟨aa.Et,aa.Hq,fun t=>?_⟩,I'.rel,I'.qj⟩
 by_cases hw:∃(q:Nat) (oq:Oper),ops[q]? =some oq∧oq.dst=some t
 ·obtain⟨q,oq,oJ,Si⟩:=hw
  have hq:q<ops.size:=(Array.getElem?_eq_some_iff.1 oJ).1
  rw[sC C (i:=q+1) (j:=ops.size) J (Nat.le_refl _) fun q' o' h1 h2 na xE=>C.F.PQ q' q o' oq t J na oJ Si xE]
  exact aa.t1 q oq t oJ (pF q hq) Si
 ·rw[sC C (i:=0) (j:=ops.size) J (Nat.le_refl _) fun q' o' h1 h2 na xE=>hw ⟨q',o',na,xE⟩]
  exact aa.t0 t fun q' o' na df xE=>hw ⟨q',o',na,xE⟩
theorem CV{l:Array Bool}(h:l.toList.count false=0){i:Nat}(hi:i<l.size):hU l i:=by
 unfold hU
 rw[Array.getD_eq_getD_getElem?,Array.getElem?_eq_getElem hi]
 cases hb:l[i]with
 |true=>rfl
 |false=>
  have:false∈l.toList:=by rw[←hb,←Array.getElem_toList];exact List.getElem_mem _
  rw[List.count_eq_zero]at h
  exact absurd this h
theorem count_set{l:Array Bool}{i:Nat}(hi:i<l.size)(hl:¬hU l i):(l.setIfInBounds i true).toList.count false+1=l.toList.count false:=by
 have hb:l[i]=false:=by
  unfold hU at hl
  rw[Array.getD_eq_getD_getElem?,Array.getElem?_eq_getElem hi]at hl
  simpa using hl
 have hm:false∈l.toList:=by rw[←hb,←Array.getElem_toList];exact List.getElem_mem _
 have tB:=List.count_pos_iff.2 hm
 rw[Array.toList_setIfInBounds,List.count_set (by simpa using hi)]
 simp only[Array.getElem_toList,hb,beq_self_eq_true,if_true]
 rw[if_neg fX]
 omega
theorem Inv.run(C:Ctx P N ops d base E S)(hb:σ₀.n≤base)(hQ:∀ajR a w,kF ajR N (E ops.size) a→Rel ajR (S ops.size) w→Step μ₀ σ₀ w₀ ajR (S ops.size) w→Q .normal a w):
 ∀(fuel:Nat) (aS:Array Bool) (ajR:Mu) (a:Act) (w:World) (p:Nat),aS.toList.count false≤fuel→Inv P N ops d base E S μ₀ σ₀ w₀ aS ajR a w p→wpAny P .any ops Q fuel aS a w:=by
 intro fuel
 induction fuel with
 |zero=>
  intro aS ajR a w p hc aa
  have pF:∀i,i<ops.size→hU aS i:=fun i hi=>CV J (by rw[aa.sz];exact hi)
  refine⟨?_,?_⟩
  ·cases Gg:Region.ready .any ops aS with
   |nil=>rfl
   |cons i rest=>
    obtain⟨o,ho,hl,_⟩:=ru aa.sz (i:=i) (by rw[Gg];simp)
    exact absurd (pF i (Array.getElem?_eq_some_iff.1 ho).1) hl
  ·obtain⟨h1,h2,h3⟩:=aa.done C hb pF
   exact hQ ajR a w h1 h2 h3
 |succ fuel ih=>
  intro aS ajR a w p hc aa
  refine⟨fun h0=>?_,fun i hi=>?_⟩
  ·obtain⟨h1,h2,h3⟩:=aa.done C hb (GJ aa.sz C.F h0)
   exact hQ ajR a w h1 h2 h3
  ·obtain⟨o,ho,hl,hr⟩:=ru aa.sz hi
   have kL:=(Array.getElem?_eq_some_iff.1 ho).1
   refine aa.exec C hb ho hl hr fun μ' a' w' p' I'=>ih _ μ' a' w' p' ?_ I'
   have:=count_set (l:=aS) (i:=i) (by rw[aa.sz];exact kL) hl
   omega
end
theorem sS{n:Nat}{tr:List dx}:∀{ps:List (Nat×Nat)},lS n tr ps→∀p∈ps,nF n tr p
 |[],_,p,hp=>by cases hp
 |q::qs,h,p,hp=>by
  rcases List.mem_cons.1 hp with rfl|hp
  ·exact h.1
  ·exact sS h.2 p hp
theorem CY{P:Program}{N:Nat}{ajR:Mu}{I:af}{w:World}{env:Env}{a:Act}{id:Nat}{ops:Array Oper}{d:bD}(hm:P.follows .mixedOrders=true)(hd:xu N ops d=true)
 {K:Env→af→Prop} {Q:Exit→Act→World→Prop}
 (hQ:∀a w',B5 P N ajR I w K a w'→Q .normal a w') (h: @k_ P ops d env I ⟨K⟩) (hE:kF ajR N env a) (hR:Rel ajR I w):(Code.region id ops true).wp P Q a w:=by
 have F:=PM hd
 unfold k_ at h
 have X4:∀k x,cg I.n d.res k=some x→(if d.res=[]then I else I.iy d.res.length)=I.iy d.res.length∧I.n≤x∧x<I.n+d.res.length:=by
  intro k x hk
  have:=dV hk
  refine⟨if_neg fun e=>?_,this.2.1,this.2.2.1⟩
  rw[e]at this;cases this.1
 have hRS:Rel ajR (if d.res=[]then I else I.iy d.res.length) w.drew∧Step ajR I w ajR (if d.res=[]then I else I.iy d.res.length) w.drew:=by
  split
  ·exact⟨hR.drew,Step.drew _ _ _⟩
  ·have ga:∀i B,(I.iy d.res.length).get i=some B→I.get i=some B:=by
    intro i B hB
    have hB:(if I.n≤i∧i<I.n+d.res.length then none else I.get i)=some B:=hB
    split at hB
    ·cases hB
    ·exact hB
   have hS:=Step.drew ajR I w
   refine⟨⟨fun i l hl=>?_,fun i B l hB hl=>hR.drew.lO i B l (ga i B hB) hl,fun i j B D l m gW hB hD iC hl hm=>hR.sep i j B D l m gW (ga i B hB) (ga j D hD) iC hl hm⟩,?_⟩
   ·have:=hR.pe i l hl
    show i<I.n+d.res.length
    omega
   ·refine⟨hS.os,hS.tape,hS.output,hS.size,Nat.le_add_right _ _,hS.ext,?_,hS.cells,?_,?_,hS.other⟩
    ·rintro b o hb ⟨i,B,l,hB,h1⟩
     exact⟨i,B,l,ga i B hB,h1⟩
    ·exact fun i B _ hB hr=>⟨B,ga i B hB,hr⟩
    ·intro i B h1 h2 hB
     have h2:i<I.n+d.res.length:=h2
     have hB:(if I.n≤i∧i<I.n+d.res.length then none else I.get i)=some B:=hB
     rw[if_pos ⟨h1,h2⟩]at hB;cases hB
 obtain⟨E,S,Me,MM,P5,JK,_,UM,Jn,hK⟩:=IA ops.size 0 env _ [] (Nat.zero_add _) rfl FU
 have C:Ctx P N ops d I.n E S:=by
  refine⟨F,fun i o ho=>JK i o (Nat.zero_le _) ho,?_,?_,?_⟩
  ·intro j i oj oi hp hoj rZ x hx
   have:=sS Jn (j,i) hp
   unfold nF at this
   simp only at this
   rw[UM j oj (Nat.zero_le _) hoj,UM i oi (Nat.zero_le _) rZ]at this
   simp only[hx]at this
   exact this
  ·intro k x hk
   obtain⟨h1,h2,h3⟩:=X4 k x hk
   rw[P5,h1]
   exact if_pos ⟨h2,h3⟩
  ·intro k x hk
   obtain⟨h1,h2,h3⟩:=X4 k x hk
   rw[P5,h1]
   exact h3
 have Ys:∀i,¬hU (Array.replicate ops.size false) i:=by
  intro i hl
  unfold hU at hl
  rw[Array.getD_eq_getD_getElem?]at hl
  by_cases hi:i<ops.size
  ·simp[hi]at hl
  ·simp[hi]at hl
 have LS:∀k x,cg I.n d.res k=some x→ajR x=none:=by
  intro k x hk
  obtain⟨_,h2,_⟩:=X4 k x hk
  cases hμ:ajR x with
  |none=>rfl
  |some l=>have:=hR.pe x l hμ;omega
 have aa:Inv P N ops d I.n E S ajR I w (Array.replicate ops.size false) ajR a w.drew 0:=by
  refine⟨aV,fun k o e _ hl=>absurd hl (Ys k),hE.defers,hE.size,fun t _=>by rw[MM];exact hE.tmps t,fun i o t _ hl=>absurd hl (Ys i),Nat.zero_le _,fun i o hi=>by omega,fun i o _ _ _=>Ys i,
   by rw[P5];exact hRS.1,by rw[P5];exact hRS.2,fun k x o hk _ _=>LS k x hk,fun k x o _ _ hl=>absurd hl (Ys k),?_⟩
  intro k k' x x' l l' _ hk _ _ _ hl
  rw[LS k x hk]at hl;cases hl
 refine wp_region_any hm ?_
 refine aa.run C (Nat.le_refl _) ?_ ops.size _ ajR a w.drew 0 ?_
 ·intro μ' a' w' h1 h2 h3
  exact hQ a' w' ⟨E ops.size,S ops.size,μ',hK,h1,h2,h3⟩
 ·refine Nat.le_trans List.count_le_length ?_
  simp
end AH
namespace AH
open Go
theorem jG{p:Nat→Prop}(h:∃m,p m):∃m,p m∧∀k,k<m→¬p k:=by
 obtain⟨m,hm⟩:=h
 induction m using Nat.strongRecOn with
 |_ m ih=>
  by_cases hk:∃k,k<m∧p k
  ·obtain⟨k,hk,hp⟩:=hk
   exact ih k hk hp
  ·exact⟨m,hm,fun k dG hp=>hk ⟨k,dG,hp⟩⟩
noncomputable def least(p:Nat→Prop):Nat:= @dite _ (∃m,p m) (Classical.propDecidable _) (fun h=>Classical.choose (jG h)) fun _=>0
theorem DB{p:Nat→Prop}(h:∃m,p m):p (least p):=by
 unfold least;rw[dif_pos h];exact(Classical.choose_spec (jG h)).1
theorem least_le{p:Nat→Prop}{m:Nat}(h:p m):least p≤m:=by
 unfold least
 have he:∃m,p m:=⟨m,h⟩
 rw[dif_pos he]
 rcases Nat.lt_or_ge m (Classical.choose (jG he))with dG|Dc
 ·exact absurd h ((Classical.choose_spec (jG he)).2 m dG)
 ·exact Dc
def mR(next:Env→af→Prop)(K:Exit→Env→af→Prop):Exit→Env→af→Prop
 | .normal,env,I=>next env I
 |e,env,I=>K e env I
def jM(id:Nat)(K:Exit→Env→af→Prop):Exit→Env→af→Prop
 | .exit Am,env,I=>if Am=id then K .normal env I else K (.exit Am) env I
 |e,env,I=>K e env I
def mN(c:U)[yes:Kt Prop][no:Kt Prop]:Prop:=
 match c with
 | .bool t=>(t=true→yes.val)∧(t=false→no.val)
 |_=>False
def pu(step:(Exit→Env→af→Prop)→Env→af→Prop)(K:Exit→Env→af→Prop):Nat→Env→af→Prop
 |0,_,_=>False
 |n+1,env,I=>step (mR (pu step K n) K) env I
def lL[step:Kt ((Exit→Env→af→Prop)→Env→af→Prop)][K:Kt (Exit→Env→af→Prop)](env:Env)(I:af):Prop:=∃n,pu step.val K.val n env I
def ko(P:Program)(ord:Nat→bD):Code→(Exit→Env→af→Prop)→Env→af→Prop
 | .skip,K,env,I=>K .normal env I
 | .region _ ops false,K,env,I=>dL P ops ops.toList env I (K .normal)
 | .region id ops true,K,env,I=> @k_ P ops (ord id) env I ⟨K .normal⟩
 | .seq a b,K,env,I=>ko P ord a (mR (ko P ord b K) K) env I
 | .cond c a b,K,env,I=> @mN (bq env c) ⟨ko P ord a K env I⟩ ⟨ko P ord b K env I⟩
 | .block id c,K,env,I=>ko P ord c (jM id K) env I
 | .loop c,K,env,I=> @lL ⟨ko P ord c⟩ ⟨K⟩ env I
 | .exit id,K,env,I=>K (.exit id) env I
 | .ret,K,env,I=>K .ret env I
 |_,_,_,_=>False
def codeOk(N:Nat)(ord:Nat→bD):Code→Bool
 | .region id ops true=>xu N ops (ord id)
 | .region _ ops false=>ops.toList.all (vG N)
 | .seq a b=>codeOk N ord a&&codeOk N ord b
 | .cond _ a b=>codeOk N ord a&&codeOk N ord b
 | .block _ c=>codeOk N ord c
 | .loop c=>codeOk N ord c
 |_=>true
section
variable {P:Program} {N:Nat} {ord:Nat→bD}
def Tj(P:Program)(N:Nat)(ajR:Mu)(I:af)(w:World)(K:Exit→Env→af→Prop)(e:Exit)(a':Act)(w':World):Prop:=B5 P N ajR I w (K e) a' w'
theorem G5(hm:P.follows .mixedOrders=true):∀(c:Code),codeOk N ord c=true→∀(K:Exit→Env→af→Prop) (env:Env) (I:af) (ajR:Mu) (a:Act) (w:World),
 ko P ord c K env I→kF ajR N env a→Rel ajR I w→c.wp P (Tj P N ajR I w K) a w:=by
 intro c
 induction c with
 |skip=>intro _ K env I ajR a w h hE hR;exact wp_skip ⟨env,I,ajR,h,hE,hR,Step.refl _ _ _⟩
 |region id ops draw=>
  intro cq K env I ajR a w h hE hR
  cases draw with
  |true=>exact CY hm cq (fun a w' hp=>hp) h hE hR
  |false=>exact yo cq (fun a w' hp=>hp) h hE hR
 |seq x y QZ Q0=>
  intro cq K env I ajR a w h hE hR
  simp only[codeOk,Bool.and_eq_true]at cq
  refine wp_seq (wp_mono (QZ cq.1 _ env I ajR a w h hE hR) ?_)
  rintro e a' w' ⟨ce,σ',μ',hK,Ga,ji,hS⟩
  cases e with
  |normal=>exact wp_mono (Q0 cq.2 K ce σ' μ' a' w' hK Ga ji) fun e a'' Pn hp=>hp.trans hS
  |_=>exact⟨ce,σ',μ',hK,Ga,ji,hS⟩
 |cond c x y QZ Q0=>
  intro cq K env I ajR a w h hE hR
  simp only[codeOk,Bool.and_eq_true]at cq
  have hc:=hE.eval c
  simp only[ko]at h
  unfold mN at h
  split at h
  next t ht=>
   rw[ht]at hc
   generalize hq:a.eval c=q at hc
   cases hc
   exact wp_cond_split hq (fun e=>QZ cq.1 K env I ajR a w (h.1 e) hE hR) (fun e=>Q0 cq.2 K env I ajR a w (h.2 e) hE hR)
  next=>exact h.elim
 |block id c ih=>
  intro cq K env I ajR a w h hE hR
  refine wp_block (wp_mono (ih cq _ env I ajR a w h hE hR) ?_)
  rintro e a' w' ⟨ce,σ',μ',hK,Ga,ji,hS⟩
  cases e with
  |exit Am=>
   simp only[jM]at hK
   simp only[Exit.inBlock]
   split at hK
   ·rename_i he;rw[if_pos he];exact⟨ce,σ',μ',hK,Ga,ji,hS⟩
   ·rename_i he;rw[if_neg he];exact⟨ce,σ',μ',hK,Ga,ji,hS⟩
  |_=>exact⟨ce,σ',μ',hK,Ga,ji,hS⟩
 |loop c ih=>
  intro cq K env I ajR a w h hE hR
  obtain⟨n,h⟩:=h
  let aa:Nat→Act→World→Prop:=fun m a' w'=>∃ce σ' μ',pu (ko P ord c) K m ce σ'∧kF μ' N ce a'∧Rel μ' σ' w'∧Step ajR I w μ' σ' w'
  refine wp_loop (fun a' w'=>∃m,aa m a' w') (fun a' w'=>least fun m=>aa m a' w') ⟨n,env,I,ajR,h,hE,hR,Step.refl _ _ _⟩ ?_
  intro a' w' hI
  have Jw:=DB hI
  generalize(least fun m=>aa m a' w')=m at Jw
  obtain⟨ce,σ',μ',hl,Ga,ji,hS⟩:=Jw
  cases m with
  |zero=>exact hl.elim
  |succ m=>
   refine wp_mono (ih cq _ ce σ' μ' a' w' hl Ga ji) ?_
   rintro e a'' Pn ⟨OO,LU,LR,hK,T0,T1,BL⟩
   cases e with
   |normal=>
    have R6:aa m a'' Pn:=⟨OO,LU,LR,hK,T0,T1,hS.trans BL⟩
    refine⟨⟨m,R6⟩,?_⟩
    exact Nat.lt_succ_of_le (least_le R6)
   |_=>exact⟨OO,LU,LR,hK,T0,T1,hS.trans BL⟩
 |exit id=>intro _ K env I ajR a w h hE hR;exact wp_exit ⟨env,I,ajR,h,hE,hR,Step.refl _ _ _⟩
 |ret=>intro _ K env I ajR a w h hE hR;exact wp_ret ⟨env,I,ajR,h,hE,hR,Step.refl _ _ _⟩
 |_=>intro _ K env I ajR a w h hE hR;exact h.elim
end
end AH
namespace AH
open Go
def nV(P:Program)(env:Env)(I:af):List ResultVar→Option (List U)
 |[]=>some []
 | .tmp t::rs=>(nV P env I rs).map (env t:: ·)
 | .cell a t::rs=>match ja P t (env a) I,nV P env I rs with
   |some v,some vs=>some (v::vs)
   |_,_=>none
def Iv:List U→U
 |[v]=>v
 |vs=> .cw vs
def mS(x:Option (List U))[k:Kt (U→Prop)]:Prop:=
 match x with
 |some vs=>k.val (Iv vs)
 |none=>False
def mP(P:Program)(rs:List ResultVar)(Q:U→af→Prop):Exit→Env→af→Prop
 | .normal,env,I=> @mS (nV P env I rs) ⟨fun v=>Q v I⟩
 | .ret,env,I=> @mS (nV P env I rs) ⟨fun v=>Q v I⟩
 |_,_,_=>False
def bL(args:List U):Env:=fun t=>args.getD t .undef
def BZ(P:Program)(f:FuncId)(args:List U)(I:af)(Q:U→af→Prop):Prop:=
 Enters P f∧∀(ajR:Mu) (w:World) (us:Array Value),Rel ajR I w→fW ajR args us.toList→Calls P f us w fun e w'=>∃v σ',Q v σ'∧HW ajR I w v σ' e w'
section
variable {P:Program} {N:Nat}
theorem Cy{ajR:Mu}{I:af}{w:World}{env:Env}{a:Act}(hE:kF ajR N env a)(hR:Rel ajR I w):∀(rs:List ResultVar) (vs:List U),nV P env I rs=some vs→
 ∃us,(rs.mapM (m:=Sem) fun| .tmp t=>pure (a.tmps.getD t undef)| .cell c t=>do loadVar t (←asAddr (a.tmps.getD c undef))).run P w= .ok us w∧fW ajR vs us:=by
 intro rs
 induction rs with
 |nil=>intro vs h;simp[nV]at h;subst h;exact⟨[],rfl,fW.nil ajR⟩
 |cons r rs ih=>
  intro vs h
  cases r with
  |tmp t=>
   simp only[nV]at h
   cases hq:nV P env I rs with
   |none=>rw[hq]at h;cases h
   |some Wl=>
    rw[hq]at h;cases h
    obtain⟨us,hr,hv⟩:=ih Wl hq
    refine⟨_,?_,fW.cons (hE.tmps t) hv⟩
    simp only[List.mapM_cons,Sem.run_bind,Sem.run_pure,Result.andThen_ok,hr]
  |cell c t=>
   simp only[nV]at h
   split at h
   next v Wl hl hq=>
    cases h
    obtain⟨us,hr,hv⟩:=ih Wl hq
    have hc:=hE.tmps c
    have Ut:∃u,(do loadVar t (←asAddr (a.tmps.getD c undef)):Sem Value).run P w= .ok u w∧VR ajR v u:=by
     have pI:=hl
     unfold ja at pI
     split at pI
     next i k he=>
      rw[he]at hc hl
      generalize a.tmps.getD c undef=q at hc
      cases hc
      rename_i l rX
      obtain⟨u,h1,h2⟩:=tN (P:=P) hR (VR.ptr i k l rX) hl
      exact⟨u,by simpa[asAddr,Instr.loadAt,Instr.sureAddr]using h1,h2⟩
     next=>cases pI
    obtain⟨u,h1,h2⟩:=Ut
    refine⟨_,?_,fW.cons h2 hv⟩
    simp only[List.mapM_cons,Sem.run_bind,Sem.run_pure]at h1⊢
    rw[h1]
    simp only[Result.andThen_ok,hr]
   next=>cases h
theorem Ii{f:FuncId}{fn:Func}{c:Code}{args:List U}{I:af}{Q:U→af→Prop}(ord:Nat→bD)(hm:P.follows .mixedOrders=true)
 (hf:P.funcs[f]? =some fn) (hn:(fn.name== "runtime.NumGoroutine")=false) (hb:fn.body=some c) (cq:(codeOk fn.ntmps ord c&&decide (args.length≤fn.ntmps))=true)
 (h:ko P ord c (mP P fn.results.toList Q) (bL args) I):BZ P f args I Q:=by
 rw[Bool.and_eq_true,decide_eq_true_eq]at cq
 refine⟨⟨fn,hf,hn,by rw[hb];rfl⟩,?_⟩
 intro ajR w us hR ms
 refine calls_of_wp hf hb ?_
 have nL:us.size=args.length:=by have:=ms.1;simp at this;omega
 have hE:kF ajR fn.ntmps (bL args) {tmps:=us++Array.replicate (fn.ntmps-us.size) undef,defers:=[]}:=by
  refine⟨rfl,bX,fun t=>?_⟩
  simp only[bL,List.getD_eq_getElem?_getD,Array.getD_eq_getD_getElem?]
  cases ht:args[t]? with
  |none=>exact .undef _
  |some a=>
   obtain⟨u,hu,hv⟩:=ms.get ht
   have dG:t<us.size:=by have:=(List.getElem?_eq_some_iff.1 hu).1;simpa using this
   rw[Array.getElem?_append_left dG]
   simp only[Array.getElem?_toList]at hu
   rw[hu];exact hv
 refine wp_mono (G5 hm c cq.1 _ _ I ajR _ w h hE hR) ?_
 rintro e a' w' ⟨ce,σ',μ',hK,Ga,ji,hS⟩
 have fin:(e= .normal∨e= .ret)→ @mS (nV P ce σ' fn.results.toList) ⟨fun v=>Q v σ'⟩→bodyPost P fn (fun e w'=>∃v σ',Q v σ'∧HW ajR I w v σ' e w') e a' w':=by
  intro he zT
  unfold mS at zT
  split at zT
  next vs xN=>
   obtain⟨rs,hr,hv⟩:=Cy Ga ji _ _ xN
   have UH:(results fn a'.tmps).run P w'= .ok (if h:rs.toArray.size=1 then rs.toArray[0]else .tuple rs.toArray) w':=by
    unfold results
    rw[show fn.results=fn.results.toList.toArray by simp,List.mapM_toArray]
    simp only[Sem.run_bind,Sem.run_map,Sem.run_pure]
    erw [hr]
    rfl
   have ig:VR μ' (Iv vs) (if h:rs.toArray.size=1 then rs.toArray[0]else .tuple rs.toArray):=by
    have hl:=hv.1
    rcases vs with _|⟨x,_|⟨y,vs⟩⟩<;>rcases rs with _|⟨p,_|⟨q,rs⟩⟩<;>simp at hl
    ·exact hv.cw
    ·exact hv.2 0 x p rfl rfl
    ·rw[dif_neg aV]
     exact hv.cw
   rcases he with rfl|rfl
   ·exact⟨Ga.defers,_,UH,_,σ',zT,_,μ',rfl,ig,ji,hS⟩
   ·exact⟨Ga.defers,_,UH,_,σ',zT,_,μ',rfl,ig,ji,hS⟩
  next=>exact zT.elim
 cases e with
 |normal=>exact fin (.inl rfl) hK
 |ret=>exact fin (.inr rfl) hK
 |_=>exact hK.elim
end
end AH
namespace AH
open Go
section
variable {P:Program} {ord:Nat→bD} {K:Exit→Env→af→Prop} {env:Env} {I:af}
theorem Lv:ko P ord .skip K env I=K .normal env I:=_root_.id rfl
theorem D3(id:Nat)(ops:Array Oper):ko P ord (.region id ops false) K env I=dL P ops ops.toList env I (K .normal):=_root_.id rfl
theorem Ls(id:Nat)(ops:Array Oper):ko P ord (.region id ops true) K env I= @k_ P ops (ord id) env I ⟨K .normal⟩:=_root_.id rfl
theorem Oi(a b:Code):ko P ord (.seq a b) K env I=ko P ord a (mR (ko P ord b K) K) env I:=_root_.id rfl
theorem Lr(c:Operand)(a b:Code):ko P ord (.cond c a b) K env I= @mN (bq env c) ⟨ko P ord a K env I⟩ ⟨ko P ord b K env I⟩:=_root_.id rfl
theorem G4(id:Nat)(c:Code):ko P ord (.block id c) K env I=ko P ord c (jM id K) env I:=_root_.id rfl
theorem Lu(c:Code):ko P ord (.loop c) K env I= @lL ⟨ko P ord c⟩ ⟨K⟩ env I:=_root_.id rfl
theorem Lt(id:Nat):ko P ord (.exit id) K env I=K (.exit id) env I:=_root_.id rfl
theorem Oh:ko P ord .ret K env I=K .ret env I:=_root_.id rfl
theorem xn(n:Env→af→Prop):mR n K .normal env I=n env I:=_root_.id rfl
theorem FK(n:Env→af→Prop):mR n K .ret env I=K .ret env I:=_root_.id rfl
theorem CF(n:Env→af→Prop)(id:Nat):mR n K (.exit id) env I=K (.exit id) env I:=_root_.id rfl
theorem uQ(n:Env→af→Prop):mR n K .normal=n:=_root_.id rfl
theorem rH(id:Nat):jM id K .normal env I=K .normal env I:=_root_.id rfl
theorem qo(id:Nat):jM id K .normal=K .normal:=_root_.id rfl
theorem xa(id:Nat):jM id K .ret env I=K .ret env I:=_root_.id rfl
theorem uG(id Am:Nat):jM id K (.exit Am) env I=if Am=id then K .normal env I else K (.exit Am) env I:=_root_.id rfl
theorem xi(rs:List ResultVar)(Q:U→af→Prop):mP P rs Q .normal env I= @mS (nV P env I rs) ⟨fun v=>Q v I⟩:=_root_.id rfl
theorem uM(rs:List ResultVar)(Q:U→af→Prop):mP P rs Q .normal=fun env I=> @mS (nV P env I rs) ⟨fun v=>Q v I⟩:=_root_.id rfl
theorem FE(rs:List ResultVar)(Q:U→af→Prop):mP P rs Q .ret env I= @mS (nV P env I rs) ⟨fun v=>Q v I⟩:=_root_.id rfl
theorem B9(t:Bool)(a b:Prop): @mN (.bool t) ⟨a⟩ ⟨b⟩↔(t=true→a)∧(t=false→b):=Iff.rfl
theorem B_(a b:Prop): @mN (.bool true) ⟨a⟩ ⟨b⟩↔a:=by simp[mN]
theorem yJ(a b:Prop): @mN (.bool false) ⟨a⟩ ⟨b⟩↔b:=by simp[mN]
theorem Io(ops:Array Oper)(k:Env→af→Prop):dL P ops [] env I k=k env I:=_root_.id rfl
def tc(d:Option Tmp)(want:Bool)(env:Env):Option Bool:=
 match d with
 |some d=>(match env d with| .bool b=>some (b==want)| .cw []=>some false|_=>none)
 |none=>none
def Ey(v:U)(want:Bool):Option Bool:=match v with| .bool b=>some (b==want)| .cw []=>some false|_=>none
theorem C3(want:Bool):Ey (.cw []) want=some false:=_root_.id rfl
theorem zM(d:Tmp)(want:Bool):tc (some d) want env=Ey (env d) want:=_root_.id rfl
theorem C2(b want:Bool):Ey (.bool b) want=some (b==want):=_root_.id rfl
theorem Ct(ops:Array Oper)(dst:Option Tmp)(op:Op)(ty:TypeId)(pos:String)(after:Array Edge)(os:List Oper)(k:Env→af→Prop):
 dL P ops (⟨dst,op,ty,pos,after,none⟩::os) env I k↔dM P ⟨dst,op,ty,pos,after,none⟩ env I fun ce σ'=>dL P ops os ce σ' k:=by
 simp[dL,c_,cN]
theorem Cr(ops:Array Oper)(dst:Option Tmp)(op:Op)(ty:TypeId)(pos:String)(after:Array Edge)(j:Nat)(want:Bool)(os:List Oper)(k:Env→af→Prop):
 dL P ops (⟨dst,op,ty,pos,after,some (j,want)⟩::os) env I k=
  @cN (tc ((ops[j]?).bind (·.dst)) want env)
   ⟨dM P ⟨dst,op,ty,pos,after,some (j,want)⟩ env I fun ce σ'=>dL P ops os ce σ' k⟩ ⟨dL P ops os (env.put dst (.cw [])) I k⟩:=_root_.id rfl
theorem yM(b:Bool)(x y:Prop): @cN (some b) ⟨x⟩ ⟨y⟩↔(b=true→x)∧(b=false→y):=Iff.rfl
theorem yN(x y:Prop): @cN (some true) ⟨x⟩ ⟨y⟩↔x:=by simp[cN]
theorem w_(x y:Prop): @cN (some false) ⟨x⟩ ⟨y⟩↔y:=by simp[cN]
theorem CG(v:U)(k:U→af→Prop): @dt (some (v,I)) ⟨k⟩=k v I:=_root_.id rfl
theorem CH(vs:List U)(k:U→Prop): @mS (some vs) ⟨k⟩=k (Iv vs):=_root_.id rfl
theorem CA(dst:Option Tmp)(f:Operand)(args:Array Operand)(ts:Array TypeId)(ty:TypeId)(pos:String)(after:Array Edge)(g:Option (Nat×Bool))(k:Env→af→Prop):
 dM P ⟨dst,.call ⟨.value f,args,ts⟩,ty,pos,after,g⟩ env I k= @dN P (bq env f) (args.toList.map (bq env)) I ⟨fun v σ'=>k (env.put dst v) σ'⟩:=_root_.id rfl
theorem CC(x:Operand)(dst:Option Tmp)(ty:TypeId)(pos:String)(after:Array Edge)(g:Option (Nat×Bool))(k:Env→af→Prop):dM P ⟨dst,(.move x),ty,pos,after,g⟩ env I k= @dt (db P (bq env) (.move x) I) ⟨fun v σ'=>k (env.put dst v) σ'⟩:=_root_.id rfl
theorem xl(x:Operand)(dst:Option Tmp)(ty:TypeId)(pos:String)(after:Array Edge)(g:Option (Nat×Bool))(k:Env→af→Prop):dM P ⟨dst,(.assign x),ty,pos,after,g⟩ env I k= @dt (db P (bq env) (.assign x) I) ⟨fun v σ'=>k (env.put dst v) σ'⟩:=_root_.id rfl
theorem CD(a b c:Operand)(dst:Option Tmp)(ty:TypeId)(pos:String)(after:Array Edge)(g:Option (Nat×Bool))(k:Env→af→Prop):dM P ⟨dst,(.pick a b c),ty,pos,after,g⟩ env I k= @dt (db P (bq env) (.pick a b c) I) ⟨fun v σ'=>k (env.put dst v) σ'⟩:=_root_.id rfl
theorem zg(e:TypeId)(dst:Option Tmp)(ty:TypeId)(pos:String)(after:Array Edge)(g:Option (Nat×Bool))(k:Env→af→Prop):dM P ⟨dst,(.alloc e),ty,pos,after,g⟩ env I k= @dt (db P (bq env) (.alloc e) I) ⟨fun v σ'=>k (env.put dst v) σ'⟩:=_root_.id rfl
theorem FH(e:TypeId)(x:Operand)(dst:Option Tmp)(ty:TypeId)(pos:String)(after:Array Edge)(g:Option (Nat×Bool))(k:Env→af→Prop):dM P ⟨dst,(.box e x),ty,pos,after,g⟩ env I k= @dt (db P (bq env) (.box e x) I) ⟨fun v σ'=>k (env.put dst v) σ'⟩:=_root_.id rfl
theorem zi(t:TypeId)(ps:Array (Nat×Operand))(dst:Option Tmp)(ty:TypeId)(pos:String)(after:Array Edge)(g:Option (Nat×Bool))(k:Env→af→Prop):dM P ⟨dst,(.build t ps),ty,pos,after,g⟩ env I k= @dt (db P (bq env) (.build t ps) I) ⟨fun v σ'=>k (env.put dst v) σ'⟩:=_root_.id rfl
theorem qu(t:TypeId)(n:Nat)(ps:Array (Nat×Operand))(dst:Option Tmp)(ty:TypeId)(pos:String)(after:Array Edge)(g:Option (Nat×Bool))(k:Env→af→Prop):dM P ⟨dst,(.buildSlice t n ps),ty,pos,after,g⟩ env I k= @dt (db P (bq env) (.buildSlice t n ps) I) ⟨fun v σ'=>k (env.put dst v) σ'⟩:=_root_.id rfl
theorem CB(t:TypeId)(x:Operand)(dst:Option Tmp)(ty:TypeId)(pos:String)(after:Array Edge)(g:Option (Nat×Bool))(k:Env→af→Prop):dM P ⟨dst,(.load t x),ty,pos,after,g⟩ env I k= @dt (db P (bq env) (.load t x) I) ⟨fun v σ'=>k (env.put dst v) σ'⟩:=_root_.id rfl
theorem zl(t:TypeId)(x y:Operand)(dst:Option Tmp)(ty:TypeId)(pos:String)(after:Array Edge)(g:Option (Nat×Bool))(k:Env→af→Prop):dM P ⟨dst,(.store t x y),ty,pos,after,g⟩ env I k= @dt (db P (bq env) (.store t x y) I) ⟨fun v σ'=>k (env.put dst v) σ'⟩:=_root_.id rfl
theorem sM(x:Operand)(dst:Option Tmp)(ty:TypeId)(pos:String)(after:Array Edge)(g:Option (Nat×Bool))(k:Env→af→Prop):dM P ⟨dst,(.nilCheck x),ty,pos,after,g⟩ env I k= @dt (db P (bq env) (.nilCheck x) I) ⟨fun v σ'=>k (env.put dst v) σ'⟩:=_root_.id rfl
theorem zh(op:BinOp)(t:TypeId)(x y:Operand)(u:TypeId)(dst:Option Tmp)(ty:TypeId)(pos:String)(after:Array Edge)(g:Option (Nat×Bool))(k:Env→af→Prop):dM P ⟨dst,(.binOp op t x y u),ty,pos,after,g⟩ env I k= @dt (db P (bq env) (.binOp op t x y u) I) ⟨fun v σ'=>k (env.put dst v) σ'⟩:=_root_.id rfl
theorem CE(op:UnOp)(t:TypeId)(x:Operand)(dst:Option Tmp)(ty:TypeId)(pos:String)(after:Array Edge)(g:Option (Nat×Bool))(k:Env→af→Prop):dM P ⟨dst,(.unOp op t x),ty,pos,after,g⟩ env I k= @dt (db P (bq env) (.unOp op t x) I) ⟨fun v σ'=>k (env.put dst v) σ'⟩:=_root_.id rfl
theorem uO(s d:TypeId)(x:Operand)(dst:Option Tmp)(ty:TypeId)(pos:String)(after:Array Edge)(g:Option (Nat×Bool))(k:Env→af→Prop):dM P ⟨dst,(.convert s d x),ty,pos,after,g⟩ env I k= @dt (db P (bq env) (.convert s d x) I) ⟨fun v σ'=>k (env.put dst v) σ'⟩:=_root_.id rfl
theorem sL(f:Fn)(a b:Array Operand)(dst:Option Tmp)(ty:TypeId)(pos:String)(after:Array Edge)(g:Option (Nat×Bool))(k:Env→af→Prop):dM P ⟨dst,(.makeFunc f a b),ty,pos,after,g⟩ env I k= @dt (db P (bq env) (.makeFunc f a b) I) ⟨fun v σ'=>k (env.put dst v) σ'⟩:=_root_.id rfl
theorem rO(t:TypeId)(x y:Operand)(dst:Option Tmp)(ty:TypeId)(pos:String)(after:Array Edge)(g:Option (Nat×Bool))(k:Env→af→Prop):dM P ⟨dst,(.makeSlice t x y),ty,pos,after,g⟩ env I k= @dt (db P (bq env) (.makeSlice t x y) I) ⟨fun v σ'=>k (env.put dst v) σ'⟩:=_root_.id rfl
theorem zk(t:TypeId)(x:Operand)(a b c:Option Operand)(dst:Option Tmp)(ty:TypeId)(pos:String)(after:Array Edge)(g:Option (Nat×Bool))(k:Env→af→Prop):dM P ⟨dst,(.slice t x a b c),ty,pos,after,g⟩ env I k= @dt (db P (bq env) (.slice t x a b c) I) ⟨fun v σ'=>k (env.put dst v) σ'⟩:=_root_.id rfl
theorem rM(t:TypeId)(x:Operand)(f:Nat)(dst:Option Tmp)(ty:TypeId)(pos:String)(after:Array Edge)(g:Option (Nat×Bool))(k:Env→af→Prop):dM P ⟨dst,(.fieldAddr t x f),ty,pos,after,g⟩ env I k= @dt (db P (bq env) (.fieldAddr t x f) I) ⟨fun v σ'=>k (env.put dst v) σ'⟩:=_root_.id rfl
theorem rN(t:TypeId)(x y:Operand)(dst:Option Tmp)(ty:TypeId)(pos:String)(after:Array Edge)(g:Option (Nat×Bool))(k:Env→af→Prop):dM P ⟨dst,(.indexAddr t x y),ty,pos,after,g⟩ env I k= @dt (db P (bq env) (.indexAddr t x y) I) ⟨fun v σ'=>k (env.put dst v) σ'⟩:=_root_.id rfl
theorem zj(t:TypeId)(x y:Operand)(dst:Option Tmp)(ty:TypeId)(pos:String)(after:Array Edge)(g:Option (Nat×Bool))(k:Env→af→Prop):dM P ⟨dst,(.index t x y),ty,pos,after,g⟩ env I k= @dt (db P (bq env) (.index t x y) I) ⟨fun v σ'=>k (env.put dst v) σ'⟩:=_root_.id rfl
theorem uP(x:Operand)(i:Nat)(dst:Option Tmp)(ty:TypeId)(pos:String)(after:Array Edge)(g:Option (Nat×Bool))(k:Env→af→Prop):dM P ⟨dst,(.extract x i),ty,pos,after,g⟩ env I k= @dt (db P (bq env) (.extract x i) I) ⟨fun v σ'=>k (env.put dst v) σ'⟩:=_root_.id rfl
theorem uN(b:Builtin)(as:Array Operand)(ts:Array TypeId)(dst:Option Tmp)(ty:TypeId)(pos:String)(after:Array Edge)(g:Option (Nat×Bool))(k:Env→af→Prop):dM P ⟨dst,(.call ⟨.builtin b,as,ts⟩),ty,pos,after,g⟩ env I k= @dt (db P (bq env) (.call ⟨.builtin b,as,ts⟩) I) ⟨fun v σ'=>k (env.put dst v) σ'⟩:=_root_.id rfl
theorem fa(d:Tmp)(v:U)(t:Tmp):Env.put env (some d) v t=if t=d then v else env t:=_root_.id rfl
theorem KI(v:U):Env.put env none v=env:=_root_.id rfl
theorem Fu(t:Tmp):bq env (.tmp t)=env t:=_root_.id rfl
theorem yK(v:Value):bq env (.const v)=ofValue v:=_root_.id rfl
theorem Cd(f:FuncId):bq env (.func f)= .fn f [] []:=_root_.id rfl
theorem x9(b:Bool):ofValue (.bool b)= .bool b:=_root_.id rfl
theorem Au(k:IntKind)(n:Int):ofValue (.int k n)= .int k n:=_root_.id rfl
theorem Aw(s:ByteArray):ofValue (.string s)= .str s:=_root_.id rfl
theorem Av:ofValue (.slice none 0 0)= .al:=_root_.id rfl
theorem x_:ofValue (.pointer none)= .oS:=_root_.id rfl
theorem H_(op:BinOp)(t:TypeId)(k:IntKind)(a b:Int)(h:(op== .shl||op== .shr)=false):eB P op t (.int k a) (.int k b)=lJ op k a b:=by
 simp only[eB]
 rw[if_neg]
 ·simp
 ·intro hc
  rcases hc with rfl|rfl<;>simp at h
theorem yL(ops:Array Oper)(dst:Option Tmp)(op:Op)(ty:TypeId)(pos:String)(after:Array Edge)(i:Nat)(want:Bool):
 c_ ops env ⟨dst,op,ty,pos,after,some (i,want)⟩=tc ((ops[i]?).bind (·.dst)) want env:=_root_.id rfl
theorem Ij(ops:Array Oper)(B:List Nat)(HO:List (Nat×Nat))(k:Env→af→Prop):
 @k_ P ops ⟨B,HO,[]⟩ env I ⟨k⟩=cj P ops 0 [] 0 ops.toList env I [] fun ce σ' tr=>lS ops.size tr HO∧k ce σ':=by
 unfold k_
 simp only[if_true]
 have key:∀(os:List Oper) (j b b':Nat) (env:Env) (I:af) (tr:List dx) (K:Env→af→List dx→Prop),cj P ops b [] j os env I tr K=cj P ops b' [] j os env I tr K:=by
  intro os
  induction os with
  |nil=>intros;rfl
  |cons o os ih=>
   intro j b b' env I tr K
   simp only[cj,cg,List.findIdx?_nil,Option.map_none,jo]
   congr 1
   ·congr 1;congr 1;funext ce σ';exact ih _ _ _ _ _ _ _
   ·congr 1;exact ih _ _ _ _ _ _ _
 exact key _ _ _ _ _ _ _ _
theorem Cq(ops:Array Oper)(b:Nat):∀(os:List Oper) (j:Nat) (env:Env) (I:af) (tr:List dx) (k:Env→af→Prop),
 cj P ops b [] j os env I tr (fun ce σ' _=>k ce σ')=dL P ops os env I k:=by
 intro os
 induction os with
 |nil=>intros;rfl
 |cons o os ih=>
  intro j env I tr k
  have e1:(jo P o (cg b [] j) env I fun ce σ'=>cj P ops b [] (j+1) os ce σ' (⟨xm (cg b [] j) (de env o),I,σ'⟩::tr) fun ce σ' _=>k ce σ')=dM P o env I fun ce σ'=>dL P ops os ce σ' k:=by
   rw[show cg b [] j=none by simp[cg]]
   simp only[jo]
   congr 1;funext ce σ';exact ih _ _ _ _ _
  simp only[cj,dL]
  rw[e1,ih]
theorem Cb(ops:Array Oper)(B:List Nat)(k:Env→af→Prop):
 @k_ P ops ⟨B,[],[]⟩ env I ⟨k⟩=dL P ops ops.toList env I k:=by
 unfold k_
 simp only[if_true,lS,true_and]
 exact Cq ops I.n _ _ _ _ _ _
theorem FD(ops:Array Oper)(b:Nat)(res:List Nat)(j:Nat)(tr:List dx)(k:Env→af→List dx→Prop):cj P ops b res j [] env I tr k=k env I tr:=_root_.id rfl
theorem zb(ops:Array Oper)(j:Nat)(dst:Option Tmp)(op:Op)(ty:TypeId)(pos:String)(after:Array Edge)(os:List Oper)(tr:List dx)(k:Env→af→List dx→Prop):
 cj P ops 0 [] j (⟨dst,op,ty,pos,after,none⟩::os) env I tr k↔
  dM P ⟨dst,op,ty,pos,after,none⟩ env I fun ce σ'=>cj P ops 0 [] (j+1) os ce σ' (⟨de env ⟨dst,op,ty,pos,after,none⟩,I,σ'⟩::tr) k:=by
 simp[cj,c_,cN,cg,jo,xm]
theorem y_(ops:Array Oper)(j:Nat)(dst:Option Tmp)(op:Op)(ty:TypeId)(pos:String)(after:Array Edge)(i:Nat)(want:Bool)(os:List Oper)(tr:List dx)(k:Env→af→List dx→Prop):
 cj P ops 0 [] j (⟨dst,op,ty,pos,after,some (i,want)⟩::os) env I tr k=
  @cN (tc ((ops[i]?).bind (·.dst)) want env)
   ⟨dM P ⟨dst,op,ty,pos,after,some (i,want)⟩ env I fun ce σ'=>cj P ops 0 [] (j+1) os ce σ' (⟨de env ⟨dst,op,ty,pos,after,some (i,want)⟩,I,σ'⟩::tr) k⟩
   ⟨cj P ops 0 [] (j+1) os (env.put dst (.cw [])) I (⟨none,I,I⟩::tr) k⟩:=by
 rw[←yL ops dst op ty pos after i want]
 rfl
def qZ(at_:Option Nat)(pre post:af):Prop:=
 match at_ with
 |some b=>pre.get b=post.get b
 |none=>True
theorem CO(n:Nat)(tr:List dx):lS n tr []↔True:=Iff.rfl
theorem zt(n:Nat)(tr:List dx)(p:Nat×Nat)(ps:List (Nat×Nat)):lS n tr (p::ps)↔nF n tr p∧lS n tr ps:=Iff.rfl
def PD(x y:Option dx):Prop:=
 match x,y with
 |some x,some y=>qZ x.at_ y.pre y.post
 |_,_=>False
theorem CR(n:Nat)(tr:List dx)(i j:Nat):nF n tr (i,j)=PD tr[n-1-i]? tr[n-1-j]? :=by
 unfold nF PD qZ
 rfl
theorem FS(a b:Option Nat)(p q r s:af):PD (some ⟨a,p,q⟩) (some ⟨b,r,s⟩)=qZ a r s:=_root_.id rfl
theorem CQ(b:Nat)(p q:af):qZ (some b) p q↔p.get b=q.get b:=Iff.rfl
theorem CP(p q:af):qZ none p q↔True:=Iff.rfl
def E4(v:U):Option Nat:=match v with| .ptr i _=>some i|_=>none
theorem yu(dst:Option Tmp)(t:TypeId)(a:Operand)(ty:TypeId)(pos:String)(after:Array Edge)(g:Option (Nat×Bool)):de env ⟨dst,.load t a,ty,pos,after,g⟩=E4 (bq env a):=_root_.id rfl
theorem yv(dst:Option Tmp)(x:Operand)(ty:TypeId)(pos:String)(after:Array Edge)(g:Option (Nat×Bool)):de env ⟨dst,.move x,ty,pos,after,g⟩=none:=_root_.id rfl
theorem ue(dst:Option Tmp)(x:Operand)(ty:TypeId)(pos:String)(after:Array Edge)(g:Option (Nat×Bool)):de env ⟨dst,.assign x,ty,pos,after,g⟩=none:=_root_.id rfl
theorem yw(dst:Option Tmp)(a b c:Operand)(ty:TypeId)(pos:String)(after:Array Edge)(g:Option (Nat×Bool)):de env ⟨dst,.pick a b c,ty,pos,after,g⟩=none:=_root_.id rfl
theorem u6(dst:Option Tmp)(e:TypeId)(ty:TypeId)(pos:String)(after:Array Edge)(g:Option (Nat×Bool)):de env ⟨dst,.alloc e,ty,pos,after,g⟩=none:=_root_.id rfl
theorem A7(dst:Option Tmp)(e:TypeId)(x:Operand)(ty:TypeId)(pos:String)(after:Array Edge)(g:Option (Nat×Bool)):de env ⟨dst,.box e x,ty,pos,after,g⟩=none:=_root_.id rfl
theorem u9(dst:Option Tmp)(t:TypeId)(ps:Array (Nat×Operand))(ty:TypeId)(pos:String)(after:Array Edge)(g:Option (Nat×Bool)):de env ⟨dst,.build t ps,ty,pos,after,g⟩=none:=_root_.id rfl
theorem o7(dst:Option Tmp)(t:TypeId)(n:Nat)(ps:Array (Nat×Operand))(ty:TypeId)(pos:String)(after:Array Edge)(g:Option (Nat×Bool)):de env ⟨dst,.buildSlice t n ps,ty,pos,after,g⟩=none:=_root_.id rfl
theorem va(dst:Option Tmp)(t:TypeId)(x y:Operand)(ty:TypeId)(pos:String)(after:Array Edge)(g:Option (Nat×Bool)):de env ⟨dst,.store t x y,ty,pos,after,g⟩=none:=_root_.id rfl
theorem qS(dst:Option Tmp)(x:Operand)(ty:TypeId)(pos:String)(after:Array Edge)(g:Option (Nat×Bool)):de env ⟨dst,.nilCheck x,ty,pos,after,g⟩=none:=_root_.id rfl
theorem u7(dst:Option Tmp)(op:BinOp)(t:TypeId)(x y:Operand)(u:TypeId)(ty:TypeId)(pos:String)(after:Array Edge)(g:Option (Nat×Bool)):de env ⟨dst,.binOp op t x y u,ty,pos,after,g⟩=none:=_root_.id rfl
theorem yx(dst:Option Tmp)(op:UnOp)(t:TypeId)(x:Operand)(ty:TypeId)(pos:String)(after:Array Edge)(g:Option (Nat×Bool)):de env ⟨dst,.unOp op t x,ty,pos,after,g⟩=none:=_root_.id rfl
theorem r_(dst:Option Tmp)(s d:TypeId)(x:Operand)(ty:TypeId)(pos:String)(after:Array Edge)(g:Option (Nat×Bool)):de env ⟨dst,.convert s d x,ty,pos,after,g⟩=none:=_root_.id rfl
theorem p9(dst:Option Tmp)(t:TypeId)(x y:Operand)(ty:TypeId)(pos:String)(after:Array Edge)(g:Option (Nat×Bool)):de env ⟨dst,.makeSlice t x y,ty,pos,after,g⟩=none:=_root_.id rfl
theorem pY(dst:Option Tmp)(t:TypeId)(x:Operand)(f:Nat)(ty:TypeId)(pos:String)(after:Array Edge)(g:Option (Nat×Bool)):de env ⟨dst,.fieldAddr t x f,ty,pos,after,g⟩=none:=_root_.id rfl
theorem pZ(dst:Option Tmp)(t:TypeId)(x y:Operand)(ty:TypeId)(pos:String)(after:Array Edge)(g:Option (Nat×Bool)):de env ⟨dst,.indexAddr t x y,ty,pos,after,g⟩=none:=_root_.id rfl
theorem u_(dst:Option Tmp)(t:TypeId)(x y:Operand)(ty:TypeId)(pos:String)(after:Array Edge)(g:Option (Nat×Bool)):de env ⟨dst,.index t x y,ty,pos,after,g⟩=none:=_root_.id rfl
theorem sa(dst:Option Tmp)(x:Operand)(i:Nat)(ty:TypeId)(pos:String)(after:Array Edge)(g:Option (Nat×Bool)):de env ⟨dst,.extract x i,ty,pos,after,g⟩=none:=_root_.id rfl
theorem yr(dst:Option Tmp)(c:Call)(ty:TypeId)(pos:String)(after:Array Edge)(g:Option (Nat×Bool)):de env ⟨dst,.call c,ty,pos,after,g⟩=none:=_root_.id rfl
theorem GN(i k:Nat):E4 (.ptr i k)=some i:=_root_.id rfl
theorem xA(B:cT):(I.push B).get I.n=some B:=by simp[af.cu]
theorem bo{I:af}(i:Nat)(B:cT):(I.set i B).get i=some B:=by simp[af.cX]
theorem jI(B C:cT):(I.push B).set I.n C=I.push C:=by
 unfold af.push af.set
 congr 1
 funext j
 dsimp only
 split<;>rfl
theorem set_set(i:Nat)(B C:cT):(I.set i B).set i C=I.set i C:=by
 unfold af.set
 congr 1
 funext j
 dsimp only
 split<;>rfl
def Ik(B:Option cT)(g:Option (Bool×Nat))(k:Nat):Option U:=
 match B,g with
 |some B,some (true,n)=>if k+n≤B.cells.length then some (.agg ((B.cells.drop k).take n))else none
 |some B,some (false,_)=>B.cells[k]?
 |_,_=>none
theorem Fv(t:TypeId)(i k:Nat):ja P t (.ptr i k) I=Ik (I.get i) (fq P t) k:=_root_.id rfl
attribute [go_sem low] Fv
attribute [go_sem high] Cb
attribute [go_sem ↓] yv ue yw u6 A7 u9 o7 va qS u7 yx r_ p9 pY pZ u_ sa yr
attribute [go_sem] Ik
attribute [go_sem ↓] Lv D3 Ls Oi Lr G4 Lu Lt Oh xn FK CF uQ rH qo xa uG xi uM FE
 B_ yJ Io Ct Cr CA FD zb y_
attribute [go_sem ↓] CC xl CD zg FH zi qu CB zl sM zh CE uO sL rO zk rM rN zj uP uN
attribute [go_sem] db CG CH fa KI zM C2 C3 yN w_ Fu yK Cd x9 Au Aw Av x_ lJ mQ
 List.toList_toArray List.map_cons List.map_nil Option.map_some Option.bind_some List.getElem?_toArray List.getElem?_cons_zero List.getElem?_cons_succ Iv nV H_ Ij CO zt CR FS CQ CP yu GN af.kU af.rx af.jr af.cu af.cX af.jW jI set_set U.cells
end
theorem dA{p:Prop}(h:p:=by((first|assumption|exact kO _ _ _ _|exact jV|(intro _;assumption)|(intro aY;simp only[Bool.and_eq_true,Bool.or_eq_true,mc,Bool.or_eq_false_iff,Bool.and_eq_false_iff,Bool.not_eq_true',Bool.not_eq_false',decide_eq_true_eq,decide_eq_false_iff_not]at aY;omega)|(simp only[af.kU,af.rx,af.jr,List.length_cons,List.length_nil,List.length_map,List.length_set];omega)|omega|exact rfl|(simp only[au,az,aR];done)|(simp only[au,az,aR,dw];done)|(simp only[au,az,aR,dw];omega)|(simp only[List.all_cons,List.all_nil,U.one,Bool.and_true,Bool.and_self];done)|(simp only[List.map_cons,List.map_nil,nU,List.length_cons,List.length_nil,Nat.reduceAdd];done)|((try intro _);repeat(first|assumption|refine aU _ (by first|rfl|(simp only[af.kU,af.rx,af.jr];done)|(simp only[au,az,aR,dw];done))|exact bo _ _|refine(ak (by first|omega|(simp only[af.kU,af.rx,af.jr];omega))).trans ?_|refine(ai J).trans ?_|refine kZ.push ?_|(refine kZ.set ?_ J)|apply bu.push|apply fb.push|apply Rd.push|apply Rd.gl|apply bu.set|apply Rd.set|apply bu.kill|apply Rd.kill|apply bu.res|apply uy.push|omega)))<;>fail)):p:=h
theorem FV{p:Prop}(h:p:=by((first|assumption|exact kO _ _ _ _|exact jV|(intro _;assumption)|(intro aY;simp only[Bool.and_eq_true,Bool.or_eq_true,mc,Bool.or_eq_false_iff,Bool.and_eq_false_iff,Bool.not_eq_true',Bool.not_eq_false',decide_eq_true_eq,decide_eq_false_iff_not]at aY;omega)|(simp only[af.kU,af.rx,af.jr,List.length_cons,List.length_nil,List.length_map,List.length_set];omega)|omega|exact rfl|(simp only[au,az,aR];done)|(simp only[au,az,aR,dw];done)|(simp only[au,az,aR,dw];omega)|(simp only[List.all_cons,List.all_nil,U.one,Bool.and_true,Bool.and_self];done)|(simp only[List.map_cons,List.map_nil,nU,List.length_cons,List.length_nil,Nat.reduceAdd];done)|((try intro _);repeat(first|assumption|refine aU _ (by first|rfl|(simp only[af.kU,af.rx,af.jr];done)|(simp only[au,az,aR,dw];done))|exact bo _ _|refine(ak (by first|omega|(simp only[af.kU,af.rx,af.jr];omega))).trans ?_|refine(ai J).trans ?_|refine kZ.push ?_|(refine kZ.set ?_ J)|apply bu.push|apply fb.push|apply Rd.push|apply Rd.gl|apply bu.set|apply Rd.set|apply bu.kill|apply Rd.kill|apply bu.res|apply uy.push|exact bu.ne bZ J|omega)))<;>fail)):p:=h
theorem dB{p:Prop}(h:p:=by((first|assumption|exact NE.ne bZ|exact NE.sym bZ|exact kO _ _ _ _|exact jV|(intro _;assumption)|(intro aY;simp only[Bool.and_eq_true,Bool.or_eq_true,mc,Bool.or_eq_false_iff,Bool.and_eq_false_iff,Bool.not_eq_true',Bool.not_eq_false',decide_eq_true_eq,decide_eq_false_iff_not]at aY;omega)|(simp only[af.kU,af.rx,af.jr,List.length_cons,List.length_nil,List.length_map,List.length_set];omega)|omega|exact rfl|(simp only[au,az,aR];done)|(simp only[au,az,aR,dw];done)|(simp only[au,az,aR,dw];omega)|(simp only[List.all_cons,List.all_nil,U.one,Bool.and_true,Bool.and_self];done)|(simp only[List.map_cons,List.map_nil,nU,List.length_cons,List.length_nil,Nat.reduceAdd];done)|((try intro _);repeat(first|assumption|(refine aU _ ?_;first|rfl|(simp only[au,az,aR,dw];done))|exact bo _ _|(refine(ak ?_).trans ?_;first|omega|(simp only[au,az,aR,dw];omega))|(refine(ai ?_).trans ?_;first|exact NE.ne bZ|exact NE.sym bZ|omega)|(refine(bg ?_).trans ?_;first|exact NE.ne bZ|exact NE.sym bZ|omega)|(refine(ef ?_).trans ?_;first|omega|(simp only[au,az,aR,dw];omega))|refine kZ.push ?_|(refine kZ.set ?_ J)|apply bu.push|apply fb.push|apply Rd.push|apply Rd.gl|apply bu.set|apply Rd.set|apply bu.kill|apply Rd.kill|apply bu.res|apply uy.push|exact NE.or bZ|exact NE.or' bZ|exact bu.ne bZ J|omega)))<;>fail)):p:=h
theorem bn{p:Prop}(h:p:=by((((try simp(disch:=first|exact NE.ne bZ|exact NE.sym bZ|omega|(simp only[au,az,aR,dw];omega)) only[ak,ai,bg,ef]);first|done|assumption|exact bo _ _|(refine aU _ ?_;simp only[au,az,aR,dw];done)|(refine aU _ ?_;simp only[au,az,aR,dw];omega)))<;>fail)):p:=h
theorem cKP{p:Prop}(h:p:=by(((intro j_ xI;simp(disch:=first|exact NE.ne bZ|exact NE.sym bZ|omega|(simp only[au,az,aR,dw];omega)) only[ak,ai,bg,ef]))<;>fail)):p:=h
theorem cKO{p:Prop}(h:p:=by(((intro j_ xI M3;obtain⟨z1,z2,z3,z4,z5,z6,z7,z8⟩:=M3;simp(disch:=first|exact NE.ne bZ|exact NE.sym bZ|omega|(simp only[au,az,aR,dw];omega)) only[ak,ai,bg,ef]))<;>fail)):p:=h
theorem cQ{p:Prop}(h:p:=by((first|exact⟨.al,.al,by simp only[fj,bt,qQ,yn];exact bY.refl _ _,.inr ⟨rfl,rfl⟩,.inr ⟨rfl,rfl⟩⟩|(intro a b aaa aab;exact⟨a,b,bY.refl _ _,aaa,aab⟩)|exact⟨sv,pv,by simp only[fj,bt,qQ,yn];exact bY.refl _ _,.inl ⟨rfl,rfl⟩,.inl ⟨rfl,rfl⟩⟩|exact⟨.al,pv,by simp only[fj,bt,qQ,yn];exact bY.refl _ _,.inr ⟨rfl,rfl⟩,.inl ⟨rfl,rfl⟩⟩)<;>fail)):p:=h
end AH
