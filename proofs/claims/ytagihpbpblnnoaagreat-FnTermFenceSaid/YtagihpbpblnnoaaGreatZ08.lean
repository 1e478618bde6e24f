import Derived.Test.YtagihpbpblnnoaaGreatZ04
import Derived.Test.YtagihpbpblnnoaaGreatZ00
set_option linter.all false
namespace Ho
structure ag where
 up:Bool
 slot:Int
 ao:Int
 busy:Bool
 aE:Int
 aH:Int
 oa:Int
 ob:Int
 pc:Int
 gk:Int
 gn:Int
 seq:Int
 next:Int
 aX:Int
 aK:Int
 own:Bool
 time:Int
 bw:Int
 door:Int
 aT:Int
 entry:Int
 snap:List Int
 ax:List Int
 code:Int
 val:Int
 count:Int
def ag.words(g:ag):Prop:=ci g.bw∧ci g.door∧ci g.aT∧ci g.entry∧(∀w∈g.snap,ci w)∧∀w∈g.ax,ci w
def fR(c:aM)(g:ag):Prop:=
 c.ok∧(g.busy=true↔g.pc≠0)∧(g.busy=true→g.aH=g.slot)∧(0≤g.slot∧g.slot<c.am)∧
 (0≤g.ao∧g.ao≤4095)∧(0≤g.next∧g.next≤4095)∧(0≤g.aK∧g.aK≤4095)∧(0≤g.pc∧g.pc≤26)∧(0≤g.seq∧g.seq≤1000001)∧(0≤g.aX∧g.aX≤7)∧(0≤g.gn∧g.gn≤20)∧
 (0≤g.gk∧g.gk≤c.im)∧(0≤g.time∧g.time≤1048575)∧(g.snap.length:Int)≤c.im∧(g.ax.length:Int)≤20∧
 (g.pc=11→(g.snap.length:Int)=g.gk∧g.gk≠c.im)∧
 (g.pc=12→(g.snap.length:Int)=c.im∧0≤g.oa∧g.oa<c.am)∧
 (g.pc=13∨g.pc=14→g.gk≤g.ax.length)∧
 (g.pc=22∨g.pc=23∨g.pc=24→(1≤g.gk∧g.gk≤g.gn)∧(g.own=true→g.gn=g.ax.length)∧0≤g.aX∧g.aX<c.am)∧
 (16≤g.pc∧g.pc≤21→0≤g.aX∧g.aX<c.am)∧
 (g.own=true→g.pc=23∨g.pc=24∨g.pc=25)
noncomputable instance(c:aM)(g:ag):Decidable (fR c g):=Classical.propDecidable _
def ag.zero:ag:=⟨false,0,0,false,0,0,0,0,0,0,0,0,0,0,0,false,0,0,0,0,0,[],[],0,0,0⟩
def ag.complete(g:ag)(code val:Int):ag:=
 {ag.zero with up:=g.up,slot:=g.slot,ao:=if g.aE=5∧code=0 then 0 else g.ao,aE:=g.aE,aH:=g.aH,oa:=g.oa,ob:=g.ob,code:=code,val:=val,count:=g.count+1}
structure Out where
 ws:List Int
 g:ag
 ev:Int
 x8:Bool
 xZ:Bool
def put(ws:List Int)(a x:Int):List Int:=ws.set a.toNat x
abbrev fin(ws:List Int)(g:ag)(code val ev:Int):Out:=⟨ws,g.complete code val,ev,true,true⟩
abbrev stay(ws:List Int)(g:ag)(ev:Int):Out:=⟨ws,g,ev,false,false⟩
def clockOf(ws:List Int):Int:=aG (at_ ws 1)
def cx(c:aM)(ws:List Int)(g:ag):Out:=
 if g.pc=1 then
  let bw:=at_ ws (3+c.am+g.slot)
  if g.ao<aL bw then fin ws {g with bw:=bw} 11 0 0
  else stay ws {g with bw:=bw,pc:=2} 0
 else if g.pc=2 then stay ws {g with time:=min (clockOf ws) 1048575,pc:=3} 0
 else if g.pc=3 then
  let now:=pack g.time g.ao
  if g.bw=now then stay ws {g with pc:=9} 0
  else if at_ ws (3+c.am+g.slot)=g.bw then stay (put ws (3+c.am+g.slot) now) {g with pc:=9} 0
  else stay ws {g with pc:=1} 0
 else if g.pc=4 then
  let e:=at_ ws (3+g.slot)
  if aG e % 4≠0 then fin ws {g with entry:=e} 6 0 0
  else if 4095≤aG e/4 then fin ws {g with entry:=e} 12 0 0
  else stay ws {g with entry:=e,next:=aG e/4+1,pc:=5} 0
 else if g.pc=5 then stay ws {g with bw:=at_ ws (3+c.am+g.slot),pc:=6} 0
 else if g.pc=6 then stay ws {g with time:=min (clockOf ws) 1048575,pc:=7} 0
 else if g.pc=7 then
  if g.next≤aL g.bw then stay ws {g with pc:=8} 0
  else if at_ ws (3+c.am+g.slot)=g.bw then stay (put ws (3+c.am+g.slot) (pack g.time g.next)) {g with pc:=8} 0
  else stay ws {g with pc:=5} 0
 else
  if at_ ws (3+g.slot)=g.entry then fin (put ws (3+g.slot) (lT 1 g.next (aL g.entry))) {g with ao:=g.next} 0 g.next 4
  else stay ws {g with pc:=4} 0
def ag.continues(g:ag):ag:=
 if g.gn<g.gk then {g with gk:=0,pc:=25}
 else if g.own=true then {g with entry:=at_ g.ax (g.gk-1),pc:=23}
 else {g with pc:=22}
def bx(c:aM)(slot:Int):Int:=7+2*c.am+17*c.ah+21*slot
def watch(c:aM)(ws:List Int)(g:ag):Out:=
 if g.pc=16 then
  let w:=at_ ws (3+g.aX)
  stay ws {g with bw:=w,pc:=if aG w % 4=1∧aG w/4=g.aK then 17 else 20} 0
 else if g.pc=17 then stay ws {g with aT:=at_ ws (3+c.am+g.aX),pc:=18} 0
 else if g.pc=18 then stay ws {g with pc:=if lK g.aT g.aK (clockOf ws) c.bH=true then 9 else 19} 0
 else if g.pc=19 then
  if at_ ws (3+g.aX)=g.bw then stay (put ws (3+g.aX) (lT 2 g.aK (aL g.bw))) {g with pc:=9} 2
  else stay ws {g with pc:=9} 0
 else if g.pc=20 then
  if at_ ws 2=cK 1 g.aX g.aK g.seq then stay (put ws 2 (cK 0 0 0 (g.seq+1))) {g with pc:=9} 3
  else stay ws {g with pc:=9} 0
 else
  let f:=at_ ws (bx c g.aX)
  if aL f=g.seq∧aG f≤20 then stay ws ({g with gn:=aG f,gk:=1,pc:=9}:ag).continues 0
  else stay ws {g with pc:=9} 0
def eQ(c:aM)(ws:List Int)(g:ag):Out:=
 let d:=at_ ws 2
 let g1:={g with door:=d,seq:=aL d,aX:=aG d/4 % 8,aK:=min (aG d/32) 4095}
 let state:=aG d % 4
 if 1000000<aL d∨2<state∨(state≠0∧¬(0≤aG d/4 % 8∧aG d/4 % 8<c.am))then fin ws g1 12 0 0
 else if state=0∧aL d=1000000 then fin ws g1 12 0 0
 else if state=0 then stay ws {g1 with pc:=10} 0
 else if state=1 then stay ws {g1 with pc:=16} 0
 else stay ws {g1 with pc:=21} 0
def write(c:aM)(ws:List Int)(g:ag):Out:=
 if g.pc=13 then
  let w:=at_ ws (bx c g.slot+g.gk)
  if g.seq<aL w then fin ws {g with bw:=w} 11 0 0
  else stay ws {g with bw:=w,pc:=14} 0
 else if g.pc=14 then
  let want:=if 0<g.gk then at_ g.ax (g.gk-1)else pack g.ax.length g.seq
  let on:ag:=if g.ax.length<g.gk+1 then {g with gk:=0,pc:=15}else {g with gk:=g.gk+1,pc:=13}
  if g.bw=want then stay ws on 0
  else if at_ ws (bx c g.slot+g.gk)=g.bw then stay (put ws (bx c g.slot+g.gk) want) on 0
  else stay ws {g with pc:=13} 0
 else if g.pc=15 then
  if at_ ws 2=cK 1 g.slot g.ao g.seq then
   stay (put ws 2 (cK 2 g.slot g.ao g.seq)) ({g with own:=true,door:=cK 2 g.slot g.ao g.seq,gn:=g.ax.length,gk:=1}:ag).continues 1
  else fin ws g 11 0 0
 else if g.pc=22 then
  let e:=at_ ws (bx c g.aX+g.gk)
  stay ws {g with entry:=e,pc:=if aL e=g.seq then 23 else 9} 0
 else if g.pc=23 then
  let a:=aG g.entry/1048576
  let w:=at_ ws a
  if g.seq≤aL w then stay ws ({g with bw:=w,pc:=24,gk:=g.gk+1}:ag).continues 0
  else stay ws {g with bw:=w,pc:=24} 0
 else if g.pc=24 then
  let a:=aG g.entry/1048576
  if a<ws.length∧at_ ws a=g.bw then stay (put ws a (pack (aG g.entry % 1048576) g.seq)) ({g with pc:=23,gk:=g.gk+1}:ag).continues 0
  else stay ws {g with pc:=23} 0
 else if g.pc=25 then
  let ws':=if at_ ws 2=g.door then put ws 2 (cK 0 0 0 (g.seq+1))else ws
  if g.own=true then fin ws' g g.code g.val 0 else stay ws' {g with pc:=9} 0
 else
  let ws':=if at_ ws 2=cK 1 g.slot g.ao g.seq then put ws 2 (cK 0 0 0 (g.seq+1))else ws
  fin ws' g g.code 0 0
end Ho
namespace Ho
noncomputable section
structure Bk where
 am:Int
 ah:List Int
 aj:Nat→List Int
 owner:List Int
 cy:List Int
 ao:List Int
def Bk.zero:Bk:=⟨0,[],fun _=>[],[],[],[]⟩
def cE(h:Nat→List Int)(k:Nat)(l:List Int):Nat→List Int:=fun j=>if j=k then l else h j
def sz(k:Int):Int:=at_ [1,2,4,8] k
def ch(s:Int):Int:=if s<1∨4<s then-1 else s-1
def gg(b:Bk):Prop:=
 (1≤b.am∧b.am≤4∧(b.cy.length:Int)=b.am∧(b.ao.length:Int)=b.am∧1≤b.ah.length∧b.ah.length≤6∧b.owner.length=b.ah.length*8)∧
 (∀i:Int,0≤i→i<b.am→0≤at_ b.cy i∧at_ b.cy i≤2∧0≤at_ b.ao i∧at_ b.ao i≤4095∧¬(at_ b.ao i=0∧0<at_ b.cy i))∧
 (∀u:Int,0≤u→u<b.owner.length→0≤at_ b.owner u∧at_ b.owner u≤b.am∧¬(0<at_ b.owner u∧at_ b.cy (at_ b.owner u-1)=0))
def dz(b:Bk)(page start:Int):Prop:=∀u:Int,start≤u→u<8→¬0<at_ b.owner (page*8+u)
def iz(b:Bk)(page kind u:Int):Prop:=
 if 0<u % sz kind then ¬(0<at_ b.owner (page*8+u)∨0<(b.aj kind.toNat).count (page*8+u))
 else ¬((0<at_ b.owner (page*8+u)↔0<(b.aj kind.toNat).count (page*8+u))∨1<(b.aj kind.toNat).count (page*8+u))
def iA(b:Bk)(page kind:Int):Prop:=
 (∀u:Int,0≤u→u<8→iz b page kind u)∧∃u:Int,0≤u∧u<8∧u % sz kind=0∧0<at_ b.owner (page*8+u)
def Ln(b:Bk)(page:Int):Prop:=
 (2≤at_ b.ah page-8∧at_ b.ah page-8≤4∧page+(at_ b.ah page-8)≤b.ah.length∧at_ b.owner (page*8)≠0∧dz b page 1)∧
 ∀i:Int,1≤i→i<at_ b.ah page-8→at_ b.ah (page+i)=7
def back(ah:List Int):Nat→Nat
 |0=>0
 |p+1=>if at_ ah ((p+1:Nat):Int)=7 then back ah p else p+1
def wk(b:Bk)(page:Int):Prop:=
 8<at_ b.ah (back b.ah page.toNat)∧page<(back b.ah page.toNat:Int)+at_ b.ah (back b.ah page.toNat)-8∧dz b page 0
def ic(b:Bk)(page:Int):Prop:=
 if at_ b.ah page=0 then dz b page 0
 else if 0≤ch (at_ b.ah page)then iA b page (ch (at_ b.ah page))
 else if at_ b.ah page=7 then wk b page
 else Ln b page
def ES(b:Bk)(k:Nat):Prop:=(b.aj k).length≤b.owner.length∧
 ∀i:Int,0≤i→i<(b.aj k).length→0≤at_ (b.aj k) i∧at_ (b.aj k) i<b.owner.length∧ch (at_ b.ah (at_ (b.aj k) i/8))=k∧at_ (b.aj k) i % sz k≤0
def js(b:Bk):Prop:=∀k:Nat,k<4→ES b k
def cm(b:Bk):Prop:=gg b∧js b∧∀p:Int,0≤p→p<b.ah.length→ic b p
instance(b:Bk):Decidable (gg b):=Classical.propDecidable _
instance(b:Bk):Decidable (js b):=Classical.propDecidable _
instance(b:Bk)(p q:Int):Decidable (iA b p q):=Classical.propDecidable _
instance(b:Bk)(p:Int):Decidable (Ln b p):=Classical.propDecidable _
instance(b:Bk)(p:Int):Decidable (wk b p):=Classical.propDecidable _
instance(b:Bk)(p:Int):Decidable (ic b p):=Classical.propDecidable _
instance(b:Bk):Decidable (cm b):=Classical.propDecidable _
instance(b:Bk)(p q:Int):Decidable (dz b p q):=Classical.propDecidable _
def iQ(ah:List Int)(p n:Int):Prop:=∀i:Int,0≤i→i<n→at_ ah (p+i)=0
instance(l:List Int)(p q:Int):Decidable (iQ l p q):=Classical.propDecidable _
def bB(aW:Int):Int:=
 if aW<1 then-1 else if aW≤1 then 0 else if aW≤2 then 1 else if aW≤4 then 2 else if aW≤8 then 3 else if aW≤32 then 4 else-1
def e_(b:Bk)(mG:Int):Int:=
 if mG<0∨(b.owner.length:Int)≤mG then 0 else if at_ b.owner mG=0 then 0
 else if 0≤ch (at_ b.ah (mG/8))then sz (ch (at_ b.ah (mG/8)))else(at_ b.ah (mG/8)-8)*8
def dk:List Int→Int→Int→Int
 |[],_,_=> -1
 |x::l,v,i=>if x=v then i else dk l v (i+1)
def cB:List Int→Int→Int→List Int
 |[],_,_=>[]
 |x::l,v,i=>if x=v then i::cB l v (i+1)else cB l v (i+1)
def jp(b:Bk)(slot:Int):List Int:=if cm b∧0≤slot then cB b.owner (slot+1) 0 else []
def fv(ah:List Int)(n:Int):Nat→Int→Int
 |0,_=> -1
 |f+1,p=>if ah.length<p+n then-1 else if iQ ah p n then p else fv ah n f (p+1)
def cf(ah:List Int)(n:Int):Int:=fv ah n (ah.length+1) 0
def dj(page kind:Int):List Int:=((List.range (8/(sz kind).toNat)).map fun(j:Nat)=>page*8+(j:Int)*sz kind)
def bC(b:Bk)(page kind:Int):Bk:={b with ah:=put b.ah page (kind+1),aj:=cE b.aj kind.toNat (b.aj kind.toNat++dj page kind)}
def gD(xs:List Int)(a x:Int):Nat→List Int
 |0=>xs
 |n+1=>put (gD xs a x n) (a+n) x
def cI(b:Bk)(slot aW:Int):Bk×Int×Int:=
 let k:=bB aW
 if k<0 then(b,1,0)
 else if k=4 then
  let n:=(aW+7)/8
  let p:=cf b.ah n
  if p<0 then(b,2,0)
  else({b with ah:=gD (put b.ah p (8+n)) (p+1) 7 (n.toNat-1),owner:=put b.owner (p*8) (slot+1)},0,p*8)
 else
  let go (b:Bk):Bk×Int×Int:=({b with aj:=cE b.aj k.toNat (b.aj k.toNat).tail,owner:=put b.owner (at_ (b.aj k.toNat) 0) (slot+1)},0,at_ (b.aj k.toNat) 0)
  if b.aj k.toNat=[]then
   let p:=cf b.ah 1
   if p<0 then(b,2,0)else go (bC b p k)
  else go b
def ej(b:Bk)(mG:Int):Bk:=
 let p:=mG/8
 let s:=at_ b.ah p
 let o:=put b.owner mG 0
 if ch s<0 then {b with owner:=o,ah:=gD b.ah p 0 (s-8).toNat}
 else
  let k:=(ch s).toNat
  let l:=mG::b.aj k
  if dz {b with owner:=o} p 0 then {b with owner:=o,ah:=put b.ah p 0,aj:=cE b.aj k (l.filter fun x=>decide (x/8≠p))}
  else {b with owner:=o,aj:=cE b.aj k l}
def fU(b:Bk)(slot mG:Int):Int:=if e_ b mG=0 then 3 else if at_ b.owner mG≠slot+1 then 4 else 0
def gO(b:Bk)(slot:Int):Int:=dk b.owner (slot+1) 0
def dX(b:Bk)(slot:Int):Bk×Int×Int:=
 if slot<0∨b.am≤slot then(b,9,0)else if at_ b.cy slot=0 then(b,9,0)
 else if at_ b.cy slot=1 then(b,8,0)
 else if gO b slot<0 then({b with cy:=put b.cy slot 0},0,0)
 else(ej b (gO b slot),10,gO b slot)
structure Op where
 kind:Int
 slot:Int
 a:Int
 b:Int
def eH(b:Bk)(op:Op):Bk×Int×Int:=
 if op.kind=2 then cI b op.slot op.a
 else if op.kind=3 then
  if 0<fU b op.slot op.a then(b,fU b op.slot op.a,0)else(ej b op.a,0,0)
 else if op.kind=4 then
  if 0<fU b op.slot op.a then(b,fU b op.slot op.a,0)
  else if op.b<0∨b.am≤op.b then(b,5,0)else if at_ b.cy op.b=0 then(b,5,0)
  else({b with owner:=put b.owner op.a (op.b+1)},0,0)
 else if op.kind=5 then
  if 0≤gO b op.slot then(b,7,0)else({b with cy:=put b.cy op.slot 0},0,0)
 else if op.kind=6 then dX b op.a
 else(b,13,0)
def kV(b:Bk)(op:Op):Bk×Int×Int:=
 if op.slot<0∨b.am≤op.slot then(b,13,0)
 else if op.kind=1 then
  if at_ b.cy op.slot≠0 then(b,6,0)
  else if at_ b.ao op.slot=4095 then(b,12,0)
  else({b with cy:=put b.cy op.slot 1,ao:=put b.ao op.slot (at_ b.ao op.slot+1)},0,at_ b.ao op.slot+1)
 else if at_ b.cy op.slot=0 then(b,9,0)
 else eH b op
def d'(b:Bk)(op:Op):Bk×Int×Int:=if cm b then kV b op else(Bk.zero,13,0)
def aP(c:aM):Int:=7+2*c.am+17*c.ah
def ed(c:aM)(start n mb step:Int):Int:=if c.ok∧0≤n∧n<mb then start+n*step else 0
def bT(c:aM)(n:Int):Int:=ed c 3 n c.am 1
def dn(c:aM)(n:Int):Int:=ed c (3+c.am) n c.am 1
def dv(c:aM)(n:Int):Int:=ed c (3+2*c.am) n 4 1
def iJ(c:aM)(n:Int):Int:=ed c (7+2*c.am) n c.ah 1
def mE(c:aM)(n:Int):Int:=ed c (7+2*c.am+c.ah) n (c.ah*8) 1
def eV(c:aM)(n:Int):Int:=ed c (7+2*c.am+9*c.ah) n (c.ah*8) 1
def du(c:aM)(n:Int):Int:=ed c (aP c) n c.am 21
def bm(ws:List Int)(a:Int):Int:=if a<0∨(ws.length:Int)≤a then 0 else at_ ws a
def upto(n:Nat)(f:Nat→List Int→List Int)(v:List Int):List Int:=(List.range n).foldl (fun v i=>f i v) v
def ew(c:aM):List Int→Int→List Int→List Int
 |[],_,v=>v
 |x::l,a,v=>ew c l (eV c x) (put v a (x+1))
def lay(c:aM)(b:Bk):List Int:=
 let v0:=List.replicate (aP c).toNat 0
 let v1:=upto c.am.toNat (fun i v=>put v (bT c i) (at_ b.cy i+4*at_ b.ao i)) v0
 let v2:=upto c.ah.toNat (fun i v=>put v (iJ c i) (at_ b.ah i)) v1
 let v3:=upto b.owner.length (fun i v=>put v (mE c i) (at_ b.owner i)) v2
 upto 4 (fun k v=>ew c (b.aj k) (dv c k) v) v3
def dP(w:List Int)(a:Int):Int:=aG (bm w a)
def cA(w:List Int)(c:aM):Nat→Int→List Int
 |0,_=>[]
 |f+1,a=>if 0<a∧a≤c.ah*8 then(a-1)::cA w c f (dP w (eV c (a-1)))else []
def tM(w:List Int)(c:aM)(k:Nat):List Int:=cA w c (c.ah*8+1).toNat (dP w (dv c k))
def bP(w:List Int)(c:aM):Bk:=
 ⟨c.am,(List.range c.ah.toNat).map fun(p:Nat)=>dP w (iJ c p),fun k=>if k<4 then tM w c k else [],
  (List.range (c.ah*8).toNat).map fun(u:Nat)=>dP w (mE c u),
  (List.range c.am.toNat).map fun(i:Nat)=>aG (bm w (bT c i)) % 4,(List.range c.am.toNat).map fun(i:Nat)=>aG (bm w (bT c i))/4⟩
def gH(c:aM):Int:=pack (c.am+8*c.ah+64*c.bH) 201115
def whole(w:List Int)(ok:aM→Prop)[∀c,Decidable (ok c)]:aM×Bool:=
 if w=[]then(⟨0,0,0⟩,false)else
  let v:=aG (at_ w 0)
  let c:aM:=⟨v % 8,v/8 % 8,v/64⟩
  if c.ok∧at_ w 0=gH c∧ok c then(c,true)else(⟨0,0,0⟩,false)
def check(w:List Int):aM×Bool:=whole w fun c=>(w.length:Int)=c.size
def dh(w:List Int):aM×Bool:=whole w fun c=>(w.length:Int)=c.size∨(w.length:Int)=aP c
def jU(c:aM)(a:Int):Prop:=dn c 0≤a∧a<dn c 0+c.am
def fits(c:aM)(b:Bk)(w:List Int):Prop:=∀a:Int,bT c 0≤a→a<(lay c b).length→¬jU c a→at_ (lay c b) a=aG (at_ w a)
instance(c:aM)(b:Bk)(w:List Int):Decidable (fits c b w):=Classical.propDecidable _
def bM(w:List Int):Bk×Bool:=
 if(dh w).2=true then
  let c:=(dh w).1
  let b:=bP w c
  if cm b∧fits c b w then(b,true)else(Bk.zero,false)
 else(Bk.zero,false)
def fh(w:List Int)(e:Int):List Int:=
 let a:=aG e/1048576
 if a<w.length∧aL (at_ w a)<aL e then put w a (pack (aG e % 1048576) (aL e))else w
def jA(w0:List Int)(door a:Int)(w:List Int):Nat→List Int
 |0=>w
 |n+1=>let w':=jA w0 door a w n;if aL (at_ w0 (a+(n+1)))=aL door then fh w' (at_ w0 (a+(n+1)))else w'
def da(w:List Int):List Int:=
 let c:=(check w).1
 let door:=at_ w 2
 if(check w).2=true∧aG door % 4=2∧aG door/4 % 8<c.am then
  let a:=du c (aG door/4 % 8)
  let n:=aG (at_ w a)
  if aL (at_ w a)=aL door∧n≤20 then put (jA w door a w n.toNat) 2 (cK 0 0 0 (aL door+1))else w
 else w
def jc(w:List Int):Bk×Bool:=if(check w).2=true then bM (da w)else(Bk.zero,false)
def kg(v u:List Int)(bK:Int)(n:Nat):List Int:=((List.range n).filter fun(a:Nat)=>decide (at_ v (a:Int)≠at_ u (a:Int))).map fun(a:Nat)=>iP a (at_ u (a:Int)) bK
def eZ(w:List Int)(op:Op)(bK:Int):List Int×Int×Int:=
 if(bM w).2=true∧1≤bK∧bK≤1000000000 then
  let c:=(dh w).1
  let b:=(bM w).1
  let r:=d' b op
  (kg (lay c b) (lay c r.1) bK (lay c b).length,r.2.1,r.2.2)
 else([],13,0)
end
end Ho
namespace Ho
def wy(b:Bk)(p:Int):Prop:=
 (2≤at_ b.ah p-8∧at_ b.ah p-8≤4∧p+(at_ b.ah p-8)≤b.ah.length∧at_ b.owner (p*8)≠0∧(∀u:Int,p*8<u→u<(p+(at_ b.ah p-8))*8→at_ b.owner u=0))∧
 ∀i:Int,1≤i→i<at_ b.ah p-8→at_ b.ah (p+i)=7
def ju(b:Bk):Nat→Int→Prop
 |0,_=>True
 |f+1,p=>
  if(b.ah.length:Int)≤p then True
  else if at_ b.ah p=0 then dz b p 0∧ju b f (p+1)
  else if 0≤ch (at_ b.ah p)then iA b p (ch (at_ b.ah p))∧ju b f (p+1)
  else wy b p∧ju b f (p+(at_ b.ah p-8))
theorem Ms(ah:List Int)(q:Nat)(hq:at_ ah (q:Int)≠7):∀d:Nat,(∀i:Nat,1≤i→i≤d→at_ ah ((q+i:Nat):Int)=7)→back ah (q+d)=q:=by
 intro d
 induction d with
 |zero=>
  intro _
  cases q with
  |zero=>rfl
  |succ q=>show back ah (q+1)=q+1;unfold back;rw[if_neg hq]
 |succ d ih=>
  intro h
  show back ah (q+d+1)=q
  unfold back
  rw[if_pos (show at_ ah ((q+d+1:Nat):Int)=7 from h (d+1) J J)]
  exact ih fun i h1 h2=>h i h1 J
theorem Iw(ah:List Int):∀p:Nat,back ah p≤p:=by
 intro p
 induction p with
 |zero=>exact Nat.le_refl 0
 |succ p ih=>unfold back;split<;>omega
theorem dI(s:Int):(0≤ch s↔1≤s∧s≤4):=by unfold ch;split<;>omega
theorem tO{b:Bk}(hs:gg b):∀(f:Nat) (q:Int),0≤q→q≤b.ah.length→(b.ah.length:Int)-q≤f→
 (∀p:Int,0≤p→p<q→8<at_ b.ah p→p+at_ b.ah p-8≤q)→
 (ju b f q↔∀p:Int,q≤p→p<b.ah.length→ic b p):=by
 have Gf:∀u:Int,0≤u→u<b.owner.length→0≤at_ b.owner u:=fun u h1 h2=>(hs.2.2 u h1 h2).1
 have EG:b.owner.length=b.ah.length*8:=hs.1.2.2.2.2.2.2
 intro f
 induction f with
 |zero=>intro q h0 h1 h2 _;exact⟨fun _ p p1 p2=>by omega,fun _=>trivial⟩
 |succ f ih=>
  intro q h0 h1 h2 hB
  unfold ju
  by_cases hq:(b.ah.length:Int)≤q
  ·rw[if_pos hq];exact⟨fun _ p p1 p2=>by omega,fun _=>trivial⟩
  rw[if_neg hq]
  have step:∀C:Prop,¬8<at_ b.ah q→(C↔ic b q)→(C∧ju b f (q+1)↔∀p:Int,q≤p→p<b.ah.length→ic b p):=by
   intro C h8 hC
   rw[ih (q+1) J J J (fun p p1 p2 p3=>by
    by_cases e:p=q
    ·subst e;exact absurd p3 h8
    ·have:=hB p p1 J p3;omega),hC]
   constructor
   ·rintro⟨c1,c2⟩ p p1 p2
    by_cases e:p=q
    ·subst e;exact c1
    ·exact c2 p J p2
   ·intro h;exact⟨h q J J,fun p p1 p2=>h p J p2⟩
  by_cases hz:at_ b.ah q=0
  ·rw[if_pos hz]
   exact step _ J (by unfold ic;rw[if_pos hz])
  rw[if_neg hz]
  by_cases hk:0≤ch (at_ b.ah q)
  ·rw[if_pos hk]
   have:=(dI _).1 hk
   exact step _ J (by unfold ic;rw[if_neg hz,if_pos hk])
  rw[if_neg hk]
  constructor
  ·rintro⟨⟨⟨w1,w2,w3,w4,w5⟩,w6⟩,w7⟩
   have h7:at_ b.ah q≠7:=J
   rw[ih _ J J J (fun p p1 p2 p3=>by
    by_cases e:p<q
    ·have:=hB p p1 e p3;omega
    ·by_cases e2:p=q
     ·subst e2;omega
     ·have:=w6 (p-q) J J
      rw[show q+(p-q)=p by omega]at this
      omega)]at w7
   intro p p1 p2
   by_cases e:p=q
   ·subst e
    unfold ic
    rw[if_neg hz,if_neg hk,if_neg h7]
    refine⟨⟨w1,w2,w3,w4,fun u u1 u2 hu=>?_⟩,w6⟩
    have:=w5 (p*8+u) J J
    omega
   ·by_cases e2:p<q+(at_ b.ah q-8)
    ·have UD:=w6 (p-q) J J
     rw[show q+(p-q)=p by omega]at UD
     have hb:back b.ah p.toNat=q.toNat:=by
      have:=Ms b.ah q.toNat (by rw[show((q.toNat:Nat):Int)=q by omega];exact h7) (p.toNat-q.toNat) (fun i i1 i2=>by
       have:=w6 i J J
       rw[show((q.toNat+i:Nat):Int)=q+i by omega];exact this)
      rwa[show q.toNat+(p.toNat-q.toNat)=p.toNat by omega]at this
     unfold ic
     rw[if_neg J,if_neg (fun h=>by have:=(dI _).1 h;omega),if_pos UD]
     unfold wk
     rw[hb,show((q.toNat:Nat):Int)=q by omega]
     refine⟨J,J,fun u u1 u2 hu=>?_⟩
     have:=w5 (p*8+u) J J
     omega
    ·exact w7 p J p2
  ·intro h
   have O7:=h q J J
   have h7:at_ b.ah q≠7:=by
    intro e
    unfold ic at O7
    rw[if_neg hz,if_neg hk,if_pos e]at O7
    obtain⟨r1,r2,_⟩:=O7
    have hle:=Iw b.ah q.toNat
    by_cases e2:back b.ah q.toNat=q.toNat
    ·rw[e2,show((q.toNat:Nat):Int)=q by omega]at r1;omega
    ·have:=hB (back b.ah q.toNat) J J r1
     omega
   unfold ic at O7
   rw[if_neg hz,if_neg hk,if_neg h7]at O7
   obtain⟨⟨w1,w2,w3,w4,w5⟩,w6⟩:=O7
   refine⟨⟨⟨w1,w2,w3,w4,fun u u1 u2=>?_⟩,w6⟩,?_⟩
   ·have o1:=Gf u J J
    have key:¬0<at_ b.owner u:=by
     by_cases e:u<q*8+8
     ·have:=w5 (u-q*8) J J
      rwa[show q*8+(u-q*8)=u by omega]at this
     ·have UD:=w6 (u/8-q) J J
      rw[show q+(u/8-q)=u/8 by omega]at UD
      have hp:=h (u/8) J J
      unfold ic at hp
      rw[if_neg J,if_neg (fun h=>by have:=(dI _).1 h;omega),if_pos UD]at hp
      have:=hp.2.2 (u % 8) J J
      rwa[show u/8*8+u % 8=u by omega]at this
    omega
   ·rw[ih _ J J J (fun p p1 p2 p3=>by
     by_cases e:p<q
     ·have:=hB p p1 e p3;omega
     ·by_cases e2:p=q
      ·subst e2;omega
      ·have:=w6 (p-q) J J
       rw[show q+(p-q)=p by omega]at this
       omega)]
    exact fun p p1 p2=>h p J p2
def mA(b:Bk)(page kind u:Int):Prop:=
 ¬((u % sz kind=0∧(at_ b.owner (page*8+u)≠0↔0<(b.aj kind.toNat).count (page*8+u)))∨1<(b.aj kind.toNat).count (page*8+u)∨(u % sz kind≠0∧at_ b.owner (page*8+u)≠0))
def ml(b:Bk)(page kind:Int):Prop:=
 (∀u:Int,0≤u→u<8→mA b page kind u)∧∃u:Int,0≤u∧u<8∧at_ b.owner (page*8+u)≠0
theorem ud{k:Int}(h:0≤k∧k<4):(k=0∧sz k=1)∨(k=1∧sz k=2)∨(k=2∧sz k=4)∨(k=3∧sz k=8):=by
 have:k=0∨k=1∨k=2∨k=3:=J
 rcases this with rfl|rfl|rfl|rfl
 ·exact .inl ⟨rfl,rfl⟩
 ·exact .inr (.inl ⟨rfl,rfl⟩)
 ·exact .inr (.inr (.inl ⟨rfl,rfl⟩))
 ·exact .inr (.inr (.inr ⟨rfl,rfl⟩))
theorem DV{b:Bk}(hs:gg b)(hl:js b){page kind:Int}(hp:0≤page∧page<b.ah.length)(hk:0≤kind∧kind<4):ml b page kind↔iA b page kind:=by
 have EG:b.owner.length=b.ah.length*8:=hs.1.2.2.2.2.2.2
 have uB:=ud hk
 have aa3:∀u:Int,0≤u→u<8→u % sz kind≠0→(b.aj kind.toNat).count (page*8+u)=0:=by
  intro u u1 u2 u3
  rw[List.count_eq_zero]
  intro hm
  obtain⟨i,hi,e⟩:=List.mem_iff_getElem.1 hm
  have hx:=(hl kind.toNat J).2 i J J
  have ea:at_ (b.aj kind.toNat) (i:Int)=page*8+u:=by simp[at_,hi,e]
  rw[ea]at hx
  have h4:=hx.2.2.2
  rw[show((kind.toNat:Nat):Int)=kind by omega]at h4
  rcases uB with⟨_,e⟩|⟨_,e⟩|⟨_,e⟩|⟨_,e⟩<;>rw[e]at h4 u3<;>omega
 have nf:∀u:Int,0≤u→u<8→(mA b page kind u↔iz b page kind u):=by
  intro u u1 u2
  have ho:=(hs.2.2 (page*8+u) J J).1
  have tB:(at_ b.owner (page*8+u)≠0)↔0<at_ b.owner (page*8+u):=J
  have Ge:0≤u % sz kind:=by rcases uB with⟨_,e⟩|⟨_,e⟩|⟨_,e⟩|⟨_,e⟩<;>rw[e]<;>omega
  unfold mA iz
  by_cases hu:u % sz kind=0
  ·rw[if_neg J,tB]
   simp only[hu,true_and,ne_eq,not_true_eq_false,false_and,or_false]
  ·rw[if_pos J,aa3 u u1 u2 hu]
   simp only[hu,false_and,false_or,ne_eq,not_false_eq_true,true_and]
   omega
 constructor
 ·rintro⟨h1,u,u1,u2,u3⟩
  refine⟨fun u u1 u2=>(nf u u1 u2).1 (h1 u u1 u2),u,u1,u2,?_,?_⟩
  ·have:=h1 u u1 u2
   unfold mA at this
   by_cases hu:u % sz kind=0
   ·exact hu
   ·exact absurd (.inr (.inr ⟨hu,u3⟩)) this
  ·have ho:=(hs.2.2 (page*8+u) J J).1
   omega
 ·rintro⟨h1,u,u1,u2,_,u3⟩
  exact⟨fun u u1 u2=>(nf u u1 u2).2 (h1 u u1 u2),u,u1,u2,J⟩
end Ho
namespace Ho
theorem fF(xs:List Int)(a x j:Int)(h:a.toNat≠j.toNat):at_ (put xs a x) j=at_ xs j:=by
 unfold at_ put
 rw[List.getD_eq_getElem?_getD,List.getD_eq_getElem?_getD,List.getElem?_set_ne h]
theorem kE(n:Nat)(f:Nat→List Int→List Int)(z:Int)(h:∀i,i<n→∀v,at_ (f i v) z=at_ v z)(v:List Int):at_ (upto n f v) z=at_ v z:=by
 unfold upto
 induction n with
 |zero=>rfl
 |succ n ih=>
  rw[List.range_succ,List.foldl_append]
  show at_ (f n _) z=_
  rw[h n J]
  exact ih fun i hi=>h i J
def chain(w:List Int)(c:aM):Nat→Int→Option (List Int)
 |0,a=>if a=0 then some []else none
 |f+1,a=>if a=0 then some []else if c.ah*8<a then none else(chain w c f (dP w (eV c (a-1)))).map ((a-1):: ·)
def mX(c:aM):List Int→Int→Int
 |[],a=>a
 |x::l,_=>mX c l (eV c x)
theorem su(w:List Int)(a:Int):0≤dP w a:=(aO (w:=bm w a)).1
theorem CK(w:List Int)(c:aM):∀(f:Nat) (a:Int) (l:List Int),0≤a→chain w c f a=some l→cA w c (f+1) a=l:=by
 intro f
 induction f with
 |zero=>
  intro a l ha h
  unfold chain at h
  split at h
  ·rename_i h0;cases h;unfold cA;rw[if_neg J]
  ·cases h
 |succ f ih=>
  intro a l ha h
  unfold chain at h
  split at h
  ·rename_i h0;cases h;unfold cA;rw[if_neg J]
  ·split at h
   ·cases h
   ·cases hc:chain w c f (dP w (eV c (a-1)))with
    |none=>rw[hc]at h;cases h
    |some m=>
     rw[hc]at h;cases h
     have:=ih _ _ (su _ _) hc
     rw[←this]
     conv=>lhs;unfold cA
     rw[if_pos J]
theorem CJ(w:List Int)(c:aM):∀(f:Nat) (p:Int),chain w c f (dP w p)=none→
 (cA w c (f+1) (dP w p)).length=f+1∨c.ah*8<dP w (mX c (cA w c (f+1) (dP w p)) p):=by
 intro f
 induction f with
 |zero=>
  intro p h
  unfold chain at h
  split at h
  ·cases h
  ·rename_i h0
   have:=su w p
   unfold cA
   by_cases h1:dP w p≤c.ah*8
   ·rw[if_pos J];left;rfl
   ·rw[if_neg J];right;show _<dP w p;omega
 |succ f ih=>
  intro p h
  have hn:=su w p
  unfold chain at h
  split at h
  ·cases h
  ·split at h
   ·unfold cA;rw[if_neg J];right;show _<dP w p;omega
   ·cases hc:chain w c f (dP w (eV c (dP w p-1)))with
    |some m=>rw[hc]at h;cases h
    |none=>
     have:=ih _ hc
     unfold cA
     rw[if_pos J]
     rcases this with h1|h1
     ·left;simp only[List.length_cons,h1]
     ·right;exact h1
theorem DA(c:aM)(z:Int):∀(l:List Int) (a:Int) (v:List Int),(l=[]∨a.toNat≠z.toNat)→(∀x∈l.dropLast,(eV c x).toNat≠z.toNat)→at_ (ew c l a v) z=at_ v z:=by
 intro l
 induction l with
 |nil=>intros;rfl
 |cons x l ih=>
  intro a v h1 h2
  unfold ew
  rw[ih,fF]
  ·rcases h1 with h1|h1
   ·cases h1
   ·exact h1
  ·cases l with
   |nil=>exact .inl rfl
   |cons y l=>exact .inr (h2 x aV)
  ·intro y hy
   cases l with
   |nil=>simp at hy
   |cons y' l=>exact h2 y (by simp only[List.dropLast_cons₂,List.mem_cons];exact .inr hy)
theorem mY(c:aM)(l:List Int)(a:Int):(l=[]∧mX c l a=a)∨∃m x,l=m++[x]∧mX c l a=eV c x:=by
 induction l generalizing a with
 |nil=>exact .inl ⟨rfl,rfl⟩
 |cons y l ih=>
  right
  rcases ih (eV c y)with⟨h1,h2⟩|⟨m,x,h1,h2⟩
  ·subst h1;exact⟨[],y,rfl,rfl⟩
  ·exact⟨y::m,x,by rw[h1];rfl,h2⟩
theorem count_le{b:Bk}(hb:cm b){k:Nat}(hk:k<4){x:Int}(hx:x∈b.aj k):(b.aj k).count x≤1∧0≤x∧x<b.owner.length∧ch (at_ b.ah (x/8))=k:=by
 obtain⟨hs,hl,hp⟩:=hb
 have EG:b.owner.length=b.ah.length*8:=hs.1.2.2.2.2.2.2
 obtain⟨i,hi,e⟩:=List.mem_iff_getElem.1 hx
 have h:=(hl k hk).2 i J J
 have ea:at_ (b.aj k) (i:Int)=x:=by simp[at_,hi,e]
 rw[ea]at h
 refine⟨?_,h.1,h.2.1,h.2.2.1⟩
 have h2:=hp (x/8) J J
 have gY:=(dI (at_ b.ah (x/8))).1 J
 unfold ic at h2
 rw[if_neg J,if_pos J,h.2.2.1]at h2
 have h3:=h2.1 (x % 8) J J
 unfold iz at h3
 rw[show x/8*8+x % 8=x by omega,show((k:Nat):Int).toNat=k by omega]at h3
 split at h3
 ·have:¬0<(b.aj k).count x:=fun hh=>h3 (.inr hh)
  omega
 ·have:¬1<(b.aj k).count x:=fun hh=>h3 (.inr hh)
  omega
theorem Nq{c:aM}(hc:c.ok){b:Bk}(hb:cm b)(ho:(b.owner.length:Int)=c.ah*8){k:Nat}(hk:k<4):
 at_ (lay c b) (mX c (b.aj k) (dv c k))=0∧3+2*c.am≤mX c (b.aj k) (dv c k)∧mX c (b.aj k) (dv c k)<aP c:=by
 have cL:=hc
 unfold aM.ok at cL
 have JF:∀j:Nat,j<4→dv c j=3+2*c.am+j:=fun j hj=>by unfold dv ed;rw[if_pos ⟨hc,J⟩];omega
 have dO:∀x:Int,0≤x→x<c.ah*8→eV c x=7+2*c.am+9*c.ah+x:=fun x h1 h2=>by unfold eV ed;rw[if_pos ⟨hc,h1,h2⟩];omega
 have ahp:∀x:Int,eV c x=0∨(eV c x=7+2*c.am+9*c.ah+x∧0≤x):=fun x=>by unfold eV ed;split<;>omega
 obtain⟨z,hz⟩:∃z,mX c (b.aj k) (dv c k)=z:=⟨_,rfl⟩
 have hr:(3+2*c.am≤z∧z<7+2*c.am)∨(7+2*c.am+9*c.ah≤z∧z<aP c):=by
  rcases mY c (b.aj k) (dv c k)with⟨_,h2⟩|⟨m,x,h1,h2⟩
  ·rw[hz,JF k hk]at h2;omega
  ·obtain⟨_,x1,x2,_⟩:=count_le hb hk (x:=x) (by rw[h1];simp)
   rw[hz,dO x x1 J]at h2
   unfold aP;omega
 rw[hz]
 refine⟨?_,J,by unfold aP at hr⊢;omega⟩
 unfold lay
 dsimp only
 rw[kE,kE,kE,kE]
 ·unfold at_;rw[List.getD_eq_getElem?_getD,List.getElem?_replicate];split<;>rfl
 ·intro i hi v
  rw[fF]
  unfold bT ed;split<;>omega
 ·intro i hi v
  rw[fF]
  unfold iJ ed;split<;>omega
 ·intro i hi v
  rw[fF]
  unfold mE ed;split<;>omega
 ·intro j hj v
  refine DA c z _ _ _ ?_ ?_
  ·rcases mY c (b.aj k) (dv c k)with⟨h1,h2⟩|⟨m,x,h1,h2⟩
   ·by_cases e:j=k
    ·subst e;exact .inl h1
    ·right;rw[JF j hj];rw[hz,JF k hk]at h2;omega
   ·right
    obtain⟨_,x1,x2,_⟩:=count_le hb hk (x:=x) (by rw[h1];simp)
    rw[hz,dO x x1 J]at h2
    rw[JF j hj];omega
  ·intro y hy he
   have hym:y∈b.aj j:=List.dropLast_subset _ hy
   obtain⟨y0,y1,y2,y3⟩:=count_le hb hj hym
   rw[dO y y1 J]at he
   rcases mY c (b.aj k) (dv c k)with⟨h1,h2⟩|⟨m,x,h1,h2⟩
   ·rw[hz,JF k hk]at h2;omega
   ·obtain⟨x0,x1,x2,x3⟩:=count_le hb hk (x:=x) (by rw[h1];simp)
    rw[hz,dO x x1 J]at h2
    have hxy:y=x:=J
    subst hxy
    have:j=k:=J
    subst this
    rw[h1]at x0 hy
    rw[List.dropLast_concat]at hy
    rw[List.count_append]at x0
    have h3:=List.count_pos_iff.2 hy
    simp at x0
    omega
theorem Aq(c:aM)(b:Bk):(lay c b).length=(aP c).toNat:=by
 have hl:∀(l:List Int) (a:Int) (v:List Int),(ew c l a v).length=v.length:=by
  intro l
  induction l with
  |nil=>intro a v;rfl
  |cons x l ih=>intro a v;simp only[ew];rw[ih];simp[put]
 have hu:∀(n:Nat) (f:Nat→List Int→List Int) (v:List Int),(∀i v,(f i v).length=v.length)→(upto n f v).length=v.length:=by
  intro n f v h
  unfold upto
  induction n with
  |zero=>rfl
  |succ n ih=>rw[List.range_succ,List.foldl_append];show(f n _).length=_;rw[h,ih]
 unfold lay
 dsimp only
 rw[hu,hu,hu,hu]
 ·simp
 all_goals intros;first|exact hl _ _ _|simp[put]
theorem FQ{w:List Int}{c:aM}(hc:c.ok)(hl:aP c≤w.length){k:Nat}(hk:k<4)(h:chain w c (c.ah*8).toNat (dP w (dv c k))=none):
 ¬(cm (bP w c)∧fits c (bP w c) w):=by
 rintro⟨hb,hf⟩
 have cL:=hc
 unfold aM.ok at cL
 have ho:((bP w c).owner.length:Int)=c.ah*8:=by unfold bP;simp;omega
 have hh:(bP w c).aj k=cA w c ((c.ah*8).toNat+1) (dP w (dv c k)):=by
  unfold bP;simp only[hk,if_true];unfold tM
  rw[show(c.ah*8+1).toNat=(c.ah*8).toNat+1 by omega]
 rcases CJ w c _ _ h with h1|h1
 ·have:=(hb.2.1 k hk).1
  rw[hh]at this
  omega
 ·rw[←hh]at h1
  obtain⟨e1,e2,e3⟩:=Nq hc hb ho hk
  have:=hf (mX c ((bP w c).aj k) (dv c k)) (by unfold bT ed;split<;>omega) (by rw[Aq];omega) (by unfold jU dn ed;split<;>omega)
  rw[e1]at this
  have X5:dP w (mX c ((bP w c).aj k) (dv c k))=aG (at_ w (mX c ((bP w c).aj k) (dv c k))):=by
   unfold dP bm;rw[if_neg J]
  omega
theorem CI{w:List Int}{c:aM}(hc:c.ok){k:Nat}(hk:k<4){l:List Int}(h:chain w c (c.ah*8).toNat (dP w (dv c k))=some l):(bP w c).aj k=l:=by
 have cL:=hc
 unfold aM.ok at cL
 have:=CK w c _ _ _ (su _ _) h
 unfold bP;simp only[hk,if_true];unfold tM
 rw[show(c.ah*8+1).toNat=(c.ah*8).toNat+1 by omega]
 exact this
end Ho
