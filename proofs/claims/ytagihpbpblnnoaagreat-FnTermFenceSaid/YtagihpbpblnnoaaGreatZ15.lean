import Derived.Test.YtagihpbpblnnoaaGreatZ08
import Derived.Test.YtagihpbpblnnoaaGreatZ00
set_option linter.all false
namespace Ho
noncomputable section
def ag.op(g:ag):Op:=⟨g.aE,g.aH,g.oa,g.ob⟩
def dp(ws:List Int)(a ii:Int):Prop:=0≤a∧a<ws.length∧at_ ws a=ii
instance(ws:List Int)(a ii:Int):Decidable (dp ws a ii):=Classical.propDecidable _
def dc(ws:List Int)(a ii now:Int):List Int:=if dp ws a ii then put ws a now else ws
structure SO where
 ws:List Int
 g:ag
 ev:Int
def bS(c:aM)(ws:List Int)(g:ag):SO:=
 if g.pc=1 then
  let bw:=bm ws (dn c g.slot)
  if g.ao<aL bw then⟨ws,({g with bw:=bw}:ag).complete 11 0,0⟩else⟨ws,{g with bw:=bw,pc:=2},0⟩
 else if g.pc=2 then⟨ws,{g with time:=bU (aG (bm ws 1)) 1048575,pc:=3},0⟩
 else if g.pc=3 then
  let now:=pack g.time g.ao
  if g.bw=now then⟨ws,{g with pc:=9},0⟩
  else⟨dc ws (dn c g.slot) g.bw now,{g with pc:=if dp ws (dn c g.slot) g.bw then 9 else 1},0⟩
 else if g.pc=4 then
  let e:=bm ws (bT c g.slot)
  if aG e % 4≠0 then⟨ws,({g with entry:=e}:ag).complete 6 0,0⟩
  else if 4095≤aG e/4 then⟨ws,({g with entry:=e}:ag).complete 12 0,0⟩
  else⟨ws,{g with entry:=e,next:=aG e/4+1,pc:=5},0⟩
 else if g.pc=5 then⟨ws,{g with bw:=bm ws (dn c g.slot),pc:=6},0⟩
 else if g.pc=6 then⟨ws,{g with time:=bU (aG (bm ws 1)) 1048575,pc:=7},0⟩
 else if g.pc=7 then
  let now:=pack g.time g.next
  if g.next≤aL g.bw then⟨ws,{g with pc:=8},0⟩
  else⟨dc ws (dn c g.slot) g.bw now,{g with pc:=if dp ws (dn c g.slot) g.bw then 8 else 5},0⟩
 else if g.pc=8 then
  if dp ws (bT c g.slot) g.entry then⟨put ws (bT c g.slot) (lT 1 g.next (aL g.entry)),({g with ao:=g.next}:ag).complete 0 g.next,4⟩
  else⟨ws,{g with pc:=4},0⟩
 else⟨ws,g,0⟩
def gM(c:aM)(ws:List Int)(g:ag):SO:=
 if g.pc=10 then
  if dp ws 2 g.door then⟨put ws 2 (cK 1 g.slot g.ao g.seq),{g with gk:=0,snap:=[],pc:=11},0⟩else⟨ws,{g with pc:=9},0⟩
 else
  let d:=bm ws 2
  let g1:={g with door:=d,seq:=aL d,aX:=aG d/4 % 8,aK:=bU (aG d/32) 4095}
  let state:=aG d % 4
  if 1000000<aL d∨2<state∨(state≠0∧c.am≤aG d/4 % 8)then⟨ws,g1.complete 12 0,0⟩
  else if state=0∧aL d=1000000 then⟨ws,g1.complete 12 0,0⟩
  else if state=0 then⟨ws,{g1 with pc:=10},0⟩
  else if state=1 then⟨ws,{g1 with pc:=16},0⟩
  else⟨ws,{g1 with pc:=21},0⟩
def ag.cH(g:ag)(code:Int):ag:={g with code:=code,pc:=26}
def ag.dH(g:ag):ag:=
 let r:=eZ g.snap g.op g.seq
 if r.2.1=13∨20<(r.1.length:Int)then g.cH 11
 else if r.2.1=5∨r.2.1=9 then g.cH r.2.1
 else {g with ax:=r.1,code:=r.2.1,val:=r.2.2,gk:=0,pc:=13}
def oo(c:aM)(g:ag)(slot ao:Int):Prop:=
 aL (at_ g.snap (dn c slot))<ao∨(aL (at_ g.snap (dn c slot))=ao∧c.bH<aG (at_ g.snap 1)-aG (at_ g.snap (dn c slot)))
instance(c:aM)(g:ag)(s e:Int):Decidable (oo c g s e):=Classical.propDecidable _
def ag.gf(c:aM)(g:ag):ag:=
 if g.oa<0∨c.am≤g.oa then g.dH
 else
  let r:=at_ g.snap (bT c g.oa)
  if g.oa=g.slot∨(aG r % 4=1∧¬oo c g g.oa (aG r/4))then g.cH 8
  else if aG r % 4=1 then {g with pc:=12}
  else g.dH
def ag.cr(c:aM)(g:ag):ag:=
 let r:=at_ g.snap (bT c g.slot)
 if aG r % 4≠1∨aG r/4≠g.ao then g.cH 11
 else if g.aE=6 then g.gf c
 else g.dH
def eh(c:aM)(ws:List Int)(g:ag):SO:=
 if g.pc=11 then
  let g1:={g with snap:=g.snap++[bm ws g.gk],gk:=g.gk+1}
  ⟨ws,if g.gk+1=aP c then g1.cr c else g1,0⟩
 else
  let a:=bT c g.oa
  let ii:=at_ g.snap a
  let cut:=lT 2 (aG ii/4) (aL ii)
  if dp ws a ii then⟨put ws a cut,({g with aX:=g.oa,snap:=put g.snap a cut}:ag).dH,2⟩
  else⟨ws,{g with gk:=0,snap:=[],pc:=11},0⟩
def ag.written(g:ag):Int:=if g.gk=0 then pack g.ax.length g.seq else at_ g.ax (g.gk-1)
def fk(c:aM)(ws:List Int)(g:ag):SO:=
 let a:=du c g.slot+g.gk
 if g.pc=13 then
  let w:=bm ws a
  if g.seq<aL w then⟨ws,({g with bw:=w}:ag).complete 11 0,0⟩else⟨ws,{g with bw:=w,pc:=14},0⟩
 else if g.pc=14 then
  if g.bw≠g.written∧¬dp ws a g.bw then⟨ws,{g with pc:=13},0⟩
  else⟨if g.bw≠g.written then put ws a g.written else ws,if g.ax.length<g.gk+1 then {g with gk:=0,pc:=15}else {g with gk:=g.gk+1,pc:=13},0⟩
 else
  if dp ws 2 (cK 1 g.slot g.ao g.seq)then
   ⟨put ws 2 (cK 2 g.slot g.ao g.seq),({g with own:=true,door:=cK 2 g.slot g.ao g.seq,gn:=g.ax.length,gk:=1}:ag).continues,1⟩
  else⟨ws,g.complete 11 0,0⟩
def fQ(c:aM)(ws:List Int)(g:ag):SO:=
 if g.pc=16 then
  let w:=bm ws (bT c g.aX)
  ⟨ws,{g with bw:=w,pc:=if aG w % 4≠1∨aG w/4≠g.aK then 20 else 17},0⟩
 else if g.pc=17 then⟨ws,{g with aT:=bm ws (dn c g.aX),pc:=18},0⟩
 else if g.pc=18 then
  ⟨ws,{g with pc:=if aL g.aT<g.aK∨(aL g.aT=g.aK∧c.bH<aG (bm ws 1)-aG g.aT)then 19 else 9},0⟩
 else if g.pc=19 then
  ⟨dc ws (bT c g.aX) g.bw (lT 2 g.aK (aL g.bw)),{g with pc:=9},if dp ws (bT c g.aX) g.bw then 2 else 0⟩
 else
  ⟨dc ws 2 (cK 1 g.aX g.aK g.seq) (cK 0 0 0 (g.seq+1)),{g with pc:=9},if dp ws 2 (cK 1 g.aX g.aK g.seq)then 3 else 0⟩
def kt(c:aM)(ws:List Int)(g:ag):SO:=
 if g.pc=21 then
  let h:=bm ws (du c g.aX)
  if aL h≠g.seq∨20<aG h then⟨ws,{g with pc:=9},0⟩else⟨ws,({g with gn:=aG h,gk:=1}:ag).continues,0⟩
 else if g.pc=22 then
  let e:=bm ws (du c g.aX+g.gk)
  ⟨ws,{g with entry:=e,pc:=if aL e≠g.seq then 9 else 23},0⟩
 else if g.pc=23 then
  let w:=bm ws (aG g.entry/1048576)
  if g.seq≤aL w then⟨ws,({g with bw:=w,pc:=24,gk:=g.gk+1}:ag).continues,0⟩else⟨ws,{g with bw:=w,pc:=24},0⟩
 else
  if dp ws (aG g.entry/1048576) g.bw then⟨put ws (aG g.entry/1048576) (pack (aG g.entry % 1048576) g.seq),({g with pc:=23,gk:=g.gk+1}:ag).continues,0⟩
  else⟨ws,{g with pc:=23},0⟩
def iK(ws:List Int)(g:ag):SO:=
 if g.pc=26 then⟨dc ws 2 (cK 1 g.slot g.ao g.seq) (cK 0 0 0 (g.seq+1)),g.complete g.code 0,0⟩
 else
  ⟨dc ws 2 g.door (cK 0 0 0 (g.seq+1)),if g.own=true then g.complete g.code g.val else {g with pc:=9},0⟩
def cW(c:aM)(ws:List Int)(g:ag):SO:=
 if g.pc≤8 then bS c ws g else if g.pc≤10 then gM c ws g else if g.pc≤12 then eh c ws g else if g.pc≤15 then fk c ws g
 else if g.pc≤20 then fQ c ws g else if g.pc≤24 then kt c ws g else iK ws g
end
end Ho
namespace Ho
open Go
def Out.so(o:Out):SO:=⟨o.ws,o.g,o.ev⟩
theorem gA{c:aM}{n:Int}(hc:c.ok)(h:0≤n∧n<c.am):bT c n=3+n:=by
 unfold bT ed;rw[if_pos ⟨hc,h⟩];omega
theorem lC{c:aM}{n:Int}(hc:c.ok)(h:0≤n∧n<c.am):dn c n=3+c.am+n:=by
 unfold dn ed;rw[if_pos ⟨hc,h⟩];omega
theorem ke{c:aM}{n:Int}(hc:c.ok)(h:0≤n∧n<c.am):du c n=bx c n:=by
 unfold du ed bx aP;rw[if_pos ⟨hc,h⟩];omega
theorem dD{ws:List Int}{a:Int}(h:0≤a):bm ws a=at_ ws a:=by
 unfold bm
 split
 ·rename_i h2
  have:ws.length≤a.toNat:=J
  simp[at_,List.getD_eq_getElem?_getD,List.getElem?_eq_none this]
 ·rfl
theorem fJ{ws:List Int}{a ii:Int}(h0:0≤a)(h:a<ws.length):dp ws a ii↔at_ ws a=ii:=
 ⟨fun h=>h.2.2,fun e=>⟨h0,h,e⟩⟩
theorem vz{n m:Int}(h:0≤n)(hm:0≤m):bU n m=min n m:=by unfold bU;omega
theorem Iq{c:aM}{ws:List Int}{g:ag}(hc:c.ok)(hl:(ws.length:Int)=c.size)(hs:0≤g.slot∧g.slot<c.am)(eU:1≤g.pc∧g.pc≤8):
 bS c ws g=(cx c ws g).so:=by
 have cL:=hc
 unfold aM.ok at cL
 unfold aM.size at hl
 have e1:=lC hc hs
 have e2:=gA hc hs
 have l1:bm ws (3+c.am+g.slot)=at_ ws (3+c.am+g.slot):=dD J
 have l2:bm ws (3+g.slot)=at_ ws (3+g.slot):=dD J
 have l3:bm ws 1=at_ ws 1:=dD J
 have s1:∀o,dp ws (3+c.am+g.slot) o↔at_ ws (3+c.am+g.slot)=o:=fun o=>fJ J J
 have s2:∀o,dp ws (3+g.slot) o↔at_ ws (3+g.slot)=o:=fun o=>fJ J J
 have k1:bU (aG (at_ ws 1)) 1048575=min (aG (at_ ws 1)) 1048575:=vz aO.1 J
 have h:g.pc=1∨g.pc=2∨g.pc=3∨g.pc=4∨g.pc=5∨g.pc=6∨g.pc=7∨g.pc=8:=J
 unfold bS cx Out.so
 simp only[e1,e2,l1,l2,l3,dc,s1,s2,k1,clockOf]
 rcases h with h|h|h|h|h|h|h|h<;>simp only[h]<;>simp<;>(repeat' split)<;>simp_all
theorem Oe{c:aM}{ws:List Int}{g:ag}(hc:c.ok)(hl:(ws.length:Int)=c.size)(hs:0≤g.aX∧g.aX<c.am)(eU:16≤g.pc∧g.pc≤20):
 fQ c ws g=(watch c ws g).so:=by
 have cL:=hc
 unfold aM.ok at cL
 unfold aM.size at hl
 have e1:=lC hc hs
 have e2:=gA hc hs
 have l1:bm ws (3+c.am+g.aX)=at_ ws (3+c.am+g.aX):=dD J
 have l2:bm ws (3+g.aX)=at_ ws (3+g.aX):=dD J
 have l3:bm ws 1=at_ ws 1:=dD J
 have s2:∀o,dp ws (3+g.aX) o↔at_ ws (3+g.aX)=o:=fun o=>fJ J J
 have s3:∀o,dp ws 2 o↔at_ ws 2=o:=fun o=>fJ J J
 have k1:(lK g.aT g.aK (aG (at_ ws 1)) c.bH=true)↔¬(aL g.aT<g.aK∨(aL g.aT=g.aK∧c.bH<aG (at_ ws 1)-aG g.aT)):=by
  unfold lK;simp;omega
 have h:g.pc=16∨g.pc=17∨g.pc=18∨g.pc=19∨g.pc=20:=J
 unfold fQ watch Out.so
 simp only[e1,e2,l1,l2,l3,dc,s2,s3,clockOf,k1]
 rcases h with h|h|h|h|h<;>simp only[h]<;>simp<;>(repeat' split)<;>simp_all<;>omega
theorem Od{c:aM}{ws:List Int}{g:ag}(hc:c.ok)(hl:(ws.length:Int)=c.size)(hs:0≤g.aX∧g.aX<c.am)(eU:g.pc=21):
 kt c ws g=(watch c ws g).so:=by
 have cL:=hc
 unfold aM.ok at cL
 have e1:=ke hc hs
 have l1:bm ws (bx c g.aX)=at_ ws (bx c g.aX):=dD (by unfold bx;omega)
 unfold kt watch Out.so
 simp only[e1,l1,eU]
 simp
 (repeat' split)<;>simp_all[ag.continues]<;>omega
theorem CX{c:aM}{ws:List Int}{g:ag}(eU:g.pc=9):gM c ws g=(eQ c ws g).so:=by
 have l1:bm ws 2=at_ ws 2:=dD J
 have k1:bU (aG (at_ ws 2)/32) 4095=min (aG (at_ ws 2)/32) 4095:=vz (by have:= @aO (at_ ws 2);omega) J
 have k2:∀z:Int,(¬(0≤aG (at_ ws 2)/4 % 8∧aG (at_ ws 2)/4 % 8<z))↔z≤aG (at_ ws 2)/4 % 8:=fun z=>by omega
 unfold gM eQ Out.so
 simp only[l1,k1,k2,eU]
 simp
 (repeat' split)<;>simp_all
end Ho
namespace Ho
theorem Lj{ws:List Int}{H:Nat}(hH:H≤ws.length){a:Int}(h0:0≤a)(h1:a<H):at_ ((ws.take H).map aG) a=dP ws a:=by
 unfold dP
 rw[dD h0]
 unfold at_
 rw[List.getD_eq_getElem?_getD,List.getD_eq_getElem?_getD,List.getElem?_map,List.getElem?_take,if_pos J,List.getElem?_eq_getElem J]
 rfl
theorem E8{ws:List Int}{H:Nat}(hH:H≤ws.length):((ws.take H).map aG).length=H:=by simp;omega
theorem get_at{xs:List Int}{j:Nat}(h:j<xs.length):xs[j]? =some (at_ xs j):=by
 unfold at_
 rw[List.getD_eq_getElem?_getD,Int.toNat_natCast,List.getElem?_eq_getElem h]
 rfl
theorem Lk{ws:List Int}{H:Nat}(hH:H≤ws.length){k n:Nat}(h:k+n≤H):(((ws.take H).map aG).drop k).take n=(List.range n).map fun(i:Nat)=>dP ws ((k:Int)+i):=by
 apply List.ext_getElem?
 intro j
 rw[List.getElem?_take,List.getElem?_map]
 by_cases hj:j<n
 ·rw[if_pos hj,List.getElem?_drop,get_at (by rw[E8 hH];omega),List.getElem?_range hj,Lj hH J J]
  simp
 ·rw[if_neg hj,List.getElem?_eq_none bX];rfl
theorem CN(w:List Int)(c:aM)(f:Nat):chain w c f 0=some []:=by cases f<;>simp[chain]
theorem FR{w:List Int}{c:aM}{f:Nat}{a:Int}(h0:a≠0)(h:c.ah*8<a∨f=0):chain w c f a=none:=by
 cases f with
 |zero=>simp[chain,h0]
 |succ f=>
  rcases h with h|h
  ·simp[chain,h0,h]
  ·cases h
theorem CM{w:List Int}{c:aM}{f:Nat}{a:Int}(h0:a≠0)(h:a≤c.ah*8):chain w c (f+1) a=(chain w c f (dP w (eV c (a-1)))).map ((a-1):: ·):=by
 simp[chain,h0,show ¬c.ah*8<a by omega]
end Ho
namespace Ho
set_option maxHeartbeats 1000000
structure GI(B:Int)(g:ag):Prop where
 slot:0≤g.slot∧g.slot≤10
 ao:0≤g.ao∧g.ao≤4095
 pc:0≤g.pc∧g.pc≤26
 gk:0≤g.gk∧g.gk≤B
 gn:0≤g.gn∧g.gn≤20
 seq:0≤g.seq∧g.seq≤4294967295
 aX:0≤g.aX∧g.aX≤7
 aK:0≤g.aK∧g.aK≤4095
 time:0≤g.time∧g.time≤1048575
 count:0≤g.count∧g.count≤B
 next:0≤g.next∧g.next≤4095
 bw:ci g.bw
 door:ci g.door
 aT:ci g.aT
 entry:ci g.entry
 E7:∀w∈g.snap,ci w
 KD:∀w∈g.ax,ci w
 snap:(g.snap.length:Int)≤B
 ax:(g.ax.length:Int)≤20
 busy:g.busy=true→1≤g.pc
 mK:g.pc=11→(g.snap.length:Int)=g.gk
 mw:g.pc=12→7≤(g.snap.length:Int)∧0≤g.oa∧g.oa≤7
 my:g.pc=13∨g.pc=14→g.gk≤g.ax.length
 own:g.own=true→23≤g.pc∧g.pc≤25∧g.gn=g.ax.length
theorem GI.le{B C:Int}{g:ag}(h:GI B g)(hB:B≤C):GI C g:=by
 obtain⟨h1,h2,h3,h4,h5,h6,h7,h8,h9,pC,lh,nW,jQ,jm,kW,qC,lk,uS,rT,tg,BK,mC,nX,gE⟩:=h
 exact⟨h1,h2,h3,J,h5,h6,h7,h8,h9,J,lh,nW,jQ,jm,kW,qC,lk,J,rT,tg,BK,mC,nX,gE⟩
theorem xV:ci 0:=by unfold ci;omega
theorem dR{ws:List Int}(h:∀w∈ws,ci w)(j:Int):ci (at_ ws j):=by
 unfold at_
 rw[List.getD_eq_getElem?_getD]
 cases hj:ws[j.toNat]? with
 |none=>exact xV
 |some w=>exact h w (List.mem_of_getElem? hj)
theorem cF{ws:List Int}(h:∀w∈ws,ci w)(a:Int):ci (bm ws a):=by
 unfold bm
 split
 ·exact xV
 ·exact dR h a
theorem bQ{ws:List Int}{a x:Int}(h:∀w∈ws,ci w)(hx:ci x):∀w∈put ws a x,ci w:=by
 intro w hw
 unfold put at hw
 rcases List.mem_or_eq_of_mem_set hw with h1|h1
 ·exact h w h1
 ·exact h1▸hx
theorem eu(ws:List Int)(a x:Int):(put ws a x).length=ws.length:=by simp[put]
theorem cR{ws:List Int}{a o n:Int}(h:∀w∈ws,ci w)(hn:ci n):∀w∈dc ws a o n,ci w:=by
 unfold dc
 split
 ·exact bQ h hn
 ·exact h
theorem iW(ws:List Int)(a o n:Int):(dc ws a o n).length=ws.length:=by unfold dc;split<;>simp[put]
theorem ck(a b c d:Int):ci (cK a b c d):=bh _ _
theorem ee(a b c:Int):ci (lT a b c):=bh _ _
theorem vH(a b c:Int):ci (iP a b c):=bh _ _
theorem DM(w:List Int)(op:Op)(s:Int):∀x∈(eZ w op s).1,ci x:=by
 unfold eZ
 split
 ·dsimp only
  unfold kg
  intro x hx
  obtain⟨a,_,rfl⟩:=List.mem_map.1 hx
  exact vH _ _ _
 ·intro x hx;cases hx
theorem kI(w:Int):0≤aG w∧aG w<4294967296:=aO
theorem GI.complete{B:Int}{g:ag}(h:GI B g)(hB:1≤B)(code val:Int):GI (B+1) (g.complete code val):=by
 obtain⟨h1,h2,h3,h4,h5,h6,h7,h8,h9,pC,lh,nW,jQ,jm,kW,qC,lk,uS,rT,tg,BK,mC,nX,gE⟩:=h
 unfold ag.complete ag.zero
 constructor<;>(try dsimp only)<;>first|exact xV|omega|(simp;done)|(simp;omega)|(split<;>omega)
theorem GI.E3{B:Int}{g:ag}(hB:1≤B)(h:GI B g)(ho:g.own=false):GI (B+1) g.dH:=by
 obtain⟨h1,h2,h3,h4,h5,h6,h7,h8,h9,pC,lh,nW,jQ,jm,kW,qC,lk,uS,rT,tg,BK,mC,nX,gE⟩:=id h
 have hp:=DM g.snap g.op g.seq
 unfold ag.dH ag.cH
 try dsimp only
 repeat' split
 all_goals(constructor<;>(try dsimp only)<;>first|assumption|omega|(simp;done)|(simp[ho];done)|(intro hh;omega))
theorem GI.yield{B:Int}{g:ag}(hB:1≤B)(h:GI B g)(ho:g.own=false)(cd:Int):GI (B+1) (g.cH cd):=by
 obtain⟨h1,h2,h3,h4,h5,h6,h7,h8,h9,pC,lh,nW,jQ,jm,kW,qC,lk,uS,rT,tg,BK,mC,nX,gE⟩:=id h
 unfold ag.cH
 constructor<;>(try dsimp only)<;>first|assumption|omega|(simp[ho];done)|(intro hh;omega)
theorem GI.Rl{B:Int}{c:aM}{g:ag}(hB:1≤B)(h:GI B g)(ho:g.own=false)(hl:7≤(g.snap.length:Int))(hc:c.am≤7):GI (B+1) (g.gf c):=by
 unfold ag.gf
 dsimp only
 split
 ·exact GI.E3 hB h ho
 ·split
  ·exact GI.yield hB h ho _
  ·split
   ·obtain⟨h1,h2,h3,h4,h5,h6,h7,h8,h9,pC,lh,nW,jQ,jm,kW,qC,lk,uS,rT,tg,BK,mC,nX,gE⟩:=id h
    constructor<;>(try dsimp only)<;>first|assumption|omega|(simp[ho];done)|(intro hh;omega)|(intro _;exact⟨hl,J,J⟩)
   ·exact GI.E3 hB h ho
theorem GI.decide{B:Int}{c:aM}{g:ag}(hB:1≤B)(h:GI B g)(ho:g.own=false)(hl:7≤(g.snap.length:Int))(hc:c.am≤7):GI (B+1) (g.cr c):=by
 unfold ag.cr
 dsimp only
 split
 ·exact GI.yield hB h ho _
 ·split
  ·exact GI.Rl hB h ho hl hc
  ·exact GI.E3 hB h ho
theorem GI.cont{B:Int}{g:ag}(hB:1≤B)(h:GI B {g with pc:=9,own:=false})(ho:g.own=true→g.gn=g.ax.length)(hb:g.busy=true→1≤g.pc):GI B g.continues:=by
 obtain⟨h1,h2,h3,h4,h5,h6,h7,h8,h9,pC,lh,nW,jQ,jm,kW,qC,lk,uS,rT,tg,BK,mC,nX,gE⟩:=id h
 dsimp only at*
 unfold ag.continues
 split
 ·constructor<;>(try dsimp only)<;>first|assumption|omega|(intro hh;omega)|(intro hh;have:=ho hh;omega)
 ·split
  ·constructor<;>(try dsimp only)<;>first|assumption|omega|exact dR lk _|(intro hh;omega)|(intro hh;have:=ho hh;omega)
  ·rename_i hq
   constructor<;>(try dsimp only)<;>first|assumption|omega|(intro hh;omega)|(intro hh;exact absurd hh hq)
structure H3(B:Int)(ws:List Int)(o:SO):Prop where
 g:GI (B+1) o.g
 W:∀w∈o.ws,ci w
 l:o.ws.length=ws.length
theorem I3{B:Int}{c:aM}{ws:List Int}{g:ag}(hB:1≤B)(h:GI B g)(hW:∀w∈ws,ci w)(hp:g.pc≤8):H3 B ws (bS c ws g):=by
 obtain⟨h1,h2,h3,h4,h5,h6,h7,h8,h9,pC,lh,nW,jQ,jm,kW,qC,lk,uS,rT,tg,BK,mC,nX,gE⟩:=id h
 have ho:g.own=false:=by cases ho:g.own with|false=>rfl|true=>have:=gE ho;omega
 have og:∀n:Int,0≤bU n 1048575∧bU n 1048575≤1048575:=fun n=>by unfold bU;omega
 have hq:=kI (bm ws (bT c g.slot))
 have Jm:=og (aG (bm ws 1))
 unfold bS
 try dsimp only
 repeat' split
 all_goals try dsimp only
 all_goals(refine⟨?_,?_,?_⟩<;>(try dsimp only)<;>with_reducible first|exact hW|exact bQ hW (ck _ _ _ _)|exact bQ hW (ee _ _ _)|exact bQ hW (bh _ _)|exact cR hW (ck _ _ _ _)|exact cR hW (ee _ _ _)|exact cR hW (bh _ _)|exact eu _ _ _|exact iW _ _ _ _|rfl|skip)
 all_goals first
  |exact h.complete hB _ _
  |exact GI.complete (g:={g with ao:=g.next}) Er hB 0 g.next
  |(constructor<;>(try dsimp only)<;>first|assumption|omega|with_reducible exact cF hW _|with_reducible exact dR lk _|with_reducible exact bh _ _|with_reducible exact ck _ _ _ _|(simp;done)|(simp;omega)|(intro hh;omega)|(intro hh;contradiction)|(intro hh;simp[ho]at hh;done)|(split<;>omega)|(intro hh;have gU:=gE hh;omega)|(intro hh;split at hh<;>omega)|(intro hh;simp at hh⊢;omega)|(intro hh;have gU:=gE hh;split<;>omega))
theorem Mz{B:Int}{c:aM}{ws:List Int}{g:ag}(hB:1≤B)(h:GI B g)(hW:∀w∈ws,ci w)(hp:9≤g.pc∧g.pc≤10):H3 B ws (gM c ws g):=by
 obtain⟨h1,h2,h3,h4,h5,h6,h7,h8,h9,pC,lh,nW,jQ,jm,kW,qC,lk,uS,rT,tg,BK,mC,nX,gE⟩:=id h
 have ho:g.own=false:=by cases ho:g.own with|false=>rfl|true=>have:=gE ho;omega
 have og:∀n:Int,0≤bU n 4095∧bU n 4095≤4095:=fun n=>by unfold bU;omega
 have hq:=kI (bm ws 2)
 have Jm:=og (aG (bm ws 2)/32)
 have hs:=gx (cF hW 2)
 have hw:=cF hW 2
 unfold gM
 try dsimp only
 repeat' split
 all_goals try dsimp only
 all_goals(refine⟨?_,?_,?_⟩<;>(try dsimp only)<;>with_reducible first|exact hW|exact bQ hW (ck _ _ _ _)|exact bQ hW (ee _ _ _)|exact bQ hW (bh _ _)|exact cR hW (ck _ _ _ _)|exact cR hW (ee _ _ _)|exact cR hW (bh _ _)|exact eu _ _ _|exact iW _ _ _ _|rfl|skip)
 all_goals first
  |exact h.complete hB _ _
  |exact GI.complete (g:={g with ao:=g.next}) Er hB 0 g.next
  |(constructor<;>(try dsimp only)<;>first|assumption|omega|with_reducible exact cF hW _|with_reducible exact dR lk _|with_reducible exact bh _ _|with_reducible exact ck _ _ _ _|(simp;done)|(simp;omega)|(intro hh;omega)|(intro hh;contradiction)|(intro hh;simp[ho]at hh;done)|(split<;>omega)|(intro hh;have gU:=gE hh;omega)|(intro hh;split at hh<;>omega)|(intro hh;simp at hh⊢;omega)|(intro hh;have gU:=gE hh;split<;>omega))
theorem My{B:Int}{c:aM}{ws:List Int}{g:ag}(hB:1≤B)(h:GI B g)(hW:∀w∈ws,ci w)(hp:13≤g.pc∧g.pc≤15):H3 B ws (fk c ws g):=by
 have R2:=h.le (show B≤B+1 by omega)
 obtain⟨h1,h2,h3,h4,h5,h6,h7,h8,h9,pC,lh,nW,jQ,jm,kW,qC,lk,uS,rT,tg,BK,mC,nX,gE⟩:=id h
 have ho:g.own=false:=by cases ho:g.own with|false=>rfl|true=>have:=gE ho;omega
 have HH:ci g.written:=by unfold ag.written;split;exact bh _ _;exact dR lk _
 unfold fk
 dsimp only
 split
 ·split
  ·(refine⟨?_,?_,?_⟩<;>(try dsimp only)<;>with_reducible first|exact hW|exact bQ hW (ck _ _ _ _)|exact bQ hW (ee _ _ _)|exact bQ hW (bh _ _)|exact cR hW (ck _ _ _ _)|exact cR hW (ee _ _ _)|exact cR hW (bh _ _)|exact eu _ _ _|exact iW _ _ _ _|rfl|skip)
   all_goals exact h.complete hB _ _
  ·refine⟨?_,hW,rfl⟩
   constructor<;>(try dsimp only)<;>first|assumption|omega|with_reducible exact cF hW _|with_reducible exact dR lk _|with_reducible exact bh _ _|with_reducible exact ck _ _ _ _|(simp;done)|(simp;omega)|(intro hh;omega)|(intro hh;contradiction)|(intro hh;simp[ho]at hh;done)|(split<;>omega)|(intro hh;have gU:=gE hh;omega)|(intro hh;split at hh<;>omega)|(intro hh;simp at hh⊢;omega)|(intro hh;have gU:=gE hh;split<;>omega)
 ·split
  ·split
   ·refine⟨?_,hW,rfl⟩
    constructor<;>(try dsimp only)<;>first|assumption|omega|with_reducible exact cF hW _|with_reducible exact dR lk _|with_reducible exact bh _ _|with_reducible exact ck _ _ _ _|(simp;done)|(simp;omega)|(intro hh;omega)|(intro hh;contradiction)|(intro hh;simp[ho]at hh;done)|(split<;>omega)|(intro hh;have gU:=gE hh;omega)|(intro hh;split at hh<;>omega)|(intro hh;simp at hh⊢;omega)|(intro hh;have gU:=gE hh;split<;>omega)
   ·refine⟨?_,by split;exact bQ hW HH;exact hW,by split;exact eu _ _ _;rfl⟩
    ·dsimp only
     split<;>(constructor<;>(try dsimp only)<;>first|assumption|omega|with_reducible exact cF hW _|with_reducible exact dR lk _|with_reducible exact bh _ _|with_reducible exact ck _ _ _ _|(simp;done)|(simp;omega)|(intro hh;omega)|(intro hh;contradiction)|(intro hh;simp[ho]at hh;done)|(split<;>omega)|(intro hh;have gU:=gE hh;omega)|(intro hh;split at hh<;>omega)|(intro hh;simp at hh⊢;omega)|(intro hh;have gU:=gE hh;split<;>omega))
  ·split
   ·refine⟨GI.cont J ?_ (fun _=>rfl) tg,bQ hW (ck _ _ _ _),eu _ _ _⟩
    constructor<;>(try dsimp only)<;>first|assumption|omega|with_reducible exact cF hW _|with_reducible exact dR lk _|with_reducible exact bh _ _|with_reducible exact ck _ _ _ _|(simp;done)|(simp;omega)|(intro hh;omega)|(intro hh;contradiction)|(intro hh;simp[ho]at hh;done)|(split<;>omega)|(intro hh;have gU:=gE hh;omega)|(intro hh;split at hh<;>omega)|(intro hh;simp at hh⊢;omega)|(intro hh;have gU:=gE hh;split<;>omega)
   ·(refine⟨?_,?_,?_⟩<;>(try dsimp only)<;>with_reducible first|exact hW|exact bQ hW (ck _ _ _ _)|exact bQ hW (ee _ _ _)|exact bQ hW (bh _ _)|exact cR hW (ck _ _ _ _)|exact cR hW (ee _ _ _)|exact cR hW (bh _ _)|exact eu _ _ _|exact iW _ _ _ _|rfl|skip)
    all_goals exact h.complete hB _ _
theorem Ll{B:Int}{c:aM}{ws:List Int}{g:ag}(hB:1≤B)(h:GI B g)(hW:∀w∈ws,ci w)(hp:16≤g.pc∧g.pc≤20):H3 B ws (fQ c ws g):=by
 obtain⟨h1,h2,h3,h4,h5,h6,h7,h8,h9,pC,lh,nW,jQ,jm,kW,qC,lk,uS,rT,tg,BK,mC,nX,gE⟩:=id h
 have ho:g.own=false:=by cases ho:g.own with|false=>rfl|true=>have:=gE ho;omega
 unfold fQ
 try dsimp only
 repeat' split
 all_goals try dsimp only
 all_goals(refine⟨?_,?_,?_⟩<;>(try dsimp only)<;>with_reducible first|exact hW|exact bQ hW (ck _ _ _ _)|exact bQ hW (ee _ _ _)|exact bQ hW (bh _ _)|exact cR hW (ck _ _ _ _)|exact cR hW (ee _ _ _)|exact cR hW (bh _ _)|exact eu _ _ _|exact iW _ _ _ _|rfl|skip)
 all_goals first
  |exact h.complete hB _ _
  |exact GI.complete (g:={g with ao:=g.next}) Er hB 0 g.next
  |(constructor<;>(try dsimp only)<;>first|assumption|omega|with_reducible exact cF hW _|with_reducible exact dR lk _|with_reducible exact bh _ _|with_reducible exact ck _ _ _ _|(simp;done)|(simp;omega)|(intro hh;omega)|(intro hh;contradiction)|(intro hh;simp[ho]at hh;done)|(split<;>omega)|(intro hh;have gU:=gE hh;omega)|(intro hh;split at hh<;>omega)|(intro hh;simp at hh⊢;omega)|(intro hh;have gU:=gE hh;split<;>omega))
theorem Pr{B:Int}{c:aM}{ws:List Int}{g:ag}(hB:1≤B)(h:GI B g)(hW:∀w∈ws,ci w)(hp:21≤g.pc∧g.pc≤24):H3 B ws (kt c ws g):=by
 obtain⟨h1,h2,h3,h4,h5,h6,h7,h8,h9,pC,lh,nW,jQ,jm,kW,qC,lk,uS,rT,tg,BK,mC,nX,gE⟩:=id h
 have hq:=kI (bm ws (du c g.aX))
 have na:g.own=true→g.gn=g.ax.length:=fun hh=>(gE hh).2.2
 unfold kt
 dsimp only
 split
 ·have ho:g.own=false:=by cases ho:g.own with|false=>rfl|true=>have:=gE ho;omega
  split
  ·refine⟨?_,hW,rfl⟩
   constructor<;>(try dsimp only)<;>first|assumption|omega|with_reducible exact cF hW _|with_reducible exact dR lk _|with_reducible exact bh _ _|with_reducible exact ck _ _ _ _|(simp;done)|(simp;omega)|(intro hh;omega)|(intro hh;contradiction)|(intro hh;simp[ho]at hh;done)|(split<;>omega)|(intro hh;have gU:=gE hh;omega)|(intro hh;split at hh<;>omega)|(intro hh;simp at hh⊢;omega)|(intro hh;have gU:=gE hh;split<;>omega)
  ·refine⟨GI.cont J ?_ (fun hh=>by simp[ho]at hh) tg,hW,rfl⟩
   constructor<;>(try dsimp only)<;>first|assumption|omega|with_reducible exact cF hW _|with_reducible exact dR lk _|with_reducible exact bh _ _|with_reducible exact ck _ _ _ _|(simp;done)|(simp;omega)|(intro hh;omega)|(intro hh;contradiction)|(intro hh;simp[ho]at hh;done)|(split<;>omega)|(intro hh;have gU:=gE hh;omega)|(intro hh;split at hh<;>omega)|(intro hh;simp at hh⊢;omega)|(intro hh;have gU:=gE hh;split<;>omega)
 ·split
  ·have ho:g.own=false:=by cases ho:g.own with|false=>rfl|true=>have:=gE ho;omega
   refine⟨?_,hW,rfl⟩
   constructor<;>(try dsimp only)<;>first|assumption|omega|with_reducible exact cF hW _|with_reducible exact dR lk _|with_reducible exact bh _ _|with_reducible exact ck _ _ _ _|(simp;done)|(simp;omega)|(intro hh;omega)|(intro hh;contradiction)|(intro hh;simp[ho]at hh;done)|(split<;>omega)|(intro hh;have gU:=gE hh;omega)|(intro hh;split at hh<;>omega)|(intro hh;simp at hh⊢;omega)|(intro hh;have gU:=gE hh;split<;>omega)
  ·have ho:True:=trivial
   split
   ·split
    ·refine⟨GI.cont J ?_ na (fun _=>by dsimp only;omega),hW,rfl⟩
     constructor<;>(try dsimp only)<;>first|assumption|omega|with_reducible exact cF hW _|with_reducible exact dR lk _|with_reducible exact bh _ _|with_reducible exact ck _ _ _ _|(simp;done)|(simp;omega)|(intro hh;omega)|(intro hh;contradiction)|(intro hh;simp[ho]at hh;done)|(split<;>omega)|(intro hh;have gU:=gE hh;omega)|(intro hh;split at hh<;>omega)|(intro hh;simp at hh⊢;omega)|(intro hh;have gU:=gE hh;split<;>omega)
    ·refine⟨?_,hW,rfl⟩
     constructor<;>(try dsimp only)<;>first|(intro hh;exact⟨J,J,na hh⟩)|first|assumption|omega|with_reducible exact cF hW _|with_reducible exact dR lk _|with_reducible exact bh _ _|with_reducible exact ck _ _ _ _|(simp;done)|(simp;omega)|(intro hh;omega)|(intro hh;contradiction)|(intro hh;simp[ho]at hh;done)|(split<;>omega)|(intro hh;have gU:=gE hh;omega)|(intro hh;split at hh<;>omega)|(intro hh;simp at hh⊢;omega)|(intro hh;have gU:=gE hh;split<;>omega)
   ·split
    ·refine⟨GI.cont J ?_ na (fun _=>by dsimp only;omega),bQ hW (bh _ _),eu _ _ _⟩
     constructor<;>(try dsimp only)<;>first|assumption|omega|with_reducible exact cF hW _|with_reducible exact dR lk _|with_reducible exact bh _ _|with_reducible exact ck _ _ _ _|(simp;done)|(simp;omega)|(intro hh;omega)|(intro hh;contradiction)|(intro hh;simp[ho]at hh;done)|(split<;>omega)|(intro hh;have gU:=gE hh;omega)|(intro hh;split at hh<;>omega)|(intro hh;simp at hh⊢;omega)|(intro hh;have gU:=gE hh;split<;>omega)
    ·refine⟨?_,hW,rfl⟩
     constructor<;>(try dsimp only)<;>first|(intro hh;exact⟨J,J,na hh⟩)|first|assumption|omega|with_reducible exact cF hW _|with_reducible exact dR lk _|with_reducible exact bh _ _|with_reducible exact ck _ _ _ _|(simp;done)|(simp;omega)|(intro hh;omega)|(intro hh;contradiction)|(intro hh;simp[ho]at hh;done)|(split<;>omega)|(intro hh;have gU:=gE hh;omega)|(intro hh;split at hh<;>omega)|(intro hh;simp at hh⊢;omega)|(intro hh;have gU:=gE hh;split<;>omega)
theorem Np{B:Int}{ws:List Int}{g:ag}(hB:1≤B)(h:GI B g)(hW:∀w∈ws,ci w)(hp:25≤g.pc):H3 B ws (iK ws g):=by
 obtain⟨h1,h2,h3,h4,h5,h6,h7,h8,h9,pC,lh,nW,jQ,jm,kW,qC,lk,uS,rT,tg,BK,mC,nX,gE⟩:=id h
 unfold iK
 try dsimp only
 repeat' split
 all_goals try dsimp only
 all_goals(refine⟨?_,?_,?_⟩<;>(try dsimp only)<;>with_reducible first|exact hW|exact bQ hW (ck _ _ _ _)|exact bQ hW (ee _ _ _)|exact bQ hW (bh _ _)|exact cR hW (ck _ _ _ _)|exact cR hW (ee _ _ _)|exact cR hW (bh _ _)|exact eu _ _ _|exact iW _ _ _ _|rfl|skip)
 all_goals first
  |exact h.complete hB _ _
  |exact GI.complete (g:={g with ao:=g.next}) Er hB 0 g.next
  |(constructor<;>(try dsimp only)<;>first|assumption|omega|with_reducible exact cF hW _|with_reducible exact dR lk _|with_reducible exact bh _ _|with_reducible exact ck _ _ _ _|(simp;done)|(simp;omega)|(intro hh;omega)|(intro hh;contradiction)|(intro hh;simp[ho]at hh;done)|(split<;>omega)|(intro hh;have gU:=gE hh;omega)|(intro hh;split at hh<;>omega)|(intro hh;simp at hh⊢;omega)|(intro hh;have gU:=gE hh;split<;>omega))
theorem Gz{B:Int}{c:aM}{ws:List Int}{g:ag}(hB:1≤B)(h:GI B g)(hW:∀w∈ws,ci w)(hc:0≤c.am∧c.am≤7∧0≤c.ah)(hp:11≤g.pc∧g.pc≤12):H3 (B+1) ws (eh c ws g):=by
 obtain⟨h1,h2,h3,h4,h5,h6,h7,h8,h9,pC,lh,nW,jQ,jm,kW,qC,lk,uS,rT,tg,BK,mC,nX,gE⟩:=id h
 have ho:g.own=false:=by cases ho:g.own with|false=>rfl|true=>have:=gE ho;omega
 unfold eh
 split
 ·rename_i e
  dsimp only
  have agb:=BK e
  have L_:GI (B+1) {g with snap:=g.snap++[bm ws g.gk],gk:=g.gk+1}:=by
   have BX:∀w∈g.snap++[bm ws g.gk],ci w:=by
    intro w hw
    rcases List.mem_append.1 hw with h'|h'
    ·exact qC w h'
    ·simp at h';subst h';exact cF hW _
   constructor<;>(try dsimp only)<;>first|assumption|omega|(simp;omega)|(intro hh;simp;omega)|(intro hh;omega)
  refine⟨?_,hW,rfl⟩
  split
  ·rename_i e2
   have:=GI.decide (c:=c) J L_ ho (by unfold aP at e2;simp;omega) hc.2.1
   exact this.le J
  ·exact L_.le J
 ·try dsimp only
  split
  ·refine⟨?_,bQ hW (ee _ _ _),eu _ _ _⟩
   have L_:GI B {g with aX:=g.oa,snap:=put g.snap (bT c g.oa) (lT 2 (aG (at_ g.snap (bT c g.oa))/4) (aL (at_ g.snap (bT c g.oa))))}:=by
    have eU:g.pc=12:=J
    have agc:=mC eU
    have BX:=bQ (a:=bT c g.oa) qC (ee 2 (aG (at_ g.snap (bT c g.oa))/4) (aL (at_ g.snap (bT c g.oa))))
    constructor<;>(try dsimp only)<;>first|assumption|omega|(rw[eu];assumption)|(intro hh;rw[eu];omega)|(intro hh;omega)
   exact(GI.E3 hB L_ ho).le J
  ·exact⟨Er,hW,rfl⟩
theorem yp{B:Int}{c:aM}{ws:List Int}{g:ag}(hB:1≤B)(h:GI B g)(hW:∀w∈ws,ci w)(hc:0≤c.am∧c.am≤7∧0≤c.ah):H3 (B+1) ws (cW c ws g):=by
 have up:∀{o:SO},H3 B ws o→H3 (B+1) ws o:=fun h=>⟨h.g.le J,h.W,h.l⟩
 have hp:=h.pc
 unfold cW
 split
 ·exact up (I3 hB h hW bZ)
 ·split
  ·exact up (Mz hB h hW J)
  ·split
   ·exact Gz hB h hW hc J
   ·split
    ·exact up (My hB h hW J)
    ·split
     ·exact up (Ll hB h hW J)
     ·split
      ·exact up (Pr hB h hW J)
      ·exact up (Np hB h hW J)
end Ho
namespace Ho
set_option maxHeartbeats 4000000
def kY(g:ag):Prop:=g.busy=false→g.own=false
theorem kY.busy{g:ag}(h:g.busy=true):kY g:=fun h'=>by rw[h]at h';cases h'
theorem kY.complete(g:ag)(code val:Int):kY (g.complete code val):=fun _=>rfl
theorem kY.F4{g g':ag}(h:g.busy=true)(h':g'.busy=g.busy):kY g':=kY.busy (h'.trans h)
theorem mh(g:ag):g.dH.busy=g.busy:=by
 unfold ag.dH ag.cH
 simp only
 split
 ·rfl
 ·split<;>rfl
theorem DU(c:aM)(g:ag):(g.gf c).busy=g.busy:=by
 unfold ag.gf
 split
 ·exact mh g
 ·simp only
  split
  ·rfl
  ·split
   ·rfl
   ·exact mh g
theorem xt(c:aM)(g:ag):(g.cr c).busy=g.busy:=by
 unfold ag.cr
 simp only
 split
 ·rfl
 ·split
  ·exact DU c g
  ·exact mh g
theorem nG(g:ag):g.continues.busy=g.busy:=by
 unfold ag.continues
 repeat' split
 all_goals rfl
theorem A4(c:aM)(ws:List Int)(g:ag)(h:g.busy=true):kY (cW c ws g).g:=by
 unfold cW
 split
 ·unfold bS
  try simp only
  repeat' split
  all_goals first|exact kY.complete _ _ _|exact kY.F4 h rfl
 split
 ·unfold gM
  try simp only
  repeat' split
  all_goals first|exact kY.complete _ _ _|exact kY.F4 h rfl
 split
 ·unfold eh
  try simp only
  repeat' split
  all_goals first|exact kY.complete _ _ _|exact kY.F4 h rfl|exact kY.F4 h (xt _ _)|exact kY.F4 h (mh _)
 split
 ·unfold fk
  try simp only
  repeat' split
  all_goals first|exact kY.complete _ _ _|exact kY.F4 h rfl|exact kY.F4 h (nG _)
 split
 ·unfold fQ
  try simp only
  repeat' split
  all_goals first|exact kY.complete _ _ _|exact kY.F4 h rfl|exact kY.F4 h (nG _)
 split
 ·unfold kt
  try simp only
  repeat' split
  all_goals first|exact kY.complete _ _ _|exact kY.F4 h rfl|exact kY.F4 h (nG _)
 ·unfold iK
  try simp only
  repeat' split
  all_goals first|exact kY.complete _ _ _|exact kY.F4 h rfl|exact kY.F4 h (nG _)
end Ho
namespace Ho
open Go
theorem Ok{c:aM}{ws:List Int}{g:ag}(hc:c.ok)(hl:(ws.length:Int)=c.size)(hs:0≤g.slot∧g.slot<c.am)(eU:13≤g.pc∧g.pc≤15)
 (hk:0≤g.gk∧g.gk≤20):fk c ws g=(write c ws g).so:=by
 have cL:=hc
 unfold aM.ok at cL
 unfold aM.size at hl
 have e1:=ke hc hs
 have d0:0≤bx c g.slot+g.gk:=by unfold bx;omega
 have d1:bx c g.slot+g.gk<ws.length:=by unfold bx;omega
 have l1:bm ws (bx c g.slot+g.gk)=at_ ws (bx c g.slot+g.gk):=dD d0
 have s2:∀o,dp ws (bx c g.slot+g.gk) o↔at_ ws (bx c g.slot+g.gk)=o:=fun o=>fJ d0 d1
 have s3:∀o,dp ws 2 o↔at_ ws 2=o:=fun o=>fJ J J
 have k1:(if 0<g.gk then at_ g.ax (g.gk-1)else pack g.ax.length g.seq)=g.written:=by
  unfold ag.written
  by_cases h:g.gk=0
  ·simp[h]
  ·rw[if_pos J,if_neg h]
 have h:g.pc=13∨g.pc=14∨g.pc=15:=J
 unfold fk write Out.so
 simp only[e1,l1,s2,s3,k1]
 rcases h with h|h|h<;>simp only[h]<;>simp<;>(repeat' split)<;>simp_all[ag.continues]
theorem Oj{c:aM}{ws:List Int}{g:ag}(hc:c.ok)(hs:g.pc=22→(0≤g.aX∧g.aX<c.am)∧0≤g.gk)(eU:22≤g.pc∧g.pc≤24)
 (he:ci g.entry):kt c ws g=(write c ws g).so:=by
 have cL:=hc
 unfold aM.ok at cL
 have a0:0≤aG g.entry/1048576:=by have:= @aO g.entry;omega
 have l1:bm ws (aG g.entry/1048576)=at_ ws (aG g.entry/1048576):=dD a0
 have s2:dp ws (aG g.entry/1048576) g.bw↔(aG g.entry/1048576<ws.length∧at_ ws (aG g.entry/1048576)=g.bw):=
  ⟨fun h=>h.2,fun h=>⟨a0,h⟩⟩
 have h:g.pc=22∨g.pc=23∨g.pc=24:=J
 rcases h with h|h|h
 ·have hw:=hs h
  have e1:=ke hc hw.1
  have l2:bm ws (bx c g.aX+g.gk)=at_ ws (bx c g.aX+g.gk):=dD (by unfold bx;omega)
  unfold kt write Out.so
  simp only[e1,l2,h]
  simp
 ·unfold kt write Out.so
  simp only[l1,h]
  simp
  (repeat' split)<;>simp_all[ag.continues]
 ·unfold kt write Out.so
  simp only[l1,s2,h]
  simp
  (repeat' split)<;>simp_all[ag.continues]
theorem Ol{c:aM}{ws:List Int}{g:ag}(hl:2<ws.length)(eU:g.pc=25∨g.pc=26):iK ws g=(write c ws g).so:=by
 have s3:∀o,dp ws 2 o↔at_ ws 2=o:=fun o=>fJ J J
 unfold iK write Out.so
 simp only[dc,s3]
 rcases eU with h|h<;>simp only[h]<;>simp<;>(repeat' split)<;>simp_all
end Ho
