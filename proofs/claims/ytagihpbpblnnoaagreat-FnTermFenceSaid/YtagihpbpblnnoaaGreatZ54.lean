import Derived.Test.YtagihpbpblnnoaaGreatZ50
import Derived.Test.YtagihpbpblnnoaaGreatZ47
import Derived.Test.YtagihpbpblnnoaaGreatZ00
set_option linter.all false
namespace AH
open Go Go.Proofs Ho
set_option maxRecDepth 20000
set_option maxHeartbeats 4000000
structure GF(c:aM)(g:ag):Prop where
 Ix:g.busy=true→1≤g.pc
 Tv:1≤g.pc→g.busy=true
 os:g.busy=true→g.aH=g.slot
 slot:0≤g.slot∧g.slot<c.am
 ao:0≤g.ao∧g.ao≤4095
 next:0≤g.next∧g.next≤4095
 pc:0≤g.pc∧g.pc≤26
 seq:0≤g.seq∧g.seq≤1000001
 aX:0≤g.aX∧g.aX≤7
 aK:0≤g.aK∧g.aK≤4095
 gn:0≤g.gn∧g.gn≤20
 gk:0≤g.gk∧g.gk≤aP c
 snap:(g.snap.length:Int)≤aP c
 eA:(g.ax.length:Int)≤20
 time:0≤g.time∧g.time≤1048575
 own:g.own=true→23≤g.pc∧g.pc≤25
 mK:g.pc=11→(g.snap.length:Int)=g.gk∧g.gk<aP c
 mw:g.pc=12→(g.snap.length:Int)=aP c∧0≤g.oa∧g.oa<c.am
 my:g.pc=13∨g.pc=14→g.gk≤g.ax.length
 mz:22≤g.pc∧g.pc≤24→1≤g.gk∧g.gk≤g.gn
 nO:22≤g.pc∧g.pc≤24→g.own=true→g.gn=g.ax.length
 pw:16≤g.pc∧g.pc≤24→g.aX<c.am
theorem GF.bW{c:aM}{g:ag}(hc:c.ok)(h:GF c g):bW c g:=by
 have cL:=hc
 unfold aM.ok at cL
 obtain⟨b1,b0,os,slot,ao,next,pc,seq,aX,aK,gn,gk,snap,eA,time,own,mK,mw,my,mz,nO,pw⟩:=h
 refine⟨hc,⟨fun h=>by have:=b1 h;omega,fun h=>b0 J⟩,?_,?_,?_⟩
 ·cases hb:g.busy with
  |false=>exact .inr rfl
  |true=>exact .inl (os hb)
 ·unfold fu;omega
 ·unfold fg
  rw[if_neg (fun h=>by have:=own h.1;omega)]
  split
  ·exact mK bZ
  split
  ·exact mw bZ
  split
  ·exact pw J
  split
  ·exact my bZ
  split
  ·rename_i h
   refine⟨(mz h).1,(mz h).2,pw J,?_⟩
   cases ho:g.own with
   |false=>exact .inl rfl
   |true=>exact .inr (nO h ho)
  ·trivial
theorem GF.of{c:aM}{g:ag}(h:AH.bW c g):GF c g:=by
 obtain⟨hc,hb,ho,hf,hp⟩:=h
 have cL:=hc
 unfold aM.ok at cL
 unfold fu at hf
 unfold fg at hp
 have UC:g.busy=true→g.aH=g.slot:=fun h=>by
  rcases ho with h1|h1
  ·exact h1
  ·rw[h1]at h;cases h
 split at hp
 ·exact absurd hp id
 rename_i Gf
 have JD:g.own=true→23≤g.pc∧g.pc≤25:=fun h=>by
  by_cases h1:g.pc<23∨25<g.pc
  ·exact absurd ⟨h,h1⟩ Gf
  ·omega
 have qC:16≤g.pc∧g.pc≤21→g.aX<c.am:=fun e=>by
  rw[if_neg J,if_neg J,if_pos e]at hp;exact hp
 have mC:22≤g.pc∧g.pc≤24→1≤g.gk∧g.gk≤g.gn∧g.aX<c.am∧(g.own=false∨g.gn=g.ax.length):=fun e=>by
  rw[if_neg J,if_neg J,if_neg J,if_neg J,if_pos e]at hp;exact hp
 refine⟨fun h=>by have:=hb.1 h;omega,fun h=>hb.2 J,UC,J,J,J,J,J,J,J,J,J,J,J,J,JD,?_,?_,?_,fun e=>⟨(mC e).1,(mC e).2.1⟩,?_,?_⟩
 ·intro e;rw[if_pos e]at hp;exact hp
 ·intro e;rw[if_neg J,if_pos e]at hp;exact hp
 ·intro e;rw[if_neg J,if_neg J,if_neg J,if_pos e]at hp;exact hp
 ·intro e h
  rcases(mC e).2.2.2 with h1|h1
  ·rw[h1]at h;cases h
  ·exact h1
 ·intro e
  by_cases h:g.pc≤21
  ·exact qC ⟨e.1,h⟩
  ·exact(mC ⟨J,e.2⟩).2.2.1
theorem GF.complete{c:aM}{g:ag}(hc:c.ok)(h:GF c g)(code val:Int):GF c (g.complete code val):=by
 have cL:=hc
 unfold aM.ok at cL
 have hh:0≤aP c:=by unfold aP;omega
 obtain⟨b1,b0,os,slot,ao,next,pc,seq,aX,aK,gn,gk,snap,eA,time,own,mK,mw,my,mz,nO,pw⟩:=h
 unfold ag.complete ag.zero
 constructor<;>(try dsimp only)<;>first|assumption|omega|(intro hh;omega)|(intro hh;cases hh;done)|(simp;done)|(simp;omega)|(split<;>omega)
theorem GF.tU{c:aM}{g:ag}(hc:c.ok)(h:GF c {g with pc:=26})(hb:g.busy=true)(ho:g.own=false):GF c g.dH:=by
 have cL:=hc
 unfold aM.ok at cL
 have hh:0≤aP c:=by unfold aP;omega
 obtain⟨b1,b0,os,slot,ao,next,pc,seq,aX,aK,gn,gk,snap,eA,time,own,mK,mw,my,mz,nO,pw⟩:=h
 dsimp only at*
 unfold ag.dH ag.cH
 dsimp only
 split
 ·constructor<;>(try dsimp only)<;>first|assumption|omega|(intro hh;omega)|(intro hh;simp[ho]at hh;done)|(intro _;assumption)
 ·rename_i hn
  have fz:((eZ g.snap g.op g.seq).1.length:Int)≤20:=J
  split
  ·constructor<;>(try dsimp only)<;>first|assumption|omega|(intro hh;omega)|(intro hh;simp[ho]at hh;done)|(intro _;assumption)
  ·constructor<;>(try dsimp only)<;>first|assumption|omega|(intro hh;omega)|(intro hh;simp[ho]at hh;done)|(intro _;assumption)
theorem GF.sX{c:aM}{g:ag}(hc:c.ok)(h:GF c {g with pc:=26})(hb:g.busy=true)(ho:g.own=false)(hl:(g.snap.length:Int)=aP c):GF c (g.cr c):=by
 have hp:=GF.tU hc h hb ho
 have hY:∀cd,GF c (g.cH cd):=by
  intro cd
  obtain⟨b1,b0,os,slot,ao,next,pc,seq,aX,aK,gn,gk,snap,eA,time,own,mK,mw,my,mz,nO,pw⟩:=h
  dsimp only at*
  unfold ag.cH
  constructor<;>(try dsimp only)<;>first|assumption|omega|(intro hh;omega)|(intro hh;simp[ho]at hh;done)|(intro _;assumption)
 unfold ag.cr
 dsimp only
 split
 ·exact hY _
 split
 ·unfold ag.gf
  dsimp only
  split
  ·exact hp
  rename_i hr
  split
  ·exact hY _
  split
  ·obtain⟨b1,b0,os,slot,ao,next,pc,seq,aX,aK,gn,gk,snap,eA,time,own,mK,mw,my,mz,nO,pw⟩:=h
   dsimp only at*
   constructor<;>(try dsimp only)<;>first|assumption|omega|(intro hh;omega)|(intro hh;simp[ho]at hh;done)|(intro _;assumption)|(intro _;exact⟨hl,J,J⟩)
  ·exact hp
 ·exact hp
theorem GF.cont{c:aM}{g:ag}(hc:c.ok)(h:GF c {g with pc:=9,own:=false})(hb:g.busy=true)(ho:g.own=true→g.gn=g.ax.length)(hk:1≤g.gk)(hsw:g.aX<c.am):GF c g.continues:=by
 have cL:=hc
 unfold aM.ok at cL
 have hh:0≤aP c:=by unfold aP;omega
 obtain⟨b1,b0,os,slot,ao,next,pc,seq,aX,aK,gn,gk,snap,eA,time,own,mK,mw,my,mz,nO,pw⟩:=h
 dsimp only at*
 unfold ag.continues
 split
 ·constructor<;>(try dsimp only)<;>first|assumption|omega|(intro hh;omega)|(intro _;omega)|(intro _;assumption)
 rename_i hn
 split
 ·rename_i hq
  have:=ho hq
  constructor<;>(try dsimp only)<;>first|assumption|omega|(intro hh;omega)|(intro _;omega)|(intro _;assumption)
 ·rename_i hq
  constructor<;>(try dsimp only)<;>first|assumption|omega|(intro hh;omega)|(intro hh;exact absurd hh hq)|(intro _ hh;exact absurd hh hq)|(intro _;assumption)
structure SF(c:aM)(o:SO):Prop where
 w:True
 g:GF c o.g
section
variable {c:aM} {ws:List Int} {g:ag}
theorem MC(hc:c.ok)(hw:∀w∈ws,ci w)(hg:GF c g)(hb:g.busy=true)(hp:g.pc≤8):SF c (bS c ws g):=by
 have cL:=hc
 unfold aM.ok at cL
 have hG:=hg
 obtain⟨b1,b0,os,slot,ao,next,pc,seq,aX,aK,gn,gk,snap,eA,time,own,mK,mw,my,mz,nO,pw⟩:=hg
 have nK:=b1 hb
 have e1:=lC hc slot
 have e2:=gA hc slot
 have og:=sc (aG (bm ws 1)) 1048575 J
 have hq:=kI (bm ws (bT c g.slot))
 have ho:g.own=false:=by cases ho:g.own with|false=>rfl|true=>have:=own ho;omega
 have mu:∀w:Int,GF c {g with bw:=w}:=fun w=>by constructor<;>(try dsimp only)<;>assumption
 have HA:∀w:Int,GF c {g with entry:=w}:=fun w=>by constructor<;>(try dsimp only)<;>first|assumption|(intro hh;omega)
 have oH:GF c {g with ao:=g.next}:=by constructor<;>(try dsimp only)<;>assumption
 unfold bS
 dsimp only
 repeat' split
 all_goals constructor
 all_goals dsimp only
 all_goals first
  |trivial
  |exact GF.complete hc (mu _) _ _
  |exact GF.complete hc (HA _) _ _
  |exact GF.complete hc oH _ _
  |(constructor<;>(try dsimp only)<;>first|assumption|omega|(intro hh;omega)|(intro hh;simp[ho]at hh;done)|(intro _;assumption)|(split<;>omega)|(intro hh;split at hh<;>omega))
theorem PO(hc:c.ok)(hw:∀w∈ws,ci w)(hg:GF c g)(hb:g.busy=true)(hp:9≤g.pc∧g.pc≤10):SF c (gM c ws g):=by
 have cL:=hc
 unfold aM.ok at cL
 have hh:26≤aP c:=by unfold aP;omega
 obtain⟨b1,b0,os,slot,ao,next,pc,seq,aX,aK,gn,gk,snap,eA,time,own,mK,mw,my,mz,nO,pw⟩:=hg
 have l1:bm ws 2=at_ ws 2:=dD J
 have og:=sc (aG (at_ ws 2)/32) 4095 J
 have hq:=kI (at_ ws 2)
 have Ya:=gx (dR hw 2)
 have ho:g.own=false:=by cases ho:g.own with|false=>rfl|true=>have:=own ho;omega
 unfold gM
 simp only[l1]
 split
 ·split
  ·refine⟨trivial,?_⟩
   dsimp only
   constructor<;>(try dsimp only)<;>first|assumption|omega|(intro hh;omega)|(intro hh;simp[ho]at hh;done)|(intro _;assumption)|(simp;omega)
  ·refine⟨trivial,?_⟩
   dsimp only
   constructor<;>(try dsimp only)<;>first|assumption|omega|(intro hh;omega)|(intro hh;simp[ho]at hh;done)|(intro _;assumption)
 ·rename_i hn
  by_cases hx:1000000<aL (at_ ws 2)
  ·rw[if_pos (.inl hx)]
   refine⟨trivial,?_⟩
   refine GF.complete (g:={g with pc:=9,door:=at_ ws 2,seq:=0,aX:=aG (at_ ws 2)/4 % 8,aK:=bU (aG (at_ ws 2)/32) 4095}) hc ?_ 12 0
   constructor<;>(try dsimp only)<;>first|assumption|omega|(intro hh;omega)|(intro hh;simp[ho]at hh;done)|(intro _;assumption)
  have g1:GF c {g with door:=at_ ws 2,seq:=aL (at_ ws 2),aX:=aG (at_ ws 2)/4 % 8,aK:=bU (aG (at_ ws 2)/32) 4095}:=by
   constructor<;>(try dsimp only)<;>first|assumption|omega|(intro hh;omega)|(intro hh;simp[ho]at hh;done)|(intro _;assumption)
  split
  ·exact⟨trivial,g1.complete hc _ _⟩
  split
  ·exact⟨trivial,g1.complete hc _ _⟩
  repeat' split
  all_goals
   refine⟨trivial,?_⟩
   dsimp only
   constructor<;>(try dsimp only)<;>first|assumption|omega|(intro hh;omega)|(intro hh;simp[ho]at hh;done)|(intro _;assumption)
theorem J6(hc:c.ok)(hw:∀w∈ws,ci w)(hg:GF c g)(hb:g.busy=true)(hp:11≤g.pc∧g.pc≤12):SF c (eh c ws g):=by
 have cL:=hc
 unfold aM.ok at cL
 have hh:26≤aP c:=by unfold aP;omega
 obtain⟨b1,b0,os,slot,ao,next,pc,seq,aX,aK,gn,gk,snap,eA,time,own,mK,mw,my,mz,nO,pw⟩:=hg
 have ho:g.own=false:=by cases ho:g.own with|false=>rfl|true=>have:=own ho;omega
 unfold eh
 split
 ·rename_i e
  dsimp only
  have lh:=mK e
  refine⟨trivial,?_⟩
  dsimp only
  split
  ·rename_i e2
   refine GF.sX hc ?_ hb ho bX
   constructor<;>(try dsimp only)<;>first|assumption|omega|(intro hh;omega)|(intro hh;simp[ho]at hh;done)|(intro _;assumption)|(simp;omega)
  ·constructor<;>(try dsimp only)<;>first|assumption|omega|(intro hh;omega)|(intro hh;simp[ho]at hh;done)|(intro _;assumption)|(simp;omega)|(intro _;simp;omega)
 ·rename_i e
  have BJ:g.pc=12:=J
  obtain⟨ZY,PX⟩:=mw BJ
  have e2:=gA hc PX
  dsimp only
  split
  ·refine⟨trivial,?_⟩
   refine GF.tU hc ?_ hb ho
   have hl:=aF g.snap (bT c g.oa) (lT 2 (aG (at_ g.snap (bT c g.oa))/4) (aL (at_ g.snap (bT c g.oa))))
   constructor<;>(try dsimp only)<;>first|assumption|omega|(intro hh;omega)|(intro hh;simp[ho]at hh;done)|(intro _;assumption)
  ·refine⟨trivial,?_⟩
   dsimp only
   constructor<;>(try dsimp only)<;>first|assumption|omega|(intro hh;omega)|(intro hh;simp[ho]at hh;done)|(intro _;assumption)|(simp;omega)
theorem PJ(hc:c.ok)(hw:∀w∈ws,ci w)(hg:GF c g)(hb:g.busy=true)(hp:13≤g.pc∧g.pc≤15)(kW:g.pc=15→g.aX<c.am):SF c (fk c ws g):=by
 have cL:=hc
 unfold aM.ok at cL
 have hh:26≤aP c:=by unfold aP;omega
 have hG:=hg
 obtain⟨b1,b0,os,slot,ao,next,pc,seq,aX,aK,gn,gk,snap,eA,time,own,mK,mw,my,mz,nO,pw⟩:=hg
 have ho:g.own=false:=by cases ho:g.own with|false=>rfl|true=>have:=own ho;omega
 have e1:du c g.slot=aP c+21*g.slot:=by rw[ke hc slot];unfold bx aP;omega
 have mu:∀w:Int,GF c {g with bw:=w}:=fun w=>by constructor<;>(try dsimp only)<;>assumption
 unfold fk
 dsimp only
 split
 ·rename_i e
  have jQ:=my (.inl e)
  split
  ·exact⟨trivial,(mu _).complete hc _ _⟩
  ·refine⟨trivial,?_⟩
   dsimp only
   constructor<;>(try dsimp only)<;>first|assumption|omega|(intro hh;omega)|(intro hh;simp[ho]at hh;done)|(intro _;assumption)
 ·split
  ·rename_i e
   have jQ:=my (.inr e)
   split
   ·refine⟨trivial,?_⟩
    dsimp only
    constructor<;>(try dsimp only)<;>first|assumption|omega|(intro hh;omega)|(intro hh;simp[ho]at hh;done)|(intro _;assumption)
   ·refine⟨trivial,?_⟩
    ·dsimp only
     split
     ·constructor<;>(try dsimp only)<;>first|assumption|omega|(intro hh;omega)|(intro hh;simp[ho]at hh;done)|(intro _;assumption)
     ·constructor<;>(try dsimp only)<;>first|assumption|omega|(intro hh;omega)|(intro hh;simp[ho]at hh;done)|(intro _;assumption)
  ·split
   ·refine⟨trivial,?_⟩
    refine GF.cont hc ?_ hb (fun _=>rfl) aV (kW J)
    constructor<;>(try dsimp only)<;>first|assumption|omega|(intro hh;omega)|(intro hh;simp at hh;done)|(intro _;assumption)
   ·exact⟨trivial,hG.complete hc _ _⟩
theorem Ob(hc:c.ok)(hw:∀w∈ws,ci w)(hg:GF c g)(hb:g.busy=true)(hp:16≤g.pc∧g.pc≤20):SF c (fQ c ws g):=by
 have cL:=hc
 unfold aM.ok at cL
 have hh:26≤aP c:=by unfold aP;omega
 obtain⟨b1,b0,os,slot,ao,next,pc,seq,aX,aK,gn,gk,snap,eA,time,own,mK,mw,my,mz,nO,pw⟩:=hg
 have ho:g.own=false:=by cases ho:g.own with|false=>rfl|true=>have:=own ho;omega
 have St:=pw J
 unfold fQ
 dsimp only
 split
 ·refine⟨trivial,?_⟩
  dsimp only
  constructor<;>(try dsimp only)<;>first|assumption|omega|(intro hh;omega)|(intro hh;simp[ho]at hh;done)|(intro _;assumption)|(split<;>omega)|(intro hh;split at hh<;>omega)
 split
 ·refine⟨trivial,?_⟩
  dsimp only
  constructor<;>(try dsimp only)<;>first|assumption|omega|(intro hh;omega)|(intro hh;simp[ho]at hh;done)|(intro _;assumption)
 split
 ·refine⟨trivial,?_⟩
  dsimp only
  constructor<;>(try dsimp only)<;>first|assumption|omega|(intro hh;omega)|(intro hh;simp[ho]at hh;done)|(intro _;assumption)|(split<;>omega)|(intro hh;split at hh<;>omega)
 split
 ·refine⟨trivial,?_⟩
  dsimp only
  constructor<;>(try dsimp only)<;>first|assumption|omega|(intro hh;omega)|(intro hh;simp[ho]at hh;done)|(intro _;assumption)
 ·refine⟨trivial,?_⟩
  dsimp only
  constructor<;>(try dsimp only)<;>first|assumption|omega|(intro hh;omega)|(intro hh;simp[ho]at hh;done)|(intro _;assumption)
theorem Tk(hc:c.ok)(hw:∀w∈ws,ci w)(hg:GF c g)(hb:g.busy=true)(hp:21≤g.pc∧g.pc≤24):SF c (kt c ws g):=by
 have cL:=hc
 unfold aM.ok at cL
 have hh:26≤aP c:=by unfold aP;omega
 obtain⟨b1,b0,os,slot,ao,next,pc,seq,aX,aK,gn,gk,snap,eA,time,own,mK,mw,my,mz,nO,pw⟩:=hg
 have St:=pw J
 have hq:=kI (bm ws (du c g.aX))
 unfold kt
 dsimp only
 split
 ·have ho:g.own=false:=by cases ho:g.own with|false=>rfl|true=>have:=own ho;omega
  split
  ·refine⟨trivial,?_⟩
   dsimp only
   constructor<;>(try dsimp only)<;>first|assumption|omega|(intro hh;omega)|(intro hh;simp[ho]at hh;done)|(intro _;assumption)
  ·refine⟨trivial,GF.cont hc ?_ hb (fun h=>by simp[ho]at h) aV St⟩
   constructor<;>(try dsimp only)<;>first|assumption|omega|(intro hh;omega)|(intro hh;simp at hh;done)|(intro _;assumption)
 split
 ·rename_i e
  have ho:g.own=false:=by cases ho:g.own with|false=>rfl|true=>have:=own ho;omega
  have mC:=mz J
  refine⟨trivial,?_⟩
  dsimp only
  split
  ·constructor<;>(try dsimp only)<;>first|assumption|omega|(intro hh;omega)|(intro hh;simp[ho]at hh;done)|(intro _;assumption)
  ·constructor<;>(try dsimp only)<;>first|assumption|omega|(intro hh;omega)|(intro hh;simp[ho]at hh;done)|(intro _ hh;simp[ho]at hh;done)|(intro _;assumption)
 have mC:=mz J
 have nX:=nO J
 split
 ·split
  ·refine⟨trivial,GF.cont hc ?_ hb nX py St⟩
   constructor<;>(try dsimp only)<;>first|assumption|omega|(intro hh;omega)|(intro hh;simp at hh;done)|(intro _;assumption)
  ·refine⟨trivial,?_⟩
   dsimp only
   constructor<;>(try dsimp only)<;>first|assumption|omega|(intro hh;omega)|(intro _;assumption)|(intro _;omega)
 ·split
  ·refine⟨trivial,GF.cont hc ?_ hb nX py St⟩
   constructor<;>(try dsimp only)<;>first|assumption|omega|(intro hh;omega)|(intro hh;simp at hh;done)|(intro _;assumption)
  ·refine⟨trivial,?_⟩
   dsimp only
   constructor<;>(try dsimp only)<;>first|assumption|omega|(intro hh;omega)|(intro _;assumption)|(intro _;omega)
theorem Q4(hc:c.ok)(hw:∀w∈ws,ci w)(hg:GF c g)(hb:g.busy=true)(hp:25≤g.pc):SF c (iK ws g):=by
 have cL:=hc
 unfold aM.ok at cL
 have hh:26≤aP c:=by unfold aP;omega
 have hG:=hg
 obtain⟨b1,b0,os,slot,ao,next,pc,seq,aX,aK,gn,gk,snap,eA,time,own,mK,mw,my,mz,nO,pw⟩:=hg
 unfold iK
 split
 ·exact⟨trivial,hG.complete hc _ _⟩
 ·refine⟨trivial,?_⟩
  dsimp only
  split
  ·exact hG.complete hc _ _
  ·rename_i ho
   constructor<;>(try dsimp only)<;>first|assumption|omega|(intro hh;omega)|(intro hh;exact absurd hh ho)|(intro _;assumption)
theorem Rp(hc:c.ok)(hw:∀w∈ws,ci w)(hg:GF c g)(hb:g.busy=true)(kW:g.pc=15→g.aX<c.am):GF c (cW c ws g).g:=by
 have h1:=hg.Ix hb
 have h2:=hg.pc
 unfold cW
 split
 ·exact(MC hc hw hg hb bZ).g
 split
 ·exact(PO hc hw hg hb J).g
 split
 ·exact(J6 hc hw hg hb J).g
 split
 ·exact(PJ hc hw hg hb J kW).g
 split
 ·exact(Ob hc hw hg hb J).g
 split
 ·exact(Tk hc hw hg hb J).g
 ·exact(Q4 hc hw hg hb J).g
end
end AH
