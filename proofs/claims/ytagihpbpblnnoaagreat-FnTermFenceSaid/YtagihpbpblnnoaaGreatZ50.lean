import Derived.Test.YtagihpbpblnnoaaGreatZ49
import Derived.Test.YtagihpbpblnnoaaGreatZ39
import Derived.Test.YtagihpbpblnnoaaGreatZ27
import Derived.Test.YtagihpbpblnnoaaGreatZ28
import Derived.Test.YtagihpbpblnnoaaGreatZ15
import Derived.Test.YtagihpbpblnnoaaGreatZ38
import Derived.Test.YtagihpbpblnnoaaGreatZ00
set_option linter.all false
namespace AH
open Go Go.Proofs Ho
set_option maxRecDepth 20000
set_option maxHeartbeats 4000000
def LX(c:aM)(e:Int):Prop:=ci e∧3≤aG e/1048576∧aG e/1048576<aP c
structure GK(c:aM)(g:ag):Prop where
 Ix:g.busy=true→1≤g.pc
 Tv:1≤g.pc→g.busy=true
 os:g.busy=true→g.aH=g.slot
 slot:0≤g.slot∧g.slot<c.am
 ao:0≤g.ao∧g.ao≤4095
 next:0≤g.next∧g.next≤4095
 pc:0≤g.pc∧g.pc≤26
 seq:0≤g.seq∧g.seq≤1000001
 aX:0≤g.aX∧g.aX<c.am
 aK:0≤g.aK∧g.aK≤4095
 gn:0≤g.gn∧g.gn≤20
 gk:0≤g.gk∧g.gk≤aP c
 snap:(g.snap.length:Int)≤aP c
 eA:(g.ax.length:Int)≤20
 time:0≤g.time∧g.time≤1048575
 own:g.own=true→23≤g.pc∧g.pc≤25
 mK:g.pc=11→(g.snap.length:Int)=g.gk∧g.gk<aP c
 mw:g.pc=12→(g.snap.length:Int)=aP c∧0≤g.oa∧g.oa<c.am
 my:g.pc=13∨g.pc=14→g.gk≤g.ax.length
 mz:22≤g.pc∧g.pc≤24→1≤g.gk∧g.gk≤g.gn
 nO:22≤g.pc∧g.pc≤24→g.own=true→g.gn=g.ax.length
 ax:∀e∈g.ax,LX c e
 sq:10≤g.pc→1≤g.seq
 zJ:g.pc=23∨g.pc=24→LX c g.entry
theorem GK.bW{c:aM}{g:ag}(hc:c.ok)(h:GK c g):bW c g:=by
 have cL:=hc
 unfold aM.ok at cL
 obtain⟨b1,b0,os,slot,ao,next,pc,seq,aX,aK,gn,gk,snap,eA,time,own,mK,mw,my,mz,nO,ax,sq,zJ⟩:=h
 refine⟨hc,⟨fun h=>by have:=b1 h;omega,fun h=>b0 J⟩,?_,?_,?_⟩
 ·cases hb:g.busy with
  |false=>exact .inr rfl
  |true=>exact .inl (os hb)
 ·unfold fu;omega
 ·unfold fg
  rw[if_neg (fun h=>by have:=own h.1;omega)]
  split
  ·exact mK bZ
  split
  ·exact mw bZ
  split
  ·omega
  split
  ·exact my bZ
  split
  ·rename_i h
   refine⟨(mz h).1,(mz h).2,J,?_⟩
   cases ho:g.own with
   |false=>exact .inl rfl
   |true=>exact .inr (nO h ho)
  ·trivial
structure WK(c:aM)(ws:List Int):Prop where
 len:(ws.length:Int)=c.size
 fmt:at_ ws 0=gH c
 W:∀w∈ws,ci w
 OK:aG (at_ ws 2)/4 % 8<c.am
 IZ:1≤aL (at_ ws 2)
 TC:∀a,aP c≤a→(a-aP c) % 21≠0→1≤aL (at_ ws a)→LX c (at_ ws a)
theorem WK.put{c:aM}{ws:List Int}(h:WK c ws){a x:Int}(ha:0<a)(hx:ci x)(h2:a=2→aG x/4 % 8<c.am∧1≤aL x)(h3:aP c≤a→(a-aP c) % 21≠0→1≤aL x→LX c x)(hc:c.ok):WK c (Ho.put ws a x):=by
 have hh:0≤aP c:=by unfold aP;unfold aM.ok at hc;omega
 refine⟨by rw[aF];exact h.len,?_,bQ h.W hx,?_,?_,?_⟩
 ·rw[ik,if_neg (fun h=>by have:=h.1;simp at this;omega)];exact h.fmt
 ·rw[ik];split
  ·exact(h2 J).1
  ·exact h.OK
 ·rw[ik];split
  ·exact(h2 J).2
  ·exact h.IZ
 ·intro b hb eX
  rw[ik];split
  ·have:b=a:=J
   subst this
   exact h3 hb eX
  ·exact h.TC b hb eX
theorem IB{c:aM}(hc:c.ok){ws:List Int}(h1:at_ ws 0=gH c)(h2:(ws.length:Int)=c.size):check ws=(c,true):=by
 have cL:=hc
 unfold aM.ok at cL
 have hm:aG (gH c)=c.am+8*c.ah+64*c.bH:=by unfold gH;rw[lb];unfold bU;omega
 have e1:(c.am+8*c.ah+64*c.bH) % 8=c.am:=J
 have e2:(c.am+8*c.ah+64*c.bH)/8 % 8=c.ah:=J
 have e3:(c.am+8*c.ah+64*c.bH)/64=c.bH:=J
 have h0:ws≠[]:=by
  rintro rfl
  unfold aM.size at h2
  simp at h2
  omega
 unfold check whole
 rw[if_neg h0]
 simp only[h1,hm,e1,e2,e3]
 rw[if_pos]
 refine⟨hc,?_,h2⟩
 first|rfl|trivial
theorem WK.check{c:aM}(hc:c.ok){ws:List Int}(h:WK c ws):check ws=(c,true):=IB hc h.fmt h.len
theorem FT(s l e q:Int):aG (cK s l e q)=bU s 2+4*bU l 7+32*bU e 4095:=by unfold cK;rw[lb];unfold bU;omega
theorem zA(s l e q:Int):aL (cK s l e q)=bU q 4294967295:=by unfold cK;rw[je]
theorem FW(s l e q:Int)(h:0≤l∧l≤7):aG (cK s l e q)/4 % 8=l:=by rw[FT];unfold bU;omega
theorem IH(a v q:Int):aG (iP a v q)/1048576=bU a 4095:=by unfold iP;rw[lb];unfold bU;omega
theorem ER{c:aM}(hc:c.ok){b:Bk}(h:HR b)(hp:(b.ah.length:Int)=c.ah){a:Nat}(ha:a<3):at_ (lay c b) (a:Int)=0:=by
 have cL:=hc
 unfold aM.ok at cL
 have ho:(b.owner.length:Int)=c.ah*8:=by have:=h.1;omega
 have hl:∀(l:List Int),(∀x∈l,0≤x∧x<b.owner.length)→∀(z:Int) (v:List Int),3≤z→at_ (ew c l z v) (a:Int)=at_ v (a:Int):=by
  intro l
  induction l with
  |nil=>intro _ z v _;rfl
  |cons x l ih=>
   intro hx z v hz
   have:=hx x (List.mem_cons_self ..)
   have hk:3≤eV c x:=by unfold eV ed;rw[if_pos ⟨hc,J,J⟩];omega
   unfold ew
   rw[ih (fun y hy=>hx y (List.mem_cons_of_mem _ hy)) _ _ hk,fF _ _ _ _ J]
 unfold lay
 dsimp only
 rw[kE _ _ _ (fun k hk v=>?_),kE _ _ _ (fun i hi v=>?_),kE _ _ _ (fun i hi v=>?_),kE _ _ _ (fun i hi v=>?_)]
 ·unfold at_
  rw[List.getD_eq_getElem?_getD,List.getElem?_replicate]
  split<;>rfl
 ·exact fF _ _ _ _ (by unfold bT ed;rw[if_pos ⟨hc,J,J⟩];omega)
 ·exact fF _ _ _ _ (by unfold iJ ed;rw[if_pos ⟨hc,J,J⟩];omega)
 ·exact fF _ _ _ _ (by unfold mE ed;rw[if_pos ⟨hc,J,J⟩];omega)
 ·exact hl _ (fun x hx=>h.2 k hk x hx) _ _ (by unfold dv ed;rw[if_pos ⟨hc,J,J⟩];omega)
theorem DL{c:aM}{w:List Int}(hl:(w.length:Int)≤aP c)(op:Ho.Op)(s:Int):∀e∈(eZ w op s).1,LX c e:=by
 unfold eZ
 split
 rotate_left
 ·intro e he;cases he
 rename_i hh
 obtain⟨h1,_,_⟩:=hh
 dsimp only
 unfold bM at h1⊢
 by_cases hw:(dh w).2=true
 rotate_left
 ·rw[if_neg hw]at h1;cases h1
 rw[if_pos hw]at h1⊢
 dsimp only at h1⊢
 by_cases hb:cm (bP w (dh w).1)∧fits (dh w).1 (bP w (dh w).1) w
 rotate_left
 ·rw[if_neg hb]at h1;cases h1
 rw[if_pos hb]
 dsimp only
 have hwh:(dh w).1.ok∧((w.length:Int)=(dh w).1.size∨(w.length:Int)=aP (dh w).1):=by
  unfold dh whole at hw⊢
  split at hw
  ·cases hw
  ·rename_i h0
   rw[if_neg h0]
   dsimp only at hw⊢
   split at hw
   ·rename_i h2
    rw[if_pos h2]
    exact⟨h2.1,h2.2.2⟩
   ·cases hw
 obtain⟨hc,hlen⟩:=hwh
 generalize(dh w).1=d at hb hc hlen⊢
 have cL:=hc
 unfold aM.ok at cL
 have hhd:aP d≤aP c:=by
  have:aP d≤w.length:=by unfold aM.size at hlen;unfold aP at hlen⊢;omega
  omega
 have hB:=hb.1
 have hR:=HR.of hB
 have hS:=sd hB (sy w d hc) op
 have dO:((bP w d).ah.length:Int)=d.ah:=by simp[bP];omega
 intro e he
 unfold kg at he
 obtain⟨a,ha,rfl⟩:=List.mem_map.1 he
 obtain⟨ha,gF⟩:=List.mem_filter.1 ha
 have MO:=List.mem_range.1 ha
 rw[Aq]at MO
 have gF:=of_decide_eq_true gF
 have pG:d' (bP w d) op=kV (bP w d) op:=by unfold d';rw[if_pos hB]
 have h3:¬a<3:=fun h=>gF (by
  rw[ER hc hR dO h,pG,ER hc (hR.do op) (by rw[hS.p];exact dO) h])
 have hhm:aP d≤117:=by unfold aP;omega
 refine⟨vH _ _ _,?_⟩
 rw[IH]
 unfold bU
 omega
end AH
namespace AH
open Go Go.Proofs Ho
set_option maxRecDepth 20000
set_option maxHeartbeats 4000000
theorem LX.out{c:aM}{e:Int}(h:LX c e):3≤aG e/1048576∧aG e/1048576<aP c:=h.2
theorem sc(n m:Int)(h:0≤m):0≤bU n m∧bU n m≤m:=by unfold bU;omega
theorem GK.complete{c:aM}{g:ag}(hc:c.ok)(h:GK c g)(code val:Int):GK c (g.complete code val):=by
 have cL:=hc
 unfold aM.ok at cL
 have hh:0≤aP c:=by unfold aP;omega
 obtain⟨b1,b0,os,slot,ao,next,pc,seq,aX,aK,gn,gk,snap,eA,time,own,mK,mw,my,mz,nO,ax,sq,zJ⟩:=h
 unfold ag.complete ag.zero
 constructor<;>(try dsimp only)<;>first|assumption|omega|(intro hh;omega)|(intro hh;cases hh;done)|(simp;done)|(simp;omega)|(split<;>omega)
theorem GK.tU{c:aM}{g:ag}(hc:c.ok)(h:GK c {g with pc:=26})(hb:g.busy=true)(ho:g.own=false):GK c g.dH:=by
 have cL:=hc
 unfold aM.ok at cL
 have hh:0≤aP c:=by unfold aP;omega
 obtain⟨b1,b0,os,slot,ao,next,pc,seq,aX,aK,gn,gk,snap,eA,time,own,mK,mw,my,mz,nO,ax,sq,zJ⟩:=h
 dsimp only at*
 have hE:=DL snap g.op g.seq
 unfold ag.dH ag.cH
 dsimp only
 split
 ·constructor<;>(try dsimp only)<;>first|assumption|omega|(intro hh;omega)|(intro hh;simp[ho]at hh;done)|(intro _;assumption)
 ·rename_i hn
  have fz:((eZ g.snap g.op g.seq).1.length:Int)≤20:=J
  split
  ·constructor<;>(try dsimp only)<;>first|assumption|omega|(intro hh;omega)|(intro hh;simp[ho]at hh;done)|(intro _;assumption)
  ·constructor<;>(try dsimp only)<;>first|assumption|omega|(intro hh;omega)|(intro hh;simp[ho]at hh;done)|(intro _;assumption)
theorem GK.sX{c:aM}{g:ag}(hc:c.ok)(h:GK c {g with pc:=26})(hb:g.busy=true)(ho:g.own=false)(hl:(g.snap.length:Int)=aP c):GK c (g.cr c):=by
 have hp:=GK.tU hc h hb ho
 have hY:∀cd,GK c (g.cH cd):=by
  intro cd
  obtain⟨b1,b0,os,slot,ao,next,pc,seq,aX,aK,gn,gk,snap,eA,time,own,mK,mw,my,mz,nO,ax,sq,zJ⟩:=h
  dsimp only at*
  unfold ag.cH
  constructor<;>(try dsimp only)<;>first|assumption|omega|(intro hh;omega)|(intro hh;simp[ho]at hh;done)|(intro _;assumption)
 unfold ag.cr
 dsimp only
 split
 ·exact hY _
 split
 ·unfold ag.gf
  dsimp only
  split
  ·exact hp
  rename_i hr
  split
  ·exact hY _
  split
  ·obtain⟨b1,b0,os,slot,ao,next,pc,seq,aX,aK,gn,gk,snap,eA,time,own,mK,mw,my,mz,nO,ax,sq,zJ⟩:=h
   dsimp only at*
   constructor<;>(try dsimp only)<;>first|assumption|omega|(intro hh;omega)|(intro hh;simp[ho]at hh;done)|(intro _;assumption)|(intro _;exact⟨hl,J,J⟩)
  ·exact hp
 ·exact hp
theorem GK.cont{c:aM}{g:ag}(hc:c.ok)(h:GK c {g with pc:=9,own:=false})(hb:g.busy=true)(ho:g.own=true→g.gn=g.ax.length)(hk:1≤g.gk)(hs:1≤g.seq):GK c g.continues:=by
 have cL:=hc
 unfold aM.ok at cL
 have hh:0≤aP c:=by unfold aP;omega
 obtain⟨b1,b0,os,slot,ao,next,pc,seq,aX,aK,gn,gk,snap,eA,time,own,mK,mw,my,mz,nO,ax,sq,zJ⟩:=h
 dsimp only at*
 unfold ag.continues
 split
 ·constructor<;>(try dsimp only)<;>first|assumption|omega|(intro hh;omega)|(intro _;omega)|(intro _;assumption)
 rename_i hn
 split
 ·rename_i hq
  have:=ho hq
  have he:LX c (at_ g.ax (g.gk-1)):=ax _ (at_mem ⟨J,J⟩)
  constructor<;>(try dsimp only)<;>first|assumption|omega|(intro hh;omega)|(intro _;omega)|(intro _;assumption)
 ·rename_i hq
  constructor<;>(try dsimp only)<;>first|assumption|omega|(intro hh;omega)|(intro hh;exact absurd hh hq)|(intro _ hh;exact absurd hh hq)|(intro _;assumption)
structure SK(c:aM)(o:SO):Prop where
 w:WK c o.ws
 g:GK c o.g
section
variable {c:aM} {ws:List Int} {g:ag}
theorem WK.Yr(hc:c.ok)(hw:WK c ws){a x:Int}(h1:3≤a)(h2:a<aP c)(hx:ci x):WK c (Ho.put ws a x):=hw.put J hx J J hc
theorem WK.swH(hc:c.ok)(hw:WK c ws){a o x:Int}(h1:3≤a)(h2:a<aP c)(hx:ci x):WK c (dc ws a o x):=by
 unfold dc;split
 ·exact hw.Yr hc h1 h2 hx
 ·exact hw
theorem WK.inD(hc:c.ok)(hw:WK c ws){s l e q:Int}(h1:0≤l∧l<c.am)(hq:1≤q):WK c (Ho.put ws 2 (cK s l e q)):=by
 have cL:=hc
 unfold aM.ok at cL
 exact hw.put J (ck _ _ _ _) (fun _=>⟨by rw[FW _ _ _ _ J];omega,by rw[zA];unfold bU;omega⟩) (fun h=>by unfold aP at h;omega) hc
theorem WK.swD(hc:c.ok)(hw:WK c ws){o s l e q:Int}(h1:0≤l∧l<c.am)(hq:1≤q):WK c (dc ws 2 o (cK s l e q)):=by
 unfold dc;split
 ·exact hw.inD hc h1 hq
 ·exact hw
theorem MD(hc:c.ok)(hw:WK c ws)(hg:GK c g)(hb:g.busy=true)(hp:g.pc≤8):SK c (bS c ws g):=by
 have cL:=hc
 unfold aM.ok at cL
 have hG:=hg
 obtain⟨b1,b0,os,slot,ao,next,pc,seq,aX,aK,gn,gk,snap,eA,time,own,mK,mw,my,mz,nO,ax,sq,zJ⟩:=hg
 have nK:=b1 hb
 have e1:=lC hc slot
 have e2:=gA hc slot
 have og:=sc (aG (bm ws 1)) 1048575 J
 have hq:=kI (bm ws (bT c g.slot))
 have ho:g.own=false:=by cases ho:g.own with|false=>rfl|true=>have:=own ho;omega
 have hB:∀o x,ci x→WK c (dc ws (dn c g.slot) o x):=fun o x hx=>hw.swH hc J IV hx
 have hR:∀x,ci x→WK c (Ho.put ws (bT c g.slot) x):=fun x hx=>hw.Yr hc J IV hx
 have mu:∀w:Int,GK c {g with bw:=w}:=fun w=>by constructor<;>(try dsimp only)<;>assumption
 have HA:∀w:Int,GK c {g with entry:=w}:=fun w=>by constructor<;>(try dsimp only)<;>first|assumption|(intro hh;omega)
 have oH:GK c {g with ao:=g.next}:=by constructor<;>(try dsimp only)<;>assumption
 unfold bS
 dsimp only
 repeat' split
 all_goals constructor
 all_goals dsimp only
 all_goals first
  |exact hw
  |exact hB _ _ (bh _ _)
  |exact hR _ (ee _ _ _)
  |exact GK.complete hc (mu _) _ _
  |exact GK.complete hc (HA _) _ _
  |exact GK.complete hc oH _ _
  |(constructor<;>(try dsimp only)<;>first|assumption|omega|(intro hh;omega)|(intro hh;simp[ho]at hh;done)|(intro _;assumption)|(split<;>omega)|(intro hh;split at hh<;>omega))
theorem PP(hc:c.ok)(hw:WK c ws)(hg:GK c g)(hb:g.busy=true)(hp:9≤g.pc∧g.pc≤10):SK c (gM c ws g):=by
 have cL:=hc
 unfold aM.ok at cL
 have hh:26≤aP c:=by unfold aP;omega
 obtain⟨b1,b0,os,slot,ao,next,pc,seq,aX,aK,gn,gk,snap,eA,time,own,mK,mw,my,mz,nO,ax,sq,zJ⟩:=hg
 have l1:bm ws 2=at_ ws 2:=dD J
 have og:=sc (aG (at_ ws 2)/32) 4095 J
 have hq:=kI (at_ ws 2)
 have hd1:=hw.OK
 have L8:=hw.IZ
 have ho:g.own=false:=by cases ho:g.own with|false=>rfl|true=>have:=own ho;omega
 unfold gM
 simp only[l1]
 split
 ·split
  ·refine⟨hw.inD hc slot (sq J),?_⟩
   dsimp only
   constructor<;>(try dsimp only)<;>first|assumption|omega|(intro hh;omega)|(intro hh;simp[ho]at hh;done)|(intro _;assumption)|(simp;omega)
  ·refine⟨hw,?_⟩
   dsimp only
   constructor<;>(try dsimp only)<;>first|assumption|omega|(intro hh;omega)|(intro hh;simp[ho]at hh;done)|(intro _;assumption)
 ·rename_i hn
  by_cases hx:1000000<aL (at_ ws 2)
  ·rw[if_pos (.inl hx)]
   refine⟨hw,?_⟩
   refine GK.complete (g:={g with pc:=9,door:=at_ ws 2,seq:=0,aX:=aG (at_ ws 2)/4 % 8,aK:=bU (aG (at_ ws 2)/32) 4095}) hc ?_ 12 0
   constructor<;>(try dsimp only)<;>first|assumption|omega|(intro hh;omega)|(intro hh;simp[ho]at hh;done)|(intro _;assumption)
  have g1:GK c {g with door:=at_ ws 2,seq:=aL (at_ ws 2),aX:=aG (at_ ws 2)/4 % 8,aK:=bU (aG (at_ ws 2)/32) 4095}:=by
   constructor<;>(try dsimp only)<;>first|assumption|omega|(intro hh;omega)|(intro hh;simp[ho]at hh;done)|(intro _;assumption)
  split
  ·exact⟨hw,g1.complete hc _ _⟩
  split
  ·exact⟨hw,g1.complete hc _ _⟩
  repeat' split
  all_goals
   refine⟨hw,?_⟩
   dsimp only
   constructor<;>(try dsimp only)<;>first|assumption|omega|(intro hh;omega)|(intro hh;simp[ho]at hh;done)|(intro _;assumption)
theorem J7(hc:c.ok)(hw:WK c ws)(hg:GK c g)(hb:g.busy=true)(hp:11≤g.pc∧g.pc≤12):SK c (eh c ws g):=by
 have cL:=hc
 unfold aM.ok at cL
 have hh:26≤aP c:=by unfold aP;omega
 obtain⟨b1,b0,os,slot,ao,next,pc,seq,aX,aK,gn,gk,snap,eA,time,own,mK,mw,my,mz,nO,ax,sq,zJ⟩:=hg
 have ho:g.own=false:=by cases ho:g.own with|false=>rfl|true=>have:=own ho;omega
 unfold eh
 split
 ·rename_i e
  dsimp only
  have lh:=mK e
  refine⟨hw,?_⟩
  dsimp only
  split
  ·rename_i e2
   refine GK.sX hc ?_ hb ho bX
   constructor<;>(try dsimp only)<;>first|assumption|omega|(intro hh;omega)|(intro hh;simp[ho]at hh;done)|(intro _;assumption)|(simp;omega)
  ·constructor<;>(try dsimp only)<;>first|assumption|omega|(intro hh;omega)|(intro hh;simp[ho]at hh;done)|(intro _;assumption)|(simp;omega)|(intro _;simp;omega)
 ·rename_i e
  have BJ:g.pc=12:=J
  obtain⟨ZY,PX⟩:=mw BJ
  have e2:=gA hc PX
  dsimp only
  split
  ·refine⟨hw.Yr hc J IV (ee _ _ _),?_⟩
   refine GK.tU hc ?_ hb ho
   have hl:=aF g.snap (bT c g.oa) (lT 2 (aG (at_ g.snap (bT c g.oa))/4) (aL (at_ g.snap (bT c g.oa))))
   constructor<;>(try dsimp only)<;>first|assumption|omega|(intro hh;omega)|(intro hh;simp[ho]at hh;done)|(intro _;assumption)
  ·refine⟨hw,?_⟩
   dsimp only
   constructor<;>(try dsimp only)<;>first|assumption|omega|(intro hh;omega)|(intro hh;simp[ho]at hh;done)|(intro _;assumption)|(simp;omega)
theorem PL(hc:c.ok)(hw:WK c ws)(hg:GK c g)(hb:g.busy=true)(hp:13≤g.pc∧g.pc≤15):SK c (fk c ws g):=by
 have cL:=hc
 unfold aM.ok at cL
 have hh:26≤aP c:=by unfold aP;omega
 have hG:=hg
 obtain⟨b1,b0,os,slot,ao,next,pc,seq,aX,aK,gn,gk,snap,eA,time,own,mK,mw,my,mz,nO,ax,sq,zJ⟩:=hg
 have ho:g.own=false:=by cases ho:g.own with|false=>rfl|true=>have:=own ho;omega
 have hs:=sq J
 have e1:du c g.slot=aP c+21*g.slot:=by rw[ke hc slot];unfold bx aP;omega
 have mu:∀w:Int,GK c {g with bw:=w}:=fun w=>by constructor<;>(try dsimp only)<;>assumption
 unfold fk
 dsimp only
 split
 ·rename_i e
  have jQ:=my (.inl e)
  split
  ·exact⟨hw,(mu _).complete hc _ _⟩
  ·refine⟨hw,?_⟩
   dsimp only
   constructor<;>(try dsimp only)<;>first|assumption|omega|(intro hh;omega)|(intro hh;simp[ho]at hh;done)|(intro _;assumption)
 ·split
  ·rename_i e
   have jQ:=my (.inr e)
   split
   ·refine⟨hw,?_⟩
    dsimp only
    constructor<;>(try dsimp only)<;>first|assumption|omega|(intro hh;omega)|(intro hh;simp[ho]at hh;done)|(intro _;assumption)
   ·have HH:ci g.written:=by
     unfold ag.written;split
     ·exact bh _ _
     ·have:LX c (at_ g.ax (g.gk-1)):=ax _ (at_mem ⟨J,J⟩)
      exact this.1
    refine⟨?_,?_⟩
    ·dsimp only
     split
     ·refine hw.put J HH J (fun h1 h2 h3=>?_) hc
      have gY:g.gk≠0:=by
       intro h0
       apply h2
       rw[e1,h0]
       omega
      unfold ag.written
      rw[if_neg gY]
      exact ax _ (at_mem ⟨J,J⟩)
     ·exact hw
    ·dsimp only
     split
     ·constructor<;>(try dsimp only)<;>first|assumption|omega|(intro hh;omega)|(intro hh;simp[ho]at hh;done)|(intro _;assumption)
     ·constructor<;>(try dsimp only)<;>first|assumption|omega|(intro hh;omega)|(intro hh;simp[ho]at hh;done)|(intro _;assumption)
  ·split
   ·refine⟨hw.inD hc slot hs,?_⟩
    refine GK.cont hc ?_ hb (fun _=>rfl) aV hs
    constructor<;>(try dsimp only)<;>first|assumption|omega|(intro hh;omega)|(intro hh;simp at hh;done)|(intro _;assumption)
   ·exact⟨hw,hG.complete hc _ _⟩
theorem Oc(hc:c.ok)(hw:WK c ws)(hg:GK c g)(hb:g.busy=true)(hp:16≤g.pc∧g.pc≤20):SK c (fQ c ws g):=by
 have cL:=hc
 unfold aM.ok at cL
 have hh:26≤aP c:=by unfold aP;omega
 obtain⟨b1,b0,os,slot,ao,next,pc,seq,aX,aK,gn,gk,snap,eA,time,own,mK,mw,my,mz,nO,ax,sq,zJ⟩:=hg
 have ho:g.own=false:=by cases ho:g.own with|false=>rfl|true=>have:=own ho;omega
 have e2:=gA hc aX
 unfold fQ
 dsimp only
 split
 ·refine⟨hw,?_⟩
  dsimp only
  constructor<;>(try dsimp only)<;>first|assumption|omega|(intro hh;omega)|(intro hh;simp[ho]at hh;done)|(intro _;assumption)|(split<;>omega)|(intro hh;split at hh<;>omega)
 split
 ·refine⟨hw,?_⟩
  dsimp only
  constructor<;>(try dsimp only)<;>first|assumption|omega|(intro hh;omega)|(intro hh;simp[ho]at hh;done)|(intro _;assumption)
 split
 ·refine⟨hw,?_⟩
  dsimp only
  constructor<;>(try dsimp only)<;>first|assumption|omega|(intro hh;omega)|(intro hh;simp[ho]at hh;done)|(intro _;assumption)|(split<;>omega)|(intro hh;split at hh<;>omega)
 split
 ·refine⟨hw.swH hc J IV (ee _ _ _),?_⟩
  dsimp only
  constructor<;>(try dsimp only)<;>first|assumption|omega|(intro hh;omega)|(intro hh;simp[ho]at hh;done)|(intro _;assumption)
 ·refine⟨hw.swD hc J J,?_⟩
  dsimp only
  constructor<;>(try dsimp only)<;>first|assumption|omega|(intro hh;omega)|(intro hh;simp[ho]at hh;done)|(intro _;assumption)
theorem Tl(hc:c.ok)(hw:WK c ws)(hg:GK c g)(hb:g.busy=true)(hp:21≤g.pc∧g.pc≤24):SK c (kt c ws g):=by
 have cL:=hc
 unfold aM.ok at cL
 have hh:26≤aP c:=by unfold aP;omega
 obtain⟨b1,b0,os,slot,ao,next,pc,seq,aX,aK,gn,gk,snap,eA,time,own,mK,mw,my,mz,nO,ax,sq,zJ⟩:=hg
 have hs:=sq J
 have e1:du c g.aX=aP c+21*g.aX:=by rw[ke hc aX];unfold bx aP;omega
 have hq:=kI (bm ws (du c g.aX))
 unfold kt
 dsimp only
 split
 ·have ho:g.own=false:=by cases ho:g.own with|false=>rfl|true=>have:=own ho;omega
  split
  ·refine⟨hw,?_⟩
   dsimp only
   constructor<;>(try dsimp only)<;>first|assumption|omega|(intro hh;omega)|(intro hh;simp[ho]at hh;done)|(intro _;assumption)
  ·refine⟨hw,GK.cont hc ?_ hb (fun h=>by simp[ho]at h) aV hs⟩
   constructor<;>(try dsimp only)<;>first|assumption|omega|(intro hh;omega)|(intro hh;simp at hh;done)|(intro _;assumption)
 split
 ·rename_i e
  have ho:g.own=false:=by cases ho:g.own with|false=>rfl|true=>have:=own ho;omega
  have mC:=mz J
  refine⟨hw,?_⟩
  dsimp only
  have l1:bm ws (du c g.aX+g.gk)=at_ ws (du c g.aX+g.gk):=dD J
  rw[l1]
  have hE:aL (at_ ws (du c g.aX+g.gk))=g.seq→LX c (at_ ws (du c g.aX+g.gk)):=fun h=>hw.TC _ J J J
  by_cases hx:aL (at_ ws (du c g.aX+g.gk))=g.seq
  ·rw[if_neg (fun h=>h hx)]
   have hE:=hE hx
   constructor<;>(try dsimp only)<;>first|assumption|omega|(intro hh;omega)|(intro hh;simp[ho]at hh;done)|(intro _ hh;simp[ho]at hh;done)|(intro _;assumption)
  ·rw[if_pos hx]
   constructor<;>(try dsimp only)<;>first|assumption|omega|(intro hh;omega)|(intro hh;simp[ho]at hh;done)|(intro _;assumption)
 have mC:=mz J
 have nX:=nO J
 have hE:=zJ J
 have Ga:=hE.out
 split
 ·split
  ·refine⟨hw,GK.cont hc ?_ hb nX py hs⟩
   constructor<;>(try dsimp only)<;>first|assumption|omega|(intro hh;omega)|(intro hh;simp at hh;done)|(intro _;assumption)
  ·refine⟨hw,?_⟩
   dsimp only
   constructor<;>(try dsimp only)<;>first|assumption|omega|(intro hh;omega)|(intro _;assumption)|(intro _;omega)
 ·split
  ·refine⟨hw.Yr hc J J (bh _ _),GK.cont hc ?_ hb nX py hs⟩
   constructor<;>(try dsimp only)<;>first|assumption|omega|(intro hh;omega)|(intro hh;simp at hh;done)|(intro _;assumption)
  ·refine⟨hw,?_⟩
   dsimp only
   constructor<;>(try dsimp only)<;>first|assumption|omega|(intro hh;omega)|(intro _;assumption)|(intro _;omega)
theorem Q5(hc:c.ok)(hw:WK c ws)(hg:GK c g)(hb:g.busy=true)(hp:25≤g.pc):SK c (iK ws g):=by
 have cL:=hc
 unfold aM.ok at cL
 have hh:26≤aP c:=by unfold aP;omega
 have hG:=hg
 obtain⟨b1,b0,os,slot,ao,next,pc,seq,aX,aK,gn,gk,snap,eA,time,own,mK,mw,my,mz,nO,ax,sq,zJ⟩:=hg
 unfold iK
 split
 ·exact⟨hw.swD hc J J,hG.complete hc _ _⟩
 ·refine⟨hw.swD hc J J,?_⟩
  dsimp only
  split
  ·exact hG.complete hc _ _
  ·rename_i ho
   constructor<;>(try dsimp only)<;>first|assumption|omega|(intro hh;omega)|(intro hh;exact absurd hh ho)|(intro _;assumption)
end
end AH
namespace AH
open Go Go.Proofs Ho
set_option maxRecDepth 20000
set_option maxHeartbeats 4000000
theorem Rq{c:aM}{ws:List Int}{g:ag}(hc:c.ok)(hw:WK c ws)(hg:GK c g)(hb:g.busy=true):SK c (cW c ws g):=by
 have h1:=hg.Ix hb
 have h2:=hg.pc
 unfold cW
 split
 ·exact MD hc hw hg hb bZ
 split
 ·exact PP hc hw hg hb J
 split
 ·exact J7 hc hw hg hb J
 split
 ·exact PL hc hw hg hb J
 split
 ·exact Oc hc hw hg hb J
 split
 ·exact Tl hc hw hg hb J
 ·exact Q5 hc hw hg hb J
structure PK(c:aM)(x:List Int×List ag):Prop where
 w:WK c x.1
 g:∀g∈x.2,GK c g
 n:x.2.length≤6
theorem PK.nD{c:aM}(hc:c.ok){ws:List Int}{gs:List ag}(h:PK c (ws,gs)):nD ws gs:=by
 have hk:=h.w.check hc
 simp only at hk
 refine⟨by rw[hk],h.n,fun g hg=>by rw[hk];exact(h.g g hg).bW hc⟩
theorem PK.PC{c:aM}(hc:c.ok){ws:List Int}{gs:List ag}(h:PK c (ws,gs)):check ws=(c,true):=h.w.check hc
theorem PK.set{c:aM}{ws ws':List Int}{gs:List ag}(h:PK c (ws,gs))(hw:WK c ws'){g:ag}(hg:GK c g)(i:Nat):PK c (ws',gs.set i g):=by
 refine⟨hw,fun x hx=>?_,by simp only[List.length_set];exact h.n⟩
 rcases List.mem_or_eq_of_mem_set hx with hx|rfl
 ·exact h.g x hx
 ·exact hg
theorem PK.one{c:aM}(hc:c.ok){ws:List Int}{gs:List ag}(h:PK c (ws,gs))(i:Nat):PK c ((nC ws gs i).1,(nC ws gs i).2.1):=by
 have hk:=h.PC hc
 unfold nC
 simp only[hk]
 split
 ·exact h
 ·rename_i hn
  have hu:(gs.getD i ag.zero).up=true:=by
   cases hq:(gs.getD i ag.zero).up with
   |true=>rfl
   |false=>exact absurd (.inl hq) hn
  have hb:(gs.getD i ag.zero).busy=true:=by
   cases hq:(gs.getD i ag.zero).busy with
   |true=>rfl
   |false=>exact absurd (.inr hq) hn
  have hs:=Rq hc h.w (h.g _ (As hu)) hb
  exact h.set hs.w hs.g i
theorem PK.steps{c:aM}(hc:c.ok)(i:Nat):∀(k:Nat) (w:List Int×List ag),PK c w→PK c (km i k w):=by
 intro k
 induction k with
 |zero=>intro w h;exact h
 |succ k ih=>
  intro w h
  exact ih _ (PK.one (ws:=w.1) (gs:=w.2) hc h i)
theorem ME{c:aM}(hc:c.ok){k:Int}(hk:0≤k∧k<c.am):GK c (iX k):=by
 have cL:=hc
 unfold aM.ok at cL
 have hh:0≤aP c:=by unfold aP;omega
 unfold iX ag.zero
 constructor<;>(try dsimp only)<;>first|omega|(intro hh;omega)|(intro hh;cases hh;done)|(simp;done)|(simp;omega)
theorem GK.up{c:aM}{g:ag}(h:GK c g)(b:Bool):GK c {g with up:=b}:=by
 obtain⟨b1,b0,os,slot,ao,next,pc,seq,aX,aK,gn,gk,snap,eA,time,own,mK,mw,my,mz,nO,ax,sq,zJ⟩:=h
 constructor<;>(try dsimp only)<;>assumption
theorem GK.asked{c:aM}(hc:c.ok){g:ag}(h:GK c g)(k a b:Int):GK c (ag.asked g k a b):=by
 have h0:=h
 unfold ag.asked
 split
 ·exact h
 rename_i hn
 have hb:g.busy=false:=by
  cases hq:g.busy with
  |false=>rfl
  |true=>exact absurd (.inr (.inl hq)) hn
 have hg:GK c {g with aE:=k,aH:=g.slot,oa:=a,ob:=b}:=by
  obtain⟨b1,b0,os,slot,ao,next,pc,seq,aX,aK,gn,gk,snap,eA,time,own,mK,mw,my,mz,nO,ax,sq,zJ⟩:=h
  have zX:¬1≤g.pc:=fun h=>by rw[b0 h]at hb;cases hb
  constructor<;>(try dsimp only)<;>first|assumption|(intro _;rfl)|(intro hh;omega)
 dsimp only
 split
 ·exact hg.complete hc _ _
 split
 ·exact hg.complete hc _ _
 split
 ·exact hg.complete hc _ _
 ·obtain⟨b1,b0,os,slot,ao,next,pc,seq,aX,aK,gn,gk,snap,eA,time,own,mK,mw,my,mz,nO,ax,sq,zJ⟩:=h
  have zX:¬1≤g.pc:=fun h=>by rw[b0 h]at hb;cases hb
  have ho:g.own=false:=by cases ho:g.own with|false=>rfl|true=>have:=own ho;omega
  by_cases hk:k=1
  ·rw[if_pos hk]
   constructor<;>(try dsimp only)<;>first|assumption|omega|(intro _;rfl)|(intro hh;omega)|(intro hh;simp[ho]at hh;done)
  ·rw[if_neg hk]
   constructor<;>(try dsimp only)<;>first|assumption|omega|(intro _;rfl)|(intro hh;omega)|(intro hh;simp[ho]at hh;done)
theorem WK.tick{c:aM}(hc:c.ok){ws:List Int}(h:WK c ws)(n:Int):WK c (jE ws n):=by
 unfold jE
 split
 ·exact h
 ·exact h.put J (bh _ _) J (fun h=>by unfold aP at h;unfold aM.ok at hc;omega) hc
theorem PK.do{c:aM}(hc:c.ok){ws:List Int}{gs:List ag}(h:PK c (ws,gs))(e:Ev):PK c (uj ws gs e):=by
 unfold uj
 split
 ·unfold qa
  rw[h.PC hc]
  split
  ·rename_i hh
   refine⟨h.w,fun g hg=>?_,bX⟩
   rcases List.mem_append.1 hg with hg|hg
   ·exact h.g g hg
   ·obtain rfl:=List.mem_singleton.1 hg
    exact ME hc hh.2
  ·exact h
 split
 ·exact⟨h.w.tick hc _,h.g,h.n⟩
 split
 ·exact h
 rename_i hw
 have hm:gs.getD e.aX.toNat ag.zero∈gs:=by
  have:e.aX.toNat<gs.length:=J
  rw[List.getD_eq_getElem?_getD,List.getElem?_eq_getElem this]
  exact List.getElem_mem _
 have hg:=h.g _ hm
 split
 ·exact h.set h.w (hg.up false) _
 split
 ·exact h.set h.w (hg.asked hc _ _ _) _
 split
 ·exact PK.steps hc _ _ _ h
 ·exact h
theorem Pw(n:Nat)(k:Int):at_ (List.replicate n (0:Int)) k=0:=by
 unfold at_
 rw[List.getD_eq_getElem?_getD,List.getElem?_replicate]
 split<;>rfl
theorem I6{c:aM}(hc:c.ok):WK c (format c):=by
 have cL:=hc
 unfold aM.ok at cL
 have hl:(format c).length=c.size.toNat:=by unfold format;rw[aF,aF];simp
 have hs:47≤c.size:=by unfold aM.size;omega
 have h2:at_ (format c) 2=pack 0 1:=by
  unfold format
  rw[ik,if_pos ⟨rfl,by rw[aF];simp;omega⟩]
 have h0:∀a:Int,a.toNat≠0→a.toNat≠2→at_ (format c) a=0:=fun a z1 z2=>by
  unfold format
  rw[ik,if_neg (fun h=>z2 (by have:=h.1;simpa using this)),ik,if_neg (fun h=>z1 (by have:=h.1;simpa using this)),Pw]
 refine⟨J,?_,oA c,?_,?_,?_⟩
 ·unfold format
  rw[ik,if_neg aV,ik,if_pos ⟨rfl,bX⟩]
 ·rw[h2,lb];unfold bU;omega
 ·rw[h2,je];unfold bU;omega
 ·intro a h3 h4 h5
  have ha:7≤a:=by unfold aP at h3;omega
  rw[h0 a J J]at h5
  unfold aL at h5
  omega
theorem KF{c:aM}(hc:c.ok):∀(dZ:List Ev) (w:List Int×List ag),PK c w→PK c (jF w dZ):=by
 intro dZ
 induction dZ with
 |nil=>intro w h;exact h
 |cons e l ih=>intro w h;exact ih _ (PK.do (ws:=w.1) (gs:=w.2) hc h e)
theorem KE{c:aM}(hc:c.ok){dZ:List Ev}{ws:List Int}{gs:List ag}(h:(ws,gs)=jF (format c,[]) dZ):PK c (ws,gs):=
 h▸KF hc dZ (format c,[]) ⟨I6 hc,fun g hg=>(by cases hg),aV⟩
end AH
namespace AH
open Go Go.Proofs Ho
set_option maxRecDepth 20000
set_option maxHeartbeats 4000000
def QB(ws:List Int)(gs:List ag):Prop:=(check ws).2=true→∀g∈gs,0≤g.aX∧g.aX<(check ws).1.am
theorem qY{ws:List Int}(h:(check ws).2=true):at_ ws 0=gH (check ws).1∧(check ws).1.ok:=by
 unfold check whole at h⊢
 split at h
 ·cases h
 ·rename_i h0
  rw[if_neg h0]
  dsimp only at h⊢
  split at h
  ·rename_i h2
   rw[if_pos h2]
   exact⟨h2.2.1,h2.1⟩
  ·cases h
theorem GD{c d:aM}(hc:c.ok)(hd:d.ok)(h:gH c=gH d):c=d:=by
 have e:∀{c:aM},c.ok→aG (gH c)=c.am+8*c.ah+64*c.bH:=fun {c} hc=>by
  unfold aM.ok at hc
  unfold gH;rw[lb];unfold bU;omega
 have h1:=e hc
 have h2:=e hd
 rw[h]at h1
 unfold aM.ok at hc hd
 cases c;cases d
 simp only at*
 congr 1<;>omega
theorem QB.of{c:aM}(hc:c.ok){ws ws':List Int}{gs gs':List ag}(h:PK c (ws,gs))(h0:at_ ws' 0=at_ ws 0∨aL (at_ ws' 0)≤8)(hg:∀g'∈gs',g'.aX=0∨∃g∈gs,g'.aX=g.aX):QB ws' gs':=by
 intro hk g' Qk
 obtain⟨m1,m2⟩:=qY hk
 have XU:(check ws').1=c:=by
  rcases h0 with h0|h0
  ·exact GD m2 hc (by rw[←m1,h0];exact h.w.fmt)
  ·rw[m1]at h0
   unfold gH at h0
   rw[je]at h0
   unfold bU at h0
   omega
 rw[XU]
 have cL:=hc
 unfold aM.ok at cL
 rcases hg g' Qk with h1|⟨g,h1,h2⟩
 ·omega
 ·have:=(h.g g h1).aX
  omega
theorem QB.id{c:aM}(hc:c.ok){ws:List Int}{gs:List ag}(h:PK c (ws,gs)):QB ws gs:=QB.of hc h (.inl rfl) fun g hg=> .inr ⟨g,hg,rfl⟩
theorem Mn{ws:List Int}{x:Int}(h:1≤ws.length):at_ (ws++[x]) 0=at_ ws 0:=by
 unfold at_
 rw[List.getD_eq_getElem?_getD,List.getD_eq_getElem?_getD]
 have h2:Int.toNat 0<ws.length:=by simp;omega
 rw[List.getElem?_append_left h2]
theorem xr{a b:Int}(hb:b≤8):aL (pack a b)≤8:=by rw[je];unfold bU;omega
theorem AZ{gs:List (ag×U×U)}{g g':ag}{sv pv:U}(hx:gs[0]? =some (g,sv,pv))(h:g'.aX=g.aX):∀y∈(gs.set 0 (g',sv,pv)).map (·.1),y.aX=0∨∃z∈gs.map (·.1),y.aX=z.aX:=by
 intro y hy
 obtain⟨w,hw,rfl⟩:=List.mem_map.1 hy
 rcases List.mem_or_eq_of_mem_set hw with hw|rfl
 ·exact .inr ⟨_,List.mem_map_of_mem hw,rfl⟩
 ·exact .inr ⟨g,List.mem_map.2 ⟨_,List.mem_of_getElem? hx,rfl⟩,h⟩
theorem El{gs:List (ag×U×U)}{g':ag}{sv pv:U}(h:g'.aX=0):∀y∈(gs++[(g',sv,pv)]).map (·.1),y.aX=0∨∃z∈gs.map (·.1),y.aX=z.aX:=by
 intro y hy
 obtain⟨w,hw,rfl⟩:=List.mem_map.1 hy
 rcases List.mem_append.1 hw with hw|hw
 ·exact .inr ⟨_,List.mem_map_of_mem hw,rfl⟩
 ·obtain rfl:=List.mem_singleton.1 hw
  exact .inl h
end AH
namespace AH
open Go Go.Proofs Ho
set_option maxRecDepth 20000
set_option maxHeartbeats 16000000
theorem Px{l:List Int}{a b:Int}(h:∀x∈l,a≤x∧x≤b){j:Int}(hj:0≤j∧j<l.length):a≤at_ l j∧at_ l j≤b:=h _ (at_mem hj)
theorem wY(I:af)(i:Nat)(bv:U)(bs:List Int)(p:Int)(hr:Rd I i bv bs p)(hp:p≤800000000):
 Fn Tryz.prog 78 [.ptr i 0] I fun x R=>∃(c:aM) (j:Nat) (v:U) (gb:Nat) (ws:List Int) (gs:List (ag×U×U)) (dZ:List Ev) (q:Int),x= .agg [.sl j 0 ws.length 1,v]∧
  c.ok∧(ws,gs.map (·.1))=jF (format c,[]) dZ∧(dZ.length:Int)≤63∧gm R (I.n+1) 60000 j v gb ws gs∧Rd R i bv bs q∧p≤q∧q≤p+10001∧(∀y,y<I.n→NE y i→R.get y=I.get y):=by
 generalize hG:(fun(x:U) (R:af)=>∃(c:aM) (j:Nat) (v:U) (gb:Nat) (ws:List Int) (gs:List (ag×U×U)) (dZ:List Ev) (q:Int),x=U.agg [.sl j 0 ws.length 1,v]∧
  c.ok∧(ws,gs.map (·.1))=jF (format c,[]) dZ∧(dZ.length:Int)≤63∧gm R (I.n+1) 60000 j v gb ws gs∧Rd R i bv bs q∧p≤q∧q≤p+10001∧(∀y,y<I.n→NE y i→R.get y=I.get y))=GG
 have hi:=hr.hi
 have zX:=hr.hp
 have hn:=Px (l:=[0,4,10,20,35,50,60]) (a:=0) (b:=60) aV (dC (bs:=bs) (k:=p) (n:=7) J)
 refine bA aZ mixed Tryz.func78 (by kernel_rfl) rfl (by kernel_rfl) ?_
 simp+contextual (maxSteps:=1000000) (disch:=first|exact dB|fail) [go_sem,int_lt,-Int.not_le,-Int.not_lt,-List.map_set]
 (repeat refine Alt.mk ?_)
 generalize at_ [0,4,10,20,35,50,60] (cY bs p 7)=m at hn⊢
 refine bb (fun σ1=>σ1.n=I.n+1+1∧(∀y,y<I.n→NE y i→σ1.get y=I.get y)∧σ1.get i=some ⟨[bv,.int .i64 (p+1)],true⟩∧σ1.get I.n=some ⟨[.al,.al],true⟩) ?_ ?_
 ·exact⟨by simp only[au,az],sV,aI,aI⟩
 rintro σ1 ⟨x1,x2,x3,x4⟩
 have Dp:=hr.go (q:=p+1) J x3 x2 J
 refine aw (LM σ1 i bv bs (p+1) Dp J m hn) ?_
 rintro x R jq ⟨c,j,v,gb,ws,gs,eb,dZ,q,rfl,y1,y2,y3,y4,y5,y6,y7,y8,y9,y10⟩
 have iv:=y4.aQ
 have z4:R.get I.n=_:=(y8 _ J aD).trans x4
 have lZ:I.n<R.n:=J
 simp+contextual (maxSteps:=1000000) (disch:=first|exact dB|fail) [go_sem,int_lt,-Int.not_le,-Int.not_lt,-List.map_set,z4]
 (repeat refine Alt.mk ?_)
 rw[←hG]
 have BP:∀(X Y:cT) (y:Nat),y<R.n→NE y I.n→((R.push X).set I.n Y).get y=R.get y:=fun X Y y q1 q2=>by rw[ai q2.ne,ak q1]
 have Uh:∀(X Y:cT) (y:Nat),y<R.n→NE y I.n→((R.set I.n Y).push X).get y=R.get y:=fun X Y y q1 q2=>by rw[ak (by simp only[az];exact q1),ai q2.ne]
 have hbn:cn bv≠I.n∨bv= .al:=hJ hr.hb (Nat.le_refl _)
 first
  |exact⟨c,j,v,gb,ws,gs,dZ,q,rfl,y1,y2,y3,(y4.DI (z:=I.n) J mV (BP _ _)).low J,(y5.push).set J hbn,J,J,fun y q1 q2=>by rw[BP _ _ y J aD,y8 y J q2,x2 y q1 q2]⟩
  |exact⟨c,j,v,gb,ws,gs,dZ,q,rfl,y1,y2,y3,(y4.DI (z:=I.n) J mV (Uh _ _)).low J,(y5.set J hbn).push,J,J,fun y q1 q2=>by rw[Uh _ _ y J aD,y8 y J q2,x2 y q1 q2]⟩
theorem PI.adc{c:aM}(hc:c.ok):∀(dZ:List Ev) (w:List Int×List ag) (B:Int),1≤B→PI B (format c).length w→PI (B+800*dZ.length) (format c).length (jF w dZ):=by
 intro dZ
 induction dZ with
 |nil=>intro w B _ h;simpa[jF]using h
 |cons e l ih=>
  intro w B hB h
  have:=ih _ (B+800) J (PI.do hB h e)
  simp only[jF,List.foldl_cons,List.length_cons]at this⊢
  exact this.le J
theorem Az{c:aM}(hc:c.ok){dZ:List Ev}{ws:List Int}{gs:List ag}(h:(ws,gs)=jF (format c,[]) dZ):(ws.length:Int)≤300:=by
 have h1:PI (1+800*dZ.length) (format c).length (ws,gs):=h▸PI.adc hc dZ (format c,[]) 1 J ⟨rfl,oA c,fun g hg=>(by cases hg)⟩
 have h2:=h1.len
 rw[s_]at h2
 unfold aM.ok at hc
 unfold aM.size at h2
 simp only at h2
 omega
theorem GW.Po{B:Int}(hB:0≤B):GW B {ag.zero with slot:=5}:=by
 refine⟨?_,?_,?_,?_,?_,?_,?_,?_,?_,?_,?_,xV,xV,xV,xV,?_,?_,?_,?_,?_⟩<;>simp[ag.zero]<;>omega
theorem GA.A'{I R:af}{lo z:Nat}{B:Int}{j gb j' gb':Nat}{x:ag×U×U}(h:GA I lo B j gb x)(hn:I.n≤R.n)(hz:fo x.2.1 z∧fo x.2.2 z)(hf:∀y,lo≤y→y<I.n→NE y z→R.get y=I.get y)(hj:j'=j∨I.n≤j')(hg:gb'=gb∨gb'=j∨I.n≤gb'):RL R lo B j' gb' x:=by
 have a1:fo x.2.1 j':=by
  rcases hj with rfl|hj
  ·exact h.sj
  ·exact hJ h.s hj
 have a2:fo x.2.2 j':=by
  rcases hj with rfl|hj
  ·exact h.pj
  ·exact hJ h.p hj
 have a3:fo x.2.1 gb':=by
  rcases hg with rfl|rfl|hg
  ·exact h.sg
  ·exact h.sj
  ·exact hJ h.s hg
 have a4:fo x.2.2 gb':=by
  rcases hg with rfl|rfl|hg
  ·exact h.pg
  ·exact h.pj
  ·exact hJ h.p hg
 exact⟨GI.uk h.gi,h.s.Hp hn hz.1 h.sl hf,h.p.Hp hn hz.2 h.pl hf,a1,a2,a3,a4,h.sl,h.pl,h.Gw⟩
theorem gm.ab'{I R:af}{lo:Nat}{B:Int}{j:Nat}{v:U}{gb:Nat}{ws ws':List Int}{gs:List (ag×U×U)}(h:gm I lo B j v gb ws gs){j':Nat}(hn:I.n≤R.n)(hj:I.n≤j'∧j'<R.n)(hw:R.get j'=some ⟨ws'.map (.int .u64),true⟩)(W:∀w∈ws',ci w)(hl:(ws'.length:Int)≤1000000)(h2:2≤ws'.length)
 (hf:∀y,lo≤y→y<I.n→NE y j→R.get y=I.get y):∃gb',uE R lo B j' v gb' ws' gs:=by
 obtain⟨a1,a2,a3,a4,a5,a6,l2,a7,a8,a9,a0⟩:=h
 cases a8 with
 |none=>exact⟨j',hj.2,hw,J,J,W,hl,h2,J,.none,fun x hx=>(by cases hx),a0⟩
 | @some gb m gs h0 h1 vK h3 h4=>
   refine⟨gb,hj.2,hw,J,a4,W,hl,h2,J,.some h0 h1 J aD ((hf gb a4 vK h3).trans h4),fun x hx=>?_,a0⟩
   have Aa:=a9 x hx
   exact Aa.A' hn ⟨Aa.sj,Aa.pj⟩ hf (.inr hj.1) (.inl rfl)
theorem gm.RB{I R:af}{lo:Nat}{B:Int}{j:Nat}{v:U}{gb:Nat}{ws ws':List Int}{gs:List (ag×U×U)}(h:gm I lo B j v gb ws gs)(hn:I.n≤R.n)(hw:R.get j=some ⟨ws'.map (.int .u64),true⟩)(hf:∀y,lo≤y→y<I.n→NE y j→R.get y=I.get y)(W:∀w∈ws',ci w)(hl:ws'.length=ws.length):uE R lo B j v gb ws' gs:=by
 obtain⟨a1,a2,a3,a4,a5,a6,l2,a7,a8,a9,a0⟩:=h
 refine⟨J,hw,a3,a4,W,J,J,J,?_,fun x hx=>?_,a0⟩
 ·cases a8 with
  |none=>exact .none
  |some h0 h1 h2 h3 h4=>exact .some h0 h1 J h3 ((hf _ a4 h2 h3).trans h4)
 ·have Aa:=a9 x hx
  exact Aa.A' hn ⟨Aa.sj,Aa.pj⟩ hf (.inl rfl) (.inl rfl)
theorem gm.Vm{I R:af}{lo:Nat}{B:Int}{j:Nat}{v:U}{gb:Nat}{ws:List Int}{gs:List (ag×U×U)}(h:gm I lo B j v gb ws gs){gb' z:Nat}{g':ag}(hn:I.n≤R.n)(hb:I.n≤gb'∧gb'<R.n)(hg:R.get gb'=some ⟨bJ (gs++[(g',.al,.al)]),true⟩)(hW:GW B g')(hI:kY g')(hs:g'.snap=[])(hp:g'.ax=[])
 (hz:NE j z) (ha:kq z gs) (hf:∀y,lo≤y→y<I.n→NE y z→R.get y=I.get y):uE R lo B j (.sl gb' 0 (gs.length+1) 26) gb' ws (gs++[(g',.al,.al)]):=by
 obtain⟨a1,a2,a3,a4,a5,a6,l2,a7,a8,a9,a0⟩:=h
 refine⟨J,(hf j a3 a1 hz).trans a2,a3,J,a5,a6,l2,bX,.some aV J hb.2 aD hg,fun x hx=>?_,a0⟩
 rcases List.mem_append.1 hx with hx|hx
 ·exact(a9 x hx).A' hn (ha x hx) hf (.inl rfl) (.inr (.inr hb.1))
 ·obtain rfl:=List.mem_singleton.1 hx
  exact⟨hW,by simp only[hs];exact .nil,by simp only[hp];exact .nil,.inr rfl,.inr rfl,.inr rfl,.inr rfl,.inr rfl,.inr rfl,hI⟩
theorem gm.Tu{I R:af}{lo:Nat}{B:Int}{j:Nat}{gb m:Nat}{ws:List Int}{gs:List (ag×U×U)}(h:gm I lo B j (.sl gb 0 m 26) gb ws gs){g g':ag}{sv pv:U}(hm:gs.length=m)(h0:1≤m)(rc:gb<I.n)(hx:gs[0]? =some (g,sv,pv))(h3:NE gb j)(hn:I.n≤R.n)(hg:R.get gb=some ⟨bJ (gs.set 0 (g',sv,pv)),true⟩)(hW:GW B g')(hI:kY g')(hs:g'.snap=g.snap)(hp:g'.ax=g.ax)
 (hf:∀y,lo≤y→y<I.n→NE y gb→R.get y=I.get y):uE R lo B j (.sl gb 0 m 26) gb ws (gs.set 0 (g',sv,pv)):=by
 obtain⟨a1,a2,a3,a4,a5,a6,l2,a7,a8,a9,a0⟩:=h
 refine⟨J,(hf j a3 a1 (NE.sw h3)).trans a2,a3,a4,a5,a6,l2,bX,.some (by simp[hm]) h0 J h3 hg,fun x Aa=>?_,a0⟩
 rcases List.mem_or_eq_of_mem_set Aa with Aa|rfl
 ·have hh:=a9 x Aa
  exact hh.A' hn ⟨hh.sg,hh.pg⟩ hf (.inl rfl) (.inl rfl)
 ·have hh:=(a9 _ (List.mem_of_getElem? hx)).A' hn ⟨(a9 _ (List.mem_of_getElem? hx)).sg,(a9 _ (List.mem_of_getElem? hx)).pg⟩ hf (.inl rfl) (.inl rfl)
  exact⟨hW,by simp only[hs];exact hh.s,by simp only[hp];exact hh.p,hh.sj,hh.pj,hh.sg,hh.pg,hh.sl,hh.pl,hI⟩
theorem LF(I:af)(i:Nat)(bv:U)(bs:List Int)(p:Int)(hr:Rd I i bv bs p)(hp:p≤700000000):
 Fn Tryz.prog 99 [.ptr i 0] I fun x R=>∃(j:Nat) (v:U) (gb:Nat) (ws:List Int) (gs:List (ag×U×U)) (q:Int),x= .agg [.sl j 0 ws.length 1,v]∧
  uE R (I.n+1) 60000 j v gb ws gs∧Rd R i bv bs q∧p≤q∧q≤p+10010∧(∀y,y<I.n→NE y i→R.get y=I.get y)∧QB ws (gs.map (·.1)):=by
 generalize hG:(fun(x:U) (R:af)=>∃(j:Nat) (v:U) (gb:Nat) (ws:List Int) (gs:List (ag×U×U)) (q:Int),x=U.agg [.sl j 0 ws.length 1,v]∧
  uE R (I.n+1) 60000 j v gb ws gs∧Rd R i bv bs q∧p≤q∧q≤p+10010∧(∀y,y<I.n→NE y i→R.get y=I.get y)∧QB ws (gs.map (·.1)))=GG
 have hi:=hr.hi
 have zX:=hr.hp
 refine bA ns mixed Tryz.func99 (by kernel_rfl) rfl (by kernel_rfl) ?_
 simp+contextual (maxSteps:=1000000) (disch:=first|exact dB|fail) [go_sem,int_lt,-Int.not_le,-Int.not_lt,-List.map_set,ns]
 (repeat refine Alt.mk ?_)
 refine bb (fun σ1=>σ1.n=I.n+1∧(∀y,y<I.n→NE y i→σ1.get y=I.get y)∧σ1.get i=some ⟨[bv,.int .i64 p],true⟩∧σ1.get I.n=some ⟨[.al,.al],true⟩) ?_ ?_
 ·exact⟨by simp only[au,az],sV,by first|(first|exact bn|fail)|(rw[ak hi];exact hr.hg),aI⟩
 rintro σ1 ⟨x1,x2,x3,x4⟩
 have Dp:=hr.go (q:=p) J x3 x2 J
 refine aw (wY σ1 i bv bs p Dp J) ?_
 rintro x R jq ⟨c,j,v,gb,ws,gs,dZ,q,rfl,y1,y2,y3,W,y5,y6,y7,y8⟩
 have iv:=W.aQ
 have z4:R.get I.n=some ⟨[.al,.al],true⟩:=(y8 _ J aD).trans x4
 have lZ:I.n<R.n:=J
 have jn:∀y,y<I.n→NE y i→R.get y=I.get y:=fun y q1 q2=>(y8 y J q2).trans (x2 y q1 q2)
 have pk:=fun(k n:Int) (hn:1≤n)=>dC (bs:=bs) (k:=k) (n:=n) hn
 have fin:∀(τ':af) (j':Nat) (v':U) (gb':Nat) (ws':List Int) (gs':List (ag×U×U)) (Q:Int),uE τ' (σ1.n+1) 60000 j' v' gb' ws' gs'→τ'.get i=some ⟨[bv,.int .i64 Q],true⟩→p≤Q∧Q≤p+10010→(∀y,y<I.n→NE y i→τ'.get y=I.get y)→QB ws' (gs'.map (·.1))→GG (.agg [.sl j' 0 ws'.length 1,v']) τ':=by
  intro τ' j' v' gb' ws' gs' Q z1 z2 z3 z5 z6
  rw[←hG]
  have M1:I.n≤τ'.n:=by have:=z1.hj;have:=z1.lj;omega
  exact⟨j',v',gb',ws',gs',Q,rfl,z1.low J,hr.go M1 z2 z5 J,J,J,z5,z6⟩
 clear hG
 have Jf:=KE y1 y2
 have Dh:1≤ws.length:=by have:=W.l2;omega
 generalize hK:cY bs q 40=K
 have hj:=W.hj
 have hw:=W.hw
 have lj:=W.lj
 have lg:=W.lg
 have len:=Az y1 y2
 have l2:=W.l2
 have m6:=W.m6
 have ljn:¬j=i:=J
 have abP:¬j=I.n:=J
 have lgi:¬gb=i:=J
 have lgn:¬gb=I.n:=J
 have Sb:=W.W
 have rg:=y5.hg
 have aak:=W.XF
 have qE:I.n+1≤σ1.n:=J
 have low:∀y,σ1.n+1≤y→¬y=i∧¬y=I.n:=fun y hy=>by omega
 have PN:∀(τ':af) (Q:Int),R.n≤τ'.n→(∀y,σ1.n+1≤y→y<R.n→τ'.get y=R.get y)→τ'.get i=some ⟨[bv,.int .i64 Q],true⟩→p≤Q∧Q≤p+10010→(∀y,y<I.n→NE y i→τ'.get y=R.get y)→GG (.agg [.sl j 0 ws.length 1,v]) τ':=by
  intro τ' Q z1 z2 z3 z5 z6
  exact fin τ' j v gb ws gs Q (gm.uk (W.Hp (z:=i) z1 aD aD (W.ss J) (fun y q1 q2 _=>z2 y q1 q2))) z3 z5 (fun y q1 q2=>(z6 y q1 q2).trans (jn y q1 q2)) (QB.id y1 Jf)
 by_cases k0:K=0
 ·have ahZ:ws.length≤1000000:=J
  simp+contextual (maxSteps:=1000000) (disch:=first|exact dB|fail) [go_sem,int_lt,-Int.not_le,-Int.not_lt,-List.map_set,ns,z4,hK,k0]
  (repeat refine Alt.mk ?_)
  obtain⟨gb',hB⟩:=W.ab' (ws':=ws++[0]) (j':=R.n+1+1) (R:=((((((R.set i ⟨[bv,.int .i64 (q+1)],true⟩).kill j).set I.n ⟨[.sl (R.n+1+1) 0 (ws.length+1) 1,v],true⟩).push ⟨[.sl (R.n+1+1) 0 (ws.length+1) 1,v],true⟩).push ⟨[.int .u64 0],true⟩).push ⟨ws.map (.int .u64)++[.int .u64 0],true⟩)) vB ⟨J,by simp only[au,az,aR];omega⟩ (by rw[List.map_append];(first|exact bn|fail)) (by
   intro w hw'
   rcases List.mem_append.1 hw' with h|h
   ·exact Sb w h
   ·obtain rfl:=List.mem_singleton.1 h;exact xV) bX bX (fun y z1 z2 z3=>by have:=low y z1;(first|exact bn|fail))
  have rR:=fin _ _ _ _ _ _ (q+1) hB aI J (fun y z1 z2=>(by(first|exact bn|fail):_=R.get y).trans (jn y z1 z2)) (QB.of y1 Jf (.inl (Mn Dh)) fun g hg=> .inr ⟨g,hg,rfl⟩)
  simp only[List.length_append,List.length_singleton]at rR
  exact rR
 by_cases k1:K=1
 ·obtain⟨ab,hR⟩:∃ab:Nat,cY bs (q+1) ws.length=ab:=⟨(cY bs (q+1) ws.length).toNat,by have:=pk (q+1) ws.length J;omega⟩
  have rU:ab<ws.length:=by have:=pk (q+1) ws.length J;omega
  simp+contextual (maxSteps:=1000000) (disch:=first|exact dB|fail) [go_sem,int_lt,-Int.not_le,-Int.not_lt,-List.map_set,ns,z4,hK,k0,k1,hR,rU,hw]
  (repeat refine Alt.mk ?_)
  have Gk:=jH (kk:= .u64) (ws:=ws) (a:=ab) (x:=pack (cY bs (q+2) 9) (cY bs (q+3) 9)) J J
  simp only[Int.toNat_natCast]at Gk
  rw[Gk]
  have rR:=fun τ'=>fin τ' j v gb (put ws ab (pack (cY bs (q+2) 9) (cY bs (q+3) 9))) gs (q+4)
  rw[aF]at rR
  refine rR _ (W.RB bc aI (fun y z1 z2 z3=>?_) (bQ Sb (bh _ _)) (aF _ _ _)) ?_ ?_ (fun y z1 z2=>?_) (QB.of y1 Jf (by rw[ik];split;exact .inr (xr (by have:=pk (q+3) 9 J;omega));exact .inl rfl) fun g hg=> .inr ⟨g,hg,rfl⟩)
  ·have:=low y z1
   (first|exact bn|fail)
  ·(first|exact bn|fail)
  ·omega
  ·exact(by(first|exact bn|fail):_=R.get y).trans (jn y z1 z2)
 have hv:=W.hv
 by_cases k2:K=2
 ·cases hv with
  |none=>
   simp+contextual (maxSteps:=1000000) (disch:=first|exact dB|fail) [go_sem,int_lt,-Int.not_le,-Int.not_lt,-List.map_set,ns,z4,hK,k0,k1,k2]
   (repeat refine Alt.mk ?_)
   refine fin _ j _ (R.n+1+1) ws ([]++[({ag.zero with slot:=5} ,.al,.al)]) (q+1) (W.Vm (z:=i) (gb':=R.n+1+1) (g':={ag.zero with slot:=5}) bc ⟨J,by simp only[au,az];omega⟩ ?_ (GW.Po J) (fun _=>rfl) rfl rfl aD (W.ss J) (fun y z1 z2 z3=>?_)) ?_ ?_ (fun y z1 z2=>?_) (QB.of y1 Jf (.inl rfl) (El rfl))
   ·show _=some (cT.mk (gV {ag.zero with slot:=5} .al .al++[]) true)
    simp only[List.append_nil]
    (first|exact bn|fail)
   ·have:=low y z1
    (first|exact bn|fail)
   ·(first|exact bn|fail)
   ·omega
   ·exact(by(first|exact bn|fail):_=R.get y).trans (jn y z1 z2)
  | @some gb m gs h0 h1 h2 h3 h4=>
    have hm:m≤1000:=J
    simp+contextual (maxSteps:=1000000) (disch:=first|exact dB|fail) [go_sem,int_lt,-Int.not_le,-Int.not_lt,-List.map_set,ns,z4,hK,k0,k1,k2,h4]
    (repeat refine Alt.mk ?_)
    have hA:kq gb gs:=by
     intro x hx
     exact⟨(W.G x hx).sg,(W.G x hx).pg⟩
    subst h0
    refine fin _ j _ (R.n+1+1) ws (gs++[({ag.zero with slot:=5},.al,.al)]) (q+1) (W.Vm (z:=gb) (gb':=R.n+1+1) (g':={ag.zero with slot:=5}) vB ⟨J,by simp only[au,az,aR];omega⟩ ?_ (GW.Po J) (fun _=>rfl) rfl rfl (NE.sw h3) hA (fun y z1 z2 z3=>?_)) ?_ ?_ (fun y z1 z2=>?_) (QB.of y1 Jf (.inl rfl) (El rfl))
    ·rw[←rb]
     (first|exact bn|fail)
    ·have:=low y z1
     (first|exact bn|fail)
    ·(first|exact bn|fail)
    ·omega
    ·exact(by(first|exact bn|fail):_=R.get y).trans (jn y z1 z2)
 by_cases k3:K=3
 ·cases hv with
  |none=>
   simp+contextual (maxSteps:=1000000) (disch:=first|exact dB|fail) [go_sem,int_lt,-Int.not_le,-Int.not_lt,-List.map_set,ns,z4,hK,k0,k1,k2,k3]
   (repeat refine Alt.mk ?_)
   refine PN _ (q+1) vB (fun y z1 z2=>?_) ?_ ?_ (fun y z1 z2=>?_)
   ·have:=low y z1
    (first|exact bn|fail)
   ·(first|exact bn|fail)
   ·omega
   ·(first|exact bn|fail)
  | @some gb m gs h0 h1 h2 h3 h4=>
    obtain⟨⟨g,sv,pv⟩,hx⟩:∃x,gs[0]? =some x:=⟨gs[0]'(by omega),aV⟩
    have dU:=dr hx
    have hlen:26≤(bJ gs).length:=by rw[dq];omega
    simp only[Nat.zero_mul,List.drop_zero]at dU
    simp+contextual (maxSteps:=1000000) (disch:=first|exact dB|fail) [go_sem,int_lt,-Int.not_le,-Int.not_lt,-List.map_set,ns,z4,hK,k0,k1,k2,k3,h4,dU,hlen]
    (repeat refine Alt.mk ?_)
    refine⟨fun _=>Alt.mk ?_,fun h=>by omega⟩
    have hc:=m9 (f:=8) hx J (.int .i64 (cY bs (q+1) 26)) {g with pc:=cY bs (q+1) 26} rfl
    simp only[Nat.zero_mul,Nat.zero_add]at hc
    rw[hc]
    have hrg:=pk (q+1) 26 J
    have oe:=W.G _ (List.mem_of_getElem? hx)
    refine fin _ j _ gb ws (gs.set 0 ({g with pc:=cY bs (q+1) 26},sv,pv)) (q+2) (W.Tu (g:=g) (g':={g with pc:=cY bs (q+1) 26}) h0 h1 h2 hx h3 bc aI ?_ oe.Gw rfl rfl (fun y z1 z2 z3=>?_)) ?_ ?_ (fun y z1 z2=>?_) (QB.of y1 Jf (.inl rfl) (AZ hx rfl))
    ·obtain⟨b1,b2,b3,b4,b5,b6,b7,b8,b9,Mr,ZF,ZG,Xh,ZH,ZI,ZJ,Tq,ZK,ZL,ZM⟩:=GI.uk oe.gi
     exact⟨b1,b2,⟨hrg.1,py⟩,b4,b5,b6,b7,b8,b9,Mr,ZF,ZG,Xh,ZH,ZI,ZJ,Tq,ZK,ZL,ZM⟩
    ·have:=low y z1
     (first|exact bn|fail)
    ·(first|exact bn|fail)
    ·omega
    ·exact(by(first|exact bn|fail):_=R.get y).trans (jn y z1 z2)
 by_cases k4:K=4
 ·cases hv with
  |none=>
   simp+contextual (maxSteps:=1000000) (disch:=first|exact dB|fail) [go_sem,int_lt,-Int.not_le,-Int.not_lt,-List.map_set,ns,z4,hK,k0,k1,k2,k3,k4]
   (repeat refine Alt.mk ?_)
   refine PN _ (q+1) vB (fun y z1 z2=>?_) ?_ ?_ (fun y z1 z2=>?_)
   ·have:=low y z1
    (first|exact bn|fail)
   ·(first|exact bn|fail)
   ·omega
   ·(first|exact bn|fail)
  | @some gb m gs h0 h1 h2 h3 h4=>
    obtain⟨⟨g,sv,pv⟩,hx⟩:∃x,gs[0]? =some x:=⟨gs[0]'(by omega),aV⟩
    have dU:=dr hx
    have hlen:26≤(bJ gs).length:=by rw[dq];omega
    simp only[Nat.zero_mul,List.drop_zero]at dU
    simp+contextual (maxSteps:=1000000) (disch:=first|exact dB|fail) [go_sem,int_lt,-Int.not_le,-Int.not_lt,-List.map_set,ns,z4,hK,k0,k1,k2,k3,k4,h4,dU,hlen]
    (repeat refine Alt.mk ?_)
    refine⟨fun _=>Alt.mk ?_,fun h=>by omega⟩
    have hc:=m9 (f:=9) hx J (.int .i64 (cY bs (q+1) 40)) {g with gk:=cY bs (q+1) 40} rfl
    simp only[Nat.zero_mul,Nat.zero_add]at hc
    rw[hc]
    have hrg:=pk (q+1) 40 J
    have oe:=W.G _ (List.mem_of_getElem? hx)
    refine fin _ j _ gb ws (gs.set 0 ({g with gk:=cY bs (q+1) 40},sv,pv)) (q+2) (W.Tu (g:=g) (g':={g with gk:=cY bs (q+1) 40}) h0 h1 h2 hx h3 bc aI ?_ oe.Gw rfl rfl (fun y z1 z2 z3=>?_)) ?_ ?_ (fun y z1 z2=>?_) (QB.of y1 Jf (.inl rfl) (AZ hx rfl))
    ·obtain⟨b1,b2,b3,b4,b5,b6,b7,b8,b9,Mr,ZF,ZG,Xh,ZH,ZI,ZJ,Tq,ZK,ZL,ZM⟩:=GI.uk oe.gi
     exact⟨b1,b2,b3,⟨hrg.1,py⟩,b5,b6,b7,b8,b9,Mr,ZF,ZG,Xh,ZH,ZI,ZJ,Tq,ZK,ZL,ZM⟩
    ·have:=low y z1
     (first|exact bn|fail)
    ·(first|exact bn|fail)
    ·omega
    ·exact(by(first|exact bn|fail):_=R.get y).trans (jn y z1 z2)
 ·simp+contextual (maxSteps:=1000000) (disch:=first|exact dB|fail) [go_sem,int_lt,-Int.not_le,-Int.not_lt,-List.map_set,ns,z4,hK,k0,k1,k2,k3,k4]
  (repeat refine Alt.mk ?_)
  refine PN _ (q+1) vB (fun y z1 z2=>?_) ?_ ?_ (fun y z1 z2=>?_)
  ·have:=low y z1
   (first|exact bn|fail)
  ·(first|exact bn|fail)
  ·omega
  ·(first|exact bn|fail)
end AH
namespace AH
open Go Go.Proofs Ho
set_option maxRecDepth 20000
set_option maxHeartbeats 16000000
end AH
