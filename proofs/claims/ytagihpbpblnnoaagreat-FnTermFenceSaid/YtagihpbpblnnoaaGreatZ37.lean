import Derived.Test.YtagihpbpblnnoaaGreatZ27
import Derived.Test.YtagihpbpblnnoaaGreatZ35
import Derived.Test.YtagihpbpblnnoaaGreatZ15
import Derived.Test.YtagihpbpblnnoaaGreatZ36
import Derived.Test.YtagihpbpblnnoaaGreatZ17
import Derived.Test.YtagihpbpblnnoaaGreatZ34
import Derived.Test.YtagihpbpblnnoaaGreatZ18
import Derived.Test.YtagihpbpblnnoaaGreatZ00
set_option linter.all false
namespace AH
open Go Go.Proofs Ho
set_option maxRecDepth 20000
set_option maxHeartbeats 16000000
structure w8(I R:af)(r j:Nat)(c:aM)(ws:List Int)(g:ag)(m:Nat)(pv:U)(ev:Int):Prop where
 hg:R.get r=some ⟨rG j ws.length c g (.sl m 0 g.snap.length 1) pv ev,true⟩
 hw:R.get j=some ⟨ws.map (.int .u64),true⟩
 fr:∀y,y<I.n→NE y r→NE y j→R.get y=I.get y
 n:I.n≤R.n
 m1:I.n≤m
 m2:m<R.n
 hm:R.get m=some ⟨g.snap.map (.int .u64),true⟩
theorem w8.done{I R:af}{r j:Nat}{c:aM}{ws:List Int}{g:ag}{m:Nat}{pv:U}{ev:Int}(h:w8 I R r j c ws g m pv ev){sv:U}{l:List Int}:qk I R r j c sv pv l g.ax ⟨ws,g,ev⟩:=
 ⟨_,_,h.hg,h.hw,h.fr,h.n,.inr ⟨bu.own h.m2 h.hm,.inl h.m1⟩,.inl ⟨rfl,rfl⟩⟩
theorem NV.low{n n':Nat}{R:af}{v v':U}{l l':List Int}(h:NV n' R v v' l l')(hn:n≤n'):NV n R v v' l l':=by
 rcases h with h|⟨h1,h2⟩
 ·exact .inl h
 ·refine .inr ⟨h1,?_⟩
  rcases h2 with h|h
  ·exact .inl J
  ·exact .inr h
theorem w8.on{I R τ':af}{r j:Nat}{c:aM}{ws:List Int}{g:ag}{m:Nat}{pv:U}{ev:Int}(h:w8 I R r j c ws g m pv ev)(hr:r<I.n)(hj:j<I.n){sv:U}{l p:List Int}{o:SO}(h':qk R τ' r j c (.sl m 0 g.snap.length 1) pv g.snap p o):qk I τ' r j c sv pv l p o:=by
 obtain⟨dS,dg,a1,a2,a3,a4,a5,a6⟩:=h'
 have q1:=h.m1
 have q2:=h.m2
 have q3:=h.n
 have a7:=h.hm
 refine⟨dS,dg,a1,a2,?_,J,?_,a6.low h.n⟩
 ·intro y y1 y2 y3
  rw[a3 y J y2 y3,h.fr y y1 y2 y3]
 ·rcases a5 with⟨x1,x2⟩|⟨x1,x2⟩
  ·have e:τ'.get m=some ⟨g.snap.map (.int .u64),true⟩:=by rw[a3 m q2 aD aD];exact a7
   refine .inr ⟨?_,.inl ?_⟩
   ·rw[x1,x2];exact bu.own J e
   ·rw[x1];exact q1
  ·refine .inr ⟨x1,?_⟩
   rcases x2 with x|x
   ·exact .inl J
   ·exact .inr x
theorem w8.go{I R:af}{r j:Nat}{c:aM}{ws:List Int}{g:ag}{m:Nat}{pv:U}{ev:Int}(h:w8 I R r j c ws g m pv ev)(hr:r<I.n)(hj:j<I.n)(ne:NE r j)(lp:ey pv)(sW:∀w∈g.snap,ci w)(sl:(g.snap.length:Int)≤1000000):Fm R r j c ws g (.sl m 0 g.snap.length 1) pv ev:=by
 have q1:=h.m1
 have q2:=h.m2
 have q3:=h.n
 exact⟨J,J,ne,h.hg,h.hw,bu.own q2 h.hm,lp,.inl il,.inl il,sW,sl⟩
theorem D8(I:af)(r j:Nat)(c:aM)(ws:List Int)(g:ag)(sv pv:U)(h:uy I r j c ws g sv pv)(hs:bu .u64 I sv g.snap)(sr:fo sv r)(sj:fo sv j)(hc:0≤c.am∧c.am≤7)
 (sW:∀w∈g.snap,ci w) (sl:(g.snap.length:Int)≤999999) (eU:11≤g.pc∧g.pc≤12) (lh:g.pc=11→(g.snap.length:Int)=g.gk) (nW:g.pc=12→7≤(g.snap.length:Int)∧0≤g.oa∧g.oa≤7):
 Fn Tryz.prog 153 [.ptr r 0] I fun x R=>x= .cw []∧qk I R r j c sv pv g.snap g.ax (eh c ws g):=by
 refine bA oT mixed Tryz.func153 (by kernel_rfl) rfl (by kernel_rfl) ?_
 have oL:=h
 obtain⟨hr,hj,ne,hg,hw,hW,hl,gs,⟨c1,c2,c3,c4,c5,c6⟩,ls,lp⟩:=h
 obtain⟨g1,g2,g3,g4,g5,g6,g7,g8,g9,MF,xx,⟨w1,w2,w3,w4,w5,w6⟩⟩:=gs
 by_cases e1:g.pc=11
 ·have k1:=lh e1
  have hm:eh c ws g=⟨ws,if g.gk+1=aP c then({g with snap:=g.snap++[bm ws g.gk],gk:=g.gk+1}:ag).cr c else {g with snap:=g.snap++[bm ws g.gk],gk:=g.gk+1},0⟩:=by unfold eh;rw[if_pos e1]
  rw[hm]
  have nK:=dE hW g.gk
  have kM:∀w∈g.snap++[bm ws g.gk],ci w:=by
   intro w hw
   rcases List.mem_append.1 hw with h|h
   ·exact sW w h
   ·rw[List.mem_singleton.1 h];exact nK
  have hlen:(g.snap++[bm ws g.gk]).length=g.snap.length+1:=by simp
  have Qu:(g.snap++[bm ws g.gk]).map (U.int .u64)=g.snap.map (U.int .u64)++[.int .u64 (bm ws g.gk)]:=by simp
  obtain⟨L,hL⟩:∃L,g.snap++[bm ws g.gk]=L:=⟨_,rfl⟩
  rw[hL]at kM hlen Qu⊢
  by_cases b1:g.gk+1=aP c
  ·rw[if_pos b1]
   generalize hG:(⟨ws,({g with snap:=L,gk:=g.gk+1}:ag).cr c,0⟩:SO)=o
   simp+contextual (maxSteps:=1000000) (disch:=first|exact dB|fail) [go_sem,int_lt,-Int.not_le,-Int.not_lt,-List.map_set,oT,hg,hw,e1,b1]
   (repeat refine Alt.mk ?_)
   refine bb (fun R=>w8 I R r j c ws {g with snap:=L,gk:=g.gk+1} (I.n+1+1+1+1) pv 0) ?_ ?_
   ·constructor
    ·simp only[hlen,b1,e1]
     (first|exact bn|fail)
    ·(first|exact bn|fail)
    ·intro y y1 y2 y3
     (first|exact bn|fail)
    ·simp only[au,az,aR];omega
    ·omega
    ·simp only[au,az,aR];omega
    ·simp only[Qu];(first|exact bn|fail)
   ·intro R hM
    refine aw (D7 R r j c ws _ _ pv 0 (hM.go hr hj ne lp kM (by simp only;omega)) hc ⟨J,J⟩ ⟨J,J⟩ (by simp only;omega)) ?_
    rintro x τ' hn ⟨rfl,hR⟩
    simp+contextual (maxSteps:=1000000) (disch:=first|exact dB|fail) [go_sem,int_lt,-Int.not_le,-Int.not_lt,-List.map_set,oT]
    (repeat refine Alt.mk ?_)
    exact hG▸hM.on hr hj hR
  ·rw[if_neg b1]
   generalize hG:(⟨ws,{g with snap:=L,gk:=g.gk+1},0⟩:SO)=o
   have hM:∀R,w8 I R r j c ws {g with snap:=L,gk:=g.gk+1} (I.n+1+1+1+1) pv 0→qk I R r j c sv pv g.snap g.ax o:=fun R h=>hG▸h.done
   clear hG
   simp+contextual (maxSteps:=1000000) (disch:=first|exact dB|fail) [go_sem,int_lt,-Int.not_le,-Int.not_lt,-List.map_set,oT,hg,hw,e1,b1]
   (repeat refine Alt.mk ?_)
   refine hM _ ?_
   constructor
   ·simp only[hlen,e1]
    (first|exact bn|fail)
   ·(first|exact bn|fail)
   ·intro y y1 y2 y3
    (first|exact bn|fail)
   ·simp only[au,az,aR];omega
   ·omega
   ·simp only[au,az,aR];omega
   ·simp only[Qu];(first|exact bn|fail)
 have e2:g.pc=12:=J
 obtain⟨k1,k2,k3⟩:=nW e2
 have p1:=tS hc g.oa
 have w1:=bF sW (bT c g.oa)
 have v1:=aO (w:=at_ g.snap (bT c g.oa))
 have q1:bT c g.oa<(g.snap.length:Int):=J
 by_cases b1:dp ws (bT c g.oa) (at_ g.snap (bT c g.oa))
 ·obtain⟨cut,Qe⟩:∃cut,lT 2 (aG (at_ g.snap (bT c g.oa))/4) (aL (at_ g.snap (bT c g.oa)))=cut:=⟨_,rfl⟩
  have hm:eh c ws g=⟨put ws (bT c g.oa) cut,({g with aX:=g.oa,snap:=put g.snap (bT c g.oa) cut}:ag).dH,2⟩:=by
   unfold eh;rw[if_neg e1];simp only;rw[if_pos b1,Qe]
  rw[hm]
  generalize hG:(⟨put ws (bT c g.oa) cut,({g with aX:=g.oa,snap:=put g.snap (bT c g.oa) cut}:ag).dH,2⟩:SO)=o
  have sr':cn sv≠r∨sv= .al:=sr
  have sj':cn sv≠j∨sv= .al:=sj
  simp+contextual (maxSteps:=1000000) (disch:=first|exact dB|fail) [go_sem,int_lt,-Int.not_le,-Int.not_lt,-List.map_set,oT,hg,hw,e1,e2,b1,dc,Qe]
  (repeat refine Alt.mk ?_)
  have hcW:ci cut:=by rw[←Qe];exact ee _ _ _
  have dO:(put g.snap (bT c g.oa) cut).length=g.snap.length:=eu _ _ _
  have St:(put ws (bT c g.oa) cut).length=ws.length:=eu _ _ _
  have hpW:∀w∈put g.snap (bT c g.oa) cut,ci w:=bQ sW hcW
  refine bb (fun R=>w8 I R r j c (put ws (bT c g.oa) cut) {g with aX:=g.oa,snap:=put g.snap (bT c g.oa) cut} (I.n+1+1) pv 2) ?_ ?_
  ·constructor
   ·simp only[dO,St,e2]
    (first|exact bn|fail)
   ·(first|exact bn|fail)
   ·intro y y1 y2 y3
    (first|exact bn|fail)
   ·simp only[au,az,aR];omega
   ·omega
   ·simp only[au,az,aR];omega
   ·(first|exact bn|fail)
  ·intro R hM
   refine aw (nE R r j c _ _ _ pv 2 (hM.go hr hj ne lp hpW (by simp only;omega))) ?_
   rintro x τ' hn ⟨rfl,hR⟩
   simp+contextual (maxSteps:=1000000) (disch:=first|exact dB|fail) [go_sem,int_lt,-Int.not_le,-Int.not_lt,-List.map_set,oT]
   (repeat refine Alt.mk ?_)
   exact hG▸hM.on hr hj hR
 ·have hm:eh c ws g=⟨ws,{g with gk:=0,snap:=[],pc:=11},0⟩:=by unfold eh;rw[if_neg e1];simp only;rw[if_neg b1]
  rw[hm]
  generalize hG:(⟨ws,{g with gk:=0,snap:=[],pc:=11},0⟩:SO)=o
  have bt:=dF hw
  have hM:∀R,R.get r=some ⟨rG j ws.length c {g with gk:=0,snap:=[],pc:=11} .al pv 0,true⟩→R.get j=some ⟨ws.map (.int .u64),true⟩→(∀y,y<I.n→NE y r→NE y j→R.get y=I.get y)→I.n≤R.n→qk I R r j c sv pv g.snap g.ax o:=by
   intro R x1 x2 x3 x4
   rw[←hG]
   exact⟨.al,pv,x1,x2,x3,x4,.inr ⟨.nil,.inr rfl⟩,.inl ⟨rfl,rfl⟩⟩
  clear hG
  simp+contextual (maxSteps:=1000000) (disch:=first|exact dB|fail) [go_sem,int_lt,-Int.not_le,-Int.not_lt,-List.map_set,oT,hg,hw,e1,e2,b1,dc,bt]
  (repeat refine Alt.mk ?_)
  refine hM _ ?_ ?_ ?_ ?_
  ·(first|exact bn|fail)
  ·(first|exact bn|fail)
  ·intro y y1 y2 y3
   (first|exact bn|fail)
  ·simp only[au,az,aR];omega
end AH
namespace AH
open Go Go.Proofs Ho
set_option maxRecDepth 20000
set_option maxHeartbeats 16000000
theorem LV.nv{n:Nat}{R:af}{v v':U}{l l':List Int}(h:LV v v' l l'):NV n R v v' l l':=by
 rcases h with h|⟨rfl,rfl⟩
 ·exact .inl h
 ·exact .inr ⟨.nil,.inr rfl⟩
theorem NV.set{n:Nat}{R:af}{v v':U}{l l':List Int}{y:Nat}{X:cT}(h:NV n R v v' l l')(hy:y<n):NV n (R.set y X) v v' l l':=by
 rcases h with h|⟨h,h2⟩
 ·exact .inl h
 ·refine .inr ⟨h.set ?_,h2⟩
  rcases h2 with h2|h2
  ·exact .inl J
  ·exact .inr h2
theorem NV.aQ{n:Nat}{R:af}{v v':U}{l l':List Int}(h:NV n R v v' l l')(hv:ey v):ey v':=by
 rcases h with⟨rfl,_⟩|⟨h,_⟩
 ·exact hv
 ·exact h.aQ
theorem nT{I:af}{r j:Nat}{c:aM}{ws:List Int}{g:ag}{sv pv dS dg:U}{o:SO}(h:uy I r j c ws g sv pv)(h1:LV sv dS g.snap o.g.snap)(h2:LV pv dg g.ax o.g.ax):
 qk I (fj I r j c o dS dg) r j c sv pv g.snap g.ax o:=
 ⟨dS,dg,by rw[fj,bo],by rw[fj,ai (Ne.symm h.ne),bo],fun y y1 y2 y3=>by rw[fj,ai y2.ne,ai y3.ne],bj,h1.nv,h2.nv⟩
theorem HZ{B:Int}{g:ag}(h:GI B g)(hB:B≤900000):GS g:=
 ⟨by have:=h.slot;omega,by have:=h.ao;omega,h.pc,by have:=h.gk;omega,h.gn,h.seq,h.aX,h.aK,h.time,by have:=h.count;omega,by have:=h.next;omega,⟨h.bw,h.door,h.aT,h.entry,h.E7,h.KD⟩⟩
theorem Bl(I:af)(j:Nat)(c:aM)(ws:List Int)(g:ag)(sv pv:U)(B:Int)(hB:B≤900000)(hI:GI B g)(hj:j<I.n)(hw:I.get j=some ⟨ws.map (.int .u64),true⟩)(hW:∀w∈ws,ci w)(hl:(ws.length:Int)≤1000000)
 (hs:bu .u64 I sv g.snap) (hp:bu .u64 I pv g.ax) (sj:fo sv j) (pj:fo pv j) (hc:0≤c.am∧c.am≤7∧0≤c.ah∧c.ah≤10∧0≤c.bH∧c.bH≤1000000) (eU:1≤g.pc):
 Fn Tryz.prog 90 [.sl j 0 ws.length 1,.agg [.int .i64 c.am,.int .i64 c.ah,.int .i64 c.bH],.agg (gV g sv pv)] I fun x R=>∃dS dg,x= .cw [.sl j 0 (cW c ws g).ws.length 1,.agg (gV (cW c ws g).g dS dg),.int .i64 (cW c ws g).ev]∧
  R.get j=some ⟨(cW c ws g).ws.map (.int .u64),true⟩∧(∀y,y<I.n→NE y j→R.get y=I.get y)∧NV I.n R sv dS g.snap (cW c ws g).g.snap∧NV I.n R pv dg g.ax (cW c ws g).g.ax:=by
 refine bA j9 mixed Tryz.func90 (by kernel_rfl) rfl (by kernel_rfl) ?_
 have gs:=HZ hI hB
 have i1:=hs.aQ
 have i2:=hp.aQ
 have ahl:=hI.pc
 generalize hO:cW c ws g=O
 have fin:∀(σ1 R:af) (r:Nat),I.n≤r→I.n≤σ1.n→(∀y,y<I.n→σ1.get y=I.get y)→qk σ1 R r j c sv pv g.snap g.ax O→∃dS dg,R.get r=some ⟨rG j O.ws.length c O.g dS dg O.ev,true⟩∧(∀y,y<σ1.n→NE y r→NE y j→R.get y=σ1.get y)∧σ1.n≤R.n∧R.get j=some ⟨O.ws.map (.int .u64),true⟩∧(∀y,y<I.n→NE y j→R.get y=I.get y)∧NV σ1.n R sv dS g.snap O.g.snap∧NV σ1.n R pv dg g.ax O.g.ax:=by
  rintro σ1 R r hr hn hf ⟨dS,dg,a1,a2,a3,a4,a5,a6⟩
  exact⟨dS,dg,a1,a3,a4,a2,fun y y1 y2=>by rw[a3 y J aD y2,hf y y1],a5,a6⟩
 have run:∀(σ1:af) (r:Nat),I.n≤r→r<σ1.n→(∀y,y<I.n→σ1.get y=I.get y)→σ1.get r=some ⟨rG j ws.length c g sv pv 0,true⟩→uy σ1 r j c ws g sv pv∧bu .u64 σ1 sv g.snap∧bu .u64 σ1 pv g.ax∧(cn sv≠r∨sv= .al)∧(cn pv≠r∨pv= .al):=by
  intro σ1 r hr yG hf hg
  refine⟨⟨yG,J,J,hg,(hf j hj).trans hw,hW,hl,gs,J,i1,i2⟩,hs.frame J hf,hp.frame J hf,?_,?_⟩
  ·rcases hs.ex with⟨rfl,_⟩|⟨i,k,rfl,h1,_⟩
   ·exact .inr rfl
   ·exact .inl il
  ·rcases hp.ex with⟨rfl,_⟩|⟨i,k,rfl,h1,_⟩
   ·exact .inr rfl
   ·exact .inl il
 by_cases b0:g.pc≤8
 ·unfold cW at hO; rw[if_pos b0]at hO
  simp+contextual (maxSteps:=1000000) (disch:=first|exact dB|fail) [go_sem,int_lt,-Int.not_le,-Int.not_lt,-List.map_set,j9,b0]
  (repeat refine Alt.mk ?_)
  refine bb (fun σ1=>I.n+1+1+1<σ1.n∧(∀y,y<I.n→σ1.get y=I.get y)∧σ1.get (I.n+1+1+1)=some ⟨rG j ws.length c g sv pv 0,true⟩∧σ1.get (I.n+1+1)=some ⟨gV ag.zero .al .al,true⟩) ?_ ?_
  ·refine⟨by simp only[au,az,aR];omega,?_,?_,?_⟩
   ·(intro j_ xI;simp(disch:=first|exact NE.ne bZ|exact NE.sym bZ|omega|(simp only[au,az,aR,dw];omega)) only[ak,ai,bg,ef])
   ·(first|exact bn|fail)
   ·simp only[ag.zero];(first|exact bn|fail)
  rintro σ1 ⟨x1,x2,x3,x4⟩
  obtain⟨hR,q1,q2,q3,q4⟩:=run σ1 (I.n+1+1+1) J x1 x2 x3
  refine aw (wB σ1 (I.n+1+1+1) j c ws g sv pv hR ⟨eU,b0⟩) ?_
  rintro x R hn ⟨⟨s1,s2⟩,rfl,rfl,l1,l2⟩
  have hQ:=nT hR l1 l2
  rw[hO]at hQ
  rw[hO]at hn⊢
  generalize fj σ1 (I.n+1+1+1) j c O s1 s2=R at hQ hn⊢
  obtain⟨dS,dg,y1,y2,y3,y4,y5,y6,y7⟩:=fin σ1 R (I.n+1+1+1) J J x2 hQ
  have y8:=(y2 (I.n+1+1) J aD aD).trans x4
  have z1:=y6.aQ i1
  have z2:=y7.aQ i2
  simp+contextual (maxSteps:=1000000) (disch:=first|exact dB|fail) [go_sem,int_lt,-Int.not_le,-Int.not_lt,-List.map_set,j9,y1,y8]
  (repeat refine Alt.mk ?_)
  exact⟨y4,y5,(y6.set J).low J,(y7.set J).low J⟩
 by_cases b1:g.pc≤10
 ·unfold cW at hO;rw[if_neg b0]at hO;rw[if_pos b1]at hO
  simp+contextual (maxSteps:=1000000) (disch:=first|exact dB|fail) [go_sem,int_lt,-Int.not_le,-Int.not_lt,-List.map_set,j9,b0,b1]
  (repeat refine Alt.mk ?_)
  refine bb (fun σ1=>I.n+1+1+1<σ1.n∧(∀y,y<I.n→σ1.get y=I.get y)∧σ1.get (I.n+1+1+1)=some ⟨rG j ws.length c g sv pv 0,true⟩∧σ1.get (I.n+1+1)=some ⟨gV ag.zero .al .al,true⟩) ?_ ?_
  ·refine⟨by simp only[au,az,aR];omega,?_,?_,?_⟩
   ·(intro j_ xI;simp(disch:=first|exact NE.ne bZ|exact NE.sym bZ|omega|(simp only[au,az,aR,dw];omega)) only[ak,ai,bg,ef])
   ·(first|exact bn|fail)
   ·simp only[ag.zero];(first|exact bn|fail)
  rintro σ1 ⟨x1,x2,x3,x4⟩
  obtain⟨hR,q1,q2,q3,q4⟩:=run σ1 (I.n+1+1+1) J x1 x2 x3
  refine aw (Bf σ1 (I.n+1+1+1) j c ws g sv pv hR J) ?_
  rintro x R hn ⟨⟨s1,s2⟩,rfl,rfl,l1,l2⟩
  have hQ:=nT hR l1 l2
  rw[hO]at hQ
  rw[hO]at hn⊢
  generalize fj σ1 (I.n+1+1+1) j c O s1 s2=R at hQ hn⊢
  obtain⟨dS,dg,y1,y2,y3,y4,y5,y6,y7⟩:=fin σ1 R (I.n+1+1+1) J J x2 hQ
  have y8:=(y2 (I.n+1+1) J aD aD).trans x4
  have z1:=y6.aQ i1
  have z2:=y7.aQ i2
  simp+contextual (maxSteps:=1000000) (disch:=first|exact dB|fail) [go_sem,int_lt,-Int.not_le,-Int.not_lt,-List.map_set,j9,y1,y8]
  (repeat refine Alt.mk ?_)
  exact⟨y4,y5,(y6.set J).low J,(y7.set J).low J⟩
 by_cases b2:g.pc≤12
 ·unfold cW at hO;rw[if_neg b0]at hO;rw[if_neg b1]at hO;rw[if_pos b2]at hO
  simp+contextual (maxSteps:=1000000) (disch:=first|exact dB|fail) [go_sem,int_lt,-Int.not_le,-Int.not_lt,-List.map_set,j9,b0,b1,b2]
  (repeat refine Alt.mk ?_)
  refine bb (fun σ1=>I.n+1+1+1<σ1.n∧(∀y,y<I.n→σ1.get y=I.get y)∧σ1.get (I.n+1+1+1)=some ⟨rG j ws.length c g sv pv 0,true⟩∧σ1.get (I.n+1+1)=some ⟨gV ag.zero .al .al,true⟩) ?_ ?_
  ·refine⟨by simp only[au,az,aR];omega,?_,?_,?_⟩
   ·(intro j_ xI;simp(disch:=first|exact NE.ne bZ|exact NE.sym bZ|omega|(simp only[au,az,aR,dw];omega)) only[ak,ai,bg,ef])
   ·(first|exact bn|fail)
   ·simp only[ag.zero];(first|exact bn|fail)
  rintro σ1 ⟨x1,x2,x3,x4⟩
  obtain⟨hR,q1,q2,q3,q4⟩:=run σ1 (I.n+1+1+1) J x1 x2 x3
  refine aw (D8 σ1 (I.n+1+1+1) j c ws g sv pv hR q1 q3 sj ⟨hc.1,hc.2.1⟩ hI.E7 (by have:=hI.snap;omega) J hI.mK hI.mw) ?_
  rintro x R hn ⟨rfl,hQ⟩
  rw[hO]at hQ
  obtain⟨dS,dg,y1,y2,y3,y4,y5,y6,y7⟩:=fin σ1 R (I.n+1+1+1) J J x2 hQ
  have y8:=(y2 (I.n+1+1) J aD aD).trans x4
  have z1:=y6.aQ i1
  have z2:=y7.aQ i2
  simp+contextual (maxSteps:=1000000) (disch:=first|exact dB|fail) [go_sem,int_lt,-Int.not_le,-Int.not_lt,-List.map_set,j9,y1,y8]
  (repeat refine Alt.mk ?_)
  exact⟨y4,y5,(y6.set J).low J,(y7.set J).low J⟩
 by_cases b3:g.pc≤15
 ·unfold cW at hO;rw[if_neg b0]at hO;rw[if_neg b1]at hO;rw[if_neg b2]at hO;rw[if_pos b3]at hO
  simp+contextual (maxSteps:=1000000) (disch:=first|exact dB|fail) [go_sem,int_lt,-Int.not_le,-Int.not_lt,-List.map_set,j9,b0,b1,b2,b3]
  (repeat refine Alt.mk ?_)
  refine bb (fun σ1=>I.n+1+1+1<σ1.n∧(∀y,y<I.n→σ1.get y=I.get y)∧σ1.get (I.n+1+1+1)=some ⟨rG j ws.length c g sv pv 0,true⟩∧σ1.get (I.n+1+1)=some ⟨gV ag.zero .al .al,true⟩) ?_ ?_
  ·refine⟨by simp only[au,az,aR];omega,?_,?_,?_⟩
   ·(intro j_ xI;simp(disch:=first|exact NE.ne bZ|exact NE.sym bZ|omega|(simp only[au,az,aR,dw];omega)) only[ak,ai,bg,ef])
   ·(first|exact bn|fail)
   ·simp only[ag.zero];(first|exact bn|fail)
  rintro σ1 ⟨x1,x2,x3,x4⟩
  obtain⟨hR,q1,q2,q3,q4⟩:=run σ1 (I.n+1+1+1) J x1 x2 x3
  refine aw (Be σ1 (I.n+1+1+1) j c ws g sv pv hR q2 q4 pj (by have:=hI.ax;omega) (fun h=>⟨hI.gk.1,hI.my (.inr h)⟩) J) ?_
  rintro x R hn ⟨⟨s1,s2⟩,rfl,rfl,l1,l2⟩
  have hQ:=nT hR l1 l2
  rw[hO]at hQ
  rw[hO]at hn⊢
  generalize fj σ1 (I.n+1+1+1) j c O s1 s2=R at hQ hn⊢
  obtain⟨dS,dg,y1,y2,y3,y4,y5,y6,y7⟩:=fin σ1 R (I.n+1+1+1) J J x2 hQ
  have y8:=(y2 (I.n+1+1) J aD aD).trans x4
  have z1:=y6.aQ i1
  have z2:=y7.aQ i2
  simp+contextual (maxSteps:=1000000) (disch:=first|exact dB|fail) [go_sem,int_lt,-Int.not_le,-Int.not_lt,-List.map_set,j9,y1,y8]
  (repeat refine Alt.mk ?_)
  exact⟨y4,y5,(y6.set J).low J,(y7.set J).low J⟩
 by_cases b4:g.pc≤20
 ·unfold cW at hO;rw[if_neg b0]at hO;rw[if_neg b1]at hO;rw[if_neg b2]at hO;rw[if_neg b3]at hO;rw[if_pos b4]at hO
  simp+contextual (maxSteps:=1000000) (disch:=first|exact dB|fail) [go_sem,int_lt,-Int.not_le,-Int.not_lt,-List.map_set,j9,b0,b1,b2,b3,b4]
  (repeat refine Alt.mk ?_)
  refine bb (fun σ1=>I.n+1+1+1<σ1.n∧(∀y,y<I.n→σ1.get y=I.get y)∧σ1.get (I.n+1+1+1)=some ⟨rG j ws.length c g sv pv 0,true⟩∧σ1.get (I.n+1+1)=some ⟨gV ag.zero .al .al,true⟩) ?_ ?_
  ·refine⟨by simp only[au,az,aR];omega,?_,?_,?_⟩
   ·(intro j_ xI;simp(disch:=first|exact NE.ne bZ|exact NE.sym bZ|omega|(simp only[au,az,aR,dw];omega)) only[ak,ai,bg,ef])
   ·(first|exact bn|fail)
   ·simp only[ag.zero];(first|exact bn|fail)
  rintro σ1 ⟨x1,x2,x3,x4⟩
  obtain⟨hR,q1,q2,q3,q4⟩:=run σ1 (I.n+1+1+1) J x1 x2 x3
  refine aw (wC σ1 (I.n+1+1+1) j c ws g sv pv hR J) ?_
  rintro x R hn ⟨⟨s1,s2⟩,rfl,rfl,l1,l2⟩
  have hQ:=nT hR l1 l2
  rw[hO]at hQ
  rw[hO]at hn⊢
  generalize fj σ1 (I.n+1+1+1) j c O s1 s2=R at hQ hn⊢
  obtain⟨dS,dg,y1,y2,y3,y4,y5,y6,y7⟩:=fin σ1 R (I.n+1+1+1) J J x2 hQ
  have y8:=(y2 (I.n+1+1) J aD aD).trans x4
  have z1:=y6.aQ i1
  have z2:=y7.aQ i2
  simp+contextual (maxSteps:=1000000) (disch:=first|exact dB|fail) [go_sem,int_lt,-Int.not_le,-Int.not_lt,-List.map_set,j9,y1,y8]
  (repeat refine Alt.mk ?_)
  exact⟨y4,y5,(y6.set J).low J,(y7.set J).low J⟩
 by_cases b5:g.pc≤24
 ·unfold cW at hO;rw[if_neg b0]at hO;rw[if_neg b1]at hO;rw[if_neg b2]at hO;rw[if_neg b3]at hO;rw[if_neg b4]at hO;rw[if_pos b5]at hO
  simp+contextual (maxSteps:=1000000) (disch:=first|exact dB|fail) [go_sem,int_lt,-Int.not_le,-Int.not_lt,-List.map_set,j9,b0,b1,b2,b3,b4,b5]
  (repeat refine Alt.mk ?_)
  refine bb (fun σ1=>I.n+1+1+1<σ1.n∧(∀y,y<I.n→σ1.get y=I.get y)∧σ1.get (I.n+1+1+1)=some ⟨rG j ws.length c g sv pv 0,true⟩∧σ1.get (I.n+1+1)=some ⟨gV ag.zero .al .al,true⟩) ?_ ?_
  ·refine⟨by simp only[au,az,aR];omega,?_,?_,?_⟩
   ·(intro j_ xI;simp(disch:=first|exact NE.ne bZ|exact NE.sym bZ|omega|(simp only[au,az,aR,dw];omega)) only[ak,ai,bg,ef])
   ·(first|exact bn|fail)
   ·simp only[ag.zero];(first|exact bn|fail)
  rintro σ1 ⟨x1,x2,x3,x4⟩
  obtain⟨hR,q1,q2,q3,q4⟩:=run σ1 (I.n+1+1+1) J x1 x2 x3
  refine aw (Fb σ1 (I.n+1+1+1) j c ws g sv pv hR q2 q4 pj (by have:=hI.ax;omega) (fun h=>(hI.own h).1) (fun _ h=>⟨hI.gk.1,by have:=(hI.own h).2.2;omega⟩) J) ?_
  rintro x R hn ⟨⟨s1,s2⟩,rfl,rfl,l1,l2⟩
  have hQ:=nT hR l1 l2
  rw[hO]at hQ
  rw[hO]at hn⊢
  generalize fj σ1 (I.n+1+1+1) j c O s1 s2=R at hQ hn⊢
  obtain⟨dS,dg,y1,y2,y3,y4,y5,y6,y7⟩:=fin σ1 R (I.n+1+1+1) J J x2 hQ
  have y8:=(y2 (I.n+1+1) J aD aD).trans x4
  have z1:=y6.aQ i1
  have z2:=y7.aQ i2
  simp+contextual (maxSteps:=1000000) (disch:=first|exact dB|fail) [go_sem,int_lt,-Int.not_le,-Int.not_lt,-List.map_set,j9,y1,y8]
  (repeat refine Alt.mk ?_)
  exact⟨y4,y5,(y6.set J).low J,(y7.set J).low J⟩
 unfold cW at hO;rw[if_neg b0]at hO;rw[if_neg b1]at hO;rw[if_neg b2]at hO;rw[if_neg b3]at hO;rw[if_neg b4]at hO;rw[if_neg b5]at hO
 simp+contextual (maxSteps:=1000000) (disch:=first|exact dB|fail) [go_sem,int_lt,-Int.not_le,-Int.not_lt,-List.map_set,j9,b0,b1,b2,b3,b4,b5]
 (repeat refine Alt.mk ?_)
 refine bb (fun σ1=>I.n+1+1+1<σ1.n∧(∀y,y<I.n→σ1.get y=I.get y)∧σ1.get (I.n+1+1+1)=some ⟨rG j ws.length c g sv pv 0,true⟩∧σ1.get (I.n+1+1)=some ⟨gV ag.zero .al .al,true⟩) ?_ ?_
 ·refine⟨by simp only[au,az,aR];omega,?_,?_,?_⟩
  ·(intro j_ xI;simp(disch:=first|exact NE.ne bZ|exact NE.sym bZ|omega|(simp only[au,az,aR,dw];omega)) only[ak,ai,bg,ef])
  ·(first|exact bn|fail)
  ·simp only[ag.zero];(first|exact bn|fail)
 rintro σ1 ⟨x1,x2,x3,x4⟩
 obtain⟨hR,q1,q2,q3,q4⟩:=run σ1 (I.n+1+1+1) J x1 x2 x3
 refine aw (Bi σ1 (I.n+1+1+1) j c ws g sv pv hR J) ?_
 rintro x R hn ⟨⟨s1,s2⟩,rfl,rfl,l1,l2⟩
 have hQ:=nT hR l1 l2
 rw[hO]at hQ
 rw[hO]at hn⊢
 generalize fj σ1 (I.n+1+1+1) j c O s1 s2=R at hQ hn⊢
 obtain⟨dS,dg,y1,y2,y3,y4,y5,y6,y7⟩:=fin σ1 R (I.n+1+1+1) J J x2 hQ
 have y8:=(y2 (I.n+1+1) J aD aD).trans x4
 have z1:=y6.aQ i1
 have z2:=y7.aQ i2
 simp+contextual (maxSteps:=1000000) (disch:=first|exact dB|fail) [go_sem,int_lt,-Int.not_le,-Int.not_lt,-List.map_set,j9,y1,y8]
 (repeat refine Alt.mk ?_)
 exact⟨y4,y5,(y6.set J).low J,(y7.set J).low J⟩
end AH
