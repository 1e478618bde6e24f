import Derived.Test.YtagihpbpblnnoaaGreatZ30
import Derived.Test.YtagihpbpblnnoaaGreatZ40
import Derived.Test.YtagihpbpblnnoaaGreatZ27
import Derived.Test.YtagihpbpblnnoaaGreatZ10
import Derived.Test.YtagihpbpblnnoaaGreatZ15
import Derived.Test.YtagihpbpblnnoaaGreatZ09
import Derived.Test.YtagihpbpblnnoaaGreatZ00
set_option linter.all false
namespace AH
open Go Go.Proofs Ho
set_option maxRecDepth 20000
set_option maxHeartbeats 16000000
theorem JO(I:af)(v:U)(ws:List Int)(hv:bu .u64 I v ws)(hW:∀w∈ws,ci w):
 Fn Tryz.prog 91 [v] I fun x R=>x= .cw [Iz (dm ws).1,.bool (dm ws).2]∧R=I:=by
 rcases hv.ex with⟨rfl,rfl⟩|⟨i,k,rfl,h⟩
 ·exact lQ I
 ·exact sR I i k ws h hW
theorem ww{ws:List Int}(hW:∀w∈ws,ci w):dh ws=if(dm ws).2=true∧((ws.length:Int)=(dm ws).1.size∨(ws.length:Int)=aP (dm ws).1)then((dm ws).1,true)else(⟨0,0,0⟩,false):=by
 have hw:=bF hW 0
 have hm:=wd hw
 unfold dh dm whole
 by_cases h0:ws=[]
 ·subst h0
  simp
 simp only[h0,false_or,if_false]
 by_cases hs:aL (at_ ws 0)=201115
 ·have yD:=hm.1 hs
  simp only[hs,ne_eq,not_true_eq_false,if_false]
  by_cases cq:aM.ok ⟨aG (at_ ws 0) % 8,aG (at_ ws 0)/8 % 8,aG (at_ ws 0)/64⟩
  ·have Qv:at_ ws 0=gH ⟨aG (at_ ws 0) % 8,aG (at_ ws 0)/8 % 8,aG (at_ ws 0)/64⟩:=yD
   by_cases hl:(ws.length:Int)=(aM.mk (aG (at_ ws 0) % 8) (aG (at_ ws 0)/8 % 8) (aG (at_ ws 0)/64)).size∨(ws.length:Int)=aP (aM.mk (aG (at_ ws 0) % 8) (aG (at_ ws 0)/8 % 8) (aG (at_ ws 0)/64))
   ·rw[if_pos ⟨cq,Qv,hl⟩,if_pos ⟨by simpa using cq,hl⟩]
   ·rw[if_neg (fun h=>hl h.2.2),if_neg (fun h=>hl h.2)]
  ·rw[if_neg (fun h=>cq h.1),if_neg (fun h=>cq (by simpa using h.1))]
 ·have Qv:¬at_ ws 0=gH ⟨aG (at_ ws 0) % 8,aG (at_ ws 0)/8 % 8,aG (at_ ws 0)/64⟩:=fun h=>hs (hm.2 h)
  simp only[hs,ne_eq,not_false_eq_true,if_true]
  rw[if_neg (fun h=>Qv h.2.1),if_neg (fun h=>by cases h.1)]
theorem Mw{ws:List Int}(hW:∀w∈ws,ci w):bM ws=if(dm ws).2=true∧((ws.length:Int)=(dm ws).1.size∨(ws.length:Int)=aP (dm ws).1)then sN (dm ws).1 ws else(Bk.zero,false):=by
 unfold bM
 rw[ww hW]
 by_cases h:(dm ws).2=true∧((ws.length:Int)=(dm ws).1.size∨(ws.length:Int)=aP (dm ws).1)
 ·rw[if_pos h,if_pos rfl,if_pos h]
  unfold sN;rfl
 ·rw[if_neg h,if_neg h,if_neg aV]
theorem xP(I:af)(v:U)(ws:List Int)(hv:bu .u64 I v ws)(hW:∀w∈ws,ci w)(hl:(ws.length:Int)≤1000000):
 Fn Tryz.prog 140 [v] I fun x R=>Fj I R (bM ws) x:=by
 generalize hG:(fun(x:U) (R:af)=>Fj I R (bM ws) x)=GG
 refine bA aZ mixed Tryz.func140 (by kernel_rfl) rfl (by kernel_rfl) ?_
 have L7:=Mw hW
 have hZ:¬((dm ws).2=true∧((ws.length:Int)=(dm ws).1.size∨(ws.length:Int)=aP (dm ws).1))→∀R,(∀y,y<I.n→R.get y=I.get y)→I.n≤R.n→GG (.cw [.agg [.int .i64 0,.al,.al,.al,.al,.al,.al,.al,.al],.bool false]) R:=fun h R h1 h2=>by
  rw[←hG]
  rw[if_neg h]at L7
  exact Fj.zero L7 h1 h2
 rcases hv.ex with⟨rfl,rfl⟩|⟨vi,vk,rfl,Sp⟩
 ·have hz:=hZ (by intro h;have h1:=h.1;simp[dm]at h1)
  clear hG hZ L7
  simp+contextual (maxSteps:=1000000) (disch:=first|exact dB|fail) [go_sem,int_lt,-Int.not_le,-Int.not_lt,-List.map_set]
  (repeat refine Alt.mk ?_)
  exact hz _ (fun y hy=>by(first|exact bn|fail)) bc
 obtain⟨c,hc⟩:∃c,(dm ws).1=c:=⟨_,rfl⟩
 obtain⟨s,p,l⟩:=c
 by_cases cq:(dm ws).2=true
 rotate_left
 ·have iB:(dm ws).2=false:=by simpa using cq
  have hz:=hZ (fun h=>cq h.1)
  clear hG hZ L7
  simp+contextual (maxSteps:=1000000) (disch:=first|exact dB|fail) [go_sem,int_lt,-Int.not_le,-Int.not_lt,-List.map_set,iB,hc]
  (repeat refine Alt.mk ?_)
  exact hz _ (fun y hy=>by(first|exact bn|fail)) bc
 have M4:=zr cq
 rw[hc]at M4 hZ L7
 have h':=M4
 unfold aM.ok at h'
 simp only at h'
 have L0:aP ⟨s,p,l⟩=7+2*s+17*p:=rfl
 have BL:aM.size ⟨s,p,l⟩=7+23*s+17*p:=rfl
 have xG:(ws.length:Int)=7+23*s+17*p∨(ws.length:Int)=7+2*s+17*p→∀x ajT,Fj ((I.push ⟨[.int .i64 0,.al,.al,.al,.al,.al,.al,.al,.al],true⟩).push ⟨[.int .i64 s,.int .i64 p,.int .i64 l],true⟩) ajT (sN ⟨s,p,l⟩ ws) x→ajT.get I.n=some ⟨[.int .i64 0,.al,.al,.al,.al,.al,.al,.al,.al],true⟩∧∀B,GG x (ajT.set I.n B):=by
  rintro h x ajT ⟨pv,k0,k1,k2,k3,ov,iv,ev,rfl,h2,h3,h4,h5,h6⟩
  simp only[au]at h3 h4 h5
  rw[if_pos ⟨cq,by rw[BL,L0];exact h⟩]at L7
  refine⟨?_,fun B=>?_⟩
  ·rw[h3 I.n J];(first|exact bn|fail)
  ·rw[←hG]
   show Fj _ _ _ _
   rw[L7]
   refine⟨pv,k0,k1,k2,k3,ov,iv,ev,rfl,h2.mn (h5 I.n J),fun y hy=>?_,bj,fun y hy=>h5 y J,h6⟩
   rw[ai J,h3 y J];(first|exact bn|fail)
 by_cases h1:(ws.length:Int)=7+23*s+17*p
 ·have Js:=xG (.inl h1)
  clear hG hZ L7 xG
  simp+contextual (maxSteps:=1000000) (disch:=first|exact dB|fail) [go_sem,int_lt,-Int.not_le,-Int.not_lt,-List.map_set,cq,hc,h1]
  (repeat refine Alt.mk ?_)
  refine aw (Ac _ _ ws s p l hv.push.push hW hl M4 (by rw[L0];omega)) ?_
  rintro x ajT hn hx
  obtain⟨g1,g3⟩:=Js x ajT hx
  clear Js
  obtain⟨pv,k0,k1,k2,k3,ov,iv,ev,rfl,hV,_,_,_,_⟩:=hx
  obtain⟨l1,l2,l3,l4,l5,l6,l7,l8⟩:=And.intro hV.p.aQ (And.intro hV.h0.aQ (And.intro hV.h1.aQ (And.intro hV.h2.aQ (And.intro hV.h3.aQ (And.intro hV.o.aQ (And.intro hV.i.aQ hV.e.aQ))))))
  clear hV
  simp+contextual (maxSteps:=1000000) (disch:=first|exact dB|fail) [go_sem,int_lt,-Int.not_le,-Int.not_lt,-List.map_set,g1]
  (repeat refine Alt.mk ?_)
  exact g3 _
 by_cases h2:(ws.length:Int)=7+2*s+17*p
 ·have Js:=xG (.inr h2)
  clear hG hZ L7 xG
  simp+contextual (maxSteps:=1000000) (disch:=first|exact dB|fail) [go_sem,int_lt,-Int.not_le,-Int.not_lt,-List.map_set,cq,hc,h1,h2]
  (repeat refine Alt.mk ?_)
  refine aw (Ac _ _ ws s p l hv.push.push hW hl M4 (by rw[L0];omega)) ?_
  rintro x ajT hn hx
  obtain⟨g1,g3⟩:=Js x ajT hx
  clear Js
  obtain⟨pv,k0,k1,k2,k3,ov,iv,ev,rfl,hV,_,_,_,_⟩:=hx
  obtain⟨l1,l2,l3,l4,l5,l6,l7,l8⟩:=And.intro hV.p.aQ (And.intro hV.h0.aQ (And.intro hV.h1.aQ (And.intro hV.h2.aQ (And.intro hV.h3.aQ (And.intro hV.o.aQ (And.intro hV.i.aQ hV.e.aQ))))))
  clear hV
  simp+contextual (maxSteps:=1000000) (disch:=first|exact dB|fail) [go_sem,int_lt,-Int.not_le,-Int.not_lt,-List.map_set,g1]
  (repeat refine Alt.mk ?_)
  exact g3 _
 have hz:=hZ (by rw[BL,L0];intro h;rcases h.2 with h|h;exact h1 h;exact h2 h)
 clear hG hZ L7 xG
 simp+contextual (maxSteps:=1000000) (disch:=first|exact dB|fail) [go_sem,int_lt,-Int.not_le,-Int.not_lt,-List.map_set,cq,hc,h1,h2]
 (repeat refine Alt.mk ?_)
 exact hz _ (fun y hy=>by(first|exact bn|fail)) bc
end AH
namespace AH
open Go Go.Proofs Ho
set_option maxRecDepth 20000
set_option maxHeartbeats 16000000
def mF(n0:Nat)(R:af)(v:U)(xs:List Int):Prop:=(v= .al∧xs=[])∨∃q,v= .sl q 0 xs.length 1∧n0≤q∧q<R.n∧R.get q=some ⟨xs.map (.int .u64),true⟩
theorem mF.v{n0:Nat}{R:af}{v:U}{xs:List Int}(h:mF n0 R v xs):bu .u64 R v xs:=by
 rcases h with⟨rfl,rfl⟩|⟨q,rfl,_,h2,h3⟩
 ·exact .nil
 ·exact bu.own h2 h3
theorem mF.frame{n0:Nat}{I R:af}{v:U}{xs:List Int}(h:mF n0 I v xs)(hn:I.n≤R.n)(hf:v≠ .al→n0≤cn v→cn v<I.n→R.get (cn v)=I.get (cn v)):mF n0 R v xs:=by
 rcases h with⟨rfl,rfl⟩|⟨q,rfl,h1,h2,h3⟩
 ·exact .inl ⟨rfl,rfl⟩
 ·exact .inr ⟨q,rfl,h1,J,(hf aV h1 h2).trans h3⟩
theorem mF.low{n0 n1:Nat}{R:af}{v:U}{xs:List Int}(h:mF n1 R v xs)(hn:n0≤n1):mF n0 R v xs:=by
 rcases h with h|⟨q,h0,h1,h2⟩
 ·exact .inl h
 ·exact .inr ⟨q,h0,J,h2⟩
def Xe(I R:af)(r:List Int×Int×Int)(x:U):Prop:=∃lv,x= .cw [lv,.int .i64 r.2.1,.int .i64 r.2.2]∧mF I.n R lv r.1∧(∀y,y<I.n→R.get y=I.get y)∧I.n≤R.n
theorem Dx(I:af)(v:U)(ws:List Int)(op:Ho.Op)(st:Int)(hv:bu .u64 I v ws)(hW:∀w∈ws,ci w)(hl:(ws.length:Int)≤1000000):
 Fn Tryz.prog 169 [v,.agg [.int .i64 op.kind,.int .i64 op.slot,.int .i64 op.a,.int .i64 op.b],.int .i64 st] I fun x R=>Xe I R (eZ ws op st) x:=by
 generalize hG:(fun(x:U) (R:af)=>Xe I R (eZ ws op st) x)=GG
 refine bA iU mixed Tryz.func169 (by kernel_rfl) rfl (by kernel_rfl) ?_
 have hZ:¬((bM ws).2=true∧1≤st∧st≤1000000000)→∀R,(∀y,y<I.n→R.get y=I.get y)→I.n≤R.n→GG (.cw [.al,.int .i64 13,.int .i64 0]) R:=fun h R h1 h2=>by
  rw[←hG]
  have hT:eZ ws op st=([],13,0):=by unfold eZ;rw[if_neg h]
  show Xe _ _ _ _
  rw[hT];exact⟨.al,rfl,.inl ⟨rfl,rfl⟩,h1,h2⟩
 obtain⟨c,hc⟩:∃c,(dm ws).1=c:=⟨_,rfl⟩
 obtain⟨s,p,l⟩:=c
 have hcf:∀k,@dN Tryz.prog (.fn 91 [] []) [v] (I.push ⟨[.int .i64 op.kind,.int .i64 op.slot,.int .i64 op.a,.int .i64 op.b],true⟩) ⟨k⟩= @Alt (k (.cw [.agg [.int .i64 s,.int .i64 p,.int .i64 l],.bool (dm ws).2]) (I.push ⟨[.int .i64 op.kind,.int .i64 op.slot,.int .i64 op.a,.int .i64 op.b],true⟩)) ⟨@dN Tryz.prog (.fn 91 [] []) [v] (I.push ⟨[.int .i64 op.kind,.int .i64 op.slot,.int .i64 op.a,.int .i64 op.b],true⟩) ⟨k⟩⟩:=fun k=>by
  have h3:=ar (k:=k) (JO (I.push ⟨[.int .i64 op.kind,.int .i64 op.slot,.int .i64 op.a,.int .i64 op.b],true⟩) v ws hv.push hW)
  rw[hc]at h3
  exact h3
 simp+contextual (maxSteps:=1000000) (disch:=first|exact dB|fail) [go_sem,int_lt,-Int.not_le,-Int.not_lt,-List.map_set,iU,hcf]
 (repeat refine Alt.mk ?_)
 refine aw (xP _ v ws hv.push.push hW hl) ?_
 rintro x0 ajT oH ⟨pv,k0,k1,k2,k3,ov,iv,ev,rfl,hV,qg,jq,Da,gF⟩
 simp only[au]at qg jq Da
 obtain⟨b,hb⟩:∃b,(bM ws).1=b:=⟨_,rfl⟩
 have XZ:=qg I.n J
 have vO:=qg (I.n+1) J
 simp(disch:=first|omega|(simp only[au];omega)) only[ak]at XZ
 rw[aU _ rfl]at XZ
 rw[aU _ iF]at vO
 have gY:∀y,y<I.n→ajT.get y=I.get y:=fun y hy=>by rw[qg y J,ak bG,ak hy]
 have mJ:=hv.keeps (R:=ajT) (n:=I.n) gY hv.lt J
 obtain⟨l1,l2,l3,l4,l5,l6,l7,l8⟩:=And.intro hV.p.aQ (And.intro hV.h0.aQ (And.intro hV.h1.aQ (And.intro hV.h2.aQ (And.intro hV.h3.aQ (And.intro hV.o.aQ (And.intro hV.i.aQ hV.e.aQ))))))
 by_cases ln:(bM ws).2=true∧1≤st∧st≤1000000000
 rotate_left
 ·have hz:=hZ ln
  clear hV hG hZ hcf
  by_cases h1:(bM ws).2=true
  ·by_cases h2:1≤st
   ·have h3:¬st≤1000000000:=fun h=>ln ⟨h1,h2,h⟩
    simp+contextual (maxSteps:=1000000) (disch:=first|exact dB|fail) [go_sem,int_lt,-Int.not_le,-Int.not_lt,-List.map_set,iU,vO,h1,h2,h3]
    (repeat refine Alt.mk ?_)
    exact hz _ (fun y hy=>by rw[←gY y hy];(first|exact bn|fail)) bc
   ·simp+contextual (maxSteps:=1000000) (disch:=first|exact dB|fail) [go_sem,int_lt,-Int.not_le,-Int.not_lt,-List.map_set,iU,vO,h1,h2]
    (repeat refine Alt.mk ?_)
    exact hz _ (fun y hy=>by rw[←gY y hy];(first|exact bn|fail)) bc
  ·have qB:(bM ws).2=false:=by simpa using h1
   simp+contextual (maxSteps:=1000000) (disch:=first|exact dB|fail) [go_sem,int_lt,-Int.not_le,-Int.not_lt,-List.map_set,iU,vO,qB]
   (repeat refine Alt.mk ?_)
   exact hz _ (fun y hy=>by rw[←gY y hy];(first|exact bn|fail)) bc
 obtain⟨h1,h2,h3⟩:=ln
 obtain⟨hw,cq,di,hS,sk,QG⟩:=xq h1
 have Mc:(dh ws).1=⟨s,p,l⟩:=by
  have:=ww hW
  split at this
  ·rw[this,←hc]
  ·rw[this]at hw;cases hw
 rw[Mc]at cq sk QG
 rw[hb]at di hS sk QG hV gF
 have hT:eZ ws op st=(kg (lay ⟨s,p,l⟩ b) (lay ⟨s,p,l⟩ (d' b op).1) st (lay ⟨s,p,l⟩ b).length,(d' b op).2.1,(d' b op).2.2):=by
  unfold eZ;rw[if_pos ⟨h1,h2,h3⟩];simp only[hb,Mc]
 have uX:=sd di hS op
 have X2:=HR.of di
 have Ql:=X2.do op
 have pG:d' b op=kV b op:=by unfold d';rw[if_pos di]
 rw[pG]at hT
 rw[hb]
 clear hZ
 simp+contextual (maxSteps:=1000000) (disch:=first|exact dB|fail) [go_sem,int_lt,-Int.not_le,-Int.not_lt,-List.map_set,iU,vO,XZ,h1,h2,h3]
 (repeat refine Alt.mk ?_)
 refine aw (Du _ b pv k0 k1 k2 k3 ov iv ev op hV.push hS gF) ?_
 rintro x1 υ2 fz ⟨dg,SH,SI,SJ,SL,Ph,wa,OP,rfl,ti,eF,Dk,qf⟩
 rw[pG]at ti⊢
 have Z9:=hV.push.keeps eF Dk
 simp only[au]at eF Dk qf
 have g9:=eF (I.n+1) J
 have xx:=eF ajT.n J
 simp(disch:=first|omega|(simp only[au];omega)) only[ak]at g9
 rw[vO]at g9
 rw[aU _ rfl]at xx
 have uV:∀y,y<I.n→υ2.get y=I.get y:=fun y hy=>by
  rw[eF y J]
  simp(disch:=first|omega|(simp only[au,az];omega)) only[ak,ai]
  exact gY y hy
 obtain⟨b2,eX⟩:∃b2,(kV b op).1=b2:=⟨_,rfl⟩
 obtain⟨cd,Sg⟩:∃cd,(kV b op).2.1=cd:=⟨_,rfl⟩
 obtain⟨nn,lZ⟩:∃nn,(kV b op).2.2=nn:=⟨_,rfl⟩
 rw[Sg,lZ,eX]at hT
 rw[eX]at ti uX Ql⊢
 rw[Sg,lZ]
 obtain⟨m1,m2,m3,m4,m5,m6,m7,m8⟩:=And.intro ti.p.aQ (And.intro ti.h0.aQ (And.intro ti.h1.aQ (And.intro ti.h2.aQ (And.intro ti.h3.aQ (And.intro ti.o.aQ (And.intro ti.i.aQ ti.e.aQ))))))
 have JH:(b2.cy.length:Int)=s∧(b2.ao.length:Int)=s∧(b2.ah.length:Int)=p:=by
  rw[uX.i,uX.e,uX.p];exact sk
 have pD:=ma ⟨s,p,l⟩ b
 have P6:=ma ⟨s,p,l⟩ b2
 obtain⟨L,hL⟩:∃L,lay ⟨s,p,l⟩ b=L:=⟨_,rfl⟩
 obtain⟨X,hX⟩:∃X,lay ⟨s,p,l⟩ b2=X:=⟨_,rfl⟩
 have BQ:=fun ajQ hz=>xS ajQ b pv k0 k1 k2 k3 ov iv ev s p l hz hS cq sk X2
 have Qt:=fun ajQ hz=>xS ajQ b2 dg SH SI SJ SL Ph wa OP s p l hz uX.S cq JH Ql
 rw[hL]at BQ pD hT
 rw[hX]at Qt P6 hT
 have hXL:X.length=L.length:=by rw[pD,P6]
 have hHr:L.length≤200:=by
  rw[pD]
  have h5:=cq
  unfold aM.ok at h5
  unfold aP
  simp only at h5⊢
  omega
 have Qx:I.n+3≤υ2.n:=J
 have xC:∀lv R,mF (υ2.n+3) R lv (kg L X st L.length)→(∀y,y<I.n→R.get y=I.get y)→υ2.n+3≤R.n→GG (.cw [lv,.int .i64 cd,.int .i64 nn]) R:=fun lv R x1 x2 x3=>by
  rw[←hG]
  show Xe _ _ _ _
  rw[hT]
  exact⟨lv,rfl,x1.low J,x2,J⟩
 clear hL hX pD P6 hT pG uX sk JH QG hw Mc hc hcf di hb eX Sg lZ hV qg eF Da qf gY oH fz vO XZ h1 X2 Ql gF hG
 simp+contextual (maxSteps:=1000000) (disch:=first|exact dB|fail) [go_sem,int_lt,-Int.not_le,-Int.not_lt,-List.map_set,iU,g9,xx]
 (repeat refine Alt.mk ?_)
 refine aw (BQ _ ?_) ?_
 ·exact Z9.push
 rintro x2 υ3 Uy ⟨rfl,rfl⟩
 simp+contextual (maxSteps:=1000000) (disch:=first|exact dB|fail) [go_sem,int_lt,-Int.not_le,-Int.not_lt,-List.map_set,iU,g9,xx]
 (repeat refine Alt.mk ?_)
 refine aw (Qt _ ?_) ?_
 ·exact ti.push.push
 rintro x3 υ4 hn6 ⟨rfl,rfl⟩
 simp+contextual (maxSteps:=1000000) (disch:=first|exact dB|fail) [go_sem,int_lt,-Int.not_le,-Int.not_lt,-List.map_set,iU,g9,xx]
 (repeat refine Alt.mk ?_)
 refine aC (fun R_ env R=>∃(a:Nat),∃(lv:U),∃(l:List Int),env 53= .int .i64 a∧env 52= .int .i64 X.length∧env 51= .sl (υ2.n+1+1) 0 X.length 1∧env 18=lv∧env 16= .sl (υ2.n+1) 0 L.length 1∧env 2= .int .i64 st∧env 14= .int .i64 cd∧env 15= .int .i64 nn∧R_ (L.length-a)∧(a≤L.length)∧(mF (υ2.n+3) R lv l)∧(l=kg L X st a)∧(R.get (υ2.n+1)=some ⟨L.map (.int .i64),true⟩)∧(R.get (υ2.n+1+1)=some ⟨X.map (.int .i64),true⟩)∧((∀y,y<I.n→R.get y=I.get y))∧(υ2.n+3≤R.n)) (by rintro R_ env R ⟨a,lv,l,RR,RQ,I0,Hr,sZ,e2,rQ,mW,cz,ha,hq,df,gL,gX,sf,Ss⟩;exact⟨_,cz,a,lv,l,RR,RQ,I0,Hr,sZ,e2,rQ,mW,rfl,ha,hq,df,gL,gX,sf,Ss⟩) ⟨0,.al,[],aq,aq,aq,aq,aq,aq,aq,aq,trivial,?_,?_,?_,?_,?_,?_,?_⟩ ?_
 rotate_left 7
 rintro m_ env R ⟨a,lv,l,RR,RQ,I0,Hr,sZ,e2,rQ,mW,rfl,ha,hq,df,gL,gX,sf,Ss⟩
 ·have tt:=wh L X st a
  rw[←df]at tt
  have ag6:=hq.v.aQ
  have Sv:bu .i64 R (.sl (υ2.n+1) 0 L.length 1) L:=bf J gL rfl
  have hvX:bu .i64 R (.sl (υ2.n+1+1) 0 X.length 1) X:=bf J gX rfl
  by_cases MO:a<L.length
  ·have qD:¬X.length≤a:=J
   have P7:¬L.length≤a:=J
   have HD:=tV L X st a
   by_cases heq:at_ L a=at_ X a
   ·rw[if_pos heq,List.append_nil,←df]at HD
    have MS:=heq.symm
    clear xC
    simp+contextual (maxSteps:=1000000) (disch:=first|exact dB|fail) [go_sem,int_lt,-Int.not_le,-Int.not_lt,-List.map_set,iU,RR,RQ,I0,Hr,sZ,e2,rQ,mW,qD,P7,MS]
    (repeat refine Alt.mk ?_)
    refine⟨a+1,J,J,J,l,?_⟩
    repeat' apply And.intro
    all_goals first|assumption|exact HD.symm|omega
   ·rw[if_neg heq,←df]at HD
    have MS:¬at_ X a=at_ L a:=fun h=>heq h.symm
    clear xC
    rcases hq with⟨rfl,rfl⟩|⟨q,rfl,q1,q2,q3⟩
    ·simp+contextual (maxSteps:=1000000) (disch:=first|exact dB|fail) [go_sem,int_lt,-Int.not_le,-Int.not_lt,-List.map_set,iU,RR,RQ,I0,Hr,sZ,e2,rQ,mW,qD,P7,MS]
     (repeat refine Alt.mk ?_)
     exact⟨a+1,J,J,J,[]++[iP a (at_ X a) st],.inr ⟨R.n+1,rfl,J,bG,by show _=some (cT.mk [U.int .u64 (iP a (at_ X a) st)] true);(first|exact bn|fail)⟩,HD.symm,gL,gX,sf,J⟩
    ·simp+contextual (maxSteps:=1000000) (disch:=first|exact dB|fail) [go_sem,int_lt,-Int.not_le,-Int.not_lt,-List.map_set,iU,RR,RQ,I0,Hr,sZ,e2,rQ,mW,qD,P7,MS,q3]
     (repeat refine Alt.mk ?_)
     exact⟨a+1,J,J,J,l++[iP a (at_ X a) st],.inr ⟨R.n+1,aV,J,by simp only[au,aR];omega,by simp only[List.map_append,List.map_cons,List.map_nil];(first|exact bn|fail)⟩,HD.symm,gL,gX,sf,J⟩
  ·have qD:X.length≤a:=J
   have hae:a=L.length:=J
   rw[hae]at df
   have ig:=xC lv R (df▸hq) sf Ss
   clear xC
   simp+contextual (maxSteps:=1000000) (disch:=first|exact dB|fail) [go_sem,int_lt,-Int.not_le,-Int.not_lt,-List.map_set,iU,RR,RQ,I0,Hr,sZ,e2,rQ,mW,qD]
   (repeat refine Alt.mk ?_)
   exact ig
 ·omega
 ·exact .inl ⟨rfl,rfl⟩
 ·simp[kg]
 ·(first|exact bn|fail)
 ·(first|exact bn|fail)
 ·intro y hy;rw[←uV y hy];(first|exact bn|fail)
 ·simp only[au];omega
end AH
namespace AH
open Go Go.Proofs Ho
set_option maxRecDepth 20000
set_option maxHeartbeats 16000000
theorem jd{g:ag}{code:Int}(val:Int)(h:code≠0):g.complete code val={ag.zero with up:=g.up,slot:=g.slot,ao:=g.ao,aE:=g.aE,aH:=g.aH,oa:=g.oa,ob:=g.ob,code:=code,val:=val,count:=g.count+1}:=by
 unfold ag.complete;rw[if_neg (fun hh=>h hh.2)]
theorem CS{g:ag}(val:Int):g.complete 0 val={ag.zero with up:=g.up,slot:=g.slot,ao:=if g.aE=5 then 0 else g.ao,aE:=g.aE,aH:=g.aH,oa:=g.oa,ob:=g.ob,code:=0,val:=val,count:=g.count+1}:=by
 unfold ag.complete;simp only[and_true]
def Th(v w:U):Prop:=v= .al∨w= .al∨cn v≠cn w
def KV(n:Nat)(v v':U):Prop:=v'=v∨v'= .al∨n≤cn v'
structure rF(I:af)(i j:Nat)(g:ag)(sv pv:U):Prop where
 s:mF 0 I sv g.snap
 p:mF 0 I pv g.ax
 si:fo sv i
 sj:fo sv j
 pi:fo pv i
 pj:fo pv j
 sp:Th sv pv
def fV(I R:af)(i k j:Nat)(bp:List U)(o:SO)(sv pv:U):Prop:=∃dS dg,R.get i=some ⟨aB bp k (iG o.g dS dg),true⟩∧R.get j=some ⟨o.ws.map (.int .u64),true⟩∧mF 0 R dS o.g.snap∧mF 0 R dg o.g.ax∧KV I.n sv dS∧KV I.n pv dg∧Th dS dg∧(∀y,y<I.n→NE y i→NE y j→fo sv y→R.get y=I.get y)∧I.n≤R.n
theorem mF.oO{n0:Nat}{I R:af}{v:U}{l:List Int}{i j:Nat}(h:mF n0 I v l)(hn:I.n≤R.n)(hi:fo v i)(hj:fo v j)(fr:∀y,y<I.n→NE y i→NE y j→R.get y=I.get y):mF n0 R v l:=
 h.frame hn fun h1 _ h2=>fr _ h2 (hi.elim (fun h=>h) fun h=>absurd h h1) (hj.elim (fun h=>h) fun h=>absurd h h1)
theorem fV.same{I R:af}{i k j:Nat}{bp:List U}{o:SO}{g:ag}{sv pv:U}(h:rF I i j g sv pv)(e1:o.g.snap=g.snap)(e2:o.g.ax=g.ax)(gi:R.get i=some ⟨aB bp k (iG o.g sv pv),true⟩)(gj:R.get j=some ⟨o.ws.map (.int .u64),true⟩)(fr:∀y,y<I.n→NE y i→NE y j→R.get y=I.get y)(n:I.n≤R.n):fV I R i k j bp o sv pv:=
 ⟨sv,pv,gi,gj,by rw[e1];exact h.s.oO n h.si h.sj fr,by rw[e2];exact h.p.oO n h.pi h.pj fr,.inl rfl,.inl rfl,h.sp,fun y h1 h2 h3 _=>fr y h1 h2 h3,n⟩
theorem fV.none{I R:af}{i k j:Nat}{bp:List U}{o:SO}{sv pv:U}(e1:o.g.snap=[])(e2:o.g.ax=[])(gi:R.get i=some ⟨aB bp k (iG o.g .al .al),true⟩)(gj:R.get j=some ⟨o.ws.map (.int .u64),true⟩)(fr:∀y,y<I.n→NE y i→NE y j→R.get y=I.get y)(n:I.n≤R.n):fV I R i k j bp o sv pv:=
 ⟨.al,.al,gi,gj,.inl ⟨rfl,e1⟩,.inl ⟨rfl,e2⟩,.inr (.inl rfl),.inr (.inl rfl),.inl rfl,fun y h1 h2 h3 _=>fr y h1 h2 h3,n⟩
theorem fV.half{I R:af}{i k j:Nat}{bp:List U}{o:SO}{g:ag}{sv pv:U}(h:rF I i j g sv pv)(e1:o.g.snap=[])(e2:o.g.ax=g.ax)(gi:R.get i=some ⟨aB bp k (iG o.g .al pv),true⟩)(gj:R.get j=some ⟨o.ws.map (.int .u64),true⟩)(fr:∀y,y<I.n→NE y i→NE y j→R.get y=I.get y)(n:I.n≤R.n):fV I R i k j bp o sv pv:=
 ⟨.al,pv,gi,gj,.inl ⟨rfl,e1⟩,by rw[e2];exact h.p.oO n h.pi h.pj fr,.inr (.inl rfl),.inl rfl,.inl rfl,fun y h1 h2 h3 _=>fr y h1 h2 h3,n⟩
def _root_.Ho.Out.kp(o:Ho.Out)(g:ag):Prop:=(o.x8=false∧o.xZ=false∧o.g.snap=g.snap∧o.g.ax=g.ax)∨(o.x8=true∧o.xZ=true∧o.g.snap=[]∧o.g.ax=[])
theorem Q3(ws:List Int)(g':ag)(a b c:Int)(g:ag):(fin ws g' a b c).kp g:= .inr ⟨rfl,rfl,rfl,rfl⟩
theorem xW(ws:List Int)(g':ag)(a:Int){g:ag}(h1:g'.snap=g.snap)(h2:g'.ax=g.ax):(stay ws g' a).kp g:= .inl ⟨rfl,rfl,h1,h2⟩
theorem Eo(g:ag):g.continues.snap=g.snap∧g.continues.ax=g.ax:=by
 unfold ag.continues;split
 ·exact⟨rfl,rfl⟩
 ·split<;>exact⟨rfl,rfl⟩
theorem J_{p:Prop}[Decidable p]{a b:Ho.Out}{g:ag}(h1:a.kp g)(h2:b.kp g):(if p then a else b).kp g:=by split;exact h1;exact h2
theorem J'(c:aM)(ws:List Int)(g:ag):(watch c ws g).kp g:=by
 unfold watch;simp only
 repeat' first|apply J_|exact xW _ _ _ rfl rfl|exact xW _ _ _ (Eo _).1 (Eo _).2
theorem No(c:aM)(ws:List Int)(g:ag):(eQ c ws g).kp g:=by
 unfold eQ;simp only
 repeat' first|apply J_|exact xW _ _ _ rfl rfl|exact Q3 _ _ _ _ _ _
theorem fV.Kh{I:af}{i k j:Nat}{bp:List U}{c:aM}{ws:List Int}{g:ag}{sv pv:U}(h:cZ I i k j bp c ws g sv pv)(hL:rF I i j g sv pv)(o:Ho.Out)(hk:o.kp g):fV I (gl I i k j bp sv pv o) i k j bp o.so sv pv:=by
 have Df:j≠i:=Ne.symm h.gW
 have fr:∀y,y<I.n→NE y i→NE y j→(gl I i k j bp sv pv o).get y=I.get y:=fun y _ h1 h2=>by
  rw[ai h1.ne,ai h2.ne]
 have gj:(gl I i k j bp sv pv o).get j=some ⟨o.so.ws.map (.int .u64),true⟩:=by
  rw[ai Df,bo];rfl
 have n:I.n≤(gl I i k j bp sv pv o).n:=by simp only[az];omega
 rcases hk with⟨a,b,e1,e2⟩|⟨a,b,e1,e2⟩
 ·refine fV.same hL e1 e2 ?_ gj fr n
  rw[bo,a,b];rfl
 ·refine fV.none e1 e2 ?_ gj fr n
  rw[bo,a,b];rfl
theorem Gv(I:af)(i k j:Nat)(bp:List U)(c:aM)(ws:List Int)(g:ag)(sv pv:U)(h:cZ I i k j bp c ws g sv pv)(hL:rF I i j g sv pv)(hp:16≤g.pc∧g.pc≤21):
 Fn Tryz.prog 199 [jD i k j c ws] I fun x R=>x= .int .i64 (watch c ws g).ev∧fV I R i k j bp (watch c ws g).so sv pv:=by
 refine(Lm I i k j bp c ws g sv pv h hp).use ?_
 rintro x R hn ⟨rfl,rfl⟩
 exact⟨rfl,.Kh h hL _ (J' _ _ _)⟩
theorem JQ(I:af)(i k j:Nat)(bp:List U)(c:aM)(ws:List Int)(g:ag)(sv pv:U)(h:cZ I i k j bp c ws g sv pv)(hL:rF I i j g sv pv):
 Fn Tryz.prog 249 [jD i k j c ws] I fun x R=>x= .cw []∧fV I R i k j bp (eQ c ws g).so sv pv:=by
 refine(KO I i k j bp c ws g sv pv h).use ?_
 rintro x R hn ⟨rfl,rfl⟩
 exact⟨rfl,.Kh h hL _ (No _ _ _)⟩
end AH
namespace AH
open Go Go.Proofs Ho
set_option maxRecDepth 20000
set_option maxHeartbeats 16000000
structure Pq(I R:af)(i k:Nat)(bp:List U)(g:ag)(sv pv:U):Prop where
 ex:∃dg,R.get i=some ⟨aB bp k (iG g.dH sv dg),true⟩∧((dg=pv∧g.dH.ax=g.ax)∨mF I.n R dg g.dH.ax)
 fr:∀y,y<I.n→NE y i→R.get y=I.get y
 n:I.n≤R.n
theorem ly(I:af)(i k:Nat)(bp:List U)(g:ag)(sv pv:U)(hi:i<I.n)(hk:k+26≤bp.length)(hg:I.get i=some ⟨aB bp k (iG g sv pv),true⟩)(hs:bu .u64 I sv g.snap)(hp:ey pv)(hW:∀w∈g.snap,ci w)(hl:(g.snap.length:Int)≤1000000):
 Fn Tryz.prog 253 [.ptr i k] I fun _ R=>Pq I R i k bp g sv pv:=by
 generalize hG:(fun(_:U) (R:af)=>Pq I R i k bp g sv pv)=GG
 refine bA oX mixed Tryz.func253 (by kernel_rfl) rfl (by kernel_rfl) ?_
 have gG:=hs.aQ
 simp+contextual (maxSteps:=1000000) (disch:=first|exact dB|fail) [go_sem,int_lt,-Int.not_le,-Int.not_lt,-List.map_set,oX,hg]
 (repeat refine Alt.mk ?_)
 refine aw (Dx _ sv g.snap g.op g.seq hs hW hl) ?_
 rintro x R hn ⟨lv,rfl,h1,h2,h3⟩
 have HB:=(h2 i hi).trans hg
 obtain⟨r,hr⟩:∃r,eZ g.snap g.op g.seq=r:=⟨_,rfl⟩
 rw[hr]at h1⊢
 have X5:=h1.v.aQ
 have dO:g.dH=if r.2.1=13∨20<(r.1.length:Int)then g.cH 11 else if r.2.1=5∨r.2.1=9 then g.cH r.2.1 else {g with ax:=r.1,code:=r.2.1,val:=r.2.2,gk:=0,pc:=13}:=by
  unfold ag.dH;simp only[hr]
 have hlen:eC lv=some r.1.length:=h1.v.elems.2
 have lI:i<R.n:=J
 have fY:∀v cd,g.dH=g.cH cd→GG v (R.set i ⟨aB bp k (iG (g.cH cd) sv pv),true⟩):=fun v cd h=>by
  rw[←hG]
  refine⟨⟨pv,by rw[h];exact bo _ _,.inl ⟨rfl,by rw[h];rfl⟩⟩,fun y hy Ds=>by rw[ai Ds.ne];exact h2 y hy,bj⟩
 have fP:∀v,g.dH={g with ax:=r.1,code:=r.2.1,val:=r.2.2,gk:=0,pc:=13}→GG v (R.set i ⟨aB bp k (iG {g with ax:=r.1,code:=r.2.1,val:=r.2.2,gk:=0,pc:=13} sv lv),true⟩):=fun v h=>by
  rw[←hG]
  refine⟨⟨lv,by rw[h];exact bo _ _,.inr (by rw[h];exact h1.frame bj fun _ q1 q2=>ai J)⟩,fun y hy Ds=>by rw[ai Ds.ne];exact h2 y hy,bj⟩
 obtain⟨ls,cd,vl⟩:=r
 simp only at dO hlen fP h1⊢
 have ag7:=h1.v
 clear hG hr hs gG
 by_cases c1:cd=13
 ·have f:=fun v=>fY v 11 (by rw[dO,if_pos (.inl c1)])
  clear fY fP dO
  simp+contextual (maxSteps:=1000000) (disch:=first|exact dB|fail) [go_sem,int_lt,-Int.not_le,-Int.not_lt,-List.map_set,oX,HB,c1,hlen]
  (repeat refine Alt.mk ?_)
  exact f _
 by_cases c2:20<(ls.length:Int)
 ·have f:=fun v=>fY v 11 (by rw[dO,if_pos (.inr c2)])
  clear fY fP dO
  simp+contextual (maxSteps:=1000000) (disch:=first|exact dB|fail) [go_sem,int_lt,-Int.not_le,-Int.not_lt,-List.map_set,oX,HB,c1,c2,hlen]
  (repeat refine Alt.mk ?_)
  exact f _
 by_cases c3:cd=5
 ·have f:=fun v=>fY v cd (by rw[dO,if_neg J,if_pos (.inl c3)])
  clear fY fP dO
  simp+contextual (maxSteps:=1000000) (disch:=first|exact dB|fail) [go_sem,int_lt,-Int.not_le,-Int.not_lt,-List.map_set,oX,HB,c1,c2,c3,hlen]
  (repeat refine Alt.mk ?_)
  rw[c3]at f
  exact f _
 by_cases c4:cd=9
 ·have f:=fun v=>fY v cd (by rw[dO,if_neg J,if_pos (.inr c4)])
  clear fY fP dO
  simp+contextual (maxSteps:=1000000) (disch:=first|exact dB|fail) [go_sem,int_lt,-Int.not_le,-Int.not_lt,-List.map_set,oX,HB,c1,c2,c3,c4,hlen]
  (repeat refine Alt.mk ?_)
  rw[c4]at f
  exact f _
 have f:=fun v=>fP v (by rw[dO,if_neg J,if_neg J])
 clear fY fP dO
 simp+contextual (maxSteps:=1000000) (disch:=first|exact dB|fail) [go_sem,int_lt,-Int.not_le,-Int.not_lt,-List.map_set,oX,HB,c1,c2,c3,c4,hlen]
 (repeat refine Alt.mk ?_)
 exact f _
end AH
namespace AH
open Go Go.Proofs Ho
set_option maxRecDepth 20000
set_option maxHeartbeats 16000000
structure Pp(I R:af)(i k:Nat)(bp:List U)(g g':ag)(sv pv:U):Prop where
 ex:∃dg,R.get i=some ⟨aB bp k (iG g' sv dg),true⟩∧((dg=pv∧g'.ax=g.ax)∨mF I.n R dg g'.ax)
 fr:∀y,y<I.n→NE y i→R.get y=I.get y
 n:I.n≤R.n
theorem ri(I:af)(i k j nw:Nat)(c:aM)(bp:List U)(g:ag)(sv pv:U)(hi:i<I.n)(hk:k+26≤bp.length)(hg:I.get i=some ⟨aB bp k (iG g sv pv),true⟩)(hs:bu .u64 I sv g.snap)(hp:ey pv)(hW:∀w∈g.snap,ci w)(hc:c.ok)(hl:(g.snap.length:Int)=aP c)(gG:0≤g.slot∧g.slot<c.am):
 Fn Tryz.prog 252 [.agg [.ptr i k,.int .i64 c.am,.int .i64 c.ah,.int .i64 c.bH,.sl j 0 nw 1]] I fun _ R=>Pp I R i k bp g (g.cr c) sv pv:=by
 generalize hG:(fun(_:U) (R:af)=>Pp I R i k bp g (g.cr c) sv pv)=GG
 refine bA iw mixed Tryz.func252 (by kernel_rfl) rfl (by kernel_rfl) ?_
 have M9:=hs.aQ
 have cL:=hc
 unfold aM.ok at cL
 have hH:aP c=7+2*c.am+17*c.ah:=rfl
 rw[hH]at hl
 have er:=gA hc gG
 have w1:=bF hW (3+g.slot)
 have v1:=aO (w:=at_ g.snap (3+g.slot))
 have fY:∀v cd,g.cr c=g.cH cd→∀R:af,R.get i=some ⟨aB bp k (iG (g.cH cd) sv pv),true⟩→(∀y,y<I.n→NE y i→R.get y=I.get y)→I.n≤R.n→GG v R:=fun v cd h R h1 h2 h3=>by
  rw[←hG]
  exact⟨⟨pv,by rw[h];exact h1,.inl ⟨rfl,by rw[h];rfl⟩⟩,h2,h3⟩
 have fC:∀v,g.cr c={g with pc:=12}→∀R:af,R.get i=some ⟨aB bp k (iG {g with pc:=12} sv pv),true⟩→(∀y,y<I.n→NE y i→R.get y=I.get y)→I.n≤R.n→GG v R:=fun v h R h1 h2 h3=>by
  rw[←hG]
  exact⟨⟨pv,by rw[h];exact h1,.inl ⟨rfl,by rw[h]⟩⟩,h2,h3⟩
 have fP:∀v (B:cT) R,g.cr c=g.dH→Pq (I.push B) R i k bp g sv pv→GG v R:=fun v B R h h1=>by
  rw[←hG]
  obtain⟨⟨dg,e1,e2⟩,h2,h3⟩:=h1
  simp only[au]at e2 h2 h3
  exact⟨⟨dg,by rw[h];exact e1,by rw[h];exact e2.imp id fun e=>e.low J⟩,fun y hy Ds=>by rw[h2 y J Ds,ak hy],J⟩
 have zU:∀B:cT,(I.push B).get i=some ⟨aB bp k (iG g sv pv),true⟩:=fun B=>by rw[ak hi];exact hg
 have b1:¬(g.snap.length:Int)≤3+g.slot:=J
 by_cases c1:aG (at_ g.snap (3+g.slot)) % 4=1
 rotate_left
 ·have f:=fun v=>fY v 11 (by unfold ag.cr;rw[er];rw[if_pos (.inl c1)])
  clear hG fY fP fC
  simp+contextual (maxSteps:=1000000) (disch:=first|exact dB|fail) [go_sem,int_lt,-Int.not_le,-Int.not_lt,-List.map_set,iw,hg,b1,c1]
  (repeat refine Alt.mk ?_)
  exact f _ _ aI (fun y hy Ds=>by rw[ak bj,ai Ds.ne]) bc
 by_cases c2:aG (at_ g.snap (3+g.slot))/4=g.ao
 rotate_left
 ·have f:=fun v=>fY v 11 (by unfold ag.cr;rw[er];rw[if_pos (.inr c2)])
  clear hG fY fP fC
  simp+contextual (maxSteps:=1000000) (disch:=first|exact dB|fail) [go_sem,int_lt,-Int.not_le,-Int.not_lt,-List.map_set,iw,hg,b1,c1,c2]
  (repeat refine Alt.mk ?_)
  exact f _ _ aI (fun y hy Ds=>by rw[ak bj,ai Ds.ne]) bc
 have hd:g.cr c=if g.aE=6 then g.gf c else g.dH:=by
  unfold ag.cr;rw[er];simp only;rw[if_neg (by rintro(h|h);exact h c1;exact h c2)]
 by_cases c3:g.aE=6
 rotate_left
 ·rw[if_neg c3]at hd
  have f:=fun v B R=>fP v B R hd
  clear hG fY fP fC
  simp+contextual (maxSteps:=1000000) (disch:=first|exact dB|fail) [go_sem,int_lt,-Int.not_le,-Int.not_lt,-List.map_set,iw,hg,b1,c1,c2,c3]
  (repeat refine Alt.mk ?_)
  refine aw (ly _ i k bp g sv pv bG hk (zU _) hs.push hp hW J) ?_
  intro x R hn hx
  have f1:=fun v=>f v _ R hx
  clear f
  simp+contextual (maxSteps:=1000000) (disch:=first|exact dB|fail) [go_sem,int_lt,-Int.not_le,-Int.not_lt,-List.map_set,iw]
  (repeat refine Alt.mk ?_)
  exact f1 _
 rw[if_pos c3]at hd
 have k6:k+4+2=k+6:=rfl
 by_cases c4:0≤g.oa∧g.oa<c.am
 rotate_left
 ·have L8:g.cr c=g.dH:=by rw[hd];unfold ag.gf;rw[if_pos J]
  have f:=fun v B R=>fP v B R L8
  clear hG fY fP fC
  by_cases c5:0≤g.oa
  ·have c6:¬g.oa≤c.am-1:=J
   simp+contextual (maxSteps:=1000000) (disch:=first|exact dB|fail) [go_sem,int_lt,-Int.not_le,-Int.not_lt,-List.map_set,iw,hg,b1,c1,c2,c3,k6,c5,c6]
   (repeat refine Alt.mk ?_)
   refine aw (ly _ i k bp g sv pv bG hk (zU _) hs.push hp hW J) ?_
   intro x R hn hx
   have f1:=fun v=>f v _ R hx
   clear f
   simp+contextual (maxSteps:=1000000) (disch:=first|exact dB|fail) [go_sem,int_lt,-Int.not_le,-Int.not_lt,-List.map_set,iw]
   (repeat refine Alt.mk ?_)
   exact f1 _
  ·simp+contextual (maxSteps:=1000000) (disch:=first|exact dB|fail) [go_sem,int_lt,-Int.not_le,-Int.not_lt,-List.map_set,iw,hg,b1,c1,c2,c3,k6,c5]
   (repeat refine Alt.mk ?_)
   refine aw (ly _ i k bp g sv pv bG hk (zU _) hs.push hp hW J) ?_
   intro x R hn hx
   have f1:=fun v=>f v _ R hx
   clear f
   simp+contextual (maxSteps:=1000000) (disch:=first|exact dB|fail) [go_sem,int_lt,-Int.not_le,-Int.not_lt,-List.map_set,iw]
   (repeat refine Alt.mk ?_)
   exact f1 _
 obtain⟨c5,c6'⟩:=c4
 have c6:g.oa≤c.am-1:=J
 have er2:=gA hc ⟨c5,c6'⟩
 have eb2:=lC hc ⟨c5,c6'⟩
 have L8:g.cr c=if g.oa=g.slot∨(aG (at_ g.snap (3+g.oa)) % 4=1∧¬oo c g g.oa (aG (at_ g.snap (3+g.oa))/4))then g.cH 8 else if aG (at_ g.snap (3+g.oa)) % 4=1 then {g with pc:=12}else g.dH:=by
  rw[hd];unfold ag.gf;rw[if_neg J];simp only[er2]
 have w2:=bF hW (3+g.oa)
 have v2:=aO (w:=at_ g.snap (3+g.oa))
 have w3:=bF hW (3+c.am+g.oa)
 have w4:=bF hW 1
 have v4:=aO (w:=at_ g.snap 1)
 have b2:¬(g.snap.length:Int)≤3+g.oa:=J
 have b3:¬(g.snap.length:Int)≤3+c.am+g.oa:=J
 have b4:¬(g.snap.length:Int)≤1:=J
 by_cases c7:g.oa=g.slot
 ·have f:=fun v=>fY v 8 (by rw[L8,if_pos (.inl c7)])
  have s0:0≤g.slot:=gG.1
  have s1:g.slot≤c.am-1:=J
  clear hG fY fP fC
  simp+contextual (maxSteps:=1000000) (disch:=first|exact dB|fail) [go_sem,int_lt,-Int.not_le,-Int.not_lt,-List.map_set,iw,hg,b1,c1,c2,c3,k6,c5,c6,c7,s0,s1,b2,er2,eb2]
  (repeat refine Alt.mk ?_)
  simp only[iG,ag.cH,c3,c7]at f
  exact f _ _ aI (fun y hy Ds=>by rw[ak bj,ai Ds.ne]) bc
 by_cases c8:aG (at_ g.snap (3+g.oa)) % 4=1
 ·have Sp:(lK (at_ g.snap (3+c.am+g.oa)) (aG (at_ g.snap (3+g.oa))/4) (aG (at_ g.snap 1)) c.bH=true)↔¬oo c g g.oa (aG (at_ g.snap (3+g.oa))/4):=by
   unfold lK oo;rw[eb2];simp;omega
  cases c9:lK (at_ g.snap (3+c.am+g.oa)) (aG (at_ g.snap (3+g.oa))/4) (aG (at_ g.snap 1)) c.bH
  ·have hnl:oo c g g.oa (aG (at_ g.snap (3+g.oa))/4):=by
    by_cases h:oo c g g.oa (aG (at_ g.snap (3+g.oa))/4)
    ·exact h
    ·rw[c9]at Sp;exact absurd (Sp.2 h) aV
   have f:=fun v=>fC v (by rw[L8,if_neg (by rintro(h|⟨_,h⟩);exact c7 h;exact h hnl),if_pos c8])
   clear hG fY fP fC Sp hd L8
   simp+contextual (maxSteps:=1000000) (disch:=first|exact dB|fail) [go_sem,int_lt,-Int.not_le,-Int.not_lt,-List.map_set,iw,hg,b1,c1,c2,c3,k6,c5,c6,c7,c8,c9,b2,b3,b4]
   (repeat refine Alt.mk ?_)
   simp only[iG,ag.cH,c3]at f
   exact f _ _ aI (fun y hy Ds=>by rw[ak bj,ai Ds.ne]) bc
  ·have f:=fun v=>fY v 8 (by rw[L8,if_pos (.inr ⟨c8,Sp.1 c9⟩)])
   clear hG fY fP fC Sp hd L8
   simp+contextual (maxSteps:=1000000) (disch:=first|exact dB|fail) [go_sem,int_lt,-Int.not_le,-Int.not_lt,-List.map_set,iw,hg,b1,c1,c2,c3,k6,c5,c6,c7,c8,c9,b2,b3,b4]
   (repeat refine Alt.mk ?_)
   simp only[iG,ag.cH,c3]at f
   exact f _ _ aI (fun y hy Ds=>by rw[ak bj,ai Ds.ne]) bc
 ·have hd3:g.cr c=g.dH:=by rw[L8,if_neg (by rintro(h|⟨h,_⟩);exact c7 h;exact c8 h),if_neg c8]
  have f:=fun v B R=>fP v B R hd3
  clear hG fY fP fC hd L8
  simp+contextual (maxSteps:=1000000) (disch:=first|exact dB|fail) [go_sem,int_lt,-Int.not_le,-Int.not_lt,-List.map_set,iw,hg,b1,c1,c2,c3,k6,c5,c6,c7,c8,b2,b3,b4]
  (repeat refine Alt.mk ?_)
  refine aw (ly _ i k bp g sv pv bG hk (zU _) hs.push hp hW J) ?_
  intro x R hn hx
  have f1:=fun v=>f v _ R hx
  clear f
  simp+contextual (maxSteps:=1000000) (disch:=first|exact dB|fail) [go_sem,int_lt,-Int.not_le,-Int.not_lt,-List.map_set,iw]
  (repeat refine Alt.mk ?_)
  exact f1 _
end AH
namespace AH
open Go Go.Proofs Ho
set_option maxRecDepth 20000
set_option maxHeartbeats 16000000
theorem cZ.frame{I R:af}{i k j:Nat}{bp:List U}{c:aM}{ws:List Int}{g:ag}{sv pv:U}(h:cZ I i k j bp c ws g sv pv)(hn:I.n≤R.n)(fr:∀y,y<I.n→R.get y=I.get y):cZ R i k j bp c ws g sv pv:=by
 obtain⟨hi,hj,gW,hk,hg,hw,hW,hl,hc,gw,ok,ct⟩:=h
 exact⟨J,J,gW,hk,(fr _ hi).trans hg,(fr _ hj).trans hw,hW,hl,hc,gw,ok,ct⟩
theorem rF.frame{I R:af}{i j:Nat}{g:ag}{sv pv:U}(h:rF I i j g sv pv)(hn:I.n≤R.n)(fr:∀y,y<I.n→R.get y=I.get y):rF R i j g sv pv:=by
 obtain⟨s,p,si,sj,pi,pj,sp⟩:=h
 exact⟨s.frame hn fun _ _ h=>fr _ h,p.frame hn fun _ _ h=>fr _ h,si,sj,pi,pj,sp⟩
theorem fV.from{I σ1 R:af}{i k j:Nat}{bp:List U}{o:SO}{sv pv:U}(h:fV σ1 R i k j bp o sv pv)(hn:I.n≤σ1.n)(fr:∀y,y<I.n→σ1.get y=I.get y):fV I R i k j bp o sv pv:=by
 obtain⟨dS,dg,h1,h2,h3,h4,h5,h6,h7,h8,h9⟩:=h
 have kv:∀v v',KV σ1.n v v'→KV I.n v v':=fun v v' h=>by
  rcases h with h|h|h
  ·exact .inl h
  ·exact .inr (.inl h)
  ·exact .inr (.inr J)
 exact⟨dS,dg,h1,h2,h3,h4,kv _ _ h5,kv _ _ h6,h7,fun y y1 y2 y3 y4=>(h8 y J y2 y3 y4).trans (fr y y1),J⟩
theorem mF.lt{n0:Nat}{R:af}{v:U}{xs:List Int}(h:mF n0 R v xs):v= .al∨(n0≤cn v∧cn v<R.n):=by
 rcases h with⟨h,_⟩|⟨q,rfl,h1,h2,_⟩
 ·exact .inl h
 ·exact .inr ⟨h1,h2⟩
theorem fV.dec{I σ1 R:af}{i k j:Nat}{bp:List U}{ws:List Int}{g g':ag}{sv sv1 pv:U}{ev:Int}(hL:rF I i j g sv pv)(gW:i≠j)(hj:j<I.n)
 (n1:I.n≤σ1.n) (hs:mF 0 σ1 sv1 g'.snap) (hb:sv1=sv∨I.n≤cn sv1) (P':fo sv1 i) (gj:σ1.get j=some ⟨ws.map (.int .u64),true⟩) (hp:mF 0 σ1 pv g.ax) (fr:∀y,y<I.n→NE y i→NE y j→fo sv y→σ1.get y=I.get y)
 (sp:Th sv1 pv) (ex:∃dg,R.get i=some ⟨aB bp k (iG g' sv1 dg),true⟩∧((dg=pv∧g'.ax=g.ax)∨mF σ1.n R dg g'.ax)) (XD:∀y,y<σ1.n→NE y i→R.get y=σ1.get y) (n2:σ1.n≤R.n):fV I R i k j bp ⟨ws,g',ev⟩ sv pv:=by
 obtain⟨dg,gi,e⟩:=ex
 have ap:∀{v:U} {y:Nat},fo v y→v≠ .al→NE (cn v) y:=fun h1 h2=>h1.elim (fun h=>h) fun h=>absurd h h2
 have BW:mF 0 R sv1 g'.snap:=hs.frame n2 fun h _ h2=>XD _ h2 (ap P' h)
 have gj':R.get j=some ⟨ws.map (.int .u64),true⟩:=(XD j J (Ne.symm gW)).trans gj
 have fr':∀y,y<I.n→NE y i→NE y j→fo sv y→R.get y=I.get y:=fun y y1 y2 y3 y4=>(XD y J y2).trans (fr y y1 y2 y3 y4)
 have kv1:KV I.n sv sv1:=hb.imp id .inr
 rcases e with⟨rfl,e⟩|e
 ·exact⟨sv1,dg,gi,gj',BW,by rw[e];exact hp.frame n2 fun h _ h2=>XD _ h2 (ap hL.pi h),kv1,.inl rfl,sp,fr',J⟩
 ·refine⟨sv1,dg,gi,gj',BW,e.low J,kv1,?_,?_,fr',J⟩
  ·rcases e.lt with h|h
   ·exact .inr (.inl h)
   ·exact .inr (.inr J)
  ·rcases e.lt with h|h
   ·exact .inr (.inl h)
   ·rcases hs.lt with h2|h2
    ·exact .inl h2
    ·exact .inr (.inr J)
theorem wi(g:ag):g.dH.snap=g.snap:=by
 unfold ag.dH ag.cH;dsimp only;repeat' split
 all_goals rfl
theorem zE(c:aM)(g:ag):(g.cr c).snap=g.snap:=by
 unfold ag.cr ag.gf;dsimp only;repeat' split
 all_goals first|rfl|exact wi g
noncomputable def jX(c:aM)(ws:List Int)(g:ag):SO:=if g.pc≤10 then gM c ws g else eh c ws g
theorem JS(I:af)(i k j:Nat)(bp:List U)(c:aM)(ws:List Int)(g:ag)(sv pv:U)(h:cZ I i k j bp c ws g sv pv)(hL:rF I i j g sv pv)(eU:9≤g.pc∧g.pc≤12):
 Fn Tryz.prog 200 [jD i k j c ws] I fun x R=>x= .int .i64 (jX c ws g).ev∧fV I R i k j bp (jX c ws g) sv pv:=by
 generalize hG:(fun(x:U) (R:af)=>x= .int .i64 (jX c ws g).ev∧fV I R i k j bp (jX c ws g) sv pv)=GG
 refine bA it mixed Tryz.func200 (by kernel_rfl) rfl (by kernel_rfl) ?_
 have hA:=h
 obtain⟨hi,hj,gW,hk,hg,hw,hW,hl,hc,⟨Hu,Hv,Hw,Hx,rS,C9⟩,ok,ct⟩:=h
 have f:∀(o:SO),jX c ws g=o→∀R,fV I R i k j bp o sv pv→GG (.int .i64 o.ev) R:=fun o h R h1=>by
  rw[←hG]
  simp only[h]
  exact⟨trivial,h1⟩
 clear hG
 have Df:j≠i:=Ne.symm gW
 have cL:=hc
 unfold aM.ok at cL
 unfold aM.size at hl
 unfold fR aM.im at ok
 have sl:0≤g.slot∧g.slot<c.am:=J
 have kk:0≤g.gk∧g.gk≤aP c:=by unfold aP;omega
 have o11:g.pc=11→(g.snap.length:Int)=g.gk∧g.gk≠aP c:=by unfold aP;omega
 have o12:g.pc=12→(g.snap.length:Int)=aP c∧0≤g.oa∧g.oa<c.am:=by unfold aP;omega
 have sq:0≤g.seq∧g.seq≤1000001:=J
 clear ok Hu Hv Hw Hx C9
 have hH:aP c=7+2*c.am+17*c.ah:=rfl
 by_cases h9:g.pc=9
 ·have f1:=f (eQ c ws g).so (by unfold jX;rw[if_pos J,CX h9])
  have hev:(eQ c ws g).so.ev=0:=by unfold eQ Out.so;dsimp only;(repeat' split)<;>rfl
  rw[hev]at f1
  clear f
  simp+contextual (maxSteps:=1000000) (disch:=first|exact dB|fail) [go_sem,int_lt,-Int.not_le,-Int.not_lt,-List.map_set,it,hg,h9]
  (repeat refine Alt.mk ?_)
  refine aw (JQ _ i k j bp c ws g sv pv (hA.frame bG (fun y hy=>ak hy)) (hL.frame bG (fun y hy=>ak hy))) ?_
  rintro x R hn ⟨rfl,hx⟩
  have hx:=hx.from (I:=I) bG (fun y hy=>ak hy)
  have f2:=f1 R hx
  clear f1 hA hg
  simp+contextual (maxSteps:=1000000) (disch:=first|exact dB|fail) [go_sem,int_lt,-Int.not_le,-Int.not_lt,-List.map_set,it]
  (repeat refine Alt.mk ?_)
  exact f2
 by_cases pC:g.pc=10
 ·have s2:dp ws 2 g.door↔at_ ws 2=g.door:=fJ J J
  by_cases q:at_ ws 2=g.door
  ·have f1:=f ⟨put ws 2 (cK 1 g.slot g.ao g.seq),{g with gk:=0,snap:=[],pc:=11},0⟩ (by unfold jX gM;rw[if_pos J,if_pos pC,if_pos (s2.2 q)])
   have f2:=fun R t1 t2 t3 t4=>f1 R (fV.half hL rfl rfl t1 t2 t3 t4)
   clear f f1 hA hL s2
   simp+contextual (maxSteps:=1000000) (disch:=first|exact dB|fail) [go_sem,int_lt,-Int.not_le,-Int.not_lt,-List.map_set,it,hg,hw,pC,q]
   (repeat refine Alt.mk ?_)
   exact f2 _ aI aI (fun y hy h1 h2=>by(first|exact bn|fail)) bc
  ·have f1:=f ⟨ws,{g with pc:=9},0⟩ (by unfold jX gM;rw[if_pos J,if_pos pC,if_neg (fun h=>q (s2.1 h))])
   have f2:=fun R t1 t2 t3 t4=>f1 R (fV.same hL rfl rfl t1 t2 t3 t4)
   clear f f1 hA hL s2
   simp+contextual (maxSteps:=1000000) (disch:=first|exact dB|fail) [go_sem,int_lt,-Int.not_le,-Int.not_lt,-List.map_set,it,hg,hw,pC,q]
   (repeat refine Alt.mk ?_)
   exact f2 _ aI aI (fun y hy h1 h2=>by(first|exact bn|fail)) bc
 by_cases lh:g.pc=11
 ·obtain⟨o1,o2⟩:=o11 lh
  have k0:0≤g.gk:=kk.1
  have k1:g.gk<ws.length:=J
  have hlen:g.snap.length≤1000:=J
  have l1:bm ws g.gk=at_ ws g.gk:=dD k0
  have sf:at_ ws g.gk=at_ ws g.gk:=rfl
  generalize mu:at_ ws g.gk=w0 at*
  have eI:jX c ws g=⟨ws,if g.gk+1=aP c then({g with snap:=g.snap++[w0],gk:=g.gk+1}:ag).cr c else {g with snap:=g.snap++[w0],gk:=g.gk+1},0⟩:=by
   unfold jX eh;rw[if_neg J,if_pos lh];simp only[l1]
  have f1:=f _ eI
  clear f
  obtain⟨G1,hG1⟩:∃x:ag,x={g with snap:=g.snap++[w0],gk:=g.gk+1}:=⟨_,rfl⟩
  have ne:∀{v:U} {y:Nat},fo v y→v≠ .al→NE (cn v) y:=fun h1 h2=>h1.elim (fun h=>h) fun h=>absurd h h2
  have ax:∀R:af,(∀y,y<I.n→NE y i→NE y j→fo sv y→R.get y=I.get y)→I.n≤R.n→mF 0 R pv g.ax:=fun R t1 t2=>hL.p.frame t2 fun p1 _ p2=>t1 _ p2 (ne hL.pi p1) (ne hL.pj p1) (by
   rcases hL.sp with h|h|h
   ·exact .inr h
   ·exact absurd h p1
   ·exact .inl h)
  have lap:∀b:Nat,I.n≤b→Th (.sl b 0 (g.snap.length+1) 1) pv:=fun b hb=>by
   rcases hL.p.lt with h|h
   ·exact .inr (.inl h)
   ·refine .inr (.inr ?_)
    show b≠cn pv
    omega
  have XW:∀(R:af) (b:Nat),b<R.n→R.get b=some ⟨(g.snap++[w0]).map (.int .u64),true⟩→mF 0 R (.sl b 0 (g.snap.length+1) 1) (g.snap++[w0]):=fun R b t1 t2=> .inr ⟨b,aV,Nat.zero_le _,t1,t2⟩
  have hW2:∀w∈g.snap++[w0],ci w:=fun w hw'=>by
   rcases List.mem_append.1 hw' with h|h
   ·exact rS w h
   ·obtain rfl:=List.mem_singleton.1 h;rw[←mu];exact bF hW _
  have eG:iG {g with snap:=g.snap++[w0],gk:=g.gk+1}=iG G1:=by rw[hG1]
  have fA:∀(R:af) (b:Nat),I.n≤b→b<R.n→R.get b=some ⟨(g.snap++[w0]).map (.int .u64),true⟩→R.get i=some ⟨aB bp k (iG {g with snap:=g.snap++[w0],gk:=g.gk+1} (.sl b 0 (g.snap.length+1) 1) pv),true⟩→R.get j=some ⟨ws.map (.int .u64),true⟩→(∀y,y<I.n→NE y i→NE y j→fo sv y→R.get y=I.get y)→I.n≤R.n→fV I R i k j bp ⟨ws,{g with snap:=g.snap++[w0],gk:=g.gk+1},0⟩ sv pv:=fun R b t1 t2 t3 t4 t5 t6 t7=>
   fV.dec (σ1:=R) (sv1:= .sl b 0 (g.snap.length+1) 1) hL gW hj t7 (XW R b t2 t3) (.inr t1) (.inl il) t5 (ax R t6 t7) t6 (lap b t1) ⟨pv,t4,.inl ⟨rfl,rfl⟩⟩ (fun _ _ _=>rfl) (Nat.le_refl _)
  have fD:∀(σ1 R:af) (b:Nat),I.n≤b→b<σ1.n→σ1.get b=some ⟨(g.snap++[w0]).map (.int .u64),true⟩→σ1.get j=some ⟨ws.map (.int .u64),true⟩→(∀y,y<I.n→NE y i→NE y j→fo sv y→σ1.get y=I.get y)→I.n≤σ1.n→Pp σ1 R i k bp {g with snap:=g.snap++[w0],gk:=g.gk+1} (({g with snap:=g.snap++[w0],gk:=g.gk+1}:ag).cr c) (.sl b 0 (g.snap.length+1) 1) pv→fV I R i k j bp ⟨ws,({g with snap:=g.snap++[w0],gk:=g.gk+1}:ag).cr c,0⟩ sv pv:=fun σ1 R b t1 t2 t3 t5 t6 t7 hD=>
   fV.dec (σ1:=σ1) (sv1:= .sl b 0 (g.snap.length+1) 1) hL gW hj t7 (by rw[zE];exact XW σ1 b t2 t3) (.inr t1) (.inl il) t5 (ax σ1 t6 t7) t6 (lap b t1) hD.ex hD.fr hD.n
  have hs:=hL.s
  by_cases O1:g.gk+1=aP c
  ·rw[if_pos O1]at f1
   have tp:(g.gk+1=7+2*c.am+17*c.ah)=True:=eq_true J
   have f2:=fun σ1 R b t1 t2 t3 t5 t6 t7 hD=>f1 R (fD σ1 R b t1 t2 t3 t5 t6 t7 hD)
   have pI:((g.snap++[w0]).length:Int)=aP c:=by simp;omega
   rcases hs with⟨e1,e2⟩|⟨q,e1,q1,q2,q3⟩
   ·subst e1
    clear hA f1 fA fD
    simp+contextual (maxSteps:=1000000) (disch:=first|exact dB|fail) [go_sem,int_lt,-Int.not_le,-Int.not_lt,-List.map_set,it,hg,hw,lh,mu,tp]
    (repeat refine Alt.mk ?_)
    refine bb (fun σ1=>σ1.n=I.n+1+1+1∧σ1.get (I.n+1+1)=some ⟨(g.snap++[w0]).map (.int .u64),true⟩∧σ1.get i=some ⟨aB bp k (iG {g with snap:=g.snap++[w0],gk:=g.gk+1} (.sl (I.n+1+1) 0 (g.snap.length+1) 1) pv),true⟩∧σ1.get j=some ⟨ws.map (.int .u64),true⟩∧(∀y,y<I.n→NE y i→NE y j→fo .al y→σ1.get y=I.get y)) ?_ ?_
    ·rw[e2]
     refine⟨by simp only[au,az];done,aI,?_,aI,fun y hy h1 h2 _=>by(first|exact bn|fail)⟩
     simp only[iG,lh,List.length_nil,List.nil_append]
     (first|exact bn|fail)
    rintro σ1 ⟨m1,m2,m3,m4,m5⟩
    refine aw (ri σ1 i k j ws.length c bp {g with snap:=g.snap++[w0],gk:=g.gk+1} (.sl (I.n+1+1) 0 (g.snap.length+1) 1) pv J hk m3 (XW σ1 _ J m2).v hL.p.v.aQ hW2 hc pI sl) ?_
    rintro x R hn hx
    have f3:=f2 σ1 R _ J J m2 m4 m5 J hx
    clear f2 hx
    simp+contextual (maxSteps:=1000000) (disch:=first|exact dB|fail) [go_sem,int_lt,-Int.not_le,-Int.not_lt,-List.map_set,it]
    (repeat refine Alt.mk ?_)
    exact f3
   ·subst e1
    have BU:¬q=i:=ne hL.si aV
    have MX:¬i=q:=Ne.symm BU
    have UF:¬q=j:=ne hL.sj aV
    have Um:¬j=q:=Ne.symm UF
    clear hA f1 fA fD
    simp+contextual (maxSteps:=1000000) (disch:=first|exact dB|fail) [go_sem,int_lt,-Int.not_le,-Int.not_lt,-List.map_set,it,hg,hw,lh,mu,tp,q3]
    (repeat refine Alt.mk ?_)
    refine bb (fun σ1=>σ1.n=I.n+1+1+1∧σ1.get (I.n+1+1)=some ⟨(g.snap++[w0]).map (.int .u64),true⟩∧σ1.get i=some ⟨aB bp k (iG {g with snap:=g.snap++[w0],gk:=g.gk+1} (.sl (I.n+1+1) 0 (g.snap.length+1) 1) pv),true⟩∧σ1.get j=some ⟨ws.map (.int .u64),true⟩∧(∀y,y<I.n→NE y i→NE y j→fo (.sl q 0 g.snap.length 1) y→σ1.get y=I.get y)) ?_ ?_
    ·refine⟨by simp only[au,az,aR];done,by rw[List.map_append];(first|exact bn|fail),?_,aI,fun y hy h1 h2 h3=>?_⟩
     ·simp only[iG,lh]
      (first|exact bn|fail)
     ·have h4:¬y=q:=Ne.symm (ne h3 aV)
      (first|exact bn|fail)
    rintro σ1 ⟨m1,m2,m3,m4,m5⟩
    refine aw (ri σ1 i k j ws.length c bp {g with snap:=g.snap++[w0],gk:=g.gk+1} (.sl (I.n+1+1) 0 (g.snap.length+1) 1) pv J hk m3 (XW σ1 _ J m2).v hL.p.v.aQ hW2 hc pI sl) ?_
    rintro x R hn hx
    have f3:=f2 σ1 R _ J J m2 m4 m5 J hx
    clear f2 hx
    simp+contextual (maxSteps:=1000000) (disch:=first|exact dB|fail) [go_sem,int_lt,-Int.not_le,-Int.not_lt,-List.map_set,it]
    (repeat refine Alt.mk ?_)
    exact f3
  ·rw[if_neg O1]at f1
   have tp:¬g.gk+1=7+2*c.am+17*c.ah:=J
   have f2:=fun R b t1 t2 t3 t4 t5 t6 t7=>f1 R (fA R b t1 t2 t3 t4 t5 t6 t7)
   rcases hs with⟨e1,e2⟩|⟨q,e1,q1,q2,q3⟩
   ·subst e1
    clear hA f1 fA fD
    simp+contextual (maxSteps:=1000000) (disch:=first|exact dB|fail) [go_sem,int_lt,-Int.not_le,-Int.not_lt,-List.map_set,it,hg,hw,lh,mu,tp]
    (repeat refine Alt.mk ?_)
    rw[e2]at f2
    simp only[iG,lh,List.length_nil,List.nil_append]at f2
    exact f2 _ (I.n+1+1) J bc aI aI aI (fun y hy h1 h2 _=>by(first|exact bn|fail)) bc
   ·subst e1
    have BU:¬q=i:=ne hL.si aV
    have MX:¬i=q:=Ne.symm BU
    have UF:¬q=j:=ne hL.sj aV
    have Um:¬j=q:=Ne.symm UF
    clear hA f1 fA fD
    simp+contextual (maxSteps:=1000000) (disch:=first|exact dB|fail) [go_sem,int_lt,-Int.not_le,-Int.not_lt,-List.map_set,it,hg,hw,lh,mu,tp,q3]
    (repeat refine Alt.mk ?_)
    simp only[iG,lh,List.map_append]at f2
    exact f2 _ (I.n+1+1) J vB aI aI aI (fun y hy h1 h2 h3=>by have h4:¬y=q:=Ne.symm (ne h3 aV);(first|exact bn|fail)) vB
 have nW:g.pc=12:=J
 obtain⟨o1,o2,o3⟩:=o12 nW
 have hs:=hL.s
 have hlen:g.snap.length≤1000:=J
 have er:=gA hc ⟨o2,o3⟩
 have b1:¬(g.snap.length:Int)≤3+g.oa:=J
 have w1:=bF rS (3+g.oa)
 obtain⟨ii,hold⟩:∃x,at_ g.snap (3+g.oa)=x:=⟨_,rfl⟩
 rw[hold]at w1
 have s2:∀o,dp ws (3+g.oa) o↔at_ ws (3+g.oa)=o:=fun o=>fJ J J
 have eI:jX c ws g=if at_ ws (3+g.oa)=ii then⟨put ws (3+g.oa) (lT 2 (aG ii/4) (aL ii)),({g with aX:=g.oa,snap:=put g.snap (3+g.oa) (lT 2 (aG ii/4) (aL ii))}:ag).dH,2⟩else⟨ws,{g with gk:=0,snap:=[],pc:=11},0⟩:=by
  unfold jX eh;rw[if_neg J,if_neg lh];simp only[er,hold,s2]
 rcases hs with⟨e1,e2⟩|⟨q,e1,q1,q2,q3⟩
 ·rw[e2]at o1;simp at o1;omega
 subst e1
 have ne:∀{v:U} {y:Nat},fo v y→v≠ .al→NE (cn v) y:=fun h1 h2=>h1.elim (fun h=>h) fun h=>absurd h h2
 have BU:¬q=i:=ne hL.si aV
 have MX:¬i=q:=Ne.symm BU
 have UF:¬q=j:=ne hL.sj aV
 have Um:¬j=q:=Ne.symm UF
 have M9:=hL.s.v
 have k6:k+4+2=k+6:=rfl
 by_cases hsw:at_ ws (3+g.oa)=ii
 ·rw[if_pos hsw]at eI
  have f1:=f _ eI
  clear f hA eI
  simp+contextual (maxSteps:=1000000) (disch:=first|exact dB|fail) [go_sem,int_lt,-Int.not_le,-Int.not_lt,-List.map_set,it,hg,hw,nW,hold,b1,q3,k6]
  (repeat refine Alt.mk ?_)
  have hXw:ci (lT 2 (aG ii/4) (aL ii)):=ee _ _ _
  generalize lT 2 (aG ii/4) (aL ii)=X at f1 hXw⊢
  have dO:=aF g.snap (3+g.oa) X
  have hpn:(U.sl q 0 g.snap.length 1)≠ .al:=by simp
  have hPW:∀w∈put g.snap (3+g.oa) X,ci w:=bQ rS hXw
  refine bb (fun σ1=>σ1.n=I.n+1∧σ1.get q=some ⟨(put g.snap (3+g.oa) X).map (.int .u64),true⟩∧σ1.get i=some ⟨aB bp k (iG {g with aX:=g.oa,snap:=put g.snap (3+g.oa) X} (.sl q 0 g.snap.length 1) pv),true⟩∧σ1.get j=some ⟨(put ws (3+g.oa) X).map (.int .u64),true⟩∧(∀y,y<I.n→NE y i→NE y j→fo (.sl q 0 g.snap.length 1) y→σ1.get y=I.get y)) ?_ ?_
  ·refine⟨by simp only[au,az];done,aI,?_,aI,fun y hy h1 h2 h3=>?_⟩
   ·simp only[iG,nW]
    (first|exact bn|fail)
   ·have h4:¬y=q:=Ne.symm (ne h3 aV)
    (first|exact bn|fail)
  rintro σ1 ⟨m1,m2,m3,m4,m5⟩
  have qE:mF 0 σ1 (.sl q 0 g.snap.length 1) (put g.snap (3+g.oa) X):= .inr ⟨q,by rw[dO],Nat.zero_le _,J,m2⟩
  have nK:mF 0 σ1 pv g.ax:=hL.p.frame J fun p1 _ p2=>m5 _ p2 (ne hL.pi p1) (ne hL.pj p1) (by
   rcases hL.sp with h|h|h
   ·exact absurd h hpn
   ·exact absurd h p1
   ·exact .inl h)
  refine aw (ly σ1 i k bp {g with aX:=g.oa,snap:=put g.snap (3+g.oa) X} (.sl q 0 g.snap.length 1) pv J hk m3 qE.v hL.p.v.aQ hPW (by simp only[dO];omega)) ?_
  rintro x R hn hx
  have f3:=f1 R (fV.dec (g:=g) (σ1:=σ1) (sv1:= .sl q 0 g.snap.length 1) hL gW hj J (by rw[wi];exact qE) (.inl rfl) hL.si m4 nK m5 hL.sp hx.ex hx.fr hx.n)
  clear f1 hx
  simp+contextual (maxSteps:=1000000) (disch:=first|exact dB|fail) [go_sem,int_lt,-Int.not_le,-Int.not_lt,-List.map_set,it]
  (repeat refine Alt.mk ?_)
  exact f3
 ·rw[if_neg hsw]at eI
  have f1:=f _ eI
  have f2:=fun R t1 t2 t3 t4=>f1 R (fV.half hL rfl rfl t1 t2 t3 t4)
  clear f f1 hA eI
  simp+contextual (maxSteps:=1000000) (disch:=first|exact dB|fail) [go_sem,int_lt,-Int.not_le,-Int.not_lt,-List.map_set,it,hg,hw,nW,hold,b1,q3,k6]
  (repeat refine Alt.mk ?_)
  exact f2 _ aI aI (fun y hy h1 h2=>by(first|exact bn|fail)) bc
end AH
