import Derived.Test.YtagihpbpblnnoaaGreatZ22
import Derived.Test.YtagihpbpblnnoaaGreatZ23
import Derived.Test.YtagihpbpblnnoaaGreatZ00
set_option linter.all false
namespace AH
open Go Go.Proofs Ho
set_option maxRecDepth 20000
set_option maxHeartbeats 16000000
def ZA(I R:af)(r:Bk×Int×Int)(x:U):Prop:=∃pv k0 k1 k2 k3 ov iv ev,x= .cw [bV r.1 pv k0 k1 k2 k3 ov iv ev,.int .i64 r.2.1,.int .i64 r.2.2]∧fb R r.1 pv k0 k1 k2 k3 ov iv ev∧(∀y,y<I.n→R.get y=I.get y)∧I.n≤R.n∧
 ∀y,y<I.n→B1 y pv k0 k1 k2 k3 ov iv ev
theorem D_(I:af)(b:Bk)(pv h0 h1 h2 h3 ov iv ev:U)(op:Ho.Op)(hb:fb I b pv h0 h1 h2 h3 ov iv ev)(hs:dW b):
 Fn Tryz.prog 22 [bV b pv h0 h1 h2 h3 ov iv ev,.agg [.int .i64 op.kind,.int .i64 op.slot,.int .i64 op.a,.int .i64 op.b]] I fun x R=>ZA I R (d' b op) x:=by
 refine bA Ax mixed Tryz.func22 (by kernel_rfl) rfl (by kernel_rfl) ?_
 have i0:=And.intro hb.p.aQ (And.intro hb.h0.aQ (And.intro hb.h1.aQ (And.intro hb.h2.aQ (And.intro hb.h3.aQ (And.intro hb.o.aQ (And.intro hb.i.aQ hb.e.aQ))))))
 obtain⟨l1,l2,l3,l4,l5,l6,l7,l8⟩:=i0
 by_cases di:cm b
 rotate_left
 ·have hT:d' b op=(Bk.zero,13,0):=by unfold d';rw[if_neg di]
  simp+contextual (maxSteps:=1000000) (disch:=first|exact dB|fail) [go_sem,int_lt,-Int.not_le,-Int.not_lt,-List.map_set,Ax,di]
  (repeat refine Alt.mk ?_)
  rw[hT]
  refine⟨.al,.al,.al,.al,.al,.al,.al,.al,rfl,⟨.nil,.nil,.nil,.nil,.nil,.nil,.nil,.nil⟩,by intro y hy;simp(disch:=first|omega|(simp only[au,az];omega)) only[ak],bG,fun y hy=>⟨.inr rfl,.inr rfl,.inr rfl,.inr rfl,.inr rfl,.inr rfl,.inr rfl,.inr rfl⟩⟩
 ·have hT:d' b op=kV b op:=by unfold d';rw[if_pos di]
  rw[hT]
  simp+contextual (maxSteps:=1000000) (disch:=first|exact dB|fail) [go_sem,int_lt,-Int.not_le,-Int.not_lt,-List.map_set,Ax,di]
  (repeat refine Alt.mk ?_)
  have mJ:fb (((I.push ⟨[.int .i64 b.am,pv,h0,h1,h2,h3,ov,iv,ev],true⟩).push ⟨[.int .i64 op.kind,.int .i64 op.slot,.int .i64 op.a,.int .i64 op.b],true⟩).push ⟨[.int .i64 0,.al,.al,.al,.al,.al,.al,.al,.al],true⟩) b pv h0 h1 h2 h3 ov iv ev:=hb.push.push.push
  refine aw (LH _ b pv h0 h1 h2 h3 ov iv ev mJ hs) ?_
  rintro v R lZ ⟨p,o,i,e,q0,q1,q2,q3,rfl,hB,hk,hn⟩
  simp only[au]at hk hn
  have g0:=hk I.n J
  have g1:=hk (I.n+1) J
  have g2:=hk (I.n+1+1) J
  simp(disch:=first|omega|(simp only[au];omega)) only[ak]at g0 g1
  rw[aU _ rfl]at g0
  rw[aU _ iF]at g1 g2
  have rX:=hB.lo
  simp only[au]at rX
  have gY:∀y,y<I.n→R.get y=I.get y:=by
   intro y hy
   rw[hk y J]
   simp(disch:=first|omega|(simp only[au];omega)) only[ak]
  simp+contextual (maxSteps:=1000000) (disch:=first|exact dB|fail) [go_sem,int_lt,-Int.not_le,-Int.not_lt,-List.map_set,Ax,g0,g1,g2]
  (repeat refine Alt.mk ?_)
  refine aw (RF R b _ p o i e q0 q1 q2 q3 op hB hs di) ?_
  rintro v τ2 ahc ⟨y,rfl,hR⟩
  have gy:∀y,y<I.n+3→Out y p o i e q0 q1 q2 q3:=by
   intro y hy
   constructor<;>(simp only[NE];omega)
  obtain⟨dg,k0,k1,k2,k3,Ph,wa,OP,rfl,fw,eF,fz,qf⟩:=hR
  have PT:=(eF I.n J (gy _ J)).trans g0
  have TQ:=(eF (I.n+1) J (gy _ J)).trans g1
  have g2':=(eF (I.n+1+1) J (gy _ J)).trans g2
  obtain⟨i1,i2,i3,i4,i5,i6,i7,i8⟩:ey dg∧ey k0∧ey k1∧ey k2∧ey k3∧ey Ph∧ey wa∧ey OP:=⟨fw.p.aQ,fw.h0.aQ,fw.h1.aQ,fw.h2.aQ,fw.h3.aQ,fw.o.aQ,fw.i.aQ,fw.e.aQ⟩
  simp+contextual (maxSteps:=1000000) (disch:=first|exact dB|fail) [go_sem,int_lt,-Int.not_le,-Int.not_lt,-List.map_set,Ax,PT,TQ,g2']
  refine⟨g1.symm,dg,k0,k1,k2,k3,Ph,wa,OP,rfl,fw.mn (qf _ J (gy _ J)),fun y hy=>?_,bj,fun y hy=>qf y J (gy y J)⟩
  rw[ai J,eF y J (gy y J),gY y hy]
end AH
namespace AH
open Go Go.Proofs Ho
set_option maxRecDepth 20000
set_option maxHeartbeats 16000000
structure BkE(n0:Nat)(R:af)(s p:Int)(P O aa E:Nat):Prop where
 lo:n0≤P∧n0≤O∧n0≤aa∧n0≤E
 hi:P<R.n∧O<R.n∧aa<R.n∧E<R.n
 nd:NE P O∧NE P aa∧NE P E∧NE O aa∧NE O E∧NE aa E
 gp:R.get P=some ⟨(List.replicate p.toNat 0).map (.int .i64),true⟩
 go:R.get O=some ⟨(List.replicate (p*8).toNat 0).map (.int .i64),true⟩
 gi:R.get aa=some ⟨(List.replicate s.toNat 0).map (.int .i64),true⟩
 ge:R.get E=some ⟨(List.replicate s.toNat 0).map (.int .i64),true⟩
theorem G8(I:af)(s p l:Int)(h:aM.ok ⟨s,p,l⟩):
 Fn Tryz.prog 263 [cV s p l] I fun x R=>∃P O aa E,x= .agg [.int .i64 s,.sl P 0 p.toNat 1,.al,.al,.al,.al,.sl O 0 (p*8).toNat 1,.sl aa 0 s.toNat 1,.sl E 0 s.toNat 1]∧BkE I.n R s p P O aa E∧bY I.n I R∧I.n≤R.n:=by
 refine bA Kx mixed Tryz.func263 (by kernel_rfl) rfl (by kernel_rfl) ?_
 have h':=h
 unfold aM.ok at h'
 simp only at h'
 obtain⟨c1,c2,c3,c4,c5,c6⟩:=h'
 have q1:0≤s:=J
 have q2:0≤p:=J
 have q3:0≤p*8:=J
 have q4:¬9223372036854775807≤s:=J
 have q5:¬9223372036854775807≤p:=J
 have q6:¬9223372036854775807≤p*8:=J
 have q7:8*s≤140737488355328:=J
 have q8:8*p≤140737488355328:=J
 have q9:8*(p*8)≤140737488355328:=J
 simp+contextual (maxSteps:=1000000) (disch:=first|exact dB|fail) [go_sem,int_lt,-Int.not_le,-Int.not_lt,-List.map_set,Kx,h,kw,q1,q2,q3,q4,q5,q6,q7,q8,q9,-List.map_replicate]
 refine Alt.mk ⟨⟨J,by simp only[au,az,dw];omega,aD,?_,?_,?_,?_⟩,fp,J⟩<;>(rw[List.map_replicate];(first|exact bn|fail))
end AH
