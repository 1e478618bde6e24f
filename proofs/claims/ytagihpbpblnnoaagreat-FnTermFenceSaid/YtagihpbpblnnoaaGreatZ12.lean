import Derived.Test.YtagihpbpblnnoaaGreatZ11
import Derived.Test.YtagihpbpblnnoaaGreatZ08
import Derived.Test.YtagihpbpblnnoaaGreatZ09
import Derived.Test.YtagihpbpblnnoaaGreatZ00
set_option linter.all false
namespace AH
open Go Go.Proofs Ho
set_option maxRecDepth 20000
set_option maxHeartbeats 16000000
theorem vX(I:af)(n:Int):Fn Tryz.prog 134 [.int .i64 n] I fun x R=>x= .bool (decide (1≤n)&&decide (n≤4))∧R=I:=by
 refine ay aZ mixed Tryz.func134 (by kernel_rfl) rfl (by kernel_rfl) bE ?_
 simp+contextual (maxSteps:=1000000) (disch:=first|exact dB|fail) [go_sem,int_lt,-Int.not_le,-Int.not_lt,-List.map_set]
@[go_sem] def U1:=fun(I:af) n (aA:U→af→Prop)=>ar (k:=aA) (vX I n)
@[go_sem] def U0:=fun(I:af) (b_:Bool) (n:Int) (aA:U→af→Prop)=>aJ (k:=aA) b_ fun aY=>vX I n
theorem v6(I:af)(k:Int)(h:0≤k∧k<4):Fn Tryz.prog 182 [.int .i64 k] I fun x R=>x= .int .i64 (sz k)∧R=I:=by
 refine ay aZ mixed Tryz.func182 (by kernel_rfl) rfl (by kernel_rfl) bE ?_
 have:k=0∨k=1∨k=2∨k=3:=J
 rcases this with rfl|rfl|rfl|rfl<;>simp+contextual (maxSteps:=1000000) (disch:=first|exact dB|fail) [go_sem,int_lt,-Int.not_le,-Int.not_lt,-List.map_set,Ir,mQ,HP,HQ,HS,HT]<;>rfl
@[go_sem] def Vc:=fun(I:af) k h (aA:U→af→Prop)=>ar (k:=aA) (v6 I k h)
@[go_sem] def Vb:=fun(I:af) (b_:Bool) (k:Int) (h:b_=true→ 0≤k∧k<4) (aA:U→af→Prop)=>aJ (k:=aA) b_ fun aY=>v6 I k (h aY)
theorem tI(I:af)(b:Bk)(pv h0 h1 h2 h3 ov iv ev:U)(slot:Int)(hb:fb I b pv h0 h1 h2 h3 ov iv ev)(hs:dW b):Fn Tryz.prog 71 [bV b pv h0 h1 h2 h3 ov iv ev,.int .i64 slot] I fun x R=>x= .bool (decide (0≤slot)&&decide (slot≤b.am-1))∧R=I:=by
 refine ay aZ mixed Tryz.func71 (by kernel_rfl) rfl (by kernel_rfl) bE ?_
 have i1:=hs.s
 have:=And.intro hb.p.aQ (And.intro hb.h0.aQ (And.intro hb.h1.aQ (And.intro hb.h2.aQ (And.intro hb.h3.aQ (And.intro hb.o.aQ (And.intro hb.i.aQ hb.e.aQ))))))
 obtain⟨l1,l2,l3,l4,l5,l6,l7,l8⟩:=this
 simp+contextual (maxSteps:=1000000) (disch:=first|exact dB|fail) [go_sem,int_lt,-Int.not_le,-Int.not_lt,-List.map_set]
@[go_sem] def SD:=fun(I:af) b pv h0 h1 h2 h3 ov iv ev slot hb hs (aA:U→af→Prop)=>ar (k:=aA) (tI I b pv h0 h1 h2 h3 ov iv ev slot hb hs)
@[go_sem] def SC:=fun(I:af) (b_:Bool) (b:Bk) (pv h0 h1 h2 h3 ov iv ev:U) (slot:Int) (hb:b_=true→ fb I b pv h0 h1 h2 h3 ov iv ev) (hs:b_=true→ dW b) (aA:U→af→Prop)=>aJ (k:=aA) b_ fun aY=>tI I b pv h0 h1 h2 h3 ov iv ev slot (hb aY) (hs aY)
def HK(b:Bk)(slot:Int):Prop:=0≤slot∧slot<b.am∧at_ b.cy slot≠0
noncomputable instance(b:Bk)(s:Int):Decidable (HK b s):=Classical.propDecidable _
theorem Ah(I:af)(b:Bk)(pv h0 h1 h2 h3 ov iv ev:U)(slot:Int)(hb:fb I b pv h0 h1 h2 h3 ov iv ev)(hs:dW b)(hl:(b.cy.length:Int)=b.am):Fn Tryz.prog 181 [bV b pv h0 h1 h2 h3 ov iv ev,.int .i64 slot] I fun x R=>x= .bool (decide (HK b slot))∧R=I:=by
 refine ay aZ mixed Tryz.func181 (by kernel_rfl) rfl (by kernel_rfl) bE ?_
 have i1:=hs.s
 have eR:=hb
 have:=And.intro hb.p.aQ (And.intro hb.h0.aQ (And.intro hb.h1.aQ (And.intro hb.h2.aQ (And.intro hb.h3.aQ (And.intro hb.o.aQ (And.intro hb.i.aQ hb.e.aQ))))))
 obtain⟨l1,l2,l3,l4,l5,l6,l7,l8⟩:=this
 have vi:=hb.i
 by_cases c1:0≤slot
 ·by_cases c2:slot≤b.am-1
  ·have c3:slot<b.cy.length:=J
   have e:decide (HK b slot)= !decide (at_ b.cy slot=0):=by
    rw[Bool.eq_iff_iff,decide_eq_true_iff,Bool.not_eq_true',decide_eq_false_iff_not]
    exact⟨fun h=>h.2.2,fun h=>⟨c1,J,h⟩⟩
   rw[e]
   simp+contextual (maxSteps:=1000000) (disch:=first|exact dB|fail) [go_sem,int_lt,-Int.not_le,-Int.not_lt,-List.map_set,c1,c2,c3]
  ·have e:decide (HK b slot)=false:=decide_eq_false (fun h=>c2 (by have:=h.2.1;omega))
   rw[e]
   simp+contextual (maxSteps:=1000000) (disch:=first|exact dB|fail) [go_sem,int_lt,-Int.not_le,-Int.not_lt,-List.map_set,c1,c2]
 ·have e:decide (HK b slot)=false:=decide_eq_false (fun h=>c1 h.1)
  rw[e]
  simp+contextual (maxSteps:=1000000) (disch:=first|exact dB|fail) [go_sem,int_lt,-Int.not_le,-Int.not_lt,-List.map_set,c1]
@[go_sem] def Yk:=fun(I:af) b pv h0 h1 h2 h3 ov iv ev slot hb hs hl (aA:U→af→Prop)=>ar (k:=aA) (Ah I b pv h0 h1 h2 h3 ov iv ev slot hb hs hl)
@[go_sem] def Yj:=fun(I:af) (b_:Bool) (b:Bk) (pv h0 h1 h2 h3 ov iv ev:U) (slot:Int) (hb:b_=true→ fb I b pv h0 h1 h2 h3 ov iv ev) (hs:b_=true→ dW b) (hl:b_=true→ (b.cy.length:Int)=b.am) (aA:U→af→Prop)=>aJ (k:=aA) b_ fun aY=>Ah I b pv h0 h1 h2 h3 ov iv ev slot (hb aY) (hs aY) (hl aY)
theorem bu.cut{kk:IntKind}{I:af}{v:U}{xs:List Int}(h:bu kk I v xs){lo hi:Int}(h0:0≤lo)(h1:lo≤hi)(h2:hi≤xs.length)(hn:0<xs.length):
 ∃q,(∀k k',jN 1 v (some (.int k lo)) (some (.int k' hi))=some q)∧bu kk I q ((xs.drop lo.toNat).take (hi-lo).toNat)∧cn q=cn v:=by
 rcases h.ex with⟨_,rfl⟩|⟨i,k,rfl,hl⟩
 ·simp at hn
 ·refine⟨.sl i (k+lo.toNat) (hi.toNat-lo.toNat) 1,fun _ _=>by rw[vg _ _ _ _ _ _ _ _ h0 h1 h2,Nat.mul_one],?_,rfl⟩
  obtain⟨g1,B,g2,g3,g4⟩:=hl
  have hlen:((xs.drop lo.toNat).take (hi-lo).toNat).length=hi.toNat-lo.toNat:=by rw[List.length_take,List.length_drop];omega
  refine⟨.inr ⟨i,k+lo.toNat,by rw[hlen],⟨g1,B,g2,by rw[hlen];omega,?_⟩⟩⟩
  rw[hlen,List.map_take,List.map_drop,←g4]
  rw[List.drop_take,List.take_take,List.drop_drop]
  congr 1
  omega
def fM(b:Bk)(a z:Int):Nat:=((b.owner.drop a.toNat).take (z-a).toNat).countP fun x=> !decide (x=0)
theorem zz{xs:List Int}{i:Int}(h0:0≤i)(h1:i<xs.length):(xs.take (i+1).toNat).countP (fun x=> !decide (x=0))=(xs.take i.toNat).countP (fun x=> !decide (x=0))+(if at_ xs i=0 then 0 else 1):=by
 rw[take_at h0 h1,List.countP_append]
 by_cases h:at_ xs i=0<;>simp[h]
theorem qG(I:af)(b:Bk)(pv h0 h1 h2 h3 ov iv ev:U)(a z:Int)(hb:fb I b pv h0 h1 h2 h3 ov iv ev)(hs:dW b)(h:0≤a∧a≤z∧z≤b.owner.length∧0<b.owner.length):Fn Tryz.prog 133 [bV b pv h0 h1 h2 h3 ov iv ev,.int .i64 a,.int .i64 z] I fun x R=>x= .int .i64 (fM b a z)∧R=I:=by
 refine ay aZ mixed Tryz.func133 (by kernel_rfl) rfl (by kernel_rfl) bE ?_
 have i1:=hs.o.1
 have:=And.intro hb.p.aQ (And.intro hb.h0.aQ (And.intro hb.h1.aQ (And.intro hb.h2.aQ (And.intro hb.h3.aQ (And.intro hb.o.aQ (And.intro hb.i.aQ hb.e.aQ))))))
 obtain⟨l1,l2,l3,l4,l5,l6,l7,l8⟩:=this
 obtain⟨q,q1,q2,_⟩:=hb.o.cut h.1 h.2.1 h.2.2.1 h.2.2.2
 have i2:=hb.o
 unfold fM
 obtain⟨xs,Sx⟩:∃xs,(b.owner.drop a.toNat).take (z-a).toNat=xs:=⟨_,rfl⟩
 have hlen:xs.length≤1000000:=by rw[←Sx,List.length_take,List.length_drop];omega
 rw[Sx]at q2⊢
 have iq:=q2.aQ
 clear hb
 simp+contextual (maxSteps:=1000000) (disch:=first|exact dB|fail) [go_sem,int_lt,-Int.not_le,-Int.not_lt,-List.map_set,q1]
 (repeat refine Alt.mk ?_)
 refine aC (fun R_ env R=>∃(u n:Nat),env 14=q∧env 7= .int .i64 n∧env 16= .int .i64 u∧env 15= .int .i64 xs.length∧qW I b pv h0 h1 h2 h3 ov iv ev=R∧R_ (xs.length-u)∧(u≤xs.length∧n=(xs.take u).countP (fun x=> !decide (x=0))∧n≤u)) (by rintro R_ env R ⟨u,n,rQ,e7,sZ,mW,h_,cz,hp⟩;exact⟨_,cz,u,n,rQ,e7,sZ,mW,h_,rfl,hp⟩) ⟨0,0,aq,aq,aq,aq,rfl,trivial,?_⟩ ?_
 rotate_left
 rintro m_ env R ⟨u,n,rQ,e7,sZ,mW,rfl,rfl,hp⟩
 ·obtain⟨p1,p2,p3⟩:=hp
  by_cases hu:u<xs.length
  ·have po:¬xs.length≤u:=J
   have hc:=zz (xs:=xs) (i:=u) J J
   rw[show((u:Int)+1).toNat=u+1 by omega,Int.toNat_natCast,←p2]at hc
   by_cases hz:at_ xs u=0
   ·rw[if_pos hz]at hc
    simp+contextual (maxSteps:=1000000) (disch:=first|exact dB|fail) [go_sem,int_lt,-Int.not_le,-Int.not_lt,-List.map_set,rQ,e7,sZ,mW,po,hz]
    (repeat refine Alt.mk ?_)
    exact⟨u+1,n,rfl,J,J,J,J,J⟩
   ·rw[if_neg hz]at hc
    simp+contextual (maxSteps:=1000000) (disch:=first|exact dB|fail) [go_sem,int_lt,-Int.not_le,-Int.not_lt,-List.map_set,rQ,e7,sZ,mW,po,hz]
    (repeat refine Alt.mk ?_)
    exact⟨u+1,n+1,J,J,J,J,J,J⟩
  ·have po:xs.length≤u:=J
   simp+contextual (maxSteps:=1000000) (disch:=first|exact dB|fail) [go_sem,int_lt,-Int.not_le,-Int.not_lt,-List.map_set,rQ,e7,sZ,mW,po]
   (repeat refine Alt.mk ?_)
   rw[p2,List.take_of_length_le J]
 ·simp
@[go_sem] def U8:=fun(I:af) b pv h0 h1 h2 h3 ov iv ev a z hb hs h (aA:U→af→Prop)=>ar (k:=aA) (qG I b pv h0 h1 h2 h3 ov iv ev a z hb hs h)
@[go_sem] def U7:=fun(I:af) (b_:Bool) (b:Bk) (pv h0 h1 h2 h3 ov iv ev:U) (a z:Int) (hb:b_=true→ fb I b pv h0 h1 h2 h3 ov iv ev) (hs:b_=true→ dW b) (h:b_=true→ 0≤a∧a≤z∧z≤b.owner.length∧0<b.owner.length) (aA:U→af→Prop)=>aJ (k:=aA) b_ fun aY=>qG I b pv h0 h1 h2 h3 ov iv ev a z (hb aY) (hs aY) (h aY)
end AH
namespace AH
open Go Go.Proofs Ho
set_option maxRecDepth 20000
set_option maxHeartbeats 16000000
theorem jS{I:af}{b:Bk}{pv h0 h1 h2 h3 ov iv ev:U}(hb:fb I b pv h0 h1 h2 h3 ov iv ev){k:Nat}(hk:k<4):∃v,([h0,h1,h2,h3]:List U)[k]? =some v∧bu .i64 I v (b.aj k):=by
 have:k=0∨k=1∨k=2∨k=3:=J
 rcases this with rfl|rfl|rfl|rfl
 ·exact⟨h0,rfl,hb.h0⟩
 ·exact⟨h1,rfl,hb.h1⟩
 ·exact⟨h2,rfl,hb.h2⟩
 ·exact⟨h3,rfl,hb.h3⟩
theorem KU{k:Int}(h:0≤k∧k<4):0<sz k∧sz k≤8:=by
 rcases ud h with⟨_,e⟩|⟨_,e⟩|⟨_,e⟩|⟨_,e⟩<;>rw[e]<;>omega
theorem J9(s:Int){k:Int}(h:0≤k∧k<4):ch s=k↔s=k+1:=by unfold ch;split<;>omega
theorem tn{h0 h1 h2 h3 v:U}{k:Nat}(hk:k<4)(hv:([h0,h1,h2,h3]:List U)[k]? =some v):qp Tryz.prog 37 (.agg [h0,h1,h2,h3]) (.int .i64 k)=some v:=by
 have h:(0:Int)≤k∧(k:Int)<(4:Nat):=J
 simp only[qp,go_sem]
 rw[if_pos h]
 simpa using hv
theorem vZ(I:af)(b:Bk)(pv h0 h1 h2 h3 ov iv ev:U)(hb:fb I b pv h0 h1 h2 h3 ov iv ev)(hs:dW b):Fn Tryz.prog 132 [bV b pv h0 h1 h2 h3 ov iv ev] I fun x R=>x= .bool (decide (gg b∧js b))∧R=I:=by
 refine ay aZ mixed Tryz.func132 (by kernel_rfl) rfl (by kernel_rfl) bE ?_
 have eR:=hb
 have BW:=hs
 have:=And.intro hb.p.aQ (And.intro hb.h0.aQ (And.intro hb.h1.aQ (And.intro hb.h2.aQ (And.intro hb.h3.aQ (And.intro hb.o.aQ (And.intro hb.i.aQ hb.e.aQ))))))
 obtain⟨l1,l2,l3,l4,l5,l6,l7,l8⟩:=this
 obtain⟨vp,_,_,_,_,vo,vi,ve⟩:=id hb
 obtain⟨⟨s0,s1⟩,⟨sp,qP⟩,sh,⟨so,KR⟩,⟨si,_⟩,⟨se,_⟩⟩:=id hs
 by_cases hA:1≤b.am∧b.am≤4∧(b.cy.length:Int)=b.am∧(b.ao.length:Int)=b.am∧1≤b.ah.length∧b.ah.length≤6∧b.owner.length=b.ah.length*8
 rotate_left
 ·rw[decide_eq_false (fun h:gg b∧js b=>hA h.1.1)]
  clear eR BW
  simp+contextual (maxSteps:=1000000) (disch:=first|exact dB|fail) [go_sem,int_lt,-Int.not_le,-Int.not_lt,-List.map_set]
  (repeat refine Alt.mk ?_)
  intro a1 a2 a3 a4 a5 a6 a7
  exfalso;omega
 obtain⟨a1,a2,a3,a4,a5,a6,a7⟩:=hA
 have a5':1≤(b.ah.length:Int):=J
 have a6':(b.ah.length:Int)≤6:=J
 have a7':(b.owner.length:Int)=8*b.ah.length:=J
 generalize hG:decide (gg b∧js b)=G
 have SQ:¬gg b→G=false:=fun h=>by rw[←hG];exact decide_eq_false fun hh=>h hh.1
 have GH:¬js b→G=false:=fun h=>by rw[←hG];exact decide_eq_false fun hh=>h hh.2
 have yes:gg b→js b→G=true:=fun h1 h2=>by rw[←hG];exact decide_eq_true ⟨h1,h2⟩
 clear hG
 simp+contextual (maxSteps:=1000000) (disch:=first|exact dB|fail) [go_sem,int_lt,-Int.not_le,-Int.not_lt,-List.map_set,a1,a2,a3,a4,a5',a6',a7']
 (repeat refine Alt.mk ?_)
 refine aC (fun R_ env R=>∃(i:Nat),env 1= .ptr I.n 0∧env 49=iv∧env 50= .int .i64 b.am∧env 51= .int .i64 i∧qW I b pv h0 h1 h2 h3 ov iv ev=R∧R_ ((b.am-i).toNat)∧(i≤b.am∧∀q:Int,0≤q→q<i→0≤at_ b.cy q∧at_ b.cy q≤2∧0≤at_ b.ao q∧at_ b.ao q≤4095∧¬(at_ b.ao q=0∧0<at_ b.cy q))) (by rintro R_ env R ⟨i,e1,Xu,Xv,I0,h_,cz,hp⟩;exact⟨_,cz,i,e1,Xu,Xv,I0,h_,rfl,hp⟩) ⟨0,aq,aq,aq,aq,rfl,trivial,?_⟩ ?_
 rotate_left
 rintro m_ env R ⟨i,e1,Xu,Xv,I0,rfl,rfl,hp⟩
 rotate_left
 ·exact⟨J,fun q q1 q2=>by omega⟩
 obtain⟨p1,p2⟩:=hp
 by_cases hi:(i:Int)<b.am
 ·have gc:¬b.am≤i:=J
  have lI:(i:Int)<b.cy.length:=J
  have mI:(i:Int)<b.ao.length:=J
  have bad:¬(0≤at_ b.cy i∧at_ b.cy i≤2∧0≤at_ b.ao i∧at_ b.ao i≤4095∧¬(at_ b.ao i=0∧0<at_ b.cy i))→G=false:=fun h=>SQ fun hs=>h (hs.2.1 i J hi)
  simp+contextual (maxSteps:=1000000) (disch:=first|exact dB|fail) [go_sem,int_lt,-Int.not_le,-Int.not_lt,-List.map_set,e1,Xu,Xv,I0,gc,lI,mI]
  (repeat refine Alt.mk ?_)
  refine⟨fun h=>bad J,fun c1 c2 c3 c4 c5=>⟨i+1,J,J,J,fun q q1 q2=>?_⟩⟩
  by_cases e:q=i
  ·subst e;exact⟨c1,c2,c3,c4,fun hz=>by
   by_cases h:at_ b.cy i=0
   ·omega
   ·exact absurd hz (c5 h)⟩
  ·have:=p2 q q1 J
   exact⟨this.1,this.2.1,this.2.2.1,this.2.2.2.1,fun hz=>by omega⟩
 have gc:b.am≤i:=J
 have pF:∀q:Int,0≤q→q<b.am→0≤at_ b.cy q∧at_ b.cy q≤2∧0≤at_ b.ao q∧at_ b.ao q≤4095∧¬(at_ b.ao q=0∧0<at_ b.cy q):=fun q q1 q2=>p2 q q1 J
 clear p2
 simp+contextual (maxSteps:=1000000) (disch:=first|exact dB|fail) [go_sem,int_lt,-Int.not_le,-Int.not_lt,-List.map_set,e1,Xu,Xv,I0,gc]
 (repeat refine Alt.mk ?_)
 refine aC (fun R_ env R=>∃(u:Nat),env 1= .ptr I.n 0∧env 82=ov∧env 83= .int .i64 b.owner.length∧env 84= .int .i64 u∧qW I b pv h0 h1 h2 h3 ov iv ev=R∧R_ (b.owner.length-u)∧(u≤b.owner.length∧∀q:Int,0≤q→q<u→0≤at_ b.owner q∧at_ b.owner q≤b.am∧¬(0<at_ b.owner q∧at_ b.cy (at_ b.owner q-1)=0))) (by rintro R_ env R ⟨u,e1,RS,RT,RU,h_,cz,hp⟩;exact⟨_,cz,u,e1,RS,RT,RU,h_,rfl,hp⟩) ⟨0,aq,aq,aq,aq,rfl,trivial,?_⟩ ?_
 rotate_left
 rintro m_ env R ⟨u,e1,RS,RT,RU,rfl,rfl,hp⟩
 rotate_left
 ·exact⟨J,fun q q1 q2=>by omega⟩
 obtain⟨p3,p4⟩:=hp
 by_cases hu:u<b.owner.length
 ·have fH:¬b.owner.length≤u:=J
  have bad:¬(0≤at_ b.owner u∧at_ b.owner u≤b.am∧¬(0<at_ b.owner u∧at_ b.cy (at_ b.owner u-1)=0))→G=false:=fun h=>SQ fun hs=>h (hs.2.2 u J J)
  have nx:(0≤at_ b.owner u∧at_ b.owner u≤b.am∧¬(0<at_ b.owner u∧at_ b.cy (at_ b.owner u-1)=0))→∀q:Int,0≤q→q<((u+1:Nat):Int)→0≤at_ b.owner q∧at_ b.owner q≤b.am∧¬(0<at_ b.owner q∧at_ b.cy (at_ b.owner q-1)=0):=fun h q q1 q2=>by
   by_cases e:q=u
   ·subst e;exact h
   ·exact p4 q q1 J
  have YC:=KR u
  obtain⟨o,ho⟩:∃o,at_ b.owner u=o:=⟨_,rfl⟩
  rw[ho]at bad nx YC
  by_cases hz:o=0
  ·have Vp:=nx ⟨J,J,J⟩
   clear bad nx p4 SQ GH yes
   simp+contextual (maxSteps:=1000000) (disch:=first|exact dB|fail) [go_sem,int_lt,-Int.not_le,-Int.not_lt,-List.map_set,e1,RS,RT,RU,fH,ho,hz]
   (repeat refine Alt.mk ?_)
   exact⟨u+1,J,J,J,fun q q1 q2=>by have:=Vp q q1 J;exact⟨this.1,this.2.1,fun z1 z2=>this.2.2 ⟨J,z2⟩⟩⟩
  ·by_cases kL:HK b (o-1)
   ·have Vp:=nx (by unfold HK at kL;exact⟨J,J,fun h=>kL.2.2 h.2⟩)
    clear bad nx p4 SQ GH yes
    simp+contextual (maxSteps:=1000000) (disch:=first|exact dB|fail) [go_sem,int_lt,-Int.not_le,-Int.not_lt,-List.map_set,e1,RS,RT,RU,fH,ho,hz,kL]
    (repeat refine Alt.mk ?_)
    exact⟨u+1,J,J,J,fun q q1 q2=>by have:=Vp q q1 J;exact⟨this.1,this.2.1,fun z1 z2=>this.2.2 ⟨J,z2⟩⟩⟩
   ·have xo:=bad (fun h=>kL ⟨J,J,fun hh=>h.2.2 ⟨J,hh⟩⟩)
    clear bad nx p4 SQ GH yes
    simp+contextual (maxSteps:=1000000) (disch:=first|exact dB|fail) [go_sem,int_lt,-Int.not_le,-Int.not_lt,-List.map_set,e1,RS,RT,RU,fH,ho,hz,kL]
    (repeat refine Alt.mk ?_)
    exact xo
 have fH:b.owner.length≤u:=J
 have gG:gg b:=⟨⟨a1,a2,a3,a4,J,J,a7⟩,pF,fun q q1 q2=>p4 q q1 J⟩
 clear p4 pF SQ
 simp+contextual (maxSteps:=1000000) (disch:=first|exact dB|fail) [go_sem,int_lt,-Int.not_le,-Int.not_lt,-List.map_set,e1,RS,RT,RU,fH]
 (repeat refine Alt.mk ?_)
 refine aC (fun R_ env R=>∃(k:Nat),env 1= .ptr I.n 0∧env 99= .agg [h0,h1,h2,h3]∧env 100= .int .i64 k∧qW I b pv h0 h1 h2 h3 ov iv ev=R∧R_ (4-k)∧(k≤4∧∀j:Nat,j<k→ES b j)) (by rintro R_ env R ⟨k,e1,Ex,pz,h_,cz,hp⟩;exact⟨_,cz,k,e1,Ex,pz,h_,rfl,hp⟩) ⟨0,aq,aq,aq,rfl,trivial,?_⟩ ?_
 rotate_left
 rintro m_ env R ⟨k,e1,Ex,pz,rfl,rfl,hp⟩
 rotate_left
 ·exact⟨J,fun q q1=>by omega⟩
 obtain⟨p5,p6⟩:=hp
 by_cases hk:k<4
 rotate_left
 ·have uV:4≤k:=J
  have Jt:4≤(k:Int):=J
  have y:=yes gG fun j hj=>p6 j J
  clear p6 yes GH
  simp+contextual (maxSteps:=1000000) (disch:=first|exact dB|fail) [go_sem,int_lt,-Int.not_le,-Int.not_lt,-List.map_set,e1,Ex,pz,uV,Jt]
  (repeat refine Alt.mk ?_)
  exact y
 have uV:¬4≤k:=J
 have Jt:¬4≤(k:Int):=J
 obtain⟨v,mJ,fw⟩:=jS hb hk
 have iv2:=fw.aQ
 have Sn:=tn hk mJ
 obtain⟨sx,Md⟩:=sh k
 by_cases hlen:(b.aj k).length≤b.owner.length
 rotate_left
 ·have oh:¬(b.aj k).length≤b.owner.length:=hlen
  have n:=GH fun h=>hlen (h k hk).1
  clear p6 yes GH
  simp+contextual (maxSteps:=1000000) (disch:=first|exact dB|fail) [go_sem,int_lt,-Int.not_le,-Int.not_lt,-List.map_set,e1,Ex,pz,uV,Jt,Sn,oh]
  (repeat refine Alt.mk ?_)
  exact n
 simp+contextual (maxSteps:=1000000) (disch:=first|exact dB|fail) [go_sem,int_lt,-Int.not_le,-Int.not_lt,-List.map_set,e1,Ex,pz,uV,Jt,Sn,hlen]
 (repeat refine Alt.mk ?_)
 refine aC (fun R_ env R=>∃(u:Nat),env 1= .ptr I.n 0∧env 7= .int .i64 k∧env 99= .agg [h0,h1,h2,h3]∧env 100= .int .i64 k∧env 110=v∧env 111= .int .i64 (b.aj k).length∧env 112= .int .i64 u∧qW I b pv h0 h1 h2 h3 ov iv ev=R∧R_ ((b.aj k).length-u)∧(u≤(b.aj k).length∧∀q:Int,0≤q→q<u→0≤at_ (b.aj k) q∧at_ (b.aj k) q<b.owner.length∧ch (at_ b.ah (at_ (b.aj k) q/8))=k∧at_ (b.aj k) q % sz k≤0)) (by rintro R_ env R ⟨u,e1,e7,Ex,pz,zG,zH,zI,h_,cz,hp⟩;exact⟨_,cz,u,e1,e7,Ex,pz,zG,zH,zI,h_,rfl,hp⟩) ⟨0,aq,aq,aq,aq,aq,aq,aq,rfl,trivial,?_⟩ ?_
 rotate_left
 rintro m_ env R ⟨u,e1,e7,Ex,pz,zG,zH,zI,rfl,rfl,hp⟩
 rotate_left
 ·exact⟨J,fun q q1 q2=>by omega⟩
 obtain⟨p7,p8⟩:=hp
 by_cases Yb:u<(b.aj k).length
 ·have QH:¬(b.aj k).length≤u:=J
  have bad:¬(0≤at_ (b.aj k) u∧at_ (b.aj k) u<b.owner.length∧ch (at_ b.ah (at_ (b.aj k) u/8))=k∧at_ (b.aj k) u % sz k≤0)→G=false:=fun h=>GH fun hl=>h ((hl k hk).2 u J J)
  have nx:(0≤at_ (b.aj k) u∧at_ (b.aj k) u<b.owner.length∧ch (at_ b.ah (at_ (b.aj k) u/8))=k∧at_ (b.aj k) u % sz k≤0)→∀q:Int,0≤q→q<((u+1:Nat):Int)→0≤at_ (b.aj k) q∧at_ (b.aj k) q<b.owner.length∧ch (at_ b.ah (at_ (b.aj k) q/8))=k∧at_ (b.aj k) q % sz k≤0:=fun h q q1 q2=>by
   by_cases e:q=u
   ·subst e;exact h
   ·exact p8 q q1 J
  have sxu:=Md u
  obtain⟨x,Sw⟩:∃x,at_ (b.aj k) u=x:=⟨_,rfl⟩
  rw[Sw]at bad nx sxu
  have spx:=qP (x/8)
  obtain⟨z1,z2⟩:=KU (k:=k) J
  have z3:¬sz k=0:=J
  obtain⟨s,kX⟩:∃s,sz (k:Int)=s:=⟨_,rfl⟩
  rw[kX]at bad nx z1 z2 z3
  have SM:=J9 (at_ b.ah (x/8)) (k:=k) J
  rw[SM]at bad nx
  by_cases x1:0≤x
  rotate_left
  ·have xo:=bad (fun h=>x1 h.1)
   clear bad nx p8 p6 GH yes SM
   simp+contextual (maxSteps:=1000000) (disch:=first|exact dB|fail) [go_sem,int_lt,-Int.not_le,-Int.not_lt,-List.map_set,e1,e7,Ex,pz,zG,zH,zI,QH,Sw,x1]
   (repeat refine Alt.mk ?_)
   exact xo
  by_cases x2:x≤(b.owner.length:Int)-1
  rotate_left
  ·have xo:=bad (fun h=>x2 J)
   clear bad nx p8 p6 GH yes SM
   simp+contextual (maxSteps:=1000000) (disch:=first|exact dB|fail) [go_sem,int_lt,-Int.not_le,-Int.not_lt,-List.map_set,e1,e7,Ex,pz,zG,zH,zI,QH,Sw,x1,x2]
   (repeat refine Alt.mk ?_)
   exact xo
  have hmn:0≤x % s:=Int.emod_nonneg _ z3
  by_cases x3:x % s=0
  rotate_left
  ·have xo:=bad (fun h=>x3 J)
   clear bad nx p8 p6 GH yes SM
   simp+contextual (maxSteps:=1000000) (disch:=first|exact dB|fail) [go_sem,int_lt,-Int.not_le,-Int.not_lt,-List.map_set,e1,e7,Ex,pz,zG,zH,zI,QH,Sw,x1,x2,x3,kX,z3,Int.tmod_eq_emod_of_nonneg]
   (repeat refine Alt.mk ?_)
   exact xo
  by_cases x4:at_ b.ah (x/8)=k+1
  ·have Vp:=nx ⟨x1,J,x4,J⟩
   clear bad nx p8 p6 GH yes SM
   simp+contextual (maxSteps:=1000000) (disch:=first|exact dB|fail) [go_sem,int_lt,-Int.not_le,-Int.not_lt,-List.map_set,e1,e7,Ex,pz,zG,zH,zI,QH,Sw,x1,x2,x3,x4,kX,z3,Int.tmod_eq_emod_of_nonneg,Int.tdiv_eq_ediv_of_nonneg]
   (repeat refine Alt.mk ?_)
   exact⟨u+1,J,J,J,fun q q1 q2=>by have:=Vp q q1 J;exact⟨this.1,J,this.2.2.1,this.2.2.2⟩⟩
  ·have xo:=bad (fun h=>x4 h.2.2.1)
   clear bad nx p8 p6 GH yes SM
   simp+contextual (maxSteps:=1000000) (disch:=first|exact dB|fail) [go_sem,int_lt,-Int.not_le,-Int.not_lt,-List.map_set,e1,e7,Ex,pz,zG,zH,zI,QH,Sw,x1,x2,x3,x4,kX,z3,Int.tmod_eq_emod_of_nonneg,Int.tdiv_eq_ediv_of_nonneg]
   (repeat refine Alt.mk ?_)
   exact xo
 ·have QH:(b.aj k).length≤u:=J
  have nx:∀j:Nat,j<k+1→ES b j:=fun j hj=>by
   by_cases e:j=k
   ·subst e;exact⟨hlen,fun q q1 q2=>p8 q q1 J⟩
   ·exact p6 j J
  clear p8 p6 GH yes
  simp+contextual (maxSteps:=1000000) (disch:=first|exact dB|fail) [go_sem,int_lt,-Int.not_le,-Int.not_lt,-List.map_set,e1,e7,Ex,pz,zG,zH,zI,QH]
  (repeat refine Alt.mk ?_)
  exact⟨k+1,J,J,J,fun j hj=>nx j J⟩
@[go_sem] def Va:=fun(I:af) b pv h0 h1 h2 h3 ov iv ev hb hs (aA:U→af→Prop)=>ar (k:=aA) (vZ I b pv h0 h1 h2 h3 ov iv ev hb hs)
@[go_sem] def U':=fun(I:af) (b_:Bool) (b:Bk) (pv h0 h1 h2 h3 ov iv ev:U) (hb:b_=true→ fb I b pv h0 h1 h2 h3 ov iv ev) (hs:b_=true→ dW b) (aA:U→af→Prop)=>aJ (k:=aA) b_ fun aY=>vZ I b pv h0 h1 h2 h3 ov iv ev (hb aY) (hs aY)
end AH
namespace AH
open Go Go.Proofs Ho
set_option maxRecDepth 20000
set_option maxHeartbeats 16000000
noncomputable instance(b:Bk)(p k:Int):Decidable (ml b p k):=Classical.propDecidable _
theorem nI{s pv h0 h1 h2 h3 ov iv ev v:U}{k:Nat}(hk:k<4)(hv:([h0,h1,h2,h3]:List U)[k]? =some v):([s,pv,h0,h1,h2,h3,ov,iv,ev]:List U)[2+k]? =some v:=by
 have:k=0∨k=1∨k=2∨k=3:=J
 rcases this with rfl|rfl|rfl|rfl<;>exact hv
theorem qA{xs:List U}{j:Nat}{v:U}(h:xs[j]? =some v):∀hj:j<xs.length,xs[j]'hj=v:=fun hj=>by
 rw[List.getElem?_eq_getElem hj]at h;exact Option.some.inj h
theorem CU{xs:List Int}{i a:Int}(h0:0≤i)(h1:i<xs.length):(xs.take (i+1).toNat).count a=(xs.take i.toNat).count a+(if at_ xs i=a then 1 else 0):=by
 rw[take_at h0 h1,List.count_append]
 by_cases h:at_ xs i=a<;>simp[h]
theorem jl(b:Bk){a z:Int}(h0:0≤a)(hz:z≤b.owner.length):fM b a z=0↔∀u:Int,a≤u→u<z→at_ b.owner u=0:=by
 unfold fM
 rw[List.countP_eq_zero]
 constructor
 ·intro h u h1 h2
  have hm:at_ b.owner u∈(b.owner.drop a.toNat).take (z-a).toNat:=by
   rw[List.mem_iff_getElem?]
   refine⟨(u-a).toNat,?_⟩
   rw[List.getElem?_take,if_pos J,List.getElem?_drop,show a.toNat+(u-a).toNat=u.toNat by omega]
   simp[at_,show u.toNat<b.owner.length by omega]
  simpa using h _ hm
 ·intro h x hx
  obtain⟨j,hj⟩:=List.mem_iff_getElem?.1 hx
  rw[List.getElem?_take]at hj
  split at hj
  ·rw[List.getElem?_drop]at hj
   have h1:=(List.getElem?_eq_some_iff.1 hj).1
   have:=h (a+j) J J
   have e:at_ b.owner (a+j)=x:=by
    unfold at_
    rw[show(a+(j:Int)).toNat=a.toNat+j by omega,List.getD_eq_getElem?_getD,hj];rfl
   rw[e]at this
   simp[this]
  ·cases hj
theorem rp(b:Bk){a z:Int}(h0:0≤a)(ha:a<z)(hz:z≤b.owner.length):fM b a z=(if at_ b.owner a=0 then 0 else 1)+fM b (a+1) z:=by
 unfold fM
 rw[show(a+1).toNat=a.toNat+1 by omega,show(z-a).toNat=(z-(a+1)).toNat+1 by omega]
 rw[List.drop_eq_getElem_cons (show a.toNat<b.owner.length by omega),List.take_succ_cons,List.countP_cons]
 have e:at_ b.owner a=b.owner[a.toNat]:=by simp[at_,show a.toNat<b.owner.length by omega]
 rw[←e]
 by_cases h:at_ b.owner a=0<;>simp[h,Nat.add_comm]
theorem tJ(I:af)(b:Bk)(pv h0 h1 h2 h3 ov iv ev:U)(page:Int)(hb:fb I b pv h0 h1 h2 h3 ov iv ev)(hs:dW b)(hl:gg b)(hp:0≤page∧page<b.ah.length∧1≤at_ b.ah page∧at_ b.ah page≤4):Fn Tryz.prog 135 [bV b pv h0 h1 h2 h3 ov iv ev,.int .i64 page] I fun x R=>x= .bool (decide (ml b page (at_ b.ah page-1)))∧R=I:=by
 refine ay aZ mixed Tryz.func135 (by kernel_rfl) rfl (by kernel_rfl) bE ?_
 have:=And.intro hb.p.aQ (And.intro hb.h0.aQ (And.intro hb.h1.aQ (And.intro hb.h2.aQ (And.intro hb.h3.aQ (And.intro hb.o.aQ (And.intro hb.i.aQ hb.e.aQ))))))
 obtain⟨l1,l2,l3,l4,l5,l6,l7,l8⟩:=this
 obtain⟨vp,_,_,_,_,vo,vi,ve⟩:=id hb
 obtain⟨⟨s0,s1⟩,⟨sp,qP⟩,sh,⟨so,KR⟩,⟨si,_⟩,⟨se,_⟩⟩:=id hs
 obtain⟨g1,g2,g3,g4⟩:=hp
 have EG:b.owner.length=b.ah.length*8:=hl.1.2.2.2.2.2.2
 have dO:b.ah.length≤6:=hl.1.2.2.2.2.2.1
 obtain⟨k,hk⟩:∃k:Nat,at_ b.ah page=(k:Int)+1:=⟨(at_ b.ah page-1).toNat,J⟩
 have xJ:k<4:=J
 obtain⟨v,mJ,fw⟩:=jS hb xJ
 have uW:=nI (s:= .int .i64 b.am) (pv:=pv) (ov:=ov) (iv:=iv) (ev:=ev) xJ mJ
 have tq:=qA uW
 have iv2:=fw.aQ
 obtain⟨sx,Md⟩:=sh k
 obtain⟨z1,z2⟩:=KU (k:=k) J
 have z3:¬sz k=0:=J
 rw[hk,show(k:Int)+1-1=k by omega]
 generalize hG:decide (ml b page k)=G
 have no:¬ml b page k→G=false:=fun h=>by rw[←hG];exact decide_eq_false h
 have yes:ml b page k→G=true:=fun h=>by rw[←hG];exact decide_eq_true h
 clear hG
 have hk5:¬4≤(k:Int):=J
 obtain⟨s,kX⟩:∃s,sz (k:Int)=s:=⟨_,rfl⟩
 simp+contextual (maxSteps:=1000000) (disch:=first|exact dB|fail) [go_sem,int_lt,-Int.not_le,-Int.not_lt,-List.map_set,hk]
 (repeat refine Alt.mk ?_)
 refine aC (fun R_ env R=>∃(u:Nat),env 2= .ptr I.n 0∧env 5= .int .i64 k∧env 6= .int .i64 (page*8)∧env 7= .int .i64 (page*8+u)∧qW I b pv h0 h1 h2 h3 ov iv ev=R∧R_ (8-u)∧(u≤8∧∀q:Int,0≤q→q<u→mA b page k q)) (by rintro R_ env R ⟨u,e2,e5,e6,e7,h_,cz,hp⟩;exact⟨_,cz,u,e2,e5,e6,e7,h_,rfl,hp⟩) ⟨0,aq,aq,aq,aq,rfl,trivial,?_⟩ ?_
 rotate_left
 rintro m_ env R ⟨u,e2,e5,e6,e7,rfl,rfl,hp⟩
 rotate_left
 ·exact⟨J,fun q q1 q2=>by omega⟩
 obtain⟨p1,p2⟩:=hp
 by_cases hu:u<8
 ·have fH:¬page*8+8≤page*8+u:=J
  simp+contextual (maxSteps:=1000000) (disch:=first|exact dB|fail) [go_sem,int_lt,-Int.not_le,-Int.not_lt,-List.map_set,e2,e5,e6,e7,fH,uW,tq,hk5]
  (repeat refine Alt.mk ?_)
  refine aC (fun R_ env R=>∃(a n:Nat),env 2= .ptr I.n 0∧env 5= .int .i64 k∧env 6= .int .i64 (page*8)∧env 7= .int .i64 (page*8+u)∧env 30=v∧env 31= .int .i64 (b.aj k).length∧env 32= .int .i64 a∧env 8= .int .i64 n∧qW I b pv h0 h1 h2 h3 ov iv ev=R∧R_ ((b.aj k).length-a)∧(a≤(b.aj k).length∧n=((b.aj k).take a).count (page*8+u)∧n≤a)) (by rintro R_ env R ⟨a,n,e2,e5,e6,e7,OL,OM,ON,e8,h_,cz,hp⟩;exact⟨_,cz,a,n,e2,e5,e6,e7,OL,OM,ON,e8,h_,rfl,hp⟩) ⟨0,0,aq,aq,aq,aq,aq,aq,aq,aq,rfl,trivial,?_⟩ ?_
  rotate_left
  rintro m_ env R ⟨a,n,e2,e5,e6,e7,OL,OM,ON,e8,rfl,rfl,hp⟩
  rotate_left
  ·exact⟨J,aV,J⟩
  obtain⟨p3,p4,p5⟩:=hp
  by_cases ha:a<(b.aj k).length
  ·have qf:¬(b.aj k).length≤a:=J
   have hc:=CU (xs:=b.aj k) (i:=a) (a:=page*8+u) J J
   rw[show((a:Int)+1).toNat=a+1 by omega,Int.toNat_natCast,←p4]at hc
   by_cases hz:at_ (b.aj k) a=page*8+u
   ·rw[if_pos hz]at hc
    clear p2 no yes
    simp+contextual (maxSteps:=1000000) (disch:=first|exact dB|fail) [go_sem,int_lt,-Int.not_le,-Int.not_lt,-List.map_set,e2,e5,e6,e7,OL,OM,ON,e8,qf,hz]
    (repeat refine Alt.mk ?_)
    exact⟨a+1,J,n+1,J,J,J,J,J⟩
   ·rw[if_neg hz]at hc
    clear p2 no yes
    simp+contextual (maxSteps:=1000000) (disch:=first|exact dB|fail) [go_sem,int_lt,-Int.not_le,-Int.not_lt,-List.map_set,e2,e5,e6,e7,OL,OM,ON,e8,qf,hz]
    (repeat refine Alt.mk ?_)
    exact⟨a+1,J,n,rfl,J,J,J,J⟩
  ·have qf:(b.aj k).length≤a:=J
   rw[List.take_of_length_le qf]at p4
   have BV:mA b page k u↔¬((u:Int) % sz k=0∧(at_ b.owner (page*8+u)≠0↔0<n)∨1<n∨((u:Int) % sz k≠0∧at_ b.owner (page*8+u)≠0)):=by
    unfold mA;rw[show((k:Nat):Int).toNat=k by omega,←p4]
   have Ge:(page*8+u) % sz k=(u:Int) % sz k:=by
    rcases ud (k:=k) J with⟨_,e⟩|⟨_,e⟩|⟨_,e⟩|⟨_,e⟩<;>rw[e]<;>omega
   have hmn:0≤(u:Int) % sz k:=Int.emod_nonneg _ z3
   have nx:mA b page k u→∀q:Int,0≤q→q<((u+1:Nat):Int)→mA b page k q:=fun h q q1 q2=>by
    by_cases e:q=u
    ·subst e;exact h
    ·exact p2 q q1 J
   have nb:¬mA b page k u→G=false:=fun h=>no fun hh=>h (hh.1 u J J)
   rw[kX]at BV Ge hmn z1 z3
   have YC:=KR (page*8+u)
   obtain⟨o,ho⟩:∃o,at_ b.owner (page*8+u)=o:=⟨_,rfl⟩
   rw[ho]at BV YC
   clear p2 no yes p4
   have fin:∀C:Prop,(mA b page k u↔C)→(¬C→G=false)∧(C→∀q:Int,0≤q→q<((u+1:Nat):Int)→mA b page k q):=fun C h=>⟨fun hc=>nb (fun hh=>hc (h.1 hh)),fun hc=>nx (h.2 hc)⟩
   clear nx nb
   by_cases c1:(u:Int) % s=0
   ·by_cases c2:o=0
    ·obtain⟨f1,f2⟩:=fin (n=1) (by rw[BV];simp only[c1,c2,true_and,ne_eq,not_true_eq_false,false_iff,false_and,or_false];omega)
     clear fin BV
     simp+contextual (maxSteps:=1000000) (disch:=first|exact dB|fail) [go_sem,int_lt,-Int.not_le,-Int.not_lt,-List.map_set,e2,e5,e6,e7,OL,OM,ON,e8,qf,kX,Ge,z3,Int.tmod_eq_emod_of_nonneg,c1,c2,ho]
     exact Alt.mk ⟨fun h=>f1 J,fun h1 h2=>⟨u+1,J,J,J,fun q q1 q2=>f2 J q q1 J⟩⟩
    ·obtain⟨f1,f2⟩:=fin (n=0) (by rw[BV];simp only[c1,c2,true_and,ne_eq,not_true_eq_false,not_false_eq_true,true_iff,false_and,or_false];omega)
     clear fin BV
     simp+contextual (maxSteps:=1000000) (disch:=first|exact dB|fail) [go_sem,int_lt,-Int.not_le,-Int.not_lt,-List.map_set,e2,e5,e6,e7,OL,OM,ON,e8,qf,kX,Ge,z3,Int.tmod_eq_emod_of_nonneg,c1,c2,ho]
     exact Alt.mk ⟨fun h=>f1 J,fun h1=>⟨u+1,J,J,J,fun q q1 q2=>f2 J q q1 J⟩⟩
   ·by_cases c2:o=0
    ·obtain⟨f1,f2⟩:=fin (n≤1) (by rw[BV];simp only[c1,c2,false_and,ne_eq,not_true_eq_false,and_false,false_or,or_false];omega)
     clear fin BV
     simp+contextual (maxSteps:=1000000) (disch:=first|exact dB|fail) [go_sem,int_lt,-Int.not_le,-Int.not_lt,-List.map_set,e2,e5,e6,e7,OL,OM,ON,e8,qf,kX,Ge,z3,Int.tmod_eq_emod_of_nonneg,c1,c2,ho]
     exact Alt.mk ⟨fun h=>f1 J,fun h1=>⟨u+1,J,J,J,fun q q1 q2=>f2 J q q1 J⟩⟩
    ·obtain⟨f1,f2⟩:=fin False (by rw[BV];simp only[c1,c2,false_and,ne_eq,not_false_eq_true,and_true,or_true,not_true_eq_false])
     clear fin BV
     simp+contextual (maxSteps:=1000000) (disch:=first|exact dB|fail) [go_sem,int_lt,-Int.not_le,-Int.not_lt,-List.map_set,e2,e5,e6,e7,OL,OM,ON,e8,qf,kX,Ge,z3,Int.tmod_eq_emod_of_nonneg,c1,c2,ho]
     exact Alt.mk (f1 id)
 ·have fH:page*8+8≤page*8+u:=J
  have hou:=jl b (a:=page*8) (z:=page*8+8) J J
  have hr:ml b page k↔fM b (page*8) (page*8+8)≠0:=by
   rw[Ne,hou]
   constructor
   ·rintro⟨_,q,q1,q2,q3⟩ h
    exact q3 (h _ J J)
   ·intro h
    refine⟨fun q q1 q2=>p2 q q1 J,?_⟩
    refine Classical.byContradiction fun hn=>h fun q q1 q2=>?_
    refine Classical.byContradiction fun hq=>hn ⟨q-page*8,J,J,?_⟩
    rw[show page*8+(q-page*8)=q by omega];exact hq
  clear p2 hou
  have hob:fM b (page*8) (page*8+8)≤1000:=by
   unfold fM
   exact Nat.le_trans List.countP_le_length IJ
  have yG:(¬((fM b (page*8) (page*8+8):Nat):Int)≤0)↔ml b page k:=by rw[hr];omega
  obtain⟨N,hN⟩:∃N,fM b (page*8) (page*8+8)=N:=⟨_,rfl⟩
  rw[hN]at yG hob
  have hD:decide (0<N)=G:=by
   by_cases h:0<N
   ·rw[yes (yG.1 J)];simpa using h
   ·rw[no (fun hh=>by have:=yG.2 hh;omega)];simpa using h
  clear hr
  simp+contextual (maxSteps:=1000000) (disch:=first|exact dB|fail) [go_sem,int_lt,-Int.not_le,-Int.not_lt,-List.map_set,e2,e5,e6,e7,fH,hN]
  (repeat refine Alt.mk ?_)
  exact hD
@[go_sem] def SG:=fun(I:af) b pv h0 h1 h2 h3 ov iv ev page hb hs hl hp (aA:U→af→Prop)=>ar (k:=aA) (tJ I b pv h0 h1 h2 h3 ov iv ev page hb hs hl hp)
@[go_sem] def SE:=fun(I:af) (b_:Bool) (b:Bk) (pv h0 h1 h2 h3 ov iv ev:U) (page:Int) (hb:b_=true→ fb I b pv h0 h1 h2 h3 ov iv ev) (hs:b_=true→ dW b) (hl:b_=true→ gg b) (hp:b_=true→ 0≤page∧page<b.ah.length∧1≤at_ b.ah page∧at_ b.ah page≤4) (aA:U→af→Prop)=>aJ (k:=aA) b_ fun aY=>tJ I b pv h0 h1 h2 h3 ov iv ev page (hb aY) (hs aY) (hl aY) (hp aY)
end AH
namespace AH
open Go Go.Proofs Ho
set_option maxRecDepth 20000
set_option maxHeartbeats 16000000
structure Hn(b:Bk)(p:Int):Prop where
 bk:cm b↔∀q:Int,p≤q→q<b.ah.length→ic b q
 bd:∀q:Int,0≤q→q<p→8<at_ b.ah q→q+at_ b.ah q-8≤p
theorem Hn.step{b:Bk}(hs:gg b){p:Int}(h:Hn b p)(h0:0≤p)(h1:p<b.ah.length):
 (at_ b.ah p=0→(dz b p 0→Hn b (p+1))∧(¬dz b p 0→¬cm b))∧
 (1≤at_ b.ah p∧at_ b.ah p≤4→(iA b p (at_ b.ah p-1)→Hn b (p+1))∧(¬iA b p (at_ b.ah p-1)→¬cm b))∧
 (¬at_ b.ah p=0→¬(1≤at_ b.ah p∧at_ b.ah p≤4)→(wy b p→Hn b (p+(at_ b.ah p-8)))∧(¬wy b p→¬cm b)):=by
 have key:=tO hs (b.ah.length+2) p h0 J J h.bd
 have k1:∀q:Int,0≤q→q≤b.ah.length→(∀r:Int,0≤r→r<q→8<at_ b.ah r→r+at_ b.ah r-8≤q)→(ju b (b.ah.length+1) q↔∀r:Int,q≤r→r<b.ah.length→ic b r):=fun q q1 q2 q3=>tO hs (b.ah.length+1) q q1 q2 J q3
 have e:ju b (b.ah.length+2) p=(if(b.ah.length:Int)≤p then True
  else if at_ b.ah p=0 then dz b p 0∧ju b (b.ah.length+1) (p+1)
  else if 0≤ch (at_ b.ah p)then iA b p (ch (at_ b.ah p))∧ju b (b.ah.length+1) (p+1)
  else wy b p∧ju b (b.ah.length+1) (p+(at_ b.ah p-8))):=rfl
 rw[e,if_neg J,←h.bk]at key
 have nxt:∀C:Prop,¬8<at_ b.ah p→(C∧ju b (b.ah.length+1) (p+1)↔cm b)→(C→Hn b (p+1))∧(¬C→¬cm b):=by
  intro C h8 hk
  have pG:∀q:Int,0≤q→q<p+1→8<at_ b.ah q→q+at_ b.ah q-8≤p+1:=fun q q1 q2 q3=>by
   by_cases e:q=p
   ·subst e;exact absurd q3 h8
   ·have:=h.bd q q1 J q3;omega
  refine⟨fun hc=>⟨?_,pG⟩,fun hc hb=>hc (hk.2 hb).1⟩
  rw[←hk,k1 (p+1) J J pG]
  exact⟨fun hh=>hh.2,fun hh=>⟨hc,hh⟩⟩
 refine⟨fun hz=>?_,fun hz=>?_,fun hz QP=>?_⟩
 ·rw[if_pos hz]at key
  exact nxt _ J key
 ·have hkd:=(dI (at_ b.ah p)).2 hz
  have MZ:ch (at_ b.ah p)=at_ b.ah p-1:=by unfold ch;rw[if_neg J]
  rw[if_neg J,if_pos hkd,MZ]at key
  exact nxt _ J key
 ·have hkd:¬0≤ch (at_ b.ah p):=fun hh=>QP ((dI _).1 hh)
  rw[if_neg hz,if_neg hkd]at key
  refine⟨fun hw=>?_,fun hc hb=>hc (key.2 hb).1⟩
  obtain⟨⟨w1,w2,w3,w4,w5⟩,w6⟩:=id hw
  have pG:∀q:Int,0≤q→q<p+(at_ b.ah p-8)→8<at_ b.ah q→q+at_ b.ah q-8≤p+(at_ b.ah p-8):=fun q q1 q2 q3=>by
   by_cases e:q<p
   ·have:=h.bd q q1 e q3;omega
   ·by_cases e2:q=p
    ·subst e2;omega
    ·have:=w6 (q-p) J J
     rw[show p+(q-p)=q by omega]at this
     omega
  refine⟨?_,pG⟩
  rw[←key,k1 _ J J pG]
  exact⟨fun hh=>hh.2,fun hh=>⟨hw,hh⟩⟩
theorem Hn.start{b:Bk}(hs:gg b)(hl:js b):Hn b 0:=⟨⟨fun h q q1 q2=>h.2.2 q q1 q2,fun h=>⟨hs,hl,h⟩⟩,fun q q1 q2=>by omega⟩
theorem Hn.stop{b:Bk}{p:Int}(h:Hn b p)(hp:(b.ah.length:Int)≤p):cm b:=h.bk.2 fun q q1 q2=>by omega
theorem tF(I:af)(b:Bk)(pv h0 h1 h2 h3 ov iv ev:U)(hb:fb I b pv h0 h1 h2 h3 ov iv ev)(hs:dW b):Fn Tryz.prog 70 [bV b pv h0 h1 h2 h3 ov iv ev] I fun x R=>x= .bool (decide (cm b))∧R=I:=by
 refine ay aZ mixed Tryz.func70 (by kernel_rfl) rfl (by kernel_rfl) bE ?_
 have:=And.intro hb.p.aQ (And.intro hb.h0.aQ (And.intro hb.h1.aQ (And.intro hb.h2.aQ (And.intro hb.h3.aQ (And.intro hb.o.aQ (And.intro hb.i.aQ hb.e.aQ))))))
 obtain⟨l1,l2,l3,l4,l5,l6,l7,l8⟩:=this
 obtain⟨vp,_,_,_,_,vo,vi,ve⟩:=id hb
 obtain⟨⟨s0,s1⟩,⟨sp,qP⟩,sh,⟨so,KR⟩,⟨si,_⟩,⟨se,_⟩⟩:=id hs
 generalize hG:decide (cm b)=G
 have no:¬cm b→G=false:=fun h=>by rw[←hG];exact decide_eq_false h
 have yes:cm b→G=true:=fun h=>by rw[←hG];exact decide_eq_true h
 clear hG
 by_cases gG:gg b∧js b
 rotate_left
 ·have n:=no fun h=>gG ⟨h.1,h.2.1⟩
  simp+contextual (maxSteps:=1000000) (disch:=first|exact dB|fail) [go_sem,int_lt,-Int.not_le,-Int.not_lt,-List.map_set,gG]
  (repeat refine Alt.mk ?_)
  exact n
 obtain⟨hS,hL⟩:=id gG
 have EG:b.owner.length=b.ah.length*8:=hS.1.2.2.2.2.2.2
 have dO:b.ah.length≤6:=hS.1.2.2.2.2.2.1
 have nK:1≤b.ah.length:=hS.1.2.2.2.2.1
 simp+contextual (maxSteps:=1000000) (disch:=first|exact dB|fail) [go_sem,int_lt,-Int.not_le,-Int.not_lt,-List.map_set,gG.1,gG.2]
 (repeat refine Alt.mk ?_)
 refine aC (fun R_ env R=>∃(p:Nat),env 1= .ptr I.n 0∧env 3= .int .i64 p∧qW I b pv h0 h1 h2 h3 ov iv ev=R∧R_ (b.ah.length-p)∧(p≤b.ah.length∧Hn b p)) (by rintro R_ env R ⟨p,e1,e3,h_,cz,hp⟩;exact⟨_,cz,p,e1,e3,h_,rfl,hp⟩) ⟨0,aq,aq,rfl,trivial,?_⟩ ?_
 rotate_left
 rintro m_ env R ⟨p,e1,e3,rfl,rfl,hp⟩
 rotate_left
 ·exact⟨J,Hn.start hS hL⟩
 obtain⟨p1,p2⟩:=hp
 by_cases hp:p<b.ah.length
 rotate_left
 ·have kM:b.ah.length≤p:=J
  have y:=yes (p2.stop J)
  simp+contextual (maxSteps:=1000000) (disch:=first|exact dB|fail) [go_sem,int_lt,-Int.not_le,-Int.not_lt,-List.map_set,e1,e3,kM]
  (repeat refine Alt.mk ?_)
  exact y
 have kM:¬b.ah.length≤p:=J
 obtain⟨t1,t2,t3⟩:=p2.step hS J J
 have YD:=qP p
 obtain⟨c,hc⟩:∃c,at_ b.ah p=c:=⟨_,rfl⟩
 have BV:=fun h=>DV hS hL (page:=p) (kind:=at_ b.ah p-1) ⟨J,J⟩ h
 have X':=jl b (a:=p*8) (z:=p*8+8) J J
 rw[hc]at t1 t2 t3 YD BV
 by_cases c1:c=0
 ·obtain⟨u1,u2⟩:=t1 c1
  have BP:fM b (p*8) (p*8+8)=0↔dz b p 0:=by
   rw[X']
   constructor
   ·intro h u u1 u2 hu
    have:=h (p*8+u) J J
    omega
   ·intro h u u1 u2
    have h1:=h (u-p*8) J J
    have h2:=hS.2.2 u J J
    rw[show(p:Int)*8+(u-p*8)=u by omega]at h1
    omega
  obtain⟨N,hN⟩:∃N,fM b (p*8) (p*8+8)=N:=⟨_,rfl⟩
  rw[hN]at BP
  clear t1 t2 t3 BV X' p2
  by_cases hz:N=0
  ·have nx:=u1 (BP.1 hz)
   clear u1 u2 BP no yes
   simp+contextual (maxSteps:=1000000) (disch:=first|exact dB|fail) [go_sem,int_lt,-Int.not_le,-Int.not_lt,-List.map_set,e1,e3,kM,hc,c1,hN,hz]
   (repeat refine Alt.mk ?_)
   exact⟨p+1,J,J,J,nx⟩
  ·have n:=no (u2 (fun h=>hz (BP.2 h)))
   have QP:0<N:=J
   clear u1 u2 BP no yes
   simp+contextual (maxSteps:=1000000) (disch:=first|exact dB|fail) [go_sem,int_lt,-Int.not_le,-Int.not_lt,-List.map_set,e1,e3,kM,hc,c1,hN,hz,QP]
   (repeat refine Alt.mk ?_)
   exact n
 by_cases c2:1≤c∧c≤4
 ·obtain⟨u1,u2⟩:=t2 c2
  have M7:=BV ⟨J,J⟩
  obtain⟨c3,c4⟩:=id c2
  clear t1 t2 t3 BV X' p2
  by_cases hz:ml b p (c-1)
  ·have nx:=u1 (M7.1 hz)
   clear u1 u2 M7 no yes
   simp+contextual (maxSteps:=1000000) (disch:=first|exact dB|fail) [go_sem,int_lt,-Int.not_le,-Int.not_lt,-List.map_set,e1,e3,kM,hc,c1,c3,c4,hz]
   (repeat refine Alt.mk ?_)
   exact⟨p+1,J,J,J,nx⟩
  ·have n:=no (u2 (fun h=>hz (M7.2 h)))
   clear u1 u2 M7 no yes
   simp+contextual (maxSteps:=1000000) (disch:=first|exact dB|fail) [go_sem,int_lt,-Int.not_le,-Int.not_lt,-List.map_set,e1,e3,kM,hc,c1,c3,c4,hz]
   (repeat refine Alt.mk ?_)
   exact n
 obtain⟨u1,u2⟩:=t3 c1 c2
 clear t1 t2 t3 BV X' p2
 have c2b:(decide (1≤c)&&decide (c≤4))=false:=by
  rw[Bool.and_eq_false_iff,decide_eq_false_iff_not,decide_eq_false_iff_not];omega
 have hwi:wy b p↔((2≤c-8∧c-8≤4∧p+(c-8)≤b.ah.length∧at_ b.owner (p*8)≠0∧fM b (p*8) (p*8+(c-8)*8)=1)∧∀i:Int,1≤i→i<c-8→at_ b.ah (p+i)=7):=by
  unfold wy
  rw[hc]
  constructor
  ·rintro⟨⟨w1,w2,w3,w4,w5⟩,w6⟩
   refine⟨⟨w1,w2,w3,w4,?_⟩,w6⟩
   rw[rp b J J J,if_neg w4,(jl b J J).2 fun u u1 u2=>w5 u J J]
  ·rintro⟨⟨w1,w2,w3,w4,w5⟩,w6⟩
   refine⟨⟨w1,w2,w3,w4,?_⟩,w6⟩
   rw[rp b J J J,if_neg w4]at w5
   intro u u1 u2
   exact(jl b (a:=p*8+1) (z:=p*8+(c-8)*8) J J).1 J u J J
 have nb:=fun h=>no (u2 h)
 rw[hwi]at nb u1
 clear hwi u2 no
 obtain⟨N,hN⟩:∃N,fM b (p*8) (p*8+(c-8)*8)=N:=⟨_,rfl⟩
 rw[hN]at nb u1
 simp+contextual (maxSteps:=1000000) (disch:=first|exact dB|fail) [go_sem,int_lt,-Int.not_le,-Int.not_lt,-List.map_set,e1,e3,kM,hc,c1,c2b,hN]
 (repeat refine Alt.mk ?_)
 refine⟨fun h=>nb (by rintro⟨⟨w1,w2,w3,w4,w5⟩,_⟩;omega),fun w1 w2 w3 w4 w5=>?_⟩
 refine aC (fun R_ env R=>∃(i:Nat),env 1= .ptr I.n 0∧env 3= .int .i64 (p+i)∧env 57= .int .i64 (c-8-1)∧env 58= .int .i64 i∧qW I b pv h0 h1 h2 h3 ov iv ev=R∧R_ ((c-9-i).toNat)∧((i:Int)≤c-9∧∀j:Int,1≤j→j≤i→at_ b.ah (p+j)=7)) (by rintro R_ env R ⟨i,e1,e3,TL,TM,h_,cz,hp⟩;exact⟨_,cz,i,e1,e3,TL,TM,h_,rfl,hp⟩) ⟨0,aq,aq,aq,aq,rfl,trivial,?_⟩ ?_
 rotate_left
 rintro m_ env R ⟨i,e1,e3,TL,TM,rfl,rfl,hp⟩
 rotate_left
 ·exact⟨J,fun j j1 j2=>by omega⟩
 obtain⟨p3,p4⟩:=hp
 by_cases hi:(i:Int)<c-9
 ·have gc:¬c-8-1≤i:=J
  have lI:(p:Int)+i+1<b.ah.length:=J
  by_cases h7:at_ b.ah (p+i+1)=7
  ·have nx:∀j:Int,1≤j→j≤((i+1:Nat):Int)→at_ b.ah (p+j)=7:=fun j j1 j2=>by
    by_cases e:j=i+1
    ·subst e;rw[show(p:Int)+(i+1)=p+i+1 by omega];exact h7
    ·exact p4 j j1 J
   clear p4 u1 nb yes
   simp+contextual (maxSteps:=1000000) (disch:=first|exact dB|fail) [go_sem,int_lt,-Int.not_le,-Int.not_lt,-List.map_set,e1,e3,TL,TM,gc,h7]
   (repeat refine Alt.mk ?_)
   exact⟨i+1,J,J,J,J,fun j j1 j2=>nx j j1 J⟩
  ·have n:=nb fun hh=>h7 (by
    have:=hh.2 (i+1) J J
    rwa[show(p:Int)+(i+1)=p+i+1 by omega]at this)
   clear p4 u1 nb yes
   simp+contextual (maxSteps:=1000000) (disch:=first|exact dB|fail) [go_sem,int_lt,-Int.not_le,-Int.not_lt,-List.map_set,e1,e3,TL,TM,gc,h7]
   (repeat refine Alt.mk ?_)
   exact n
 ·have gc:c-8-1≤i:=J
  have nx:=u1 ⟨⟨w1,w2,J,w4,J⟩,fun j j1 j2=>p4 j j1 J⟩
  clear p4 u1 nb yes
  simp+contextual (maxSteps:=1000000) (disch:=first|exact dB|fail) [go_sem,int_lt,-Int.not_le,-Int.not_lt,-List.map_set,e1,e3,TL,TM,gc]
  (repeat refine Alt.mk ?_)
  refine⟨(p+(c-8)).toNat,J,J,J,?_⟩
  rw[show(((p:Int)+(c-8)).toNat:Int)=p+(c-8) by omega]
  exact nx
@[go_sem] def Sz:=fun(I:af) b pv h0 h1 h2 h3 ov iv ev hb hs (aA:U→af→Prop)=>ar (k:=aA) (tF I b pv h0 h1 h2 h3 ov iv ev hb hs)
@[go_sem] def Sy:=fun(I:af) (b_:Bool) (b:Bk) (pv h0 h1 h2 h3 ov iv ev:U) (hb:b_=true→ fb I b pv h0 h1 h2 h3 ov iv ev) (hs:b_=true→ dW b) (aA:U→af→Prop)=>aJ (k:=aA) b_ fun aY=>tF I b pv h0 h1 h2 h3 ov iv ev (hb aY) (hs aY)
end AH
