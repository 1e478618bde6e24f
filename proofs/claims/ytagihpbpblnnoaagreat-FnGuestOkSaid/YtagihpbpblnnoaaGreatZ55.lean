import Derived.Test.YtagihpbpblnnoaaGreatZ48
import Derived.Test.YtagihpbpblnnoaaGreatZ47
import Derived.Test.YtagihpbpblnnoaaGreatZ51
import Derived.Test.YtagihpbpblnnoaaGreatZ32
import Derived.Test.YtagihpbpblnnoaaGreatZ54
import Derived.Test.YtagihpbpblnnoaaGreatZ00
set_option linter.all false
namespace AH
open Go Go.Proofs Ho
set_option maxRecDepth 20000
set_option maxHeartbeats 16000000
def sA(ws ws':List Int)(u nn:Nat):Prop:=(nn=0∧∀k:Nat,k<u→at_ ws' (k:Int)=at_ ws (k:Int))∨(nn=1∧∃k:Nat,k<u∧at_ ws' (k:Int)≠at_ ws (k:Int))
theorem sA.same{ws ws':List Int}{u nn:Nat}(h:sA ws ws' u nn)(he:at_ ws' (u:Int)=at_ ws (u:Int)):sA ws ws' (u+1) nn:=by
 rcases h with⟨h1,h2⟩|⟨h1,k,h2,h3⟩
 ·refine .inl ⟨h1,fun k hk=>?_⟩
  rcases Nat.lt_or_ge k u with h|h
  ·exact h2 k h
  ·have:k=u:=J
   rw[this];exact he
 ·exact .inr ⟨h1,k,J,h3⟩
theorem sA.diff{c:aM}{g:ag}{ws ws':List Int}{u nn:Nat}(h:sA ws ws' u nn)(ho:sD c ws g ws')(he:¬at_ ws' (u:Int)=at_ ws (u:Int)):nn=0∧sA ws ws' (u+1) 1:=by
 rcases h with⟨h1,h2⟩|⟨h1,k,h2,h3⟩
 ·exact⟨h1,.inr ⟨rfl,u,J,he⟩⟩
 ·have:=ho.one (b:=(k:Int)) (d:=(u:Int)) J J h3 he
  omega
theorem sA.none{ws:List Int}{u nn:Nat}(h:sA ws ws u nn):nn=0:=by
 rcases h with⟨h1,_⟩|⟨_,k,_,h3⟩
 ·exact h1
 ·exact absurd rfl h3
theorem sA.le{ws ws':List Int}{u nn:Nat}(h:sA ws ws' u nn):nn≤1:=by
 rcases h with⟨h1,_⟩|⟨h1,_⟩<;>omega
theorem Ka(I:af)(a:U)(l0:List Int)(x0:bu .u8 I a l0)(r:∀x∈l0,0≤x∧x≤255):Fn Tryz.prog 10 [a] I fun x _=>x= .bool true:=by
 generalize hG:(fun(x:U) (_:af)=>x=U.bool true)=GG
 have fin:∀R:af,GG (.bool true) R:=fun R=>by rw[←hG]
 clear hG
 have i0:=x0.aQ
 have le0:cC a l0.length:=x0.kB
 refine bA ot mixed Tryz.func10 (by kernel_rfl) rfl (by kernel_rfl) ?_
 by_cases c0:(l0.length:Int)≤1048576
 rotate_left
 ·simp+contextual (maxSteps:=1000000) (disch:=first|exact dB|fail) [go_sem,int_lt,-Int.not_le,-Int.not_lt,-List.map_set,ot,c0]
  (repeat refine Alt.mk ?_)
  exact fin _
 simp+contextual (maxSteps:=1000000) (disch:=first|exact dB|fail) [go_sem,int_lt,-Int.not_le,-Int.not_lt,-List.map_set,ot,c0]
 (repeat refine Alt.mk ?_)
 refine aw (uv I a l0 x0 J r) ?_
 rintro x R oH ⟨j,ws,g,sv,pv,rfl,W,w1⟩
 obtain⟨hj,lj,hw,hW,Dh,hg,hs,hp,hq⟩:=W
 have i1:=hs.aQ
 have i2:=hp.aQ
 have jq:(g.snap.length:Int)≤70000:=hg.snap
 have eW:=hg.entry
 simp+contextual (maxSteps:=1000000) (disch:=first|exact dB|fail) [go_sem,int_lt,-Int.not_le,-Int.not_lt,-List.map_set,ot,c0]
 (repeat refine Alt.mk ?_)
 refine bb (fun σ1=>σ1.n=R.n+1∧(∀y,y<R.n→σ1.get y=R.get y)∧σ1.get R.n=some ⟨gV g sv pv,true⟩) ?_ ?_
 ·exact⟨iF,fun y hy=>ak hy,aI⟩
 rintro σ1 ⟨m1,m2,m3⟩
 refine aw (vV σ1 j ws g sv pv 70000 J J ((m2 _ hj).trans hw) hW Dh (hs.frame J m2) (hp.frame J m2) hg) ?_
 rintro x τ2 fz ⟨⟨q1,sv1,pv1,rfl,a1,a2,a3,a4,a5⟩,a6⟩
 have j1:=a4.aQ
 have j2:=a5.aQ
 have n3:=(a6 _ J).trans m3
 have nw:=(a6 _ J).trans ((m2 _ hj).trans hw)
 have Dq:=(hs.frame (R:=σ1) J m2).frame (R:=τ2) fz a6
 have kM:=(hp.frame (R:=σ1) J m2).frame (R:=τ2) fz a6
 have jT:=tb ws g
 have Qz:¬((check ws).2=true∧bW (check ws).1 g∧g.up=true∧g.busy=true)→fe ws g=⟨ws,g,0⟩:=by
  intro hh
  unfold fe ib
  split
  ·rename_i h
   rw[if_pos]
   cases hu:g.up with
   |false=>exact .inl rfl
   |true=>cases hb:g.busy with
    |false=>exact .inr rfl
    |true=>exact absurd ⟨h.1,h.2,hu,hb⟩ hh
  ·rfl
 have QN:((check ws).2=true∧bW (check ws).1 g∧g.up=true∧g.busy=true)→bW (check ws).1 (fe ws g).g:=by
  rintro⟨h1,h2,h3,h4⟩
  have XV:=(lR h1).1
  have e:fe ws g=cW (check ws).1 ws g:=by
   unfold fe ib
   rw[if_pos ⟨h1,h2⟩,if_neg (by rw[h3,h4];simp)]
  rw[e]
  exact(Rp XV hW (GF.of h2) h4 fun _=>(hq h1).2).bW XV
 have hz:=fun σ3 h1 h2=>wJ σ3 j ws g sv pv 70000 J h1 h2 hW Dh
 generalize fe ws g=O at*
 simp+contextual (maxSteps:=1000000) (disch:=first|exact dB|fail) [go_sem,int_lt,-Int.not_le,-Int.not_lt,-List.map_set,ot,c0,n3]
 (repeat refine Alt.mk ?_)
 refine bb (fun σ3=>σ3.n=τ2.n+1∧(∀y,y<τ2.n→σ3.get y=τ2.get y)∧σ3.get τ2.n=some ⟨gV O.g sv1 pv1,true⟩) ?_ ?_
 ·exact⟨iF,fun y hy=>ak hy,aI⟩
 rintro σ3 ⟨p1,p2,p3⟩
 refine aw (hz σ3 J ((p2 _ J).trans nw) (Dq.frame J p2) (kM.frame J p2) hg) ?_
 rintro x τ4 Qx ⟨⟨q2,VA,Vv,rfl,b1,b2,b3,b4,b5⟩,b6⟩
 have k1:=b4.aQ
 have k2:=b5.aQ
 have r3:=(b6 _ J).trans ((p2 _ J).trans n3)
 have r6:=(b6 _ J).trans p3
 have Vx:=(b6 _ J).trans ((p2 _ J).trans nw)
 have rq:=(b6 _ J).trans ((p2 _ a2).trans a3)
 have OR:=jT.len
 have Ul:j<τ4.n:=J
 have l1:=Dq.kB
 have l2:=kM.kB
 have l3:=a4.kB
 have l4:=a5.kB
 obtain⟨⟨r1,r2⟩,⟨r4,r5⟩,r7,r8⟩:=fG ws
 clear a4 a5 b4 b5 hs hp Dq kM hz a6 b6 p2 m2 n3 nw a3 m3 w1
 obtain⟨⟨C,ok⟩,hC⟩:∃C,check ws=C:=⟨_,rfl⟩
 rw[hC]at r1 r2 r4 r5 r7 r8 Qz QN jT
 simp only at r1 r2 r4 r5 r7 r8 Qz QN jT
 simp+contextual (maxSteps:=1000000) (disch:=first|exact dB|fail) [go_sem,int_lt,-Int.not_le,-Int.not_lt,-List.map_set,ot,c0,r3,r6,hC,OR]
 (repeat refine Alt.mk ?_)
 refine iO (fun σ5=>σ5.n=τ4.n+1+1∧(∀y,y<τ4.n→σ5.get y=τ4.get y)∧σ5.get (τ4.n+1)=some ⟨[.int .i64 C.am,.int .i64 C.ah,.int .i64 C.bH],true⟩) ?_ ?_
 ·exact⟨iF,fun y hy=>by rw[ak bG,ak hy],aI⟩
 rintro σ5 ⟨t1,t2,t5⟩
 have t4:σ5.get R.n=some ⟨gV g sv pv,true⟩:=(t2 _ J).trans r3
 have t6:σ5.get τ2.n=some ⟨gV O.g sv1 pv1,true⟩:=(t2 _ J).trans r6
 have pK:bu .u64 σ5 (.sl j 0 ws.length 1) ws:=bf J ((t2 _ Ul).trans Vx) rfl
 have mJ:bu .u64 σ5 (.sl q1 0 ws.length 1) O.ws:=bf J ((t2 _ J).trans rq) OR
 have fw:bu .u64 σ5 (.sl q2 0 ws.length 1) O.ws:=bf J ((t2 _ b2).trans b3) OR
 have hzn:R.n<σ5.n:=J
 have hz6:τ2.n<σ5.n:=J
 have mH:τ4.n+1<σ5.n:=J
 generalize τ4.n+1=z at t1 t5 mH
 generalize τ2.n=z6 at*
 generalize R.n=z4 at*
 clear t2 Vx rq b3 r3 r6
 refine aC (fun R_ env R=>∃(u:Nat),∃(nn:Nat),env 3= .sl j 0 ws.length 1∧env 4= .ptr z4 0∧env 5= .sl q1 0 ws.length 1∧env 6= .ptr z6 0∧env 7= .int .i64 O.ev∧env 8= .sl q2 0 ws.length 1∧env 11= .ptr z 0∧env 12= .bool ok∧env 13= .int .i64 nn∧env 14= .int .i64 u∧σ5=R∧R_ (ws.length-u)∧(u≤ws.length∧sA ws O.ws u nn)) (by rintro R_ env R ⟨u,nn,e3,e4,e5,e6,e7,e8,ft,BJ,sY,rQ,h_,cz,hp⟩;exact⟨_,cz,u,nn,e3,e4,e5,e6,e7,e8,ft,BJ,sY,rQ,h_,rfl,hp⟩) ⟨0,0,aq,aq,aq,aq,aq,aq,aq,aq,aq,aq,rfl,trivial,?_⟩ ?_
 rotate_left
 rintro m_ env R ⟨u,nn,e3,e4,e5,e6,e7,e8,ft,BJ,sY,rQ,rfl,rfl,hp⟩
 ·obtain⟨hle,Jo⟩:=hp
  have jq:=Jo.le
  by_cases nL:u<ws.length
  ·have kN:¬ws.length≤u:=J
   have M_:u<O.ws.length:=J
   have M':¬O.ws.length≤u:=J
   by_cases he:at_ O.ws (u:Int)=at_ ws (u:Int)
   ·have MQ:=Jo.same he
    simp+contextual (maxSteps:=1000000) (disch:=first|exact dB|fail) [go_sem,int_lt,-Int.not_le,-Int.not_lt,-List.map_set,ot,e3,e4,e5,e6,e7,e8,ft,BJ,sY,rQ,nL,kN,M_,M',he]
    (repeat refine Alt.mk ?_)
    first
     |exact⟨u+1,nn,rfl,J,J,J,MQ⟩
     |exact⟨u+1,J,J,J,nn,rfl,MQ⟩
     |exact⟨u+1,J,J,J,MQ⟩
   ·obtain⟨oH,MQ⟩:=Jo.diff jT he
    have ED:(at_ O.ws (u:Int)=at_ ws (u:Int))=False:=eq_false he
    subst oH
    simp+contextual (maxSteps:=1000000) (disch:=first|exact dB|fail) [go_sem,int_lt,-Int.not_le,-Int.not_lt,-List.map_set,ot,e3,e4,e5,e6,e7,e8,ft,BJ,sY,rQ,nL,kN,M_,M',ED]
    (repeat refine Alt.mk ?_)
    first
     |exact⟨u+1,1,rfl,J,J,J,MQ⟩
  ·have kN:ws.length≤u:=J
   have M_:O.ws.length≤u:=J
   have M':¬u<O.ws.length:=J
   by_cases hA:ok=true∧bW C g∧g.up=true∧g.busy=true
   ·have od:=QN hA
    obtain⟨rfl,hP,hu,hb⟩:=hA
    have fz:(nn:Int)≤1:=J
    simp+contextual (maxSteps:=1000000) (disch:=first|exact dB|fail) [go_sem,int_lt,-Int.not_le,-Int.not_lt,-List.map_set,ot,e3,e4,e5,e6,e7,e8,ft,BJ,sY,rQ,t4,t5,t6,nL,kN,M_,M',hP,od,jq,fz]
    (repeat refine Alt.mk ?_)
    refine⟨fun h=>(h.elim (fun h=>by simp[hu]at h) (fun h=>by simp[hb]at h)),fun _ _=>?_⟩
    (repeat refine Alt.mk ?_)
    exact fin _
   ·have hO:=Qz hA
    subst hO
    have oH:=Jo.none
    subst oH
    simp+contextual (maxSteps:=1000000) (disch:=first|exact dB|fail) [go_sem,int_lt,-Int.not_le,-Int.not_lt,-List.map_set,ot,e3,e4,e5,e6,e7,e8,ft,BJ,sY,rQ,t4,t5,t6,nL,kN]
    (repeat refine Alt.mk ?_)
    exact⟨fun _=>fin _,fun h1 h2 h3 h4=>absurd ⟨h1,h2,h3,h4⟩ hA⟩
 ·exact⟨J,.inl ⟨rfl,fun k hk=>by omega⟩⟩
end AH
