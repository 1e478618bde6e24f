import Derived.Test.YtagihpbpblnnoaaGreatZ48
import Derived.Test.YtagihpbpblnnoaaGreatZ47
import Derived.Test.YtagihpbpblnnoaaGreatZ51
import Derived.Test.YtagihpbpblnnoaaGreatZ32
import Derived.Test.YtagihpbpblnnoaaGreatZ00
set_option linter.all false
namespace AH
open Go Go.Proofs Ho
set_option maxRecDepth 20000
set_option maxHeartbeats 16000000
theorem Ap(I:af)(a:U)(l0:List Int)(x0:bu .u8 I a l0)(r:∀x∈l0,0≤x∧x≤255):Fn Tryz.prog 11 [a] I fun x _=>x= .bool true:=by
 generalize hG:(fun(x:U) (_:af)=>x=U.bool true)=GG
 have fin:∀R:af,GG (.bool true) R:=fun R=>by rw[←hG]
 clear hG
 have i0:=x0.aQ
 have le0:cC a l0.length:=x0.kB
 refine bA gK mixed Tryz.func11 (by kernel_rfl) rfl (by kernel_rfl) ?_
 by_cases c0:(l0.length:Int)≤1048576
 rotate_left
 ·simp+contextual (maxSteps:=1000000) (disch:=first|exact dB|fail) [go_sem,int_lt,-Int.not_le,-Int.not_lt,-List.map_set,gK,c0]
  (repeat refine Alt.mk ?_)
  exact fin _
 simp+contextual (maxSteps:=1000000) (disch:=first|exact dB|fail) [go_sem,int_lt,-Int.not_le,-Int.not_lt,-List.map_set,gK,c0]
 (repeat refine Alt.mk ?_)
 refine aw (uv I a l0 x0 J r) ?_
 rintro x R oH ⟨j,ws,g,sv,pv,rfl,W,w1⟩
 obtain⟨hj,lj,hw,hW,Dh,hg,hs,hp,hq⟩:=W
 have i1:=hs.aQ
 have i2:=hp.aQ
 have jq:(g.snap.length:Int)≤70000:=hg.snap
 have eW:=hg.entry
 simp+contextual (maxSteps:=1000000) (disch:=first|exact dB|fail) [go_sem,int_lt,-Int.not_le,-Int.not_lt,-List.map_set,gK,c0]
 (repeat refine Alt.mk ?_)
 refine bb (fun σ1=>σ1.n=R.n+1∧(∀y,y<R.n→σ1.get y=R.get y)∧σ1.get R.n=some ⟨gV g sv pv,true⟩) ?_ ?_
 ·exact⟨iF,fun y hy=>ak hy,aI⟩
 rintro σ1 ⟨m1,m2,m3⟩
 refine aw (vV σ1 j ws g sv pv 70000 J J ((m2 _ hj).trans hw) hW Dh (hs.frame J m2) (hp.frame J m2) hg) ?_
 rintro x τ2 fz ⟨⟨q1,sv1,pv1,rfl,a1,a2,a3,a4,a5⟩,a6⟩
 have j1:=a4.aQ
 have j2:=a5.aQ
 have n3:=(a6 _ J).trans m3
 have nw:=(a6 _ J).trans ((m2 _ hj).trans hw)
 have Dq:=(hs.frame (R:=σ1) J m2).frame (R:=τ2) fz a6
 have kM:=(hp.frame (R:=σ1) J m2).frame (R:=τ2) fz a6
 have jT:=tb ws g
 have zU:(fe ws g).ws=ws∨bW (check ws).1 g:=by
  unfold fe
  split
  ·rename_i h;exact .inr h.2
  ·exact .inl rfl
 have hz:=fun σ3 h1 h2=>wJ σ3 j ws g sv pv 70000 J h1 h2 hW Dh
 generalize fe ws g=O at*
 simp+contextual (maxSteps:=1000000) (disch:=first|exact dB|fail) [go_sem,int_lt,-Int.not_le,-Int.not_lt,-List.map_set,gK,c0,n3]
 (repeat refine Alt.mk ?_)
 refine bb (fun σ3=>σ3.n=τ2.n+1∧(∀y,y<τ2.n→σ3.get y=τ2.get y)) ?_ ?_
 ·exact⟨iF,fun y hy=>ak hy⟩
 rintro σ3 ⟨p1,p2⟩
 refine aw (hz σ3 J ((p2 _ J).trans nw) (Dq.frame J p2) (kM.frame J p2) hg) ?_
 rintro x τ4 Qx ⟨⟨q2,VA,Vv,rfl,b1,b2,b3,b4,b5⟩,b6⟩
 have k1:=b4.aQ
 have k2:=b5.aQ
 have r3:=(b6 _ J).trans ((p2 _ J).trans n3)
 have Vx:=(b6 _ J).trans ((p2 _ J).trans nw)
 have rq:=(b6 _ J).trans ((p2 _ a2).trans a3)
 have OR:=jT.len
 have Ul:j<τ4.n:=J
 obtain⟨⟨r1,r2⟩,⟨r4,r5⟩,r6,r7⟩:=fG ws
 clear a4 a5 b4 b5 hs hp Dq kM hz a6 b6 p2 m2 n3 nw a3 m3 w1
 cases cq:(check ws).2 with
 |false=>
  simp+contextual (maxSteps:=1000000) (disch:=first|exact dB|fail) [go_sem,int_lt,-Int.not_le,-Int.not_lt,-List.map_set,gK,c0,r3,cq,OR]
  (repeat refine Alt.mk ?_)
  exact fin _
 |true=>
  obtain⟨XV,uB⟩:=lR cq
  generalize hC:(check ws).1=C at*
  have agM:aM.ok ⟨C.am,C.ah,C.bH⟩:=XV
  simp+contextual (maxSteps:=1000000) (disch:=first|exact dB|fail) [go_sem,int_lt,-Int.not_le,-Int.not_lt,-List.map_set,gK,c0,r3,cq,hC,OR]
  (repeat refine Alt.mk ?_)
  refine iO (fun σ5=>σ5.n=τ4.n+1+1∧(∀y,y<τ4.n→σ5.get y=τ4.get y)∧σ5.get (τ4.n+1)=some ⟨[.int .i64 C.am,.int .i64 C.ah,.int .i64 C.bH],true⟩) ?_ ?_
  ·exact⟨iF,fun y hy=>by rw[ak bG,ak hy],aI⟩
  rintro σ5 ⟨t1,t2,t5⟩
  have t4:σ5.get R.n=some ⟨gV g sv pv,true⟩:=(t2 _ J).trans r3
  have pK:bu .u64 σ5 (.sl j 0 ws.length 1) ws:=bf J ((t2 _ Ul).trans Vx) rfl
  have mJ:bu .u64 σ5 (.sl q1 0 ws.length 1) O.ws:=bf J ((t2 _ J).trans rq) OR
  have fw:bu .u64 σ5 (.sl q2 0 ws.length 1) O.ws:=bf J ((t2 _ b2).trans b3) OR
  have hzn:R.n<σ5.n:=J
  have mH:τ4.n+1<σ5.n:=J
  generalize τ4.n+1=z at t1 t5 mH
  generalize R.n=z4 at*
  clear t2 Vx rq b3 r3
  refine aC (fun R_ env R=>∃(u:Nat),env 3= .sl j 0 ws.length 1∧env 5= .sl q1 0 ws.length 1∧env 8= .sl q2 0 ws.length 1∧env 4= .ptr z4 0∧env 11= .ptr z 0∧env 13= .int .i64 (aG g.entry/1048576)∧env 15= .int .i64 u∧σ5=R∧R_ (ws.length-u)∧(u≤ws.length)) (by rintro R_ env R ⟨u,e3,e5,e8,e4,ft,sY,mW,h_,cz,hp⟩;exact⟨_,cz,u,e3,e5,e8,e4,ft,sY,mW,h_,rfl,hp⟩) ⟨0,aq,aq,aq,aq,aq,aq,aq,rfl,trivial,?_⟩ ?_
  rotate_left
  rintro m_ env R ⟨u,e3,e5,e8,e4,ft,sY,mW,rfl,rfl,hp⟩
  ·by_cases nL:u<ws.length
   rotate_left
   ·have kN:ws.length≤u:=J
    simp+contextual (maxSteps:=1000000) (disch:=first|exact dB|fail) [go_sem,int_lt,-Int.not_le,-Int.not_lt,-List.map_set,gK,e3,e5,e8,e4,ft,sY,mW,nL,kN]
    (repeat refine Alt.mk ?_)
    exact fin _
   have kN:¬ws.length≤u:=J
   by_cases he:at_ O.ws (u:Int)=at_ ws (u:Int)
   ·simp+contextual (maxSteps:=1000000) (disch:=first|exact dB|fail) [go_sem,int_lt,-Int.not_le,-Int.not_lt,-List.map_set,gK,e3,e5,e8,e4,ft,sY,mW,nL,kN,he]
    (repeat refine Alt.mk ?_)
    exact⟨u+1,J,J,J⟩
   have hWh:=jT.at (b:=(u:Int)) J he
   have hg2:bW C g:=zU.resolve_left fun h=>he (by rw[h])
   have hf:=hg2.2.2.2.1
   have s1:0≤g.slot:=hf.1.1
   have s2:g.slot<C.am:=hf.1.2.1
   have ED:(at_ O.ws (u:Int)=at_ ws (u:Int))=False:=eq_false he
   rcases hWh with⟨eU,po⟩|⟨eU,HF,fH⟩|⟨eU,po⟩|⟨eU,HF,fH⟩|⟨eU,po⟩|⟨eU,po⟩
   ·have EK:((u:Int)=3+C.am+g.slot)=True:=eq_true po
    rcases eU with eU|eU
    ·simp+contextual (maxSteps:=1000000) (disch:=first|exact dB|fail) [go_sem,int_lt,-Int.not_le,-Int.not_lt,-List.map_set,gK,e3,e5,e8,e4,ft,sY,mW,t4,t5,nL,kN,ED,eU,s1,s2,EK]
     (repeat refine Alt.mk ?_)
     exact⟨u+1,J,J,J⟩
    ·simp+contextual (maxSteps:=1000000) (disch:=first|exact dB|fail) [go_sem,int_lt,-Int.not_le,-Int.not_lt,-List.map_set,gK,e3,e5,e8,e4,ft,sY,mW,t4,t5,nL,kN,ED,eU,s1,s2,EK]
     (repeat refine Alt.mk ?_)
     exact⟨u+1,J,J,J⟩
   ·unfold bx at HF fH
    simp+contextual (maxSteps:=1000000) (disch:=first|exact dB|fail) [go_sem,int_lt,-Int.not_le,-Int.not_lt,-List.map_set,gK,e3,e5,e8,e4,ft,sY,mW,t4,t5,nL,kN,ED,eU,s1,s2,HF,fH]
    (repeat refine Alt.mk ?_)
    exact⟨u+1,J,J,J⟩
   ·have EK:((u:Int)=3+g.slot)=True:=eq_true po
    simp+contextual (maxSteps:=1000000) (disch:=first|exact dB|fail) [go_sem,int_lt,-Int.not_le,-Int.not_lt,-List.map_set,gK,e3,e5,e8,e4,ft,sY,mW,t4,t5,nL,kN,ED,eU,s1,s2,EK]
    (repeat refine Alt.mk ?_)
    exact⟨u+1,J,J,J⟩
   ·have z1:(0:Int)<C.am:=J
    rcases eU with eU|eU
    ·simp+contextual (maxSteps:=1000000) (disch:=first|exact dB|fail) [go_sem,int_lt,-Int.not_le,-Int.not_lt,-List.map_set,gK,e3,e5,e8,e4,ft,sY,mW,t4,t5,nL,kN,ED,eU,s1,s2,HF,fH,z1]
     (repeat refine Alt.mk ?_)
     exact⟨u+1,J,J,J⟩
    ·simp+contextual (maxSteps:=1000000) (disch:=first|exact dB|fail) [go_sem,int_lt,-Int.not_le,-Int.not_lt,-List.map_set,gK,e3,e5,e8,e4,ft,sY,mW,t4,t5,nL,kN,ED,eU,s1,s2,HF,fH,z1]
     (repeat refine Alt.mk ?_)
     exact⟨u+1,J,J,J⟩
   ·have EK:((u:Int)=2)=True:=eq_true po
    rcases eU with eU|eU|eU|eU|eU
    ·simp+contextual (maxSteps:=1000000) (disch:=first|exact dB|fail) [go_sem,int_lt,-Int.not_le,-Int.not_lt,-List.map_set,gK,e3,e5,e8,e4,ft,sY,mW,t4,t5,nL,kN,ED,eU,s1,s2,EK]
     (repeat refine Alt.mk ?_)
     exact⟨u+1,J,J,J⟩
    ·simp+contextual (maxSteps:=1000000) (disch:=first|exact dB|fail) [go_sem,int_lt,-Int.not_le,-Int.not_lt,-List.map_set,gK,e3,e5,e8,e4,ft,sY,mW,t4,t5,nL,kN,ED,eU,s1,s2,EK]
     (repeat refine Alt.mk ?_)
     exact⟨u+1,J,J,J⟩
    ·simp+contextual (maxSteps:=1000000) (disch:=first|exact dB|fail) [go_sem,int_lt,-Int.not_le,-Int.not_lt,-List.map_set,gK,e3,e5,e8,e4,ft,sY,mW,t4,t5,nL,kN,ED,eU,s1,s2,EK]
     (repeat refine Alt.mk ?_)
     exact⟨u+1,J,J,J⟩
    ·simp+contextual (maxSteps:=1000000) (disch:=first|exact dB|fail) [go_sem,int_lt,-Int.not_le,-Int.not_lt,-List.map_set,gK,e3,e5,e8,e4,ft,sY,mW,t4,t5,nL,kN,ED,eU,s1,s2,EK]
     (repeat refine Alt.mk ?_)
     exact⟨u+1,J,J,J⟩
    ·simp+contextual (maxSteps:=1000000) (disch:=first|exact dB|fail) [go_sem,int_lt,-Int.not_le,-Int.not_lt,-List.map_set,gK,e3,e5,e8,e4,ft,sY,mW,t4,t5,nL,kN,ED,eU,s1,s2,EK]
     (repeat refine Alt.mk ?_)
     exact⟨u+1,J,J,J⟩
   ·have EK:((u:Int)=aG g.entry/1048576)=True:=eq_true po
    simp+contextual (maxSteps:=1000000) (disch:=first|exact dB|fail) [go_sem,int_lt,-Int.not_le,-Int.not_lt,-List.map_set,gK,e3,e5,e8,e4,ft,sY,mW,t4,t5,nL,kN,ED,eU,s1,s2,EK]
    (repeat refine Alt.mk ?_)
    exact⟨u+1,J,J,J⟩
  ·omega
end AH
