import Derived.Test.YtagihpbpblnnoaaGreatZ50
import Derived.Test.YtagihpbpblnnoaaGreatZ00
set_option linter.all false
namespace AH
open Go Go.Proofs Ho
set_option maxRecDepth 20000
set_option maxHeartbeats 16000000
structure WG(R:af)(n0:Nat)(j:Nat)(ws:List Int)(g:ag)(sv pv:U):Prop where
 hj:j<R.n
 lj:n0≤j
 hw:R.get j=some ⟨ws.map (.int .u64),true⟩
 W:∀w∈ws,ci w
 len:(ws.length:Int)≤1000000
 gw:GW 70000 g
 s:bu .u64 R sv g.snap
 p:bu .u64 R pv g.ax
 q:(check ws).2=true→0≤g.aX∧g.aX<(check ws).1.am
 sl:n0≤cn sv∨sv= .al
 pl:n0≤cn pv∨pv= .al
theorem GW.le{B C:Int}{g:ag}(h:GW B g)(hB:B≤C):GW C g:=by
 obtain⟨h1,h2,h3,h4,h5,h6,h7,h8,h9,pC,lh,nW,jQ,jm,kW,qC,lk,uS,rT,tg⟩:=h
 exact⟨h1,h2,h3,J,h5,h6,h7,h8,h9,J,lh,nW,jQ,jm,kW,qC,lk,J,rT,tg⟩
theorem GW.adF{B:Int}{g:ag}(h:GW B g){x:Int}(hx:ci x):GW B {g with bw:=x}:=by
 obtain⟨h1,h2,h3,h4,h5,h6,h7,h8,h9,pC,lh,nW,jQ,jm,kW,qC,lk,uS,rT,tg⟩:=h
 exact⟨h1,h2,h3,h4,h5,h6,h7,h8,h9,pC,lh,hx,jQ,jm,kW,qC,lk,uS,rT,tg⟩
theorem Lw(n:Int):ci (Go.IntKind.u64.wrap n):=by
 unfold ci Go.IntKind.wrap
 simp only[Go.IntKind.bits,Go.IntKind.signed,Bool.false_and,Bool.false_eq_true,if_false,Int.reducePow]
 omega
theorem ta{gs:List (ag×U×U)}{i f:Nat}{x:ag×U×U}(h:gs[i]? =some x)(hf:f<26):(bJ gs)[i*26+f]? =(gV x.1 x.2.1 x.2.2)[f]? :=by
 have h1:=congrArg (fun l=>l[f]?) (dr h)
 simp only[List.getElem?_take,List.getElem?_drop]at h1
 rw[if_pos hf]at h1
 exact h1
theorem F6{gs:List (ag×U×U)}{i:Nat}{x:ag×U×U}(h:gs[i]? =some x):∀hl:i*26<(bJ gs).length,(bJ gs)[i*26]'hl= .bool x.1.up:=fun hl=>by
 have h1:=ta (f:=0) h J
 rw[Nat.add_zero,List.getElem?_eq_getElem hl]at h1
 simpa using h1
theorem ra{gs:List (ag×U×U)}{i:Nat}{x:ag×U×U}(h:gs[i]? =some x):∀hl:i*26+3<(bJ gs).length,(bJ gs)[i*26+3]'hl= .bool x.1.busy:=fun hl=>by
 have h1:=ta (f:=3) h J
 rw[List.getElem?_eq_getElem hl]at h1
 simpa using h1
theorem F5{gs:List (ag×U×U)}{i:Nat}{x:ag×U×U}(h:gs[i]? =some x):∀hl:i*26+8<(bJ gs).length,(bJ gs)[i*26+8]'hl= .int .i64 x.1.pc:=fun hl=>by
 have h1:=ta (f:=8) h J
 rw[List.getElem?_eq_getElem hl]at h1
 simpa using h1
theorem GB.cells{R:af}{j gb gb' m:Nat}{gs:List (ag×U×U)}(h:GB R j (.sl gb 0 m 26) gb' gs):gb'=gb∧R.get gb=Option.some ⟨bJ gs,true⟩∧gb<R.n∧NE gb j∧1≤m:=by
 cases h with
 |some h0 h1 h2 h3 h4=>exact⟨rfl,h4,h2,h3,h1⟩
theorem sG{P:Program}{ord:Nat→bD}{c:Code}{K:Exit→Env→af→Prop}{env:Env}{I:af}(F:Env→af→Prop)(h0:F env I)(h:∀E H,F E H→ @lL ⟨ko P ord c⟩ ⟨K⟩ E H): @lL ⟨ko P ord c⟩ ⟨K⟩ env I:=h _ _ h0
theorem Q7{P1 P2 G:Prop}{C:Env→af→Prop}(F:Env→af→Prop)(h:P1∨P2)(a:P1→(∀E H,F E H→C E H)→G)(b:P2→(∀E H,F E H→C E H)→G)(m:∀E H,F E H→C E H):G:=h.elim (fun h=>a h m) (fun h=>b h m)
structure CrH(I σ2:af)(i:Nat)(bv:U)(Q:Int)(σ3:af):Prop where
 n:σ3.n=σ2.n+1
 fr:∀y,y<σ2.n→NE y i→σ3.get y=σ2.get y
 rd:σ3.get i=some ⟨[bv,.int .i64 Q],true⟩
structure CrD(I:af)(lo:Nat)(c:aM)(z i j gb m:Nat)(bv:U)(Q:Int)(nw ab:Nat)(k:Nat)(ws:List Int)(gs:List (ag×U×U))(R:af):Prop where
 W:gm R lo (60000+2*(200-k)) j (.sl gb 0 m 26) gb ws gs
 P:PK c (ws,gs.map (·.1))
 l:gs.length=m
 lw:ws.length=nw
 g4:R.get z=some ⟨[.sl j 0 ws.length 1,.sl gb 0 m 26],true⟩
 g5:R.get (z+1)=some ⟨[.int .i64 c.am,.int .i64 c.ah,.int .i64 c.bH],true⟩
 g3:R.get I.n=some ⟨gV ag.zero .al .al,true⟩
 rd:R.get i=some ⟨[bv,.int .i64 Q],true⟩
 fr:∀y,y<I.n→NE y i→R.get y=I.get y
 ap:kq z gs
 nn:z+1<R.n
theorem Bs(I:af)(i:Nat)(bv:U)(bs:List Int)(p:Int)(hr:Rd I i bv bs p)(hp:p≤700000000):
 Fn Tryz.prog 116 [.ptr i 0] I fun x R=>∃(j:Nat) (ws:List Int) (g:ag) (sv pv:U),x= .cw [.sl j 0 ws.length 1,.agg (gV g sv pv)]∧WG R I.n j ws g sv pv∧(∀y,y<I.n→NE y i→R.get y=I.get y):=by
 generalize hG:(fun(x:U) (R:af)=>∃(j:Nat) (ws:List Int) (g:ag) (sv pv:U),x=U.cw [.sl j 0 ws.length 1,.agg (gV g sv pv)]∧WG R I.n j ws g sv pv∧(∀y,y<I.n→NE y i→R.get y=I.get y))=GG
 have hi:=hr.hi
 have zX:=hr.hp
 refine bA iS mixed Tryz.func116 (by kernel_rfl) rfl (by kernel_rfl) ?_
 simp+contextual (maxSteps:=1000000) (disch:=first|exact dB|fail) [go_sem,int_lt,-Int.not_le,-Int.not_lt,-List.map_set,iS]
 (repeat refine Alt.mk ?_)
 refine bb (fun σ1=>σ1.n=I.n+1∧(∀y,y<I.n→NE y i→σ1.get y=I.get y)∧σ1.get i=some ⟨[bv,.int .i64 p],true⟩∧σ1.get I.n=some ⟨gV ag.zero .al .al,true⟩) ?_ ?_
 ·exact⟨by simp only[au,az],sV,by first|(first|exact bn|fail)|(rw[ak hi];exact hr.hg),aI⟩
 rintro σ1 ⟨x1,x2,x3,x4⟩
 have Dp:=hr.go (q:=p) J x3 x2 J
 refine aw (wY σ1 i bv bs p Dp J) ?_
 rintro x R jq ⟨c,j,v,gb,ws,gs,dZ,q,rfl,y1,y2,y3,W,y5,y6,y7,y8⟩
 have iv:=W.aQ
 have z4:R.get I.n=some ⟨gV ag.zero .al .al,true⟩:=(y8 _ J aD).trans x4
 have lZ:I.n<R.n:=J
 have jn:∀y,y<I.n→NE y i→R.get y=I.get y:=fun y q1 q2=>(y8 y J q2).trans (x2 y q1 q2)
 have Jf:=KE y1 y2
 have Jn:=Jf.PC y1
 have hQ:=QB.id y1 Jf
 have len:=Az y1 y2
 have pk:=fun(k n:Int) (hn:1≤n)=>dC (bs:=bs) (k:=k) (n:=n) hn
 have hj:=W.hj
 have hw:=W.hw
 have lj:=W.lj
 have lg:=W.lg
 have l2:=W.l2
 have m6:=W.m6
 have Sb:=W.W
 have rg:=y5.hg
 have aak:=W.XF
 have ljn:¬j=i:=J
 have abP:¬j=I.n:=J
 have hv:=bf hj hw rfl
 have Dh:(ws.length:Int)≤1000000:=J
 have fin:∀(τ':af) (ws':List Int) (g':ag) (dS dg:U),WG τ' I.n j ws' g' dS dg→(∀y,y<I.n→NE y i→τ'.get y=I.get y)→ws'.length=ws.length→GG (.cw [.sl j 0 ws.length 1,.agg (gV g' dS dg)]) τ':=by
  intro τ' ws' g' dS dg z1 z2 z3
  rw[←hG,←z3]
  exact⟨j,ws',g',dS,dg,rfl,z1,z2⟩
 clear hG
 cases W.hv with
 |none=>
  simp+contextual (maxSteps:=1000000) (disch:=first|exact dB|fail) [go_sem,int_lt,-Int.not_le,-Int.not_lt,-List.map_set,iS,z4,Jn]
  (repeat refine Alt.mk ?_)
  have qg:GW 70000 (iX 0):=GI.uk (mZ J J)
  refine fin _ ws (iX 0) .al .al ⟨?_,J,?_,Sb,Dh,qg,.nil,.nil,?_,.inr rfl,.inr rfl⟩ (fun y z1 z2=>?_) rfl
  ·simp only[au,az];omega
  ·(first|exact bn|fail)
  ·rw[Jn];intro _
   have cL:=y1
   unfold aM.ok at cL
   show 0≤(0:Int)∧0<c.am
   omega
  ·rw[←jn y z1 z2]
   (first|exact bn|fail)
 | @some gb m gs h0 h1 h2 h3 h4=>
   have jj:¬m=0:=J
   simp+contextual (maxSteps:=1000000) (disch:=first|exact dB|fail) [go_sem,int_lt,-Int.not_le,-Int.not_lt,-List.map_set,iS,z4,Jn,jj]
   (repeat refine Alt.mk ?_)
   refine iO (fun σ2=>σ2.n=R.n+1+1∧(∀y,y<R.n→NE y i→σ2.get y=R.get y)∧σ2.get i=some ⟨[bv,.int .i64 (q+1)],true⟩∧σ2.get R.n=some ⟨[.sl j 0 ws.length 1,.sl gb 0 m 26],true⟩∧σ2.get (R.n+1)=some ⟨[.int .i64 c.am,.int .i64 c.ah,.int .i64 c.bH],true⟩) ?_ ?_
   ·exact⟨by simp only[au,az],sV,aI,aI,aI⟩
   rintro σ2 ⟨w1,w2,w3,w4,w5⟩
   have O8:=hr.go (q:=q+1) (R:=σ2) J w3 (fun y q1 q2=>(w2 y J q2).trans (jn y q1 q2)) J
   have MT:σ2.get gb=some ⟨bJ gs,true⟩:=(w2 gb h2 aD).trans h4
   obtain⟨R0,hR0⟩:∃ab:Nat,cY bs q m=ab:=⟨(cY bs q m).toNat,by have:=pk q m J;omega⟩
   have P4:R0<m:=by have:=pk q m J;omega
   generalize hz:R.n=z at w1 w2 w4 w5
   refine aC (fun R_ env R=>∃(u:Nat),∃(ab:Nat),env 0= .ptr i 0∧env 3= .ptr I.n 0∧env 4= .ptr z 0∧env 5= .ptr (z+1) 0∧env 7= .int .i64 m∧env 8= .int .i64 ab∧env 9= .int .i64 u∧σ2=R∧R_ (m-u)∧(u≤m∧ab<m)) (by rintro R_ env R ⟨u,ab,e0,e3,e4,e5,e7,e8,e9,h_,cz,hp⟩;exact⟨_,cz,u,ab,e0,e3,e4,e5,e7,e8,e9,h_,rfl,hp⟩) ⟨0,R0,aq,aq,aq,aq,aq,aq,aq,rfl,trivial,?_⟩ ?_
   rotate_left
   rintro m_ env R ⟨u,ab,e0,e3,e4,e5,e7,e8,e9,rfl,rfl,hp⟩
   ·obtain⟨hu,rU⟩:=hp
    obtain⟨⟨g,sv,pv⟩,hx⟩:∃x,gs[ab]? =some x:=⟨gs[ab]'(by omega),aV⟩
    have dU:=dr hx
    have hlen:ab*26+26≤(bJ gs).length:=by rw[dq];omega
    have Sh:=F6 hx
    have nH:=ra hx
    simp only at Sh nH
    obtain⟨R3,R'⟩:∃R3:Nat,((ab:Int)+1) % m=R3:=⟨(((ab:Int)+1) % m).toNat,by have:=Int.emod_nonneg ((ab:Int)+1) (show(m:Int)≠0 by omega);omega⟩
    have zS:((ab:Int)+1).tmod m=R3:=by rw[Int.tmod_eq_emod_of_nonneg J];exact R'
    have zR:R3<m:=by have:=Int.emod_lt_of_pos ((ab:Int)+1) (show(0:Int)<m by omega);omega
    have kK:¬m≤ab:=J
    by_cases xG:u<m∧¬(g.up=true∧g.busy=true)
    ·obtain⟨Su,hub⟩:=xG
     have Na:¬m≤u:=J
     have QI:g.up=false∨(g.up=true∧g.busy=false):=by
      cases hq:g.up with
      |false=>exact .inl rfl
      |true=>cases yF:g.busy with
       |false=>exact .inr ⟨rfl,rfl⟩
       |true=>exact absurd ⟨hq,yF⟩ hub
     rcases QI with QI|⟨QJ,QK⟩
     ·simp+contextual (maxSteps:=1000000) (disch:=first|exact dB|fail) [go_sem,int_lt,-Int.not_le,-Int.not_lt,-List.map_set,iS,e0,e3,e4,e5,e7,e8,e9,w4,MT,Sh,nH,hlen,Su,Na,rU,kK,QI,zS,jj]
      (repeat refine Alt.mk ?_)
      exact⟨u+1,R3,J,J,J,J,zR⟩
     ·simp+contextual (maxSteps:=1000000) (disch:=first|exact dB|fail) [go_sem,int_lt,-Int.not_le,-Int.not_lt,-List.map_set,iS,e0,e3,e4,e5,e7,e8,e9,w4,MT,Sh,nH,hlen,Su,Na,rU,kK,QJ,QK,zS,jj]
      (repeat refine Alt.mk ?_)
      exact⟨u+1,R3,J,J,J,J,zR⟩
    ·have hex:m≤u∨(u<m∧¬m≤u∧g.up=true∧g.busy=true):=by
      by_cases h:u<m
      ·right
       refine⟨h,J,?_⟩
       by_cases h2:g.up=true∧g.busy=true
       ·exact h2
       ·exact absurd ⟨h,h2⟩ xG
      ·exact .inl J
     clear xG R' zS
     have hKr:=pk (q+2) 200 J
     obtain⟨K,hK⟩:∃K:Nat,cY bs (q+2) 200=K:=⟨(cY bs (q+2) 200).toNat,J⟩
     have hK2:K<200:=J
     obtain⟨T,hT⟩:∃T,at_ [1,3,7,8,13,13,14,15,16,19,20,21,22,23,24,25,26] (cY bs (q+1) 17)=T:=⟨_,rfl⟩
     apply Q7 (F:=fun E H=>E 0= .ptr i 0∧E 3= .ptr I.n 0∧E 4= .ptr z 0∧E 5= .ptr (z+1) 0∧E 8= .int .i64 ab∧E 10= .int .i64 T∧E 11= .int .i64 K∧CrH I σ2 i bv (q+3) H) hex
     ·intro Su Z7
      simp+contextual (maxSteps:=1000000) (disch:=first|exact dB|fail) [go_sem,int_lt,-Int.not_le,-Int.not_lt,-List.map_set,iS,e0,e3,e4,e5,e7,e8,e9,w4,MT,Sh,nH,hlen,Su,rU,kK]
      (repeat refine Alt.mk ?_)
      refine sG _ ⟨?_,?_,?_,?_,?_,?_,?_,?_,?_,?_⟩ Z7
      ·simp[fa,e0,e3,e4,e5,e7,e8,e9]
      ·simp[fa,e0,e3,e4,e5,e7,e8,e9]
      ·simp[fa,e0,e3,e4,e5,e7,e8,e9]
      ·simp[fa,e0,e3,e4,e5,e7,e8,e9]
      ·simp[fa,e0,e3,e4,e5,e7,e8,e9]
      ·simp[fa,hT]
      ·simp[fa,hK]
      ·simp only[au,az]
      ·intro y y1 y2;(first|exact bn|fail)
      ·(first|exact bn|fail)
     ·rintro⟨Su,Na,QJ,QK⟩ Z7
      simp+contextual (maxSteps:=1000000) (disch:=first|exact dB|fail) [go_sem,int_lt,-Int.not_le,-Int.not_lt,-List.map_set,iS,e0,e3,e4,e5,e7,e8,e9,w4,MT,Sh,nH,hlen,Su,Na,rU,kK,QJ,QK]
      (repeat refine Alt.mk ?_)
      refine sG _ ⟨?_,?_,?_,?_,?_,?_,?_,?_,?_,?_⟩ Z7
      ·simp[fa,e0,e3,e4,e5,e7,e8,e9]
      ·simp[fa,e0,e3,e4,e5,e7,e8,e9]
      ·simp[fa,e0,e3,e4,e5,e7,e8,e9]
      ·simp[fa,e0,e3,e4,e5,e7,e8,e9]
      ·simp[fa,e0,e3,e4,e5,e7,e8,e9]
      ·simp[fa,hT]
      ·simp[fa,hK]
      ·simp only[au,az]
      ·intro y y1 y2;(first|exact bn|fail)
      ·(first|exact bn|fail)
     ·clear hex hK hT e0 e3 e4 e5 e7 e8 e9
      rintro env σ3 ⟨e0,e3,e4,e5,e8,em,ft,v1,v2,v3⟩
      have Qg:∀y,y<R.n→NE y i→σ3.get y=R.get y:=fun y q1 q2=>(v2 y J q2).trans (w2 y J q2)
      have Z2:CrD I (σ1.n+1) c z i j gb m bv (q+3) ws.length ab K ws gs σ3:=by
       have ne:∀y,I.n≤y→NE y i:=fun y hy=>by simp only[NE];omega
       refine⟨(W.Hp (z:=i) J (ne _ J) (ne _ J) (W.ss J) (fun y q1 q2 q3=>Qg y q2 q3)).le J J,Jf,h0,rfl,(v2 _ J (ne _ J)).trans w4,(v2 _ J (ne _ J)).trans w5,(Qg _ J (ne _ J)).trans z4,v3,fun y q1 q2=>(Qg y J q2).trans (jn y q1 q2),W.RN J,J⟩
      clear hx Sh nH dU hlen
      obtain⟨τ1,rfl⟩:∃x,x=R:=⟨_,rfl⟩
      refine aC (fun R_ env R=>∃(k:Nat),∃(iL:List Int),∃(tf:List (ag×U×U)),env 0= .ptr i 0∧env 3= .ptr I.n 0∧env 4= .ptr z 0∧env 5= .ptr (z+1) 0∧env 8= .int .i64 ab∧env 10= .int .i64 T∧env 11= .int .i64 k∧R_ (k)∧(CrD I (σ1.n+1) c z i j gb m bv (q+3) ws.length ab k iL tf R)∧(k≤200)) (by rintro R_ env R ⟨k,iL,tf,e0,e3,e4,e5,e8,em,ft,cz,hD,hk⟩;exact⟨_,cz,k,iL,tf,e0,e3,e4,e5,e8,em,ft,rfl,hD,hk⟩) ⟨K,ws,gs,aq,aq,aq,aq,aq,aq,aq,trivial,?_,?_⟩ ?_
      rotate_left 2
      rintro m_ env R ⟨k,iL,tf,e0,e3,e4,e5,e8,em,ft,rfl,hD,hk⟩
      ·have hD1:=hD
       obtain⟨DW,DP,Dl,Dw,d4,d5,d3,drd,Et,PH,dnn⟩:=hD
       obtain⟨⟨g,sv,pv⟩,hx⟩:∃x,tf[ab]? =some x:=⟨tf[ab]'(by omega),aV⟩
       have nZ:=DW.G _ (List.mem_of_getElem? hx)
       obtain⟨_,X0,XF,gbj,_⟩:=DW.hv.cells
       have Jp:=F5 hx
       simp only at Jp
       have hlen:ab*26+26≤(bJ tf).length:=by rw[dq];omega
       by_cases xG:0<k∧¬g.pc=T
       ·obtain⟨gY,hpT⟩:=xG
        have hB5:1≤60000+2*(200-(k:Int))∧60000+2*(200-(k:Int))+2≤900000:=J
        have jz:NE j z:=by simp only[NE];omega
        have gz:NE gb z:=by simp only[NE];omega
        simp+contextual (maxSteps:=1000000) (disch:=first|exact dB|fail) [go_sem,int_lt,-Int.not_le,-Int.not_lt,-List.map_set,iS,e0,e3,e4,e5,e8,em,ft,d4,X0,Jp,hlen,rU,kK,gY,hpT]
        (repeat refine Alt.mk ?_)
        refine aw (Ff R (σ1.n+1) (60000+2*(200-k)) j _ gb iL tf DW ab J hB5) ?_
        rintro x τ2 fz ⟨YJ,TX,rfl,f1,f2,f3,f4,f5⟩
        have lo:∀y,y<R.n→NE y j→NE y gb→τ2.get y=R.get y:=f5
        have t4:=(f5 z J jz.sw gz.sw).trans d4
        simp+contextual (maxSteps:=1000000) (disch:=first|exact dB|fail) [go_sem,int_lt,-Int.not_le,-Int.not_lt,-List.map_set,iS,e0,e3,e4,e5,e8,em,ft,t4]
        (repeat refine Alt.mk ?_)
        have l2:TX.length=tf.length:=by
         have:=congrArg List.length f2
         rw[A_]at this
         simpa using this
        have P3:=DP.one y1 ab
        rw[←f1,←f2]at P3
        have lw2:YJ.length=iL.length:=by
         have h1:=P3.w.len
         have h2:=DP.w.len
         simp only at h1 h2
         omega
        have SP:∀y,y<σ1.n+1→NE y j∧NE y gb:=fun y hy=>by simp only[NE];omega
        refine⟨k-1,J,J,⟨YJ,TX,?_⟩,J⟩
        refine⟨(f3.outs (z:=z) bj jz gz (f4 z J PH) (fun y q1 q2=>ai q2.ne)).le J J,P3,J,J,bo _ _,?_,?_,?_,?_,f4 z J PH,bj⟩
        ·rw[ai J,f5 _ J aD aD];exact d5
        ·rw[ai J,f5 _ J (SP _ J).1 (SP _ J).2];exact d3
        ·rw[ai J,f5 _ J (SP _ J).1 (SP _ J).2];exact drd
        ·intro y q1 q2
         rw[ai J,f5 _ J (SP _ J).1 (SP _ J).2];exact Et y q1 q2
       ·have hex:k=0∨(0<k∧g.pc=T):=J
        clear xG
        have dU:=dr hx
        have HB:=nZ.gi
        have i1:=nZ.s.aQ
        have i2:=nZ.p.aQ
        simp only at i1 i2
        have eW:ci g.entry:=HB.entry
        have Gg:Rd R i bv bs (q+3):=hr.go J drd Et J
        obtain⟨A,hA⟩:∃A,Nw ⟨c.am,c.ah,c.bH⟩ g=A:=⟨_,rfl⟩
        have Gb:=DW.W
        have Yc:=DW.hw
        have X3:=DW.hj
        have mJ:=bf X3 Yc rfl
        have cL:=y1
        unfold aM.ok at cL
        have Sk:GW 70000 g:=(GI.uk HB).le J
        have F2:∀(τ':af) (ws':List Int) (g':ag),R.n≤τ'.n→(∀y,y<R.n→NE y i→NE y I.n→NE y j→τ'.get y=R.get y)→τ'.get j=some ⟨ws'.map (.int .u64),true⟩→(∀w∈ws',ci w)→ws'.length=iL.length→at_ ws' 0=at_ iL 0→GW 70000 g'→g'.snap=g.snap→g'.ax=g.ax→g'.aX=g.aX→GG (.cw [.sl j 0 iL.length 1,.agg (gV g' sv pv)]) τ':=by
         intro τ' ws' g' r1 r2 r3 r4 r5 r6 r7 r8 r9 r10
         have hL:∀(v:U) (l:List Int),bu .u64 R v l→fo v j→(σ1.n+1≤cn v∨v= .al)→bu .u64 τ' v l:=by
          intro v l hl b1 b2
          rcases hl.ex with⟨rfl,rfl⟩|⟨a,b,rfl,ha,Bk,hb,hc⟩
          ·exact .nil
          ·rcases b1 with b1|b1
           ·rcases b2 with b2|b2
            ·simp only[cn]at b1 b2
             exact .mk' ⟨J,Bk,by rw[r2 a ha aD aD b1];exact hb,hc⟩
            ·cases b2
           ·cases b1
         have hq:=QB.of y1 DP (ws':=ws') (gs':=[g']) (.inl r6) (fun x Aa=>by
          obtain rfl:=List.mem_singleton.1 Aa
          exact .inr ⟨g,List.mem_map.2 ⟨_,List.mem_of_getElem? hx,rfl⟩,r10⟩)
         rw[←Dw,←r5]at fin
         rw[←r5]
         refine fin τ' ws' g' sv pv ⟨J,J,r3,r4,J,r7,by rw[r8];exact hL _ _ nZ.s nZ.sj nZ.sl,by rw[r9];exact hL _ _ nZ.p nZ.pj nZ.pl,fun h=>hq h g' (List.mem_singleton.2 rfl),nZ.sl.imp (fun h=>Nat.le_trans (by omega:I.n≤σ1.n+1) h) id,nZ.pl.imp (fun h=>Nat.le_trans (by omega:I.n≤σ1.n+1) h) id⟩ (fun y q1 q2=>?_) rfl
         rw[r2 y J q2 aD aD]
         exact Et y q1 q2
        clear hD1 fin Z2
        have JA:Nw c g=A:=hA
        have hcx:∀h:0<k,∀h2:¬g.pc=T,False:=fun h h2=>by omega
        by_cases a1:1≤A
        rotate_left
        ·simp+contextual (maxSteps:=1000000) (disch:=first|exact dB|fail) [go_sem,int_lt,-Int.not_le,-Int.not_lt,-List.map_set,iS,e0,e3,e4,e5,e8,em,ft,d4,d5,d3,X0,Jp,dU,hlen,rU,kK,JA,a1]
         refine⟨fun h h2=>(hcx h h2).elim,fun XU=>?_⟩
         (repeat refine Alt.mk ?_)
         refine F2 _ iL g ?_ (fun y q1 q2 q3 q4=>?_) ?_ Gb rfl rfl Sk rfl rfl rfl
         ·simp only[au,az];omega
         ·(first|exact bn|fail)
         ·(first|exact bn|fail)
        by_cases a2:(iL.length:Int)≤A
        ·simp+contextual (maxSteps:=1000000) (disch:=first|exact dB|fail) [go_sem,int_lt,-Int.not_le,-Int.not_lt,-List.map_set,iS,e0,e3,e4,e5,e8,em,ft,d4,d5,d3,X0,Jp,dU,hlen,rU,kK,JA,a1,a2]
         refine⟨fun h h2=>(hcx h h2).elim,fun XU=>?_⟩
         (repeat refine Alt.mk ?_)
         refine F2 _ iL g ?_ (fun y q1 q2 q3 q4=>?_) ?_ Gb rfl rfl Sk rfl rfl rfl
         ·simp only[au,az];omega
         ·(first|exact bn|fail)
         ·(first|exact bn|fail)
        ·obtain⟨AN,hAN⟩:∃AN:Nat,A=AN:=⟨A.toNat,J⟩
         subst hAN
         have aN:AN<iL.length:=J
         have aN1:1≤AN:=J
         have haw:=bF Gb (AN:Int)
         have ahn:=pk (q+4) 3 J
         have aho:=pk (q+4) 4 J
         have hsq:=HB.seq
         have Ue:=HB.ao
         have gF:=HB.next
         have hwe:=HB.aK
         have at0:∀x,at_ (put iL (AN:Int) x) 0=at_ iL 0:=fun x=>fF _ _ _ _ bX
         have PR:∀(τ':af) (x:Int) (g':ag),R.n≤τ'.n→(∀y,y<R.n→NE y i→NE y I.n→NE y j→τ'.get y=R.get y)→τ'.get j=some ⟨(put iL (AN:Int) x).map (.int .u64),true⟩→ci x→GW 70000 g'→g'.snap=g.snap→g'.ax=g.ax→g'.aX=g.aX→GG (.cw [.sl j 0 iL.length 1,.agg (gV g' sv pv)]) τ':=fun τ' x g' r1 r2 r3 r4 r5 r6 r7 r8=>
          F2 τ' (put iL (AN:Int) x) g' r1 r2 r3 (bQ Gb r4) (aF _ _ _) (at0 x) r5 r6 r7 r8
         have Sj:(List.map (U.int .u64) iL)[AN]? =some (.int .u64 (at_ iL (AN:Int))):=by
          rw[List.getElem?_map,List.getElem?_eq_getElem aN]
          simp[at_,aN]
         have Gk:∀x,aB (List.map (U.int .u64) iL) AN [.int .u64 x]=List.map (.int .u64) (put iL (AN:Int) x):=fun x=>by
          have h1:=jH (kk:= .u64) (ws:=iL) (a:=AN) (x:=x) J J
          rw[Int.toNat_natCast]at h1
          exact h1
         have abg:∀x y,aB (List.map (U.int .u64) (put iL (AN:Int) x)) AN [.int .u64 y]=List.map (.int .u64) (put (put iL (AN:Int) x) (AN:Int) y):=fun x y=>by
          have h1:=jH (kk:= .u64) (ws:=put iL (AN:Int) x) (a:=AN) (x:=y) J (by rw[aF];omega)
          rw[Int.toNat_natCast]at h1
          exact h1
         have aa9:∀x,(put iL (AN:Int) x).length=iL.length:=fun x=>aF _ _ _
         have agK:cn bv≠j∨bv= .al:=hJ hr.hb J
         have ag0:¬i=j:=J
         have hgx:∀h:AN<iL.length,iL[AN]'h=at_ iL (AN:Int):=fun h=>by simp[at_,h]
         simp+contextual (maxSteps:=1000000) (disch:=first|exact dB|fail) [go_sem,int_lt,-Int.not_le,-Int.not_lt,-List.map_set,iS,e0,e3,e4,e5,e8,em,ft,d4,d5,d3,X0,Jp,dU,hlen,rU,kK,JA,a1,a2,aN,Yc,Sj,Gk,abg,aa9,hgx]
         refine⟨fun h h2=>(hcx h h2).elim,fun XU=>?_⟩
         (repeat refine Alt.mk ?_)
         have L1:∀(τ':af),R.n≤τ'.n→(∀y,y<R.n→NE y i→NE y I.n→NE y j→τ'.get y=R.get y)→τ'.get j=some ⟨iL.map (.int .u64),true⟩→GG (.cw [.sl j 0 iL.length 1,.agg (gV g sv pv)]) τ':=fun τ' r1 r2 r3=>F2 τ' iL g r1 r2 r3 Gb rfl rfl Sk rfl rfl rfl
         have L2:∀(τ':af) (x y:Int),R.n≤τ'.n→(∀y,y<R.n→NE y i→NE y I.n→NE y j→τ'.get y=R.get y)→ci x→ci y→τ'.get j=some ⟨(put (put iL (AN:Int) x) (AN:Int) y).map (.int .u64),true⟩→GG (.cw [.sl j 0 iL.length 1,.agg (gV g sv pv)]) τ':=fun τ' x y r1 r2 r3 r4 r5=>
          F2 τ' (put (put iL (AN:Int) x) (AN:Int) y) g r1 r2 r5 (bQ (bQ Gb r3) r4) (by rw[aF,aF]) ((fF _ _ _ _ bX).trans (at0 x)) Sk rfl rfl rfl
         have L3:∀(τ':af) (x:Int),R.n≤τ'.n→(∀y,y<R.n→NE y i→NE y I.n→NE y j→τ'.get y=R.get y)→ci x→τ'.get j=some ⟨(put iL (AN:Int) x).map (.int .u64),true⟩→GG (.cw [.sl j 0 iL.length 1,.agg (gV g sv pv)]) τ':=fun τ' x r1 r2 r3 r4=>PR τ' x g r1 r2 r4 r3 Sk rfl rfl rfl
         have L4:∀(τ':af) (x:Int),R.n≤τ'.n→(∀y,y<R.n→NE y i→NE y I.n→NE y j→τ'.get y=R.get y)→ci x→τ'.get j=some ⟨(put iL (AN:Int) x).map (.int .u64),true⟩→GG (.cw [.sl j 0 iL.length 1,.agg (gV {g with bw:=x} sv pv)]) τ':=fun τ' x r1 r2 r3 r4=>PR τ' x {g with bw:=x} r1 r2 r4 r3 (Sk.adF r3) rfl rfl rfl
         clear F2 PR
         refine⟨fun _=>?_,fun _=>⟨fun Xh=>⟨fun h=>by exfalso;omega,fun _ _=>⟨fun h=>by exfalso;omega,fun _=>?_⟩⟩,fun _ _=>⟨fun b57=>?_,fun _ _=>⟨fun Tq=>?_,fun _=>?_⟩⟩⟩⟩
         ·(repeat refine Alt.mk ?_)
          exact L1 _ bc (fun y q1 q2 q3 q4=>by(first|exact bn|fail)) aI
         ·(repeat refine Alt.mk ?_)
          refine⟨fun _=>?_,fun _=>?_⟩
          ·(repeat refine Alt.mk ?_)
           exact L2 _ _ _ bc (fun y q1 q2 q3 q4=>by(first|exact bn|fail)) (bh _ _) (Lw _) aI
          ·(repeat refine Alt.mk ?_)
           exact L3 _ _ bc (fun y q1 q2 q3 q4=>by(first|exact bn|fail)) (bh _ _) aI
         ·(repeat refine Alt.mk ?_)
          exact L4 _ _ bc (fun y q1 q2 q3 q4=>by(first|exact bn|fail)) (bh _ _) aI
         ·simp only[gV,Tq]at L2 L3
          (repeat refine Alt.mk ?_)
          refine⟨fun _=>?_,fun _=>?_⟩
          ·(repeat refine Alt.mk ?_)
           exact L2 _ _ _ bc (fun y q1 q2 q3 q4=>by(first|exact bn|fail)) (bh _ _) (Lw _) aI
          ·(repeat refine Alt.mk ?_)
           exact L3 _ _ bc (fun y q1 q2 q3 q4=>by(first|exact bn|fail)) (bh _ _) aI
         ·(repeat refine Alt.mk ?_)
          refine⟨fun _=>?_,fun _=>?_⟩
          ·(repeat refine Alt.mk ?_)
           exact L2 _ _ _ bc (fun y q1 q2 q3 q4=>by(first|exact bn|fail)) (bh _ _) (Lw _) aI
          ·(repeat refine Alt.mk ?_)
           exact L3 _ _ bc (fun y q1 q2 q3 q4=>by(first|exact bn|fail)) (bh _ _) aI
      ·exact Z2
      ·omega
   ·exact⟨J,P4⟩
end AH
namespace AH
open Go Go.Proofs Ho
set_option maxRecDepth 20000
set_option maxHeartbeats 16000000
theorem WG.set{I R:af}{n0 n1:Nat}{j:Nat}{ws:List Int}{g:ag}{sv pv:U}(h:WG I n1 j ws g sv pv)(ZX:n0≤n1)(hn:I.n≤R.n)(hj:R.get j=I.get j)(hs:bu .u64 R sv g.snap)(hp:bu .u64 R pv g.ax):WG R n0 j ws g sv pv:=
 ⟨Nat.lt_of_lt_of_le h.hj hn,Nat.le_trans ZX h.lj,hj.trans h.hw,h.W,h.len,h.gw,hs,hp,h.q,h.sl.imp (Nat.le_trans ZX) id,h.pl.imp (Nat.le_trans ZX) id⟩
theorem uv(I:af)(v:U)(xs:List Int)(hv:bu .u8 I v xs)(hl:(xs.length:Int)≤1048576)(hx:∀x∈xs,0≤x∧x≤255):
 Fn Tryz.prog 50 [v] I fun x R=>∃(j:Nat) (ws:List Int) (g:ag) (sv pv:U),x= .cw [.sl j 0 ws.length 1,.agg (gV g sv pv)]∧WG R I.n j ws g sv pv∧(∀y,y<I.n→R.get y=I.get y):=by
 generalize hG:(fun(x:U) (R:af)=>∃(j:Nat) (ws:List Int) (g:ag) (sv pv:U),x=U.cw [.sl j 0 ws.length 1,.agg (gV g sv pv)]∧WG R I.n j ws g sv pv∧(∀y,y<I.n→R.get y=I.get y))=GG
 have hb:∀j:Int,0≤at_ xs j∧at_ xs j≤255:=by
  intro j
  unfold at_
  rw[List.getD_eq_getElem?_getD]
  cases hj:xs[j.toNat]? with
  |none=>simp
  |some w=>exact hx w (List.mem_of_getElem? hj)
 have iv:=hv.aQ
 refine bA pP mixed Tryz.func50 (by kernel_rfl) rfl (by kernel_rfl) ?_
 have fin:∀(R:af) (j:Nat) (ws:List Int) (g:ag) (sv pv:U),WG R I.n j ws g sv pv→(∀y,y<I.n→R.get y=I.get y)→GG (.cw [.sl j 0 ws.length 1,.agg (gV g sv pv)]) R:=by
  intro R j ws g sv pv h1 h2
  rw[←hG]
  exact⟨j,ws,g,sv,pv,rfl,h1,h2⟩
 clear hG
 simp+contextual (maxSteps:=1000000) (disch:=first|exact dB|fail) [go_sem,int_lt,-Int.not_le,-Int.not_lt,-List.map_set,pP]
 (repeat refine Alt.mk ?_)
 refine aw (LK _ v xs hv.push J hb) ?_
 rintro x R hn ⟨bv,bs,rfl,rfl,y1,y2,y3⟩
 simp+contextual (maxSteps:=1000000) (disch:=first|exact dB|fail) [go_sem,int_lt,-Int.not_le,-Int.not_lt,-List.map_set,pP]
 (repeat refine Alt.mk ?_)
 refine bb (fun σ1=>σ1=(I.push ⟨gV ag.zero .al .al,true⟩).push ⟨[bv,.int .i64 0],true⟩) rfl ?_
 intro σ1 gJ
 have x1:σ1.n=I.n+1+1:=by rw[gJ];rfl
 have x2:∀y,y<I.n→σ1.get y=I.get y:=by rw[gJ];(intro j_ xI;simp(disch:=first|exact NE.ne bZ|exact NE.sym bZ|omega|(simp only[au,az,aR,dw];omega)) only[ak,ai,bg,ef])
 have x3:σ1.get (I.n+1)=some ⟨[bv,.int .i64 0],true⟩:=by rw[gJ];(first|exact bn|fail)
 have x4:σ1.get I.n=some ⟨gV ag.zero .al .al,true⟩:=by rw[gJ];(first|exact bn|fail)
 have hr:Rd σ1 (I.n+1) bv bs 0:=by
  refine⟨J,x3,?_,?_,y3,y2,J⟩
  ·rw[gJ];exact y1.push
  ·exact hJ y1 bG
 clear gJ y1
 by_cases k0:cY bs 0 2=0
 ·simp+contextual (maxSteps:=1000000) (disch:=first|exact dB|fail) [go_sem,int_lt,-Int.not_le,-Int.not_lt,-List.map_set,pP,k0]
  (repeat refine Alt.mk ?_)
  refine bb (fun σ2=>σ2.n=σ1.n∧(∀y,y<σ1.n→NE y (I.n+1)→σ2.get y=σ1.get y)∧σ2.get (I.n+1)=some ⟨[bv,.int .i64 1],true⟩) ?_ ?_
  ·exact⟨by simp only[az],fun y q1 q2=>ai q2.ne,bo _ _⟩
  rintro σ2 ⟨m1,m2,m3⟩
  have O8:=hr.go (q:=1) (R:=σ2) J m3 m2 J
  refine aw (Bs σ2 (I.n+1) bv bs 1 O8 J) ?_
  rintro x R fz ⟨j,ws,g,sv,pv,rfl,W,w⟩
  have i1:=W.s.aQ
  have i2:=W.p.aQ
  have hlj:=W.lj
  have n4:R.get I.n=some ⟨gV ag.zero .al .al,true⟩:=(w _ J aD).trans ((m2 _ J aD).trans x4)
  have lZ:I.n<R.n:=J
  simp+contextual (maxSteps:=1000000) (disch:=first|exact dB|fail) [go_sem,int_lt,-Int.not_le,-Int.not_lt,-List.map_set,pP,n4]
  (repeat refine Alt.mk ?_)
  refine fin _ j ws g sv pv (W.set J bj (ai J) (W.s.set (W.sl.imp (fun h=>by omega) id)) (W.p.set (W.pl.imp (fun h=>by omega) id))) (fun y hy=>?_)
  rw[ai J,w y J aD,m2 y J aD,x2 y hy]
 ·simp+contextual (maxSteps:=1000000) (disch:=first|exact dB|fail) [go_sem,int_lt,-Int.not_le,-Int.not_lt,-List.map_set,pP,k0]
  (repeat refine Alt.mk ?_)
  refine bb (fun σ2=>σ2.n=σ1.n∧(∀y,y<σ1.n→NE y (I.n+1)→σ2.get y=σ1.get y)∧σ2.get (I.n+1)=some ⟨[bv,.int .i64 1],true⟩) ?_ ?_
  ·exact⟨by simp only[az],fun y q1 q2=>ai q2.ne,bo _ _⟩
  rintro σ2 ⟨m1,m2,m3⟩
  have O8:=hr.go (q:=1) (R:=σ2) J m3 m2 J
  refine aw (LF σ2 (I.n+1) bv bs 1 O8 J) ?_
  rintro x R fz ⟨j,v',gb,ws,gs,q,rfl,W,z1,z2,z3,z4,zQ⟩
  have n4:R.get I.n=some ⟨gV ag.zero .al .al,true⟩:=(z4 _ J aD).trans ((m2 _ J aD).trans x4)
  have lZ:I.n<R.n:=J
  have hj:=W.hj
  have hw:=W.hw
  have hlj:=W.lj
  have hlg:=W.lg
  have m7:=W.m7
  have wa:=W.aQ
  have fr:∀y,y<I.n→R.get y=I.get y:=fun y hy=>by rw[z4 y J aD,m2 y J aD,x2 y hy]
  cases W.hv with
  |none=>
   simp+contextual (maxSteps:=1000000) (disch:=first|exact dB|fail) [go_sem,int_lt,-Int.not_le,-Int.not_lt,-List.map_set,pP,n4]
   (repeat refine Alt.mk ?_)
   have qg:GW 70000 (iX 0):=GI.uk (mZ J J)
   refine fin _ j ws (iX 0) .al .al ⟨by simp only[au,az];omega,J,aI,W.W,W.len,qg,.nil,.nil,fun h=>?_,.inr rfl,.inr rfl⟩ (fun y hy=>?_)
   ·have cL:=(qY h).2
    unfold aM.ok at cL
    show 0≤(0:Int)∧0<(check ws).1.am
    omega
   ·rw[←fr y hy]
    (first|exact bn|fail)
  | @some gb m gs h0 h1 h2 h3 h4=>
    have jj:¬m=0:=J
    simp+contextual (maxSteps:=1000000) (disch:=first|exact dB|fail) [go_sem,int_lt,-Int.not_le,-Int.not_lt,-List.map_set,pP,n4,jj]
    (repeat refine Alt.mk ?_)
    refine iO (fun σ3=>σ3.n=R.n+1∧(∀y,y<R.n→NE y (I.n+1)→σ3.get y=R.get y)∧σ3.get R.n=some ⟨[.sl j 0 ws.length 1,.sl gb 0 m 26],true⟩) ?_ ?_
    ·exact⟨by simp only[au,az],sV,aI⟩
    rintro σ3 ⟨t1,t2,t3⟩
    have zY:=dC (bs:=bs) (k:=q) (n:=(m:Int)) J
    obtain⟨R0,hR0⟩:∃ab:Nat,cY bs q m=ab:=⟨(cY bs q m).toNat,J⟩
    have P4:R0<m:=J
    have n5:σ3.get I.n=some ⟨gV ag.zero .al .al,true⟩:=(t2 _ J aD).trans n4
    have g5:σ3.get gb=some ⟨bJ gs,true⟩:=(t2 _ h2 aD).trans h4
    have w5:σ3.get j=some ⟨ws.map (.int .u64),true⟩:=(t2 _ hj aD).trans hw
    have Qg:∀y,y<I.n→σ3.get y=I.get y:=fun y hy=>(t2 y J aD).trans (fr y hy)
    have hG:=W.G
    have Sb:=W.W
    have Dh:=W.len
    generalize hz:R.n=z at t1 t3
    refine aC (fun R_ env R=>∃(u:Nat),∃(ab:Nat),env 3= .ptr I.n 0∧env 5= .ptr z 0∧env 6= .int .i64 m∧env 7= .int .i64 ab∧env 8= .int .i64 u∧σ3=R∧R_ (m-u)∧(u≤m∧ab<m)) (by rintro R_ env R ⟨u,ab,e3,e5,e6,e7,e8,h_,cz,hp⟩;exact⟨_,cz,u,ab,e3,e5,e6,e7,e8,h_,rfl,hp⟩) ⟨0,R0,aq,aq,aq,aq,aq,rfl,trivial,?_⟩ ?_
    rotate_left
    rintro m_ env R ⟨u,ab,e3,e5,e6,e7,e8,rfl,rfl,hp⟩
    ·obtain⟨hu,rU⟩:=hp
     obtain⟨⟨g,sv,pv⟩,hx⟩:∃x,gs[ab]? =some x:=⟨gs[ab]'(by omega),aV⟩
     have dU:=dr hx
     have hlen:ab*26+26≤(bJ gs).length:=by rw[dq];omega
     have nH:=ra hx
     simp only at nH dU
     have oe:=hG _ (List.mem_of_getElem? hx)
     have i1:=oe.s.aQ
     have i2:=oe.p.aQ
     simp only at i1 i2
     obtain⟨R3,R'⟩:∃R3:Nat,((ab:Int)+1) % m=R3:=⟨(((ab:Int)+1) % m).toNat,by have:=Int.emod_nonneg ((ab:Int)+1) (show(m:Int)≠0 by omega);omega⟩
     have zS:((ab:Int)+1).tmod m=R3:=by rw[Int.tmod_eq_emod_of_nonneg J];exact R'
     have zR:R3<m:=by have:=Int.emod_lt_of_pos ((ab:Int)+1) (show(0:Int)<m by omega);omega
     have kK:¬m≤ab:=J
     simp+contextual (maxSteps:=1000000) (disch:=first|exact dB|fail) [go_sem,int_lt,-Int.not_le,-Int.not_lt,-List.map_set,pP,e3,e5,e6,e7,e8,n5,t3,g5,nH,dU,hlen,rU,kK,zS,jj]
     refine⟨fun h1 h2=>⟨u+1,R3,rfl,J,J,J,zR⟩,fun _=>?_⟩
     have hL:∀(w:U) (l:List Int) (X:cT),bu .u64 R w l→(σ2.n+1≤cn w∨w= .al)→bu .u64 (σ3.set I.n X) w l:=by
      intro w l X hl b2
      rcases hl.ex with⟨rfl,rfl⟩|⟨a,b,rfl,ha,Bk,hb,hc⟩
      ·exact .nil
      ·rcases b2 with b2|b2
       ·simp only[cn]at b2
        exact .mk' ⟨bj,Bk,by rw[ai J,t2 a J aD];exact hb,hc⟩
       ·cases b2
     refine fin _ j ws g sv pv ⟨bj,J,by rw[ai J];exact w5,Sb,Dh,oe.gi.le J,hL _ _ _ oe.s oe.sl,hL _ _ _ oe.p oe.pl,fun h=>zQ h g (List.mem_map.2 ⟨_,List.mem_of_getElem? hx,rfl⟩),oe.sl.imp (fun h=>Nat.le_trans (by omega:I.n≤σ2.n+1) h) id,oe.pl.imp (fun h=>Nat.le_trans (by omega:I.n≤σ2.n+1) h) id⟩ (fun y hy=>?_)
     rw[ai J];exact Qg y hy
    ·exact⟨J,P4⟩
end AH
