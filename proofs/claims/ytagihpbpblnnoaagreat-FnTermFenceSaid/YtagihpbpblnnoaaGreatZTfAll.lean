import Derived.Test.YtagihpbpblnnoaaGreatZ32
import Derived.Test.YtagihpbpblnnoaaGreatZ40
import Derived.Test.YtagihpbpblnnoaaGreatZ47
import Derived.Test.YtagihpbpblnnoaaGreatZ00
import Derived.Test.YtagihpbpblnnoaaGreatZ15
import Derived.Test.YtagihpbpblnnoaaGreatZ51
import Derived.Test.YtagihpbpblnnoaaGreatZ48
import Derived.Test.YtagihpbpblnnoaaGreatZ54
set_option linter.all false
namespace AH
open Go Go.Proofs Ho
set_option maxRecDepth 20000
set_option maxHeartbeats 4000000
theorem aaI(I:af)(j:Nat)(c:aM)(ws:List Int)(slot:Int)(hj:j<I.n)(hw:I.get j=some ⟨ws.map (.int .u64),true⟩)(hW:∀w∈ws,ci w)(hc:check ws=(c,true))(hs:0≤slot∧slot<c.am):Fn Tryz.prog 97 [.sl j 0 ws.length 1,.int .i64 slot] I fun x R=>x= .cw [cV c.am c.ah c.bH,.int .i64 (aG (at_ ws (3+slot))/4),.int .u64 (at_ ws (3+c.am+slot)),.int .i64 (aG (at_ ws 1)),.bool (decide (aG (at_ ws (3+slot)) % 4=1))]∧R=I:=by
 refine ay afi mixed Tryz.func97 (by kernel_rfl) rfl (by kernel_rfl) bE ?_
 obtain⟨s1,s2⟩:=hs
 have hz:=lR (ws:=ws) (by rw[hc])
 rw[hc]at hz
 obtain⟨XV,uB⟩:=hz
 simp only at XV uB
 have cL:=XV
 unfold aM.ok at cL
 unfold aM.size at uB
 have hv:=bf hj hw rfl
 have s3:slot≤c.am-1:=J
 have w1:=bF hW (3+slot)
 have w2:=bF hW (3+c.am+slot)
 have w3:=bF hW 1
 have b1:¬(ws.length:Int)≤3+slot:=J
 have b2:¬(ws.length:Int)≤3+c.am+slot:=J
 have b3:¬(ws.length:Int)≤1:=J
 simp+contextual (maxSteps:=1000000) (disch:=first|exact dB|fail) [go_sem,int_lt,-Int.not_le,-Int.not_lt,-List.map_set,afi,hc,s1,s3,b1,b2,b3]
@[go_sem] def aaL:=fun(I:af) j c ws slot hj hw hW hc hs (aA:U→af→Prop)=>ar (k:=aA) (aaI I j c ws slot hj hw hW hc hs)
@[go_sem] def aaK:=fun(I:af) (b_:Bool) (j:Nat) (c:aM) (ws:List Int) (slot:Int) (hj:b_=true→ j<I.n) (hw:b_=true→ I.get j=some ⟨ws.map (.int .u64),true⟩) (hW:b_=true→ ∀w∈ws,ci w) (hc:b_=true→ check ws=(c,true)) (hs:b_=true→ 0≤slot∧slot<c.am) (aA:U→af→Prop)=>aJ (k:=aA) b_ fun aY=>aaI I j c ws slot (hj aY) (hw aY) (hW aY) (hc aY) (hs aY)
theorem aaD(I:af)(j:Nat)(c:aM)(ws:List Int)(slot:Int)(hj:j<I.n)(hw:I.get j=some ⟨ws.map (.int .u64),true⟩)(hW:∀w∈ws,ci w)(hc:check ws=(c,true))(hs:0≤slot∧slot<c.am):Fn Tryz.prog 33 [.sl j 0 ws.length 1,.int .i64 slot] I fun x R=>x= .bool (decide (aG (at_ ws (3+slot)) % 4=1)&& !lK (at_ ws (3+c.am+slot)) (aG (at_ ws (3+slot))/4) (aG (at_ ws 1)) c.bH)∧R=I:=by
 refine ay aZ mixed Tryz.func33 (by kernel_rfl) rfl (by kernel_rfl) bE ?_
 have v4:=aO (w:=at_ ws 1)
 have w2:=bF hW (3+c.am+slot)
 by_cases h:aG (at_ ws (3+slot)) % 4=1
 ·simp+contextual (maxSteps:=1000000) (disch:=first|exact dB|fail) [go_sem,int_lt,-Int.not_le,-Int.not_lt,-List.map_set,h]
 ·simp+contextual (maxSteps:=1000000) (disch:=first|exact dB|fail) [go_sem,int_lt,-Int.not_le,-Int.not_lt,-List.map_set,h]
@[go_sem] def aaH:=fun(I:af) j c ws slot hj hw hW hc hs (aA:U→af→Prop)=>ar (k:=aA) (aaD I j c ws slot hj hw hW hc hs)
@[go_sem] def aaG:=fun(I:af) (b_:Bool) (j:Nat) (c:aM) (ws:List Int) (slot:Int) (hj:b_=true→ j<I.n) (hw:b_=true→ I.get j=some ⟨ws.map (.int .u64),true⟩) (hW:b_=true→ ∀w∈ws,ci w) (hc:b_=true→ check ws=(c,true)) (hs:b_=true→ 0≤slot∧slot<c.am) (aA:U→af→Prop)=>aJ (k:=aA) b_ fun aY=>aaD I j c ws slot (hj aY) (hw aY) (hW aY) (hc aY) (hs aY)
end AH
namespace AH
open Go Go.Proofs Ho
set_option maxRecDepth 20000
set_option maxHeartbeats 4000000
theorem aaQ{c:aM}{ws:List Int}{g:ag}(h:g.pc=18)(hl:2≤ws.length):(cW c ws g).g.pc=if aL g.aT<g.aK∨(aL g.aT=g.aK∧c.bH<aG (at_ ws 1)-aG g.aT)then 19 else 9:=by
 have e:bm ws 1=at_ ws 1:=dD J
 unfold cW
 rw[if_neg J,if_neg J,if_neg J,if_neg J,if_pos J]
 unfold fQ
 rw[if_neg J,if_neg J,if_pos h]
 simp only[e]
theorem aaO{g:ag}:g.dH.pc=13∨(g.dH.pc=26∧g.dH.code≠8):=by
 unfold ag.dH
 dsimp only
 split
 ·exact .inr ⟨rfl,by simp[ag.cH]⟩
 split
 ·rename_i h
  refine .inr ⟨rfl,?_⟩
  show(eZ g.snap g.op g.seq).2.1≠8
  omega
 ·exact .inl rfl
structure See(c:aM)(g o:ag):Prop where
 oa:0≤g.oa∧g.oa<c.am
 len:(o.snap.length:Int)=aP c
 live:aG (at_ o.snap (3+g.oa)) % 4=1
 or:(o.pc=12∧lK (at_ o.snap (3+c.am+g.oa)) (aG (at_ o.snap (3+g.oa))/4) (aG (at_ o.snap 1)) c.bH=false)∨(o.pc=26∧lK (at_ o.snap (3+c.am+g.oa)) (aG (at_ o.snap (3+g.oa))/4) (aG (at_ o.snap 1)) c.bH=true)
theorem aaP{c:aM}(hc:c.ok){ws:List Int}{g:ag}(h:g.pc=11)(hk:(g.snap.length:Int)=g.gk)(ho:(cW c ws g).g.pc=12∨((cW c ws g).g.pc=26∧(cW c ws g).g.code=8∧g.oa≠g.slot)):See c g (cW c ws g).g:=by
 have e:(cW c ws g).g=if g.gk+1=aP c then({g with snap:=g.snap++[bm ws g.gk],gk:=g.gk+1}:ag).cr c else {g with snap:=g.snap++[bm ws g.gk],gk:=g.gk+1}:=by
  unfold cW
  rw[if_neg J,if_neg J,if_pos J]
  unfold eh
  rw[if_pos h]
 rw[e]at ho⊢
 split at ho
 rotate_left
 ·simp only at ho;omega
 rename_i hh
 rw[if_pos hh]
 have hlen:((g.snap++[bm ws g.gk]).length:Int)=aP c:=by simp;omega
 generalize hG:({g with snap:=g.snap++[bm ws g.gk],gk:=g.gk+1}:ag)=G at*
 have h1:G.oa=g.oa:=by rw[←hG]
 have h2:G.slot=g.slot:=by rw[←hG]
 have h3:(G.snap.length:Int)=aP c:=by rw[←hG];exact hlen
 rw[←h1,←h2]at ho
 have hp:=aaO (g:=G)
 unfold ag.cr at ho⊢
 dsimp only at ho⊢
 split at ho
 ·simp[ag.cH]at ho
 rename_i q1
 rw[if_neg q1]
 split at ho
 rotate_left
 ·omega
 rename_i q2
 rw[if_pos q2]
 unfold ag.gf at ho⊢
 split at ho
 ·omega
 rename_i q3
 rw[if_neg q3]
 have ha:0≤G.oa∧G.oa<c.am:=J
 have er:=gA hc ha
 have eb:=lC hc ha
 dsimp only at ho⊢
 rw[er]at ho⊢
 have Sp:(lK (at_ G.snap (3+c.am+G.oa)) (aG (at_ G.snap (3+G.oa))/4) (aG (at_ G.snap 1)) c.bH=true)↔¬oo c G G.oa (aG (at_ G.snap (3+G.oa))/4):=by
  unfold lK oo;rw[eb];simp;omega
 split at ho
 ·rename_i q4
  rw[if_pos q4]
  rcases ho with ho|⟨_,_,ho⟩
  ·simp[ag.cH]at ho
  ·rcases q4 with q4|⟨q4,q5⟩
   ·exact absurd q4 ho
   ·rw[h1]at*
    exact⟨ha,h3,q4,.inr ⟨rfl,Sp.2 q5⟩⟩
 rename_i q4
 rw[if_neg q4]
 split at ho
 ·rename_i q5
  rw[if_pos q5]
  refine⟨by rw[←h1];exact ha,h3,by rw[←h1];exact q5,.inl ⟨rfl,?_⟩⟩
  rw[←h1]
  cases hb:lK (at_ G.snap (3+c.am+G.oa)) (aG (at_ G.snap (3+G.oa))/4) (aG (at_ G.snap 1)) c.bH with
  |false=>rfl
  |true=>exact absurd (.inr ⟨q5,Sp.1 hb⟩) q4
 ·omega
end AH
namespace AH
open Go Go.Proofs Ho
set_option maxRecDepth 20000
set_option maxHeartbeats 16000000
theorem aal{gs:List (ag×U×U)}{i:Nat}{x:ag×U×U}(h:gs[i]? =some x):∀hl:i*26+2<(bJ gs).length,(bJ gs)[i*26+2]'hl= .int .i64 x.1.ao:=fun hl=>by
 have h1:=ta (f:=2) h J
 rw[List.getElem?_eq_getElem hl]at h1
 simpa using h1
structure TfD(I:af)(lo:Nat)(c:aM)(z i j gb m:Nat)(bv:U)(Q:Int)(nw:Nat)(k:Nat)(ws:List Int)(gs:List (ag×U×U))(R:af):Prop where
 W:gm R lo (60800+2*k) j (.sl gb 0 m 26) gb ws gs
 P:PK c (ws,gs.map (·.1))
 l:gs.length=m
 lw:ws.length=nw
 g4:R.get z=some ⟨[.sl j 0 ws.length 1,.sl gb 0 m 26],true⟩
 g5:R.get (z+1)=some ⟨[.int .i64 c.am,.int .i64 c.ah,.int .i64 c.bH],true⟩
 g3:R.get I.n=some ⟨gV ag.zero .al .al,true⟩
 rd:R.get i=some ⟨[bv,.int .i64 Q],true⟩
 fr:∀y,y<I.n→R.get y=I.get y
 ap:kq z gs
 nn:z+1<R.n
theorem aaW(ws:List Int)(gs:List ag)(ab A:Int):(uj ws gs ⟨3,ab,0,6,A,0⟩).2.length=gs.length:=by
 unfold uj
 simp only[show ¬(3:Int)=1 by omega,show ¬(3:Int)=5 by omega,show ¬(3:Int)=2 by omega,if_false,if_true]
 split
 ·rfl
 ·simp
theorem aaY(I:af)(v:U)(xs:List Int)(hv:bu .u8 I v xs)(hl:(xs.length:Int)≤1048576)(hx:∀x∈xs,0≤x∧x≤255):
 Fn Tryz.prog 26 [v] I fun x R=>∃(j:Nat) (ws:List Int) (g:ag) (sv pv:U),x= .cw [.sl j 0 ws.length 1,.agg (gV g sv pv)]∧WG R I.n j ws g sv pv∧(∀y,y<I.n→R.get y=I.get y):=by
 generalize hG:(fun(x:U) (R:af)=>∃(j:Nat) (ws:List Int) (g:ag) (sv pv:U),x=U.cw [.sl j 0 ws.length 1,.agg (gV g sv pv)]∧WG R I.n j ws g sv pv∧(∀y,y<I.n→R.get y=I.get y))=GG
 have hb:∀j:Int,0≤at_ xs j∧at_ xs j≤255:=by
  intro j
  unfold at_
  rw[List.getD_eq_getElem?_getD]
  cases hj:xs[j.toNat]? with
  |none=>simp
  |some w=>exact hx w (List.mem_of_getElem? hj)
 have iv:=hv.aQ
 refine bA afa mixed Tryz.func26 (by kernel_rfl) rfl (by kernel_rfl) ?_
 have fin:∀(R:af) (j:Nat) (ws:List Int) (g:ag) (sv pv:U),WG R I.n j ws g sv pv→(∀y,y<I.n→R.get y=I.get y)→GG (.cw [.sl j 0 ws.length 1,.agg (gV g sv pv)]) R:=by
  intro R j ws g sv pv h1 h2
  rw[←hG]
  exact⟨j,ws,g,sv,pv,rfl,h1,h2⟩
 clear hG
 simp+contextual (maxSteps:=1000000) (disch:=first|exact dB|fail) [go_sem,int_lt,-Int.not_le,-Int.not_lt,-List.map_set,afa]
 (repeat refine Alt.mk ?_)
 refine aw (LK _ v xs hv.push J hb) ?_
 rintro x R hn ⟨bv,bs,rfl,rfl,y1,y2,y3⟩
 simp+contextual (maxSteps:=1000000) (disch:=first|exact dB|fail) [go_sem,int_lt,-Int.not_le,-Int.not_lt,-List.map_set,afa]
 (repeat refine Alt.mk ?_)
 refine bb (fun σ1=>σ1=(I.push ⟨gV ag.zero .al .al,true⟩).push ⟨[bv,.int .i64 0],true⟩) rfl ?_
 intro σ1 gJ
 have x1:σ1.n=I.n+1+1:=by rw[gJ];rfl
 have x2:∀y,y<I.n→σ1.get y=I.get y:=by rw[gJ];(intro j_ xI;simp(disch:=first|exact NE.ne bZ|exact NE.sym bZ|omega|(simp only[au,az,aR,dw];omega)) only[ak,ai,bg,ef])
 have x3:σ1.get (I.n+1)=some ⟨[bv,.int .i64 0],true⟩:=by rw[gJ];(first|exact bn|fail)
 have x4:σ1.get I.n=some ⟨gV ag.zero .al .al,true⟩:=by rw[gJ];(first|exact bn|fail)
 have hr:Rd σ1 (I.n+1) bv bs 0:=by
  refine⟨J,x3,?_,?_,y3,y2,J⟩
  ·rw[gJ];exact y1.push
  ·exact hJ y1 bG
 clear gJ y1
 obtain⟨i,hi⟩:∃i,I.n+1=i:=⟨_,rfl⟩
 rw[hi]at x3 hr⊢
 refine aw (wY σ1 i bv bs 0 hr J) ?_
 rintro x R jq ⟨c,j,v,gb,ws,gs,dZ,q,rfl,y1,y2,y3,W,y5,y6,y7,y8⟩
 have iv:=W.aQ
 have z4:R.get I.n=some ⟨gV ag.zero .al .al,true⟩:=(y8 _ J aD).trans x4
 have lZ:I.n<R.n:=J
 have jn:∀y,y<I.n→R.get y=I.get y:=fun y q1=>(y8 y J aD).trans (x2 y q1)
 have Jf:=KE y1 y2
 have Jn:=Jf.PC y1
 have len:=Az y1 y2
 have pk:=fun(k n:Int) (hn:1≤n)=>dC (bs:=bs) (k:=k) (n:=n) hn
 have hj:=W.hj
 have hw:=W.hw
 have lj:=W.lj
 have lg:=W.lg
 have l2:=W.l2
 have m6:=W.m6
 have Sb:=W.W
 have rg:=y5.hg
 have aak:=W.XF
 have ljn:¬j=i:=J
 have abP:¬j=I.n:=J
 have hv:=bf hj hw rfl
 have Dh:(ws.length:Int)≤1000000:=J
 cases W.hv with
 |none=>
  simp+contextual (maxSteps:=1000000) (disch:=first|exact dB|fail) [go_sem,int_lt,-Int.not_le,-Int.not_lt,-List.map_set,afa,z4,Jn]
  (repeat refine Alt.mk ?_)
  have qg:GW 70000 (iX 0):=GI.uk (mZ J J)
  refine fin _ j ws (iX 0) .al .al ⟨?_,J,?_,Sb,Dh,qg,.nil,.nil,?_,.inr rfl,.inr rfl⟩ (fun y z1=>?_)
  ·simp only[au,az];omega
  ·(first|exact bn|fail)
  ·rw[Jn];intro _
   have cL:=y1
   unfold aM.ok at cL
   show 0≤(0:Int)∧0<c.am
   omega
  ·rw[←jn y z1]
   (first|exact bn|fail)
 | @some gb m gs h0 h1 h2 h3 h4=>
   have jj:¬m=0:=J
   simp+contextual (maxSteps:=1000000) (disch:=first|exact dB|fail) [go_sem,int_lt,-Int.not_le,-Int.not_lt,-List.map_set,afa,z4,Jn,jj]
   (repeat refine Alt.mk ?_)
   refine iO (fun σ2=>σ2.n=R.n+1+1∧(∀y,y<R.n→NE y i→σ2.get y=R.get y)∧σ2.get i=some ⟨[bv,.int .i64 (q+1)],true⟩∧σ2.get R.n=some ⟨[.sl j 0 ws.length 1,.sl gb 0 m 26],true⟩∧σ2.get (R.n+1)=some ⟨[.int .i64 c.am,.int .i64 c.ah,.int .i64 c.bH],true⟩) ?_ ?_
   ·exact⟨by simp only[au,az],sV,aI,aI,aI⟩
   rintro σ2 ⟨w1,w2,w3,w4,w5⟩
   have O8:Rd σ2 i bv bs (q+1):=y5.go (q:=q+1) (R:=σ2) J w3 (fun y q1 q2=>w2 y q1 q2) J
   have MT:σ2.get gb=some ⟨bJ gs,true⟩:=(w2 gb h2 aD).trans h4
   obtain⟨R0,hR0⟩:∃ab:Nat,cY bs q m=ab:=⟨(cY bs q m).toNat,by have:=pk q m J;omega⟩
   have P4:R0<m:=by have:=pk q m J;omega
   generalize hz:R.n=z at w1 w2 w4 w5
   refine aC (fun R_ env R=>∃(u:Nat),∃(ab:Nat),env 3= .ptr I.n 0∧env 4= .ptr i 0∧env 5= .ptr z 0∧env 6= .ptr (z+1) 0∧env 8= .int .i64 m∧env 9= .int .i64 ab∧env 10= .int .i64 u∧σ2=R∧R_ (m-u)∧(u≤m∧ab<m)) (by rintro R_ env R ⟨u,ab,e3,e4,e5,e6,e8,e9,em,h_,cz,hp⟩;exact⟨_,cz,u,ab,e3,e4,e5,e6,e8,e9,em,h_,rfl,hp⟩) ⟨0,R0,aq,aq,aq,aq,aq,aq,aq,rfl,trivial,?_⟩ ?_
   rotate_left
   rintro m_ env R ⟨u,ab,e3,e4,e5,e6,e8,e9,em,rfl,rfl,hp⟩
   ·obtain⟨hu,rU⟩:=hp
    obtain⟨⟨g,sv,pv⟩,hx⟩:∃x,gs[ab]? =some x:=⟨gs[ab]'(by omega),aV⟩
    have hlen:ab*26+26≤(bJ gs).length:=by rw[dq];omega
    have Sh:=F6 hx
    have nH:=ra hx
    have L7:=aal hx
    simp only at Sh nH L7
    obtain⟨R3,R'⟩:∃R3:Nat,((ab:Int)+1) % m=R3:=⟨(((ab:Int)+1) % m).toNat,by have:=Int.emod_nonneg ((ab:Int)+1) (show(m:Int)≠0 by omega);omega⟩
    have zS:((ab:Int)+1).tmod m=R3:=by rw[Int.tmod_eq_emod_of_nonneg J];exact R'
    have zR:R3<m:=by have:=Int.emod_lt_of_pos ((ab:Int)+1) (show(0:Int)<m by omega);omega
    have kK:¬m≤ab:=J
    simp+contextual (maxSteps:=1000000) (disch:=first|exact dB|fail) [go_sem,int_lt,-Int.not_le,-Int.not_lt,-List.map_set,afa,e3,e4,e5,e6,e8,e9,em,w4,MT,Sh,nH,L7,hlen,rU,kK,zS,jj]
    refine⟨fun h1 h2=>⟨u+1,R3,rfl,J,J,J,zR⟩,fun _=>?_⟩
    (repeat refine Alt.mk ?_)
    refine bb (fun σ3=>σ3.n=σ2.n∧(∀y,y<σ2.n→NE y i→σ3.get y=σ2.get y)∧σ3.get i=some ⟨[bv,.int .i64 (q+2)],true⟩) ?_ ?_
    ·exact⟨by simp only[az],fun y q1 q2=>ai q2.ne,bo _ _⟩
    rintro σ3 ⟨v1,v2,v3⟩
    have aac:gm σ3 (σ1.n+1) 60000 j (.sl gb 0 m 26) gb ws gs:=W.DI (z:=i) J J (fun y q1 q2=>(v2 y J q2).trans (w2 y J q2))
    obtain⟨A,hA⟩:∃A,cY bs (q+1) 3=A:=⟨_,rfl⟩
    rw[hA]
    refine aw (qd σ3 (σ1.n+1) 60000 j _ gb ws gs aac ⟨3,ab,0,6,A,0⟩ J) ?_
    rintro x τ3 Dk ⟨v',gb',iL,tf,rfl,f1,f2,f3,f4,f5⟩
    have R8:PK c (iL,tf.map (·.1)):=by rw[f1];exact Jf.do y1 _
    have pm:tf.length=m:=by
     have h1:=congrArg (fun w=>w.2.length) f1
     simp only[List.length_map,aaW]at h1
     omega
    have aas:iL.length=ws.length:=by
     have h1:=R8.w.len
     have h2:=Jf.w.len
     simp only at h1 h2
     omega
    have cL:=y1
    unfold aM.ok at cL
    obtain⟨H,hH⟩:∃H:Nat,aP c=H:=⟨(aP c).toNat,IV⟩
    have hH2:H≤120:=by unfold aP at hH;omega
    have L0:aP ⟨c.am,c.ah,c.bH⟩=H:=hH
    have t4:τ3.get z=some ⟨[.sl j 0 ws.length 1,.sl gb 0 m 26],true⟩:=(f5 _ J aD aD).trans ((v2 _ J aD).trans w4)
    have t5:τ3.get (z+1)=some ⟨[.int .i64 c.am,.int .i64 c.ah,.int .i64 c.bH],true⟩:=(f5 _ J aD aD).trans ((v2 _ J aD).trans w5)
    have t3:τ3.get I.n=some ⟨gV ag.zero .al .al,true⟩:=(f5 _ J aD aD).trans ((v2 _ J aD).trans ((w2 _ J aD).trans z4))
    have aaS:τ3.get i=some ⟨[bv,.int .i64 (q+2)],true⟩:=(f5 _ J aD aD).trans v3
    have aaR:∀y,y<I.n→τ3.get y=I.get y:=fun y q1=>(f5 y J aD aD).trans ((v2 y J aD).trans ((w2 y J aD).trans (jn y q1)))
    have zV:NE gb' z:=by rcases f3 with h|h<;>simp only[NE]<;>omega
    have hjz:NE j z:=by simp only[NE];omega
    have ap1:kq z tf:=f4 z J (W.RN (z:=z) J)
    have iv1:=f2.aQ
    cases f2.hv with
    |none=>exfalso;simp at pm;omega
    | @some gb' m' tf k0 k1 k2 k3 k4=>
      obtain rfl:m'=m:=J
      simp+contextual (maxSteps:=1000000) (disch:=first|exact dB|fail) [go_sem,int_lt,-Int.not_le,-Int.not_lt,-List.map_set,afa,e3,e4,e5,e6,e8,e9,em,t4]
      (repeat refine Alt.mk ?_)
      have Z2:TfD I (σ1.n+1) c z i j gb' m' bv (q+2) ws.length 0 iL tf (τ3.set z ⟨[.sl j 0 iL.length 1,.sl gb' 0 m' 26],true⟩):=by
       refine⟨(f2.outs (z:=z) bj hjz zV ap1 (fun y q1 q2=>ai q2.ne)).le J J,R8,pm,aas,bo _ _,?_,?_,?_,?_,ap1,bj⟩
       ·rw[ai J];exact t5
       ·rw[ai J];exact t3
       ·rw[ai J];exact aaS
       ·intro y q1;rw[ai J];exact aaR y q1
      clear hx Sh nH L7
      obtain⟨τ1,rfl⟩:∃x,x=R:=⟨_,rfl⟩
      refine aC (fun R_ env R=>∃(k:Nat),∃(YJ:List Int),∃(TX:List (ag×U×U)),env 3= .ptr I.n 0∧env 4= .ptr i 0∧env 5= .ptr z 0∧env 6= .ptr (z+1) 0∧env 9= .int .i64 ab∧env 11= .int .i64 k∧R_ (2*H+80-k)∧(TfD I (σ1.n+1) c z i j gb' m' bv (q+2) ws.length k YJ TX R)∧(k≤2*H+80)) (by rintro R_ env R ⟨k,YJ,TX,e3,e4,e5,e6,e9,ft,cz,hD,hk⟩;exact⟨_,cz,k,YJ,TX,e3,e4,e5,e6,e9,ft,rfl,hD,hk⟩) ⟨0,iL,tf,aq,aq,aq,aq,aq,aq,trivial,?_,?_⟩ ?_
      rotate_left 2
      rintro m_ env R ⟨k,YJ,TX,e3,e4,e5,e6,e9,ft,rfl,hD,hk⟩
      ·have hD1:=hD
       obtain⟨DW,DP,Dl,Dw,d4,d5,d3,drd,Et,PH,dnn⟩:=hD
       obtain⟨⟨g,sv,pv⟩,hx⟩:∃x,TX[ab]? =some x:=⟨TX[ab]'(by omega),aV⟩
       have nZ:=DW.G _ (List.mem_of_getElem? hx)
       obtain⟨_,X0,XF,gbj,_⟩:=DW.hv.cells
       have dU:=dr hx
       simp only at dU
       have hlen:ab*26+26≤(bJ TX).length:=by rw[dq];omega
       have i1:=nZ.s.aQ
       have i2:=nZ.p.aQ
       simp only at i1 i2
       have X3:=DW.hj
       have Yc:=DW.hw
       have Gg:Rd R i bv bs (q+2):=hr.go J drd (fun y q1 q2=>by
        rcases Nat.lt_or_ge y I.n with h|h
        ·rw[Et y h,x2 y h]
        ·have:y=I.n:=by simp only[NE]at q2;omega
         rw[this,d3,x4]) J
       have lg2:=DW.lg
       have pI:2≤YJ.length:=DW.l2
       have aaw:(YJ.length:Int)≤1000000:=DW.len
       have BM:=PH _ (List.mem_of_getElem? hx)
       have L:∀(τ':af) (ws':List Int),R.n≤τ'.n→(∀y,y<R.n→NE y i→NE y I.n→NE y j→NE y z→τ'.get y=R.get y)→τ'.get j=some ⟨ws'.map (.int .u64),true⟩→(ws'=YJ∨∃n,ws'=jE YJ n)→GG (.cw [.sl j 0 YJ.length 1,.agg (gV g sv pv)]) τ':=by
        intro τ' ws' r1 r2 r3 r4
        have e1:ws'.length=YJ.length:=by
         rcases r4 with rfl|⟨n,rfl⟩
         ·rfl
         ·exact qR _ _
        have e2:∀w∈ws',ci w:=by
         rcases r4 with rfl|⟨n,rfl⟩
         ·exact DW.W
         ·exact wv DW.W n
        have e3:PK c (ws',TX.map (·.1)):=by
         rcases r4 with rfl|⟨n,rfl⟩
         ·exact DP
         ·exact⟨WK.tick y1 DP.w n,DP.g,DP.n⟩
        have hq:=QB.id y1 e3
        have hL:∀(v:U) (l:List Int),bu .u64 R v l→fo v j→fo v z→(σ1.n+1≤cn v∨v= .al)→bu .u64 τ' v l:=by
         intro v l hl b1 b3 b2
         rcases hl.ex with⟨rfl,rfl⟩|⟨a,b,rfl,ha,Bk,hb,hc⟩
         ·exact .nil
         ·rcases b1 with b1|b1
          ·rcases b2 with b2|b2
           ·rcases b3 with b3|b3
            ·simp only[cn]at b1 b2 b3
             exact .mk' ⟨J,Bk,by rw[r2 a ha aD aD b1 b3];exact hb,hc⟩
            ·cases b3
           ·cases b2
          ·cases b1
        rw[←e1]
        refine fin τ' j ws' g sv pv ⟨J,J,r3,e2,J,(GI.uk nZ.gi).le J,hL _ _ nZ.s nZ.sj BM.1 nZ.sl,hL _ _ nZ.p nZ.pj BM.2 nZ.pl,fun h=>hq h g (List.mem_map.2 ⟨_,List.mem_of_getElem? hx,rfl⟩),nZ.sl.imp (fun h=>Nat.le_trans (by omega:I.n≤σ1.n+1) h) id,nZ.pl.imp (fun h=>Nat.le_trans (by omega:I.n≤σ1.n+1) h) id⟩ (fun y q1=>?_)
        rw[r2 y J aD aD aD aD]
        exact Et y q1
       have ivs:ey (.sl gb' 0 m' 26):=DW.aQ
       have aaq:=DW.lt
       by_cases Uo:k<2*H+80
       ·have uV:¬2*(H:Int)+80≤k:=J
        simp+contextual (maxSteps:=1000000) (disch:=first|exact dB|fail) [go_sem,int_lt,-Int.not_le,-Int.not_lt,-List.map_set,afa,e3,e4,e5,e6,e9,ft,d4,d5,d3,X0,dU,hlen,rU,kK,L0,uV]
        (repeat refine Alt.mk ?_)
        refine⟨fun hbu _=>?_,fun _=>?_⟩
        ·(repeat refine Alt.mk ?_)
         simp only[gV,hbu]at L
         refine⟨fun _=>?_,fun _=>?_⟩
         ·(repeat refine Alt.mk ?_)
          refine bb (fun σ5=>σ5.n=R.n+1∧(∀y,y<R.n→NE y i→σ5.get y=R.get y)) ?_ ?_
          ·exact⟨by simp only[au,az],fun y y1 y2=>by(first|exact bn|fail)⟩
          rintro σ5 ⟨g1,g2⟩
          have g3:σ5.get gb'=some ⟨bJ TX,true⟩:=(g2 _ XF aD).trans X0
          have g4:σ5.get z=some ⟨[.sl j 0 YJ.length 1,.sl gb' 0 m' 26],true⟩:=(g2 _ J aD).trans d4
          have g5:σ5.get I.n=some ⟨gV ag.zero .al .al,true⟩:=(g2 _ J aD).trans d3
          have g6:gb'<σ5.n:=J
          refine aw (BE σ5 j YJ.length (.sl gb' 0 m' 26) _ YJ ((g2 _ X3 aD).trans Yc) J rfl DW.W J (by simp[U.lt,g6]) ivs) ?_
          rintro x τ5 _ ⟨rfl,rfl⟩
          simp+contextual (maxSteps:=1000000) (disch:=first|exact dB|fail) [go_sem,int_lt,-Int.not_le,-Int.not_lt,-List.map_set,afa,e3,e4,e5,e6,e9,ft,d4,d5,d3,X0,dU,hlen,rU,kK,g3,g4,g5,hbu]
          (repeat refine Alt.mk ?_)
          refine L _ (jE YJ _) bc (fun y q1 q2 q3 q4 q5=>?_) aI (.inr ⟨_,rfl⟩)
          rw[←g2 y q1 q2];(first|exact bn|fail)
         ·(repeat refine Alt.mk ?_)
          exact L _ YJ bc (fun y q1 q2 q3 q4 q5=>by(first|exact bn|fail)) aI (.inl rfl)
        ·refine bb (fun σ5=>σ5.n=R.n+1∧(∀y,y<R.n→σ5.get y=R.get y)) ?_ ?_
         ·exact⟨iF,fun y q1=>ak q1⟩
         rintro σ5 ⟨g1,g2⟩
         refine aw (Ff σ5 (σ1.n+1) (60800+2*k) j _ gb' YJ TX (DW.frame J g2) ab J J) ?_
         rintro x τ5 Uy ⟨ws3,gs3,rfl,n1,n2,n3,n4,n5⟩
         have lo:∀y,y<R.n→NE y j→NE y gb'→τ5.get y=R.get y:=fun y q1 q2 q3=>(n5 y J q2 q3).trans (g2 y q1)
         have t4:=(lo z J hjz.sw zV.sw).trans d4
         simp+contextual (maxSteps:=1000000) (disch:=first|exact dB|fail) [go_sem,int_lt,-Int.not_le,-Int.not_lt,-List.map_set,afa,e3,e4,e5,e6,e9,ft,t4]
         (repeat refine Alt.mk ?_)
         have l2:gs3.length=TX.length:=by
          have:=congrArg List.length n2
          rw[A_]at this
          simpa using this
         have P3:=DP.one y1 ab
         rw[←n1,←n2]at P3
         have lw2:ws3.length=YJ.length:=by
          have h1:=P3.w.len
          have h2:=DP.w.len
          simp only at h1 h2
          omega
         have SP:∀y,y<σ1.n+1→NE y j∧NE y gb':=fun y hy=>by simp only[NE];omega
         refine⟨k+1,J,J,⟨ws3,gs3,?_⟩,J⟩
         refine⟨(n3.outs (z:=z) bj hjz zV (n4 z J PH) (fun y q1 q2=>ai q2.ne)).le J J,P3,J,J,bo _ _,?_,?_,?_,?_,n4 z J PH,bj⟩
         ·rw[ai J,lo _ J aD aD];exact d5
         ·rw[ai J,lo _ J (SP _ J).1 (SP _ J).2];exact d3
         ·rw[ai J,lo _ J (SP _ J).1 (SP _ J).2];exact drd
         ·intro y q1
          rw[ai J,lo _ J (SP _ J).1 (SP _ J).2];exact Et y q1
       ·have uV:2*(H:Int)+80≤k:=J
        simp+contextual (maxSteps:=1000000) (disch:=first|exact dB|fail) [go_sem,int_lt,-Int.not_le,-Int.not_lt,-List.map_set,afa,e3,e4,e5,e6,e9,ft,d4,d5,d3,X0,dU,hlen,rU,kK,L0,uV]
        (repeat refine Alt.mk ?_)
        refine⟨fun _=>?_,fun _=>?_⟩
        ·(repeat refine Alt.mk ?_)
         refine bb (fun σ5=>σ5.n=R.n∧(∀y,y<R.n→NE y i→σ5.get y=R.get y)) ?_ ?_
         ·exact⟨by simp only[au,az],fun y y1 y2=>by(first|exact bn|fail)⟩
         rintro σ5 ⟨g1,g2⟩
         have g3:σ5.get gb'=some ⟨bJ TX,true⟩:=(g2 _ XF aD).trans X0
         have g4:σ5.get z=some ⟨[.sl j 0 YJ.length 1,.sl gb' 0 m' 26],true⟩:=(g2 _ J aD).trans d4
         have g5:σ5.get I.n=some ⟨gV ag.zero .al .al,true⟩:=(g2 _ J aD).trans d3
         have g6:gb'<σ5.n:=J
         refine aw (BE σ5 j YJ.length (.sl gb' 0 m' 26) _ YJ ((g2 _ X3 aD).trans Yc) J rfl DW.W J (by simp[U.lt,g6]) ivs) ?_
         rintro x τ5 _ ⟨rfl,rfl⟩
         simp+contextual (maxSteps:=1000000) (disch:=first|exact dB|fail) [go_sem,int_lt,-Int.not_le,-Int.not_lt,-List.map_set,afa,e3,e4,e5,e6,e9,ft,d4,d5,d3,X0,dU,hlen,rU,kK,g3,g4,g5]
         (repeat refine Alt.mk ?_)
         refine L _ (jE YJ _) bc (fun y q1 q2 q3 q4 q5=>?_) aI (.inr ⟨_,rfl⟩)
         rw[←g2 y q1 q2];(first|exact bn|fail)
        ·(repeat refine Alt.mk ?_)
         exact L _ YJ bc (fun y q1 q2 q3 q4 q5=>by(first|exact bn|fail)) aI (.inl rfl)
      ·exact Z2
      ·omega
   ·exact⟨J,P4⟩
end AH
namespace AH
open Go Go.Proofs Ho
set_option maxRecDepth 20000
set_option maxHeartbeats 16000000
theorem aaN(I:af)(a:U)(l0:List Int)(x0:bu .u8 I a l0)(r:∀x∈l0,0≤x∧x≤255):Fn Tryz.prog 4 [a] I fun x _=>x= .bool true:=by
 generalize hG:(fun(x:U) (_:af)=>x=U.bool true)=GG
 have fin:∀R:af,GG (.bool true) R:=fun R=>by rw[←hG]
 have rR:∀(b:Bool) (R:af),b=true→GG (.bool b) R:=fun b R h=>by rw[h];exact fin R
 clear hG
 have i0:=x0.aQ
 have le0:cC a l0.length:=x0.kB
 refine bA aid mixed Tryz.func4 (by kernel_rfl) rfl (by kernel_rfl) ?_
 by_cases c0:(l0.length:Int)≤1048576
 rotate_left
 ·simp+contextual (maxSteps:=1000000) (disch:=first|exact dB|fail) [go_sem,int_lt,-Int.not_le,-Int.not_lt,-List.map_set,aid,c0]
  (repeat refine Alt.mk ?_)
  exact fin _
 simp+contextual (maxSteps:=1000000) (disch:=first|exact dB|fail) [go_sem,int_lt,-Int.not_le,-Int.not_lt,-List.map_set,aid,c0]
 (repeat refine Alt.mk ?_)
 refine aw (aaY I a l0 x0 J r) ?_
 rintro x R oH ⟨j,ws,g,sv,pv,rfl,W,w1⟩
 obtain⟨hj,lj,hw,hW,Dh,hg,hs,hp,hq⟩:=W
 have i1:=hs.aQ
 have i2:=hp.aQ
 have jq:(g.snap.length:Int)≤70000:=hg.snap
 have eW:=hg.entry
 simp+contextual (maxSteps:=1000000) (disch:=first|exact dB|fail) [go_sem,int_lt,-Int.not_le,-Int.not_lt,-List.map_set,aid,c0]
 (repeat refine Alt.mk ?_)
 refine bb (fun σ1=>σ1.n=R.n+1∧(∀y,y<R.n→σ1.get y=R.get y)∧σ1.get R.n=some ⟨gV g sv pv,true⟩) ?_ ?_
 ·exact⟨iF,fun y hy=>ak hy,aI⟩
 rintro σ1 ⟨m1,m2,m3⟩
 refine aw (vV σ1 j ws g sv pv 70000 J J ((m2 _ hj).trans hw) hW Dh (hs.frame J m2) (hp.frame J m2) hg) ?_
 rintro x τ2 fz ⟨⟨q1,sv1,pv1,rfl,a1,a2,a3,a4,a5⟩,a6⟩
 have j1:=a4.aQ
 have j2:=a5.aQ
 have n3:=(a6 _ J).trans m3
 have nw:=(a6 _ J).trans ((m2 _ hj).trans hw)
 have Dq:=(hs.frame (R:=σ1) J m2).frame (R:=τ2) fz a6
 have kM:=(hp.frame (R:=σ1) J m2).frame (R:=τ2) fz a6
 have jT:=tb ws g
 have aap:((fe ws g).g.pc≠g.pc)→(check ws).2=true∧bW (check ws).1 g∧fe ws g=cW (check ws).1 ws g:=by
  intro hh
  unfold fe ib at hh⊢
  split at hh
  ·rename_i h
   split at hh
   ·exact absurd rfl hh
   ·rename_i h2
    exact⟨h.1,h.2,by rw[if_pos h,if_neg h2]⟩
  ·exact absurd rfl hh
 have hz:=fun σ3 h1 h2=>wJ σ3 j ws g sv pv 70000 J h1 h2 hW Dh
 obtain⟨⟨C,ok⟩,hC⟩:∃C,check ws=C:=⟨_,rfl⟩
 rw[hC]at aap jT
 simp only at aap jT
 have uS:g.pc=18→(fe ws g).g.pc≠18→ok=true∧bW C g∧(fe ws g).g.pc=if aL g.aT<g.aK∨(aL g.aT=g.aK∧C.bH<aG (at_ ws 1)-aG g.aT)then 19 else 9:=by
  intro e1 e2
  obtain⟨u1,u2,u3⟩:=aap J
  have h2:=lR (ws:=ws) (by rw[hC];exact u1)
  rw[hC]at h2
  have h3:=h2.1
  have h4:=h2.2
  unfold aM.ok at h3
  unfold aM.size at h4
  simp only at h3 h4
  exact⟨u1,u2,by rw[u3];exact aaQ e1 J⟩
 have lh:g.pc=11→((fe ws g).g.pc=12∨((fe ws g).g.pc=26∧(fe ws g).g.code=8∧g.oa≠g.slot))→ok=true∧See C g (fe ws g).g:=by
  intro e1 e2
  obtain⟨u1,u2,u3⟩:=aap J
  have hf:=GF.of u2
  rw[u3]at e2⊢
  exact⟨u1,aaP u2.1 e1 (hf.mK e1).1 e2⟩
 clear aap
 generalize fe ws g=O at*
 simp+contextual (maxSteps:=1000000) (disch:=first|exact dB|fail) [go_sem,int_lt,-Int.not_le,-Int.not_lt,-List.map_set,aid,c0,n3]
 (repeat refine Alt.mk ?_)
 refine bb (fun σ3=>σ3.n=τ2.n+1∧(∀y,y<τ2.n→σ3.get y=τ2.get y)∧σ3.get τ2.n=some ⟨gV O.g sv1 pv1,true⟩) ?_ ?_
 ·exact⟨iF,fun y hy=>ak hy,aI⟩
 rintro σ3 ⟨p1,p2,p3⟩
 refine aw (hz σ3 J ((p2 _ J).trans nw) (Dq.frame J p2) (kM.frame J p2) hg) ?_
 rintro x τ4 Qx ⟨⟨q2,VA,Vv,rfl,b1,b2,b3,b4,b5⟩,b6⟩
 have k1:=b4.aQ
 have k2:=b5.aQ
 have r3:=(b6 _ J).trans ((p2 _ J).trans n3)
 have r6:=(b6 _ J).trans p3
 have Vx:=(b6 _ J).trans ((p2 _ J).trans nw)
 have BX:=(a4.frame (R:=σ3) J p2).frame (R:=τ4) Qx b6
 have OR:=jT.len
 have Ul:j<τ4.n:=J
 have hz4:R.n<τ4.n:=J
 have hz6:τ2.n<τ4.n:=J
 have pK:bu .u64 τ4 (.sl j 0 ws.length 1) ws:=bf J Vx rfl
 clear a4 a5 b4 b5 hs hp Dq kM hz a6 b6 p2 m2 n3 nw a3 m3 w1 jT p3
 cases ok with
 |false=>
  simp+contextual (maxSteps:=1000000) (disch:=first|exact dB|fail) [go_sem,int_lt,-Int.not_le,-Int.not_lt,-List.map_set,aid,c0,r3,r6,hC,OR]
  (repeat refine Alt.mk ?_)
  exact fin _
 |true=>
  have uB:=lR (ws:=ws) (by rw[hC])
  rw[hC]at uB
  obtain⟨XV,uB⟩:=uB
  simp only at XV uB
  have cL:=XV
  unfold aM.ok at cL
  unfold aM.size at uB
  have agM:aM.ok ⟨C.am,C.ah,C.bH⟩:=XV
  have b3':¬(ws.length:Int)≤1:=J
  have c1':=aO (w:=at_ ws 1)
  generalize R.n=z4 at*
  generalize τ2.n=z6 at*
  by_cases hA:g.pc=18∧O.g.pc≠18
  ·obtain⟨eU,hnp⟩:=hA
   obtain⟨_,hP,ho⟩:=uS eU hnp
   have hf:=GF.of hP
   have s1:=hf.aX.1
   have s2:=hf.pw J
   have aay:(O.g.pc=18)=False:=eq_false hnp
   have v1:¬(ws.length:Int)≤3+g.aX:=J
   have v2:¬(ws.length:Int)≤3+C.am+g.aX:=J
   have w1:=bF hW (3+g.aX)
   have MO:O.g.pc=19∧lK g.aT g.aK (aG (at_ ws 1)) C.bH=false∨O.g.pc=9∧lK g.aT g.aK (aG (at_ ws 1)) C.bH=true:=by
    rw[ho]
    unfold lK
    split
    ·left;refine⟨rfl,?_⟩;simp;omega
    ·right;refine⟨rfl,?_⟩;simp;omega
   clear uS lh ho
   simp+contextual (maxSteps:=1000000) (disch:=first|exact dB|fail) [go_sem,int_lt,-Int.not_le,-Int.not_lt,-List.map_set,aid,c0,r3,r6,hC,OR,eU,aay,s1,s2,v1,v2,b3']
   (repeat refine Alt.mk ?_)
   refine rR _ _ ?_
   by_cases t1:aG (at_ ws (3+g.aX)) % 4=1
   ·by_cases t2:aG (at_ ws (3+g.aX))/4=g.aK
    ·by_cases t3:at_ ws (3+C.am+g.aX)=g.aT
     ·rcases MO with⟨e1,e2⟩|⟨e1,e2⟩
      ·simp[e1,e2]
      ·simp[e1,e2]
     ·simp[t3]
    ·simp[t2]
   ·simp[t1]
  ·by_cases hB:g.pc=11∧(O.g.pc=12∨(O.g.pc=26∧O.g.code=8∧g.oa≠g.slot))
   ·obtain⟨eU,hh⟩:=hB
    obtain⟨_,⟨o1,o2⟩,o3,o4,o5⟩:=lh eU hh
    unfold aP at o3
    have v1:¬(ws.length:Int)≤3+g.oa:=J
    have v2:¬(ws.length:Int)≤3+C.am+g.oa:=J
    have v4:¬(O.g.snap.length:Int)≤3+g.oa:=J
    have v5:¬(O.g.snap.length:Int)≤3+C.am+g.oa:=J
    have aaT:¬(O.g.snap.length:Int)≤1:=J
    clear uS lh hA
    rcases hh with e1|⟨e1,u1,u2⟩
    ·have e2:=(o5.resolve_right (fun h=>by omega)).2
     simp+contextual (maxSteps:=1000000) (disch:=first|exact dB|fail) [go_sem,int_lt,-Int.not_le,-Int.not_lt,-List.map_set,aid,c0,r3,r6,hC,OR,eU,e1,o1,o2,v1,v2,v4,v5,aaT,b3']
     (repeat refine Alt.mk ?_)
     refine rR _ _ ?_
     simp[o4,e2]
    ·have u2':(g.oa=g.slot)=False:=eq_false u2
     have e2:=(o5.resolve_left (fun h=>by omega)).2
     simp+contextual (maxSteps:=1000000) (disch:=first|exact dB|fail) [go_sem,int_lt,-Int.not_le,-Int.not_lt,-List.map_set,aid,c0,r3,r6,hC,OR,eU,e1,u1,u2',o1,o2,v1,v2,v4,v5,aaT,b3']
     (repeat refine Alt.mk ?_)
     refine rR _ _ ?_
     simp[e2]
   ·clear uS lh
    simp+contextual (maxSteps:=1000000) (disch:=first|exact dB|fail) [go_sem,int_lt,-Int.not_le,-Int.not_lt,-List.map_set,aid,c0,r3,r6,hC,OR]
    (repeat refine Alt.mk ?_)
    exact⟨fun h1 h2=>absurd ⟨h1,h2⟩ hA,fun _=>⟨fun h=>absurd h hB,fun _=>fin _⟩⟩
end AH
