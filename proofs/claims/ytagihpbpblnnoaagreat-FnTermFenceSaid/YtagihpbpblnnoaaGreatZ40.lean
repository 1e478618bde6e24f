import Derived.Test.YtagihpbpblnnoaaGreatZ32
import Derived.Test.YtagihpbpblnnoaaGreatZ39
import Derived.Test.YtagihpbpblnnoaaGreatZ38
import Derived.Test.YtagihpbpblnnoaaGreatZ00
set_option linter.all false
namespace AH
open Go Go.Proofs Ho
set_option maxRecDepth 20000
set_option maxHeartbeats 16000000
theorem wd{w:Int}(hw:ci w):aL w=201115↔w=pack (aG w % 8+8*(aG w/8 % 8)+64*(aG w/64)) 201115:=by
 have h:=aO (w:=w)
 constructor
 ·intro hs
  unfold pack bU
  unfold aL at hs
  unfold aG at*
  unfold ci at hw
  omega
 ·intro h'
  rw[h',je]
  unfold bU
  omega
theorem yf{ws:List Int}(hW:∀w∈ws,ci w):iV ws=check ws:=by
 have hw:=bF hW 0
 have hm:=wd hw
 unfold iV dm check whole
 by_cases h0:ws=[]
 ·subst h0
  simp
 simp only[h0,false_or,if_false]
 by_cases hs:aL (at_ ws 0)=201115
 ·have yD:=hm.1 hs
  simp only[hs,ne_eq,not_true_eq_false,if_false]
  by_cases cq:aM.ok ⟨aG (at_ ws 0) % 8,aG (at_ ws 0)/8 % 8,aG (at_ ws 0)/64⟩
  ·have Qv:at_ ws 0=gH ⟨aG (at_ ws 0) % 8,aG (at_ ws 0)/8 % 8,aG (at_ ws 0)/64⟩:=yD
   by_cases hl:(ws.length:Int)=(aM.mk (aG (at_ ws 0) % 8) (aG (at_ ws 0)/8 % 8) (aG (at_ ws 0)/64)).size
   ·rw[if_pos ⟨by simpa using cq,hl⟩,if_pos ⟨cq,Qv,hl⟩]
   ·rw[if_neg (fun h=>hl h.2),if_neg (fun h=>hl h.2.2)]
  ·rw[if_neg (fun h=>cq (by simpa using h.1)),if_neg (fun h=>cq h.1)]
 ·have Qv:¬at_ ws 0=gH ⟨aG (at_ ws 0) % 8,aG (at_ ws 0)/8 % 8,aG (at_ ws 0)/64⟩:=fun h=>hs (hm.2 h)
  simp only[hs,ne_eq,not_false_eq_true,if_true]
  rw[if_neg (fun h=>by cases h.1),if_neg (fun h=>Qv h.2.1)]
theorem vS(I:af)(j nw:Nat)(ws:List Int)(hj:j<I.n)(hw:I.get j=some ⟨ws.map (.int .u64),true⟩)(hl:ws.length=nw)(hW:∀w∈ws,ci w):Fn Tryz.prog 29 [.sl j 0 nw 1] I fun x R=>x= .cw [cV (check ws).1.am (check ws).1.ah (check ws).1.bH,.bool (check ws).2]∧R=I:=by
 subst hl
 have:=mi I j 0 ws (kZ.own hj hw) hW
 rw[yf hW]at this
 exact this
@[go_sem] def UV:=fun(I:af) j nw ws hj hw hl hW (aA:U→af→Prop)=>ar (k:=aA) (vS I j nw ws hj hw hl hW)
@[go_sem] def UU:=fun(I:af) (b_:Bool) (j nw:Nat) (ws:List Int) (hj:b_=true→ j<I.n) (hw:b_=true→ I.get j=some ⟨ws.map (.int .u64),true⟩) (hl:b_=true→ ws.length=nw) (hW:b_=true→ ∀w∈ws,ci w) (aA:U→af→Prop)=>aJ (k:=aA) b_ fun aY=>vS I j nw ws (hj aY) (hw aY) (hl aY) (hW aY)
theorem cC.aQ{v:U}{n:Nat}(h:cC v n):ey v:=by
 rcases h with⟨rfl,_⟩|⟨i,k,e,rfl⟩
 ·exact jV
 ·exact kO _ _ _ _
theorem xQ(I:af)(c:aM)(g:ag)(sv pv:U)(cb:Nat)(nH:I.get cb=some ⟨[.int .i64 c.am,.int .i64 c.ah,.int .i64 c.bH],true⟩)(mH:cb<I.n)(hs:cC sv g.snap.length)(hp:cC pv g.ax.length)(hc:0≤c.am∧c.am≤10∧0≤c.ah∧c.ah≤10):Fn Tryz.prog 121 [.agg (gV g sv pv),.ptr cb 0] I fun x R=>x= .bool (!decide (bW c g))∧R=I:=by
 refine ay aZ mixed Tryz.func121 (by kernel_rfl) rfl (by kernel_rfl) bE ?_
 have i1:=hs.aQ
 have i2:=hp.aQ
 simp+contextual (maxSteps:=1000000) (disch:=first|exact dB|fail) [go_sem,int_lt,-Int.not_le,-Int.not_lt,-List.map_set,nH]
@[go_sem] def abD:=fun(I:af) c g sv pv cb nH mH hs hp hc (aA:U→af→Prop)=>ar (k:=aA) (xQ I c g sv pv cb nH mH hs hp hc)
@[go_sem] def abC:=fun(I:af) (b_:Bool) (c:aM) (g:ag) (sv pv:U) (cb:Nat) (nH:b_=true→ I.get cb=some ⟨[.int .i64 c.am,.int .i64 c.ah,.int .i64 c.bH],true⟩) (mH:b_=true→ cb<I.n) (hs:b_=true→ cC sv g.snap.length) (hp:b_=true→ cC pv g.ax.length) (hc:b_=true→ 0≤c.am∧c.am≤10∧0≤c.ah∧c.ah≤10) (aA:U→af→Prop)=>aJ (k:=aA) b_ fun aY=>xQ I c g sv pv cb (nH aY) (mH aY) (hs aY) (hp aY) (hc aY)
theorem QR(I:af)(c:aM)(g:ag)(sv pv:U)(cb:Nat)(nH:I.get cb=some ⟨[.int .i64 c.am,.int .i64 c.ah,.int .i64 c.bH],true⟩)(mH:cb<I.n)(hs:cC sv g.snap.length)(hp:cC pv g.ax.length)(hc:0≤c.am∧c.am≤10∧0≤c.ah∧c.ah≤10)(aA:U→af→Prop):
 @dN Tryz.prog (.fn 121 [] [.ptr cb 0]) [.agg (gV g sv pv)] I ⟨aA⟩= @Alt (aA (.bool (!decide (bW c g))) I) ⟨@dN Tryz.prog (.fn 121 [] [.ptr cb 0]) [.agg (gV g sv pv)] I ⟨aA⟩⟩:=by
 refine propext ⟨fun hh=> .inr hh,fun hh=>?_⟩
 rcases hh with hh|hh
 ·rw[vx];exact(xQ I c g sv pv cb nH mH hs hp hc).eq hh
 ·exact hh
attribute [go_sem] QR
def Cf(c:aM)(gs:List (ag×U×U)):Prop:=∀g∈gs.map (·.1),bW c g
noncomputable instance(c:aM)(gs:List (ag×U×U)):Decidable (Cf c gs):=Classical.propDecidable _
theorem Ng(I:af)(c:aM)(cb gb m:Nat)(gs:List (ag×U×U))(nH:I.get cb=some ⟨[.int .i64 c.am,.int .i64 c.ah,.int .i64 c.bH],true⟩)(mH:cb<I.n)(hc:0≤c.am∧c.am≤10∧0≤c.ah∧c.ah≤10)(h0:gs.length=m)(hm:m≤1000)(h4:I.get gb=some ⟨bJ gs,true⟩)(hL:∀x∈gs,cC x.2.1 x.1.snap.length∧cC x.2.2 x.1.ax.length):
 Fn Tryz.prog 164 [.sl gb 0 m 26,.fn 121 [] [.ptr cb 0]] I fun x R=>∃r:Int,x= .int .i64 r∧(0≤r↔¬Cf c gs)∧R=I:=by
 generalize hG:(fun(x:U) (R:af)=>∃r:Int,x=U.int .i64 r∧(0≤r↔¬Cf c gs)∧R=I)=GG
 have fin:∀r:Int,(0≤r↔¬Cf c gs)→GG (.int .i64 r) I:=fun r h=>by rw[←hG];exact⟨r,rfl,h,rfl⟩
 clear hG
 refine bA aZ mixed Tryz.func164 (by kernel_rfl) rfl (by kernel_rfl) ?_
 simp+contextual (maxSteps:=1000000) (disch:=first|exact dB|fail) [go_sem,int_lt,-Int.not_le,-Int.not_lt,-List.map_set]
 (repeat refine Alt.mk ?_)
 refine aC (fun R_ env R=>∃(u:Nat),env 0= .sl gb 0 m 26∧env 1= .fn 121 [] [.ptr cb 0]∧env 7= .int .i64 m∧env 8= .int .i64 u∧I=R∧R_ (m-u)∧(u≤m∧(∀k,k<u→∀x,gs[k]? =some x→bW c x.1))) (by rintro R_ env R ⟨u,e0,e1,e7,e8,h_,cz,hp⟩;exact⟨_,cz,u,e0,e1,e7,e8,h_,rfl,hp⟩) ⟨0,aq,aq,aq,aq,rfl,trivial,?_⟩ ?_
 rotate_left
 rintro m_ env R ⟨u,e0,e1,e7,e8,rfl,rfl,hp⟩
 ·obtain⟨um,hI⟩:=hp
  by_cases hu:u<m
  ·have fH:¬m≤u:=J
   obtain⟨⟨g,sv,pv⟩,hx⟩:∃x,gs[u]? =some x:=⟨gs[u]'(by omega),aV⟩
   have dU:=dr hx
   have hlen:u*26+26≤(bJ gs).length:=by rw[dq];omega
   have nZ:=List.mem_of_getElem? hx
   obtain⟨l1,l3⟩:=hL _ nZ
   have i1:=l1.aQ
   have i2:=l3.aQ
   by_cases hg:bW c g
   ·simp+contextual (maxSteps:=1000000) (disch:=first|exact dB|fail) [go_sem,int_lt,-Int.not_le,-Int.not_lt,-List.map_set,e0,e1,e7,e8,h4,dU,hlen,hu,fH,hg,nH]
    (repeat refine Alt.mk ?_)
    refine⟨u+1,J,J,J,?_⟩
    intro k hk a dS dg Qn
    rcases Nat.lt_or_ge k u with rh|rh
    ·exact hI k rh _ Qn
    ·have:k=u:=J
     subst this
     rw[hx]at Qn
     cases Qn
     exact hg
   ·have rR:=fin u ⟨fun _ h=>hg (h g (List.mem_map.2 ⟨_,nZ,rfl⟩)),fun _=>by omega⟩
    simp+contextual (maxSteps:=1000000) (disch:=first|exact dB|fail) [go_sem,int_lt,-Int.not_le,-Int.not_lt,-List.map_set,e0,e1,e7,e8,h4,dU,hlen,hu,fH,hg,nH]
    (repeat refine Alt.mk ?_)
    exact rR
  ·have fH:m≤u:=J
   have rR:=fin (-1) ⟨fun h=>by omega,fun h=>absurd (fun g hg=>by
    obtain⟨x,hx,rfl⟩:=List.mem_map.1 hg
    obtain⟨k,hk,hkx⟩:=List.mem_iff_getElem.1 hx
    exact hI k J x (by rw[List.getElem?_eq_getElem hk,hkx])) h⟩
   simp+contextual (maxSteps:=1000000) (disch:=first|exact dB|fail) [go_sem,int_lt,-Int.not_le,-Int.not_lt,-List.map_set,e0,e1,e7,e8,hu,fH]
   (repeat refine Alt.mk ?_)
   exact rR
 ·exact⟨Nat.zero_le _,fun k hk=>by omega⟩
theorem Ad(I:af)(c:aM)(cb gb m:Nat)(gs:List (ag×U×U))(nH:I.get cb=some ⟨[.int .i64 c.am,.int .i64 c.ah,.int .i64 c.bH],true⟩)(mH:cb<I.n)(hc:0≤c.am∧c.am≤10∧0≤c.ah∧c.ah≤10)(h0:gs.length=m)(hm:m≤1000)(h4:I.get gb=some ⟨bJ gs,true⟩)(hL:∀x∈gs,cC x.2.1 x.1.snap.length∧cC x.2.2 x.1.ax.length):Fn Tryz.prog 120 [.sl gb 0 m 26,.fn 121 [] [.ptr cb 0]] I fun x R=>x= .bool (!decide (Cf c gs))∧R=I:=by
 refine ay aZ mixed Tryz.func120 (by kernel_rfl) rfl (by kernel_rfl) bE ?_
 generalize hQ:decide (Cf c gs)=Q
 have Jg:(Q=true)=Cf c gs:=by rw[←hQ];simp
 clear hQ
 simp+contextual (maxSteps:=1000000) (disch:=first|exact dB|fail) [go_sem,int_lt,-Int.not_le,-Int.not_lt,-List.map_set]
 (repeat refine Alt.mk ?_)
 refine aw (Ng I c cb gb m gs nH mH hc h0 hm h4 hL) ?_
 rintro x R hn ⟨r,rfl,hr,rfl⟩
 simp+contextual (maxSteps:=1000000) (disch:=first|exact dB|fail) [go_sem,int_lt,-Int.not_le,-Int.not_lt,-List.map_set]
 (repeat refine Alt.mk ?_)
 have yG:(0≤r)↔¬(Q=true):=by rw[Jg];exact hr
 show decide (0≤r)= !Q
 cases Q<;>simp at yG⊢ <;>omega
@[go_sem] def Yg:=fun(I:af) c cb gb m gs nH mH hc h0 hm h4 hL (aA:U→af→Prop)=>ar (k:=aA) (Ad I c cb gb m gs nH mH hc h0 hm h4 hL)
@[go_sem] def Yf:=fun(I:af) (b_:Bool) (c:aM) (cb gb m:Nat) (gs:List (ag×U×U)) (nH:b_=true→ I.get cb=some ⟨[.int .i64 c.am,.int .i64 c.ah,.int .i64 c.bH],true⟩) (mH:b_=true→ cb<I.n) (hc:b_=true→ 0≤c.am∧c.am≤10∧0≤c.ah∧c.ah≤10) (h0:b_=true→ gs.length=m) (hm:b_=true→ m≤1000) (h4:b_=true→ I.get gb=some ⟨bJ gs,true⟩) (hL:b_=true→ ∀x∈gs,cC x.2.1 x.1.snap.length∧cC x.2.2 x.1.ax.length) (aA:U→af→Prop)=>aJ (k:=aA) b_ fun aY=>Ad I c cb gb m gs (nH aY) (mH aY) (hc aY) (h0 aY) (hm aY) (h4 aY) (hL aY)
theorem Af(I:af)(f:U):Fn Tryz.prog 164 [.al,f] I fun x R=>x= .int .i64 (-1)∧R=I:=by
 refine ay aZ mixed Tryz.func164 (by kernel_rfl) rfl (by kernel_rfl) bE ?_
 simp+contextual (maxSteps:=1000000) (disch:=first|exact dB|fail) [go_sem,int_lt,-Int.not_le,-Int.not_lt,-List.map_set]
 (repeat refine Alt.mk ?_)
 refine⟨1,?_⟩
 simp+contextual (maxSteps:=1000000) (disch:=first|exact dB|fail) [go_sem,int_lt,-Int.not_le,-Int.not_lt,-List.map_set,px]
@[go_sem] def Yi:=fun(I:af) f (aA:U→af→Prop)=>ar (k:=aA) (Af I f)
@[go_sem] def Yh:=fun(I:af) (b_:Bool) (f:U) (aA:U→af→Prop)=>aJ (k:=aA) b_ fun aY=>Af I f
theorem vU(I:af)(f:U):Fn Tryz.prog 120 [.al,f] I fun x R=>x= .bool false∧R=I:=by
 refine ay aZ mixed Tryz.func120 (by kernel_rfl) rfl (by kernel_rfl) bE ?_
 simp+contextual (maxSteps:=1000000) (disch:=first|exact dB|fail) [go_sem,int_lt,-Int.not_le,-Int.not_lt,-List.map_set]
@[go_sem] def UX:=fun(I:af) f (aA:U→af→Prop)=>ar (k:=aA) (vU I f)
@[go_sem] def UW:=fun(I:af) (b_:Bool) (f:U) (aA:U→af→Prop)=>aJ (k:=aA) b_ fun aY=>vU I f
end AH
namespace AH
open Go Go.Proofs Ho
set_option maxRecDepth 20000
set_option maxHeartbeats 16000000
theorem oN(I:af)(v:U)(l:List Int)(hv:bu .u64 I v l)(hn:v≠ .al)(hl:(l.length:Int)≤1000000):
 Fn Tryz.prog 86 [v] I fun x R=>∃q,x= .sl q 0 l.length 1∧I.n≤q∧q<R.n∧R.get q=some ⟨l.map (.int .u64),true⟩∧∀y,y<I.n→R.get y=I.get y:=by
 refine bA aZ mixed Tryz.func86 (by kernel_rfl) rfl (by kernel_rfl) ?_
 rcases hv.ex with⟨rfl,_⟩|⟨i,k,rfl,hi⟩
 ·exact absurd rfl hn
 simp+contextual (maxSteps:=1000000) (disch:=first|exact dB|fail) [go_sem,int_lt,-Int.not_le,-Int.not_lt,-List.map_set,eB]
theorem l_(I:af) :Fn Tryz.prog 86 [.al] I fun x R=>x= .al∧R=I:=by
 refine ay aZ mixed Tryz.func86 (by kernel_rfl) rfl (by kernel_rfl) bE ?_
 simp+contextual (maxSteps:=1000000) (disch:=first|exact dB|fail) [go_sem,int_lt,-Int.not_le,-Int.not_lt,-List.map_set,eB]
@[go_sem] def SB:=fun(I:af) (aA:U→af→Prop)=>ar (k:=aA) (l_ I)
@[go_sem] def SA:=fun(I:af) (b_:Bool) (aA:U→af→Prop)=>aJ (k:=aA) b_ fun aY=>l_ I
theorem vT(I:af)(v:U)(l:List Int)(hv:bu .u64 I v l)(hl:(l.length:Int)≤1000000):
 Fn Tryz.prog 86 [v] I fun x R=>∃v',x=v'∧(bu .u64 R v' l∧ey v'∧((I.n≤cn v'∧cn v'<R.n)∨v'= .al)∧∀y,y<I.n→R.get y=I.get y):=by
 rcases hv.ex with⟨rfl,rfl⟩|⟨i,k,rfl,hi⟩
 ·refine(l_ I).use ?_
  rintro x R hn ⟨rfl,rfl⟩
  exact⟨_,rfl,.nil,jV,.inr rfl,fun y _=>rfl⟩
 ·refine(oN I _ l hv aV hl).use ?_
  rintro x R hn ⟨q,rfl,a1,a2,a3,a4⟩
  exact⟨_,rfl,bu.own a2 a3,kO _ _ _ _,.inl ⟨a1,a2⟩,a4⟩
theorem JR(I:af)(g:ag)(sv pv:U)(hs:bu .u64 I sv g.snap)(hp:bu .u64 I pv g.ax)(h1:(g.snap.length:Int)≤1000000)(h2:(g.ax.length:Int)≤1000000):
 Fn Tryz.prog 87 [.agg (gV g sv pv)] I fun x R=>∃dS dg,x= .agg (gV g dS dg)∧bu .u64 R dS g.snap∧bu .u64 R dg g.ax∧ey dS∧ey dg∧((I.n≤cn dS∧cn dS<R.n)∨dS= .al)∧((I.n≤cn dg∧cn dg<R.n)∨dg= .al)∧∀y,y<I.n→R.get y=I.get y:=by
 generalize hG:(fun(x:U) (R:af)=>∃dS dg,x=U.agg (gV g dS dg)∧bu .u64 R dS g.snap∧bu .u64 R dg g.ax∧ey dS∧ey dg∧((I.n≤cn dS∧cn dS<R.n)∨dS= .al)∧((I.n≤cn dg∧cn dg<R.n)∨dg= .al)∧∀y,y<I.n→R.get y=I.get y)=GG
 have i1:=hs.aQ
 have i2:=hp.aQ
 refine bA rl mixed Tryz.func87 (by kernel_rfl) rfl (by kernel_rfl) ?_
 simp+contextual (maxSteps:=1000000) (disch:=first|exact dB|fail) [go_sem,int_lt,-Int.not_le,-Int.not_lt,-List.map_set,rl]
 (repeat refine Alt.mk ?_)
 refine bb (fun σ1=>σ1.n=I.n+1+1∧(∀y,y<I.n→σ1.get y=I.get y)∧σ1.get I.n=some ⟨gV g sv pv,true⟩∧σ1.get (I.n+1)=some ⟨gV ag.zero .al .al,true⟩) ?_ ?_
 ·exact⟨by simp only[au,az],fp,aI,aI⟩
 rintro σ1 ⟨x1,x2,x3,x4⟩
 have qE:=hs.frame (R:=σ1) J x2
 have nK:=hp.frame (R:=σ1) J x2
 refine aw (vT σ1 sv g.snap qE h1) ?_
 rintro dS R hn ⟨_,rfl,a1,a2,a3,a4⟩
 have y3:=(a4 _ J).trans x3
 have y4:=(a4 _ J).trans x4
 have kM:=nK.frame (R:=R) J a4
 simp+contextual (maxSteps:=1000000) (disch:=first|exact dB|fail) [go_sem,int_lt,-Int.not_le,-Int.not_lt,-List.map_set,rl,y3,y4]
 (repeat refine Alt.mk ?_)
 refine aw (vT R pv g.ax kM h2) ?_
 rintro dg τ2 fz ⟨_,rfl,b1,b2,b3,b4⟩
 have z3:=(b4 _ J).trans y3
 have z4:=(b4 _ J).trans y4
 simp+contextual (maxSteps:=1000000) (disch:=first|exact dB|fail) [go_sem,int_lt,-Int.not_le,-Int.not_lt,-List.map_set,rl,z3,z4]
 (repeat refine Alt.mk ?_)
 refine⟨y3.symm,?_⟩
 rw[←hG]
 have e1:∀y,y<σ1.n→cn dS≠y∨dS= .al:=fun y hy=>a3.elim (fun h=> .inl J) .inr
 have e2:∀y,y<σ1.n→cn dg≠y∨dg= .al:=fun y hy=>b3.elim (fun h=> .inl J) .inr
 refine⟨dS,dg,rfl,((a1.frame fz b4).set (e1 _ J)).set (e1 _ J),(b1.set (e2 _ J)).set (e2 _ J),a2,b2,a3.elim (fun h=> .inl ?_) .inr,b3.elim (fun h=> .inl ?_) .inr,fun y hy=>?_⟩
 ·simp only[az];omega
 ·simp only[az];omega
 ·rw[ai J,ai J,b4 y J,a4 y J,x2 y hy]
structure HX(I:af)(q z n1:Nat)(m:Nat)(ws:List Int)(gs:List (ag×U×U))(u:Nat)(v:U)(l:List (ag×U×U))(R:af):Prop where
 lu:l.length=u
 um:u≤m
 vv:(v= .al∧l=[])∨(∃b,v= .sl b 0 l.length 26∧1≤l.length∧n1≤b∧b<R.n∧R.get b=some ⟨bJ l,true⟩∧kq b l)
 gw:R.get z=some ⟨[.sl q 0 ws.length 1,v],true⟩
 gq:R.get q=some ⟨ws.map (.int .u64),true⟩
 gr:R.get (I.n+1)=some ⟨[.al,.al],true⟩
 hk:∀y,y<I.n→R.get y=I.get y
 G:uC R n1 l
 mp:l.map (·.1)=(gs.take u).map (·.1)
 nn:n1≤R.n
 qz:I.n+1<q∧q<n1∧I.n+1<z∧z<n1∧NE q z
theorem HX.next{I:af}{q z n1 m:Nat}{ws:List Int}{gs:List (ag×U×U)}{u:Nat}{v:U}{l:List (ag×U×U)}{R τ2 τ3:af}(h:HX I q z n1 m ws gs u v l R){g:ag}{sv pv dS dg:U}{b:Nat}(hu:u<m)(hx:gs[u]? =some (g,sv,pv))
 (c1:R.n≤τ2.n) (c2:bu .u64 τ2 dS g.snap) (c3:bu .u64 τ2 dg g.ax) (c4:(R.n≤cn dS∧cn dS<τ2.n)∨dS= .al) (c5:(R.n≤cn dg∧cn dg<τ2.n)∨dg= .al) (c9:∀y,y<R.n→τ2.get y=R.get y)
 (s1:(g.snap.length:Int)≤1000000) (s2:(g.ax.length:Int)≤1000000) (zZ:τ2.n≤b) (yF:b<τ3.n) (d1:τ3.get b=some ⟨bJ (l++[(g,dS,dg)]),true⟩)
 (d2:τ3.get z=some ⟨[.sl q 0 ws.length 1,.sl b 0 (u+1) 26],true⟩) (d3:∀y,y<τ2.n→NE y z→(NE y (cn v)∨v= .al)→τ3.get y=τ2.get y):
 HX I q z n1 m ws gs (u+1) (.sl b 0 (u+1) 26) (l++[(g,dS,dg)]) τ3:=by
 obtain⟨lu,um,vv,gw,gq,gr,hk,G,mp,nn,qz⟩:=h
 have hv:∀y,y<n1→(NE y (cn v)∨v= .al):=by
  intro y hy
  rcases vv with⟨rfl,_⟩|⟨q',rfl,_,h1,_⟩
  ·exact .inr rfl
  ·exact .inl Es
 have oO:∀y,y<n1→NE y z→τ3.get y=R.get y:=fun y h1 h2=>by rw[d3 y J h2 (hv y h1),c9 y J]
 have BM:∀x∈l,fo x.2.1 (cn v)∧fo x.2.2 (cn v):=by
  rcases vv with⟨rfl,rfl⟩|⟨q',rfl,_,_,_,_,h1⟩
  ·intro x hx;cases hx
  ·exact h1
 have gR:v= .al∨cn v<R.n:=by
  rcases vv with⟨rfl,_⟩|⟨q',rfl,_,_,h1,_⟩
  ·exact .inl rfl
  ·exact .inr h1
 have X9:∀y,R.n≤y→(NE y (cn v)∨v= .al):=fun y hy=>by
  rcases gR with h|h
  ·exact .inr h
  ·exact .inl aD
 have hzz:NE q z:=qz.2.2.2.2
 have new:∀(w:U) (xs:List Int),bu .u64 τ2 w xs→((R.n≤cn w∧cn w<τ2.n)∨w= .al)→bu .u64 τ3 w xs∧(n1≤cn w∨w= .al)∧fo w b:=by
  intro w xs hw hc
  rcases hw.ex with⟨rfl,rfl⟩|⟨i,k,rfl,hi,Bk,hb,cL⟩
  ·exact⟨.nil,.inr rfl,.inr rfl⟩
  ·rcases hc with hc|hc
   ·simp only[cn]at hc
    refine⟨.mk' ⟨J,Bk,by rw[d3 i hi aD (X9 i hc.1)];exact hb,cL⟩,.inl il,.inl il⟩
   ·cases hc
 obtain⟨n1a,n1b,n1c⟩:=new _ _ c2 c4
 obtain⟨n2a,n2b,n2c⟩:=new _ _ c3 c5
 refine⟨by simp[lu],J,.inr ⟨b,by simp[lu],aV,J,yF,d1,?_⟩,d2,?_,?_,?_,?_,?_,J,qz⟩
 ·intro x hx
  rcases List.mem_append.1 hx with h|h
  ·exact⟨hJ (G x h).1 J,hJ (G x h).2.1 J⟩
  ·obtain rfl:=List.mem_singleton.1 h
   exact⟨n1c,n2c⟩
 ·rw[oO _ J hzz];exact gq
 ·rw[oO _ J aD];exact gr
 ·intro y hy
  rw[oO y J aD];exact hk y hy
 ·refine uC.snoc (uC.oO G J BM ?_) ?_
  ·intro y h1 h2 h3
   rw[d3 y J aD (.inl h3),c9 y h2]
  ·intro x hx
   obtain rfl:=List.mem_singleton.1 hx
   exact⟨n1a,n2a,s1,s2,n1b,n2b⟩
 ·rw[List.map_append,mp,List.take_add_one,hx]
  simp
end AH
