import Derived.Test.YtagihpbpblnnoaaGreatZ20
import Derived.Test.YtagihpbpblnnoaaGreatZ11
import Derived.Test.YtagihpbpblnnoaaGreatZ09
import Derived.Test.YtagihpbpblnnoaaGreatZ00
set_option linter.all false
namespace AH
open Go Go.Proofs Ho
set_option maxRecDepth 20000
set_option maxHeartbeats 16000000
structure Out(y p o i e h0 h1 h2 h3:Nat):Prop where
 p:NE y p
 o:NE y o
 i:NE y i
 e:NE y e
 h0:NE y h0
 h1:NE y h1
 h2:NE y h2
 h3:NE y h3
def fo(v:U)(y:Nat):Prop:=cn v≠y∨v= .al
structure B1(y:Nat)(pv k0 k1 k2 k3 ov iv ev:U):Prop where
 p:fo pv y
 h0:fo k0 y
 h1:fo k1 y
 h2:fo k2 y
 h3:fo k3 y
 o:fo ov y
 i:fo iv y
 e:fo ev y
theorem fb.mn{R:af}{b:Bk}{pv k0 k1 k2 k3 ov iv ev:U}(h:fb R b pv k0 k1 k2 k3 ov iv ev){j:Nat}{X:cT}(a:B1 j pv k0 k1 k2 k3 ov iv ev):fb (R.set j X) b pv k0 k1 k2 k3 ov iv ev:=
 ⟨h.p.set a.p,h.h0.set a.h0,h.h1.set a.h1,h.h2.set a.h2,h.h3.set a.h3,h.o.set a.o,h.i.set a.i,h.e.set a.e⟩
def iM(I R:af)(p o i e h0 h1 h2 h3:Nat)(b:Bk)(x:U):Prop:=∃pv k0 k1 k2 k3 ov iv ev,x=bV b pv k0 k1 k2 k3 ov iv ev∧fb R b pv k0 k1 k2 k3 ov iv ev∧(∀y,y<I.n→Out y p o i e h0 h1 h2 h3→R.get y=I.get y)∧I.n≤R.n∧
 ∀y,y<I.n→Out y p o i e h0 h1 h2 h3→B1 y pv k0 k1 k2 k3 ov iv ev
theorem iM.up{I σ1 R:af}{p o i e h0 h1 h2 h3:Nat}{b:Bk}{x:U}(h:iM σ1 R p o i e h0 h1 h2 h3 b x)(hq:∀y,y<I.n→σ1.get y=I.get y)(hn:I.n≤σ1.n){j:Nat}{X:cT}(hj:I.n≤j∧j<σ1.n)(ho:Out j p o i e h0 h1 h2 h3):iM I (R.set j X) p o i e h0 h1 h2 h3 b x:=by
 obtain⟨pv,k0,k1,k2,k3,ov,iv,ev,rfl,hv,hf,fz,ha⟩:=h
 refine⟨pv,k0,k1,k2,k3,ov,iv,ev,rfl,hv.mn (ha j hj.2 ho),fun y hy tA=>?_,bj,fun y hy tA=>ha y J tA⟩
 rw[ai J,hf y J tA,hq y hy]
theorem iY.frame{n0:Nat}{I R:af}{b:Bk}{p o i e h0 h1 h2 h3:Nat}(h:iY n0 I b p o i e h0 h1 h2 h3)(hf:∀y,y<I.n→R.get y=I.get y)(hn:I.n≤R.n):iY n0 R b p o i e h0 h1 h2 h3:=by
 obtain⟨lo,⟨a1,a2,a3,a4,a5,a6,a7,a8⟩,nd,gp,go,gi,ge,g0,g1,g2,g3⟩:=h
 exact⟨lo,J,nd,by rw[hf _ a1];exact gp,by rw[hf _ a2];exact go,by rw[hf _ a3];exact gi,by rw[hf _ a4];exact ge,by rw[hf _ a5];exact g0,by rw[hf _ a6];exact g1,by rw[hf _ a7];exact g2,by rw[hf _ a8];exact g3⟩
theorem iM.mk'{I R:af}{b:Bk}{x:U}{p' o' i' e' R1 qB vK Ez:Nat}(n0 p o i e h0 h1 h2 h3:Nat)(h:iY n0 R b p o i e h0 h1 h2 h3)(hx:x=bO b p o i e h0 h1 h2 h3)(hf:∀y,y<I.n→Out y p' o' i' e' R1 qB vK Ez→R.get y=I.get y)(hn:I.n≤R.n)
 (kL:∀y,y<I.n→Out y p' o' i' e' R1 qB vK Ez→Out y p o i e h0 h1 h2 h3):iM I R p' o' i' e' R1 qB vK Ez b x:=
 ⟨_,_,_,_,_,_,_,_,hx,h.v,hf,hn,fun y hy ho=>by
   obtain⟨a1,a2,a3,a4,a5,a6,a7,a8⟩:=kL y hy ho
   exact⟨.inl a1.sym,.inl a5.sym,.inl a6.sym,.inl a7.sym,.inl a8.sym,.inl a2.sym,.inl a3.sym,.inl a4.sym⟩⟩
theorem iM.r{n0:Nat}{I R:af}{b:Bk}{p o i e h0 h1 h2 h3:Nat}(h:iY n0 I b p o i e h0 h1 h2 h3)(hf:∀y,y<I.n→R.get y=I.get y)(hn:I.n≤R.n):iM I R p o i e h0 h1 h2 h3 b (bO b p o i e h0 h1 h2 h3):=
 iM.mk' n0 p o i e h0 h1 h2 h3 (h.frame hf hn) rfl (fun y hy _=>hf y hy) hn (fun _ _ h=>h)
theorem Hd(I:af)(b:Bk)(n0 p o i e h0 h1 h2 h3:Nat)(slot n:Int)(hb:iY n0 I b p o i e h0 h1 h2 h3)(hs:dW b)(ho:b.owner.length=b.ah.length*8)(hl:b.ah.length≤6)(hn:1≤n∧n≤4)(gG:0≤slot∧slot≤10):
 Fn Tryz.prog 232 [bO b p o i e h0 h1 h2 h3,.int .i64 slot,.int .i64 n] I fun x R=>∃y cd mG,x= .cw [y,.int .i64 cd,.int .i64 mG]∧((cf b.ah n<0∧cd=2∧mG=0∧iM I R p o i e h0 h1 h2 h3 b y)∨
  (0≤cf b.ah n∧cd=0∧mG=cf b.ah n*8∧iM I R p o i e h0 h1 h2 h3 {b with ah:=gD (put b.ah (cf b.ah n) (8+n)) (cf b.ah n+1) 7 (n.toNat-1),owner:=put b.owner (cf b.ah n*8) (slot+1)} y)):=by
 refine bA aZ mixed Tryz.func232 (by kernel_rfl) rfl (by kernel_rfl) ?_
 have eR:=hb
 have hv:=hb.v
 have BW:=hs
 obtain⟨lo,hi,⟨d1,d2,d3,d4,d5,d6,d7,d8,d9,d10,d11,d12,d13,d14,d15,d16,d17,d18,d19,d20,d21,d22,d23,d24,d25,d26,d27,d28⟩,gp,go,gi,ge,g0,g1,g2,g3⟩:=hb
 obtain⟨oP,oQ,oR,n8,qH,qI,qJ,qK⟩:=lo
 obtain⟨oC,gc,lI,mI,oD,oE,oF,oG⟩:=hi
 have hr:=ie b.ah n
 obtain⟨r,Gj⟩:∃r,cf b.ah n=r:=⟨_,rfl⟩
 rw[Gj]at hr
 by_cases oK:r<0
 ·have Dp:¬0≤r:=J
  simp+contextual (maxSteps:=1000000) (disch:=first|exact dB|fail) [go_sem,int_lt,-Int.not_le,-Int.not_lt,-List.map_set,Gj,oK,Dp]
  exact Alt.mk (iM.r eR mU bX)
 ·have Dp:¬(b.ah.length:Int)≤r:=J
  have O8:0≤r:=J
  have hr3:r.toNat<b.ah.length:=J
  simp+contextual (maxSteps:=1000000) (disch:=first|exact dB|fail) [go_sem,int_lt,-Int.not_le,-Int.not_lt,-List.map_set,Gj,oK,Dp,O8,gp,go]
  refine Alt.mk ?_
  refine aC (fun R_ env R=>∃(k:Nat),env 1= .int .i64 slot∧env 2= .int .i64 n∧env 3= .ptr I.n 0∧env 6= .ptr (I.n+1) 0∧env 9= .int .i64 r∧env 10= .int .i64 ((k:Int)+1)∧((I.set p ⟨(gD (put b.ah r (8+n)) (r+1) 7 k).map (.int .i64),true⟩).push ⟨[.int .i64 b.am,.sl p 0 b.ah.length 1,.sl h0 0 (b.aj 0).length 1,.sl h1 0 (b.aj 1).length 1,.sl h2 0 (b.aj 2).length 1,.sl h3 0 (b.aj 3).length 1,.sl o 0 b.owner.length 1,.sl i 0 b.cy.length 1,.sl e 0 b.ao.length 1],true⟩).push ⟨[.int .i64 0,.al,.al,.al,.al,.al,.al,.al,.al],true⟩=R∧R_ ((n-k).toNat)∧((k:Int)<n)) (by rintro R_ env R ⟨k,e1,e2,e3,e6,e9,em,h_,cz,hp⟩;exact⟨_,cz,k,e1,e2,e3,e6,e9,em,h_,rfl,hp⟩) ⟨0,aq,aq,aq,aq,aq,aq,rfl,trivial,?_⟩ ?_
  rotate_left
  rintro m_ env R ⟨k,e1,e2,e3,e6,e9,em,rfl,rfl,hp⟩
  ·have hlen:=eL (put b.ah r (8+n)) (r+1) 7 k
   rw[aF]at hlen
   have k1:0≤r+((k:Int)+1):=J
   have rX:=ho
   simp+contextual (maxSteps:=1000000) (disch:=first|exact dB|fail) [go_sem,int_lt,-Int.not_le,-Int.not_lt,-List.map_set,e1,e2,e3,e6,e9,em,hlen,k1,gp,go]
   refine⟨fun hk=>⟨k+1,J,?_,J,J⟩,fun hk=>?_⟩
   ·simp only[gD]
    rw[show r+1+(k:Int)=r+((k:Int)+1) by omega]
   ·have ek:n.toNat-1=k:=J
    rw[ek]
    refine iM.mk' n0 p o i e h0 h1 h2 h3 ⟨J,by simp only[au,az];omega,⟨d1,d2,d3,d4,d5,d6,d7,d8,d9,d10,d11,d12,d13,d14,d15,d16,d17,d18,d19,d20,d21,d22,d23,d24,d25,d26,d27,d28⟩,?_,?_,?_,?_,?_,?_,?_,?_⟩ (by simp[aF,eL]) zB bc lc<;>(first|exact bn|fail)
  ·omega
end AH
namespace AH
open Go Go.Proofs Ho
set_option maxRecDepth 20000
set_option maxHeartbeats 16000000
theorem ia(page kind:Int)(s:Nat)(hs:sz kind=s):dj page kind=(List.range (8/s)).map fun(j:Nat)=>page*8+(j:Int)*(s:Int):=by
 unfold dj;rw[hs];rfl
theorem NE.sw{a b:Nat}(h:NE a b):NE b a:=Ne.symm h
theorem Ea(I:af)(b:Bk)(n0 p o i e h0 h1 h2 h3:Nat)(page:Int)(hb:iY n0 I b p o i e h0 h1 h2 h3)(hs:dW b)(hp:0≤page∧page<b.ah.length)(hl:b.ah.length≤6)(hh:((b.aj 0).length:Int)≤1000):
 Fn Tryz.prog 234 [bO b p o i e h0 h1 h2 h3,.int .i64 page,.int .i64 0] I fun x R=>∃q,x=bO (bC b page 0) p o i e q h1 h2 h3∧iY n0 R (bC b page 0) p o i e q h1 h2 h3∧(∀y,y<I.n→Out y p o i e h0 h1 h2 h3→R.get y=I.get y)∧I.n≤R.n∧(q=h0∨I.n≤q):=by
 refine bA aZ mixed Tryz.func234 (by kernel_rfl) rfl (by kernel_rfl) ?_
 obtain⟨⟨oP,oQ,oR,n8,qH,qI,qJ,qK⟩,⟨oC,gc,lI,mI,oD,oE,oF,oG⟩,⟨d1,d2,d3,d4,d5,d6,d7,d8,d9,d10,d11,d12,d13,d14,d15,d16,d17,d18,d19,d20,d21,d22,d23,d24,d25,d26,d27,d28⟩,gp,go,gi,ge,g0,g1,g2,g3⟩:=id hb
 have p1:¬(b.ah.length:Int)≤page:=J
 have nK:=hp.1
 simp+contextual (maxSteps:=1000000) (disch:=first|exact dB|fail) [go_sem,int_lt,-Int.not_le,-Int.not_lt,-List.map_set,gp,p1,nK]
 refine aC (fun R_ env R=>∃(m:Nat),∃(q:Nat),∃(l:List Int),env 7= .int .i64 ((m:Int))∧env 1= .int .i64 page∧env 2= .int .i64 0∧env 3= .ptr I.n 0∧env 6= .ptr (I.n+1) 0∧R_ ((9-m))∧(m*1≤8)∧(q<R.n)∧(l=b.aj 0++(List.range m).map (fun(j:Nat)=>page*8+(j:Int)*1))∧(R.get q=some ⟨l.map (.int .i64),true⟩)∧(R.get I.n=some ⟨[.int .i64 b.am,.sl p 0 b.ah.length 1,.sl q 0 l.length 1,.sl h1 0 (b.aj 1).length 1,.sl h2 0 (b.aj 2).length 1,.sl h3 0 (b.aj 3).length 1,.sl o 0 b.owner.length 1,.sl i 0 b.cy.length 1,.sl e 0 b.ao.length 1],true⟩)∧(R.get (I.n+1)=some ⟨[.int .i64 0,.al,.al,.al,.al,.al,.al,.al,.al],true⟩)∧(R.get p=some ⟨(put b.ah page (0+1)).map (.int .i64),true⟩)∧((∀y,y<I.n→NE y p→NE y h0→R.get y=I.get y))∧(NE p q∧NE o q∧NE i q∧NE e q∧NE h1 q∧NE h2 q∧NE h3 q)∧(I.n+2≤R.n)∧(NE I.n q∧NE (I.n+1) q)∧(n0≤q)∧(q=h0∨I.n≤q)) (by rintro R_ env R ⟨m,q,l,e7,e1,e2,e3,e6,cz,hm,hq,df,gq,gb,gr,gP,hf,ne,hn,gF,tC,dG⟩;exact⟨_,cz,m,q,l,e7,e1,e2,e3,e6,rfl,hm,hq,df,gq,gb,gr,gP,hf,ne,hn,gF,tC,dG⟩) ⟨0,h0,b.aj 0,aq,aq,aq,aq,aq,trivial,?_,?_,?_,?_,?_,?_,?_,?_,?_,?_,?_,?_,?_⟩ ?_
 rotate_left 13
 rintro m_ env R ⟨m,q,l,e7,e1,e2,e3,e6,rfl,hm,hq,df,gq,gb,gr,gP,hf,ne,hn,gF,tC,dG⟩
 ·obtain⟨Vl,ne2,ne3,ne4,ne5,ne6,ne7⟩:=ne
  obtain⟨nf1,nf2⟩:=gF
  have tt:l.length≤1010:=by rw[df];simp;omega
  by_cases Jz:8≤(m:Int)
  rotate_left
  ·simp+contextual (maxSteps:=1000000) (disch:=first|exact dB|fail) [go_sem,int_lt,-Int.not_le,-Int.not_lt,-List.map_set,e7,e1,e2,e3,e6,gb,gq,Jz,HP,HQ,HS,HT]
   refine Alt.mk ⟨m+1,J,J,J,R.n+1,J,?_⟩
   (repeat' refine And.intro ?_ ?_)
   all_goals first
    |omega
    |assumption
    |(simp only[NE];omega)
    |(intro y y1 y2 y3;rw[if_neg IK];exact hf y y1 y2 y3)
    |(refine(if_pos rfl).trans ?_;rw[df];simp[List.range_succ];done)
    |(rw[df];simp[List.range_succ];done)
    |(rw[df];simp;omega)
  ·have e8:m=8:=J
   subst e8
   have hC:(bC b page 0).aj 0=l:=by rw[df];simp[bC,cE,ia page 0 1 rfl]
   simp+contextual (maxSteps:=1000000) (disch:=first|exact dB|fail) [go_sem,int_lt,-Int.not_le,-Int.not_lt,-List.map_set,e7,e1,e2,e3,e6,gb,gr,Jz]
   have ig:iY n0 (R.set (I.n+1) ⟨[.int .i64 b.am,.sl p 0 b.ah.length 1,.sl q 0 l.length 1,.sl h1 0 (b.aj 1).length 1,.sl h2 0 (b.aj 2).length 1,.sl h3 0 (b.aj 3).length 1,.sl o 0 b.owner.length 1,.sl i 0 b.cy.length 1,.sl e 0 b.ao.length 1],true⟩) (bC b page 0) p o i e q h1 h2 h3:=
    ⟨J,bj,jf,(ai J).trans gP,(ai J).trans ((hf o gc bN bN).trans go),(ai J).trans ((hf i lI bN bN).trans gi),(ai J).trans ((hf e mI bN bN).trans ge),(ai IL).trans IM,(ai J).trans ((hf h1 oE bN bN).trans g1),(ai J).trans ((hf h2 oF bN bN).trans g2),(ai J).trans ((hf h3 oG bN bN).trans g3)⟩
   have jn:∀y,y<I.n→Out y p o i e h0 h1 h2 h3→R.get y=I.get y:=fun y hy ho=>hf y hy ho.p ho.h0
   (repeat' refine And.intro ?_ ?_)
   all_goals first
    |exact ig
    |exact jn
    |rfl
    |omega
    |(rw[hC];done)
    |(simp[bC,aF,cE];done)
 all_goals first
  |omega
  |(simp;done)
  |(simp only[au,az];omega)
  |(first|exact bn|fail)
  |(intro y y1 y2 y3;(first|exact bn|fail))
  |(refine⟨?_,?_,?_,?_,?_,?_,?_⟩<;>first|assumption|exact NE.sw bZ)
  |(constructor<;>(simp only[NE];omega))
theorem Eb(I:af)(b:Bk)(n0 p o i e h0 h1 h2 h3:Nat)(page:Int)(hb:iY n0 I b p o i e h0 h1 h2 h3)(hs:dW b)(hp:0≤page∧page<b.ah.length)(hl:b.ah.length≤6)(hh:((b.aj 1).length:Int)≤1000):
 Fn Tryz.prog 234 [bO b p o i e h0 h1 h2 h3,.int .i64 page,.int .i64 1] I fun x R=>∃q,x=bO (bC b page 1) p o i e h0 q h2 h3∧iY n0 R (bC b page 1) p o i e h0 q h2 h3∧(∀y,y<I.n→Out y p o i e h0 h1 h2 h3→R.get y=I.get y)∧I.n≤R.n∧(q=h1∨I.n≤q):=by
 refine bA aZ mixed Tryz.func234 (by kernel_rfl) rfl (by kernel_rfl) ?_
 obtain⟨⟨oP,oQ,oR,n8,qH,qI,qJ,qK⟩,⟨oC,gc,lI,mI,oD,oE,oF,oG⟩,⟨d1,d2,d3,d4,d5,d6,d7,d8,d9,d10,d11,d12,d13,d14,d15,d16,d17,d18,d19,d20,d21,d22,d23,d24,d25,d26,d27,d28⟩,gp,go,gi,ge,g0,g1,g2,g3⟩:=id hb
 have p1:¬(b.ah.length:Int)≤page:=J
 have nK:=hp.1
 simp+contextual (maxSteps:=1000000) (disch:=first|exact dB|fail) [go_sem,int_lt,-Int.not_le,-Int.not_lt,-List.map_set,gp,p1,nK]
 refine aC (fun R_ env R=>∃(m:Nat),∃(q:Nat),∃(l:List Int),env 7= .int .i64 ((m:Int)*2)∧env 1= .int .i64 page∧env 2= .int .i64 1∧env 3= .ptr I.n 0∧env 6= .ptr (I.n+1) 0∧R_ ((9-m))∧(m*2≤8)∧(q<R.n)∧(l=b.aj 1++(List.range m).map (fun(j:Nat)=>page*8+(j:Int)*2))∧(R.get q=some ⟨l.map (.int .i64),true⟩)∧(R.get I.n=some ⟨[.int .i64 b.am,.sl p 0 b.ah.length 1,.sl h0 0 (b.aj 0).length 1,.sl q 0 l.length 1,.sl h2 0 (b.aj 2).length 1,.sl h3 0 (b.aj 3).length 1,.sl o 0 b.owner.length 1,.sl i 0 b.cy.length 1,.sl e 0 b.ao.length 1],true⟩)∧(R.get (I.n+1)=some ⟨[.int .i64 0,.al,.al,.al,.al,.al,.al,.al,.al],true⟩)∧(R.get p=some ⟨(put b.ah page (1+1)).map (.int .i64),true⟩)∧((∀y,y<I.n→NE y p→NE y h1→R.get y=I.get y))∧(NE p q∧NE o q∧NE i q∧NE e q∧NE h0 q∧NE h2 q∧NE h3 q)∧(I.n+2≤R.n)∧(NE I.n q∧NE (I.n+1) q)∧(n0≤q)∧(q=h1∨I.n≤q)) (by rintro R_ env R ⟨m,q,l,e7,e1,e2,e3,e6,cz,hm,hq,df,gq,gb,gr,gP,hf,ne,hn,gF,tC,dG⟩;exact⟨_,cz,m,q,l,e7,e1,e2,e3,e6,rfl,hm,hq,df,gq,gb,gr,gP,hf,ne,hn,gF,tC,dG⟩) ⟨0,h1,b.aj 1,aq,aq,aq,aq,aq,trivial,?_,?_,?_,?_,?_,?_,?_,?_,?_,?_,?_,?_,?_⟩ ?_
 rotate_left 13
 rintro m_ env R ⟨m,q,l,e7,e1,e2,e3,e6,rfl,hm,hq,df,gq,gb,gr,gP,hf,ne,hn,gF,tC,dG⟩
 ·obtain⟨Vl,ne2,ne3,ne4,ne5,ne6,ne7⟩:=ne
  obtain⟨nf1,nf2⟩:=gF
  have tt:l.length≤1010:=by rw[df];simp;omega
  by_cases Jz:8≤(m:Int)*2
  rotate_left
  ·simp+contextual (maxSteps:=1000000) (disch:=first|exact dB|fail) [go_sem,int_lt,-Int.not_le,-Int.not_lt,-List.map_set,e7,e1,e2,e3,e6,gb,gq,Jz,HP,HQ,HS,HT]
   refine Alt.mk ⟨m+1,J,J,J,R.n+1,J,?_⟩
   (repeat' refine And.intro ?_ ?_)
   all_goals first
    |omega
    |assumption
    |(simp only[NE];omega)
    |(intro y y1 y2 y3;rw[if_neg IK];exact hf y y1 y2 y3)
    |(refine(if_pos rfl).trans ?_;rw[df];simp[List.range_succ];done)
    |(rw[df];simp[List.range_succ];done)
    |(rw[df];simp;omega)
  ·have e8:m=4:=J
   subst e8
   have hC:(bC b page 1).aj 1=l:=by rw[df];simp[bC,cE,ia page 1 2 rfl]
   simp+contextual (maxSteps:=1000000) (disch:=first|exact dB|fail) [go_sem,int_lt,-Int.not_le,-Int.not_lt,-List.map_set,e7,e1,e2,e3,e6,gb,gr,Jz]
   have ig:iY n0 (R.set (I.n+1) ⟨[.int .i64 b.am,.sl p 0 b.ah.length 1,.sl h0 0 (b.aj 0).length 1,.sl q 0 l.length 1,.sl h2 0 (b.aj 2).length 1,.sl h3 0 (b.aj 3).length 1,.sl o 0 b.owner.length 1,.sl i 0 b.cy.length 1,.sl e 0 b.ao.length 1],true⟩) (bC b page 1) p o i e h0 q h2 h3:=
    ⟨J,bj,jf,(ai J).trans gP,(ai J).trans ((hf o gc bN bN).trans go),(ai J).trans ((hf i lI bN bN).trans gi),(ai J).trans ((hf e mI bN bN).trans ge),(ai J).trans ((hf h0 oD bN bN).trans g0),(ai IL).trans IM,(ai J).trans ((hf h2 oF bN bN).trans g2),(ai J).trans ((hf h3 oG bN bN).trans g3)⟩
   have jn:∀y,y<I.n→Out y p o i e h0 h1 h2 h3→R.get y=I.get y:=fun y hy ho=>hf y hy ho.p ho.h1
   (repeat' refine And.intro ?_ ?_)
   all_goals first
    |exact ig
    |exact jn
    |rfl
    |omega
    |(rw[hC];done)
    |(simp[bC,aF,cE];done)
 all_goals first
  |omega
  |(simp;done)
  |(simp only[au,az];omega)
  |(first|exact bn|fail)
  |(intro y y1 y2 y3;(first|exact bn|fail))
  |(refine⟨?_,?_,?_,?_,?_,?_,?_⟩<;>first|assumption|exact NE.sw bZ)
  |(constructor<;>(simp only[NE];omega))
theorem Ec(I:af)(b:Bk)(n0 p o i e h0 h1 h2 h3:Nat)(page:Int)(hb:iY n0 I b p o i e h0 h1 h2 h3)(hs:dW b)(hp:0≤page∧page<b.ah.length)(hl:b.ah.length≤6)(hh:((b.aj 2).length:Int)≤1000):
 Fn Tryz.prog 234 [bO b p o i e h0 h1 h2 h3,.int .i64 page,.int .i64 2] I fun x R=>∃q,x=bO (bC b page 2) p o i e h0 h1 q h3∧iY n0 R (bC b page 2) p o i e h0 h1 q h3∧(∀y,y<I.n→Out y p o i e h0 h1 h2 h3→R.get y=I.get y)∧I.n≤R.n∧(q=h2∨I.n≤q):=by
 refine bA aZ mixed Tryz.func234 (by kernel_rfl) rfl (by kernel_rfl) ?_
 obtain⟨⟨oP,oQ,oR,n8,qH,qI,qJ,qK⟩,⟨oC,gc,lI,mI,oD,oE,oF,oG⟩,⟨d1,d2,d3,d4,d5,d6,d7,d8,d9,d10,d11,d12,d13,d14,d15,d16,d17,d18,d19,d20,d21,d22,d23,d24,d25,d26,d27,d28⟩,gp,go,gi,ge,g0,g1,g2,g3⟩:=id hb
 have p1:¬(b.ah.length:Int)≤page:=J
 have nK:=hp.1
 simp+contextual (maxSteps:=1000000) (disch:=first|exact dB|fail) [go_sem,int_lt,-Int.not_le,-Int.not_lt,-List.map_set,gp,p1,nK]
 refine aC (fun R_ env R=>∃(m:Nat),∃(q:Nat),∃(l:List Int),env 7= .int .i64 ((m:Int)*4)∧env 1= .int .i64 page∧env 2= .int .i64 2∧env 3= .ptr I.n 0∧env 6= .ptr (I.n+1) 0∧R_ ((9-m))∧(m*4≤8)∧(q<R.n)∧(l=b.aj 2++(List.range m).map (fun(j:Nat)=>page*8+(j:Int)*4))∧(R.get q=some ⟨l.map (.int .i64),true⟩)∧(R.get I.n=some ⟨[.int .i64 b.am,.sl p 0 b.ah.length 1,.sl h0 0 (b.aj 0).length 1,.sl h1 0 (b.aj 1).length 1,.sl q 0 l.length 1,.sl h3 0 (b.aj 3).length 1,.sl o 0 b.owner.length 1,.sl i 0 b.cy.length 1,.sl e 0 b.ao.length 1],true⟩)∧(R.get (I.n+1)=some ⟨[.int .i64 0,.al,.al,.al,.al,.al,.al,.al,.al],true⟩)∧(R.get p=some ⟨(put b.ah page (2+1)).map (.int .i64),true⟩)∧((∀y,y<I.n→NE y p→NE y h2→R.get y=I.get y))∧(NE p q∧NE o q∧NE i q∧NE e q∧NE h0 q∧NE h1 q∧NE h3 q)∧(I.n+2≤R.n)∧(NE I.n q∧NE (I.n+1) q)∧(n0≤q)∧(q=h2∨I.n≤q)) (by rintro R_ env R ⟨m,q,l,e7,e1,e2,e3,e6,cz,hm,hq,df,gq,gb,gr,gP,hf,ne,hn,gF,tC,dG⟩;exact⟨_,cz,m,q,l,e7,e1,e2,e3,e6,rfl,hm,hq,df,gq,gb,gr,gP,hf,ne,hn,gF,tC,dG⟩) ⟨0,h2,b.aj 2,aq,aq,aq,aq,aq,trivial,?_,?_,?_,?_,?_,?_,?_,?_,?_,?_,?_,?_,?_⟩ ?_
 rotate_left 13
 rintro m_ env R ⟨m,q,l,e7,e1,e2,e3,e6,rfl,hm,hq,df,gq,gb,gr,gP,hf,ne,hn,gF,tC,dG⟩
 ·obtain⟨Vl,ne2,ne3,ne4,ne5,ne6,ne7⟩:=ne
  obtain⟨nf1,nf2⟩:=gF
  have tt:l.length≤1010:=by rw[df];simp;omega
  by_cases Jz:8≤(m:Int)*4
  rotate_left
  ·simp+contextual (maxSteps:=1000000) (disch:=first|exact dB|fail) [go_sem,int_lt,-Int.not_le,-Int.not_lt,-List.map_set,e7,e1,e2,e3,e6,gb,gq,Jz,HP,HQ,HS,HT]
   refine Alt.mk ⟨m+1,J,J,J,R.n+1,J,?_⟩
   (repeat' refine And.intro ?_ ?_)
   all_goals first
    |omega
    |assumption
    |(simp only[NE];omega)
    |(intro y y1 y2 y3;rw[if_neg IK];exact hf y y1 y2 y3)
    |(refine(if_pos rfl).trans ?_;rw[df];simp[List.range_succ];done)
    |(rw[df];simp[List.range_succ];done)
    |(rw[df];simp;omega)
  ·have e8:m=2:=J
   subst e8
   have hC:(bC b page 2).aj 2=l:=by rw[df];simp[bC,cE,ia page 2 4 rfl]
   simp+contextual (maxSteps:=1000000) (disch:=first|exact dB|fail) [go_sem,int_lt,-Int.not_le,-Int.not_lt,-List.map_set,e7,e1,e2,e3,e6,gb,gr,Jz]
   have ig:iY n0 (R.set (I.n+1) ⟨[.int .i64 b.am,.sl p 0 b.ah.length 1,.sl h0 0 (b.aj 0).length 1,.sl h1 0 (b.aj 1).length 1,.sl q 0 l.length 1,.sl h3 0 (b.aj 3).length 1,.sl o 0 b.owner.length 1,.sl i 0 b.cy.length 1,.sl e 0 b.ao.length 1],true⟩) (bC b page 2) p o i e h0 h1 q h3:=
    ⟨J,bj,jf,(ai J).trans gP,(ai J).trans ((hf o gc bN bN).trans go),(ai J).trans ((hf i lI bN bN).trans gi),(ai J).trans ((hf e mI bN bN).trans ge),(ai J).trans ((hf h0 oD bN bN).trans g0),(ai J).trans ((hf h1 oE bN bN).trans g1),(ai IL).trans IM,(ai J).trans ((hf h3 oG bN bN).trans g3)⟩
   have jn:∀y,y<I.n→Out y p o i e h0 h1 h2 h3→R.get y=I.get y:=fun y hy ho=>hf y hy ho.p ho.h2
   (repeat' refine And.intro ?_ ?_)
   all_goals first
    |exact ig
    |exact jn
    |rfl
    |omega
    |(rw[hC];done)
    |(simp[bC,aF,cE];done)
 all_goals first
  |omega
  |(simp;done)
  |(simp only[au,az];omega)
  |(first|exact bn|fail)
  |(intro y y1 y2 y3;(first|exact bn|fail))
  |(refine⟨?_,?_,?_,?_,?_,?_,?_⟩<;>first|assumption|exact NE.sw bZ)
  |(constructor<;>(simp only[NE];omega))
theorem Ed(I:af)(b:Bk)(n0 p o i e h0 h1 h2 h3:Nat)(page:Int)(hb:iY n0 I b p o i e h0 h1 h2 h3)(hs:dW b)(hp:0≤page∧page<b.ah.length)(hl:b.ah.length≤6)(hh:((b.aj 3).length:Int)≤1000):
 Fn Tryz.prog 234 [bO b p o i e h0 h1 h2 h3,.int .i64 page,.int .i64 3] I fun x R=>∃q,x=bO (bC b page 3) p o i e h0 h1 h2 q∧iY n0 R (bC b page 3) p o i e h0 h1 h2 q∧(∀y,y<I.n→Out y p o i e h0 h1 h2 h3→R.get y=I.get y)∧I.n≤R.n∧(q=h3∨I.n≤q):=by
 refine bA aZ mixed Tryz.func234 (by kernel_rfl) rfl (by kernel_rfl) ?_
 obtain⟨⟨oP,oQ,oR,n8,qH,qI,qJ,qK⟩,⟨oC,gc,lI,mI,oD,oE,oF,oG⟩,⟨d1,d2,d3,d4,d5,d6,d7,d8,d9,d10,d11,d12,d13,d14,d15,d16,d17,d18,d19,d20,d21,d22,d23,d24,d25,d26,d27,d28⟩,gp,go,gi,ge,g0,g1,g2,g3⟩:=id hb
 have p1:¬(b.ah.length:Int)≤page:=J
 have nK:=hp.1
 simp+contextual (maxSteps:=1000000) (disch:=first|exact dB|fail) [go_sem,int_lt,-Int.not_le,-Int.not_lt,-List.map_set,gp,p1,nK]
 refine aC (fun R_ env R=>∃(m:Nat),∃(q:Nat),∃(l:List Int),env 7= .int .i64 ((m:Int)*8)∧env 1= .int .i64 page∧env 2= .int .i64 3∧env 3= .ptr I.n 0∧env 6= .ptr (I.n+1) 0∧R_ ((9-m))∧(m*8≤8)∧(q<R.n)∧(l=b.aj 3++(List.range m).map (fun(j:Nat)=>page*8+(j:Int)*8))∧(R.get q=some ⟨l.map (.int .i64),true⟩)∧(R.get I.n=some ⟨[.int .i64 b.am,.sl p 0 b.ah.length 1,.sl h0 0 (b.aj 0).length 1,.sl h1 0 (b.aj 1).length 1,.sl h2 0 (b.aj 2).length 1,.sl q 0 l.length 1,.sl o 0 b.owner.length 1,.sl i 0 b.cy.length 1,.sl e 0 b.ao.length 1],true⟩)∧(R.get (I.n+1)=some ⟨[.int .i64 0,.al,.al,.al,.al,.al,.al,.al,.al],true⟩)∧(R.get p=some ⟨(put b.ah page (3+1)).map (.int .i64),true⟩)∧((∀y,y<I.n→NE y p→NE y h3→R.get y=I.get y))∧(NE p q∧NE o q∧NE i q∧NE e q∧NE h0 q∧NE h1 q∧NE h2 q)∧(I.n+2≤R.n)∧(NE I.n q∧NE (I.n+1) q)∧(n0≤q)∧(q=h3∨I.n≤q)) (by rintro R_ env R ⟨m,q,l,e7,e1,e2,e3,e6,cz,hm,hq,df,gq,gb,gr,gP,hf,ne,hn,gF,tC,dG⟩;exact⟨_,cz,m,q,l,e7,e1,e2,e3,e6,rfl,hm,hq,df,gq,gb,gr,gP,hf,ne,hn,gF,tC,dG⟩) ⟨0,h3,b.aj 3,aq,aq,aq,aq,aq,trivial,?_,?_,?_,?_,?_,?_,?_,?_,?_,?_,?_,?_,?_⟩ ?_
 rotate_left 13
 rintro m_ env R ⟨m,q,l,e7,e1,e2,e3,e6,rfl,hm,hq,df,gq,gb,gr,gP,hf,ne,hn,gF,tC,dG⟩
 ·obtain⟨Vl,ne2,ne3,ne4,ne5,ne6,ne7⟩:=ne
  obtain⟨nf1,nf2⟩:=gF
  have tt:l.length≤1010:=by rw[df];simp;omega
  by_cases Jz:8≤(m:Int)*8
  rotate_left
  ·simp+contextual (maxSteps:=1000000) (disch:=first|exact dB|fail) [go_sem,int_lt,-Int.not_le,-Int.not_lt,-List.map_set,e7,e1,e2,e3,e6,gb,gq,Jz,HP,HQ,HS,HT]
   refine Alt.mk ⟨m+1,J,J,J,R.n+1,J,?_⟩
   (repeat' refine And.intro ?_ ?_)
   all_goals first
    |omega
    |assumption
    |(simp only[NE];omega)
    |(intro y y1 y2 y3;rw[if_neg IK];exact hf y y1 y2 y3)
    |(refine(if_pos rfl).trans ?_;rw[df];simp[List.range_succ];done)
    |(rw[df];simp[List.range_succ];done)
    |(rw[df];simp;omega)
  ·have e8:m=1:=J
   subst e8
   have hC:(bC b page 3).aj 3=l:=by rw[df];simp[bC,cE,ia page 3 8 rfl]
   simp+contextual (maxSteps:=1000000) (disch:=first|exact dB|fail) [go_sem,int_lt,-Int.not_le,-Int.not_lt,-List.map_set,e7,e1,e2,e3,e6,gb,gr,Jz]
   have ig:iY n0 (R.set (I.n+1) ⟨[.int .i64 b.am,.sl p 0 b.ah.length 1,.sl h0 0 (b.aj 0).length 1,.sl h1 0 (b.aj 1).length 1,.sl h2 0 (b.aj 2).length 1,.sl q 0 l.length 1,.sl o 0 b.owner.length 1,.sl i 0 b.cy.length 1,.sl e 0 b.ao.length 1],true⟩) (bC b page 3) p o i e h0 h1 h2 q:=
    ⟨J,bj,jf,(ai J).trans gP,(ai J).trans ((hf o gc bN bN).trans go),(ai J).trans ((hf i lI bN bN).trans gi),(ai J).trans ((hf e mI bN bN).trans ge),(ai J).trans ((hf h0 oD bN bN).trans g0),(ai J).trans ((hf h1 oE bN bN).trans g1),(ai J).trans ((hf h2 oF bN bN).trans g2),(ai IL).trans IM⟩
   have jn:∀y,y<I.n→Out y p o i e h0 h1 h2 h3→R.get y=I.get y:=fun y hy ho=>hf y hy ho.p ho.h3
   (repeat' refine And.intro ?_ ?_)
   all_goals first
    |exact ig
    |exact jn
    |rfl
    |omega
    |(rw[hC];done)
    |(simp[bC,aF,cE];done)
 all_goals first
  |omega
  |(simp;done)
  |(simp only[au,az];omega)
  |(first|exact bn|fail)
  |(intro y y1 y2 y3;(first|exact bn|fail))
  |(refine⟨?_,?_,?_,?_,?_,?_,?_⟩<;>first|assumption|exact NE.sw bZ)
  |(constructor<;>(simp only[NE];omega))
end AH
namespace AH
open Go Go.Proofs Ho
set_option maxRecDepth 20000
set_option maxHeartbeats 16000000
theorem adw:bR Tryz.prog 36=some (1,8,[.int .i64 0]):=by simp only[go_sem]
theorem KP{I:af}{j:Nat}{B:cT}(h:I.get j=some B):I.set j B=I:=by
 cases I
 unfold af.set
 congr 1
 funext q
 dsimp only at h⊢
 split
 ·rename_i e;rw[e,h]
 ·rfl
theorem KJ(ys:List Int)(i:Nat)(v:Int)(h:i<ys.length):(put ys i v).take (i+1)=ys.take i++[v]:=by
 unfold put
 rw[Int.toNat_natCast,List.take_add_one,List.getElem?_set_self h,List.take_set_of_le (Nat.le_refl i)]
 rfl
theorem KH(ys:List Int)(i j:Nat)(v:Int)(h:i<j):(put ys i v).drop j=ys.drop j:=by
 unfold put
 rw[Int.toNat_natCast,List.drop_set,if_pos h]
theorem vF{xs ys:List Int}{j:Nat}(h:ys.drop j=xs.drop j):ys.drop (j+1)=xs.drop (j+1):=by
 rw[←List.drop_drop,←List.drop_drop,h]
theorem CZ{xs ys:List Int}{j:Nat}(h:ys.drop j=xs.drop j):at_ ys j=at_ xs j:=by
 unfold at_
 rw[List.getD_eq_getElem?_getD,List.getD_eq_getElem?_getD,Int.toNat_natCast]
 have h1:(ys.drop j)[0]? =(xs.drop j)[0]? :=by rw[h]
 rw[List.getElem?_drop,List.getElem?_drop,Nat.add_zero]at h1
 rw[h1]
theorem Nd(I:af)(q:Nat)(f:U)(xs:List Int)(pr:Int→Bool)(hq:q<I.n)(gq:I.get q=some ⟨xs.map (.int .i64),true⟩)(hl:xs.length≤1000000)(hf:∀R:af,(∀y,NE y q→R.get y=I.get y)→R.n=I.n→B6 f pr R):
 Fn Tryz.prog 280 [.sl q 0 xs.length 1,f] I fun x R=>∃ys:List Int,x= .sl q 0 (xs.filter fun x=> !pr x).length 1∧R=I.set q ⟨ys.map (.int .i64),true⟩∧ys.length=xs.length∧ys.take (xs.filter fun x=> !pr x).length=xs.filter fun x=> !pr x:=by
 generalize hG:(fun(x:U) (R:af)=>∃ys:List Int,x=U.sl q 0 (xs.filter fun x=> !pr x).length 1∧R=I.set q ⟨ys.map (.int .i64),true⟩∧ys.length=xs.length∧ys.take (xs.filter fun x=> !pr x).length=xs.filter fun x=> !pr x)=GG
 have vq:bu .i64 I (.sl q 0 xs.length 1) xs:=bf hq gq rfl
 refine bA aZ mixed Tryz.func280 (by kernel_rfl) rfl (by kernel_rfl) ?_
 simp+contextual (maxSteps:=1000000) (disch:=first|exact dB|fail) [go_sem,int_lt,-Int.not_le,-Int.not_lt,-List.map_set]
 (repeat refine Alt.mk ?_)
 refine aw (Ag I _ f xs pr vq hl (hf I (fun _ _=>rfl) rfl)) ?_
 rintro x R hn ⟨rfl,hτ⟩
 have QQ:=hτ.symm
 subst QQ
 have hr:=An pr xs 0 J
 generalize ng pr xs 0=r at*
 rcases hr with⟨rfl,tu⟩|⟨r1,r2,_,r4,r5⟩
 ·have pF:(xs.filter fun x=> !pr x)=xs:=List.filter_eq_self.2 fun x hx=>by
   have:=List.any_eq_false.1 tu x hx
   simpa using this
  have fi:GG (.sl q 0 xs.length 1) I:=by rw[←hG,pF];exact⟨xs,rfl,(KP gq).symm,rfl,aV⟩
  clear hG
  simp+contextual (maxSteps:=1000000) (disch:=first|exact dB|fail) [go_sem,int_lt,-Int.not_le,-Int.not_lt,-List.map_set]
  (repeat refine Alt.mk ?_)
  exact fi
 obtain⟨m,rfl⟩:∃m:Nat,r=m:=⟨r.toNat,J⟩
 have ig:∀(ys:List Int),ys.length=xs.length→ys.take (xs.filter fun x=> !pr x).length=(xs.filter fun x=> !pr x)→GG (.sl q 0 (xs.filter fun x=> !pr x).length 1) (I.set q ⟨ys.map (.int .i64),true⟩):=fun ys h1 h2=>by rw[←hG];exact⟨ys,rfl,rfl,h1,h2⟩
 clear hG
 have X6:¬(m:Int)= -1:=J
 simp+contextual (maxSteps:=1000000) (disch:=first|exact dB|fail) [go_sem,int_lt,-Int.not_le,-Int.not_lt,-List.map_set,X6]
 (repeat refine Alt.mk ?_)
 refine aC (fun R_ env R=>∃(i j:Nat),∃(ys:List Int),env 0= .sl q 0 xs.length 1∧env 1=f∧env 5= .int .i64 i∧env 6= .int .i64 j∧R_ (xs.length-j)∧(i<j∧j≤xs.length)∧(R=I.set q ⟨ys.map (.int .i64),true⟩)∧(ys.length=xs.length)∧(ys.take i=((xs.take j).filter fun x=> !pr x))∧(ys.drop j=xs.drop j)) (by rintro R_ env R ⟨i,j,ys,e0,e1,e5,e6,cz,gW,hτ,JN,HJ,UO⟩;exact⟨_,cz,i,j,ys,e0,e1,e5,e6,rfl,gW,hτ,JN,HJ,UO⟩) ⟨m,m+1,xs,aq,aq,aq,aq,trivial,?_,?_,?_,?_,?_⟩ ?_
 rotate_left 5
 rintro m_ env R ⟨i,j,ys,e0,e1,e5,e6,rfl,gW,hτ,JN,HJ,UO⟩
 ·subst hτ
  have Ug:=hf (I.set q ⟨ys.map (.int .i64),true⟩) (fun y hy=>ai hy.ne) rfl
  unfold B6 at Ug
  have vy:bu .i64 (I.set q ⟨ys.map (.int .i64),true⟩) (.sl q 0 xs.length 1) ys:=bf hq aI JN
  by_cases hj:j<xs.length
  ·have Uk:¬xs.length≤j:=J
   have hej:=CZ UO
   have BY:(xs.take (j+1)).filter (fun x=> !pr x)=((xs.take j).filter fun x=> !pr x)++(if pr (at_ xs j)=true then []else [at_ xs j]):=by
    have:=take_at (xs:=xs) (i:=j) J J
    rw[show((j:Int)+1).toNat=j+1 by omega,Int.toNat_natCast]at this
    rw[this,List.filter_append]
    congr 1
    by_cases h:pr (at_ xs j)=true<;>simp[h]
   by_cases hp:pr (at_ xs j)=true
   ·rw[if_pos hp,List.append_nil]at BY
    clear ig hf
    simp+contextual (maxSteps:=1000000) (disch:=first|exact dB|fail) [go_sem,int_lt,-Int.not_le,-Int.not_lt,-List.map_set,e0,e1,e5,e6,Uk,hej,Ug,hp,JN]
    (repeat refine Alt.mk ?_)
    exact⟨i,rfl,j+1,J,J,J,J,ys,rfl,JN,by rw[HJ,BY],vF UO⟩
   ·rw[if_neg hp]at BY
    have hp':pr (at_ xs j)=false:=by simpa using hp
    clear ig hf
    simp+contextual (maxSteps:=1000000) (disch:=first|exact dB|fail) [go_sem,int_lt,-Int.not_le,-Int.not_lt,-List.map_set,e0,e1,e5,e6,Uk,hej,Ug,hp',gq,JN]
    (repeat refine Alt.mk ?_)
    exact⟨i+1,J,j+1,J,J,J,J,put ys i (at_ xs j),rfl,by rw[aF,JN],by rw[KJ _ _ _ J,HJ,BY],by rw[KH _ _ _ _ J];exact vF UO⟩
  ·have Uk:xs.length≤j:=J
   have hje:j=xs.length:=J
   subst hje
   rw[List.take_length]at HJ
   have og:=B8 (P:=Tryz.prog) (i:=q) (k:=i) (n:=xs.length-i) adw (bo (I:=I) q ⟨ys.map (.int .i64),true⟩) J
   have uU:(xs.filter fun x=> !pr x).length=i:=by rw[←HJ,List.length_take];omega
   rw[uU,HJ.symm]at ig
   simp+contextual (maxSteps:=1000000) (disch:=first|exact dB|fail) [go_sem,int_lt,-Int.not_le,-Int.not_lt,-List.map_set,e0,e1,e5,e6,Uk,og,JN]
   (repeat refine Alt.mk ?_)
   have:=ig (ys.take i++List.replicate (xs.length-i) 0++ys.drop (i+(xs.length-i))) bX (by rw[List.append_assoc,List.take_append_of_le_length IJ,List.take_take,Nat.min_self])
   refine Eq.mp (congrArg (GG _) (congrArg (fun c=>I.set q ⟨c,true⟩) ?_)) this
   rw[show i+(xs.length-i)=xs.length by omega]
   simp only[List.map_append,List.map_take,List.map_drop,List.map_replicate,List.append_assoc]
 ·omega
 ·exact(KP gq).symm
 ·rfl
 ·have:=take_at (xs:=xs) (i:=m) J J
  rw[show((m:Int)+1).toNat=m+1 by omega,Int.toNat_natCast]at this
  have hx:xs[m]? =some (at_ xs m):=by simp[at_,show m<xs.length by omega]
  have hp:=r5 (at_ xs m) (by rw[show((m:Int)-0).toNat=m by omega];exact hx)
  have pF:(xs.take m).filter (fun x=> !pr x)=xs.take m:=List.filter_eq_self.2 fun x hx=>by
   obtain⟨j,hj⟩:=List.mem_iff_getElem?.1 hx
   rw[List.getElem?_take]at hj
   split at hj
   ·have:=r4 j J x hj;simp[this]
   ·cases hj
  rw[this,List.filter_append,pF]
  simp[hp]
 ·rfl
end AH
namespace AH
open Go Go.Proofs Ho
set_option maxRecDepth 20000
set_option maxHeartbeats 16000000
theorem DK(c:aM)(g:ag):fg c g↔(g.own=false∨(23≤g.pc∧g.pc≤25))∧(¬g.pc=11∨(g.snap.length:Int)=g.gk∧g.gk<aP c)∧(¬g.pc=12∨(g.snap.length:Int)=aP c∧0≤g.oa∧g.oa<c.am)∧
 (¬(16≤g.pc∧g.pc≤21)∨g.aX<c.am)∧(¬(g.pc=13∨g.pc=14)∨g.gk≤g.ax.length)∧(¬(22≤g.pc∧g.pc≤24)∨1≤g.gk∧g.gk≤g.gn∧g.aX<c.am∧(g.own=false∨g.gn=g.ax.length)):=by
 unfold fg
 grind
theorem JC(c:aM):aP c=7+2*c.am+17*c.ah:=by rfl
theorem xT{c:aM}{g:ag}(cq:c.ok):bW c g↔(g.busy=true↔g.pc≠0)∧(g.aH=g.slot∨g.busy=false)∧
 (0≤g.slot∧g.slot<c.am∧0≤g.ao∧g.ao≤4095∧0≤g.next∧g.next≤4095∧0≤g.pc∧g.pc≤26∧0≤g.seq∧g.seq≤1000001∧0≤g.aX∧g.aX≤7∧0≤g.aK∧g.aK≤4095)∧
 (0≤g.gn∧g.gn≤20∧0≤g.gk∧g.gk≤7+2*c.am+17*c.ah∧(g.snap.length:Int)≤7+2*c.am+17*c.ah∧(g.ax.length:Int)≤20∧0≤g.time∧g.time≤1048575)∧
 (g.own=false∨(23≤g.pc∧g.pc≤25))∧(¬g.pc=11∨(g.snap.length:Int)=g.gk∧g.gk<7+2*c.am+17*c.ah)∧(¬g.pc=12∨(g.snap.length:Int)=7+2*c.am+17*c.ah∧0≤g.oa∧g.oa<c.am)∧
 (¬(16≤g.pc∧g.pc≤21)∨g.aX<c.am)∧(¬(g.pc=13∨g.pc=14)∨g.gk≤g.ax.length)∧(¬(22≤g.pc∧g.pc≤24)∨1≤g.gk∧g.gk≤g.gn∧g.aX<c.am∧(g.own=false∨g.gn=g.ax.length)):=by
 unfold bW fu
 rw[DK,JC]
 simp only[cq,true_and,and_assoc]
end AH
namespace AH
open Go Go.Proofs Ho
set_option maxRecDepth 20000
set_option maxHeartbeats 16000000
theorem U4(I:af)(c:aM)(g:ag)(sv pv:U)(hs:cC sv g.snap.length)(hp:cC pv g.ax.length)(hc:0≤c.am∧c.am≤10∧0≤c.ah∧c.ah≤10)(cq:c.ok)(hq:g.busy=true)(ho:g.own=true)(hn:g.gn=g.ax.length):
 Fn Tryz.prog 51 [cV c.am c.ah c.bH,.agg (gV g sv pv)] I fun x R=>x= .bool (decide (bW c g))∧R=I:=by
 refine ay aZ mixed Tryz.func51 (by kernel_rfl) rfl (by kernel_rfl) bE ?_
 have MQ:0≤c.am∧c.am≤1000:=J
 have Sf:0≤c.ah∧c.ah≤1000:=J
 generalize hQ:decide (bW c g)=Q
 have iB:aM.ok ⟨c.am,c.ah,c.bH⟩:=cq
 have Jg:Q=decide _:=hQ.symm.trans (decide_eq_decide.2 (xT cq))
 clear hQ
 simp+contextual (maxSteps:=1000000) (disch:=first|exact dB|fail) [go_sem,int_lt,-Int.not_le,-Int.not_lt,-List.map_set,cq,iB,hq,ho,hn]
 repeat' (first|refine Alt.mk ?_|refine And.intro ?_ ?_|intro _)
 all_goals(subst Jg;simp[hq,ho,hn]at* <;>first|omega|grind)
end AH
