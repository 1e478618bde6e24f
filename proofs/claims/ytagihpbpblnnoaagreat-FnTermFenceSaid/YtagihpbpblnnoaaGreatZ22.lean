import Derived.Test.YtagihpbpblnnoaaGreatZ21
import Derived.Test.YtagihpbpblnnoaaGreatZ00
set_option linter.all false
namespace AH
open Go Go.Proofs Ho
set_option maxRecDepth 20000
set_option maxHeartbeats 16000000
theorem NE.or{o j k n e:Nat}(h:NE o j):cn (.sl o k n e)≠j∨U.sl o k n e= .al:= .inl h
theorem NE.or'{o j k n e:Nat}(h:NE j o):cn (.sl o k n e)≠j∨U.sl o k n e= .al:= .inl (Ne.symm h)
theorem Mk{P:Program}{t:TypeId}{R:af}{q:Nat}{kk:IntKind}{v:U}{x:Int}{ys:List Int}(hv:bu kk R v ys)(hq:R.get q=some ⟨[.int kk x],true⟩)(hl:(ys.length:Int)≤1000000):
 cJ P t (.sl q 0 1 1) v R= @uL (bR P t) (.sl R.n 0 (ys.length+1) 1,(R.kill q).push ⟨(x::ys).map (.int kk),true⟩) ⟨cJ P t (.sl q 0 1 1) v R⟩:=by
 have:=Cx (P:=P) (t:=t) (xs:=[x]) (n:=1) hv hq rfl hl J
 rw[Nat.add_comm 1 ys.length]at this
 exact this
theorem iY.gS{n0:Nat}{R:af}{b:Bk}{p o i e h0 h1 h2 h3 j:Nat}(h:iY n0 R b p o i e h0 h1 h2 h3){X:cT}(hj:p≠j∧o≠j∧i≠j∧e≠j∧h0≠j∧h1≠j∧h2≠j∧h3≠j):iY n0 (R.set j X) b p o i e h0 h1 h2 h3:=by
 obtain⟨lo,hi,nd,gp,go,gi,ge,g0,g1,g2,g3⟩:=h
 obtain⟨j1,j2,j3,j4,j5,j6,j7,j8⟩:=hj
 exact⟨lo,hi,nd,by rw[ai j1];exact gp,by rw[ai j2];exact go,by rw[ai j3];exact gi,by rw[ai j4];exact ge,by rw[ai j5];exact g0,by rw[ai j6];exact g1,by rw[ai j7];exact g2,by rw[ai j8];exact g3⟩
theorem pX{L:List Int}{P u:Int}(h0:0≤u)(h1:u<L.length):(L.take (u+1).toNat).filter (fun x=> !decide (x/8=P))=(L.take u.toNat).filter (fun x=> !decide (x/8=P))++(if at_ L u/8=P then []else [at_ L u]):=by
 rw[take_at h0 h1,List.filter_append]
 congr 1
 by_cases h:at_ L u/8=P<;>simp[h]
theorem bb{P:Program}{f:U}{args:List U}{I:af}{k:U→af→Prop}(F:af→Prop)(h0:F I)(h:∀R,F R→ @dN P f args R ⟨k⟩): @dN P f args I ⟨k⟩:=h I h0
attribute [go_sem] Mk
theorem Of{b:Bk}(hb:cm b){p:Int}(hp:0≤p∧p<b.ah.length)(hk:ch (at_ b.ah p)<0)(h8:8<at_ b.ah p):p+(at_ b.ah p-8)≤b.ah.length:=by
 have h:=hb.2.2 p hp.1 hp.2
 unfold ic at h
 rw[if_neg J,if_neg J,if_neg J]at h
 exact h.1.2.2.1
theorem Hb(I:af)(b:Bk)(n0 p o i e h0 h1 h2 h3:Nat)(a:Int)(hb:iY n0 I b p o i e h0 h1 h2 h3)(hs:dW b)(di:cm b)(ha:0≤a∧a<b.owner.length)(hk:ch (at_ b.ah (a/8))<0):
 Fn Tryz.prog 191 [bO b p o i e h0 h1 h2 h3,.int .i64 a] I fun x R=>iM I R p o i e h0 h1 h2 h3 (ej b a) x:=by
 refine bA aZ mixed Tryz.func191 (by kernel_rfl) rfl (by kernel_rfl) ?_
 obtain⟨⟨oP,oQ,oR,n8,qH,qI,qJ,qK⟩,⟨oC,gc,lI,mI,oD,oE,oF,oG⟩,⟨d1,d2,d3,d4,d5,d6,d7,d8,d9,d10,d11,d12,d13,d14,d15,d16,d17,d18,d19,d20,d21,d22,d23,d24,d25,d26,d27,d28⟩,gp,go,gi,ge,g0,g1,g2,g3⟩:=id hb
 have hl:=di.1.1
 have kr:0≤a/8∧a/8<b.ah.length:=J
 have hw:=Of di kr hk
 have Gk:=hs.p.2 (a/8)
 obtain⟨s,kX⟩:∃s,at_ b.ah (a/8)=s:=⟨_,rfl⟩
 rw[kX]at hk hw Gk
 obtain⟨P,hP⟩:∃P,a/8=P:=⟨_,rfl⟩
 rw[hP]at kX kr hw
 have hm:ej b a={b with owner:=put b.owner a 0,ah:=gD b.ah P 0 (s-8).toNat}:=by
  unfold ej;simp only[hP,kX];rw[if_pos hk]
 rw[hm]
 have a1:¬(b.owner.length:Int)≤a:=J
 have a0:=ha.1
 have p0:=kr.1
 have p1:¬(b.ah.length:Int)≤P:=J
 have q1:a.tdiv 8=P:=by rw[Int.tdiv_eq_ediv_of_nonneg ha.1];exact hP
 have gs:(b.ah.map (U.int .i64))[P.toNat]? =some (.int .i64 s):=by rw[fT kr.1 kr.2,kX]
 simp+contextual (maxSteps:=1000000) (disch:=first|exact dB|fail) [go_sem,int_lt,-Int.not_le,-Int.not_lt,-List.map_set,gp,go,q1,kX,a1,a0,p0,p1,hk,gs]
 refine Alt.mk ?_
 have ll:=dF (I:=I.set o ⟨(put b.owner a 0).map (.int .i64),true⟩) (j:=p) (B:=⟨b.ah.map (.int .i64),true⟩) aI
 rw[←ll]
 refine aC (fun R_ env R=>∃(k:Nat),env 1= .int .i64 a∧env 2= .ptr I.n 0∧env 4= .ptr (I.n+1) 0∧env 5= .int .i64 P∧env 6= .int .i64 s∧env 7= .int .i64 k∧((((I.set o ⟨(put b.owner a 0).map (.int .i64),true⟩).set p ⟨(gD b.ah P 0 k).map (.int .i64),true⟩).push ⟨[.int .i64 b.am,.sl p 0 b.ah.length 1,.sl h0 0 (b.aj 0).length 1,.sl h1 0 (b.aj 1).length 1,.sl h2 0 (b.aj 2).length 1,.sl h3 0 (b.aj 3).length 1,.sl o 0 b.owner.length 1,.sl i 0 b.cy.length 1,.sl e 0 b.ao.length 1],true⟩).push ⟨[.int .i64 0,.al,.al,.al,.al,.al,.al,.al,.al],true⟩)=R∧R_ ((s-8-k).toNat)∧((k:Int)≤s-8∨k=0)) (by rintro R_ env R ⟨k,e1,e2,e4,e5,e6,e7,h_,cz,hp⟩;exact⟨_,cz,k,e1,e2,e4,e5,e6,e7,h_,rfl,hp⟩) ⟨0,aq,aq,aq,aq,aq,aq,rfl,trivial,?_⟩ ?_
 rotate_left
 rintro m_ env R ⟨k,e1,e2,e4,e5,e6,e7,rfl,rfl,hp⟩
 ·have hlen:=eL b.ah P 0 k
  have k1:0≤P+(k:Int):=J
  simp+contextual (maxSteps:=1000000) (disch:=first|exact dB|fail) [go_sem,int_lt,-Int.not_le,-Int.not_lt,-List.map_set,e1,e2,e4,e5,e6,e7,hlen,k1,gp,go]
  refine⟨fun sf=>⟨k+1,J,?_,J,J⟩,fun sf=>?_⟩
  ·simp only[gD]
  ·have ek:(s-8).toNat=k:=J
   rw[ek]
   refine iM.mk' n0 p o i e h0 h1 h2 h3 ⟨J,by simp only[au,az];omega,jf,?_,?_,?_,?_,?_,?_,?_,?_⟩ (by simp[aF,eL]) zB bc lc<;>(first|exact bn|fail)
 ·omega
theorem G9(I:af)(b:Bk)(n0 p o i e h0 h1 h2 h3:Nat)(a:Int)(hb:iY n0 I b p o i e h0 h1 h2 h3)(hs:dW b)(di:cm b)(ha:0≤a∧a<b.owner.length)(hk:at_ b.ah (a/8)=1):
 Fn Tryz.prog 191 [bO b p o i e h0 h1 h2 h3,.int .i64 a] I fun x R=>iM I R p o i e h0 h1 h2 h3 (ej b a) x:=by
 refine bA aZ mixed Tryz.func191 (by kernel_rfl) rfl (by kernel_rfl) ?_
 obtain⟨⟨oP,oQ,oR,n8,qH,qI,qJ,qK⟩,⟨oC,gc,lI,mI,oD,oE,oF,oG⟩,⟨d1,d2,d3,d4,d5,d6,d7,d8,d9,d10,d11,d12,d13,d14,d15,d16,d17,d18,d19,d20,d21,d22,d23,d24,d25,d26,d27,d28⟩,gp,go,gi,ge,g0,g1,g2,g3⟩:=id hb
 have hl:=di.1.1
 have MU:=f_ di hs 0 J
 have sk:=(hs.h 0)
 have kr:0≤a/8∧a/8<b.ah.length:=J
 obtain⟨P,hP⟩:∃P,a/8=P:=⟨_,rfl⟩
 rw[hP]at hk kr
 have Ju:ch 1=0:=by decide
 have a1:¬(b.owner.length:Int)≤a:=J
 have a0:=ha.1
 have p0:=kr.1
 have p1:¬(b.ah.length:Int)≤P:=J
 have q1:a.tdiv 8=P:=by rw[Int.tdiv_eq_ediv_of_nonneg ha.1];exact hP
 have gs:(b.ah.map (U.int .i64))[P.toNat]? =some (.int .i64 1):=by rw[fT kr.1 kr.2,hk]
 have pK:bu .i64 I (.sl h0 0 (b.aj 0).length 1) (b.aj 0):=(id hb).v.h0
 simp+contextual (maxSteps:=1000000) (disch:=first|exact dB|fail) [go_sem,int_lt,-Int.not_le,-Int.not_lt,-List.map_set,gp,go,g0,q1,hk,a1,a0,p0,p1,gs,Ju]
 repeat refine Alt.mk ?_
 have mr:Sm (a::b.aj 0):= .of bX (by
  intro x hx
  rcases List.mem_cons.1 hx with rfl|hx
  ·omega
  ·exact sk.mem x hx)
 obtain⟨b2,eX⟩:∃b2:Bk,b2={b with owner:=put b.owner a 0,aj:=cE b.aj 0 (a::b.aj 0)}:=⟨_,rfl⟩
 have vL:dW b2:=by rw[eX];exact⟨hs.s,hs.p,jJ hs.h mr,hs.o.put _ J,hs.i,hs.e⟩
 refine bb (fun R=>∃q,q=I.n+1+1+1∧R.n=I.n+4∧iY n0 R b2 p o i e q h1 h2 h3∧R.get I.n=some ⟨[.int .i64 b.am,.sl p 0 b.ah.length 1,.sl q 0 ((b.aj 0).length+1) 1,.sl h1 0 (b.aj 1).length 1,.sl h2 0 (b.aj 2).length 1,.sl h3 0 (b.aj 3).length 1,.sl o 0 b.owner.length 1,.sl i 0 b.cy.length 1,.sl e 0 b.ao.length 1],true⟩∧R.get (I.n+1)=some ⟨[.int .i64 0,.al,.al,.al,.al,.al,.al,.al,.al],true⟩∧∀y,y<I.n→Out y p o i e h0 h1 h2 h3→R.get y=I.get y) ?_ ?_
 ·refine⟨_,rfl,by simp only[au,az,aR],⟨J,by simp only[au,az,aR];omega,jf,?_,?_,?_,?_,?_,?_,?_,?_⟩,?_,?_,?_⟩
  all_goals(try subst eX)
  all_goals first
   |(first|exact bn|fail)
   |(intro j_ xI M3;obtain⟨z1,z2,z3,z4,z5,z6,z7,z8⟩:=M3;simp(disch:=first|exact NE.ne bZ|exact NE.sym bZ|omega|(simp only[au,az,aR,dw];omega)) only[ak,ai,bg,ef])
   |(simp only[cE,if_pos,List.map_cons];(first|exact bn|fail))
 rintro R ⟨q,hq,hn,hO,gb,gr,jn⟩
 rw[←hq]
 have hlen:b2.owner.length=b.owner.length:=by rw[eX];simp[aF]
 have hE:bO b2 p o i e q h1 h2 h3=(.agg [.int .i64 b.am,.sl p 0 b.ah.length 1,.sl q 0 ((b.aj 0).length+1) 1,.sl h1 0 (b.aj 1).length 1,.sl h2 0 (b.aj 2).length 1,.sl h3 0 (b.aj 3).length 1,.sl o 0 b.owner.length 1,.sl i 0 b.cy.length 1,.sl e 0 b.ao.length 1]):=by rw[eX];simp[aF,cE]
 rw[←hE]
 refine aw (lH R b2 _ _ _ _ _ _ _ _ P 0 hO.v vL ⟨J,J,J,J⟩) ?_
 rintro v τ' M1 ⟨rfl,rfl⟩
 have Jk:ej b a=if dz b2 P 0 then {b2 with ah:=put b.ah P 0,aj:=cE b.aj 0 ((a::b.aj 0).filter fun x=>decide (x/8≠P))}else b2:=by
  unfold ej
  simp only[hP,hk,Ju]
  rw[if_neg J]
  have e1:dz {b with owner:=put b.owner a 0} P 0↔dz b2 P 0:=by rw[eX];exact Iff.rfl
  by_cases hf:dz b2 P 0
  ·rw[if_pos hf,if_pos (e1.2 hf),eX];rfl
  ·rw[if_neg hf,if_neg (fun h=>hf (e1.1 h)),eX];rfl
 by_cases hf:dz b2 P 0
 rotate_left
 ·rw[Jk,if_neg hf]
  simp+contextual (maxSteps:=1000000) (disch:=first|exact dB|fail) [go_sem,int_lt,-Int.not_le,-Int.not_lt,-List.map_set,hf,gb,gr]
  exact iM.mk' n0 p o i e q h1 h2 h3 (hO.gS J) hE.symm IN bj lc
 ·rw[Jk,if_pos hf]
  have gP:=hO.gp
  have ep:b2.ah=b.ah:=by rw[eX]
  rw[ep]at gP
  simp+contextual (maxSteps:=1000000) (disch:=first|exact dB|fail) [go_sem,int_lt,-Int.not_le,-Int.not_lt,-List.map_set,hf,gb,gr,gP]
  have gQ:=hO.g0
  rw[show b2.aj 0=a::b.aj 0 by rw[eX];rfl]at gQ
  obtain⟨L,hL⟩:∃L,L=a::b.aj 0:=⟨_,rfl⟩
  have pD:(b.aj 0).length+1=L.length:=by rw[hL];rfl
  rw[←hL]at gQ mr
  rw[pD]at gb
  have lZ:∀x∈L,0≤x:=by
   rw[hL]
   intro x hx
   rcases List.mem_cons.1 hx with rfl|hx
   ·exact ha.1
   ·obtain⟨k,rh,rfl⟩:=List.mem_iff_getElem.1 hx
    have:=(di.2.1 0 J).2 (k:Int) J J
    simpa[at_,rh]using this.1
  refine aC (fun R_ env R=>∃(u:Int),∃(ql:Nat),∃(l:List Int),env 10= .int .i64 u∧env 9= .sl ql 0 l.length 1∧env 8= .int .i64 0∧env 5= .int .i64 P∧env 2= .ptr I.n 0∧env 4= .ptr (I.n+1) 0∧R_ ((L.length-u).toNat)∧(0≤u∧u≤L.length)∧(R.get ql=some ⟨l.map (.int .i64),true⟩)∧(τ'.n≤ql∧ql<R.n)∧(l=(L.take u.toNat).filter (fun x=>decide (x/8≠P)))∧((∀y,y<τ'.n→NE y p→R.get y=τ'.get y))∧(R.get p=some ⟨(put b.ah P 0).map (.int .i64),true⟩)) (by rintro R_ env R ⟨u,ql,l,em,e9,e8,e5,e2,e4,cz,hu,gq,HE,df,eF,te⟩;exact⟨_,cz,u,ql,l,em,e9,e8,e5,e2,e4,rfl,hu,gq,HE,df,eF,te⟩) ⟨0,τ'.n,[],aq,aq,aq,aq,aq,aq,trivial,?_,?_,?_,?_,?_,?_⟩ ?_
  rotate_left 6
  rintro m_ env R ⟨u,ql,l,em,e9,e8,e5,e2,e4,rfl,hu,gq,HE,df,eF,te⟩
  ·have gb':=(eF I.n J aD).trans gb
   have PW:=(eF (I.n+1) J aD).trans gr
   have PU:=(eF q J aD).trans gQ
   have Sv:bu .i64 R (.sl q 0 L.length 1) L:=bf J PU rfl
   have tt:l.length≤L.length:=by
    rw[df]
    refine Nat.le_trans (List.length_filter_le _ _) ?_
    simp;omega
   have Z6:L.length≤60:=J
   have QE:NE q ql:=by simp only[NE];omega
   have QF:NE I.n ql∧NE (I.n+1) ql:=by simp only[NE];omega
   obtain⟨zZ,yF⟩:=QF
   by_cases nL:u<L.length
   ·have Ab:0≤at_ L u:=by
     have:=at_mem (ws:=L) (j:=u) ⟨hu.1,nL⟩
     exact lZ _ this
    have hx:(at_ L u).tdiv 8=at_ L u/8:=Int.tdiv_eq_ediv_of_nonneg Ab
    have l9:¬(L.length:Int)≤u:=J
    have hu0:=hu.1
    have BY:=pX (P:=P) hu.1 nL
    have hxr:=mr.2 u
    have HH:IntKind.i64.wrap (at_ L u/8)=at_ L u/8:=wrap_i64 J
    by_cases xO:at_ L u/8=P
    ·simp+contextual (maxSteps:=1000000) (disch:=first|exact dB|fail) [go_sem,int_lt,-Int.not_le,-Int.not_lt,-List.map_set,em,e9,e8,e5,e2,e4,gb',gq,l9,hx,xO]
     exact⟨l,rfl,J,J,J,rfl,J,J,by rw[BY,if_pos xO,List.append_nil];simpa using df,eF,te⟩
    ·simp+contextual (maxSteps:=1000000) (disch:=first|exact dB|fail) [go_sem,int_lt,-Int.not_le,-Int.not_lt,-List.map_set,em,e9,e8,e5,e2,e4,gb',gq,l9,hx,HH,xO]
     exact⟨l++[at_ L u],aV,J,J,J,aV,J,by rw[BY,if_neg xO];congr 1;simpa using df,eF,te⟩
   ·have l9:(L.length:Int)≤u:=J
    simp+contextual (maxSteps:=1000000) (disch:=first|exact dB|fail) [go_sem,int_lt,-Int.not_le,-Int.not_lt,-List.map_set,em,e9,e8,e5,e2,e4,gb',PW,l9]
    have Qr:l=L.filter (fun x=> !decide (x/8=P)):=by
     rw[List.take_of_length_le J]at df
     simpa using df
    rw[←hL,←Qr]
    subst eX
    refine iM.mk' n0 p o i e ql h1 h2 h3 ?_ IP IQ bj lc
    refine iY.gS (iY.gS ?_ J) J
    exact⟨J,J,jf,te,(eF o J bN).trans hO.go,(eF i J bN).trans hO.gi,(eF e J bN).trans hO.ge,gq,(eF h1 J bN).trans hO.g1,(eF h2 J bN).trans hO.g2,(eF h3 J bN).trans hO.g3⟩
  all_goals first
   |omega
   |(simp;done)
   |(first|exact bn|fail)
   |(intro y y1 y2;(first|exact bn|fail))
   |trace_state
theorem G_(I:af)(b:Bk)(n0 p o i e h0 h1 h2 h3:Nat)(a:Int)(hb:iY n0 I b p o i e h0 h1 h2 h3)(hs:dW b)(di:cm b)(ha:0≤a∧a<b.owner.length)(hk:at_ b.ah (a/8)=2):
 Fn Tryz.prog 191 [bO b p o i e h0 h1 h2 h3,.int .i64 a] I fun x R=>iM I R p o i e h0 h1 h2 h3 (ej b a) x:=by
 refine bA aZ mixed Tryz.func191 (by kernel_rfl) rfl (by kernel_rfl) ?_
 obtain⟨⟨oP,oQ,oR,n8,qH,qI,qJ,qK⟩,⟨oC,gc,lI,mI,oD,oE,oF,oG⟩,⟨d1,d2,d3,d4,d5,d6,d7,d8,d9,d10,d11,d12,d13,d14,d15,d16,d17,d18,d19,d20,d21,d22,d23,d24,d25,d26,d27,d28⟩,gp,go,gi,ge,g0,g1,g2,g3⟩:=id hb
 have hl:=di.1.1
 have MU:=f_ di hs 1 J
 have sk:=(hs.h 1)
 have kr:0≤a/8∧a/8<b.ah.length:=J
 obtain⟨P,hP⟩:∃P,a/8=P:=⟨_,rfl⟩
 rw[hP]at hk kr
 have Ju:ch 2=1:=by decide
 have a1:¬(b.owner.length:Int)≤a:=J
 have a0:=ha.1
 have p0:=kr.1
 have p1:¬(b.ah.length:Int)≤P:=J
 have q1:a.tdiv 8=P:=by rw[Int.tdiv_eq_ediv_of_nonneg ha.1];exact hP
 have gs:(b.ah.map (U.int .i64))[P.toNat]? =some (.int .i64 2):=by rw[fT kr.1 kr.2,hk]
 have pK:bu .i64 I (.sl h1 0 (b.aj 1).length 1) (b.aj 1):=(id hb).v.h1
 simp+contextual (maxSteps:=1000000) (disch:=first|exact dB|fail) [go_sem,int_lt,-Int.not_le,-Int.not_lt,-List.map_set,gp,go,g1,q1,hk,a1,a0,p0,p1,gs,Ju]
 repeat refine Alt.mk ?_
 have mr:Sm (a::b.aj 1):= .of bX (by
  intro x hx
  rcases List.mem_cons.1 hx with rfl|hx
  ·omega
  ·exact sk.mem x hx)
 obtain⟨b2,eX⟩:∃b2:Bk,b2={b with owner:=put b.owner a 0,aj:=cE b.aj 1 (a::b.aj 1)}:=⟨_,rfl⟩
 have vL:dW b2:=by rw[eX];exact⟨hs.s,hs.p,jJ hs.h mr,hs.o.put _ J,hs.i,hs.e⟩
 refine bb (fun R=>∃q,q=I.n+1+1+1∧R.n=I.n+4∧iY n0 R b2 p o i e h0 q h2 h3∧R.get I.n=some ⟨[.int .i64 b.am,.sl p 0 b.ah.length 1,.sl h0 0 (b.aj 0).length 1,.sl q 0 ((b.aj 1).length+1) 1,.sl h2 0 (b.aj 2).length 1,.sl h3 0 (b.aj 3).length 1,.sl o 0 b.owner.length 1,.sl i 0 b.cy.length 1,.sl e 0 b.ao.length 1],true⟩∧R.get (I.n+1)=some ⟨[.int .i64 0,.al,.al,.al,.al,.al,.al,.al,.al],true⟩∧∀y,y<I.n→Out y p o i e h0 h1 h2 h3→R.get y=I.get y) ?_ ?_
 ·refine⟨_,rfl,by simp only[au,az,aR],⟨J,by simp only[au,az,aR];omega,jf,?_,?_,?_,?_,?_,?_,?_,?_⟩,?_,?_,?_⟩
  all_goals(try subst eX)
  all_goals first
   |(first|exact bn|fail)
   |(intro j_ xI M3;obtain⟨z1,z2,z3,z4,z5,z6,z7,z8⟩:=M3;simp(disch:=first|exact NE.ne bZ|exact NE.sym bZ|omega|(simp only[au,az,aR,dw];omega)) only[ak,ai,bg,ef])
   |(simp only[cE,if_pos,List.map_cons];(first|exact bn|fail))
 rintro R ⟨q,hq,hn,hO,gb,gr,jn⟩
 rw[←hq]
 have hlen:b2.owner.length=b.owner.length:=by rw[eX];simp[aF]
 have hE:bO b2 p o i e h0 q h2 h3=(.agg [.int .i64 b.am,.sl p 0 b.ah.length 1,.sl h0 0 (b.aj 0).length 1,.sl q 0 ((b.aj 1).length+1) 1,.sl h2 0 (b.aj 2).length 1,.sl h3 0 (b.aj 3).length 1,.sl o 0 b.owner.length 1,.sl i 0 b.cy.length 1,.sl e 0 b.ao.length 1]):=by rw[eX];simp[aF,cE]
 rw[←hE]
 refine aw (lH R b2 _ _ _ _ _ _ _ _ P 0 hO.v vL ⟨J,J,J,J⟩) ?_
 rintro v τ' M1 ⟨rfl,rfl⟩
 have Jk:ej b a=if dz b2 P 0 then {b2 with ah:=put b.ah P 0,aj:=cE b.aj 1 ((a::b.aj 1).filter fun x=>decide (x/8≠P))}else b2:=by
  unfold ej
  simp only[hP,hk,Ju]
  rw[if_neg J]
  have e1:dz {b with owner:=put b.owner a 0} P 0↔dz b2 P 0:=by rw[eX];exact Iff.rfl
  by_cases hf:dz b2 P 0
  ·rw[if_pos hf,if_pos (e1.2 hf),eX];rfl
  ·rw[if_neg hf,if_neg (fun h=>hf (e1.1 h)),eX];rfl
 by_cases hf:dz b2 P 0
 rotate_left
 ·rw[Jk,if_neg hf]
  simp+contextual (maxSteps:=1000000) (disch:=first|exact dB|fail) [go_sem,int_lt,-Int.not_le,-Int.not_lt,-List.map_set,hf,gb,gr]
  exact iM.mk' n0 p o i e h0 q h2 h3 (hO.gS J) hE.symm IN bj lc
 ·rw[Jk,if_pos hf]
  have gP:=hO.gp
  have ep:b2.ah=b.ah:=by rw[eX]
  rw[ep]at gP
  simp+contextual (maxSteps:=1000000) (disch:=first|exact dB|fail) [go_sem,int_lt,-Int.not_le,-Int.not_lt,-List.map_set,hf,gb,gr,gP]
  have gQ:=hO.g1
  rw[show b2.aj 1=a::b.aj 1 by rw[eX];rfl]at gQ
  obtain⟨L,hL⟩:∃L,L=a::b.aj 1:=⟨_,rfl⟩
  have pD:(b.aj 1).length+1=L.length:=by rw[hL];rfl
  rw[←hL]at gQ mr
  rw[pD]at gb
  have lZ:∀x∈L,0≤x:=by
   rw[hL]
   intro x hx
   rcases List.mem_cons.1 hx with rfl|hx
   ·exact ha.1
   ·obtain⟨k,rh,rfl⟩:=List.mem_iff_getElem.1 hx
    have:=(di.2.1 1 J).2 (k:Int) J J
    simpa[at_,rh]using this.1
  refine aC (fun R_ env R=>∃(u:Int),∃(ql:Nat),∃(l:List Int),env 10= .int .i64 u∧env 9= .sl ql 0 l.length 1∧env 8= .int .i64 1∧env 5= .int .i64 P∧env 2= .ptr I.n 0∧env 4= .ptr (I.n+1) 0∧R_ ((L.length-u).toNat)∧(0≤u∧u≤L.length)∧(R.get ql=some ⟨l.map (.int .i64),true⟩)∧(τ'.n≤ql∧ql<R.n)∧(l=(L.take u.toNat).filter (fun x=>decide (x/8≠P)))∧((∀y,y<τ'.n→NE y p→R.get y=τ'.get y))∧(R.get p=some ⟨(put b.ah P 0).map (.int .i64),true⟩)) (by rintro R_ env R ⟨u,ql,l,em,e9,e8,e5,e2,e4,cz,hu,gq,HE,df,eF,te⟩;exact⟨_,cz,u,ql,l,em,e9,e8,e5,e2,e4,rfl,hu,gq,HE,df,eF,te⟩) ⟨0,τ'.n,[],aq,aq,aq,aq,aq,aq,trivial,?_,?_,?_,?_,?_,?_⟩ ?_
  rotate_left 6
  rintro m_ env R ⟨u,ql,l,em,e9,e8,e5,e2,e4,rfl,hu,gq,HE,df,eF,te⟩
  ·have gb':=(eF I.n J aD).trans gb
   have PW:=(eF (I.n+1) J aD).trans gr
   have PU:=(eF q J aD).trans gQ
   have Sv:bu .i64 R (.sl q 0 L.length 1) L:=bf J PU rfl
   have tt:l.length≤L.length:=by
    rw[df]
    refine Nat.le_trans (List.length_filter_le _ _) ?_
    simp;omega
   have Z6:L.length≤60:=J
   have QE:NE q ql:=by simp only[NE];omega
   have QF:NE I.n ql∧NE (I.n+1) ql:=by simp only[NE];omega
   obtain⟨zZ,yF⟩:=QF
   by_cases nL:u<L.length
   ·have Ab:0≤at_ L u:=by
     have:=at_mem (ws:=L) (j:=u) ⟨hu.1,nL⟩
     exact lZ _ this
    have hx:(at_ L u).tdiv 8=at_ L u/8:=Int.tdiv_eq_ediv_of_nonneg Ab
    have l9:¬(L.length:Int)≤u:=J
    have hu0:=hu.1
    have BY:=pX (P:=P) hu.1 nL
    have hxr:=mr.2 u
    have HH:IntKind.i64.wrap (at_ L u/8)=at_ L u/8:=wrap_i64 J
    by_cases xO:at_ L u/8=P
    ·simp+contextual (maxSteps:=1000000) (disch:=first|exact dB|fail) [go_sem,int_lt,-Int.not_le,-Int.not_lt,-List.map_set,em,e9,e8,e5,e2,e4,gb',gq,l9,hx,xO]
     exact⟨l,rfl,J,J,J,rfl,J,J,by rw[BY,if_pos xO,List.append_nil];simpa using df,eF,te⟩
    ·simp+contextual (maxSteps:=1000000) (disch:=first|exact dB|fail) [go_sem,int_lt,-Int.not_le,-Int.not_lt,-List.map_set,em,e9,e8,e5,e2,e4,gb',gq,l9,hx,HH,xO]
     exact⟨l++[at_ L u],aV,J,J,J,aV,J,by rw[BY,if_neg xO];congr 1;simpa using df,eF,te⟩
   ·have l9:(L.length:Int)≤u:=J
    simp+contextual (maxSteps:=1000000) (disch:=first|exact dB|fail) [go_sem,int_lt,-Int.not_le,-Int.not_lt,-List.map_set,em,e9,e8,e5,e2,e4,gb',PW,l9]
    have Qr:l=L.filter (fun x=> !decide (x/8=P)):=by
     rw[List.take_of_length_le J]at df
     simpa using df
    rw[←hL,←Qr]
    subst eX
    refine iM.mk' n0 p o i e h0 ql h2 h3 ?_ IP IQ bj lc
    refine iY.gS (iY.gS ?_ J) J
    exact⟨J,J,jf,te,(eF o J bN).trans hO.go,(eF i J bN).trans hO.gi,(eF e J bN).trans hO.ge,(eF h0 J bN).trans hO.g0,gq,(eF h2 J bN).trans hO.g2,(eF h3 J bN).trans hO.g3⟩
  all_goals first
   |omega
   |(simp;done)
   |(first|exact bn|fail)
   |(intro y y1 y2;(first|exact bn|fail))
   |trace_state
theorem G'(I:af)(b:Bk)(n0 p o i e h0 h1 h2 h3:Nat)(a:Int)(hb:iY n0 I b p o i e h0 h1 h2 h3)(hs:dW b)(di:cm b)(ha:0≤a∧a<b.owner.length)(hk:at_ b.ah (a/8)=3):
 Fn Tryz.prog 191 [bO b p o i e h0 h1 h2 h3,.int .i64 a] I fun x R=>iM I R p o i e h0 h1 h2 h3 (ej b a) x:=by
 refine bA aZ mixed Tryz.func191 (by kernel_rfl) rfl (by kernel_rfl) ?_
 obtain⟨⟨oP,oQ,oR,n8,qH,qI,qJ,qK⟩,⟨oC,gc,lI,mI,oD,oE,oF,oG⟩,⟨d1,d2,d3,d4,d5,d6,d7,d8,d9,d10,d11,d12,d13,d14,d15,d16,d17,d18,d19,d20,d21,d22,d23,d24,d25,d26,d27,d28⟩,gp,go,gi,ge,g0,g1,g2,g3⟩:=id hb
 have hl:=di.1.1
 have MU:=f_ di hs 2 J
 have sk:=(hs.h 2)
 have kr:0≤a/8∧a/8<b.ah.length:=J
 obtain⟨P,hP⟩:∃P,a/8=P:=⟨_,rfl⟩
 rw[hP]at hk kr
 have Ju:ch 3=2:=by decide
 have a1:¬(b.owner.length:Int)≤a:=J
 have a0:=ha.1
 have p0:=kr.1
 have p1:¬(b.ah.length:Int)≤P:=J
 have q1:a.tdiv 8=P:=by rw[Int.tdiv_eq_ediv_of_nonneg ha.1];exact hP
 have gs:(b.ah.map (U.int .i64))[P.toNat]? =some (.int .i64 3):=by rw[fT kr.1 kr.2,hk]
 have pK:bu .i64 I (.sl h2 0 (b.aj 2).length 1) (b.aj 2):=(id hb).v.h2
 simp+contextual (maxSteps:=1000000) (disch:=first|exact dB|fail) [go_sem,int_lt,-Int.not_le,-Int.not_lt,-List.map_set,gp,go,g2,q1,hk,a1,a0,p0,p1,gs,Ju]
 repeat refine Alt.mk ?_
 have mr:Sm (a::b.aj 2):= .of bX (by
  intro x hx
  rcases List.mem_cons.1 hx with rfl|hx
  ·omega
  ·exact sk.mem x hx)
 obtain⟨b2,eX⟩:∃b2:Bk,b2={b with owner:=put b.owner a 0,aj:=cE b.aj 2 (a::b.aj 2)}:=⟨_,rfl⟩
 have vL:dW b2:=by rw[eX];exact⟨hs.s,hs.p,jJ hs.h mr,hs.o.put _ J,hs.i,hs.e⟩
 refine bb (fun R=>∃q,q=I.n+1+1+1∧R.n=I.n+4∧iY n0 R b2 p o i e h0 h1 q h3∧R.get I.n=some ⟨[.int .i64 b.am,.sl p 0 b.ah.length 1,.sl h0 0 (b.aj 0).length 1,.sl h1 0 (b.aj 1).length 1,.sl q 0 ((b.aj 2).length+1) 1,.sl h3 0 (b.aj 3).length 1,.sl o 0 b.owner.length 1,.sl i 0 b.cy.length 1,.sl e 0 b.ao.length 1],true⟩∧R.get (I.n+1)=some ⟨[.int .i64 0,.al,.al,.al,.al,.al,.al,.al,.al],true⟩∧∀y,y<I.n→Out y p o i e h0 h1 h2 h3→R.get y=I.get y) ?_ ?_
 ·refine⟨_,rfl,by simp only[au,az,aR],⟨J,by simp only[au,az,aR];omega,jf,?_,?_,?_,?_,?_,?_,?_,?_⟩,?_,?_,?_⟩
  all_goals(try subst eX)
  all_goals first
   |(first|exact bn|fail)
   |(intro j_ xI M3;obtain⟨z1,z2,z3,z4,z5,z6,z7,z8⟩:=M3;simp(disch:=first|exact NE.ne bZ|exact NE.sym bZ|omega|(simp only[au,az,aR,dw];omega)) only[ak,ai,bg,ef])
   |(simp only[cE,if_pos,List.map_cons];(first|exact bn|fail))
 rintro R ⟨q,hq,hn,hO,gb,gr,jn⟩
 rw[←hq]
 have hlen:b2.owner.length=b.owner.length:=by rw[eX];simp[aF]
 have hE:bO b2 p o i e h0 h1 q h3=(.agg [.int .i64 b.am,.sl p 0 b.ah.length 1,.sl h0 0 (b.aj 0).length 1,.sl h1 0 (b.aj 1).length 1,.sl q 0 ((b.aj 2).length+1) 1,.sl h3 0 (b.aj 3).length 1,.sl o 0 b.owner.length 1,.sl i 0 b.cy.length 1,.sl e 0 b.ao.length 1]):=by rw[eX];simp[aF,cE]
 rw[←hE]
 refine aw (lH R b2 _ _ _ _ _ _ _ _ P 0 hO.v vL ⟨J,J,J,J⟩) ?_
 rintro v τ' M1 ⟨rfl,rfl⟩
 have Jk:ej b a=if dz b2 P 0 then {b2 with ah:=put b.ah P 0,aj:=cE b.aj 2 ((a::b.aj 2).filter fun x=>decide (x/8≠P))}else b2:=by
  unfold ej
  simp only[hP,hk,Ju]
  rw[if_neg J]
  have e1:dz {b with owner:=put b.owner a 0} P 0↔dz b2 P 0:=by rw[eX];exact Iff.rfl
  by_cases hf:dz b2 P 0
  ·rw[if_pos hf,if_pos (e1.2 hf),eX];rfl
  ·rw[if_neg hf,if_neg (fun h=>hf (e1.1 h)),eX];rfl
 by_cases hf:dz b2 P 0
 rotate_left
 ·rw[Jk,if_neg hf]
  simp+contextual (maxSteps:=1000000) (disch:=first|exact dB|fail) [go_sem,int_lt,-Int.not_le,-Int.not_lt,-List.map_set,hf,gb,gr]
  exact iM.mk' n0 p o i e h0 h1 q h3 (hO.gS J) hE.symm IN bj lc
 ·rw[Jk,if_pos hf]
  have gP:=hO.gp
  have ep:b2.ah=b.ah:=by rw[eX]
  rw[ep]at gP
  simp+contextual (maxSteps:=1000000) (disch:=first|exact dB|fail) [go_sem,int_lt,-Int.not_le,-Int.not_lt,-List.map_set,hf,gb,gr,gP]
  have gQ:=hO.g2
  rw[show b2.aj 2=a::b.aj 2 by rw[eX];rfl]at gQ
  obtain⟨L,hL⟩:∃L,L=a::b.aj 2:=⟨_,rfl⟩
  have pD:(b.aj 2).length+1=L.length:=by rw[hL];rfl
  rw[←hL]at gQ mr
  rw[pD]at gb
  have lZ:∀x∈L,0≤x:=by
   rw[hL]
   intro x hx
   rcases List.mem_cons.1 hx with rfl|hx
   ·exact ha.1
   ·obtain⟨k,rh,rfl⟩:=List.mem_iff_getElem.1 hx
    have:=(di.2.1 2 J).2 (k:Int) J J
    simpa[at_,rh]using this.1
  refine aC (fun R_ env R=>∃(u:Int),∃(ql:Nat),∃(l:List Int),env 10= .int .i64 u∧env 9= .sl ql 0 l.length 1∧env 8= .int .i64 2∧env 5= .int .i64 P∧env 2= .ptr I.n 0∧env 4= .ptr (I.n+1) 0∧R_ ((L.length-u).toNat)∧(0≤u∧u≤L.length)∧(R.get ql=some ⟨l.map (.int .i64),true⟩)∧(τ'.n≤ql∧ql<R.n)∧(l=(L.take u.toNat).filter (fun x=>decide (x/8≠P)))∧((∀y,y<τ'.n→NE y p→R.get y=τ'.get y))∧(R.get p=some ⟨(put b.ah P 0).map (.int .i64),true⟩)) (by rintro R_ env R ⟨u,ql,l,em,e9,e8,e5,e2,e4,cz,hu,gq,HE,df,eF,te⟩;exact⟨_,cz,u,ql,l,em,e9,e8,e5,e2,e4,rfl,hu,gq,HE,df,eF,te⟩) ⟨0,τ'.n,[],aq,aq,aq,aq,aq,aq,trivial,?_,?_,?_,?_,?_,?_⟩ ?_
  rotate_left 6
  rintro m_ env R ⟨u,ql,l,em,e9,e8,e5,e2,e4,rfl,hu,gq,HE,df,eF,te⟩
  ·have gb':=(eF I.n J aD).trans gb
   have PW:=(eF (I.n+1) J aD).trans gr
   have PU:=(eF q J aD).trans gQ
   have Sv:bu .i64 R (.sl q 0 L.length 1) L:=bf J PU rfl
   have tt:l.length≤L.length:=by
    rw[df]
    refine Nat.le_trans (List.length_filter_le _ _) ?_
    simp;omega
   have Z6:L.length≤60:=J
   have QE:NE q ql:=by simp only[NE];omega
   have QF:NE I.n ql∧NE (I.n+1) ql:=by simp only[NE];omega
   obtain⟨zZ,yF⟩:=QF
   by_cases nL:u<L.length
   ·have Ab:0≤at_ L u:=by
     have:=at_mem (ws:=L) (j:=u) ⟨hu.1,nL⟩
     exact lZ _ this
    have hx:(at_ L u).tdiv 8=at_ L u/8:=Int.tdiv_eq_ediv_of_nonneg Ab
    have l9:¬(L.length:Int)≤u:=J
    have hu0:=hu.1
    have BY:=pX (P:=P) hu.1 nL
    have hxr:=mr.2 u
    have HH:IntKind.i64.wrap (at_ L u/8)=at_ L u/8:=wrap_i64 J
    by_cases xO:at_ L u/8=P
    ·simp+contextual (maxSteps:=1000000) (disch:=first|exact dB|fail) [go_sem,int_lt,-Int.not_le,-Int.not_lt,-List.map_set,em,e9,e8,e5,e2,e4,gb',gq,l9,hx,xO]
     exact⟨l,rfl,J,J,J,rfl,J,J,by rw[BY,if_pos xO,List.append_nil];simpa using df,eF,te⟩
    ·simp+contextual (maxSteps:=1000000) (disch:=first|exact dB|fail) [go_sem,int_lt,-Int.not_le,-Int.not_lt,-List.map_set,em,e9,e8,e5,e2,e4,gb',gq,l9,hx,HH,xO]
     exact⟨l++[at_ L u],aV,J,J,J,aV,J,by rw[BY,if_neg xO];congr 1;simpa using df,eF,te⟩
   ·have l9:(L.length:Int)≤u:=J
    simp+contextual (maxSteps:=1000000) (disch:=first|exact dB|fail) [go_sem,int_lt,-Int.not_le,-Int.not_lt,-List.map_set,em,e9,e8,e5,e2,e4,gb',PW,l9]
    have Qr:l=L.filter (fun x=> !decide (x/8=P)):=by
     rw[List.take_of_length_le J]at df
     simpa using df
    rw[←hL,←Qr]
    subst eX
    refine iM.mk' n0 p o i e h0 h1 ql h3 ?_ IP IQ bj lc
    refine iY.gS (iY.gS ?_ J) J
    exact⟨J,J,jf,te,(eF o J bN).trans hO.go,(eF i J bN).trans hO.gi,(eF e J bN).trans hO.ge,(eF h0 J bN).trans hO.g0,(eF h1 J bN).trans hO.g1,gq,(eF h3 J bN).trans hO.g3⟩
  all_goals first
   |omega
   |(simp;done)
   |(first|exact bn|fail)
   |(intro y y1 y2;(first|exact bn|fail))
   |trace_state
theorem Ha(I:af)(b:Bk)(n0 p o i e h0 h1 h2 h3:Nat)(a:Int)(hb:iY n0 I b p o i e h0 h1 h2 h3)(hs:dW b)(di:cm b)(ha:0≤a∧a<b.owner.length)(hk:at_ b.ah (a/8)=4):
 Fn Tryz.prog 191 [bO b p o i e h0 h1 h2 h3,.int .i64 a] I fun x R=>iM I R p o i e h0 h1 h2 h3 (ej b a) x:=by
 refine bA aZ mixed Tryz.func191 (by kernel_rfl) rfl (by kernel_rfl) ?_
 obtain⟨⟨oP,oQ,oR,n8,qH,qI,qJ,qK⟩,⟨oC,gc,lI,mI,oD,oE,oF,oG⟩,⟨d1,d2,d3,d4,d5,d6,d7,d8,d9,d10,d11,d12,d13,d14,d15,d16,d17,d18,d19,d20,d21,d22,d23,d24,d25,d26,d27,d28⟩,gp,go,gi,ge,g0,g1,g2,g3⟩:=id hb
 have hl:=di.1.1
 have MU:=f_ di hs 3 J
 have sk:=(hs.h 3)
 have kr:0≤a/8∧a/8<b.ah.length:=J
 obtain⟨P,hP⟩:∃P,a/8=P:=⟨_,rfl⟩
 rw[hP]at hk kr
 have Ju:ch 4=3:=by decide
 have a1:¬(b.owner.length:Int)≤a:=J
 have a0:=ha.1
 have p0:=kr.1
 have p1:¬(b.ah.length:Int)≤P:=J
 have q1:a.tdiv 8=P:=by rw[Int.tdiv_eq_ediv_of_nonneg ha.1];exact hP
 have gs:(b.ah.map (U.int .i64))[P.toNat]? =some (.int .i64 4):=by rw[fT kr.1 kr.2,hk]
 have pK:bu .i64 I (.sl h3 0 (b.aj 3).length 1) (b.aj 3):=(id hb).v.h3
 simp+contextual (maxSteps:=1000000) (disch:=first|exact dB|fail) [go_sem,int_lt,-Int.not_le,-Int.not_lt,-List.map_set,gp,go,g3,q1,hk,a1,a0,p0,p1,gs,Ju]
 repeat refine Alt.mk ?_
 have mr:Sm (a::b.aj 3):= .of bX (by
  intro x hx
  rcases List.mem_cons.1 hx with rfl|hx
  ·omega
  ·exact sk.mem x hx)
 obtain⟨b2,eX⟩:∃b2:Bk,b2={b with owner:=put b.owner a 0,aj:=cE b.aj 3 (a::b.aj 3)}:=⟨_,rfl⟩
 have vL:dW b2:=by rw[eX];exact⟨hs.s,hs.p,jJ hs.h mr,hs.o.put _ J,hs.i,hs.e⟩
 refine bb (fun R=>∃q,q=I.n+1+1+1∧R.n=I.n+4∧iY n0 R b2 p o i e h0 h1 h2 q∧R.get I.n=some ⟨[.int .i64 b.am,.sl p 0 b.ah.length 1,.sl h0 0 (b.aj 0).length 1,.sl h1 0 (b.aj 1).length 1,.sl h2 0 (b.aj 2).length 1,.sl q 0 ((b.aj 3).length+1) 1,.sl o 0 b.owner.length 1,.sl i 0 b.cy.length 1,.sl e 0 b.ao.length 1],true⟩∧R.get (I.n+1)=some ⟨[.int .i64 0,.al,.al,.al,.al,.al,.al,.al,.al],true⟩∧∀y,y<I.n→Out y p o i e h0 h1 h2 h3→R.get y=I.get y) ?_ ?_
 ·refine⟨_,rfl,by simp only[au,az,aR],⟨J,by simp only[au,az,aR];omega,jf,?_,?_,?_,?_,?_,?_,?_,?_⟩,?_,?_,?_⟩
  all_goals(try subst eX)
  all_goals first
   |(first|exact bn|fail)
   |(intro j_ xI M3;obtain⟨z1,z2,z3,z4,z5,z6,z7,z8⟩:=M3;simp(disch:=first|exact NE.ne bZ|exact NE.sym bZ|omega|(simp only[au,az,aR,dw];omega)) only[ak,ai,bg,ef])
   |(simp only[cE,if_pos,List.map_cons];(first|exact bn|fail))
 rintro R ⟨q,hq,hn,hO,gb,gr,jn⟩
 rw[←hq]
 have hlen:b2.owner.length=b.owner.length:=by rw[eX];simp[aF]
 have hE:bO b2 p o i e h0 h1 h2 q=(.agg [.int .i64 b.am,.sl p 0 b.ah.length 1,.sl h0 0 (b.aj 0).length 1,.sl h1 0 (b.aj 1).length 1,.sl h2 0 (b.aj 2).length 1,.sl q 0 ((b.aj 3).length+1) 1,.sl o 0 b.owner.length 1,.sl i 0 b.cy.length 1,.sl e 0 b.ao.length 1]):=by rw[eX];simp[aF,cE]
 rw[←hE]
 refine aw (lH R b2 _ _ _ _ _ _ _ _ P 0 hO.v vL ⟨J,J,J,J⟩) ?_
 rintro v τ' M1 ⟨rfl,rfl⟩
 have Jk:ej b a=if dz b2 P 0 then {b2 with ah:=put b.ah P 0,aj:=cE b.aj 3 ((a::b.aj 3).filter fun x=>decide (x/8≠P))}else b2:=by
  unfold ej
  simp only[hP,hk,Ju]
  rw[if_neg J]
  have e1:dz {b with owner:=put b.owner a 0} P 0↔dz b2 P 0:=by rw[eX];exact Iff.rfl
  by_cases hf:dz b2 P 0
  ·rw[if_pos hf,if_pos (e1.2 hf),eX];rfl
  ·rw[if_neg hf,if_neg (fun h=>hf (e1.1 h)),eX];rfl
 by_cases hf:dz b2 P 0
 rotate_left
 ·rw[Jk,if_neg hf]
  simp+contextual (maxSteps:=1000000) (disch:=first|exact dB|fail) [go_sem,int_lt,-Int.not_le,-Int.not_lt,-List.map_set,hf,gb,gr]
  exact iM.mk' n0 p o i e h0 h1 h2 q (hO.gS J) hE.symm IN bj lc
 ·rw[Jk,if_pos hf]
  have gP:=hO.gp
  have ep:b2.ah=b.ah:=by rw[eX]
  rw[ep]at gP
  simp+contextual (maxSteps:=1000000) (disch:=first|exact dB|fail) [go_sem,int_lt,-Int.not_le,-Int.not_lt,-List.map_set,hf,gb,gr,gP]
  have gQ:=hO.g3
  rw[show b2.aj 3=a::b.aj 3 by rw[eX];rfl]at gQ
  obtain⟨L,hL⟩:∃L,L=a::b.aj 3:=⟨_,rfl⟩
  have pD:(b.aj 3).length+1=L.length:=by rw[hL];rfl
  rw[←hL]at gQ mr
  rw[pD]at gb
  have lZ:∀x∈L,0≤x:=by
   rw[hL]
   intro x hx
   rcases List.mem_cons.1 hx with rfl|hx
   ·exact ha.1
   ·obtain⟨k,rh,rfl⟩:=List.mem_iff_getElem.1 hx
    have:=(di.2.1 3 J).2 (k:Int) J J
    simpa[at_,rh]using this.1
  refine aC (fun R_ env R=>∃(u:Int),∃(ql:Nat),∃(l:List Int),env 10= .int .i64 u∧env 9= .sl ql 0 l.length 1∧env 8= .int .i64 3∧env 5= .int .i64 P∧env 2= .ptr I.n 0∧env 4= .ptr (I.n+1) 0∧R_ ((L.length-u).toNat)∧(0≤u∧u≤L.length)∧(R.get ql=some ⟨l.map (.int .i64),true⟩)∧(τ'.n≤ql∧ql<R.n)∧(l=(L.take u.toNat).filter (fun x=>decide (x/8≠P)))∧((∀y,y<τ'.n→NE y p→R.get y=τ'.get y))∧(R.get p=some ⟨(put b.ah P 0).map (.int .i64),true⟩)) (by rintro R_ env R ⟨u,ql,l,em,e9,e8,e5,e2,e4,cz,hu,gq,HE,df,eF,te⟩;exact⟨_,cz,u,ql,l,em,e9,e8,e5,e2,e4,rfl,hu,gq,HE,df,eF,te⟩) ⟨0,τ'.n,[],aq,aq,aq,aq,aq,aq,trivial,?_,?_,?_,?_,?_,?_⟩ ?_
  rotate_left 6
  rintro m_ env R ⟨u,ql,l,em,e9,e8,e5,e2,e4,rfl,hu,gq,HE,df,eF,te⟩
  ·have gb':=(eF I.n J aD).trans gb
   have PW:=(eF (I.n+1) J aD).trans gr
   have PU:=(eF q J aD).trans gQ
   have Sv:bu .i64 R (.sl q 0 L.length 1) L:=bf J PU rfl
   have tt:l.length≤L.length:=by
    rw[df]
    refine Nat.le_trans (List.length_filter_le _ _) ?_
    simp;omega
   have Z6:L.length≤60:=J
   have QE:NE q ql:=by simp only[NE];omega
   have QF:NE I.n ql∧NE (I.n+1) ql:=by simp only[NE];omega
   obtain⟨zZ,yF⟩:=QF
   by_cases nL:u<L.length
   ·have Ab:0≤at_ L u:=by
     have:=at_mem (ws:=L) (j:=u) ⟨hu.1,nL⟩
     exact lZ _ this
    have hx:(at_ L u).tdiv 8=at_ L u/8:=Int.tdiv_eq_ediv_of_nonneg Ab
    have l9:¬(L.length:Int)≤u:=J
    have hu0:=hu.1
    have BY:=pX (P:=P) hu.1 nL
    have hxr:=mr.2 u
    have HH:IntKind.i64.wrap (at_ L u/8)=at_ L u/8:=wrap_i64 J
    by_cases xO:at_ L u/8=P
    ·simp+contextual (maxSteps:=1000000) (disch:=first|exact dB|fail) [go_sem,int_lt,-Int.not_le,-Int.not_lt,-List.map_set,em,e9,e8,e5,e2,e4,gb',gq,l9,hx,xO]
     exact⟨l,rfl,J,J,J,rfl,J,J,by rw[BY,if_pos xO,List.append_nil];simpa using df,eF,te⟩
    ·simp+contextual (maxSteps:=1000000) (disch:=first|exact dB|fail) [go_sem,int_lt,-Int.not_le,-Int.not_lt,-List.map_set,em,e9,e8,e5,e2,e4,gb',gq,l9,hx,HH,xO]
     exact⟨l++[at_ L u],aV,J,J,J,aV,J,by rw[BY,if_neg xO];congr 1;simpa using df,eF,te⟩
   ·have l9:(L.length:Int)≤u:=J
    simp+contextual (maxSteps:=1000000) (disch:=first|exact dB|fail) [go_sem,int_lt,-Int.not_le,-Int.not_lt,-List.map_set,em,e9,e8,e5,e2,e4,gb',PW,l9]
    have Qr:l=L.filter (fun x=> !decide (x/8=P)):=by
     rw[List.take_of_length_le J]at df
     simpa using df
    rw[←hL,←Qr]
    subst eX
    refine iM.mk' n0 p o i e h0 h1 h2 ql ?_ IP IQ bj lc
    refine iY.gS (iY.gS ?_ J) J
    exact⟨J,J,jf,te,(eF o J bN).trans hO.go,(eF i J bN).trans hO.gi,(eF e J bN).trans hO.ge,(eF h0 J bN).trans hO.g0,(eF h1 J bN).trans hO.g1,(eF h2 J bN).trans hO.g2,gq⟩
  all_goals first
   |omega
   |(simp;done)
   |(first|exact bn|fail)
   |(intro y y1 y2;(first|exact bn|fail))
   |trace_state
theorem Br(I:af)(b:Bk)(n0 p o i e h0 h1 h2 h3:Nat)(a:Int)(hb:iY n0 I b p o i e h0 h1 h2 h3)(hs:dW b)(di:cm b)(ha:0≤a∧a<b.owner.length):
 Fn Tryz.prog 191 [bO b p o i e h0 h1 h2 h3,.int .i64 a] I fun x R=>iM I R p o i e h0 h1 h2 h3 (ej b a) x:=by
 by_cases hk:ch (at_ b.ah (a/8))<0
 ·exact Hb I b n0 p o i e h0 h1 h2 h3 a hb hs di ha hk
 ·have h4:=sm (at_ b.ah (a/8))
  have:at_ b.ah (a/8)=1∨at_ b.ah (a/8)=2∨at_ b.ah (a/8)=3∨at_ b.ah (a/8)=4:=by unfold ch at hk h4;split at hk<;>omega
  rcases this with h|h|h|h
  ·exact G9 I b n0 p o i e h0 h1 h2 h3 a hb hs di ha h
  ·exact G_ I b n0 p o i e h0 h1 h2 h3 a hb hs di ha h
  ·exact G' I b n0 p o i e h0 h1 h2 h3 a hb hs di ha h
  ·exact Ha I b n0 p o i e h0 h1 h2 h3 a hb hs di ha h
end AH
namespace AH
open Go Go.Proofs Ho
set_option maxRecDepth 20000
set_option maxHeartbeats 16000000
theorem pM{kk:IntKind}{R:af}{q:Nat}{xs:List Int}(hq:q<R.n)(hg:R.get q=some ⟨xs.map (.int kk),true⟩)(h0:xs≠[]):bu kk R (.sl q 1 (xs.length-1) 1) xs.tail:=by
 cases xs with
 |nil=>exact absurd rfl h0
 |cons x xs=>
  have:kZ kk R q 1 xs:=⟨hq,_,hg,bX,by simp[List.take_of_length_le]⟩
  exact bu.mk' this
def dT(b:Bk)(slot:Int)(k:Nat):Bk:={b with aj:=cE b.aj k (b.aj k).tail,owner:=put b.owner (at_ (b.aj k) 0) (slot+1)}
theorem jh{n0:Nat}{I R ajT:af}{b:Bk}{slot:Int}{p o i e h0 h1 h2 h3 k0 k1 k2 k3:Nat}(K:Nat)(hK:K=0∨K=1∨K=2∨K=3)(h:iY n0 R b p o i e k0 k1 k2 k3)(gF:b.aj K≠[])
 (hu:ajT.get o=some ⟨(put b.owner (at_ (b.aj K) 0) (slot+1)).map (.int .i64),true⟩) (hf:∀y,y<R.n→NE y o→(y=p∨y=i∨y=e∨y=k0∨y=k1∨y=k2∨y=k3)→ajT.get y=R.get y) (hn:R.n≤ajT.n)
 (hs:I.n≤ajT.n) (jn:∀y,y<I.n→Out y p o i e h0 h1 h2 h3→ajT.get y=I.get y) (kL:∀y,y<I.n→Out y p o i e h0 h1 h2 h3→Out y p o i e k0 k1 k2 k3):
 iM I ajT p o i e h0 h1 h2 h3 (dT b slot K) (bV b (.sl p 0 b.ah.length 1)
  (if K=0 then .sl k0 1 ((b.aj 0).length-1) 1 else .sl k0 0 (b.aj 0).length 1) (if K=1 then .sl k1 1 ((b.aj 1).length-1) 1 else .sl k1 0 (b.aj 1).length 1)
  (if K=2 then .sl k2 1 ((b.aj 2).length-1) 1 else .sl k2 0 (b.aj 2).length 1) (if K=3 then .sl k3 1 ((b.aj 3).length-1) 1 else .sl k3 0 (b.aj 3).length 1)
  (.sl o 0 b.owner.length 1) (.sl i 0 b.cy.length 1) (.sl e 0 b.ao.length 1)):=by
 obtain⟨⟨oP,oQ,oR,n8,qH,qI,qJ,qK⟩,⟨oC,gc,lI,mI,oD,oE,oF,oG⟩,⟨d1,d2,d3,d4,d5,d6,d7,d8,d9,d10,d11,d12,d13,d14,d15,d16,d17,d18,d19,d20,d21,d22,d23,d24,d25,d26,d27,d28⟩,gp,go,gi,ge,g0,g1,g2,g3⟩:=h
 refine⟨_,_,_,_,_,_,_,_,rfl,?_,jn,hs,?_⟩
 rotate_left
 ·intro y hy ho
  obtain⟨a1,a2,a3,a4,a5,a6,a7,a8⟩:=kL y hy ho
  refine⟨.inl a1.sym,?_,?_,?_,?_,.inl a2.sym,.inl a3.sym,.inl a4.sym⟩<;>(split<;>first|exact .inl a5.sym|exact .inl a6.sym|exact .inl a7.sym|exact .inl a8.sym)
 have f:=fun y (hy:y<R.n) (h1:NE y o) h2=>hf y hy h1 h2
 have vp:=bf (kk:= .i64) (xs:=b.ah) J ((f p oC d1 aV).trans gp) rfl
 have vi:=bf (kk:= .i64) (xs:=b.cy) J ((f i lI (NE.sw d8) aV).trans gi) rfl
 have ve:=bf (kk:= .i64) (xs:=b.ao) J ((f e mI (NE.sw d9) aV).trans ge) rfl
 have w0:=(f k0 oD (NE.sw d10) aV).trans g0
 have w1:=(f k1 oE (NE.sw d11) aV).trans g1
 have w2:=(f k2 oF (NE.sw d12) aV).trans g2
 have w3:=(f k3 oG (NE.sw d13) aV).trans g3
 have vo:=bf (kk:= .i64) (xs:=put b.owner (at_ (b.aj K) 0) (slot+1)) J hu (aF _ _ _)
 refine⟨vp,?_,?_,?_,?_,vo,vi,ve⟩
 ·by_cases hk:K=0
  ·subst hk;exact pM J w0 gF
  ·rw[if_neg hk];simp only[dT,cE];rw[if_neg (Ne.symm hk)];exact bf J w0 rfl
 ·by_cases hk:K=1
  ·subst hk;exact pM J w1 gF
  ·rw[if_neg hk];simp only[dT,cE];rw[if_neg (Ne.symm hk)];exact bf J w1 rfl
 ·by_cases hk:K=2
  ·subst hk;exact pM J w2 gF
  ·rw[if_neg hk];simp only[dT,cE];rw[if_neg (Ne.symm hk)];exact bf J w2 rfl
 ·by_cases hk:K=3
  ·subst hk;exact pM J w3 gF
  ·rw[if_neg hk];simp only[dT,cE];rw[if_neg (Ne.symm hk)];exact bf J w3 rfl
def HV(I R:af)(p o i e h0 h1 h2 h3:Nat)(r:Bk×Int×Int)(x:U):Prop:=∃y,x= .cw [y,.int .i64 r.2.1,.int .i64 r.2.2]∧iM I R p o i e h0 h1 h2 h3 r.1 y
theorem Hi(I:af)(b:Bk)(n0 p o i e h0 h1 h2 h3:Nat)(slot aW:Int)(hb:iY n0 I b p o i e h0 h1 h2 h3)(hs:dW b)(hk:bB aW<0):
 Fn Tryz.prog 189 [bO b p o i e h0 h1 h2 h3,.int .i64 slot,.int .i64 aW] I fun x R=>HV I R p o i e h0 h1 h2 h3 (cI b slot aW) x:=by
 refine bA aZ mixed Tryz.func189 (by kernel_rfl) rfl (by kernel_rfl) ?_
 have hm:cI b slot aW=(b,1,0):=by unfold cI;simp only;rw[if_pos hk]
 have eR:=hb
 obtain⟨⟨oP,oQ,oR,n8,qH,qI,qJ,qK⟩,⟨oC,gc,lI,mI,oD,oE,oF,oG⟩,⟨d1,d2,d3,d4,d5,d6,d7,d8,d9,d10,d11,d12,d13,d14,d15,d16,d17,d18,d19,d20,d21,d22,d23,d24,d25,d26,d27,d28⟩,gp,go,gi,ge,g0,g1,g2,g3⟩:=id hb
 rw[hm]
 unfold HV
 simp+contextual (maxSteps:=1000000) (disch:=first|exact dB|fail) [go_sem,int_lt,-Int.not_le,-Int.not_lt,-List.map_set,hk]
 repeat refine Alt.mk ?_
 exact iM.r eR mU bX
theorem Hj(I:af)(b:Bk)(n0 p o i e h0 h1 h2 h3:Nat)(slot aW:Int)(hb:iY n0 I b p o i e h0 h1 h2 h3)(hs:dW b)(di:cm b)(gG:0≤slot∧slot≤10)(hk:bB aW=4):
 Fn Tryz.prog 189 [bO b p o i e h0 h1 h2 h3,.int .i64 slot,.int .i64 aW] I fun x R=>HV I R p o i e h0 h1 h2 h3 (cI b slot aW) x:=by
 refine bA aZ mixed Tryz.func189 (by kernel_rfl) rfl (by kernel_rfl) ?_
 have hu:=(mT aW).2.2 hk
 have eR:=hb
 have hl:=di.1.1
 have hq:(aW+7).tdiv 8=(aW+7)/8:=Int.tdiv_eq_ediv_of_nonneg J
 have yF:(aW+8-1).tdiv 8=(aW+7)/8:=by rw[show aW+8-1=aW+7 by omega];exact hq
 obtain⟨n,hn⟩:∃n,(aW+7)/8=n:=⟨_,rfl⟩
 rw[hn]at hq yF
 have hnr:2≤n∧n≤4:=J
 have hm:cI b slot aW=if cf b.ah n<0 then(b,2,0)else({b with ah:=gD (put b.ah (cf b.ah n) (8+n)) (cf b.ah n+1) 7 (n.toNat-1),owner:=put b.owner (cf b.ah n*8) (slot+1)},0,cf b.ah n*8):=by
  unfold cI;simp only[hn];rw[if_neg J,if_pos hk]
 obtain⟨⟨oP,oQ,oR,n8,qH,qI,qJ,qK⟩,⟨oC,gc,lI,mI,oD,oE,oF,oG⟩,⟨d1,d2,d3,d4,d5,d6,d7,d8,d9,d10,d11,d12,d13,d14,d15,d16,d17,d18,d19,d20,d21,d22,d23,d24,d25,d26,d27,d28⟩,gp,go,gi,ge,g0,g1,g2,g3⟩:=id hb
 simp+contextual (maxSteps:=1000000) (disch:=first|exact dB|fail) [go_sem,int_lt,-Int.not_le,-Int.not_lt,-List.map_set,hk,hq,yF]
 repeat refine Alt.mk ?_
 refine aw (Hd _ b n0 p o i e h0 h1 h2 h3 slot n (eR.frame mU bX) hs J J J gG) ?_
 rintro v R lZ ⟨y,cd,mG,rfl,T'⟩
 have gy:Out (I.n+1) p o i e h0 h1 h2 h3:=by constructor<;>(simp only[NE];omega)
 obtain⟨b2,c2,n2,hr,hB⟩:∃b2 c2 n2,(if cf b.ah n<0 then(b,2,0)else({b with ah:=gD (put b.ah (cf b.ah n) (8+n)) (cf b.ah n+1) 7 (n.toNat-1),owner:=put b.owner (cf b.ah n*8) (slot+1)},0,cf b.ah n*8))=(b2,c2,n2)∧cd=c2∧mG=n2∧iM ((I.push ⟨[.int .i64 b.am,.sl p 0 b.ah.length 1,.sl h0 0 (b.aj 0).length 1,.sl h1 0 (b.aj 1).length 1,.sl h2 0 (b.aj 2).length 1,.sl h3 0 (b.aj 3).length 1,.sl o 0 b.owner.length 1,.sl i 0 b.cy.length 1,.sl e 0 b.ao.length 1],true⟩).push ⟨[.int .i64 0,.al,.al,.al,.al,.al,.al,.al,.al],true⟩) R p o i e h0 h1 h2 h3 b2 y:=by
  rcases T' with⟨x1,x2,x3,x4⟩|⟨x1,x2,x3,x4⟩
  ·exact⟨_,_,_,if_pos x1,x2,x3,x4⟩
  ·exact⟨_,_,_,if_neg J,x2,x3,x4⟩
 obtain⟨rfl,rfl,hB⟩:=hB
 have Gl:=fun X=>hB.up (I:=I) (j:=I.n+1) (X:=X) mU bX aV gy
 have C_:=hB
 obtain⟨pv,k0,k1,k2,k3,ov,iv,ev,rfl,hv,hf,fz,ha⟩:=hB
 have nJ:=hf (I.n+1) aV gy
 rw[aU _ aV]at nJ
 obtain⟨i1,i2,i3,i4,i5,i6,i7,i8⟩:ey pv∧ey k0∧ey k1∧ey k2∧ey k3∧ey ov∧ey iv∧ey ev:=⟨hv.p.aQ,hv.h0.aQ,hv.h1.aQ,hv.h2.aQ,hv.h3.aQ,hv.o.aQ,hv.i.aQ,hv.e.aQ⟩
 have hT:cI b slot aW=(b2,cd,mG):=by rw[hm];exact hr
 simp+contextual (maxSteps:=1000000) (disch:=first|exact dB|fail) [go_sem,int_lt,-Int.not_le,-Int.not_lt,-List.map_set,nJ]
 rw[hT]
 exact⟨_,rfl,Gl _⟩
theorem He(I:af)(b:Bk)(n0 p o i e h0 h1 h2 h3:Nat)(slot aW:Int)(hb:iY n0 I b p o i e h0 h1 h2 h3)(hs:dW b)(di:cm b)(gG:0≤slot∧slot≤10)(hk:bB aW=0):
 Fn Tryz.prog 189 [bO b p o i e h0 h1 h2 h3,.int .i64 slot,.int .i64 aW] I fun x R=>HV I R p o i e h0 h1 h2 h3 (cI b slot aW) x:=by
 refine bA aZ mixed Tryz.func189 (by kernel_rfl) rfl (by kernel_rfl) ?_
 have eR:=hb
 have hv:=hb.v
 have hl:=di.1.1
 have MU:=f_ di hs 0 J
 have gy:Out (I.n+1) p o i e h0 h1 h2 h3:=by
  obtain⟨⟨oP,oQ,oR,n8,qH,qI,qJ,qK⟩,⟨oC,gc,lI,mI,oD,oE,oF,oG⟩,⟨d1,d2,d3,d4,d5,d6,d7,d8,d9,d10,d11,d12,d13,d14,d15,d16,d17,d18,d19,d20,d21,d22,d23,d24,d25,d26,d27,d28⟩,gp,go,gi,ge,g0,g1,g2,g3⟩:=id hb
  constructor<;>(simp only[NE];omega)
 have tz:Out I.n p o i e h0 h1 h2 h3:=by
  obtain⟨⟨oP,oQ,oR,n8,qH,qI,qJ,qK⟩,⟨oC,gc,lI,mI,oD,oE,oF,oG⟩,⟨d1,d2,d3,d4,d5,d6,d7,d8,d9,d10,d11,d12,d13,d14,d15,d16,d17,d18,d19,d20,d21,d22,d23,d24,d25,d26,d27,d28⟩,gp,go,gi,ge,g0,g1,g2,g3⟩:=id hb
  constructor<;>(simp only[NE];omega)
 have hm:cI b slot aW=if b.aj 0=[]then(if cf b.ah 1<0 then(b,2,0)else(dT (bC b (cf b.ah 1) 0) slot 0,0,at_ ((bC b (cf b.ah 1) 0).aj 0) 0))else(dT b slot 0,0,at_ (b.aj 0) 0):=by
  unfold cI dT;simp only[hk];rw[if_neg J,if_neg J];rfl
 have qg:∀y,y<I.n→((I.push ⟨[.int .i64 b.am,.sl p 0 b.ah.length 1,.sl h0 0 (b.aj 0).length 1,.sl h1 0 (b.aj 1).length 1,.sl h2 0 (b.aj 2).length 1,.sl h3 0 (b.aj 3).length 1,.sl o 0 b.owner.length 1,.sl i 0 b.cy.length 1,.sl e 0 b.ao.length 1],true⟩).push ⟨[.int .i64 0,.al,.al,.al,.al,.al,.al,.al,.al],true⟩).get y=I.get y:=by intro y hy;rw[ak bX,ak hy]
 obtain⟨⟨oP,oQ,oR,n8,qH,qI,qJ,qK⟩,⟨oC,gc,lI,mI,oD,oE,oF,oG⟩,⟨d1,d2,d3,d4,d5,d6,d7,d8,d9,d10,d11,d12,d13,d14,d15,d16,d17,d18,d19,d20,d21,d22,d23,d24,d25,d26,d27,d28⟩,gp,go,gi,ge,g0,g1,g2,g3⟩:=id hb
 obtain⟨n,hn⟩:∃n,(b.aj 0).length=n:=⟨_,rfl⟩
 simp only[bO,bV,hn]
 by_cases hE:b.aj 0=[]
 ·have oH:n=0:=by rw[←hn,hE];rfl
  subst oH
  have Jl:bO b p o i e h0 h1 h2 h3= .agg [.int .i64 b.am,.sl p 0 b.ah.length 1,.sl h0 0 0 1,.sl h1 0 (b.aj 1).length 1,.sl h2 0 (b.aj 2).length 1,.sl h3 0 (b.aj 3).length 1,.sl o 0 b.owner.length 1,.sl i 0 b.cy.length 1,.sl e 0 b.ao.length 1]:=by simp only[bO,bV,hn]
  rw[hn]at hv
  have Gj:=ie b.ah 1
  obtain⟨r,hr⟩:∃r,cf b.ah 1=r:=⟨_,rfl⟩
  rw[hr]at Gj hm
  by_cases oK:r<0
  ·have hT:cI b slot aW=(b,2,0):=by rw[hm,if_pos hE,if_pos oK]
   simp+contextual (maxSteps:=1000000) (disch:=first|exact dB|fail) [go_sem,int_lt,-Int.not_le,-Int.not_lt,-List.map_set,hk,hr,oK]
   repeat refine Alt.mk ?_
   rw[hT]
   refine⟨bO b p o i e h0 h1 h2 h3,by rw[Jl],iM.r eR mU bX⟩
  ·have Dp:0≤r:=J
   have hT:cI b slot aW=(dT (bC b r 0) slot 0,0,at_ ((bC b r 0).aj 0) 0):=by rw[hm,if_pos hE,if_neg oK]
   simp+contextual (maxSteps:=1000000) (disch:=first|exact dB|fail) [go_sem,int_lt,-Int.not_le,-Int.not_lt,-List.map_set,hk,hr,oK]
   repeat refine Alt.mk ?_
   rw[←Jl]
   refine aw (Ea _ b n0 p o i e h0 h1 h2 h3 r (eR.frame mU bX) hs J J J) ?_
   rintro v R lZ ⟨q,rfl,hB,hf,fz,tC⟩
   have nJ:=hf (I.n+1) aV gy
   have rc:=hf I.n bG tz
   rw[aU _ aV]at nJ
   rw[ak aV,aU _ rfl]at rc
   simp only[au]at fz tC
   have zZ:NE q I.n∧NE q (I.n+1):=by simp only[NE];omega
   obtain⟨zZ,yF⟩:=zZ
   have hC:(bC b r 0).aj 0=dj r 0:=by simp[bC,cE,hE]
   have zP:dj r 0=[r*8+((0:Nat):Int)*((1:Nat):Int),r*8+((1:Nat):Int)*((1:Nat):Int),r*8+((2:Nat):Int)*((1:Nat):Int),r*8+((3:Nat):Int)*((1:Nat):Int),r*8+((4:Nat):Int)*((1:Nat):Int),r*8+((5:Nat):Int)*((1:Nat):Int),r*8+((6:Nat):Int)*((1:Nat):Int),r*8+((7:Nat):Int)*((1:Nat):Int)]:=by rw[ia r 0 1 rfl];rfl
   have Hy:(dj r 0).length=8:=by rw[zP];rfl
   have pf:at_ (dj r 0) 0=r*8:=by rw[zP];simp[at_]
   have gq:=hB.g0
   have I_:=hB.go
   rw[hC]at gq
   have go':(bC b r 0).owner=b.owner:=rfl
   rw[go']at I_
   have xv:((dj r 0).map (U.int .i64))[0]? =some (.int .i64 (r*8)):=by rw[←pf];exact fT (a:=0) J IR
   have xw:∀h,(dj r 0)[0]'h=r*8:=fun h=>by rw[←pf];simp only[at_,Int.toNat_zero];rw[List.getD_eq_getElem?_getD,List.getElem?_eq_getElem h];rfl
   have rZ:0≤r*8:=J
   have oI:¬(b.owner.length:Int)≤r*8:=J
   have Qb:bO (bC b r 0) p o i e q h1 h2 h3= .agg [.int .i64 b.am,.sl p 0 b.ah.length 1,.sl q 0 8 1,.sl h1 0 (b.aj 1).length 1,.sl h2 0 (b.aj 2).length 1,.sl h3 0 (b.aj 3).length 1,.sl o 0 b.owner.length 1,.sl i 0 b.cy.length 1,.sl e 0 b.ao.length 1]:=by simp[bC,aF,cE,hE,Hy]
   rw[Qb]
   simp+contextual (maxSteps:=1000000) (disch:=first|exact dB|fail) [go_sem,int_lt,-Int.not_le,-Int.not_lt,-List.map_set,-List.getElem?_map,nJ,rc,gq,I_,xv,xw,rZ,oI]
   rw[hT]
   have Qy:(bC b r 0).aj 0≠[]:=by rw[hC,zP];simp
   refine⟨_,?_,jh (R:=R) 0 J hB Qy ?_ ?_ bj bj ?_ ?_⟩
   ·simp[hC,Hy,pf,bC,cE,aF,hE]
   ·rw[hC,pf,go'];(first|exact bn|fail)
   ·intro y hy y1 y2
    rcases y2 with y2|y2|y2|y2|y2|y2|y2<;>(rw[y2]at y1⊢;simp(disch:=first|exact NE.ne bZ|exact NE.sym bZ|omega) only[ai])
   ·intro y hy tA
    rw[ai J,ai tA.o.ne,ai J,hf y bG tA,ak bG,ak hy]
   ·intro y hy ho
    obtain⟨z1,z2,z3,z4,z5,z6,z7,z8⟩:=ho
    refine⟨?_,?_,?_,?_,?_,?_,?_,?_⟩<;>first|assumption|(rcases tC with h|h;(rw[h];assumption);(simp only[NE];omega))
 ·have hT:cI b slot aW=(dT b slot 0,0,at_ (b.aj 0) 0):=by rw[hm,if_neg hE]
  have Z3:¬(b.aj 0).length=0:=fun h=>hE (List.eq_nil_of_length_eq_zero h)
  have MM:¬n=0:=J
  have Z4:1≤(n:Int):=J
  have BS:=(di.2.1 0 J).2 0 J J
  have xv:((b.aj 0).map (U.int .i64))[0]? =some (.int .i64 (at_ (b.aj 0) 0)):=fT (a:=0) J J
  obtain⟨u,hu⟩:∃u,at_ (b.aj 0) 0=u:=⟨_,rfl⟩
  have xw:∀h,(b.aj 0)[0]'h=u:=fun h=>by rw[←hu];simp only[at_,Int.toNat_zero];rw[List.getD_eq_getElem?_getD,List.getElem?_eq_getElem h];rfl
  rw[hu]at BS xv
  have rZ:0≤u:=BS.1
  have oI:¬(b.owner.length:Int)≤u:=J
  simp+contextual (maxSteps:=1000000) (disch:=first|exact dB|fail) [go_sem,int_lt,-Int.not_le,-Int.not_lt,-List.map_set,-List.getElem?_map,hk,MM,g0,go,xv,xw,rZ,oI]
  repeat refine Alt.mk ?_
  rw[hT]
  have hoN:o<I.n:=gc
  subst hn
  refine⟨_,?_,jh (R:=I) 0 J eR hE ?_ ?_ mV mV ?_ (fun _ _ h=>h)⟩
  ·simp[hu]
  ·rw[hu];(first|exact bn|fail)
  ·intro y hy y1 y2
   rw[ak bc,ak bj,ai y1.ne]
  ·intro y hy tA
   rw[ak bc,ak bj,ai tA.o.ne]
theorem Hf(I:af)(b:Bk)(n0 p o i e h0 h1 h2 h3:Nat)(slot aW:Int)(hb:iY n0 I b p o i e h0 h1 h2 h3)(hs:dW b)(di:cm b)(gG:0≤slot∧slot≤10)(hk:bB aW=1):
 Fn Tryz.prog 189 [bO b p o i e h0 h1 h2 h3,.int .i64 slot,.int .i64 aW] I fun x R=>HV I R p o i e h0 h1 h2 h3 (cI b slot aW) x:=by
 refine bA aZ mixed Tryz.func189 (by kernel_rfl) rfl (by kernel_rfl) ?_
 have eR:=hb
 have hv:=hb.v
 have hl:=di.1.1
 have MU:=f_ di hs 1 J
 have gy:Out (I.n+1) p o i e h0 h1 h2 h3:=by
  obtain⟨⟨oP,oQ,oR,n8,qH,qI,qJ,qK⟩,⟨oC,gc,lI,mI,oD,oE,oF,oG⟩,⟨d1,d2,d3,d4,d5,d6,d7,d8,d9,d10,d11,d12,d13,d14,d15,d16,d17,d18,d19,d20,d21,d22,d23,d24,d25,d26,d27,d28⟩,gp,go,gi,ge,g0,g1,g2,g3⟩:=id hb
  constructor<;>(simp only[NE];omega)
 have tz:Out I.n p o i e h0 h1 h2 h3:=by
  obtain⟨⟨oP,oQ,oR,n8,qH,qI,qJ,qK⟩,⟨oC,gc,lI,mI,oD,oE,oF,oG⟩,⟨d1,d2,d3,d4,d5,d6,d7,d8,d9,d10,d11,d12,d13,d14,d15,d16,d17,d18,d19,d20,d21,d22,d23,d24,d25,d26,d27,d28⟩,gp,go,gi,ge,g0,g1,g2,g3⟩:=id hb
  constructor<;>(simp only[NE];omega)
 have hm:cI b slot aW=if b.aj 1=[]then(if cf b.ah 1<0 then(b,2,0)else(dT (bC b (cf b.ah 1) 1) slot 1,0,at_ ((bC b (cf b.ah 1) 1).aj 1) 0))else(dT b slot 1,0,at_ (b.aj 1) 0):=by
  unfold cI dT;simp only[hk];rw[if_neg J,if_neg J];rfl
 have qg:∀y,y<I.n→((I.push ⟨[.int .i64 b.am,.sl p 0 b.ah.length 1,.sl h0 0 (b.aj 0).length 1,.sl h1 0 (b.aj 1).length 1,.sl h2 0 (b.aj 2).length 1,.sl h3 0 (b.aj 3).length 1,.sl o 0 b.owner.length 1,.sl i 0 b.cy.length 1,.sl e 0 b.ao.length 1],true⟩).push ⟨[.int .i64 0,.al,.al,.al,.al,.al,.al,.al,.al],true⟩).get y=I.get y:=by intro y hy;rw[ak bX,ak hy]
 obtain⟨⟨oP,oQ,oR,n8,qH,qI,qJ,qK⟩,⟨oC,gc,lI,mI,oD,oE,oF,oG⟩,⟨d1,d2,d3,d4,d5,d6,d7,d8,d9,d10,d11,d12,d13,d14,d15,d16,d17,d18,d19,d20,d21,d22,d23,d24,d25,d26,d27,d28⟩,gp,go,gi,ge,g0,g1,g2,g3⟩:=id hb
 obtain⟨n,hn⟩:∃n,(b.aj 1).length=n:=⟨_,rfl⟩
 simp only[bO,bV,hn]
 by_cases hE:b.aj 1=[]
 ·have oH:n=0:=by rw[←hn,hE];rfl
  subst oH
  have Jl:bO b p o i e h0 h1 h2 h3= .agg [.int .i64 b.am,.sl p 0 b.ah.length 1,.sl h0 0 (b.aj 0).length 1,.sl h1 0 0 1,.sl h2 0 (b.aj 2).length 1,.sl h3 0 (b.aj 3).length 1,.sl o 0 b.owner.length 1,.sl i 0 b.cy.length 1,.sl e 0 b.ao.length 1]:=by simp only[bO,bV,hn]
  rw[hn]at hv
  have Gj:=ie b.ah 1
  obtain⟨r,hr⟩:∃r,cf b.ah 1=r:=⟨_,rfl⟩
  rw[hr]at Gj hm
  by_cases oK:r<0
  ·have hT:cI b slot aW=(b,2,0):=by rw[hm,if_pos hE,if_pos oK]
   simp+contextual (maxSteps:=1000000) (disch:=first|exact dB|fail) [go_sem,int_lt,-Int.not_le,-Int.not_lt,-List.map_set,hk,hr,oK]
   repeat refine Alt.mk ?_
   rw[hT]
   refine⟨bO b p o i e h0 h1 h2 h3,by rw[Jl],iM.r eR mU bX⟩
  ·have Dp:0≤r:=J
   have hT:cI b slot aW=(dT (bC b r 1) slot 1,0,at_ ((bC b r 1).aj 1) 0):=by rw[hm,if_pos hE,if_neg oK]
   simp+contextual (maxSteps:=1000000) (disch:=first|exact dB|fail) [go_sem,int_lt,-Int.not_le,-Int.not_lt,-List.map_set,hk,hr,oK]
   repeat refine Alt.mk ?_
   rw[←Jl]
   refine aw (Eb _ b n0 p o i e h0 h1 h2 h3 r (eR.frame mU bX) hs J J J) ?_
   rintro v R lZ ⟨q,rfl,hB,hf,fz,tC⟩
   have nJ:=hf (I.n+1) aV gy
   have rc:=hf I.n bG tz
   rw[aU _ aV]at nJ
   rw[ak aV,aU _ rfl]at rc
   simp only[au]at fz tC
   have zZ:NE q I.n∧NE q (I.n+1):=by simp only[NE];omega
   obtain⟨zZ,yF⟩:=zZ
   have hC:(bC b r 1).aj 1=dj r 1:=by simp[bC,cE,hE]
   have zP:dj r 1=[r*8+((0:Nat):Int)*((2:Nat):Int),r*8+((1:Nat):Int)*((2:Nat):Int),r*8+((2:Nat):Int)*((2:Nat):Int),r*8+((3:Nat):Int)*((2:Nat):Int)]:=by rw[ia r 1 2 rfl];rfl
   have Hy:(dj r 1).length=4:=by rw[zP];rfl
   have pf:at_ (dj r 1) 0=r*8:=by rw[zP];simp[at_]
   have gq:=hB.g1
   have I_:=hB.go
   rw[hC]at gq
   have go':(bC b r 1).owner=b.owner:=rfl
   rw[go']at I_
   have xv:((dj r 1).map (U.int .i64))[0]? =some (.int .i64 (r*8)):=by rw[←pf];exact fT (a:=0) J IR
   have xw:∀h,(dj r 1)[0]'h=r*8:=fun h=>by rw[←pf];simp only[at_,Int.toNat_zero];rw[List.getD_eq_getElem?_getD,List.getElem?_eq_getElem h];rfl
   have rZ:0≤r*8:=J
   have oI:¬(b.owner.length:Int)≤r*8:=J
   have Qb:bO (bC b r 1) p o i e h0 q h2 h3= .agg [.int .i64 b.am,.sl p 0 b.ah.length 1,.sl h0 0 (b.aj 0).length 1,.sl q 0 4 1,.sl h2 0 (b.aj 2).length 1,.sl h3 0 (b.aj 3).length 1,.sl o 0 b.owner.length 1,.sl i 0 b.cy.length 1,.sl e 0 b.ao.length 1]:=by simp[bC,aF,cE,hE,Hy]
   rw[Qb]
   simp+contextual (maxSteps:=1000000) (disch:=first|exact dB|fail) [go_sem,int_lt,-Int.not_le,-Int.not_lt,-List.map_set,-List.getElem?_map,nJ,rc,gq,I_,xv,xw,rZ,oI]
   rw[hT]
   have Qy:(bC b r 1).aj 1≠[]:=by rw[hC,zP];simp
   refine⟨_,?_,jh (R:=R) 1 J hB Qy ?_ ?_ bj bj ?_ ?_⟩
   ·simp[hC,Hy,pf,bC,cE,aF,hE]
   ·rw[hC,pf,go'];(first|exact bn|fail)
   ·intro y hy y1 y2
    rcases y2 with y2|y2|y2|y2|y2|y2|y2<;>(rw[y2]at y1⊢;simp(disch:=first|exact NE.ne bZ|exact NE.sym bZ|omega) only[ai])
   ·intro y hy tA
    rw[ai J,ai tA.o.ne,ai J,hf y bG tA,ak bG,ak hy]
   ·intro y hy ho
    obtain⟨z1,z2,z3,z4,z5,z6,z7,z8⟩:=ho
    refine⟨?_,?_,?_,?_,?_,?_,?_,?_⟩<;>first|assumption|(rcases tC with h|h;(rw[h];assumption);(simp only[NE];omega))
 ·have hT:cI b slot aW=(dT b slot 1,0,at_ (b.aj 1) 0):=by rw[hm,if_neg hE]
  have Z3:¬(b.aj 1).length=0:=fun h=>hE (List.eq_nil_of_length_eq_zero h)
  have MM:¬n=0:=J
  have Z4:1≤(n:Int):=J
  have BS:=(di.2.1 1 J).2 0 J J
  have xv:((b.aj 1).map (U.int .i64))[0]? =some (.int .i64 (at_ (b.aj 1) 0)):=fT (a:=0) J J
  obtain⟨u,hu⟩:∃u,at_ (b.aj 1) 0=u:=⟨_,rfl⟩
  have xw:∀h,(b.aj 1)[0]'h=u:=fun h=>by rw[←hu];simp only[at_,Int.toNat_zero];rw[List.getD_eq_getElem?_getD,List.getElem?_eq_getElem h];rfl
  rw[hu]at BS xv
  have rZ:0≤u:=BS.1
  have oI:¬(b.owner.length:Int)≤u:=J
  simp+contextual (maxSteps:=1000000) (disch:=first|exact dB|fail) [go_sem,int_lt,-Int.not_le,-Int.not_lt,-List.map_set,-List.getElem?_map,hk,MM,g1,go,xv,xw,rZ,oI]
  repeat refine Alt.mk ?_
  rw[hT]
  have hoN:o<I.n:=gc
  subst hn
  refine⟨_,?_,jh (R:=I) 1 J eR hE ?_ ?_ mV mV ?_ (fun _ _ h=>h)⟩
  ·simp[hu]
  ·rw[hu];(first|exact bn|fail)
  ·intro y hy y1 y2
   rw[ak bc,ak bj,ai y1.ne]
  ·intro y hy tA
   rw[ak bc,ak bj,ai tA.o.ne]
theorem Hg(I:af)(b:Bk)(n0 p o i e h0 h1 h2 h3:Nat)(slot aW:Int)(hb:iY n0 I b p o i e h0 h1 h2 h3)(hs:dW b)(di:cm b)(gG:0≤slot∧slot≤10)(hk:bB aW=2):
 Fn Tryz.prog 189 [bO b p o i e h0 h1 h2 h3,.int .i64 slot,.int .i64 aW] I fun x R=>HV I R p o i e h0 h1 h2 h3 (cI b slot aW) x:=by
 refine bA aZ mixed Tryz.func189 (by kernel_rfl) rfl (by kernel_rfl) ?_
 have eR:=hb
 have hv:=hb.v
 have hl:=di.1.1
 have MU:=f_ di hs 2 J
 have gy:Out (I.n+1) p o i e h0 h1 h2 h3:=by
  obtain⟨⟨oP,oQ,oR,n8,qH,qI,qJ,qK⟩,⟨oC,gc,lI,mI,oD,oE,oF,oG⟩,⟨d1,d2,d3,d4,d5,d6,d7,d8,d9,d10,d11,d12,d13,d14,d15,d16,d17,d18,d19,d20,d21,d22,d23,d24,d25,d26,d27,d28⟩,gp,go,gi,ge,g0,g1,g2,g3⟩:=id hb
  constructor<;>(simp only[NE];omega)
 have tz:Out I.n p o i e h0 h1 h2 h3:=by
  obtain⟨⟨oP,oQ,oR,n8,qH,qI,qJ,qK⟩,⟨oC,gc,lI,mI,oD,oE,oF,oG⟩,⟨d1,d2,d3,d4,d5,d6,d7,d8,d9,d10,d11,d12,d13,d14,d15,d16,d17,d18,d19,d20,d21,d22,d23,d24,d25,d26,d27,d28⟩,gp,go,gi,ge,g0,g1,g2,g3⟩:=id hb
  constructor<;>(simp only[NE];omega)
 have hm:cI b slot aW=if b.aj 2=[]then(if cf b.ah 1<0 then(b,2,0)else(dT (bC b (cf b.ah 1) 2) slot 2,0,at_ ((bC b (cf b.ah 1) 2).aj 2) 0))else(dT b slot 2,0,at_ (b.aj 2) 0):=by
  unfold cI dT;simp only[hk];rw[if_neg J,if_neg J];rfl
 have qg:∀y,y<I.n→((I.push ⟨[.int .i64 b.am,.sl p 0 b.ah.length 1,.sl h0 0 (b.aj 0).length 1,.sl h1 0 (b.aj 1).length 1,.sl h2 0 (b.aj 2).length 1,.sl h3 0 (b.aj 3).length 1,.sl o 0 b.owner.length 1,.sl i 0 b.cy.length 1,.sl e 0 b.ao.length 1],true⟩).push ⟨[.int .i64 0,.al,.al,.al,.al,.al,.al,.al,.al],true⟩).get y=I.get y:=by intro y hy;rw[ak bX,ak hy]
 obtain⟨⟨oP,oQ,oR,n8,qH,qI,qJ,qK⟩,⟨oC,gc,lI,mI,oD,oE,oF,oG⟩,⟨d1,d2,d3,d4,d5,d6,d7,d8,d9,d10,d11,d12,d13,d14,d15,d16,d17,d18,d19,d20,d21,d22,d23,d24,d25,d26,d27,d28⟩,gp,go,gi,ge,g0,g1,g2,g3⟩:=id hb
 obtain⟨n,hn⟩:∃n,(b.aj 2).length=n:=⟨_,rfl⟩
 simp only[bO,bV,hn]
 by_cases hE:b.aj 2=[]
 ·have oH:n=0:=by rw[←hn,hE];rfl
  subst oH
  have Jl:bO b p o i e h0 h1 h2 h3= .agg [.int .i64 b.am,.sl p 0 b.ah.length 1,.sl h0 0 (b.aj 0).length 1,.sl h1 0 (b.aj 1).length 1,.sl h2 0 0 1,.sl h3 0 (b.aj 3).length 1,.sl o 0 b.owner.length 1,.sl i 0 b.cy.length 1,.sl e 0 b.ao.length 1]:=by simp only[bO,bV,hn]
  rw[hn]at hv
  have Gj:=ie b.ah 1
  obtain⟨r,hr⟩:∃r,cf b.ah 1=r:=⟨_,rfl⟩
  rw[hr]at Gj hm
  by_cases oK:r<0
  ·have hT:cI b slot aW=(b,2,0):=by rw[hm,if_pos hE,if_pos oK]
   simp+contextual (maxSteps:=1000000) (disch:=first|exact dB|fail) [go_sem,int_lt,-Int.not_le,-Int.not_lt,-List.map_set,hk,hr,oK]
   repeat refine Alt.mk ?_
   rw[hT]
   refine⟨bO b p o i e h0 h1 h2 h3,by rw[Jl],iM.r eR mU bX⟩
  ·have Dp:0≤r:=J
   have hT:cI b slot aW=(dT (bC b r 2) slot 2,0,at_ ((bC b r 2).aj 2) 0):=by rw[hm,if_pos hE,if_neg oK]
   simp+contextual (maxSteps:=1000000) (disch:=first|exact dB|fail) [go_sem,int_lt,-Int.not_le,-Int.not_lt,-List.map_set,hk,hr,oK]
   repeat refine Alt.mk ?_
   rw[←Jl]
   refine aw (Ec _ b n0 p o i e h0 h1 h2 h3 r (eR.frame mU bX) hs J J J) ?_
   rintro v R lZ ⟨q,rfl,hB,hf,fz,tC⟩
   have nJ:=hf (I.n+1) aV gy
   have rc:=hf I.n bG tz
   rw[aU _ aV]at nJ
   rw[ak aV,aU _ rfl]at rc
   simp only[au]at fz tC
   have zZ:NE q I.n∧NE q (I.n+1):=by simp only[NE];omega
   obtain⟨zZ,yF⟩:=zZ
   have hC:(bC b r 2).aj 2=dj r 2:=by simp[bC,cE,hE]
   have zP:dj r 2=[r*8+((0:Nat):Int)*((4:Nat):Int),r*8+((1:Nat):Int)*((4:Nat):Int)]:=by rw[ia r 2 4 rfl];rfl
   have Hy:(dj r 2).length=2:=by rw[zP];rfl
   have pf:at_ (dj r 2) 0=r*8:=by rw[zP];simp[at_]
   have gq:=hB.g2
   have I_:=hB.go
   rw[hC]at gq
   have go':(bC b r 2).owner=b.owner:=rfl
   rw[go']at I_
   have xv:((dj r 2).map (U.int .i64))[0]? =some (.int .i64 (r*8)):=by rw[←pf];exact fT (a:=0) J IR
   have xw:∀h,(dj r 2)[0]'h=r*8:=fun h=>by rw[←pf];simp only[at_,Int.toNat_zero];rw[List.getD_eq_getElem?_getD,List.getElem?_eq_getElem h];rfl
   have rZ:0≤r*8:=J
   have oI:¬(b.owner.length:Int)≤r*8:=J
   have Qb:bO (bC b r 2) p o i e h0 h1 q h3= .agg [.int .i64 b.am,.sl p 0 b.ah.length 1,.sl h0 0 (b.aj 0).length 1,.sl h1 0 (b.aj 1).length 1,.sl q 0 2 1,.sl h3 0 (b.aj 3).length 1,.sl o 0 b.owner.length 1,.sl i 0 b.cy.length 1,.sl e 0 b.ao.length 1]:=by simp[bC,aF,cE,hE,Hy]
   rw[Qb]
   simp+contextual (maxSteps:=1000000) (disch:=first|exact dB|fail) [go_sem,int_lt,-Int.not_le,-Int.not_lt,-List.map_set,-List.getElem?_map,nJ,rc,gq,I_,xv,xw,rZ,oI]
   rw[hT]
   have Qy:(bC b r 2).aj 2≠[]:=by rw[hC,zP];simp
   refine⟨_,?_,jh (R:=R) 2 J hB Qy ?_ ?_ bj bj ?_ ?_⟩
   ·simp[hC,Hy,pf,bC,cE,aF,hE]
   ·rw[hC,pf,go'];(first|exact bn|fail)
   ·intro y hy y1 y2
    rcases y2 with y2|y2|y2|y2|y2|y2|y2<;>(rw[y2]at y1⊢;simp(disch:=first|exact NE.ne bZ|exact NE.sym bZ|omega) only[ai])
   ·intro y hy tA
    rw[ai J,ai tA.o.ne,ai J,hf y bG tA,ak bG,ak hy]
   ·intro y hy ho
    obtain⟨z1,z2,z3,z4,z5,z6,z7,z8⟩:=ho
    refine⟨?_,?_,?_,?_,?_,?_,?_,?_⟩<;>first|assumption|(rcases tC with h|h;(rw[h];assumption);(simp only[NE];omega))
 ·have hT:cI b slot aW=(dT b slot 2,0,at_ (b.aj 2) 0):=by rw[hm,if_neg hE]
  have Z3:¬(b.aj 2).length=0:=fun h=>hE (List.eq_nil_of_length_eq_zero h)
  have MM:¬n=0:=J
  have Z4:1≤(n:Int):=J
  have BS:=(di.2.1 2 J).2 0 J J
  have xv:((b.aj 2).map (U.int .i64))[0]? =some (.int .i64 (at_ (b.aj 2) 0)):=fT (a:=0) J J
  obtain⟨u,hu⟩:∃u,at_ (b.aj 2) 0=u:=⟨_,rfl⟩
  have xw:∀h,(b.aj 2)[0]'h=u:=fun h=>by rw[←hu];simp only[at_,Int.toNat_zero];rw[List.getD_eq_getElem?_getD,List.getElem?_eq_getElem h];rfl
  rw[hu]at BS xv
  have rZ:0≤u:=BS.1
  have oI:¬(b.owner.length:Int)≤u:=J
  simp+contextual (maxSteps:=1000000) (disch:=first|exact dB|fail) [go_sem,int_lt,-Int.not_le,-Int.not_lt,-List.map_set,-List.getElem?_map,hk,MM,g2,go,xv,xw,rZ,oI]
  repeat refine Alt.mk ?_
  rw[hT]
  have hoN:o<I.n:=gc
  subst hn
  refine⟨_,?_,jh (R:=I) 2 J eR hE ?_ ?_ mV mV ?_ (fun _ _ h=>h)⟩
  ·simp[hu]
  ·rw[hu];(first|exact bn|fail)
  ·intro y hy y1 y2
   rw[ak bc,ak bj,ai y1.ne]
  ·intro y hy tA
   rw[ak bc,ak bj,ai tA.o.ne]
theorem Hh(I:af)(b:Bk)(n0 p o i e h0 h1 h2 h3:Nat)(slot aW:Int)(hb:iY n0 I b p o i e h0 h1 h2 h3)(hs:dW b)(di:cm b)(gG:0≤slot∧slot≤10)(hk:bB aW=3):
 Fn Tryz.prog 189 [bO b p o i e h0 h1 h2 h3,.int .i64 slot,.int .i64 aW] I fun x R=>HV I R p o i e h0 h1 h2 h3 (cI b slot aW) x:=by
 refine bA aZ mixed Tryz.func189 (by kernel_rfl) rfl (by kernel_rfl) ?_
 have eR:=hb
 have hv:=hb.v
 have hl:=di.1.1
 have MU:=f_ di hs 3 J
 have gy:Out (I.n+1) p o i e h0 h1 h2 h3:=by
  obtain⟨⟨oP,oQ,oR,n8,qH,qI,qJ,qK⟩,⟨oC,gc,lI,mI,oD,oE,oF,oG⟩,⟨d1,d2,d3,d4,d5,d6,d7,d8,d9,d10,d11,d12,d13,d14,d15,d16,d17,d18,d19,d20,d21,d22,d23,d24,d25,d26,d27,d28⟩,gp,go,gi,ge,g0,g1,g2,g3⟩:=id hb
  constructor<;>(simp only[NE];omega)
 have tz:Out I.n p o i e h0 h1 h2 h3:=by
  obtain⟨⟨oP,oQ,oR,n8,qH,qI,qJ,qK⟩,⟨oC,gc,lI,mI,oD,oE,oF,oG⟩,⟨d1,d2,d3,d4,d5,d6,d7,d8,d9,d10,d11,d12,d13,d14,d15,d16,d17,d18,d19,d20,d21,d22,d23,d24,d25,d26,d27,d28⟩,gp,go,gi,ge,g0,g1,g2,g3⟩:=id hb
  constructor<;>(simp only[NE];omega)
 have hm:cI b slot aW=if b.aj 3=[]then(if cf b.ah 1<0 then(b,2,0)else(dT (bC b (cf b.ah 1) 3) slot 3,0,at_ ((bC b (cf b.ah 1) 3).aj 3) 0))else(dT b slot 3,0,at_ (b.aj 3) 0):=by
  unfold cI dT;simp only[hk];rw[if_neg J,if_neg J];rfl
 have qg:∀y,y<I.n→((I.push ⟨[.int .i64 b.am,.sl p 0 b.ah.length 1,.sl h0 0 (b.aj 0).length 1,.sl h1 0 (b.aj 1).length 1,.sl h2 0 (b.aj 2).length 1,.sl h3 0 (b.aj 3).length 1,.sl o 0 b.owner.length 1,.sl i 0 b.cy.length 1,.sl e 0 b.ao.length 1],true⟩).push ⟨[.int .i64 0,.al,.al,.al,.al,.al,.al,.al,.al],true⟩).get y=I.get y:=by intro y hy;rw[ak bX,ak hy]
 obtain⟨⟨oP,oQ,oR,n8,qH,qI,qJ,qK⟩,⟨oC,gc,lI,mI,oD,oE,oF,oG⟩,⟨d1,d2,d3,d4,d5,d6,d7,d8,d9,d10,d11,d12,d13,d14,d15,d16,d17,d18,d19,d20,d21,d22,d23,d24,d25,d26,d27,d28⟩,gp,go,gi,ge,g0,g1,g2,g3⟩:=id hb
 obtain⟨n,hn⟩:∃n,(b.aj 3).length=n:=⟨_,rfl⟩
 simp only[bO,bV,hn]
 by_cases hE:b.aj 3=[]
 ·have oH:n=0:=by rw[←hn,hE];rfl
  subst oH
  have Jl:bO b p o i e h0 h1 h2 h3= .agg [.int .i64 b.am,.sl p 0 b.ah.length 1,.sl h0 0 (b.aj 0).length 1,.sl h1 0 (b.aj 1).length 1,.sl h2 0 (b.aj 2).length 1,.sl h3 0 0 1,.sl o 0 b.owner.length 1,.sl i 0 b.cy.length 1,.sl e 0 b.ao.length 1]:=by simp only[bO,bV,hn]
  rw[hn]at hv
  have Gj:=ie b.ah 1
  obtain⟨r,hr⟩:∃r,cf b.ah 1=r:=⟨_,rfl⟩
  rw[hr]at Gj hm
  by_cases oK:r<0
  ·have hT:cI b slot aW=(b,2,0):=by rw[hm,if_pos hE,if_pos oK]
   simp+contextual (maxSteps:=1000000) (disch:=first|exact dB|fail) [go_sem,int_lt,-Int.not_le,-Int.not_lt,-List.map_set,hk,hr,oK]
   repeat refine Alt.mk ?_
   rw[hT]
   refine⟨bO b p o i e h0 h1 h2 h3,by rw[Jl],iM.r eR mU bX⟩
  ·have Dp:0≤r:=J
   have hT:cI b slot aW=(dT (bC b r 3) slot 3,0,at_ ((bC b r 3).aj 3) 0):=by rw[hm,if_pos hE,if_neg oK]
   simp+contextual (maxSteps:=1000000) (disch:=first|exact dB|fail) [go_sem,int_lt,-Int.not_le,-Int.not_lt,-List.map_set,hk,hr,oK]
   repeat refine Alt.mk ?_
   rw[←Jl]
   refine aw (Ed _ b n0 p o i e h0 h1 h2 h3 r (eR.frame mU bX) hs J J J) ?_
   rintro v R lZ ⟨q,rfl,hB,hf,fz,tC⟩
   have nJ:=hf (I.n+1) aV gy
   have rc:=hf I.n bG tz
   rw[aU _ aV]at nJ
   rw[ak aV,aU _ rfl]at rc
   simp only[au]at fz tC
   have zZ:NE q I.n∧NE q (I.n+1):=by simp only[NE];omega
   obtain⟨zZ,yF⟩:=zZ
   have hC:(bC b r 3).aj 3=dj r 3:=by simp[bC,cE,hE]
   have zP:dj r 3=[r*8+((0:Nat):Int)*((8:Nat):Int)]:=by rw[ia r 3 8 rfl];rfl
   have Hy:(dj r 3).length=1:=by rw[zP];rfl
   have pf:at_ (dj r 3) 0=r*8:=by rw[zP];simp[at_]
   have gq:=hB.g3
   have I_:=hB.go
   rw[hC]at gq
   have go':(bC b r 3).owner=b.owner:=rfl
   rw[go']at I_
   have xv:((dj r 3).map (U.int .i64))[0]? =some (.int .i64 (r*8)):=by rw[←pf];exact fT (a:=0) J IR
   have xw:∀h,(dj r 3)[0]'h=r*8:=fun h=>by rw[←pf];simp only[at_,Int.toNat_zero];rw[List.getD_eq_getElem?_getD,List.getElem?_eq_getElem h];rfl
   have rZ:0≤r*8:=J
   have oI:¬(b.owner.length:Int)≤r*8:=J
   have Qb:bO (bC b r 3) p o i e h0 h1 h2 q= .agg [.int .i64 b.am,.sl p 0 b.ah.length 1,.sl h0 0 (b.aj 0).length 1,.sl h1 0 (b.aj 1).length 1,.sl h2 0 (b.aj 2).length 1,.sl q 0 1 1,.sl o 0 b.owner.length 1,.sl i 0 b.cy.length 1,.sl e 0 b.ao.length 1]:=by simp[bC,aF,cE,hE,Hy]
   rw[Qb]
   simp+contextual (maxSteps:=1000000) (disch:=first|exact dB|fail) [go_sem,int_lt,-Int.not_le,-Int.not_lt,-List.map_set,-List.getElem?_map,nJ,rc,gq,I_,xv,xw,rZ,oI]
   rw[hT]
   have Qy:(bC b r 3).aj 3≠[]:=by rw[hC,zP];simp
   refine⟨_,?_,jh (R:=R) 3 J hB Qy ?_ ?_ bj bj ?_ ?_⟩
   ·simp[hC,Hy,pf,bC,cE,aF,hE]
   ·rw[hC,pf,go'];(first|exact bn|fail)
   ·intro y hy y1 y2
    rcases y2 with y2|y2|y2|y2|y2|y2|y2<;>(rw[y2]at y1⊢;simp(disch:=first|exact NE.ne bZ|exact NE.sym bZ|omega) only[ai])
   ·intro y hy tA
    rw[ai J,ai tA.o.ne,ai J,hf y bG tA,ak bG,ak hy]
   ·intro y hy ho
    obtain⟨z1,z2,z3,z4,z5,z6,z7,z8⟩:=ho
    refine⟨?_,?_,?_,?_,?_,?_,?_,?_⟩<;>first|assumption|(rcases tC with h|h;(rw[h];assumption);(simp only[NE];omega))
 ·have hT:cI b slot aW=(dT b slot 3,0,at_ (b.aj 3) 0):=by rw[hm,if_neg hE]
  have Z3:¬(b.aj 3).length=0:=fun h=>hE (List.eq_nil_of_length_eq_zero h)
  have MM:¬n=0:=J
  have Z4:1≤(n:Int):=J
  have BS:=(di.2.1 3 J).2 0 J J
  have xv:((b.aj 3).map (U.int .i64))[0]? =some (.int .i64 (at_ (b.aj 3) 0)):=fT (a:=0) J J
  obtain⟨u,hu⟩:∃u,at_ (b.aj 3) 0=u:=⟨_,rfl⟩
  have xw:∀h,(b.aj 3)[0]'h=u:=fun h=>by rw[←hu];simp only[at_,Int.toNat_zero];rw[List.getD_eq_getElem?_getD,List.getElem?_eq_getElem h];rfl
  rw[hu]at BS xv
  have rZ:0≤u:=BS.1
  have oI:¬(b.owner.length:Int)≤u:=J
  simp+contextual (maxSteps:=1000000) (disch:=first|exact dB|fail) [go_sem,int_lt,-Int.not_le,-Int.not_lt,-List.map_set,-List.getElem?_map,hk,MM,g3,go,xv,xw,rZ,oI]
  repeat refine Alt.mk ?_
  rw[hT]
  have hoN:o<I.n:=gc
  subst hn
  refine⟨_,?_,jh (R:=I) 3 J eR hE ?_ ?_ mV mV ?_ (fun _ _ h=>h)⟩
  ·simp[hu]
  ·rw[hu];(first|exact bn|fail)
  ·intro y hy y1 y2
   rw[ak bc,ak bj,ai y1.ne]
  ·intro y hy tA
   rw[ak bc,ak bj,ai tA.o.ne]
theorem LQ(I:af)(b:Bk)(n0 p o i e h0 h1 h2 h3:Nat)(slot aW:Int)(hb:iY n0 I b p o i e h0 h1 h2 h3)(hs:dW b)(di:cm b)(gG:0≤slot∧slot≤10):
 Fn Tryz.prog 189 [bO b p o i e h0 h1 h2 h3,.int .i64 slot,.int .i64 aW] I fun x R=>HV I R p o i e h0 h1 h2 h3 (cI b slot aW) x:=by
 have hk:=mT aW
 by_cases h:bB aW<0
 ·exact Hi I b n0 p o i e h0 h1 h2 h3 slot aW hb hs h
 ·have:bB aW=0∨bB aW=1∨bB aW=2∨bB aW=3∨bB aW=4:=J
  rcases this with h|h|h|h|h
  ·exact He I b n0 p o i e h0 h1 h2 h3 slot aW hb hs di gG h
  ·exact Hf I b n0 p o i e h0 h1 h2 h3 slot aW hb hs di gG h
  ·exact Hg I b n0 p o i e h0 h1 h2 h3 slot aW hb hs di gG h
  ·exact Hh I b n0 p o i e h0 h1 h2 h3 slot aW hb hs di gG h
  ·exact Hj I b n0 p o i e h0 h1 h2 h3 slot aW hb hs di gG h
end AH
namespace AH
open Go Go.Proofs Ho
set_option maxRecDepth 20000
set_option maxHeartbeats 16000000
theorem LO(I:af)(b:Bk)(n0 p o i e h0 h1 h2 h3:Nat)(slot:Int)(hb:iY n0 I b p o i e h0 h1 h2 h3)(hs:dW b)(di:cm b):
 Fn Tryz.prog 193 [bO b p o i e h0 h1 h2 h3,.int .i64 slot] I fun x R=>HV I R p o i e h0 h1 h2 h3 (dX b slot) x:=by
 refine bA aZ mixed Tryz.func193 (by kernel_rfl) rfl (by kernel_rfl) ?_
 have eR:=hb
 have hv:=hb.v
 have hl:=di.1.1
 obtain⟨vp,v0,v1,v2,v3,vo,vi,ve⟩:=id hv
 obtain⟨⟨oP,oQ,oR,n8,qH,qI,qJ,qK⟩,⟨oC,gc,lI,mI,oD,oE,oF,oG⟩,⟨d1,d2,d3,d4,d5,d6,d7,d8,d9,d10,d11,d12,d13,d14,d15,d16,d17,d18,d19,d20,d21,d22,d23,d24,d25,d26,d27,d28⟩,gp,go,gi,ge,g0,g1,g2,g3⟩:=id hb
 by_cases hr:slot<0∨b.am≤slot
 ·have hT:dX b slot=(b,9,0):=by unfold dX;rw[if_pos hr]
  by_cases x1:slot<0
  ·simp+contextual (maxSteps:=1000000) (disch:=first|exact dB|fail) [go_sem,int_lt,-Int.not_le,-Int.not_lt,-List.map_set,x1]
   (repeat refine Alt.mk ?_)
   rw[hT]
   exact⟨_,rfl,iM.r eR fc bG⟩
  ·have x2:b.am≤slot:=J
   simp+contextual (maxSteps:=1000000) (disch:=first|exact dB|fail) [go_sem,int_lt,-Int.not_le,-Int.not_lt,-List.map_set,x1,x2]
   (repeat refine Alt.mk ?_)
   rw[hT]
   exact⟨_,rfl,iM.r eR fc bG⟩
 have x1:¬slot<0:=J
 have x2:¬b.am≤slot:=J
 have x3:0≤slot:=J
 have x4:¬(b.cy.length:Int)≤slot:=J
 obtain⟨s,kX⟩:∃s,at_ b.cy slot=s:=⟨_,rfl⟩
 by_cases ll:s=0
 ·have hT:dX b slot=(b,9,0):=by unfold dX;rw[if_neg hr,kX,if_pos ll]
  simp+contextual (maxSteps:=1000000) (disch:=first|exact dB|fail) [go_sem,int_lt,-Int.not_le,-Int.not_lt,-List.map_set,x1,x2,x3,x4,kX,ll]
  (repeat refine Alt.mk ?_)
  rw[hT]
  exact⟨_,rfl,iM.r eR fc bG⟩
 by_cases qE:s=1
 ·have hT:dX b slot=(b,8,0):=by unfold dX;rw[if_neg hr,kX,if_neg ll,if_pos qE]
  simp+contextual (maxSteps:=1000000) (disch:=first|exact dB|fail) [go_sem,int_lt,-Int.not_le,-Int.not_lt,-List.map_set,x1,x2,x3,x4,kX,qE]
  (repeat refine Alt.mk ?_)
  rw[hT]
  exact⟨_,rfl,iM.r eR fc bG⟩
 have jn:=kz b.owner (slot+1) 0
 obtain⟨f,hf⟩:∃f,gO b slot=f:=⟨_,rfl⟩
 have Ug:dk b.owner (slot+1) 0=f:=hf
 rw[Ug]at jn
 by_cases qg:f<0
 ·have hT:dX b slot=({b with cy:=put b.cy slot 0},0,0):=by unfold dX;rw[if_neg hr,kX,if_neg ll,if_neg qE,hf,if_pos qg]
  simp+contextual (maxSteps:=1000000) (disch:=first|exact dB|fail) [go_sem,int_lt,-Int.not_le,-Int.not_lt,-List.map_set,x1,x2,x3,x4,kX,ll,qE,hf,qg,gi]
  (repeat refine Alt.mk ?_)
  rw[hT]
  refine⟨_,rfl,iM.mk' n0 p o i e h0 h1 h2 h3 ⟨J,by simp only[au,az];omega,jf,?_,?_,?_,?_,?_,?_,?_,?_⟩ ky zB bc lc⟩<;>(first|exact bn|fail)
 ·have hT:dX b slot=(ej b f,10,f):=by unfold dX;rw[if_neg hr,kX,if_neg ll,if_neg qE,hf,if_neg qg]
  simp+contextual (maxSteps:=1000000) (disch:=first|exact dB|fail) [go_sem,int_lt,-Int.not_le,-Int.not_lt,-List.map_set,x1,x2,x3,x4,kX,ll,qE,hf,qg]
  (repeat refine Alt.mk ?_)
  refine aw (Br _ b n0 p o i e h0 h1 h2 h3 f (eR.frame fc bG) hs di J) ?_
  rintro v R lZ hB
  have gy:Out (I.n+1) p o i e h0 h1 h2 h3:=by constructor<;>(simp only[NE];omega)
  have Gl:=fun X=>hB.up (I:=I) (j:=I.n+1) (X:=X) fc bG bG gy
  have C_:=hB
  obtain⟨pv,k0,k1,k2,k3,ov,iv,ev,rfl,fw,eF,fz,qf⟩:=hB
  have nJ:=eF (I.n+1) bG gy
  try simp(disch:=first|omega|(simp only[au];omega)) only[ak]at nJ
  rw[aU _ iF]at nJ
  obtain⟨i1,i2,i3,i4,i5,i6,i7,i8⟩:ey pv∧ey k0∧ey k1∧ey k2∧ey k3∧ey ov∧ey iv∧ey ev:=⟨fw.p.aQ,fw.h0.aQ,fw.h1.aQ,fw.h2.aQ,fw.h3.aQ,fw.o.aQ,fw.i.aQ,fw.e.aQ⟩
  simp+contextual (maxSteps:=1000000) (disch:=first|exact dB|fail) [go_sem,int_lt,-Int.not_le,-Int.not_lt,-List.map_set,nJ]
  rw[hT];exact⟨_,rfl,Gl _⟩
theorem Oy(I:af)(b:Bk)(n0 p o i e h0 h1 h2 h3:Nat)(op:Ho.Op)(hb:iY n0 I b p o i e h0 h1 h2 h3)(hs:dW b)(di:cm b)(nc:0≤op.slot∧op.slot<b.am):
 Fn Tryz.prog 139 [bO b p o i e h0 h1 h2 h3,.agg [.int .i64 op.kind,.int .i64 op.slot,.int .i64 op.a,.int .i64 op.b]] I fun x R=>HV I R p o i e h0 h1 h2 h3 (eH b op) x:=by
 refine bA aZ mixed Tryz.func139 (by kernel_rfl) rfl (by kernel_rfl) ?_
 have eR:=hb
 have hv:=hb.v
 have hl:=di.1.1
 have M8:0≤op.slot∧op.slot≤10:=J
 have hs5:=nc.1
 have hs6:¬(b.cy.length:Int)≤op.slot:=J
 obtain⟨vp,v0,v1,v2,v3,vo,vi,ve⟩:=id hv
 obtain⟨⟨oP,oQ,oR,n8,qH,qI,qJ,qK⟩,⟨oC,gc,lI,mI,oD,oE,oF,oG⟩,⟨d1,d2,d3,d4,d5,d6,d7,d8,d9,d10,d11,d12,d13,d14,d15,d16,d17,d18,d19,d20,d21,d22,d23,d24,d25,d26,d27,d28⟩,gp,go,gi,ge,g0,g1,g2,g3⟩:=id hb
 by_cases k2:op.kind=2
 ·have hT:eH b op=cI b op.slot op.a:=by unfold eH;rw[if_pos k2]
  simp+contextual (maxSteps:=1000000) (disch:=first|exact dB|fail) [go_sem,int_lt,-Int.not_le,-Int.not_lt,-List.map_set,k2]
  (repeat refine Alt.mk ?_)
  refine aw (LQ _ b n0 p o i e h0 h1 h2 h3 op.slot op.a (eR.frame fc bG) hs di M8) ?_
  rintro v R lZ ⟨y,rfl,hB⟩
  have gy:Out (I.n+1+1) p o i e h0 h1 h2 h3:=by constructor<;>(simp only[NE];omega)
  have Gl:=fun X=>hB.up (I:=I) (j:=I.n+1+1) (X:=X) fc bG bG gy
  have C_:=hB
  obtain⟨pv,k0,k1,k2,k3,ov,iv,ev,rfl,fw,eF,fz,qf⟩:=hB
  have nJ:=eF (I.n+1+1) bG gy
  try simp(disch:=first|omega|(simp only[au];omega)) only[ak]at nJ
  rw[aU _ iF]at nJ
  obtain⟨i1,i2,i3,i4,i5,i6,i7,i8⟩:ey pv∧ey k0∧ey k1∧ey k2∧ey k3∧ey ov∧ey iv∧ey ev:=⟨fw.p.aQ,fw.h0.aQ,fw.h1.aQ,fw.h2.aQ,fw.h3.aQ,fw.o.aQ,fw.i.aQ,fw.e.aQ⟩
  simp+contextual (maxSteps:=1000000) (disch:=first|exact dB|fail) [go_sem,int_lt,-Int.not_le,-Int.not_lt,-List.map_set,nJ]
  rw[hT];exact⟨_,rfl,Gl _⟩
 by_cases k3:op.kind=3
 ·obtain⟨w,hw⟩:∃w,fU b op.slot op.a=w:=⟨_,rfl⟩
  by_cases mu:0<w
  ·have hT:eH b op=(b,w,0):=by unfold eH;rw[if_neg k2,if_pos k3,hw,if_pos mu]
   simp+contextual (maxSteps:=1000000) (disch:=first|exact dB|fail) [go_sem,int_lt,-Int.not_le,-Int.not_lt,-List.map_set,k2,k3,hw,mu]
   (repeat refine Alt.mk ?_)
   rw[hT]
   exact⟨_,rfl,iM.r eR fc bG⟩
  ·have hT:eH b op=(ej b op.a,0,0):=by unfold eH;rw[if_neg k2,if_pos k3,hw,if_neg mu]
   have P9:=ki (b:=b) (a:=op.a) (fun hr=>by unfold fU at hw;rw[if_pos hr]at hw;omega)
   simp+contextual (maxSteps:=1000000) (disch:=first|exact dB|fail) [go_sem,int_lt,-Int.not_le,-Int.not_lt,-List.map_set,k2,k3,hw,mu]
   (repeat refine Alt.mk ?_)
   refine aw (Br _ b n0 p o i e h0 h1 h2 h3 op.a (eR.frame fc bG) hs di P9) ?_
   rintro v R lZ hB
   have gy:Out (I.n+1+1) p o i e h0 h1 h2 h3:=by constructor<;>(simp only[NE];omega)
   have Gl:=fun X=>hB.up (I:=I) (j:=I.n+1+1) (X:=X) fc bG bG gy
   have C_:=hB
   obtain⟨pv,k0,k1,k2,k3,ov,iv,ev,rfl,fw,eF,fz,qf⟩:=hB
   have nJ:=eF (I.n+1+1) bG gy
   try simp(disch:=first|omega|(simp only[au];omega)) only[ak]at nJ
   rw[aU _ iF]at nJ
   obtain⟨i1,i2,i3,i4,i5,i6,i7,i8⟩:ey pv∧ey k0∧ey k1∧ey k2∧ey k3∧ey ov∧ey iv∧ey ev:=⟨fw.p.aQ,fw.h0.aQ,fw.h1.aQ,fw.h2.aQ,fw.h3.aQ,fw.o.aQ,fw.i.aQ,fw.e.aQ⟩
   simp+contextual (maxSteps:=1000000) (disch:=first|exact dB|fail) [go_sem,int_lt,-Int.not_le,-Int.not_lt,-List.map_set,nJ]
   rw[hT];exact⟨_,rfl,Gl _⟩
 by_cases k4:op.kind=4
 ·obtain⟨w,hw⟩:∃w,fU b op.slot op.a=w:=⟨_,rfl⟩
  by_cases mu:0<w
  ·have hT:eH b op=(b,w,0):=by unfold eH;rw[if_neg k2,if_neg k3,if_pos k4,hw,if_pos mu]
   simp+contextual (maxSteps:=1000000) (disch:=first|exact dB|fail) [go_sem,int_lt,-Int.not_le,-Int.not_lt,-List.map_set,k2,k3,k4,hw,mu]
   (repeat refine Alt.mk ?_)
   rw[hT]
   exact⟨_,rfl,iM.r eR fc bG⟩
  have P9:=ki (b:=b) (a:=op.a) (fun hr=>by unfold fU at hw;rw[if_pos hr]at hw;omega)
  have T3:=P9.1
  have qf:¬(b.owner.length:Int)≤op.a:=J
  by_cases MK:op.b<0∨b.am≤op.b
  ·have hT:eH b op=(b,5,0):=by unfold eH;rw[if_neg k2,if_neg k3,if_pos k4,hw,if_neg mu,if_pos MK]
   by_cases x1:op.b<0
   ·simp+contextual (maxSteps:=1000000) (disch:=first|exact dB|fail) [go_sem,int_lt,-Int.not_le,-Int.not_lt,-List.map_set,k2,k3,k4,hw,mu,x1]
    (repeat refine Alt.mk ?_)
    rw[hT]
    exact⟨_,rfl,iM.r eR fc bG⟩
   ·have x2:b.am≤op.b:=J
    simp+contextual (maxSteps:=1000000) (disch:=first|exact dB|fail) [go_sem,int_lt,-Int.not_le,-Int.not_lt,-List.map_set,k2,k3,k4,hw,mu,x1,x2]
    (repeat refine Alt.mk ?_)
    rw[hT]
    exact⟨_,rfl,iM.r eR fc bG⟩
  have x1:¬op.b<0:=J
  have x2:¬b.am≤op.b:=J
  have x3:0≤op.b:=J
  have x4:¬(b.cy.length:Int)≤op.b:=J
  obtain⟨s,kX⟩:∃s,at_ b.cy op.b=s:=⟨_,rfl⟩
  by_cases ll:s=0
  ·have hT:eH b op=(b,5,0):=by unfold eH;rw[if_neg k2,if_neg k3,if_pos k4,hw,if_neg mu,if_neg MK,kX,if_pos ll]
   simp+contextual (maxSteps:=1000000) (disch:=first|exact dB|fail) [go_sem,int_lt,-Int.not_le,-Int.not_lt,-List.map_set,k2,k3,k4,hw,mu,x1,x2,x3,x4,kX,ll]
   (repeat refine Alt.mk ?_)
   rw[hT]
   exact⟨_,rfl,iM.r eR fc bG⟩
  ·have hT:eH b op=({b with owner:=put b.owner op.a (op.b+1)},0,0):=by unfold eH;rw[if_neg k2,if_neg k3,if_pos k4,hw,if_neg mu,if_neg MK,kX,if_neg ll]
   simp+contextual (maxSteps:=1000000) (disch:=first|exact dB|fail) [go_sem,int_lt,-Int.not_le,-Int.not_lt,-List.map_set,k2,k3,k4,hw,mu,x1,x2,x3,x4,kX,ll,go,T3,qf]
   (repeat refine Alt.mk ?_)
   rw[hT]
   refine⟨_,rfl,iM.mk' n0 p o i e h0 h1 h2 h3 ⟨J,by simp only[au,az];omega,jf,?_,?_,?_,?_,?_,?_,?_,?_⟩ ky zB bc lc⟩<;>(first|exact bn|fail)
 by_cases k5:op.kind=5
 ·obtain⟨f,hf⟩:∃f,gO b op.slot=f:=⟨_,rfl⟩
  by_cases qg:0≤f
  ·have hT:eH b op=(b,7,0):=by unfold eH;rw[if_neg k2,if_neg k3,if_neg k4,if_pos k5,hf,if_pos qg]
   simp+contextual (maxSteps:=1000000) (disch:=first|exact dB|fail) [go_sem,int_lt,-Int.not_le,-Int.not_lt,-List.map_set,k2,k3,k4,k5,hf,qg]
   (repeat refine Alt.mk ?_)
   rw[hT]
   exact⟨_,rfl,iM.r eR fc bG⟩
  ·have hT:eH b op=({b with cy:=put b.cy op.slot 0},0,0):=by unfold eH;rw[if_neg k2,if_neg k3,if_neg k4,if_pos k5,hf,if_neg qg]
   simp+contextual (maxSteps:=1000000) (disch:=first|exact dB|fail) [go_sem,int_lt,-Int.not_le,-Int.not_lt,-List.map_set,k2,k3,k4,k5,hf,qg,gi,hs5,hs6]
   (repeat refine Alt.mk ?_)
   rw[hT]
   refine⟨_,rfl,iM.mk' n0 p o i e h0 h1 h2 h3 ⟨J,by simp only[au,az];omega,jf,?_,?_,?_,?_,?_,?_,?_,?_⟩ ky zB bc lc⟩<;>(first|exact bn|fail)
 by_cases k6:op.kind=6
 ·have hT:eH b op=dX b op.a:=by unfold eH;rw[if_neg k2,if_neg k3,if_neg k4,if_neg k5,if_pos k6]
  simp+contextual (maxSteps:=1000000) (disch:=first|exact dB|fail) [go_sem,int_lt,-Int.not_le,-Int.not_lt,-List.map_set,k2,k3,k4,k5,k6]
  (repeat refine Alt.mk ?_)
  refine aw (LO _ b n0 p o i e h0 h1 h2 h3 op.a (eR.frame fc bG) hs di) ?_
  rintro v R lZ ⟨y,rfl,hB⟩
  have gy:Out (I.n+1+1) p o i e h0 h1 h2 h3:=by constructor<;>(simp only[NE];omega)
  have Gl:=fun X=>hB.up (I:=I) (j:=I.n+1+1) (X:=X) fc bG bG gy
  have C_:=hB
  obtain⟨pv,k0,k1,k2,k3,ov,iv,ev,rfl,fw,eF,fz,qf⟩:=hB
  have nJ:=eF (I.n+1+1) bG gy
  try simp(disch:=first|omega|(simp only[au];omega)) only[ak]at nJ
  rw[aU _ iF]at nJ
  obtain⟨i1,i2,i3,i4,i5,i6,i7,i8⟩:ey pv∧ey k0∧ey k1∧ey k2∧ey k3∧ey ov∧ey iv∧ey ev:=⟨fw.p.aQ,fw.h0.aQ,fw.h1.aQ,fw.h2.aQ,fw.h3.aQ,fw.o.aQ,fw.i.aQ,fw.e.aQ⟩
  simp+contextual (maxSteps:=1000000) (disch:=first|exact dB|fail) [go_sem,int_lt,-Int.not_le,-Int.not_lt,-List.map_set,nJ]
  rw[hT];exact⟨_,rfl,Gl _⟩
 ·have hT:eH b op=(b,13,0):=by unfold eH;rw[if_neg k2,if_neg k3,if_neg k4,if_neg k5,if_neg k6]
  simp+contextual (maxSteps:=1000000) (disch:=first|exact dB|fail) [go_sem,int_lt,-Int.not_le,-Int.not_lt,-List.map_set,k2,k3,k4,k5,k6]
  (repeat refine Alt.mk ?_)
  rw[hT]
  exact⟨_,rfl,iM.r eR fc bG⟩
theorem RF(I:af)(b:Bk)(n0 p o i e h0 h1 h2 h3:Nat)(op:Ho.Op)(hb:iY n0 I b p o i e h0 h1 h2 h3)(hs:dW b)(di:cm b):
 Fn Tryz.prog 74 [bO b p o i e h0 h1 h2 h3,.agg [.int .i64 op.kind,.int .i64 op.slot,.int .i64 op.a,.int .i64 op.b]] I fun x R=>HV I R p o i e h0 h1 h2 h3 (kV b op) x:=by
 refine bA pQ mixed Tryz.func74 (by kernel_rfl) rfl (by kernel_rfl) ?_
 have eR:=hb
 have hv:=hb.v
 have hl:=di.1.1
 obtain⟨vp,v0,v1,v2,v3,vo,vi,ve⟩:=id hv
 obtain⟨⟨oP,oQ,oR,n8,qH,qI,qJ,qK⟩,⟨oC,gc,lI,mI,oD,oE,oF,oG⟩,⟨d1,d2,d3,d4,d5,d6,d7,d8,d9,d10,d11,d12,d13,d14,d15,d16,d17,d18,d19,d20,d21,d22,d23,d24,d25,d26,d27,d28⟩,gp,go,gi,ge,g0,g1,g2,g3⟩:=id hb
 by_cases hr:op.slot<0∨b.am≤op.slot
 ·have hT:kV b op=(b,13,0):=by unfold kV;rw[if_pos hr]
  by_cases x1:op.slot<0
  ·simp+contextual (maxSteps:=1000000) (disch:=first|exact dB|fail) [go_sem,int_lt,-Int.not_le,-Int.not_lt,-List.map_set,pQ,x1]
   (repeat refine Alt.mk ?_)
   rw[hT]
   exact⟨_,rfl,iM.r eR fc bG⟩
  ·have x2:b.am≤op.slot:=J
   simp+contextual (maxSteps:=1000000) (disch:=first|exact dB|fail) [go_sem,int_lt,-Int.not_le,-Int.not_lt,-List.map_set,pQ,x1,x2]
   (repeat refine Alt.mk ?_)
   rw[hT]
   exact⟨_,rfl,iM.r eR fc bG⟩
 have x1:¬op.slot<0:=J
 have x2:¬b.am≤op.slot:=J
 have x3:0≤op.slot:=J
 have x4:¬(b.cy.length:Int)≤op.slot:=J
 have x5:¬(b.ao.length:Int)≤op.slot:=J
 obtain⟨s,kX⟩:∃s,at_ b.cy op.slot=s:=⟨_,rfl⟩
 obtain⟨e',Ud⟩:∃e',at_ b.ao op.slot=e':=⟨_,rfl⟩
 have her:=hs.e.2 op.slot
 rw[Ud]at her
 by_cases k1:op.kind=1
 ·by_cases ll:s=0
  rotate_left
  ·have hT:kV b op=(b,6,0):=by unfold kV;rw[if_neg hr,if_pos k1,kX,if_pos ll]
   simp+contextual (maxSteps:=1000000) (disch:=first|exact dB|fail) [go_sem,int_lt,-Int.not_le,-Int.not_lt,-List.map_set,pQ,x1,x2,x3,x4,x5,k1,kX,ll]
   (repeat refine Alt.mk ?_)
   rw[hT]
   exact⟨_,rfl,iM.r eR fc bG⟩
  by_cases HA:e'=4095
  ·have hT:kV b op=(b,12,0):=by unfold kV;rw[if_neg hr,if_pos k1,kX,Ud,if_neg (fun h=>h ll),if_pos HA]
   simp+contextual (maxSteps:=1000000) (disch:=first|exact dB|fail) [go_sem,int_lt,-Int.not_le,-Int.not_lt,-List.map_set,pQ,x1,x2,x3,x4,x5,k1,kX,ll,Ud,HA]
   (repeat refine Alt.mk ?_)
   rw[hT]
   exact⟨_,rfl,iM.r eR fc bG⟩
  ·have hT:kV b op=({b with cy:=put b.cy op.slot 1,ao:=put b.ao op.slot (e'+1)},0,e'+1):=by unfold kV;rw[if_neg hr,if_pos k1,kX,Ud,if_neg (fun h=>h ll),if_neg HA]
   have xw:(put b.ao op.slot (e'+1))[op.slot.toNat]? =some (e'+1):=by unfold put;rw[List.getElem?_set_self J]
   simp+contextual (maxSteps:=1000000) (disch:=first|exact dB|fail) [go_sem,int_lt,-Int.not_le,-Int.not_lt,-List.map_set,pQ,x1,x2,x3,x4,x5,k1,kX,ll,Ud,HA,gi,ge,aF,xw]
   (repeat refine Alt.mk ?_)
   rw[hT]
   refine⟨_,rfl,iM.mk' n0 p o i e h0 h1 h2 h3 ⟨J,by simp only[au,az];omega,jf,?_,?_,?_,?_,?_,?_,?_,?_⟩ ky zB bc lc⟩<;>(first|exact bn|fail)
 by_cases ll:s=0
 ·have hT:kV b op=(b,9,0):=by unfold kV;rw[if_neg hr,if_neg k1,kX,if_pos ll]
  simp+contextual (maxSteps:=1000000) (disch:=first|exact dB|fail) [go_sem,int_lt,-Int.not_le,-Int.not_lt,-List.map_set,pQ,x1,x2,x3,x4,k1,kX,ll]
  (repeat refine Alt.mk ?_)
  rw[hT]
  exact⟨_,rfl,iM.r eR fc bG⟩
 ·have hT:kV b op=eH b op:=by unfold kV;rw[if_neg hr,if_neg k1,kX,if_neg ll]
  simp+contextual (maxSteps:=1000000) (disch:=first|exact dB|fail) [go_sem,int_lt,-Int.not_le,-Int.not_lt,-List.map_set,pQ,x1,x2,x3,x4,k1,kX,ll]
  (repeat refine Alt.mk ?_)
  refine aw (Oy _ b n0 p o i e h0 h1 h2 h3 op (eR.frame fc bG) hs di J) ?_
  rintro v R lZ ⟨y,rfl,hB⟩
  have gy:Out (I.n+1+1) p o i e h0 h1 h2 h3:=by constructor<;>(simp only[NE];omega)
  have Gl:=fun X=>hB.up (I:=I) (j:=I.n+1+1) (X:=X) fc bG bG gy
  have C_:=hB
  obtain⟨pv,k0,k1,k2,k3,ov,iv,ev,rfl,fw,eF,fz,qf⟩:=hB
  have nJ:=eF (I.n+1+1) bG gy
  try simp(disch:=first|omega|(simp only[au];omega)) only[ak]at nJ
  rw[aU _ iF]at nJ
  obtain⟨i1,i2,i3,i4,i5,i6,i7,i8⟩:ey pv∧ey k0∧ey k1∧ey k2∧ey k3∧ey ov∧ey iv∧ey ev:=⟨fw.p.aQ,fw.h0.aQ,fw.h1.aQ,fw.h2.aQ,fw.h3.aQ,fw.o.aQ,fw.i.aQ,fw.e.aQ⟩
  simp+contextual (maxSteps:=1000000) (disch:=first|exact dB|fail) [go_sem,int_lt,-Int.not_le,-Int.not_lt,-List.map_set,pQ,nJ]
  rw[hT];exact⟨_,rfl,Gl _⟩
end AH
