import Derived.Test.YtagihpbpblnnoaaGreatZ29
import Derived.Test.YtagihpbpblnnoaaGreatZ15
import Derived.Test.YtagihpbpblnnoaaGreatZ27
import Derived.Test.YtagihpbpblnnoaaGreatZ00
set_option linter.all false
namespace AH
open Go Go.Proofs Ho
set_option maxRecDepth 20000
set_option maxHeartbeats 16000000
theorem Ca{I:af}{i k n j q m:Nat}{rw:Bool}{xs:List Int}{cs:List U}(hg:I.get i=some ⟨cs,true⟩)(hg2:I.get j=some ⟨xs.map (.int .i64),rw⟩)(h0:0<m)(hn:m≤n)(hk:k+n≤cs.length)(hq:q+m≤xs.length):
 qU Tryz.prog 36 (.sl i k n 1) (.sl j q m 1) I=some (.int .i64 m,I.set i ⟨aB cs k (((xs.drop q).take m).map (.int .i64)),true⟩):=by
 have ht:∃b z,bR Tryz.prog 36=some (1,b,z):=by simp[go_sem]
 obtain⟨b,z,ht⟩:=ht
 unfold qU
 rw[ht]
 simp only[eC,show min m n=m by omega]
 rw[if_neg J]
 unfold fZ
 simp only
 rw[if_neg J,hg2,hg]
 simp only[Nat.mul_one]
 rw[if_pos ⟨trivial,by simpa using hq,by rw[List.all_eq_true];intro x hx;obtain⟨y,_,rfl⟩:=List.mem_map.1 (List.drop_subset _ _ (List.take_subset _ _ hx));rfl⟩]
 simp only
 rw[if_pos ⟨trivial,trivial,J⟩,←List.map_drop,←List.map_take]
def Fj(I R:af)(r:Bk×Bool)(x:U):Prop:=∃pv k0 k1 k2 k3 ov iv ev,x= .cw [bV r.1 pv k0 k1 k2 k3 ov iv ev,.bool r.2]∧fb R r.1 pv k0 k1 k2 k3 ov iv ev∧(∀y,y<I.n→R.get y=I.get y)∧I.n≤R.n∧
 (∀y,y<I.n→B1 y pv k0 k1 k2 k3 ov iv ev)∧∀k v,k<4→([k0,k1,k2,k3]:List U)[k]? =some v→r.1.aj k=[]→v= .al
theorem Fj.zero{I R:af}{r:Bk×Bool}(hr:r=(Bk.zero,false))(hf:∀y,y<I.n→R.get y=I.get y)(hn:I.n≤R.n):Fj I R r (.cw [.agg [.int .i64 0,.al,.al,.al,.al,.al,.al,.al,.al],.bool false]):=by
 subst hr
 exact⟨.al,.al,.al,.al,.al,.al,.al,.al,rfl,⟨.nil,.nil,.nil,.nil,.nil,.nil,.nil,.nil⟩,hf,hn,fun y hy=>⟨.inr rfl,.inr rfl,.inr rfl,.inr rfl,.inr rfl,.inr rfl,.inr rfl,.inr rfl⟩,fun k v hk hv _=>by
  have:k=0∨k=1∨k=2∨k=3:=J
  rcases this with rfl|rfl|rfl|rfl<;>(cases hv;rfl)⟩
theorem Fj.c{I R:af}{r:Bk×Bool}{x:U}(h:Fj I R r x):BG I R r x:=by
 obtain⟨pv,k0,k1,k2,k3,ov,iv,ev,h1,h2,h3,h4,h5,_⟩:=h
 exact⟨pv,k0,k1,k2,k3,ov,iv,ev,h1,h2,h3,h4,h5⟩
noncomputable def sN(c:aM)(ws:List Int):Bk×Bool:=if cm (bP ws c)∧fits c (bP ws c) ws then(bP ws c,true)else(Bk.zero,false)
theorem Ac(I:af)(v:U)(ws:List Int)(s p l':Int)(hv:bu .u64 I v ws)(hW:∀w∈ws,ci w)(hl:(ws.length:Int)≤1000000)(h:aM.ok ⟨s,p,l'⟩)(hH:aP ⟨s,p,l'⟩≤ws.length):
 Fn Tryz.prog 194 [cV s p l',v] I fun x R=>Fj I R (sN ⟨s,p,l'⟩ ws) x:=by
 generalize hG:(fun(x:U) (R:af)=>Fj I R (sN ⟨s,p,l'⟩ ws) x)=GG
 obtain⟨S,rfl⟩:∃S:Nat,s=(S:Int):=⟨s.toNat,by have:=h.1;simp only at this;omega⟩
 obtain⟨Q,rfl⟩:∃Q:Nat,p=(Q:Int):=⟨p.toNat,by have:=h.2.2.1;simp only at this;omega⟩
 have h':=h
 unfold aM.ok at h'
 simp only at h'
 have L0:aP ⟨(S:Int),(Q:Int),l'⟩=7+2*(S:Int)+17*(Q:Int):=rfl
 obtain⟨H,XM⟩:∃H:Nat,H=7+2*S+17*Q:=⟨_,rfl⟩
 have R5:H≤ws.length:=J
 have q4:7+2*(S:Int)+17*(Q:Int)=(H:Int):=J
 have abl:∃i k,v= .sl i k ws.length 1:=by
  rcases hv.ex with⟨_,rfl⟩|⟨i,k,e,_⟩
  ·simp at R5;omega
  ·exact⟨i,k,e⟩
 obtain⟨vi,vk,rfl⟩:=abl
 have hvt:=hv.take H R5
 have hWt:∀w∈ws.take H,ci w:=fun w hw=>hW w (List.take_subset _ _ hw)
 have dG:((ws.take H).length:Int)≤1000000:=by rw[List.length_take];omega
 have Hz:=E8 R5
 have tj:=fun {a:Int}=>Lj R5 (a:=a)
 have Jh:=fun {k n:Nat}=>Lk R5 (k:=k) (n:=n)
 obtain⟨V,hV⟩:∃V,(ws.take H).map aG=V:=⟨_,rfl⟩
 rw[hV]at Hz tj Jh
 refine bA fL mixed Tryz.func194 (by kernel_rfl) rfl (by kernel_rfl) ?_
 simp+contextual (maxSteps:=1000000) (disch:=first|exact dB|fail) [go_sem,int_lt,-Int.not_le,-Int.not_lt,-List.map_set,fL,q4,R5]
 (repeat refine Alt.mk ?_)
 refine aw (JU _ _ _ hvt.push.push hWt dG) ?_
 rintro x0 ajT oH ⟨a1,a2⟩
 rw[hV]at a1
 rcases a1 with⟨_,a1⟩|⟨q,rfl,a3,a4,a5⟩
 ·rw[a1]at Hz;simp at Hz;omega
 rw[Hz]
 simp only[au]at oH a2 a3
 have g0:=a2 I.n J
 have g1:=a2 (I.n+1) J
 simp(disch:=first|omega|(simp only[au];omega)) only[ak]at g0
 rw[aU _ rfl]at g0
 rw[aU _ iF]at g1
 have gY:bY I.n I ajT:=by
  intro y hy
  rw[a2 y J]
  simp(disch:=first|omega|(simp only[au];omega)) only[ak]
 have e8:((Q:Int)*8).toNat=Q*8:=J
 simp+contextual (maxSteps:=1000000) (disch:=first|exact dB|fail) [go_sem,int_lt,-Int.not_le,-Int.not_lt,-List.map_set,fL,g0]
 (repeat refine Alt.mk ?_)
 refine aw (Gn _ S Q l' h) ?_
 rintro x0 R lZ ⟨P,O,aa,E,rfl,hE,hk,hn⟩
 obtain⟨⟨oP,oQ,oR,n8⟩,⟨oC,gc,lI,mI⟩,⟨d1,d2,d3,d4,d5,d6⟩,gp,go,gi,ge⟩:=hE
 simp only[au,e8,Int.toNat_natCast]at oP oQ oR n8 gp go gi ge⊢
 replace g0:=(hk _ J).trans g0
 replace g1:=(hk _ J).trans g1
 have gq:=(hk _ J).trans a5
 have Uo:bY I.n I R:=fun y hy=>(hk y J).trans (gY y hy)
 clear hk gY a5 a2 lZ
 obtain⟨B,hB⟩:∃B,B=R.n:=⟨_,rfl⟩
 obtain⟨dB1,dB2,dB3,dB4⟩:NE P B∧NE O B∧NE aa B∧NE E B:=by simp only[NE];omega
 obtain⟨dB5,dB6,dB7⟩:NE I.n B∧NE (I.n+1) B∧NE q B:=by simp only[NE];omega
 obtain⟨dq1,dq2,dq3,dq4⟩:NE q P∧NE q O∧NE q aa∧NE q E:=by simp only[NE];omega
 have m1:(7+2*(S:Int)+Q).toNat-(7+2*(S:Int)).toNat=Q:=J
 have m2:(7+2*(S:Int)+9*Q).toNat-(7+2*(S:Int)+Q).toNat=Q*8:=J
 have dO:((bP ws ⟨S,Q,l'⟩).ah).length=Q:=by simp[bP]
 have EG:((bP ws ⟨S,Q,l'⟩).owner).length=Q*8:=by simp[bP];omega
 obtain⟨cP,hcP⟩:∃cs,(List.replicate Q 0).map (U.int .i64)=cs:=⟨_,rfl⟩
 obtain⟨cO,hcO⟩:∃cs,(List.replicate (Q*8) 0).map (U.int .i64)=cs:=⟨_,rfl⟩
 have lcP:cP.length=Q:=by rw[←hcP];simp
 have lcO:cO.length=Q*8:=by rw[←hcO];simp
 rw[hcP]at gp
 rw[hcO]at go
 have ZP:aB cP 0 (((V.map (U.int .i64)).drop (7+2*(S:Int)).toNat).take Q)=(bP ws ⟨S,Q,l'⟩).ah.map (.int .i64):=by
  rw[show(7+2*(S:Int)).toNat=7+2*S by omega,←List.map_drop,←List.map_take,Jh J]
  unfold aB
  rw[List.take_zero,List.drop_eq_nil_of_le bX,List.nil_append,List.append_nil]
  refine congrArg _ ?_
  unfold bP
  simp only[Int.toNat_natCast]
  refine List.map_congr_left fun i hi=>?_
  have hi:=List.mem_range.1 hi
  unfold iJ ed;rw[if_pos ⟨h,J,by simp only;omega⟩];congr 1;simp only;omega
 have Ty:aB cO 0 (((V.map (U.int .i64)).drop (7+2*(S:Int)+Q).toNat).take (Q*8))=(bP ws ⟨S,Q,l'⟩).owner.map (.int .i64):=by
  rw[show(7+2*(S:Int)+Q).toNat=7+2*S+Q by omega,←List.map_drop,←List.map_take,Jh J]
  unfold aB
  rw[List.take_zero,List.drop_eq_nil_of_le bX,List.nil_append,List.append_nil]
  refine congrArg _ ?_
  unfold bP
  simp only[e8]
  refine List.map_congr_left fun i hi=>?_
  have hi:=List.mem_range.1 hi
  unfold mE ed;rw[if_pos ⟨h,J,by simp only;omega⟩];congr 1;simp only;omega
 obtain⟨fI,Qi⟩:∃fI:Nat→Int,fI=fun(i:Nat)=>at_ V (3+(i:Int)) % 4:=⟨_,rfl⟩
 obtain⟨fE,Qh⟩:∃fE:Nat→Int,fE=fun(i:Nat)=>at_ V (3+(i:Int))/4:=⟨_,rfl⟩
 have eI:∀i:Nat,at_ V (3+(i:Int)) % 4=fI i:=fun i=>by rw[Qi]
 have eE:∀i:Nat,at_ V (3+(i:Int))/4=fE i:=fun i=>by rw[Qh]
 have XR:∀j:Int,0≤at_ V j∧at_ V j<4294967296:=fun j=>by
  by_cases hj:0≤j∧j<H
  ·rw[tj hj.1 hj.2];exact aO
  ·by_cases hj0:j<0
   ·rw[show at_ V j=at_ V 0 from by unfold at_;rw[show j.toNat=(0:Int).toNat by omega],tj J J];exact aO
   ·unfold at_;rw[List.getD_eq_getElem?_getD,List.getElem?_eq_none J];simp
 rw[show(List.replicate S (0:Int))=lE S fI 0 from(lG S fI).symm]at gi
 rw[show(List.replicate S (0:Int))=lE S fE 0 from(lG S fE).symm]at ge
 obtain⟨pg,kr⟩:∃pg,(bP ws ⟨S,Q,l'⟩).ah=pg:=⟨_,rfl⟩
 obtain⟨ow,X_⟩:∃ow,(bP ws ⟨S,Q,l'⟩).owner=ow:=⟨_,rfl⟩
 rw[kr]at dO ZP
 rw[X_]at EG Ty
 simp+contextual (maxSteps:=1000000) (disch:=first|exact dB|fail) [go_sem,int_lt,-Int.not_le,-Int.not_lt,-List.map_set,fL,g0,g1,gq,gp,go,gi,ge,Ca,←hB,m1,m2,Hz,ZP,Ty]
 (repeat refine Alt.mk ?_)
 clear ZP Ty gp go hcP hcO lcP lcO m1 m2
 refine aC (fun R_ env R=>∃(u:Nat),env 40= .int .i64 u∧env 39= .int .i64 S∧env 6= .sl q 0 H 1∧env 2= .ptr I.n 0∧env 4= .ptr (I.n+1) 0∧env 7= .ptr B 0∧R_ (S-u)∧(u≤S)∧(R.get B=some ⟨[.int .i64 (S:Int),.sl P 0 Q 1,.al,.al,.al,.al,.sl O 0 (Q*8) 1,.sl aa 0 S 1,.sl E 0 S 1],true⟩)∧(R.get I.n=some ⟨[.int .i64 (S:Int),.int .i64 (Q:Int),.int .i64 l'],true⟩)∧(R.get (I.n+1)=some ⟨[.int .i64 0,.al,.al,.al,.al,.al,.al,.al,.al],true⟩)∧(R.get q=some ⟨V.map (.int .i64),true⟩)∧(R.get P=some ⟨pg.map (.int .i64),true⟩)∧(R.get O=some ⟨ow.map (.int .i64),true⟩)∧(R.get aa=some ⟨(lE S fI u).map (.int .i64),true⟩)∧(R.get E=some ⟨(lE S fE u).map (.int .i64),true⟩)∧(bY I.n I R)∧(B<R.n)) (by rintro R_ env R ⟨u,Xt,Xs,e6,e2,e4,e7,cz,hu,gB,g0,g1,gq,gp,go,gi,ge,gY,hn⟩;exact⟨_,cz,u,Xt,Xs,e6,e2,e4,e7,rfl,hu,gB,g0,g1,gq,gp,go,gi,ge,gY,hn⟩) ⟨0,aq,aq,aq,aq,aq,aq,trivial,?_,?_,?_,?_,?_,?_,?_,?_,?_,?_,?_⟩ ?_
 rotate_left 11
 rintro m_ env R ⟨u,Xt,Xs,e6,e2,e4,e7,rfl,hu,gB,g0,g1,gq,gp,go,gi,ge,gY,hn⟩
 ·have pm:=kh (f:=fI) hu
  have pI:=kh (f:=fE) hu
  by_cases ms:u<S
  ·have fH:¬S≤u:=J
   have p1:=lF (f:=fI) ms
   have p2:=lF (f:=fE) ms
   have hvn:=XR (3+(u:Int))
   have EB:¬(H:Int)≤3+(u:Int):=J
   have hfe:0≤fE u∧fE u<4294967296:=by rw[Qh];simp only;omega
   have hfi:0≤fI u∧fI u<4294967296:=by rw[Qi];simp only;omega
   clear hG
   simp+contextual (maxSteps:=1000000) (disch:=first|exact dB|fail) [go_sem,int_lt,-Int.not_le,-Int.not_lt,-List.map_set,fL,Xt,Xs,e6,e2,e4,e7,gB,g0,gq,gi,ge,fH,EB,eI,eE,pm,pI,p1,p2,Hz,Int.tmod_eq_emod_of_nonneg,Int.tdiv_eq_ediv_of_nonneg]
   (repeat refine Alt.mk ?_)
   refine⟨u+1,J,J,J,?_⟩
   repeat' apply And.intro
   all_goals first|assumption|omega|rfl|trace_state
  ·have z9:u=S:=J
   subst z9
   rw[nP]at gi ge
   have Uj:(List.range u).map fI=(bP ws ⟨u,Q,l'⟩).cy:=by
    unfold bP
    simp only[Int.toNat_natCast,Qi]
    refine List.map_congr_left fun i hi=>?_
    have hi:=List.mem_range.1 hi
    rw[tj J J]
    unfold dP bT ed;rw[if_pos ⟨h,J,by simp only;omega⟩];congr 3;omega
   have Uf:(List.range u).map fE=(bP ws ⟨u,Q,l'⟩).ao:=by
    unfold bP
    simp only[Int.toNat_natCast,Qh]
    refine List.map_congr_left fun i hi=>?_
    have hi:=List.mem_range.1 hi
    rw[tj J J]
    unfold dP bT ed;rw[if_pos ⟨h,J,by simp only;omega⟩];congr 3;omega
   rw[Uj]at gi
   rw[Uf]at ge
   clear Uj Uf eI eE Qi Qh pm pI
   have hS:=sy ws _ h
   have gG:(bP ws ⟨(u:Int),Q,l'⟩).am=u:=rfl
   have uU:(bP ws ⟨(u:Int),Q,l'⟩).cy.length=u:=by simp[bP]
   have Sj:(bP ws ⟨(u:Int),Q,l'⟩).ao.length=u:=by simp[bP]
   have nH:=fun k hk=>FQ (w:=ws) h J (k:=k) hk
   have Qc:=fun k hk l=>CI (w:=ws) h (k:=k) hk (l:=l)
   have rW:fits ⟨(u:Int),Q,l'⟩ (bP ws ⟨(u:Int),Q,l'⟩) ws↔∀a:Int,3≤a→a<(lay ⟨(u:Int),Q,l'⟩ (bP ws ⟨(u:Int),Q,l'⟩)).length→kA u Q a→at_ (lay ⟨(u:Int),Q,l'⟩ (bP ws ⟨(u:Int),Q,l'⟩)) a=at_ V a:=by
    have tt:=ma ⟨(u:Int),Q,l'⟩ (bP ws ⟨(u:Int),Q,l'⟩)
    unfold fits
    have oK:bT ⟨(u:Int),(Q:Int),l'⟩ 0=3:=by unfold bT ed;rw[if_pos ⟨h,J,by simp only;omega⟩];omega
    have EC:dn ⟨(u:Int),(Q:Int),l'⟩ 0=3+u:=by unfold dn ed;rw[if_pos ⟨h,J,by simp only;omega⟩];simp
    rw[oK]
    refine forall_congr' fun a=>⟨fun H1 x1 x2 x3=>?_,fun H1 x1 x2 x3=>?_⟩
    ·rw[H1 x1 x2 (by unfold jU;rw[EC];unfold kA at x3;simp only;omega),tj J J];unfold dP;rw[dD J]
    ·rw[H1 x1 x2 (by unfold kA;unfold jU at x3;rw[EC]at x3;simp only at x3;omega),tj J J];unfold dP;rw[dD J]
   have T_:sN ⟨(u:Int),Q,l'⟩ ws=if cm (bP ws ⟨(u:Int),Q,l'⟩)∧fits ⟨(u:Int),Q,l'⟩ (bP ws ⟨(u:Int),Q,l'⟩) ws then(bP ws ⟨(u:Int),Q,l'⟩,true)else(Bk.zero,false):=rfl
   obtain⟨b,XS⟩:∃b,bP ws ⟨(u:Int),Q,l'⟩=b:=⟨_,rfl⟩
   rw[XS]at kr X_ hS gG uU Sj nH Qc rW T_ gi ge
   rw[←kr]at gp dO
   rw[←X_]at go EG
   have aa6:=dO
   clear kr X_
   have xC:∀(R τ':af) (hv:Nat→U),yI (B+1) R b (.sl 0 0 0 1) (.sl 0 0 0 1) (.sl 0 0 0 1) (.sl 0 0 0 1) 4 hv→(∀j,j<4→b.aj j=[]→hv j= .al)→B+1≤R.n→R.n≤τ'.n→R.get P=some ⟨b.ah.map (.int .i64),true⟩→R.get O=some ⟨b.owner.map (.int .i64),true⟩→R.get aa=some ⟨b.cy.map (.int .i64),true⟩→R.get E=some ⟨b.ao.map (.int .i64),true⟩→bY I.n I R→(∀y,y<R.n→NE y (I.n+1)→τ'.get y=R.get y)→cm b→fits ⟨(u:Int),Q,l'⟩ b ws→GG (.cw [.agg [.int .i64 b.am,.sl P 0 Q 1,hv 0,hv 1,hv 2,hv 3,.sl O 0 (Q*8) 1,.sl aa 0 u 1,.sl E 0 u 1],.bool true]) τ':=by
    intro R τ' hv h1 h2 h3 h4 h5 h6 h7 h8 h9 pC lh nW
    rw[←hG]
    show Fj _ _ _ _
    rw[T_,if_pos ⟨lh,nW⟩]
    have hd:∀k,k<4→bu .i64 τ' (hv k) (b.aj k):=fun k hk=>((h1.hd k hk).frame h4 fun pK q1 q2=>pC _ q2 aD).v
    have BM:∀k,k<4→∀y,y<I.n→NE (cn (hv k)) y∨hv k= .al:=fun k hk y hy=>by
     rcases h1.hd k hk with⟨h,_⟩|⟨r,h,hr,_⟩
     ·exact .inr h
     ·rw[h];left;simp only[NE,cn];omega
    have hg:∀y,y≤B→NE y (I.n+1)→τ'.get y=R.get y:=fun y y1 y2=>pC y J y2
    refine⟨.sl P 0 Q 1,hv 0,hv 1,hv 2,hv 3,.sl O 0 (Q*8) 1,.sl aa 0 u 1,.sl E 0 u 1,rfl,⟨bf J ((hg P J aD).trans h5) J,hd 0 J,hd 1 J,hd 2 J,hd 3 J,bf J ((hg O J aD).trans h6) J,bf J ((hg aa J aD).trans h7) J,bf J ((hg E J aD).trans h8) J⟩,fun y hy=>(hg y J aD).trans (h9 y hy),J,fun y hy=>⟨.inl (by show P≠y;omega),?_,?_,?_,?_,.inl (by show O≠y;omega),.inl (by show aa≠y;omega),.inl (by show E≠y;omega)⟩,fun k v hk qF he=>?_⟩
    ·exact(BM 0 J y hy).imp NE.ne id
    ·exact(BM 1 J y hy).imp NE.ne id
    ·exact(BM 2 J y hy).imp NE.ne id
    ·exact(BM 3 J y hy).imp NE.ne id
    ·have:v=hv k:=by
      have:k=0∨k=1∨k=2∨k=3:=J
      rcases this with rfl|rfl|rfl|rfl<;>(cases qF;rfl)
     rw[this];exact h2 k hk he
   have R7:∀(R τ':af),B+1≤R.n→R.n≤τ'.n→bY I.n I R→(∀y,y<I.n→τ'.get y=R.get y)→¬(cm b∧fits ⟨(u:Int),Q,l'⟩ b ws)→GG (.cw [.agg [.int .i64 0,.al,.al,.al,.al,.al,.al,.al,.al],.bool false]) τ':=by
    intro R τ' h1 h2 h3 h4 h5
    rw[←hG]
    rw[if_neg h5]at T_
    exact Fj.zero T_ (fun y hy=>(h4 y hy).trans (h3 y hy)) J
   simp only[e8]at nH Qc
   have JF:∀k:Nat,k<4→at_ V (3+2*(u:Int)+k)=dP ws (dv ⟨(u:Int),Q,l'⟩ k):=fun k hk=>by
    rw[tj J J]
    congr 1
    unfold dv ed;rw[if_pos ⟨h,J⟩];simp only;omega
   have dO:∀a:Int,1≤a→a≤8*(Q:Int)→at_ V (7+2*(u:Int)+9*Q+a-1)=dP ws (eV ⟨(u:Int),Q,l'⟩ (a-1)):=fun a T3 qf=>by
    rw[tj J J]
    congr 1
    unfold eV ed;rw[if_pos ⟨h,J,by simp only;omega⟩];simp only;omega
   have XQ:∀j,0≤at_ V j:=fun j=>(XR j).1
   have Ua:=fun f=>CN ws ⟨(u:Int),Q,l'⟩ f
   have og:=fun {f a}=> @FR ws ⟨(u:Int),Q,l'⟩ f a
   have uz:=fun {f a}=> @CM ws ⟨(u:Int),Q,l'⟩ f a
   simp only at og uz
   clear hG T_
   simp+contextual (maxSteps:=1000000) (disch:=first|exact dB|fail) [go_sem,int_lt,-Int.not_le,-Int.not_lt,-List.map_set,fL,Xt,Xs,e6,e2,e4,e7]
   (repeat refine Alt.mk ?_)
   refine aC (fun R_ env R=>∃(k:Nat),∃(hh:Nat→U),env 68= .int .i64 k∧env 6= .sl q 0 H 1∧env 2= .ptr I.n 0∧env 4= .ptr (I.n+1) 0∧env 7= .ptr B 0∧R_ (4-k)∧(k≤4)∧(R.get B=some ⟨[.int .i64 (u:Int),.sl P 0 Q 1,hh 0,hh 1,hh 2,hh 3,.sl O 0 (Q*8) 1,.sl aa 0 u 1,.sl E 0 u 1],true⟩)∧(R.get I.n=some ⟨[.int .i64 (u:Int),.int .i64 (Q:Int),.int .i64 l'],true⟩)∧(R.get (I.n+1)=some ⟨[.int .i64 0,.al,.al,.al,.al,.al,.al,.al,.al],true⟩)∧(R.get q=some ⟨V.map (.int .i64),true⟩)∧(R.get P=some ⟨b.ah.map (.int .i64),true⟩)∧(R.get O=some ⟨b.owner.map (.int .i64),true⟩)∧(R.get aa=some ⟨b.cy.map (.int .i64),true⟩)∧(R.get E=some ⟨b.ao.map (.int .i64),true⟩)∧(yI (B+1) R b (.sl 0 0 0 1) (.sl 0 0 0 1) (.sl 0 0 0 1) (.sl 0 0 0 1) k hh)∧((∀j,j<k→b.aj j=[]→hh j= .al))∧(B+1≤R.n)∧(bY I.n I R)) (by rintro R_ env R ⟨k,hh,F0,e6,e2,e4,e7,cz,hk,gB,g0,g1,gq,gp,go,gi,ge,hO,hz,hN,gY⟩;exact⟨_,cz,k,hh,F0,e6,e2,e4,e7,rfl,hk,gB,g0,g1,gq,gp,go,gi,ge,hO,hz,hN,gY⟩) ⟨0,fun _=> .al,aq,aq,aq,aq,aq,trivial,?_,?_,?_,?_,?_,?_,?_,?_,?_,?_,?_,?_,?_⟩ ?_
   rotate_left 13
   rintro m_ env R ⟨k,hh,F0,e6,e2,e4,e7,rfl,hk,gB,g0,g1,gq,gp,go,gi,ge,hO,hz,hN,gY⟩
   ·by_cases xJ:k<4
    ·have Jt:¬(4:Int)≤(k:Int):=J
     have EB:¬(H:Int)≤3+2*(u:Int)+k:=J
     have zY:=JF k xJ
     have zX:=XQ (3+2*(u:Int)+k)
     clear xC
     simp+contextual (maxSteps:=1000000) (disch:=first|exact dB|fail) [go_sem,int_lt,-Int.not_le,-Int.not_lt,-List.map_set,fL,F0,e6,e2,e4,e7,Jt,g0,gq,Hz,EB]
     (repeat refine Alt.mk ?_)
     obtain⟨τ1,rfl⟩:∃x,x=R:=⟨_,rfl⟩
     refine aC (fun R_ env R=>∃(a:Int),∃(ls:List Int),∃(w:U),env 10= .int .i64 a∧env 9= .int .i64 k∧env 68= .int .i64 k∧env 6= .sl q 0 H 1∧env 2= .ptr I.n 0∧env 4= .ptr (I.n+1) 0∧env 7= .ptr B 0∧R_ (Q*8-ls.length)∧((0≤a∧ls.length≤Q*8∧chain ws ⟨(u:Int),Q,l'⟩ (Q*8) (dP ws (dv ⟨(u:Int),Q,l'⟩ k))=(chain ws ⟨(u:Int),Q,l'⟩ (Q*8-ls.length) a).map (ls++ ·)))∧(R.get B=some ⟨[.int .i64 (u:Int),.sl P 0 Q 1,gh hh k w 0,gh hh k w 1,gh hh k w 2,gh hh k w 3,.sl O 0 (Q*8) 1,.sl aa 0 u 1,.sl E 0 u 1],true⟩)∧(uD τ1.n R w ls)∧((ls=[]→w= .al))∧(τ1.n≤R.n)∧((∀y,y<τ1.n→NE y B→R.get y=τ1.get y))) (by rintro R_ env R ⟨a,ls,w,em,e9,F0,e6,e2,e4,e7,cz,ha,OQ,hw,O',fz,hf⟩;exact⟨_,cz,a,ls,w,em,e9,F0,e6,e2,e4,e7,rfl,ha,OQ,hw,O',fz,hf⟩) ⟨_,[],.al,aq,aq,aq,aq,aq,aq,aq,trivial,?_,?_,?_,?_,?_,?_⟩ ?_
     rotate_left 6
     rintro m_ env R ⟨a,ls,w,em,e9,F0,e6,e2,e4,e7,rfl,ha,OQ,hw,O',fz,hf⟩
     ·obtain⟨T3,qf,Sc⟩:=ha
      have hg:∀y,y<B→R.get y=τ1.get y:=fun y y1=>hf y J aD
      have PT:=(hg _ J).trans g0
      have TQ:=(hg _ J).trans g1
      have ZW:=(hg _ J).trans gq
      have Un:bY I.n I R:=fun y hy=>(hg y J).trans (gY y hy)
      have om:=nI (s:= .int .i64 (u:Int)) (pv:= .sl P 0 Q 1) (ov:= .sl O 0 (Q*8) 1) (iv:= .sl aa 0 u 1) (ev:= .sl E 0 u 1) xJ (yz (hv:=hh) (v:=w) xJ)
      have JL:=qA om
      have ln:=fun w'=> @D2 (.int .i64 (u:Int)) (.sl P 0 Q 1) (.sl O 0 (Q*8) 1) (.sl aa 0 u 1) (.sl E 0 u 1) w w' hh k xJ
      have Q2:∀j,ey (gh hh k w j)∨4≤j:=fun j=>by
       by_cases h4:j<4
       ·left;unfold gh;split
        ·exact hw.v.aQ
        ·by_cases Qm:j<k
         ·exact(hO.hd j Qm).v.aQ
         ·rw[hO.hn j J];exact .inl rfl
       ·exact .inr J
      by_cases Da:a=0
      ·subst Da
       have hch:=Sc
       rw[Ua]at hch
       have hhk:=Qc k xJ _ hch
       simp only[List.append_nil]at hhk
       have C_:R.get B=some ⟨[.int .i64 (u:Int),.sl P 0 Q 1,gh hh k w 0,gh hh k w 1,gh hh k w 2,gh hh k w 3,.sl O 0 (Q*8) 1,.sl aa 0 u 1,.sl E 0 u 1],true⟩:=OQ
       have hOn:yI (B+1) R b (.sl 0 0 0 1) (.sl 0 0 0 1) (.sl 0 0 0 1) (.sl 0 0 0 1) (k+1) (gh hh k w):=by
        refine hO.next (τ':=R.set B ⟨[.int .i64 (u:Int),.sl P 0 Q 1,hh 0,hh 1,hh 2,hh 3,.sl O 0 (Q*8) 1,.sl aa 0 u 1,.sl E 0 u 1],true⟩) (v:= .sl 0 0 0 1) hN ?_ ?_ (fun hc=>by cases hc) (fun y hy=>?_) ?_ (fun y y1 y2=>?_) ?_
        ·have:k=0∨k=1∨k=2∨k=3:=J
         rcases this with rfl|rfl|rfl|rfl<;>rfl
        ·rw[hhk];exact hw.frame bj fun _ q1 q2=>ai J
        ·by_cases e:y=B
         ·subst e;rw[gB];(first|exact bn|fail)
         ·rw[ai e];exact hf y hy aD
        ·simp only[az];omega
        ·rw[ai J]
        ·simp only[az]
       have hzn:∀j,j<k+1→b.aj j=[]→gh hh k w j= .al:=fun j hj he=>by
        by_cases e:j=k
        ·subst e
         rw[hhk]at he
         unfold gh;rw[if_pos rfl];exact O' he
        ·unfold gh;rw[if_neg e];exact hz j J he
       clear OQ hO
       simp+contextual (maxSteps:=1000000) (disch:=first|exact dB|fail) [go_sem,int_lt,-Int.not_le,-Int.not_lt,-List.map_set,fL,em,e9,F0,e6,e2,e4,e7]
       (repeat refine Alt.mk ?_)
       exact⟨k+1,J,J,J,gh hh k w,C_,PT,TQ,ZW,(hg P J).trans gp,(hg O J).trans go,(hg aa J).trans gi,(hg E J).trans ge,hOn,hzn,J,Un⟩
      ·have tu:=fun mH τ' h1 h2=>R7 R τ' J h1 Un h2 (nH k xJ mH)
       by_cases hA:8*(Q:Int)<a
       ·rw[Sc,og Da (.inl J)]at tu
        replace tu:=tu rfl
        clear R7 nH Qc Ua og uz JF dO
        simp+contextual (maxSteps:=1000000) (disch:=first|exact dB|fail) [go_sem,int_lt,-Int.not_le,-Int.not_lt,-List.map_set,fL,em,e9,F0,e6,e2,e4,e7,Da,hA,PT,TQ,OQ,om,JL,Q2]
        (repeat refine Alt.mk ?_)
        exact tu _ bj fun y hy=>by rw[ai J]
       have hL4:¬(0:Int)=8*(Q:Int):=J
       by_cases hL:ls.length=Q*8
       ·rw[Sc,og Da (.inr J)]at tu
        replace tu:=tu rfl
        have Je:(ls.length:Int)=8*(Q:Int):=J
        clear R7 nH Qc Ua og uz JF dO
        rcases hw with⟨_,rfl⟩|⟨q',rfl,q1,q2,q3⟩
        ·simp at Je;omega
        simp+contextual (maxSteps:=1000000) (disch:=first|exact dB|fail) [go_sem,int_lt,-Int.not_le,-Int.not_lt,-List.map_set,fL,em,e9,F0,e6,e2,e4,e7,Da,hA,PT,TQ,OQ,om,JL,Q2,Je]
        (repeat refine Alt.mk ?_)
        exact tu _ bj fun y hy=>by rw[ai J]
       have Je:¬(ls.length:Int)=8*(Q:Int):=J
       have hL3:ls.length≤1000000:=J
       have T9:¬(H:Int)≤7+2*(u:Int)+9*Q+a-1:=J
       have JB:chain ws ⟨(u:Int),Q,l'⟩ (Q*8) (dP ws (dv ⟨(u:Int),Q,l'⟩ k))=(chain ws ⟨(u:Int),Q,l'⟩ (Q*8-(ls++[a-1]).length) (at_ V (7+2*(u:Int)+9*Q+a-1))).map ((ls++[a-1])++ ·):=by
        rw[Sc,dO a J J,show Q*8-ls.length=(Q*8-(ls++[a-1]).length)+1 by simp;omega,uz Da J]
        cases chain ws ⟨(u:Int),Q,l'⟩ (Q*8-(ls++[a-1]).length) (dP ws (eV ⟨(u:Int),Q,l'⟩ (a-1)))with
        |none=>rfl
        |some m=>simp
       have pK:=XQ (7+2*(u:Int)+9*Q+a-1)
       have hvx:∀hj:(7+2*(u:Int)+9*Q+a).toNat-1<V.length,V[(7+2*(u:Int)+9*Q+a).toNat-1]'hj=at_ V (7+2*(u:Int)+9*Q+a-1):=fun hj=>by
        have h2:=get_at hj
        rw[List.getElem?_eq_getElem hj]at h2
        rw[Option.some.inj h2];congr 1;omega
       have EF:(ls++[a-1]).length≤Q*8∧Q*8-(ls++[a-1]).length<Q*8-ls.length:=by simp;omega
       generalize hXX:at_ V (7+2*(u:Int)+9*Q+a-1)=XX at JB pK hvx
       clear R7 nH Qc Ua og uz JF dO tu XQ XR tj Jh hXX
       rcases hw with⟨rfl,rfl⟩|⟨q',rfl,q1,q2,q3⟩
       ·simp+contextual (maxSteps:=1000000) (disch:=first|exact dB|fail) [go_sem,int_lt,-Int.not_le,-Int.not_lt,-List.map_set,fL,em,e9,F0,e6,e2,e4,e7,Da,hA,PT,OQ,om,JL,Q2,Je,hL4,ln,ZW,Hz,T9,hvx]
        (repeat refine Alt.mk ?_)
        exact⟨[]++[a-1],EF.2,pK,EF.1,JB,.sl (R.n+1) 0 1 1,rfl,rfl,rfl,rfl,.inr ⟨R.n+1,rfl,J,by simp only[au,az];omega,by show _=some (cT.mk [U.int .i64 (a-1)] true);(first|exact bn|fail)⟩,fun hc=>by simp at hc,J,hf⟩
       ·simp+contextual (maxSteps:=1000000) (disch:=first|exact dB|fail) [go_sem,int_lt,-Int.not_le,-Int.not_lt,-List.map_set,fL,em,e9,F0,e6,e2,e4,e7,Da,hA,PT,OQ,om,JL,Q2,Je,ln,ZW,Hz,T9,q3,hvx]
        (repeat refine Alt.mk ?_)
        exact⟨ls++[a-1],EF.2,pK,EF.1,JB,.sl (R.n+1) 0 (ls.length+1) 1,rfl,rfl,rfl,rfl,.inr ⟨R.n+1,aV,J,by simp only[au,az,aR];omega,by simp only[List.map_append,List.map_cons,List.map_nil];(first|exact bn|fail)⟩,fun hc=>by simp at hc,J,hf⟩
     ·refine⟨zX,aV,?_⟩
      rw[zY];simp only[List.length_nil,Nat.sub_zero]
      cases chain ws ⟨(u:Int),Q,l'⟩ (Q*8) (dP ws (dv ⟨(u:Int),Q,l'⟩ k))with
      |none=>rfl
      |some m=>rfl
     ·rw[show gh hh k .al=hh from by
       funext j;unfold gh;split
       ·rename_i e;subst e;rw[hO.hn _ (Nat.le_refl _)]
       ·rfl]
      exact gB
     ·exact .inl ⟨rfl,rfl⟩
     ·exact fun _=>rfl
     ·exact Nat.le_refl _
     ·exact fun y _ _=>rfl
    ·have MZ:k=4:=J
     subst MZ
     have lI:=And.intro (hO.hd 0 J).v.aQ (And.intro (hO.hd 1 J).v.aQ (And.intro (hO.hd 2 J).v.aQ (hO.hd 3 J).v.aQ))
     obtain⟨m0,m1,m2,m3⟩:=lI
     have gR:fb R b (.sl P 0 Q 1) (hh 0) (hh 1) (hh 2) (hh 3) (.sl O 0 (Q*8) 1) (.sl aa 0 u 1) (.sl E 0 u 1):=⟨bf J gp aa6,(hO.hd 0 J).v,(hO.hd 1 J).v,(hO.hd 2 J).v,(hO.hd 3 J).v,bf J go EG,bf J gi uU,bf J ge Sj⟩
     have ag1:(b.cy.length:Int)=u∧(b.ao.length:Int)=u∧(b.ah.length:Int)=Q:=J
     rw[←gG]at gB
     have tu:=R7 R
     clear nH Qc Ua og uz JF dO XQ XR tj Jh R7
     by_cases di:cm b
     rotate_left
     ·have xL:=fun τ' h1 h2=>tu τ' hN h1 gY h2 (fun hc=>di hc.1)
      clear tu xC
      simp+contextual (maxSteps:=1000000) (disch:=first|exact dB|fail) [go_sem,int_lt,-Int.not_le,-Int.not_lt,-List.map_set,fL,F0,e6,e2,e4,e7,gB,g1,di]
      (repeat refine Alt.mk ?_)
      exact xL _ bj fun y hy=>by rw[ai J]
     have ig:=fun τ' h1 h2 h3=>xC R τ' hh hO hz hN h1 gp go gi ge gY h2 di h3
     have xL:=fun τ' h1 h2 (h3:¬fits ⟨(u:Int),Q,l'⟩ b ws)=>tu τ' hN h1 gY h2 (fun hc=>h3 hc.2)
     have pD:=ma ⟨(u:Int),Q,l'⟩ b
     rw[L0]at pD
     rw[rW]at ig xL
     have X2:=HR.of di
     clear tu xC
     simp+contextual (maxSteps:=1000000) (disch:=first|exact dB|fail) [go_sem,int_lt,-Int.not_le,-Int.not_lt,-List.map_set,fL,F0,e6,e2,e4,e7,gB,g0,di]
     (repeat refine Alt.mk ?_)
     obtain⟨L,hL⟩:∃L,lay ⟨(u:Int),Q,l'⟩ b=L:=⟨_,rfl⟩
     rw[hL]at ig xL pD⊢
     have hLH:L.length=H:=J
     obtain⟨τ2,rfl⟩:∃x,x=R:=⟨_,rfl⟩
     have agn:7+2*u+17*Q=H:=XM.symm
     clear XM pD
     refine aC (fun R_ env R=>∃(i:Int),env 123= .int .i64 i∧env 122= .int .i64 L.length∧env 121= .sl τ2.n 0 L.length 1∧env 6= .sl q 0 H 1∧env 2= .ptr I.n 0∧env 4= .ptr (I.n+1) 0∧env 7= .ptr B 0∧τ2.push ⟨L.map (.int .i64),true⟩=R∧R_ ((L.length-i).toNat)∧(0≤i∧i≤L.length∧∀j:Int,0≤j→j<i→kA u Q j→at_ L j=at_ V j)) (by rintro R_ env R ⟨i,FZ,FY,FX,e6,e2,e4,e7,h_,cz,hp⟩;exact⟨_,cz,i,FZ,FY,FX,e6,e2,e4,e7,h_,rfl,hp⟩) ⟨0,aq,aq,aq,aq,aq,aq,aq,rfl,trivial,?_⟩ ?_
     rotate_left
     rintro m_ env R ⟨i,FZ,FY,FX,e6,e2,e4,e7,rfl,rfl,hp⟩
     ·obtain⟨nK,kM,vP⟩:=hp
      have xM:(¬kA u Q i∨at_ L i=at_ V i)→∀j:Int,0≤j→j<i+1→kA u Q j→at_ L j=at_ V j:=fun tv j x1 x2 x3=>by
       by_cases e:j=i
       ·subst e;exact tv.resolve_left fun hc=>hc x3
       ·exact vP j x1 J x3
      by_cases aaM:i<L.length
      ·have L':¬(L.length:Int)≤i:=J
       have hl4:¬(H:Int)≤i:=J
       by_cases Sq:kA u Q i
       ·by_cases heq:at_ L i=at_ V i
        ·have Dk:=xM (.inr heq)
         clear xM ig xL rW
         simp+contextual (maxSteps:=1000000) (disch:=first|exact dB|fail) [go_sem,int_lt,-Int.not_le,-Int.not_lt,-List.map_set,fL,FZ,FY,FX,e6,e2,e4,e7,L',hl4,g0,gq,Hz,Sq,heq]
         (repeat refine Alt.mk ?_)
         exact⟨J,J,J,fun j x1 x2 x3=>Dk j x1 J x3⟩
        ·have aaZ:=fun τ' h1 h2=>xL τ' h1 h2 (fun hc=>heq (hc i (by unfold kA at Sq;omega) aaM Sq))
         clear xM ig xL rW
         simp+contextual (maxSteps:=1000000) (disch:=first|exact dB|fail) [go_sem,int_lt,-Int.not_le,-Int.not_lt,-List.map_set,fL,FZ,FY,FX,e6,e2,e4,e7,L',hl4,g0,g1,gq,Hz,Sq,heq]
         (repeat refine Alt.mk ?_)
         exact aaZ _ mV fun y hy=>by rw[ak bj,ai J]
       ·have Dk:=xM (.inl Sq)
        clear xM ig xL rW
        simp+contextual (maxSteps:=1000000) (disch:=first|exact dB|fail) [go_sem,int_lt,-Int.not_le,-Int.not_lt,-List.map_set,fL,FZ,FY,FX,e6,e2,e4,e7,L',hl4,g0,gq,Hz,Sq]
        (repeat refine Alt.mk ?_)
        exact⟨J,J,J,fun j x1 x2 x3=>Dk j x1 J x3⟩
      ·have L':(L.length:Int)≤i:=J
       have Qg:=fun τ' h1 h2=>ig τ' h1 h2 (fun j x1 x2 x3=>vP j J J x3)
       clear xM ig xL rW
       simp+contextual (maxSteps:=1000000) (disch:=first|exact dB|fail) [go_sem,int_lt,-Int.not_le,-Int.not_lt,-List.map_set,fL,FZ,FY,FX,e6,e2,e4,e7,L',g1,gB]
       (repeat refine Alt.mk ?_)
       exact Qg _ mV fun y y1 y2=>by rw[ak bj,ai y2.ne]
     ·exact⟨J,J,fun j x1 x2=>by omega⟩
   ·omega
   ·exact gB
   ·exact g0
   ·exact g1
   ·exact gq
   ·exact gp
   ·exact go
   ·exact gi
   ·exact ge
   ·exact⟨fun j hj=>by omega,fun j hj=>rfl,fun j k hj=>by omega,fun j v hj=>by omega⟩
   ·intro j hj;omega
   ·exact hn
   ·exact gY
 ·omega
 ·(first|exact bn|fail)
 ·(first|exact bn|fail)
 ·(first|exact bn|fail)
 ·(first|exact bn|fail)
 ·(first|exact bn|fail)
 ·(first|exact bn|fail)
 ·(first|exact bn|fail)
 ·(first|exact bn|fail)
 ·intro y hy;rw[←Uo y hy];(first|exact bn|fail)
 ·simp only[au,az];omega
attribute [irreducible] sN
end AH
