import Derived.Test.YtagihpbpblnnoaaGreatZ24
import Derived.Test.YtagihpbpblnnoaaGreatZ13
import Derived.Test.YtagihpbpblnnoaaGreatZ23
import Derived.Test.YtagihpbpblnnoaaGreatZ00
set_option linter.all false
namespace AH
open Go Go.Proofs Ho
set_option maxRecDepth 20000
set_option maxHeartbeats 16000000
theorem Ow(I:af)(v:U)(ws:List Int)(s p l':Int)(k:Int)(hv:bu .u64 I v ws)(hW:∀w∈ws,ci w)(hs:0≤s∧s≤10)(hp:0≤p∧p≤10)(kk:U→af→Prop):
 @dN Tryz.prog (.fn 265 [] []) [v,cV s p l',.int .i64 k] I ⟨kk⟩= @Alt (kk (.sl I.n 0 (cA ws ⟨s,p,l'⟩ (p*8+1).toNat (dP ws (dv ⟨s,p,l'⟩ k))).length 1) (I.push ⟨(cA ws ⟨s,p,l'⟩ (p*8+1).toNat (dP ws (dv ⟨s,p,l'⟩ k))).map (.int .i64),true⟩)) ⟨@dN Tryz.prog (.fn 265 [] []) [v,cV s p l',.int .i64 k] I ⟨kk⟩⟩:=ar (LJ I v ws s p l' k hv hW hs hp)
attribute [go_sem] Ow
def lE(n:Nat)(f:Nat→Int)(u:Nat):List Int:=(List.range u).map f++List.replicate (n-u) 0
theorem kh{n u:Nat}{f:Nat→Int}(h:u≤n):(lE n f u).length=n:=by simp[lE];omega
theorem KG{n u:Nat}{f:Nat→Int}(h:u<n):put (lE n f u) (u:Int) (f u)=lE n f (u+1):=by
 unfold lE put
 have hr:List.replicate (n-u) (0:Int)=0::List.replicate (n-(u+1)) 0:=by
  rw[show n-u=(n-(u+1))+1 by omega,List.replicate_succ]
 rw[hr,Int.toNat_natCast,List.set_append_right _ _ aV,List.range_succ]
 simp
theorem lG(n:Nat)(f:Nat→Int):lE n f 0=List.replicate n 0:=by simp[lE]
theorem nP(n:Nat)(f:Nat→Int):lE n f n=(List.range n).map f:=by simp[lE]
theorem lF{n u:Nat}{f:Nat→Int}(h:u<n):aB ((lE n f u).map (U.int .i64)) u [.int .i64 (f u)]=(lE n f (u+1)).map (.int .i64):=by
 have h1:=jH (kk:= .i64) (ws:=lE n f u) (a:=(u:Int)) (x:=f u) J (by rw[kh J];omega)
 have h2:=KG (f:=f) h
 unfold put at h2
 rw[h2,Int.toNat_natCast]at h1
 exact h1
theorem LN(I:af)(v:U)(ws:List Int)(s p l':Int)(hv:bu .u64 I v ws)(hW:∀w∈ws,ci w)(h:aM.ok ⟨s,p,l'⟩):
 Fn Tryz.prog 224 [v,cV s p l'] I fun x R=>∃p' o i e q0 q1 q2 q3,x=bO (bP ws ⟨s,p,l'⟩) p' o i e q0 q1 q2 q3∧iY I.n R (bP ws ⟨s,p,l'⟩) p' o i e q0 q1 q2 q3∧bY I.n I R∧I.n≤R.n:=by
 refine bA kS mixed Tryz.func224 (by kernel_rfl) rfl (by kernel_rfl) ?_
 obtain⟨S,rfl⟩:∃S:Nat,s=(S:Int):=⟨s.toNat,by have:=h.1;simp only at this;omega⟩
 obtain⟨Q,rfl⟩:∃Q:Nat,p=(Q:Int):=⟨p.toNat,by have:=h.2.2.1;simp only at this;omega⟩
 have h':=h
 unfold aM.ok at h'
 simp only at h'
 have e8:((Q:Int)*8).toNat=Q*8:=J
 simp+contextual (maxSteps:=1000000) (disch:=first|exact dB|fail) [go_sem,int_lt,-Int.not_le,-Int.not_lt,-List.map_set,kS]
 (repeat refine Alt.mk ?_)
 refine aw (G8 _ S Q l' h) ?_
 rintro x0 R lZ ⟨P,O,aa,E,rfl,hE,hk,hn⟩
 simp only[au]at hk hn
 obtain⟨⟨oP,oQ,oR,n8⟩,⟨oC,gc,lI,mI⟩,⟨d1,d2,d3,d4,d5,d6⟩,gp,go,gi,ge⟩:=hE
 simp only[au,e8,Int.toNat_natCast]at oP oQ oR n8 gp go gi ge⊢
 have g0:=hk I.n J
 have g1:=hk (I.n+1) J
 simp(disch:=first|omega|(simp only[au];omega)) only[ak]at g0
 rw[aU _ rfl]at g0
 rw[aU _ iF]at g1
 have gY:bY I.n I R:=by
  intro y hy
  rw[hk y J]
  simp(disch:=first|omega|(simp only[au];omega)) only[ak]
 simp+contextual (maxSteps:=1000000) (disch:=first|exact dB|fail) [go_sem,int_lt,-Int.not_le,-Int.not_lt,-List.map_set,kS,g0,g1]
 (repeat refine Alt.mk ?_)
 obtain⟨B,hB⟩:∃B,B=R.n:=⟨_,rfl⟩
 rw[←hB]
 obtain⟨dB1,dB2,dB3,dB4⟩:NE P B∧NE O B∧NE aa B∧NE E B:=by simp only[NE];omega
 obtain⟨dB5,dB6⟩:NE I.n B∧NE (I.n+1) B:=by simp only[NE];omega
 obtain⟨fI,Qi⟩:∃fI:Nat→Int,fI=fun(i:Nat)=>aG (bm ws (bT ⟨S,Q,l'⟩ i)) % 4:=⟨_,rfl⟩
 obtain⟨fE,Qh⟩:∃fE:Nat→Int,fE=fun(i:Nat)=>aG (bm ws (bT ⟨S,Q,l'⟩ i))/4:=⟨_,rfl⟩
 obtain⟨fP,hfP⟩:∃fP:Nat→Int,fP=fun(i:Nat)=>dP ws (iJ ⟨S,Q,l'⟩ i):=⟨_,rfl⟩
 obtain⟨fO,hfO⟩:∃fO:Nat→Int,fO=fun(i:Nat)=>dP ws (mE ⟨S,Q,l'⟩ i):=⟨_,rfl⟩
 have eI:∀i:Nat,aG (bm ws (bT ⟨S,Q,l'⟩ i)) % 4=fI i:=fun i=>by rw[Qi]
 have eE:∀i:Nat,aG (bm ws (bT ⟨S,Q,l'⟩ i))/4=fE i:=fun i=>by rw[Qh]
 have eP:∀i:Nat,dP ws (iJ ⟨S,Q,l'⟩ i)=fP i:=fun i=>by rw[hfP]
 have eO:∀i:Nat,dP ws (mE ⟨S,Q,l'⟩ i)=fO i:=fun i=>by rw[hfO]
 have dO:=fun a=>dE hW a
 refine aC (fun R_ env R=>∃(u:Nat),env 6= .int .i64 u∧env 0=v∧env 3= .ptr I.n 0∧env 4= .ptr (I.n+1) 0∧env 5= .ptr B 0∧R_ (S-u)∧(u≤S)∧(R.get B=some ⟨[.int .i64 (S:Int),.sl P 0 Q 1,.al,.al,.al,.al,.sl O 0 (Q*8) 1,.sl aa 0 S 1,.sl E 0 S 1],true⟩)∧(R.get I.n=some ⟨[.int .i64 (S:Int),.int .i64 (Q:Int),.int .i64 l'],true⟩)∧(R.get (I.n+1)=some ⟨[.int .i64 0,.al,.al,.al,.al,.al,.al,.al,.al],true⟩)∧(R.get P=some ⟨(List.replicate Q 0).map (.int .i64),true⟩)∧(R.get O=some ⟨(List.replicate (Q*8) 0).map (.int .i64),true⟩)∧(R.get aa=some ⟨(lE S fI u).map (.int .i64),true⟩)∧(R.get E=some ⟨(lE S fE u).map (.int .i64),true⟩)∧(bY I.n I R)∧(B<R.n)) (by rintro R_ env R ⟨u,e6,e0,e3,e4,e5,cz,hu,gb,g0,g1,gp,go,gi,ge,gY,hn⟩;exact⟨_,cz,u,e6,e0,e3,e4,e5,rfl,hu,gb,g0,g1,gp,go,gi,ge,gY,hn⟩) ⟨0,aq,aq,aq,aq,aq,trivial,?_,?_,?_,?_,?_,?_,?_,?_,?_,?_⟩ ?_
 rotate_left 10
 rintro m_ env R ⟨u,e6,e0,e3,e4,e5,rfl,hu,gb,g0,g1,gp,go,gi,ge,gY,hn⟩
 ·have qF:=hv.keeps gY hv.lt J
  have UE:=dO (bT ⟨S,Q,l'⟩ u)
  have pm:=kh (f:=fI) hu
  have pI:=kh (f:=fE) hu
  by_cases ms:u<S
  ·have fH:¬S≤u:=J
   have p1:=lF (f:=fI) ms
   have p2:=lF (f:=fE) ms
   simp+contextual (maxSteps:=1000000) (disch:=first|exact dB|fail) [go_sem,int_lt,-Int.not_le,-Int.not_lt,-List.map_set,kS,e6,e0,e3,e4,e5,gb,g0,gi,ge,fH,eI,eE,pm,pI,p1,p2]
   (repeat refine Alt.mk ?_)
   exact⟨u+1,J,J,J,g1,by simpa using gp,by simpa using go,rfl,rfl,gY,hn⟩
  ·have z9:u=S:=J
   subst z9
   rw[nP]at gi ge
   simp+contextual (maxSteps:=1000000) (disch:=first|exact dB|fail) [go_sem,int_lt,-Int.not_le,-Int.not_lt,-List.map_set,kS,e6,e0,e3,e4,e5,gb,g0]
   refine aC (fun R_ env R=>∃(k:Nat),env 7= .int .i64 k∧env 0=v∧env 3= .ptr I.n 0∧env 4= .ptr (I.n+1) 0∧env 5= .ptr B 0∧R_ (Q-k)∧(k≤Q)∧(R.get B=some ⟨[.int .i64 (u:Int),.sl P 0 Q 1,.al,.al,.al,.al,.sl O 0 (Q*8) 1,.sl aa 0 u 1,.sl E 0 u 1],true⟩)∧(R.get I.n=some ⟨[.int .i64 (u:Int),.int .i64 (Q:Int),.int .i64 l'],true⟩)∧(R.get (I.n+1)=some ⟨[.int .i64 0,.al,.al,.al,.al,.al,.al,.al,.al],true⟩)∧(R.get P=some ⟨(lE Q fP k).map (.int .i64),true⟩)∧(R.get O=some ⟨(List.replicate (Q*8) 0).map (.int .i64),true⟩)∧(R.get aa=some ⟨((List.range u).map fI).map (.int .i64),true⟩)∧(R.get E=some ⟨((List.range u).map fE).map (.int .i64),true⟩)∧(bY I.n I R)∧(B<R.n)) (by rintro R_ env R ⟨k,e7,e0,e3,e4,e5,cz,hkq,gb,g0,g1,gp,go,gi,ge,gY,hn⟩;exact⟨_,cz,k,e7,e0,e3,e4,e5,rfl,hkq,gb,g0,g1,gp,go,gi,ge,gY,hn⟩) ⟨0,aq,aq,aq,aq,aq,trivial,?_,?_,?_,?_,?_,?_,?_,?_,?_,?_⟩ ?_
   rotate_left 10
   rintro m_ env R ⟨k,e7,e0,e3,e4,e5,rfl,hkq,gb,g0,g1,gp,go,gi,ge,gY,hn⟩
   ·have qF:=hv.keeps gY hv.lt J
    have pm:=kh (f:=fP) hkq
    by_cases ms:k<Q
    ·have fH:¬Q≤k:=J
     have p1:=lF (f:=fP) ms
     simp+contextual (maxSteps:=1000000) (disch:=first|exact dB|fail) [go_sem,int_lt,-Int.not_le,-Int.not_lt,-List.map_set,kS,e7,e0,e3,e4,e5,gb,g0,gp,fH,eP,pm,p1]
     (repeat refine Alt.mk ?_)
     exact⟨k+1,J,J,J,g1,rfl,by simpa using go,by simpa using gi,by simpa using ge,gY,hn⟩
    ·have z9:k=Q:=J
     subst z9
     rw[nP]at gp
     simp+contextual (maxSteps:=1000000) (disch:=first|exact dB|fail) [go_sem,int_lt,-Int.not_le,-Int.not_lt,-List.map_set,kS,e7,e0,e3,e4,e5,gb,g0]
     refine aC (fun R_ env R=>∃(m:Nat),env 8= .int .i64 m∧env 0=v∧env 3= .ptr I.n 0∧env 4= .ptr (I.n+1) 0∧env 5= .ptr B 0∧R_ (k*8-m)∧(m≤k*8)∧(R.get B=some ⟨[.int .i64 (u:Int),.sl P 0 k 1,.al,.al,.al,.al,.sl O 0 (k*8) 1,.sl aa 0 u 1,.sl E 0 u 1],true⟩)∧(R.get I.n=some ⟨[.int .i64 (u:Int),.int .i64 (k:Int),.int .i64 l'],true⟩)∧(R.get (I.n+1)=some ⟨[.int .i64 0,.al,.al,.al,.al,.al,.al,.al,.al],true⟩)∧(R.get P=some ⟨((List.range k).map fP).map (.int .i64),true⟩)∧(R.get O=some ⟨(lE (k*8) fO m).map (.int .i64),true⟩)∧(R.get aa=some ⟨((List.range u).map fI).map (.int .i64),true⟩)∧(R.get E=some ⟨((List.range u).map fE).map (.int .i64),true⟩)∧(bY I.n I R)∧(B<R.n)) (by rintro R_ env R ⟨m,e8,e0,e3,e4,e5,cz,hkm,gb,g0,g1,gp,go,gi,ge,gY,hn⟩;exact⟨_,cz,m,e8,e0,e3,e4,e5,rfl,hkm,gb,g0,g1,gp,go,gi,ge,gY,hn⟩) ⟨0,aq,aq,aq,aq,aq,trivial,?_,?_,?_,?_,?_,?_,?_,?_,?_,?_⟩ ?_
     rotate_left 10
     rintro m_ env R ⟨m,e8,e0,e3,e4,e5,rfl,hkm,gb,g0,g1,gp,go,gi,ge,gY,hn⟩
     ·have qF:=hv.keeps gY hv.lt J
      have pm:=kh (f:=fO) hkm
      by_cases ms:m<k*8
      ·have fH:¬k*8≤m:=J
       have Yb:¬(k:Int)*8≤m:=J
       have p1:=lF (f:=fO) ms
       simp+contextual (maxSteps:=1000000) (disch:=first|exact dB|fail) [go_sem,int_lt,-Int.not_le,-Int.not_lt,-List.map_set,kS,e8,e0,e3,e4,e5,gb,g0,go,fH,Yb,eO,pm,p1]
       (repeat refine Alt.mk ?_)
       exact⟨m+1,J,J,J,g1,by simpa using gp,rfl,by simpa using gi,by simpa using ge,gY,hn⟩
      ·have z9:m=k*8:=J
       subst z9
       rw[nP]at go
       have Yb:(k:Int)*8≤((k*8:Nat):Int):=J
       simp+contextual (maxSteps:=1000000) (disch:=first|exact dB|fail) [go_sem,int_lt,-Int.not_le,-Int.not_lt,-List.map_set,kS,e8,e0,e3,e4,e5,gb,g0,Yb]
       have c0:=hv.ne (j:=B) J
       have M0:∀(j:Nat),j<4→∀l,(bP ws ⟨(u:Int),(k:Int),l⟩).aj j=cA ws ⟨(u:Int),(k:Int),l⟩ ((k:Int)*8+1).toNat (dP ws (dv ⟨(u:Int),(k:Int),l⟩ j)):=fun j hj l=>by show(if j<4 then _ else _)=_;rw[if_pos hj];rfl
       refine⟨5,?_⟩
       simp+contextual (maxSteps:=1000000) (disch:=first|exact dB|fail) [go_sem,int_lt,-Int.not_le,-Int.not_lt,-List.map_set,kS,e8,e0,e3,e4,e5,gb,g0,g1,px]
       (repeat refine Alt.mk ?_)
       have Qa:(bP ws ⟨(u:Int),(k:Int),l'⟩).ah=(List.range k).map fP:=by rw[hfP];simp[bP]
       have hbo:(bP ws ⟨(u:Int),(k:Int),l'⟩).owner=(List.range (k*8)).map fO:=by
        rw[hfO];simp only[bP];rw[show((k:Int)*8).toNat=k*8 by omega]
       have P':(bP ws ⟨(u:Int),(k:Int),l'⟩).cy=(List.range u).map fI:=by rw[Qi];simp[bP]
       have BN:(bP ws ⟨(u:Int),(k:Int),l'⟩).ao=(List.range u).map fE:=by rw[Qh];simp[bP]
       have R1:=M0 0 J l'
       have qB:=M0 1 J l'
       have vK:=M0 2 J l'
       have Ez:=M0 3 J l'
       refine⟨rfl,by rw[Qa];simp,by rw[R1];rfl,by rw[qB];rfl,by rw[vK];rfl,by rw[Ez];rfl,by rw[hbo];simp,by rw[P'];simp,by rw[BN];simp,⟨J,by simp only[au,az];omega,jf,?_,?_,?_,?_,?_,?_,?_,?_⟩,?_⟩
       ·rw[Qa];(first|exact bn|fail)
       ·rw[hbo];(first|exact bn|fail)
       ·rw[P'];(first|exact bn|fail)
       ·rw[BN];(first|exact bn|fail)
       ·rw[R1];(first|exact bn|fail)
       ·rw[qB];(first|exact bn|fail)
       ·rw[vK];(first|exact bn|fail)
       ·rw[Ez];(first|exact bn|fail)
       ·exact⟨gY,J⟩
     all_goals first
      |assumption
      |omega
      |(simp only[lG];assumption)
      |trace_state
   all_goals first
    |assumption
    |omega
    |(simp only[lG];assumption)
    |trace_state
 all_goals first
  |omega
  |(simp only[lG];(first|exact bn|fail))
  |(refine aU _ ?_;assumption)
  |(first|exact bn|fail)
  |(simp only[au];omega)
  |(intro j_ xI;rw[ak J];exact gY j_ xI)
  |trace_state
end AH
namespace AH
open Go Go.Proofs Ho
set_option maxRecDepth 20000
set_option maxHeartbeats 16000000
theorem en(n:Nat)(f:Nat→List Int→List Int)(v:List Int):upto (n+1) f v=f n (upto n f v):=by
 unfold upto;rw[List.range_succ,List.foldl_append];rfl
theorem fK(f:Nat→List Int→List Int)(v:List Int):upto 0 f v=v:=by unfold upto;rfl
theorem dY(f:Nat→List Int→List Int)(hf:∀i v,(f i v).length=v.length)(v:List Int):∀n,(upto n f v).length=v.length:=by
 intro n
 induction n with
 |zero=>rw[fK]
 |succ n ih=>rw[en,hf,ih]
theorem nk(c:aM):∀(l:List Int) (a:Int) (v:List Int),(ew c l a v).length=v.length:=by
 intro l
 induction l with
 |nil=>intro a v;rfl
 |cons x l ih=>intro a v;simp only[ew];rw[ih,aF]
theorem GM(c:aM)(hc:c.ok)(n:Int):(0≤bT c n∧bT c n<aP c)∧(0≤iJ c n∧iJ c n<aP c)∧(0≤mE c n∧mE c n<aP c)∧(0≤dv c n∧dv c n<aP c)∧(0≤eV c n∧eV c n<aP c):=by
 unfold aM.ok at hc
 unfold bT iJ mE dv eV ed aP
 refine⟨?_,?_,?_,?_,?_⟩<;>(split<;>omega)
def f1(c:aM)(b:Bk):Nat→List Int→List Int:=fun i v=>put v (bT c i) (at_ b.cy i+4*at_ b.ao i)
def f2(c:aM)(b:Bk):Nat→List Int→List Int:=fun i v=>put v (iJ c i) (at_ b.ah i)
def f3(c:aM)(b:Bk):Nat→List Int→List Int:=fun i v=>put v (mE c i) (at_ b.owner i)
def f4(c:aM)(b:Bk):Nat→List Int→List Int:=fun k v=>ew c (b.aj k) (dv c k) v
theorem yC(I:af)(b:Bk)(pv h0 h1 h2 h3 ov iv ev:U)(s p l':Int)(hb:fb I b pv h0 h1 h2 h3 ov iv ev)(hs:dW b)(h:aM.ok ⟨s,p,l'⟩)(hi:(b.cy.length:Int)=s∧(b.ao.length:Int)=s∧(b.ah.length:Int)=p):
 Fn Tryz.prog 176 [cV s p l',bV b pv h0 h1 h2 h3 ov iv ev] I fun x R=>x= .sl I.n 0 (lay ⟨s,p,l'⟩ b).length 1∧R=I.push ⟨(lay ⟨s,p,l'⟩ b).map (.int .i64),true⟩:=by
 have key:=ld (args:=[cV s p l',bV b pv h0 h1 h2 h3 ov iv ev]) (I:=I) (xs:=(lay ⟨s,p,l'⟩ b).map (.int .i64)) eY mixed Tryz.func176 (by kernel_rfl) rfl (by kernel_rfl) (lz _ _ _) ?_
 ·simpa using key
 obtain⟨S,rfl⟩:∃S:Nat,s=(S:Int):=⟨s.toNat,by have:=h.1;simp only at this;omega⟩
 obtain⟨Q,rfl⟩:∃Q:Nat,p=(Q:Int):=⟨p.toNat,by have:=h.2.2.1;simp only at this;omega⟩
 have hr:=GM _ h
 have h':=h
 unfold aM.ok at h'
 simp only at h'
 have L0:aP ⟨(S:Int),(Q:Int),l'⟩=7+2*(S:Int)+17*(Q:Int):=rfl
 obtain⟨H,XM⟩:∃H:Nat,H=7+2*S+17*Q:=⟨_,rfl⟩
 have Jc:aP ⟨(S:Int),(Q:Int),l'⟩=(H:Int):=J
 obtain⟨v0,pK⟩:∃v0,v0=List.replicate H (0:Int):=⟨_,rfl⟩
 have Jv:v0.length=H:=by rw[pK];simp
 obtain⟨v1,mJ⟩:∃v1,v1=upto S (f1 ⟨(S:Int),(Q:Int),l'⟩ b) v0:=⟨_,rfl⟩
 have pm:v1.length=H:=by rw[mJ,dY (f1 ⟨(S:Int),(Q:Int),l'⟩ b) (fun i v=>aF _ _ _),Jv]
 obtain⟨v2,fw⟩:∃v2,v2=upto Q (f2 ⟨(S:Int),(Q:Int),l'⟩ b) v1:=⟨_,rfl⟩
 have pI:v2.length=H:=by rw[fw,dY (f2 ⟨(S:Int),(Q:Int),l'⟩ b) (fun i v=>aF _ _ _),pm]
 obtain⟨v3,om⟩:∃v3,v3=upto b.owner.length (f3 ⟨(S:Int),(Q:Int),l'⟩ b) v2:=⟨_,rfl⟩
 have L':v3.length=H:=by rw[om,dY (f3 ⟨(S:Int),(Q:Int),l'⟩ b) (fun i v=>aF _ _ _),pI]
 have Qq:lay ⟨(S:Int),(Q:Int),l'⟩ b=upto 4 (f4 ⟨(S:Int),(Q:Int),l'⟩ b) v3:=by
  unfold lay
  rw[Jc,om,fw,mJ,pK]
  simp only[Int.toNat_natCast]
  rfl
 rw[Qq]
 rw[Jc]at hr
 obtain⟨vp,w0,w1,w2,w3,vo,vi,ve⟩:=id hb
 obtain⟨_,⟨sp,qP⟩,sh,⟨so,KR⟩,⟨si,si'⟩,⟨se,se'⟩⟩:=id hs
 have q1:¬9223372036854775807≤(H:Int):=J
 have q2:8*(H:Int)≤140737488355328:=J
 have q3:(H:Int)≤140737488355328:=J
 simp+contextual (maxSteps:=1000000) (disch:=first|exact dB|fail) [go_sem,int_lt,-Int.not_le,-Int.not_lt,-List.map_set,eY,Jc,kw,q1,q2,-List.map_replicate]
 (repeat refine Alt.mk ?_)
 rw[show List.replicate H (U.int .i64 0)=(upto 0 (f1 ⟨(S:Int),(Q:Int),l'⟩ b) v0).map (.int .i64)from by rw[fK,pK];simp]
 refine aC (fun R_ env R=>∃(u:Nat),env 6= .int .i64 u∧env 2= .ptr I.n 0∧env 3= .ptr (I.n+1) 0∧env 5= .sl (I.n+1+1) 0 H 1∧((I.push ⟨[.int .i64 (S:Int),.int .i64 (Q:Int),.int .i64 l'],true⟩).push ⟨[.int .i64 b.am,pv,h0,h1,h2,h3,ov,iv,ev],true⟩).push ⟨(upto u (f1 ⟨(S:Int),(Q:Int),l'⟩ b) v0).map (.int .i64),true⟩=R∧R_ (S-u)∧(u≤S)) (by rintro R_ env R ⟨u,e6,e2,e3,e5,h_,cz,hp⟩;exact⟨_,cz,u,e6,e2,e3,e5,h_,rfl,hp⟩) ⟨0,aq,aq,aq,aq,rfl,trivial,?_⟩ ?_
 rotate_left
 rintro m_ env R ⟨u,e6,e2,e3,e5,rfl,rfl,hp⟩
 ·obtain⟨⟨r1,r2⟩,_⟩:=hr u
  have BR:(upto u (f1 ⟨(S:Int),(Q:Int),l'⟩ b) v0).length=H:=by rw[dY (f1 ⟨(S:Int),(Q:Int),l'⟩ b) (fun i v=>aF _ _ _),Jv]
  by_cases ms:u<S
  ·have fH:¬S≤u:=J
   have b1:=si' u
   have b2:=se' u
   have b3:¬(H:Int)≤bT ⟨(S:Int),(Q:Int),l'⟩ u:=J
   simp+contextual (maxSteps:=1000000) (disch:=first|exact dB|fail) [go_sem,int_lt,-Int.not_le,-Int.not_lt,-List.map_set,eY,e6,e2,e3,e5,fH,BR,r1,b3]
   (repeat refine Alt.mk ?_)
   exact⟨u+1,J,by rw[en];rfl,J,J⟩
  ·have z9:u=S:=J
   have fH:S≤u:=J
   simp+contextual (maxSteps:=1000000) (disch:=first|exact dB|fail) [go_sem,int_lt,-Int.not_le,-Int.not_lt,-List.map_set,eY,e6,e2,e3,e5,fH]
   rw[z9,←mJ]
   rw[show v1=upto 0 (f2 ⟨(S:Int),(Q:Int),l'⟩ b) v1 from(fK _ _).symm]
   refine aC (fun R_ env R=>∃(k:Nat),env 7= .int .i64 k∧env 2= .ptr I.n 0∧env 3= .ptr (I.n+1) 0∧env 5= .sl (I.n+1+1) 0 H 1∧((I.push ⟨[.int .i64 (S:Int),.int .i64 (Q:Int),.int .i64 l'],true⟩).push ⟨[.int .i64 b.am,pv,h0,h1,h2,h3,ov,iv,ev],true⟩).push ⟨(upto k (f2 ⟨(S:Int),(Q:Int),l'⟩ b) v1).map (.int .i64),true⟩=R∧R_ (Q-k)∧(k≤Q)) (by rintro R_ env R ⟨k,e7,e2,e3,e5,h_,cz,hp⟩;exact⟨_,cz,k,e7,e2,e3,e5,h_,rfl,hp⟩) ⟨0,aq,aq,aq,aq,rfl,trivial,?_⟩ ?_
   rotate_left
   rintro m_ env R ⟨k,e7,e2,e3,e5,rfl,rfl,hp⟩
   ·obtain⟨_,⟨r1,r2⟩,_⟩:=hr k
    have BR:(upto k (f2 ⟨(S:Int),(Q:Int),l'⟩ b) v1).length=H:=by rw[dY (f2 ⟨(S:Int),(Q:Int),l'⟩ b) (fun i v=>aF _ _ _),pm]
    by_cases ms:k<Q
    ·have fH:¬Q≤k:=J
     have b1:=qP k
     have b3:¬(H:Int)≤iJ ⟨(S:Int),(Q:Int),l'⟩ k:=J
     simp+contextual (maxSteps:=1000000) (disch:=first|exact dB|fail) [go_sem,int_lt,-Int.not_le,-Int.not_lt,-List.map_set,eY,e7,e2,e3,e5,fH,BR,r1,b3]
     (repeat refine Alt.mk ?_)
     exact⟨k+1,J,by rw[en];rfl,J,J⟩
    ·have z9:k=Q:=J
     have fH:Q≤k:=J
     simp+contextual (maxSteps:=1000000) (disch:=first|exact dB|fail) [go_sem,int_lt,-Int.not_le,-Int.not_lt,-List.map_set,eY,e7,e2,e3,e5,fH]
     rw[z9,←fw]
     rw[show v2=upto 0 (f3 ⟨(S:Int),(Q:Int),l'⟩ b) v2 from(fK _ _).symm]
     refine aC (fun R_ env R=>∃(m:Nat),env 8= .int .i64 m∧env 2= .ptr I.n 0∧env 3= .ptr (I.n+1) 0∧env 5= .sl (I.n+1+1) 0 H 1∧((I.push ⟨[.int .i64 (S:Int),.int .i64 (Q:Int),.int .i64 l'],true⟩).push ⟨[.int .i64 b.am,pv,h0,h1,h2,h3,ov,iv,ev],true⟩).push ⟨(upto m (f3 ⟨(S:Int),(Q:Int),l'⟩ b) v2).map (.int .i64),true⟩=R∧R_ (b.owner.length-m)∧(m≤b.owner.length)) (by rintro R_ env R ⟨m,e8,e2,e3,e5,h_,cz,hp⟩;exact⟨_,cz,m,e8,e2,e3,e5,h_,rfl,hp⟩) ⟨0,aq,aq,aq,aq,rfl,trivial,?_⟩ ?_
     rotate_left
     rintro m_ env R ⟨m,e8,e2,e3,e5,rfl,rfl,hp⟩
     ·obtain⟨_,_,⟨r1,r2⟩,_⟩:=hr m
      have BR:(upto m (f3 ⟨(S:Int),(Q:Int),l'⟩ b) v2).length=H:=by rw[dY (f3 ⟨(S:Int),(Q:Int),l'⟩ b) (fun i v=>aF _ _ _),pI]
      by_cases ms:m<b.owner.length
      ·have fH:¬b.owner.length≤m:=J
       have b1:=KR m
       have b3:¬(H:Int)≤mE ⟨(S:Int),(Q:Int),l'⟩ m:=J
       simp+contextual (maxSteps:=1000000) (disch:=first|exact dB|fail) [go_sem,int_lt,-Int.not_le,-Int.not_lt,-List.map_set,eY,e8,e2,e3,e5,fH,BR,r1,b3]
       (repeat refine Alt.mk ?_)
       exact⟨m+1,J,by rw[en];rfl,J,J⟩
      ·have z9:m=b.owner.length:=J
       have fH:b.owner.length≤m:=J
       simp+contextual (maxSteps:=1000000) (disch:=first|exact dB|fail) [go_sem,int_lt,-Int.not_le,-Int.not_lt,-List.map_set,eY,e8,e2,e3,e5,fH]
       rw[z9,←om]
       rw[show v3=upto 0 (f4 ⟨(S:Int),(Q:Int),l'⟩ b) v3 from(fK _ _).symm]
       refine aC (fun R_ env R=>∃(kk:Nat),env 9= .int .i64 kk∧env 2= .ptr I.n 0∧env 3= .ptr (I.n+1) 0∧env 5= .sl (I.n+1+1) 0 H 1∧((I.push ⟨[.int .i64 (S:Int),.int .i64 (Q:Int),.int .i64 l'],true⟩).push ⟨[.int .i64 b.am,pv,h0,h1,h2,h3,ov,iv,ev],true⟩).push ⟨(upto kk (f4 ⟨(S:Int),(Q:Int),l'⟩ b) v3).map (.int .i64),true⟩=R∧R_ (4-kk)∧(kk≤4)) (by rintro R_ env R ⟨kk,e9,e2,e3,e5,h_,cz,hp⟩;exact⟨_,cz,kk,e9,e2,e3,e5,h_,rfl,hp⟩) ⟨0,aq,aq,aq,aq,rfl,trivial,?_⟩ ?_
       rotate_left
       rintro m_ env R ⟨kk,e9,e2,e3,e5,rfl,rfl,hp⟩
       ·have BR:(upto kk (f4 ⟨(S:Int),(Q:Int),l'⟩ b) v3).length=H:=by rw[dY (f4 ⟨(S:Int),(Q:Int),l'⟩ b) (fun i v=>nk _ _ _ _),L']
        have sf:kk=0∨kk=1∨kk=2∨kk=3∨kk=4:=J
        rcases sf with rfl|rfl|rfl|rfl|rfl
        ·simp+contextual (maxSteps:=1000000) (disch:=first|exact dB|fail) [go_sem,int_lt,-Int.not_le,-Int.not_lt,-List.map_set,eY,e9,e2,e3,e5]
         (repeat refine Alt.mk ?_)
         obtain⟨_,_,_,⟨r1,r2⟩,_⟩:=hr 0
         refine aC (fun R_ env R=>∃(i:Nat),∃(a:Int),∃(cur:List Int),env 11= .int .i64 i∧env 10= .int .i64 a∧env 9= .int .i64 0∧env 2= .ptr I.n 0∧env 3= .ptr (I.n+1) 0∧env 5= .sl (I.n+1+1) 0 H 1∧((I.push ⟨[.int .i64 (S:Int),.int .i64 (Q:Int),.int .i64 l'],true⟩).push ⟨[.int .i64 b.am,pv,h0,h1,h2,h3,ov,iv,ev],true⟩).push ⟨(cur).map (.int .i64),true⟩=R∧R_ ((b.aj 0).length-i)∧(i≤(b.aj 0).length∧0≤a∧a<H∧cur.length=H∧ew ⟨(S:Int),(Q:Int),l'⟩ ((b.aj 0).drop i) a cur=upto (0+1) (f4 ⟨(S:Int),(Q:Int),l'⟩ b) v3)) (by rintro R_ env R ⟨i,a,cur,ft,em,e9,e2,e3,e5,h_,cz,hp⟩;exact⟨_,cz,i,a,cur,ft,em,e9,e2,e3,e5,h_,rfl,hp⟩) ⟨0,_,_,aq,aq,aq,aq,aq,aq,rfl,trivial,?_⟩ ?_
         rotate_left
         rintro m_ env R ⟨i,a,cur,ft,em,e9,e2,e3,e5,rfl,rfl,hp⟩
         ·obtain⟨nK,kM,vP,EH,EI⟩:=hp
          have Ma:¬(H:Int)≤a:=J
          by_cases Ui:i<(b.aj 0).length
          ·have gc:¬(b.aj 0).length≤i:=J
           have b1:=(sh 0).2 i
           have b4:=(sh 0).1
           have hd:=io (xs:=b.aj 0) (i:=(i:Int)) J J
           rw[Int.toNat_natCast,show((i:Int)+1).toNat=i+1 by omega]at hd
           obtain⟨_,_,_,_,⟨r3,r4⟩⟩:=hr (at_ (b.aj 0) i)
           simp+contextual (maxSteps:=1000000) (disch:=first|exact dB|fail) [go_sem,int_lt,-Int.not_le,-Int.not_lt,-List.map_set,eY,ft,em,e9,e2,e3,e5,gc,kM,EH,Ma]
           (repeat refine Alt.mk ?_)
           exact⟨i+1,J,put cur a (at_ (b.aj 0) i+1),rfl,J,J,r3,J,by rw[aF];exact EH,by rw[←EI,hd];rfl⟩
          ·have gc:(b.aj 0).length≤i:=J
           have xD:cur=upto (0+1) (f4 ⟨(S:Int),(Q:Int),l'⟩ b) v3:=by rw[←EI,List.drop_eq_nil_of_le gc];rfl
           simp+contextual (maxSteps:=1000000) (disch:=first|exact dB|fail) [go_sem,int_lt,-Int.not_le,-Int.not_lt,-List.map_set,eY,ft,em,e9,e2,e3,e5,gc]
           exact⟨0+1,rfl,by rw[xD],J,J⟩
         ·exact⟨J,r1,r2,BR,by rw[en];rfl⟩
        ·simp+contextual (maxSteps:=1000000) (disch:=first|exact dB|fail) [go_sem,int_lt,-Int.not_le,-Int.not_lt,-List.map_set,eY,e9,e2,e3,e5]
         (repeat refine Alt.mk ?_)
         obtain⟨_,_,_,⟨r1,r2⟩,_⟩:=hr 1
         refine aC (fun R_ env R=>∃(i:Nat),∃(a:Int),∃(cur:List Int),env 11= .int .i64 i∧env 10= .int .i64 a∧env 9= .int .i64 1∧env 2= .ptr I.n 0∧env 3= .ptr (I.n+1) 0∧env 5= .sl (I.n+1+1) 0 H 1∧((I.push ⟨[.int .i64 (S:Int),.int .i64 (Q:Int),.int .i64 l'],true⟩).push ⟨[.int .i64 b.am,pv,h0,h1,h2,h3,ov,iv,ev],true⟩).push ⟨(cur).map (.int .i64),true⟩=R∧R_ ((b.aj 1).length-i)∧(i≤(b.aj 1).length∧0≤a∧a<H∧cur.length=H∧ew ⟨(S:Int),(Q:Int),l'⟩ ((b.aj 1).drop i) a cur=upto (1+1) (f4 ⟨(S:Int),(Q:Int),l'⟩ b) v3)) (by rintro R_ env R ⟨i,a,cur,ft,em,e9,e2,e3,e5,h_,cz,hp⟩;exact⟨_,cz,i,a,cur,ft,em,e9,e2,e3,e5,h_,rfl,hp⟩) ⟨0,_,_,aq,aq,aq,aq,aq,aq,rfl,trivial,?_⟩ ?_
         rotate_left
         rintro m_ env R ⟨i,a,cur,ft,em,e9,e2,e3,e5,rfl,rfl,hp⟩
         ·obtain⟨nK,kM,vP,EH,EI⟩:=hp
          have Ma:¬(H:Int)≤a:=J
          by_cases Ui:i<(b.aj 1).length
          ·have gc:¬(b.aj 1).length≤i:=J
           have b1:=(sh 1).2 i
           have b4:=(sh 1).1
           have hd:=io (xs:=b.aj 1) (i:=(i:Int)) J J
           rw[Int.toNat_natCast,show((i:Int)+1).toNat=i+1 by omega]at hd
           obtain⟨_,_,_,_,⟨r3,r4⟩⟩:=hr (at_ (b.aj 1) i)
           simp+contextual (maxSteps:=1000000) (disch:=first|exact dB|fail) [go_sem,int_lt,-Int.not_le,-Int.not_lt,-List.map_set,eY,ft,em,e9,e2,e3,e5,gc,kM,EH,Ma]
           (repeat refine Alt.mk ?_)
           exact⟨i+1,J,put cur a (at_ (b.aj 1) i+1),rfl,J,J,r3,J,by rw[aF];exact EH,by rw[←EI,hd];rfl⟩
          ·have gc:(b.aj 1).length≤i:=J
           have xD:cur=upto (1+1) (f4 ⟨(S:Int),(Q:Int),l'⟩ b) v3:=by rw[←EI,List.drop_eq_nil_of_le gc];rfl
           simp+contextual (maxSteps:=1000000) (disch:=first|exact dB|fail) [go_sem,int_lt,-Int.not_le,-Int.not_lt,-List.map_set,eY,ft,em,e9,e2,e3,e5,gc]
           exact⟨1+1,rfl,by rw[xD],J,J⟩
         ·exact⟨J,r1,r2,BR,by rw[en];rfl⟩
        ·simp+contextual (maxSteps:=1000000) (disch:=first|exact dB|fail) [go_sem,int_lt,-Int.not_le,-Int.not_lt,-List.map_set,eY,e9,e2,e3,e5]
         (repeat refine Alt.mk ?_)
         obtain⟨_,_,_,⟨r1,r2⟩,_⟩:=hr 2
         refine aC (fun R_ env R=>∃(i:Nat),∃(a:Int),∃(cur:List Int),env 11= .int .i64 i∧env 10= .int .i64 a∧env 9= .int .i64 2∧env 2= .ptr I.n 0∧env 3= .ptr (I.n+1) 0∧env 5= .sl (I.n+1+1) 0 H 1∧((I.push ⟨[.int .i64 (S:Int),.int .i64 (Q:Int),.int .i64 l'],true⟩).push ⟨[.int .i64 b.am,pv,h0,h1,h2,h3,ov,iv,ev],true⟩).push ⟨(cur).map (.int .i64),true⟩=R∧R_ ((b.aj 2).length-i)∧(i≤(b.aj 2).length∧0≤a∧a<H∧cur.length=H∧ew ⟨(S:Int),(Q:Int),l'⟩ ((b.aj 2).drop i) a cur=upto (2+1) (f4 ⟨(S:Int),(Q:Int),l'⟩ b) v3)) (by rintro R_ env R ⟨i,a,cur,ft,em,e9,e2,e3,e5,h_,cz,hp⟩;exact⟨_,cz,i,a,cur,ft,em,e9,e2,e3,e5,h_,rfl,hp⟩) ⟨0,_,_,aq,aq,aq,aq,aq,aq,rfl,trivial,?_⟩ ?_
         rotate_left
         rintro m_ env R ⟨i,a,cur,ft,em,e9,e2,e3,e5,rfl,rfl,hp⟩
         ·obtain⟨nK,kM,vP,EH,EI⟩:=hp
          have Ma:¬(H:Int)≤a:=J
          by_cases Ui:i<(b.aj 2).length
          ·have gc:¬(b.aj 2).length≤i:=J
           have b1:=(sh 2).2 i
           have b4:=(sh 2).1
           have hd:=io (xs:=b.aj 2) (i:=(i:Int)) J J
           rw[Int.toNat_natCast,show((i:Int)+1).toNat=i+1 by omega]at hd
           obtain⟨_,_,_,_,⟨r3,r4⟩⟩:=hr (at_ (b.aj 2) i)
           simp+contextual (maxSteps:=1000000) (disch:=first|exact dB|fail) [go_sem,int_lt,-Int.not_le,-Int.not_lt,-List.map_set,eY,ft,em,e9,e2,e3,e5,gc,kM,EH,Ma]
           (repeat refine Alt.mk ?_)
           exact⟨i+1,J,put cur a (at_ (b.aj 2) i+1),rfl,J,J,r3,J,by rw[aF];exact EH,by rw[←EI,hd];rfl⟩
          ·have gc:(b.aj 2).length≤i:=J
           have xD:cur=upto (2+1) (f4 ⟨(S:Int),(Q:Int),l'⟩ b) v3:=by rw[←EI,List.drop_eq_nil_of_le gc];rfl
           simp+contextual (maxSteps:=1000000) (disch:=first|exact dB|fail) [go_sem,int_lt,-Int.not_le,-Int.not_lt,-List.map_set,eY,ft,em,e9,e2,e3,e5,gc]
           exact⟨2+1,rfl,by rw[xD],J,J⟩
         ·exact⟨J,r1,r2,BR,by rw[en];rfl⟩
        ·simp+contextual (maxSteps:=1000000) (disch:=first|exact dB|fail) [go_sem,int_lt,-Int.not_le,-Int.not_lt,-List.map_set,eY,e9,e2,e3,e5]
         (repeat refine Alt.mk ?_)
         obtain⟨_,_,_,⟨r1,r2⟩,_⟩:=hr 3
         refine aC (fun R_ env R=>∃(i:Nat),∃(a:Int),∃(cur:List Int),env 11= .int .i64 i∧env 10= .int .i64 a∧env 9= .int .i64 3∧env 2= .ptr I.n 0∧env 3= .ptr (I.n+1) 0∧env 5= .sl (I.n+1+1) 0 H 1∧((I.push ⟨[.int .i64 (S:Int),.int .i64 (Q:Int),.int .i64 l'],true⟩).push ⟨[.int .i64 b.am,pv,h0,h1,h2,h3,ov,iv,ev],true⟩).push ⟨(cur).map (.int .i64),true⟩=R∧R_ ((b.aj 3).length-i)∧(i≤(b.aj 3).length∧0≤a∧a<H∧cur.length=H∧ew ⟨(S:Int),(Q:Int),l'⟩ ((b.aj 3).drop i) a cur=upto (3+1) (f4 ⟨(S:Int),(Q:Int),l'⟩ b) v3)) (by rintro R_ env R ⟨i,a,cur,ft,em,e9,e2,e3,e5,h_,cz,hp⟩;exact⟨_,cz,i,a,cur,ft,em,e9,e2,e3,e5,h_,rfl,hp⟩) ⟨0,_,_,aq,aq,aq,aq,aq,aq,rfl,trivial,?_⟩ ?_
         rotate_left
         rintro m_ env R ⟨i,a,cur,ft,em,e9,e2,e3,e5,rfl,rfl,hp⟩
         ·obtain⟨nK,kM,vP,EH,EI⟩:=hp
          have Ma:¬(H:Int)≤a:=J
          by_cases Ui:i<(b.aj 3).length
          ·have gc:¬(b.aj 3).length≤i:=J
           have b1:=(sh 3).2 i
           have b4:=(sh 3).1
           have hd:=io (xs:=b.aj 3) (i:=(i:Int)) J J
           rw[Int.toNat_natCast,show((i:Int)+1).toNat=i+1 by omega]at hd
           obtain⟨_,_,_,_,⟨r3,r4⟩⟩:=hr (at_ (b.aj 3) i)
           simp+contextual (maxSteps:=1000000) (disch:=first|exact dB|fail) [go_sem,int_lt,-Int.not_le,-Int.not_lt,-List.map_set,eY,ft,em,e9,e2,e3,e5,gc,kM,EH,Ma]
           (repeat refine Alt.mk ?_)
           exact⟨i+1,J,put cur a (at_ (b.aj 3) i+1),rfl,J,J,r3,J,by rw[aF];exact EH,by rw[←EI,hd];rfl⟩
          ·have gc:(b.aj 3).length≤i:=J
           have xD:cur=upto (3+1) (f4 ⟨(S:Int),(Q:Int),l'⟩ b) v3:=by rw[←EI,List.drop_eq_nil_of_le gc];rfl
           simp+contextual (maxSteps:=1000000) (disch:=first|exact dB|fail) [go_sem,int_lt,-Int.not_le,-Int.not_lt,-List.map_set,eY,ft,em,e9,e2,e3,e5,gc]
           exact⟨3+1,rfl,by rw[xD],J,J⟩
         ·exact⟨J,r1,r2,BR,by rw[en];rfl⟩
        ·simp+contextual (maxSteps:=1000000) (disch:=first|exact dB|fail) [go_sem,int_lt,-Int.not_le,-Int.not_lt,-List.map_set,eY,e9,e2,e3,e5]
         rw[fK]
         exact⟨BR.symm,J,Nat.le_refl _,List.take_of_length_le aV⟩
       ·omega
     ·omega
   ·omega
 ·omega
end AH
namespace AH
open Go Go.Proofs Ho
set_option maxRecDepth 20000
set_option maxHeartbeats 16000000
theorem uo{ws:List Int}{ok:aM→Prop}[∀c,Decidable (ok c)](h:(whole ws ok).2=true):(whole ws ok).1.ok∧ok (whole ws ok).1:=by
 unfold whole at h⊢
 split at h
 ·cases h
 ·rename_i hn
  rw[if_neg hn]
  simp only at h⊢
  split at h
  ·rename_i hc;rw[if_pos hc];exact⟨hc.1,hc.2.2⟩
  ·cases h
theorem xX(w:List Int)(c:aM):∀(f:Nat) (a:Int),(cA w c f a).length≤f:=by
 intro f
 induction f with
 |zero=>intro a;exact Nat.le_refl 0
 |succ f ih=>
  intro a
  unfold cA
  split
  ·simp only[List.length_cons];have:=ih (dP w (eV c (a-1)));omega
  ·simp
theorem xY(w:List Int)(c:aM)(hc:c.ah≤10):∀(f:Nat) (a:Int),∀x∈cA w c f a,0≤x∧x<80:=by
 intro f
 induction f with
 |zero=>intro a x hx;cases hx
 |succ f ih=>
  intro a x hx
  unfold cA at hx
  split at hx
  ·rcases List.mem_cons.1 hx with rfl|hx
   ·omega
   ·exact ih _ x hx
  ·cases hx
theorem sy(ws:List Int)(c:aM)(hc:c.ok):dW (bP ws c):=by
 unfold aM.ok at hc
 have X5:∀a,0≤dP ws a∧dP ws a<4294967296:=fun a=>aO
 refine⟨by show-1000000≤c.am∧c.am≤1000000;omega,?_,?_,?_,?_,?_⟩
 ·refine .of IT fun x hx=>?_
  obtain⟨a,_,rfl⟩:=List.mem_map.1 hx
  have:=X5 (iJ c a);omega
 ·intro k
  show Sm (if k<4 then tM ws c k else [])
  split
  ·refine .of ?_ fun x hx=>?_
   ·have:=xX ws c (c.ah*8+1).toNat (dP ws (dv c k))
    unfold tM;omega
   ·have:=xY ws c J _ _ x hx;omega
  ·exact Sm.nil
 ·refine .of IT fun x hx=>?_
  obtain⟨a,_,rfl⟩:=List.mem_map.1 hx
  have:=X5 (mE c a);omega
 ·refine .of IT fun x hx=>?_
  obtain⟨a,_,rfl⟩:=List.mem_map.1 hx
  have:=aO (w:=bm ws (bT c a));omega
 ·refine .of IT fun x hx=>?_
  obtain⟨a,_,rfl⟩:=List.mem_map.1 hx
  have:=aO (w:=bm ws (bT c a));omega
theorem ma(c:aM)(b:Bk):(lay c b).length=(aP c).toNat:=by
 have h:lay c b=upto 4 (f4 c b) (upto b.owner.length (f3 c b) (upto c.ah.toNat (f2 c b) (upto c.am.toNat (f1 c b) (List.replicate (aP c).toNat 0)))):=rfl
 rw[h,dY (f4 c b) (fun _ _=>nk _ _ _ _),dY (f3 c b) (fun _ _=>aF _ _ _),dY (f2 c b) (fun _ _=>aF _ _ _),dY (f1 c b) (fun _ _=>aF _ _ _),List.length_replicate]
def BG(I R:af)(r:Bk×Bool)(x:U):Prop:=∃pv k0 k1 k2 k3 ov iv ev,x= .cw [bV r.1 pv k0 k1 k2 k3 ov iv ev,.bool r.2]∧fb R r.1 pv k0 k1 k2 k3 ov iv ev∧(∀y,y<I.n→R.get y=I.get y)∧I.n≤R.n∧
 ∀y,y<I.n→B1 y pv k0 k1 k2 k3 ov iv ev
theorem BG.zero{I R:af}{r:Bk×Bool}(hr:r=(Bk.zero,false))(hf:∀y,y<I.n→R.get y=I.get y)(hn:I.n≤R.n):BG I R r (.cw [.agg [.int .i64 0,.al,.al,.al,.al,.al,.al,.al,.al],.bool false]):=by
 subst hr
 exact⟨.al,.al,.al,.al,.al,.al,.al,.al,rfl,⟨.nil,.nil,.nil,.nil,.nil,.nil,.nil,.nil⟩,hf,hn,fun y hy=>⟨.inr rfl,.inr rfl,.inr rfl,.inr rfl,.inr rfl,.inr rfl,.inr rfl,.inr rfl⟩⟩
theorem qc(I:af)(v:U)(ws:List Int)(hv:bu .u64 I v ws)(hW:∀w∈ws,ci w)(hl:(ws.length:Int)≤1000000):
 Fn Tryz.prog 174 [v] I fun x R=>BG I R (bM ws) x:=by
 refine bA jx mixed Tryz.func174 (by kernel_rfl) rfl (by kernel_rfl) ?_
 by_cases hw:(dh ws).2=true
 rotate_left
 ·have hw':(dh ws).2=false:=by simpa using hw
  have hT:bM ws=(Bk.zero,false):=by unfold bM;rw[if_neg hw]
  simp+contextual (maxSteps:=1000000) (disch:=first|exact dB|fail) [go_sem,int_lt,-Int.not_le,-Int.not_lt,-List.map_set,jx,hw']
  (repeat refine Alt.mk ?_)
  exact BG.zero hT fc bG
 obtain⟨cq,UN⟩:=uo hw
 obtain⟨c,hc⟩:∃c,(dh ws).1=c:=⟨_,rfl⟩
 have cL:(whole ws fun c=>(ws.length:Int)=c.size∨(ws.length:Int)=aP c).1=c:=hc
 rw[cL]at cq UN
 obtain⟨s,p,l⟩:=c
 have iB:=cq
 unfold aM.ok at iB
 simp only at iB
 have hT:bM ws=if cm (bP ws ⟨s,p,l⟩)∧fits ⟨s,p,l⟩ (bP ws ⟨s,p,l⟩) ws then(bP ws ⟨s,p,l⟩,true)else(Bk.zero,false):=by
  unfold bM;rw[if_pos hw];simp only[hc]
 have hS:=sy ws _ cq
 simp+contextual (maxSteps:=1000000) (disch:=first|exact dB|fail) [go_sem,int_lt,-Int.not_le,-Int.not_lt,-List.map_set,jx,hw,hc]
 (repeat refine Alt.mk ?_)
 refine aw (LN _ v ws s p l hv.push.push hW cq) ?_
 rintro x0 ajT lZ ⟨P,O,aa,E,q0,q1,q2,q3,rfl,hB,hk,hn⟩
 have gG:(bP ws ⟨s,p,l⟩).am=s:=rfl
 have uU:((bP ws ⟨s,p,l⟩).cy.length:Int)=s∧((bP ws ⟨s,p,l⟩).ao.length:Int)=s∧((bP ws ⟨s,p,l⟩).ah.length:Int)=p:=by simp[bP];omega
 obtain⟨b,XS⟩:∃b,bP ws ⟨s,p,l⟩=b:=⟨_,rfl⟩
 rw[XS]at hB hS hT gG uU⊢
 simp only[au]at hk hn
 have g0:=hk I.n J
 have g1:=hk (I.n+1) J
 simp(disch:=first|omega|(simp only[au];omega)) only[ak]at g0
 rw[aU _ rfl]at g0
 rw[aU _ iF]at g1
 have gY:bY I.n I ajT:=by
  intro y hy
  rw[hk y J]
  simp(disch:=first|omega|(simp only[au];omega)) only[ak]
 have rX:=hB.lo
 simp only[au]at rX
 have hV:=hB.v
 have mJ:=hv.keeps gY hv.lt J
 by_cases di:cm b
 rotate_left
 ·rw[if_neg (fun h=>di h.1)]at hT
  simp+contextual (maxSteps:=1000000) (disch:=first|exact dB|fail) [go_sem,int_lt,-Int.not_le,-Int.not_lt,-List.map_set,jx,g0,g1,di]
  (repeat refine Alt.mk ?_)
  refine BG.zero hT (by intro y hy;simp(disch:=first|omega|(simp only[au,az];omega)) only[ak,ai];exact gY y hy) bc
 ·simp+contextual (maxSteps:=1000000) (disch:=first|exact dB|fail) [go_sem,int_lt,-Int.not_le,-Int.not_lt,-List.map_set,jx,g0,g1,di]
  (repeat refine Alt.mk ?_)
  refine aw (yC _ b _ _ _ _ _ _ _ _ s p l hV.push hS cq uU) ?_
  rintro x1 υ1 jq ⟨rfl,rfl⟩
  have pD:=ma ⟨s,p,l⟩ b
  have L0:aP ⟨s,p,l⟩=7+2*s+17*p:=rfl
  obtain⟨L,hL⟩:∃L,lay ⟨s,p,l⟩ b=L:=⟨_,rfl⟩
  have rW:fits ⟨s,p,l⟩ b ws↔∀a:Int,bT ⟨s,p,l⟩ 0≤a→a<L.length→¬jU ⟨s,p,l⟩ a→at_ L a=aG (at_ ws a):=by unfold fits;rw[hL]
  rw[hL]at pD⊢
  have hLH:(L.length:Int)=aP ⟨s,p,l⟩:=J
  have hLw:(L.length:Int)≤ws.length:=by unfold aM.size at UN;simp only at UN;omega
  have oK:bT ⟨s,p,l⟩ 0=3:=by unfold bT ed;rw[if_pos ⟨cq,J,by simp only;omega⟩];omega
  have EC:dn ⟨s,p,l⟩ 0=3+s:=by unfold dn ed;rw[if_pos ⟨cq,J,by simp only;omega⟩];simp
  simp+contextual (maxSteps:=1000000) (disch:=first|exact dB|fail) [go_sem,int_lt,-Int.not_le,-Int.not_lt,-List.map_set,jx,g0,g1]
  (repeat refine Alt.mk ?_)
  have hZ:¬fits ⟨s,p,l⟩ b ws→BG I (((ajT.set I.n ⟨[.int .i64 0,.al,.al,.al,.al,.al,.al,.al,.al],true⟩).push ⟨[.int .i64 b.am,.sl P 0 b.ah.length 1,.sl q0 0 (b.aj 0).length 1,.sl q1 0 (b.aj 1).length 1,.sl q2 0 (b.aj 2).length 1,.sl q3 0 (b.aj 3).length 1,.sl O 0 b.owner.length 1,.sl aa 0 b.cy.length 1,.sl E 0 b.ao.length 1],true⟩).push ⟨L.map (.int .i64),true⟩) (bM ws) (.cw [.agg [.int .i64 0,.al,.al,.al,.al,.al,.al,.al,.al],.bool false]):=fun hf=>by
   rw[if_neg (fun h=>hf h.2)]at hT
   exact BG.zero hT (by intro y hy;simp(disch:=first|omega|(simp only[au,az];omega)) only[ak,ai];exact gY y hy) bc
  have hY:fits ⟨s,p,l⟩ b ws→BG I (((ajT.set I.n ⟨[.int .i64 b.am,.sl P 0 b.ah.length 1,.sl q0 0 (b.aj 0).length 1,.sl q1 0 (b.aj 1).length 1,.sl q2 0 (b.aj 2).length 1,.sl q3 0 (b.aj 3).length 1,.sl O 0 b.owner.length 1,.sl aa 0 b.cy.length 1,.sl E 0 b.ao.length 1],true⟩).push ⟨[.int .i64 b.am,.sl P 0 b.ah.length 1,.sl q0 0 (b.aj 0).length 1,.sl q1 0 (b.aj 1).length 1,.sl q2 0 (b.aj 2).length 1,.sl q3 0 (b.aj 3).length 1,.sl O 0 b.owner.length 1,.sl aa 0 b.cy.length 1,.sl E 0 b.ao.length 1],true⟩).push ⟨L.map (.int .i64),true⟩) (bM ws) (.cw [.agg [.int .i64 b.am,.sl P 0 b.ah.length 1,.sl q0 0 (b.aj 0).length 1,.sl q1 0 (b.aj 1).length 1,.sl q2 0 (b.aj 2).length 1,.sl q3 0 (b.aj 3).length 1,.sl O 0 b.owner.length 1,.sl aa 0 b.cy.length 1,.sl E 0 b.ao.length 1],.bool true]):=fun hf=>by
   rw[if_pos ⟨di,hf⟩]at hT
   rw[hT]
   have ha:∀y,y<I.n+2→Out y P O aa E q0 q1 q2 q3:=fun y hy=>by constructor<;>(simp only[NE];omega)
   have BM:∀y,y<I.n+2→B1 y (.sl P 0 b.ah.length 1) (.sl q0 0 (b.aj 0).length 1) (.sl q1 0 (b.aj 1).length 1) (.sl q2 0 (b.aj 2).length 1) (.sl q3 0 (b.aj 3).length 1) (.sl O 0 b.owner.length 1) (.sl aa 0 b.cy.length 1) (.sl E 0 b.ao.length 1):=fun y hy=>by
    obtain⟨a1,a2,a3,a4,a5,a6,a7,a8⟩:=ha y hy
    exact⟨.inl a1.sym,.inl a5.sym,.inl a6.sym,.inl a7.sym,.inl a8.sym,.inl a2.sym,.inl a3.sym,.inl a4.sym⟩
   exact⟨_,_,_,_,_,_,_,_,rfl,(hV.mn (BM I.n J)).push.push,by intro y hy;simp(disch:=first|omega|(simp only[au,az];omega)) only[ak,ai];exact gY y hy,by simp only[au,az];omega,fun y hy=>BM y J⟩
  have Sv:bu .i64 ((ajT.push ⟨[.int .i64 b.am,.sl P 0 b.ah.length 1,.sl q0 0 (b.aj 0).length 1,.sl q1 0 (b.aj 1).length 1,.sl q2 0 (b.aj 2).length 1,.sl q3 0 (b.aj 3).length 1,.sl O 0 b.owner.length 1,.sl aa 0 b.cy.length 1,.sl E 0 b.ao.length 1],true⟩).push ⟨L.map (.int .i64),true⟩) (.sl (ajT.n+1) 0 L.length 1) L:=bf bG (aU _ iF) rfl
  have fw:=(mJ.push (B:=⟨[.int .i64 b.am,.sl P 0 b.ah.length 1,.sl q0 0 (b.aj 0).length 1,.sl q1 0 (b.aj 1).length 1,.sl q2 0 (b.aj 2).length 1,.sl q3 0 (b.aj 3).length 1,.sl O 0 b.owner.length 1,.sl aa 0 b.cy.length 1,.sl E 0 b.ao.length 1],true⟩)).push (B:=⟨L.map (.int .i64),true⟩)
  have ahA:0≤s∧s≤4:=J
  have ahi:0≤p∧p≤6:=J
  have agq:3≤(L.length:Int)∧(L.length:Int)≤1000:=J
  rw[rW]at hZ hY
  have lZ:I.n+2≤ajT.n:=J
  clear rW pD L0 hLH hB hV rX gY hk hn hT hS uU gG XS hL cq iB UN hc cL hw mJ hv di hl
  refine aC (fun R_ env R=>∃(a:Int),env 8= .int .i64 a∧env 0=v∧env 4= .ptr (I.n+1) 0∧env 7= .sl (ajT.n+1) 0 L.length 1∧env 6= .ptr ajT.n 0∧env 2= .ptr I.n 0∧((ajT.push ⟨[.int .i64 b.am,.sl P 0 b.ah.length 1,.sl q0 0 (b.aj 0).length 1,.sl q1 0 (b.aj 1).length 1,.sl q2 0 (b.aj 2).length 1,.sl q3 0 (b.aj 3).length 1,.sl O 0 b.owner.length 1,.sl aa 0 b.cy.length 1,.sl E 0 b.ao.length 1],true⟩).push ⟨L.map (.int .i64),true⟩)=R∧R_ ((L.length-a).toNat)∧(3≤a∧a≤L.length∧∀q:Int,3≤q→q<a→¬jU ⟨s,p,l⟩ q→at_ L q=aG (at_ ws q))) (by rintro R_ env R ⟨a,e8,e0,e4,e7,e6,e2,h_,cz,hp⟩;exact⟨_,cz,a,e8,e0,e4,e7,e6,e2,h_,rfl,hp⟩) ⟨3,aq,aq,aq,aq,aq,aq,rfl,trivial,?_⟩ ?_
  rotate_left
  rintro m_ env R ⟨a,e8,e0,e4,e7,e6,e2,rfl,rfl,hp⟩
  ·obtain⟨nK,kM,vP⟩:=hp
   have hwa:=bF hW a
   have HC:jU ⟨s,p,l⟩ a↔(3+s≤a∧a<3+s+s):=by unfold jU;rw[EC]
   have xM:(jU ⟨s,p,l⟩ a∨at_ L a=aG (at_ ws a))→∀q:Int,3≤q→¬a+1≤q→¬jU ⟨s,p,l⟩ q→at_ L q=aG (at_ ws q):=fun tv q x1 x2 x3=>by
    by_cases e:q=a
    ·subst e;rcases tv with h|h
     ·exact absurd h x3
     ·exact h
    ·exact vP q x1 J x3
   by_cases MO:a<L.length
   ·have qD:¬(L.length:Int)≤a:=J
    have Da:0≤a:=J
    by_cases BN:jU ⟨s,p,l⟩ a
    ·have lY:=(HC.1 BN).1
     have eX:=(HC.1 BN).2
     have M2:=xM (.inl BN)
     clear xM HC vP hZ hY hwa
     simp+contextual (maxSteps:=1000000) (disch:=first|exact dB|fail) [go_sem,int_lt,-Int.not_le,-Int.not_lt,-List.map_set,jx,e8,e0,e4,e7,e6,e2,g1,MO,EC,lY,eX]
     (repeat refine Alt.mk ?_)
     exact⟨J,J,J,M2⟩
    ·have hb:¬(3+s≤a∧a<3+s+s):=fun h=>BN (HC.2 h)
     by_cases heq:at_ L a=aG (at_ ws a)
     ·have M2:=xM (.inr heq)
      clear xM HC vP hZ hY
      by_cases lY:3+s≤a
      ·have eX:¬a<3+s+s:=J
       simp+contextual (maxSteps:=1000000) (disch:=first|exact dB|fail) [go_sem,int_lt,-Int.not_le,-Int.not_lt,-List.map_set,jx,e8,e0,e4,e7,e6,e2,g1,MO,EC,lY,eX,heq]
       (repeat refine Alt.mk ?_)
       exact⟨J,J,J,M2⟩
      ·simp+contextual (maxSteps:=1000000) (disch:=first|exact dB|fail) [go_sem,int_lt,-Int.not_le,-Int.not_lt,-List.map_set,jx,e8,e0,e4,e7,e6,e2,g1,MO,EC,lY,heq]
       (repeat refine Alt.mk ?_)
       exact⟨J,J,J,M2⟩
     ·have hz:=hZ (fun h=>heq (h a (by rw[oK];omega) J BN))
      clear xM HC vP hZ hY
      by_cases lY:3+s≤a
      ·have eX:¬a<3+s+s:=J
       simp+contextual (maxSteps:=1000000) (disch:=first|exact dB|fail) [go_sem,int_lt,-Int.not_le,-Int.not_lt,-List.map_set,jx,e8,e0,e4,e7,e6,e2,g0,g1,MO,EC,lY,eX,heq]
       (repeat refine Alt.mk ?_)
       exact hz
      ·simp+contextual (maxSteps:=1000000) (disch:=first|exact dB|fail) [go_sem,int_lt,-Int.not_le,-Int.not_lt,-List.map_set,jx,e8,e0,e4,e7,e6,e2,g0,g1,MO,EC,lY,heq]
       (repeat refine Alt.mk ?_)
       exact hz
   ·have qD:(L.length:Int)≤a:=J
    have hy:=hY (fun q x1 x2 x3=>vP q (by rw[oK]at x1;exact x1) J x3)
    clear xM HC vP hZ hY
    simp+contextual (maxSteps:=1000000) (disch:=first|exact dB|fail) [go_sem,int_lt,-Int.not_le,-Int.not_lt,-List.map_set,jx,e8,e0,e4,e7,e6,e2,g0,g1,qD]
    (repeat refine Alt.mk ?_)
    exact hy
  ·refine⟨J,J,fun q x1 x2=>by omega⟩
end AH
namespace AH
open Go Go.Proofs Ho
set_option maxRecDepth 20000
set_option maxHeartbeats 16000000
theorem xq{ws:List Int}(h:(bM ws).2=true):(dh ws).2=true∧(dh ws).1.ok∧cm (bM ws).1∧dW (bM ws).1∧(((bM ws).1.cy.length:Int)=(dh ws).1.am∧((bM ws).1.ao.length:Int)=(dh ws).1.am∧((bM ws).1.ah.length:Int)=(dh ws).1.ah)∧(bM ws).1.am=(dh ws).1.am:=by
 unfold bM at h⊢
 split at h
 ·rename_i hw
  rw[if_pos hw]
  simp only at h⊢
  have cq:=(uo hw).1
  have iB:(dh ws).1.ok:=cq
  have aa5:=iB
  unfold aM.ok at aa5
  split at h
  ·rename_i hb
   rw[if_pos hb]
   refine⟨hw,iB,hb.1,sy ws _ iB,?_,rfl⟩
   simp[bP];omega
  ·cases h
 ·cases h
theorem tV(v u:List Int)(bK:Int)(n:Nat):kg v u bK (n+1)=kg v u bK n++(if at_ v (n:Int)=at_ u (n:Int)then []else [iP n (at_ u (n:Int)) bK]):=by
 unfold kg
 rw[List.range_succ,List.filter_append,List.map_append]
 congr 1
 by_cases h:at_ v (n:Int)=at_ u (n:Int)<;>simp[h]
theorem wh(v u:List Int)(bK:Int)(n:Nat):(kg v u bK n).length≤n:=by
 unfold kg
 rw[List.length_map]
 exact Nat.le_trans (List.length_filter_le _ _) aV
def PlR(I R:af)(r:List Int×Int×Int)(x:U):Prop:=∃lv,x= .cw [lv,.int .i64 r.2.1,.int .i64 r.2.2]∧bu .u64 R lv r.1∧(∀y,y<I.n→R.get y=I.get y)∧I.n≤R.n∧(I.n≤cn lv∨lv= .al)
theorem Ef(I:af)(v:U)(ws:List Int)(op:Ho.Op)(st:Int)(hv:bu .u64 I v ws)(hW:∀w∈ws,ci w)(hl:(ws.length:Int)≤1000000):
 Fn Tryz.prog 126 [v,.agg [.int .i64 op.kind,.int .i64 op.slot,.int .i64 op.a,.int .i64 op.b],.int .i64 st] I fun x R=>PlR I R (eZ ws op st) x:=by
 refine bA jv mixed Tryz.func126 (by kernel_rfl) rfl (by kernel_rfl) ?_
 simp+contextual (maxSteps:=1000000) (disch:=first|exact dB|fail) [go_sem,int_lt,-Int.not_le,-Int.not_lt,-List.map_set,jv]
 (repeat refine Alt.mk ?_)
 refine aw (qc _ v ws hv.push hW hl) ?_
 rintro x0 ajT oH ⟨pv,k0,k1,k2,k3,ov,iv,ev,rfl,hV,qg,jq,Da⟩
 simp only[au]at qg jq Da
 obtain⟨b,hb⟩:∃b,(bM ws).1=b:=⟨_,rfl⟩
 have vO:=qg I.n J
 rw[aU _ rfl]at vO
 have gY:∀y,y<I.n→ajT.get y=I.get y:=fun y hy=>by rw[qg y J,ak hy]
 have mJ:=hv.keeps (R:=ajT) (n:=I.n) gY hv.lt J
 obtain⟨l1,l2,l3,l4,l5,l6,l7,l8⟩:=And.intro hV.p.aQ (And.intro hV.h0.aQ (And.intro hV.h1.aQ (And.intro hV.h2.aQ (And.intro hV.h3.aQ (And.intro hV.o.aQ (And.intro hV.i.aQ hV.e.aQ))))))
 by_cases ln:(bM ws).2=true∧1≤st∧st≤1000000000
 rotate_left
 ·have hT:eZ ws op st=([],13,0):=by unfold eZ;rw[if_neg ln]
  have hZ:∀z,PlR I z (eZ ws op st) (.cw [.al,.int .i64 13,.int .i64 0])↔((∀y,y<I.n→z.get y=I.get y)∧I.n≤z.n):=fun z=>by
   rw[hT];exact⟨fun⟨_,_,_,h1,h2,_⟩=>⟨h1,h2⟩,fun h=>⟨.al,rfl,.nil,h.1,h.2,.inr rfl⟩⟩
  clear hV
  by_cases h1:(bM ws).2=true
  ·by_cases h2:1≤st
   ·have h3:¬st≤1000000000:=fun h=>ln ⟨h1,h2,h⟩
    simp+contextual (maxSteps:=1000000) (disch:=first|exact dB|fail) [go_sem,int_lt,-Int.not_le,-Int.not_lt,-List.map_set,jv,vO,h1,h2,h3]
    (repeat refine Alt.mk ?_)
    rw[hZ]
    exact⟨by intro y hy;simp(disch:=first|omega|(simp only[au,az];omega)) only[ak,ai];exact gY y hy,by simp only[au,az];omega⟩
   ·simp+contextual (maxSteps:=1000000) (disch:=first|exact dB|fail) [go_sem,int_lt,-Int.not_le,-Int.not_lt,-List.map_set,jv,vO,h1,h2]
    (repeat refine Alt.mk ?_)
    rw[hZ]
    exact⟨by intro y hy;simp(disch:=first|omega|(simp only[au,az];omega)) only[ak,ai];exact gY y hy,by simp only[au,az];omega⟩
  ·have qB:(bM ws).2=false:=by simpa using h1
   simp+contextual (maxSteps:=1000000) (disch:=first|exact dB|fail) [go_sem,int_lt,-Int.not_le,-Int.not_lt,-List.map_set,jv,vO,qB]
   (repeat refine Alt.mk ?_)
   rw[hZ]
   exact⟨by intro y hy;simp(disch:=first|omega|(simp only[au,az];omega)) only[ak,ai];exact gY y hy,by simp only[au,az];omega⟩
 obtain⟨h1,h2,h3⟩:=ln
 obtain⟨hw,cq,di,hS,sk,QG⟩:=xq h1
 obtain⟨c,hc⟩:∃c,(dh ws).1=c:=⟨_,rfl⟩
 rw[hc]at cq sk QG
 rw[hb]at di hS sk QG hV
 have hT:eZ ws op st=(kg (lay c b) (lay c (d' b op).1) st (lay c b).length,(d' b op).2.1,(d' b op).2.2):=by
  unfold eZ;rw[if_pos ⟨h1,h2,h3⟩];simp only[hb,hc]
 obtain⟨s,p,l⟩:=c
 have uX:=sd di hS op
 have pG:d' b op=kV b op:=by unfold d';rw[if_pos di]
 rw[pG]at hT
 rw[hT]
 rw[hb]
 simp+contextual (maxSteps:=1000000) (disch:=first|exact dB|fail) [go_sem,int_lt,-Int.not_le,-Int.not_lt,-List.map_set,jv,vO,h1,h2,h3,hw,hc]
 (repeat refine Alt.mk ?_)
 refine aw (D_ _ b pv k0 k1 k2 k3 ov iv ev op hV.push.push hS) ?_
 rintro x1 υ2 fz ⟨dg,SH,SI,SJ,SL,Ph,wa,OP,rfl,ti,eF,Dk,qf⟩
 rw[pG]at ti⊢
 have Z9:=hV.push.push.keeps eF Dk
 simp only[au]at eF Dk qf
 have g9:=eF ajT.n J
 have xx:=eF (ajT.n+1) J
 simp(disch:=first|omega|(simp only[au];omega)) only[ak]at g9
 rw[aU _ rfl]at g9
 rw[aU _ iF]at xx
 have uV:∀y,y<I.n→υ2.get y=I.get y:=fun y hy=>by
  rw[eF y J]
  simp(disch:=first|omega|(simp only[au,az];omega)) only[ak,ai]
  exact gY y hy
 obtain⟨b2,eX⟩:∃b2,(kV b op).1=b2:=⟨_,rfl⟩
 obtain⟨cd,Sg⟩:∃cd,(kV b op).2.1=cd:=⟨_,rfl⟩
 obtain⟨nn,lZ⟩:∃nn,(kV b op).2.2=nn:=⟨_,rfl⟩
 rw[eX]at ti uX⊢
 rw[Sg,lZ]
 obtain⟨m1,m2,m3,m4,m5,m6,m7,m8⟩:=And.intro ti.p.aQ (And.intro ti.h0.aQ (And.intro ti.h1.aQ (And.intro ti.h2.aQ (And.intro ti.h3.aQ (And.intro ti.o.aQ (And.intro ti.i.aQ ti.e.aQ))))))
 have JH:(b2.cy.length:Int)=s∧(b2.ao.length:Int)=s∧(b2.ah.length:Int)=p:=by
  rw[uX.i,uX.e,uX.p];exact sk
 have pD:=ma ⟨s,p,l⟩ b
 have P6:=ma ⟨s,p,l⟩ b2
 obtain⟨L,hL⟩:∃L,lay ⟨s,p,l⟩ b=L:=⟨_,rfl⟩
 obtain⟨X,hX⟩:∃X,lay ⟨s,p,l⟩ b2=X:=⟨_,rfl⟩
 have BQ:=fun ajQ hz=>yC ajQ b pv k0 k1 k2 k3 ov iv ev s p l hz hS cq sk
 have Qt:=fun ajQ hz=>yC ajQ b2 dg SH SI SJ SL Ph wa OP s p l hz uX.S cq JH
 rw[hL]at BQ pD⊢
 rw[hX]at Qt P6⊢
 have hXL:X.length=L.length:=by rw[pD,P6]
 have hHr:L.length≤200:=by
  rw[pD]
  have h5:=cq
  unfold aM.ok at h5
  unfold aP
  simp only at h5⊢
  omega
 have Qx:I.n+3≤υ2.n:=J
 clear hL hX pD P6 hT pG uX sk JH QG hw hc di hb eX Sg lZ hV qg eF Da qf gY oH fz vO h1
 simp+contextual (maxSteps:=1000000) (disch:=first|exact dB|fail) [go_sem,int_lt,-Int.not_le,-Int.not_lt,-List.map_set,jv,g9,xx]
 (repeat refine Alt.mk ?_)
 refine aw (BQ _ ?_) ?_
 ·exact Z9.push
 rintro x2 υ3 Uy ⟨rfl,rfl⟩
 simp+contextual (maxSteps:=1000000) (disch:=first|exact dB|fail) [go_sem,int_lt,-Int.not_le,-Int.not_lt,-List.map_set,jv,g9,xx]
 (repeat refine Alt.mk ?_)
 refine aw (Qt _ ?_) ?_
 ·exact ti.push.push
 rintro x3 υ4 hn6 ⟨rfl,rfl⟩
 simp+contextual (maxSteps:=1000000) (disch:=first|exact dB|fail) [go_sem,int_lt,-Int.not_le,-Int.not_lt,-List.map_set,jv,g9,xx]
 (repeat refine Alt.mk ?_)
 refine aC (fun R_ env R=>∃(a:Nat),∃(q:Nat),∃(l:List Int),env 19= .int .i64 a∧env 18= .sl q 0 l.length 1∧env 16= .sl (υ2.n+1) 0 L.length 1∧env 17= .sl (υ2.n+1+1) 0 X.length 1∧env 2= .int .i64 st∧env 14= .int .i64 cd∧env 15= .int .i64 nn∧R_ (L.length-a)∧(a≤L.length)∧(R.get q=some ⟨l.map (.int .u64),true⟩)∧(υ2.n+3≤q∧q<R.n)∧(l=kg L X st a)∧(R.get (υ2.n+1)=some ⟨L.map (.int .i64),true⟩)∧(R.get (υ2.n+1+1)=some ⟨X.map (.int .i64),true⟩)∧((∀y,y<I.n→R.get y=I.get y))) (by rintro R_ env R ⟨a,q,l,TI,Hr,sZ,LY,e2,rQ,mW,cz,ha,gq,hq,df,gL,gX,sf⟩;exact⟨_,cz,a,q,l,TI,Hr,sZ,LY,e2,rQ,mW,rfl,ha,gq,hq,df,gL,gX,sf⟩) ⟨0,υ2.n+1+1+1,[],aq,aq,aq,aq,aq,aq,aq,trivial,?_,?_,?_,?_,?_,?_,?_⟩ ?_
 rotate_left 7
 rintro m_ env R ⟨a,q,l,TI,Hr,sZ,LY,e2,rQ,mW,rfl,ha,gq,hq,df,gL,gX,sf⟩
 ·have tt:=wh L X st a
  rw[←df]at tt
  have Sv:bu .i64 R (.sl (υ2.n+1) 0 L.length 1) L:=bf J gL rfl
  have hvX:bu .i64 R (.sl (υ2.n+1+1) 0 X.length 1) X:=bf J gX rfl
  by_cases MO:a<L.length
  ·have qD:¬L.length≤a:=J
   have HD:=tV L X st a
   by_cases heq:at_ L a=at_ X a
   ·rw[if_pos heq,List.append_nil,←df]at HD
    simp+contextual (maxSteps:=1000000) (disch:=first|exact dB|fail) [go_sem,int_lt,-Int.not_le,-Int.not_lt,-List.map_set,jv,TI,Hr,sZ,LY,e2,rQ,mW,qD,heq]
    (repeat refine Alt.mk ?_)
    refine⟨a+1,J,l,rfl,?_⟩
    (repeat' refine And.intro ?_ ?_)
    all_goals first|omega|rfl|assumption|exact HD.symm|exact hq.1|exact hq.2|(rw[gq];done)
   ·rw[if_neg heq,←df]at HD
    simp+contextual (maxSteps:=1000000) (disch:=first|exact dB|fail) [go_sem,int_lt,-Int.not_le,-Int.not_lt,-List.map_set,jv,TI,Hr,sZ,LY,e2,rQ,mW,qD,heq,gq]
    (repeat refine Alt.mk ?_)
    exact⟨a+1,J,l++[iP a (at_ X a) st],aV,J,J,aV,J,HD.symm,gL,gX,sf⟩
  ·have qD:L.length≤a:=J
   have hae:a=L.length:=J
   rw[hae]at df
   simp+contextual (maxSteps:=1000000) (disch:=first|exact dB|fail) [go_sem,int_lt,-Int.not_le,-Int.not_lt,-List.map_set,jv,TI,Hr,sZ,LY,e2,rQ,mW,qD]
   (repeat refine Alt.mk ?_)
   refine⟨_,rfl,?_,sf,J,.inl ?_⟩
   ·rw[←df];exact bf hq.2 gq rfl
   ·show I.n≤q;omega
 all_goals first
  |omega
  |(first|exact bn|fail)
  |(simp[kg];done)
  |(intro y hy;simp(disch:=first|omega|(simp only[au,az];omega)) only[ak,ai];exact uV y hy)
  |trace_state
end AH
namespace AH
open Go Go.Proofs Ho
set_option maxRecDepth 20000
set_option maxHeartbeats 16000000
def NV(n:Nat)(R:af)(v v':U)(l l':List Int):Prop:=(v'=v∧l'=l)∨(bu .u64 R v' l'∧(n≤cn v'∨v'= .al))
def qk(I R:af)(r j:Nat)(c:aM)(sv pv:U)(l m:List Int)(o:SO):Prop:=∃dS dg,R.get r=some ⟨rG j o.ws.length c o.g dS dg o.ev,true⟩∧R.get j=some ⟨o.ws.map (.int .u64),true⟩∧(∀y,y<I.n→NE y r→NE y j→R.get y=I.get y)∧I.n≤R.n∧
 NV I.n R sv dS l o.g.snap∧NV I.n R pv dg m o.g.ax
structure Fm(I:af)(r j:Nat)(c:aM)(ws:List Int)(g:ag)(sv pv:U)(ev:Int):Prop where
 hr:r<I.n
 hj:j<I.n
 ne:NE r j
 hg:I.get r=some ⟨rG j ws.length c g sv pv ev,true⟩
 hw:I.get j=some ⟨ws.map (.int .u64),true⟩
 ls:bu .u64 I sv g.snap
 lp:ey pv
 sr:fo sv r
 sj:fo sv j
 sW:∀w∈g.snap,ci w
 sl:(g.snap.length:Int)≤1000000
theorem nE(I:af)(r j:Nat)(c:aM)(ws:List Int)(g:ag)(sv pv:U)(ev:Int)(h:Fm I r j c ws g sv pv ev):
 Fn Tryz.prog 210 [.ptr r 0] I fun x R=>x= .cw []∧qk I R r j c sv pv g.snap g.ax ⟨ws,g.dH,ev⟩:=by
 refine bA oW mixed Tryz.func210 (by kernel_rfl) rfl (by kernel_rfl) ?_
 obtain⟨hr,hj,ne,hg,hw,ls,lp,sr,sj,sW,sl⟩:=h
 simp+contextual (maxSteps:=1000000) (disch:=first|exact dB|fail) [go_sem,int_lt,-Int.not_le,-Int.not_lt,-List.map_set,oW,hg]
 (repeat refine Alt.mk ?_)
 refine aw (Ef I sv g.snap g.op g.seq ls sW sl) ?_
 rintro x0 R oH ⟨lv,rfl,hL,hf,hn,jn⟩
 have Qk:=(hf r hr).trans hg
 have hw':=(hf j hj).trans hw
 obtain⟨ab,hR⟩:∃ab,eZ g.snap g.op g.seq=ab:=⟨_,rfl⟩
 rw[hR]at hL⊢
 have hm:g.dH=if ab.2.1=13∨20<(ab.1.length:Int)then g.cH 11 else if ab.2.1=5∨ab.2.1=9 then g.cH ab.2.1 else {g with ax:=ab.1,code:=ab.2.1,val:=ab.2.2,gk:=0,pc:=13}:=by
  unfold ag.dH;rw[hR]
 obtain⟨G,hG⟩:∃G,g.dH=G:=⟨_,rfl⟩
 rw[hG]at hm⊢
 obtain⟨l,cd,n⟩:=ab
 simp only at hm hL
 have hIs:=hL.aQ
 have hav:cn lv≠r∨lv= .al:=by rcases jn with h|h;exact .inl J;exact .inr h
 have fin:∀(X:cT) (g':ag) (dg:U),X=⟨rG j ws.length c g' sv dg ev,true⟩→g'.snap=g.snap→NV I.n (R.set r X) pv dg g.ax g'.ax→qk I (R.set r X) r j c sv pv g.snap g.ax ⟨ws,g',ev⟩:=by
  intro X g' dg h1 h2 h3
  exact⟨sv,dg,by rw[bo,h1],by rw[ai ne.sym];exact hw',fun y y1 y2 y3=>by rw[ai y2.ne];exact hf y y1,bj,.inl ⟨rfl,h2⟩,h3⟩
 by_cases h1:cd=13∨20<(l.length:Int)
 ·rw[if_pos h1]at hm
  subst hm
  by_cases h2:cd=13
  ·simp+contextual (maxSteps:=1000000) (disch:=first|exact dB|fail) [go_sem,int_lt,-Int.not_le,-Int.not_lt,-List.map_set,oW,Qk,h2]
   (repeat refine Alt.mk ?_)
   exact fin _ (g.cH 11) pv rfl rfl (.inl ⟨rfl,rfl⟩)
  ·have h3:20<(l.length:Int):=J
   have Ez:¬(l.length:Int)≤20:=J
   simp+contextual (maxSteps:=1000000) (disch:=first|exact dB|fail) [go_sem,int_lt,-Int.not_le,-Int.not_lt,-List.map_set,oW,Qk,h2,Ez]
   (repeat refine Alt.mk ?_)
   exact fin _ (g.cH 11) pv rfl rfl (.inl ⟨rfl,rfl⟩)
 have h2:¬cd=13:=fun h=>h1 (.inl h)
 have Ez:(l.length:Int)≤20:=J
 rw[if_neg h1]at hm
 by_cases h4:cd=5∨cd=9
 ·rw[if_pos h4]at hm
  subst hm
  by_cases h5:cd=5
  ·simp+contextual (maxSteps:=1000000) (disch:=first|exact dB|fail) [go_sem,int_lt,-Int.not_le,-Int.not_lt,-List.map_set,oW,Qk,h2,Ez,h5]
   (repeat refine Alt.mk ?_)
   exact fin _ (g.cH 5) pv rfl rfl (.inl ⟨rfl,rfl⟩)
  ·have h6:cd=9:=J
   simp+contextual (maxSteps:=1000000) (disch:=first|exact dB|fail) [go_sem,int_lt,-Int.not_le,-Int.not_lt,-List.map_set,oW,Qk,h2,Ez,h6]
   (repeat refine Alt.mk ?_)
   exact fin _ (g.cH 9) pv rfl rfl (.inl ⟨rfl,rfl⟩)
 ·rw[if_neg h4]at hm
  subst hm
  have h5:¬cd=5:=fun h=>h4 (.inl h)
  have h6:¬cd=9:=fun h=>h4 (.inr h)
  simp+contextual (maxSteps:=1000000) (disch:=first|exact dB|fail) [go_sem,int_lt,-Int.not_le,-Int.not_lt,-List.map_set,oW,Qk,h2,Ez,h5,h6]
  (repeat refine Alt.mk ?_)
  refine fin _ {g with ax:=l,code:=cd,val:=n,gk:=0,pc:=13} lv ?_ rfl (.inr ⟨?_,jn⟩)
  ·rfl
  ·exact hL.set hav
end AH
namespace AH
open Go Go.Proofs Ho
set_option maxRecDepth 20000
set_option maxHeartbeats 16000000
theorem tS{c:aM}(hc:0≤c.am∧c.am≤7)(n:Int):0≤bT c n∧bT c n<7:=by
 unfold bT ed
 split
 ·rename_i hh;unfold aM.ok at hh;omega
 ·omega
theorem GL{c:aM}(hc:0≤c.am∧c.am≤7)(hp:0≤c.ah)(n:Int):0≤dn c n∧dn c n<aP c:=by
 unfold dn ed aP
 split
 ·rename_i hh;unfold aM.ok at hh;omega
 ·omega
theorem Fm.out{I:af}{r j:Nat}{c:aM}{ws:List Int}{g:ag}{sv pv:U}{ev:Int}(h:Fm I r j c ws g sv pv ev)(X:cT)(g':ag)(hX:X=⟨rG j ws.length c g' sv pv ev,true⟩)(hs:g'.snap=g.snap)(hp:g'.ax=g.ax):qk I (I.set r X) r j c sv pv g.snap g.ax ⟨ws,g',ev⟩:=
 ⟨sv,pv,by rw[bo,hX],by rw[ai h.ne.sym];exact h.hw,fun y y1 y2 y3=>by rw[ai y2.ne],bj,.inl ⟨rfl,hs⟩,.inl ⟨rfl,hp⟩⟩
theorem Lx(I:af)(r j:Nat)(c:aM)(ws:List Int)(g:ag)(sv pv:U)(ev:Int)(h:Fm I r j c ws g sv pv ev)(hc:0≤c.am∧c.am≤7)(Jp:0≤c.ah∧c.ah≤10)(og:0≤c.bH∧c.bH≤1000000)(hl:(g.snap.length:Int)=aP c):
 Fn Tryz.prog 259 [.ptr r 0] I fun x R=>x= .cw []∧qk I R r j c sv pv g.snap g.ax ⟨ws,g.gf c,ev⟩:=by
 refine bA jy mixed Tryz.func259 (by kernel_rfl) rfl (by kernel_rfl) ?_
 have hh:=h
 obtain⟨hr,hj,ne,hg,hw,ls,lp,sr,sj,sW,sl⟩:=h
 have p1:=tS hc g.oa
 have p2:=GL hc Jp.1 g.oa
 have hho:7≤aP c:=by unfold aP;omega
 have w1:=bF sW (bT c g.oa)
 have v1:=aO (w:=at_ g.snap (bT c g.oa))
 have q1:bT c g.oa<(g.snap.length:Int):=J
 have q2:dn c g.oa<(g.snap.length:Int)∧1<(g.snap.length:Int):=J
 by_cases h1:g.oa<0∨c.am≤g.oa
 ·have hm:g.gf c=g.dH:=by unfold ag.gf;rw[if_pos h1]
  rw[hm]
  by_cases h2:g.oa<0
  ·have vK:¬0≤g.oa:=J
   simp+contextual (maxSteps:=1000000) (disch:=first|exact dB|fail) [go_sem,int_lt,-Int.not_le,-Int.not_lt,-List.map_set,jy,hg,vK]
   refine aw (nE I r j c ws g sv pv ev hh) ?_
   rintro x R hn ⟨rfl,hR⟩
   simp+contextual (maxSteps:=1000000) (disch:=first|exact dB|fail) [go_sem,int_lt,-Int.not_le,-Int.not_lt,-List.map_set,jy]
   (repeat refine Alt.mk ?_)
   exact hR
  ·have vK:0≤g.oa:=J
   have h3:c.am≤g.oa:=J
   simp+contextual (maxSteps:=1000000) (disch:=first|exact dB|fail) [go_sem,int_lt,-Int.not_le,-Int.not_lt,-List.map_set,jy,hg,vK,h3]
   refine aw (nE I r j c ws g sv pv ev hh) ?_
   rintro x R hn ⟨rfl,hR⟩
   simp+contextual (maxSteps:=1000000) (disch:=first|exact dB|fail) [go_sem,int_lt,-Int.not_le,-Int.not_lt,-List.map_set,jy]
   (repeat refine Alt.mk ?_)
   exact hR
 have h2:0≤g.oa:=J
 have h3:¬c.am≤g.oa:=J
 by_cases h4:g.oa=g.slot
 ·have hm:g.gf c=g.cH 8:=by unfold ag.gf;rw[if_neg h1];simp only;rw[if_pos (.inl h4)]
  rw[hm]
  rw[h4]at h2 h3 q1 w1 v1 p1
  simp+contextual (maxSteps:=1000000) (disch:=first|exact dB|fail) [go_sem,int_lt,-Int.not_le,-Int.not_lt,-List.map_set,jy,hg,h2,h3,h4]
  (repeat refine Alt.mk ?_)
  refine hh.out _ (g.cH 8) ?_ rfl rfl
  simp only[rG,ag.cH,h4]
 by_cases h5:aG (at_ g.snap (bT c g.oa)) % 4=1
 ·by_cases h6:oo c g g.oa (aG (at_ g.snap (bT c g.oa))/4)
  ·have hm:g.gf c={g with pc:=12}:=by
    unfold ag.gf;rw[if_neg h1];simp only
    rw[if_neg (by rintro(x|⟨x,y⟩);exact h4 x;exact y h6),if_pos h5]
   rw[hm]
   unfold oo at h6
   simp+contextual (maxSteps:=1000000) (disch:=first|exact dB|fail) [go_sem,int_lt,-Int.not_le,-Int.not_lt,-List.map_set,jy,hg,h2,h3,h4,h5,h6]
   (repeat refine Alt.mk ?_)
   refine aw (qb I r c g.oa _ g.snap (hg:=hg) (hc:=⟨rfl,rfl,rfl⟩) (hcr:=⟨J,J⟩) (hs:=ls) (hw:=sW) (hl:=q2) ..) ?_
   rintro x R hn ⟨rfl,rfl⟩
   first|rw[decide_eq_true h6]|rw[decide_eq_false h6]
   clear h6
   simp+contextual (maxSteps:=1000000) (disch:=first|exact dB|fail) [go_sem,int_lt,-Int.not_le,-Int.not_lt,-List.map_set,jy,hg,h2,h3,h4,h5]
   (repeat refine Alt.mk ?_)
   exact hh.out _ {g with pc:=12} rfl rfl rfl
  ·have hm:g.gf c=g.cH 8:=by
    unfold ag.gf;rw[if_neg h1];simp only
    rw[if_pos (.inr ⟨h5,h6⟩)]
   rw[hm]
   unfold oo at h6
   simp+contextual (maxSteps:=1000000) (disch:=first|exact dB|fail) [go_sem,int_lt,-Int.not_le,-Int.not_lt,-List.map_set,jy,hg,h2,h3,h4,h5,h6]
   (repeat refine Alt.mk ?_)
   refine aw (qb I r c g.oa _ g.snap (hg:=hg) (hc:=⟨rfl,rfl,rfl⟩) (hcr:=⟨J,J⟩) (hs:=ls) (hw:=sW) (hl:=q2) ..) ?_
   rintro x R hn ⟨rfl,rfl⟩
   first|rw[decide_eq_true h6]|rw[decide_eq_false h6]
   clear h6
   simp+contextual (maxSteps:=1000000) (disch:=first|exact dB|fail) [go_sem,int_lt,-Int.not_le,-Int.not_lt,-List.map_set,jy,hg,h2,h3,h4,h5]
   (repeat refine Alt.mk ?_)
   exact hh.out _ (g.cH 8) rfl rfl rfl
 ·have hm:g.gf c=g.dH:=by
   unfold ag.gf;rw[if_neg h1];simp only
   rw[if_neg (by rintro(x|⟨x,y⟩);exact h4 x;exact h5 x),if_neg h5]
  rw[hm]
  simp+contextual (maxSteps:=1000000) (disch:=first|exact dB|fail) [go_sem,int_lt,-Int.not_le,-Int.not_lt,-List.map_set,jy,hg,h2,h3,h4,h5]
  (repeat refine Alt.mk ?_)
  refine aw (nE I r j c ws g sv pv ev hh) ?_
  rintro x R hn ⟨rfl,hR⟩
  simp+contextual (maxSteps:=1000000) (disch:=first|exact dB|fail) [go_sem,int_lt,-Int.not_le,-Int.not_lt,-List.map_set,jy]
  (repeat refine Alt.mk ?_)
  exact hR
theorem D7(I:af)(r j:Nat)(c:aM)(ws:List Int)(g:ag)(sv pv:U)(ev:Int)(h:Fm I r j c ws g sv pv ev)(hc:0≤c.am∧c.am≤7)(Jp:0≤c.ah∧c.ah≤10)(og:0≤c.bH∧c.bH≤1000000)(hl:(g.snap.length:Int)=aP c):
 Fn Tryz.prog 208 [.ptr r 0] I fun x R=>x= .cw []∧qk I R r j c sv pv g.snap g.ax ⟨ws,g.cr c,ev⟩:=by
 refine bA oV mixed Tryz.func208 (by kernel_rfl) rfl (by kernel_rfl) ?_
 have hh:=h
 obtain⟨hr,hj,ne,hg,hw,ls,lp,sr,sj,sW,sl⟩:=h
 have p1:=tS hc g.slot
 have hho:7≤aP c:=by unfold aP;omega
 have w1:=bF sW (bT c g.slot)
 have v1:=aO (w:=at_ g.snap (bT c g.slot))
 have q1:bT c g.slot<(g.snap.length:Int):=J
 by_cases h1:aG (at_ g.snap (bT c g.slot)) % 4≠1∨aG (at_ g.snap (bT c g.slot))/4≠g.ao
 ·have hm:g.cr c=g.cH 11:=by unfold ag.cr;simp only;rw[if_pos h1]
  rw[hm]
  by_cases h2:aG (at_ g.snap (bT c g.slot)) % 4=1
  ·have h3:¬aG (at_ g.snap (bT c g.slot))/4=g.ao:=J
   simp+contextual (maxSteps:=1000000) (disch:=first|exact dB|fail) [go_sem,int_lt,-Int.not_le,-Int.not_lt,-List.map_set,oV,hg,h2,h3]
   (repeat refine Alt.mk ?_)
   exact hh.out _ (g.cH 11) rfl rfl rfl
  ·simp+contextual (maxSteps:=1000000) (disch:=first|exact dB|fail) [go_sem,int_lt,-Int.not_le,-Int.not_lt,-List.map_set,oV,hg,h2]
   (repeat refine Alt.mk ?_)
   exact hh.out _ (g.cH 11) rfl rfl rfl
 have h2:aG (at_ g.snap (bT c g.slot)) % 4=1:=J
 have h3:aG (at_ g.snap (bT c g.slot))/4=g.ao:=J
 by_cases h4:g.aE=6
 ·have hm:g.cr c=g.gf c:=by unfold ag.cr;simp only;rw[if_neg h1,if_pos h4]
  rw[hm]
  simp+contextual (maxSteps:=1000000) (disch:=first|exact dB|fail) [go_sem,int_lt,-Int.not_le,-Int.not_lt,-List.map_set,oV,hg,h2,h3,h4]
  (repeat refine Alt.mk ?_)
  refine aw (Lx I r j c ws g sv pv ev hh hc Jp og hl) ?_
  rintro x R hn ⟨rfl,hR⟩
  simp+contextual (maxSteps:=1000000) (disch:=first|exact dB|fail) [go_sem,int_lt,-Int.not_le,-Int.not_lt,-List.map_set,oV]
  (repeat refine Alt.mk ?_)
  exact hR
 ·have hm:g.cr c=g.dH:=by unfold ag.cr;simp only;rw[if_neg h1,if_neg h4]
  rw[hm]
  simp+contextual (maxSteps:=1000000) (disch:=first|exact dB|fail) [go_sem,int_lt,-Int.not_le,-Int.not_lt,-List.map_set,oV,hg,h2,h3,h4]
  (repeat refine Alt.mk ?_)
  refine aw (nE I r j c ws g sv pv ev hh) ?_
  rintro x R hn ⟨rfl,hR⟩
  simp+contextual (maxSteps:=1000000) (disch:=first|exact dB|fail) [go_sem,int_lt,-Int.not_le,-Int.not_lt,-List.map_set,oV]
  (repeat refine Alt.mk ?_)
  exact hR
end AH
namespace AH
open Go Go.Proofs Ho
set_option maxRecDepth 20000
set_option maxHeartbeats 16000000
theorem yl{ws:List Int}{e:Int}(h:∀w∈ws,ci w):∀w∈fh ws e,ci w:=by
 unfold fh
 simp only
 split
 ·intro w hw
  unfold put at hw
  rcases List.mem_or_eq_of_mem_set hw with h1|h1
  ·exact h w h1
  ·exact h1▸bh _ _
 ·exact h
theorem tW{w0 w:List Int}{door a:Int}(h:∀x∈w,ci x):∀n,∀x∈jA w0 door a w n,ci x:=by
 intro n
 induction n with
 |zero=>exact h
 |succ n ih=>
  unfold jA
  simp only
  split
  ·exact yl ih
  ·exact ih
theorem tX(w0 w:List Int)(door a:Int):∀n,(jA w0 door a w n).length=w.length:=by
 intro n
 induction n with
 |zero=>rfl
 |succ n ih=>
  unfold jA
  simp only
  split
  ·rw[ym,ih]
  ·exact ih
theorem lP(w:List Int):(da w).length=w.length:=by
 unfold da
 simp only
 split
 ·split
  ·rw[aF,tX]
  ·rfl
 ·rfl
theorem xp{w:List Int}(h:∀x∈w,ci x):∀x∈da w,ci x:=by
 unfold da
 simp only
 split
 ·split
  ·intro x hx
   unfold put at hx
   rcases List.mem_or_eq_of_mem_set hx with h1|h1
   ·exact tW h _ x h1
   ·exact h1▸bh _ _
  ·exact h
 ·exact h
theorem yA(I:af)(v:U)(ws:List Int)(hv:bu .u64 I v ws)(hW:∀w∈ws,ci w)(hl:(ws.length:Int)≤1000000):
 Fn Tryz.prog 260 [v] I fun x R=>x= .sl I.n 0 (da ws).length 1∧R=I.push ⟨(da ws).map (.int .u64),true⟩:=by
 have key:=ld (args:=[v]) (I:=I) (xs:=(da ws).map (.int .u64)) aZ mixed Tryz.func260 (by kernel_rfl) rfl (by kernel_rfl) (lz _ _ _) ?_
 ·simpa using key
 rw[List.length_map,lP]
 have ig:∀R q xs,da ws=xs→bY I.n I R→I.n≤q→R.get q=some ⟨xs.map (.int .u64),true⟩→(bY I.n I R∧∃j k B,U.sl q 0 ws.length 1= .sl j k ws.length 1∧I.n≤j∧R.get j=some B∧B.rw=true∧k+ws.length≤B.cells.length∧(B.cells.drop k).take ws.length=(da ws).map (.int .u64)):=by
  intro R q xs h1 h2 h3 h4
  have hlen:xs.length=ws.length:=by rw[←h1,lP]
  refine⟨h2,q,0,_,rfl,h3,h4,rfl,by simp[hlen],?_⟩
  rw[h1,List.drop_zero,List.take_of_length_le (by simp[hlen])]
 generalize hG:(fun(x:U) (R:af)=>bY I.n I R∧∃j k B,x= .sl j k ws.length 1∧I.n≤j∧R.get j=some B∧B.rw=true∧k+ws.length≤B.cells.length∧(B.cells.drop k).take ws.length=(da ws).map (.int .u64))=G
 have R4:∀R q xs,da ws=xs→bY I.n I R→I.n≤q→R.get q=some ⟨xs.map (.int .u64),true⟩→G (.sl q 0 ws.length 1) R:=by rw[←hG];exact ig
 clear ig hG
 by_cases uT:(check ws).2=true
 rotate_left
 ·have Qd:(check ws).2=false:=by simpa using uT
  have hT:da ws=ws:=by unfold da;simp only;rw[if_neg (fun h=>uT h.1)]
  simp+contextual (maxSteps:=1000000) (disch:=first|exact dB|fail) [go_sem,int_lt,-Int.not_le,-Int.not_lt,-List.map_set,Qd]
  (repeat refine Alt.mk ?_)
  exact R4 _ _ ws hT fp J (aU _ zC)
 have hwk:=uo (ws:=ws) (ok:=fun c=>(ws.length:Int)=c.size) uT
 obtain⟨c,hc⟩:∃c,(check ws).1=c:=⟨_,rfl⟩
 have cL:(whole ws fun c=>(ws.length:Int)=c.size).1=c:=hc
 rw[cL]at hwk
 obtain⟨cq,uB⟩:=hwk
 have iB:=cq
 unfold aM.ok at iB
 have ahD:(ws.length:Int)=7+23*c.am+17*c.ah:=uB
 obtain⟨D,hD⟩:∃D,at_ ws 2=D:=⟨_,rfl⟩
 have hDW:ci D:=by rw[←hD];exact bF hW 2
 have MR:=aO (w:=D)
 have w2:(2:Int)<ws.length:=J
 obtain⟨sl,gG⟩:∃sl,aG D/4 % 8=sl:=⟨_,rfl⟩
 by_cases ln:aG D % 4=2∧sl<c.am
 rotate_left
 ·have hT:da ws=ws:=by unfold da;simp only[hc,hD,gG];rw[if_neg (fun h=>ln ⟨h.2.1,h.2.2⟩)]
  by_cases h1:aG D % 4=2
  ·have h2:c.am≤sl:=J
   simp+contextual (maxSteps:=1000000) (disch:=first|exact dB|fail) [go_sem,int_lt,-Int.not_le,-Int.not_lt,-List.map_set,uT,hc,hD,gG,h1,h2]
   (repeat refine Alt.mk ?_)
   exact R4 _ _ ws hT fp J (aU _ zC)
  ·simp+contextual (maxSteps:=1000000) (disch:=first|exact dB|fail) [go_sem,int_lt,-Int.not_le,-Int.not_lt,-List.map_set,uT,hc,hD,gG,h1]
   (repeat refine Alt.mk ?_)
   exact R4 _ _ ws hT fp J (aU _ zC)
 obtain⟨h1,h2⟩:=ln
 have vK:¬c.am≤sl:=J
 have abf:0≤sl:=J
 have hpd:du c sl=7+2*c.am+17*c.ah+sl*21:=by unfold du ed aP;rw[if_pos ⟨cq,abf,h2⟩]
 obtain⟨a,ha⟩:∃a,du c sl=a:=⟨_,rfl⟩
 rw[ha]at hpd
 have P9:0≤a∧a+20<ws.length:=J
 obtain⟨F,hF⟩:∃F,at_ ws a=F:=⟨_,rfl⟩
 have hFW:ci F:=by rw[←hF];exact bF hW a
 obtain⟨n,hn⟩:∃n,aG F=n:=⟨_,rfl⟩
 have hnr:0≤n:=by rw[←hn];exact aO.1
 by_cases pG:aL F=aL D∧n≤20
 rotate_left
 ·have hT:da ws=ws:=by unfold da;simp only[hc,hD,gG,ha,hF,hn];rw[if_pos ⟨uT,h1,h2⟩,if_neg pG]
  by_cases h3:aL F=aL D
  ·have h4:¬n≤20:=fun h=>pG ⟨h3,h⟩
   simp+contextual (maxSteps:=1000000) (disch:=first|exact dB|fail) [go_sem,int_lt,-Int.not_le,-Int.not_lt,-List.map_set,uT,hc,hD,gG,h1,vK,ha,hF,hn,h3,h4]
   (repeat refine Alt.mk ?_)
   exact R4 _ _ ws hT fp J (aU _ zC)
  ·simp+contextual (maxSteps:=1000000) (disch:=first|exact dB|fail) [go_sem,int_lt,-Int.not_le,-Int.not_lt,-List.map_set,uT,hc,hD,gG,h1,vK,ha,hF,hn,h3]
   (repeat refine Alt.mk ?_)
   exact R4 _ _ ws hT fp J (aU _ zC)
 obtain⟨h3,h4⟩:=pG
 have hT:da ws=put (jA ws D a ws n.toNat) 2 (cK 0 0 0 (aL D+1)):=by unfold da;simp only[hc,hD,gG,ha,hF,hn];rw[if_pos ⟨uT,h1,h2⟩,if_pos ⟨h3,h4⟩]
 have hDs:=gx hDW
 simp+contextual (maxSteps:=1000000) (disch:=first|exact dB|fail) [go_sem,int_lt,-Int.not_le,-Int.not_lt,-List.map_set,uT,hc,hD,gG,h1,vK,ha,hF,hn,h3,h4]
 (repeat refine Alt.mk ?_)
 refine aC (fun R_ env R=>∃(k:Nat),env 12= .int .i64 ((k:Int)+1)∧env 5= .sl (I.n+1+1) 0 ws.length 1∧env 6= .int .u64 D∧env 10= .int .i64 a∧env 11= .int .i64 n∧env 0=v∧env 3= .ptr I.n 0∧((((I.push ⟨[.int .i64 c.am,.int .i64 c.ah,.int .i64 c.bH],true⟩).push ⟨[],true⟩).kill (I.n+1)).push ⟨(jA ws D a ws k).map (.int .u64),true⟩)=R∧R_ ((n-k).toNat)∧((k:Int)≤n)) (by rintro R_ env R ⟨k,BJ,e5,e6,em,ft,e0,e3,h_,cz,hp⟩;exact⟨_,cz,k,BJ,e5,e6,em,ft,e0,e3,h_,rfl,hp⟩) ⟨0,aq,aq,aq,aq,aq,aq,aq,rfl,trivial,?_⟩ ?_
 rotate_left
 rintro m_ env R ⟨k,BJ,e5,e6,em,ft,e0,e3,rfl,rfl,hp⟩
 ·have og:=tX ws ws D a k
  have hcW:=tW (w0:=ws) (door:=D) (a:=a) hW k
  have heW:=bF hW (a+((k:Int)+1))
  by_cases Dg:(k:Int)+1≤n
  ·have oC:a+((k:Int)+1)<ws.length:=J
   have dO:jA ws D a ws (k+1)=if aL (at_ ws (a+((k:Int)+1)))=aL D then fh (jA ws D a ws k) (at_ ws (a+((k:Int)+1)))else jA ws D a ws k:=rfl
   by_cases h5:aL (at_ ws (a+((k:Int)+1)))=aL D
   ·rw[if_pos h5]at dO
    simp+contextual (maxSteps:=1000000) (disch:=first|exact dB|fail) [go_sem,int_lt,-Int.not_le,-Int.not_lt,-List.map_set,BJ,e5,e6,em,ft,e0,e3,Dg,h5,og]
    (repeat refine Alt.mk ?_)
    exact⟨k+1,J,by rw[dO],J,J⟩
   ·rw[if_neg h5]at dO
    simp+contextual (maxSteps:=1000000) (disch:=first|exact dB|fail) [go_sem,int_lt,-Int.not_le,-Int.not_lt,-List.map_set,BJ,e5,e6,em,ft,e0,e3,Dg,h5,og]
    (repeat refine Alt.mk ?_)
    exact⟨k+1,J,by rw[dO],J,J⟩
  ·have MZ:n.toNat=k:=J
   rw[MZ]at hT
   have g2:¬ws.length≤2:=J
   simp+contextual (maxSteps:=1000000) (disch:=first|exact dB|fail) [go_sem,int_lt,-Int.not_le,-Int.not_lt,-List.map_set,BJ,e5,e6,em,ft,e0,e3,Dg,og,g2]
   (repeat refine Alt.mk ?_)
   have Gk:=jH (kk:= .u64) (ws:=jA ws D a ws k) (a:=2) (x:=cK 0 0 0 (aL D+1)) J (by rw[og];omega)
   rw[show(2:Int).toNat=2 from rfl]at Gk
   rw[Gk]
   exact R4 _ _ _ hT fp J (aU _ zC)
 ·omega
def adu(ws:List Int):Prop:=(check ws).2=true
theorem yB(I:af)(v:U)(ws:List Int)(hv:bu .u64 I v ws)(hW:∀w∈ws,ci w)(hl:(ws.length:Int)≤1000000):
 Fn Tryz.prog 219 [v] I fun x R=>BG I R (jc ws) x:=by
 refine bA aZ mixed Tryz.func219 (by kernel_rfl) rfl (by kernel_rfl) ?_
 by_cases uT:(check ws).2=true
 rotate_left
 ·have Qd:(check ws).2=false:=by simpa using uT
  have hT:jc ws=(Bk.zero,false):=by unfold jc;rw[if_neg uT]
  simp+contextual (maxSteps:=1000000) (disch:=first|exact dB|fail) [go_sem,int_lt,-Int.not_le,-Int.not_lt,-List.map_set,Qd]
  (repeat refine Alt.mk ?_)
  exact BG.zero hT fc bG
 have hT:jc ws=bM (da ws):=by unfold jc;rw[if_pos uT]
 simp+contextual (maxSteps:=1000000) (disch:=first|exact dB|fail) [go_sem,int_lt,-Int.not_le,-Int.not_lt,-List.map_set,uT]
 (repeat refine Alt.mk ?_)
 refine aw (yA _ v ws hv.push.push hW hl) ?_
 rintro x0 ajT oH ⟨rfl,rfl⟩
 simp+contextual (maxSteps:=1000000) (disch:=first|exact dB|fail) [go_sem,int_lt,-Int.not_le,-Int.not_lt,-List.map_set]
 (repeat refine Alt.mk ?_)
 refine aw (qc _ _ (da ws) (EU rfl) (xp hW) (by rw[lP];exact hl)) ?_
 rintro x1 R jq ⟨pv,k0,k1,k2,k3,ov,iv,ev,rfl,hV,hf,fz,ha⟩
 simp only[au]at hf fz ha
 have g0:=hf I.n J
 simp(disch:=first|omega|(simp only[au];omega)) only[ak]at g0
 rw[aU _ rfl]at g0
 obtain⟨l1,l2,l3,l4,l5,l6,l7,l8⟩:=And.intro hV.p.aQ (And.intro hV.h0.aQ (And.intro hV.h1.aQ (And.intro hV.h2.aQ (And.intro hV.h3.aQ (And.intro hV.o.aQ (And.intro hV.i.aQ hV.e.aQ))))))
 simp+contextual (maxSteps:=1000000) (disch:=first|exact dB|fail) [go_sem,int_lt,-Int.not_le,-Int.not_lt,-List.map_set,g0]
 (repeat refine Alt.mk ?_)
 rw[hT]
 refine⟨pv,k0,k1,k2,k3,ov,iv,ev,rfl,hV.mn (ha _ J),fun y hy=>?_,bj,fun y hy=>ha y J⟩
 rw[ai J,hf y J]
 simp(disch:=first|omega|(simp only[au,az];omega)) only[ak,ai]
end AH
