import Derived.Test.YtagihpbpblnnoaaGreatZ26
import Derived.Test.YtagihpbpblnnoaaGreatZ27
import Derived.Test.YtagihpbpblnnoaaGreatZ28
import Derived.Test.YtagihpbpblnnoaaGreatZ00
set_option linter.all false
namespace AH
open Go Go.Proofs Ho
set_option maxRecDepth 20000
set_option maxHeartbeats 16000000
theorem Fq{I:af}{i k n:Nat}{v:U}{xs:List Int}{cs:List U}(hx:bu .i64 I v xs)(hg:I.get i=some ⟨cs,true⟩)(hl:0<xs.length)(hn:xs.length≤n)(hk:k+n≤cs.length):
 qU Tryz.prog 36 (.sl i k n 1) v I=some (.int .i64 xs.length,I.set i ⟨aB cs k (xs.map (.int .i64)),true⟩):=by
 obtain⟨e1,e2⟩:=hx.elems
 have ht:∃b z,bR Tryz.prog 36=some (1,b,z):=by simp[go_sem]
 obtain⟨b,z,ht⟩:=ht
 rcases hx.ex with⟨rfl,rfl⟩|⟨j,q,rfl,_⟩
 ·simp at hl
 ·unfold qU
  rw[ht,e2]
  simp only[show min xs.length n=xs.length by omega]
  rw[if_neg J,e1,hg]
  simp only
  rw[if_pos ⟨trivial,trivial,J⟩]
def kA(s p a:Int):Prop:=(3≤a∧a<3+s)∨(3+2*s≤a∧a<7+2*s+17*p)
instance(s p a:Int):Decidable (kA s p a):=by unfold kA;infer_instance
theorem v9(I:af)(s p l a:Int)(hs:0≤s∧s≤1000)(hp:0≤p∧p≤1000):Fn Tryz.prog 239 [cV s p l,.int .i64 a] I fun x R=>x= .bool (decide (kA s p a))∧R=I:=by
 refine ay DH mixed Tryz.func239 (by kernel_rfl) rfl (by kernel_rfl) bE ?_
 obtain⟨B,hB⟩:∃B,decide (kA s p a)=B:=⟨_,rfl⟩
 rw[hB]
 by_cases h1:3≤a<;>by_cases h2:a≤3+s-1<;>by_cases h3:3+2*s≤a<;>by_cases h4:a≤7+2*s+17*p-1
 all_goals first
  |(exfalso;omega)
  |(have e:B=true:=by rw[←hB];exact decide_eq_true (by unfold kA;omega)
    clear hB;subst e;simp+contextual (maxSteps:=1000000) (disch:=first|exact dB|fail) [go_sem,int_lt,-Int.not_le,-Int.not_lt,-List.map_set,DH,h1,h2,h3,h4])
  |(have e:B=false:=by rw[←hB];exact decide_eq_false (by unfold kA;omega)
    clear hB;subst e;simp+contextual (maxSteps:=1000000) (disch:=first|exact dB|fail) [go_sem,int_lt,-Int.not_le,-Int.not_lt,-List.map_set,DH,h1,h2,h3,h4])
@[go_sem] def Vf:=fun(I:af) s p l a hs hp (aA:U→af→Prop)=>ar (k:=aA) (v9 I s p l a hs hp)
@[go_sem] def Ve:=fun(I:af) (b_:Bool) (s p l a:Int) (hs:b_=true→ 0≤s∧s≤1000) (hp:b_=true→ 0≤p∧p≤1000) (aA:U→af→Prop)=>aJ (k:=aA) b_ fun aY=>v9 I s p l a (hs aY) (hp aY)
theorem JU(I:af)(v:U)(ws:List Int)(hv:bu .u64 I v ws)(hW:∀w∈ws,ci w)(hl:(ws.length:Int)≤1000000):
 Fn Tryz.prog 236 [v] I fun x R=>uD I.n R x (ws.map aG)∧(∀y,y<I.n→R.get y=I.get y):=by
 have l1:=hv.aQ
 refine bA aZ mixed Tryz.func236 (by kernel_rfl) rfl (by kernel_rfl) ?_
 simp+contextual (maxSteps:=1000000) (disch:=first|exact dB|fail) [go_sem,int_lt,-Int.not_le,-Int.not_lt,-List.map_set]
 (repeat refine Alt.mk ?_)
 refine aC (fun R_ env R=>∃(u:Nat),∃(w:U),env 3=w∧env 6=v∧env 7= .int .i64 ws.length∧env 8= .int .i64 u∧R_ (ws.length-u)∧(u≤ws.length)∧(uD I.n R w ((ws.map aG).take u))∧(I.n≤R.n)∧((∀y,y<I.n→R.get y=I.get y))) (by rintro R_ env R ⟨u,w,e3,e6,e7,e8,cz,hu,hd,hn,hf⟩;exact⟨_,cz,u,w,e3,e6,e7,e8,rfl,hu,hd,hn,hf⟩) ⟨0,.al,aq,aq,aq,aq,trivial,?_,?_,?_,?_⟩ ?_
 rotate_left 4
 rintro m_ env R ⟨u,w,e3,e6,e7,e8,rfl,hu,hd,hn,hf⟩
 ·have YI:=hv.keeps (R:=R) (n:=I.n) hf hv.lt J
  have iv:=hd.v.aQ
  by_cases HF:u<ws.length
  rotate_left
  ·have fH:ws.length≤u:=J
   rw[List.take_of_length_le (by simpa using fH)]at hd
   simp+contextual (maxSteps:=1000000) (disch:=first|exact dB|fail) [go_sem,int_lt,-Int.not_le,-Int.not_lt,-List.map_set,e3,e6,e7,e8,fH]
   (repeat refine Alt.mk ?_)
   exact⟨hd,hf⟩
  have fH:¬ws.length≤u:=J
  have hwu:=bF hW u
  have BX:(ws.map aG).take (u+1)=(ws.map aG).take u++[aG (at_ ws u)]:=by
   rw[List.take_add_one]
   simp[at_,HF]
  rcases hd with⟨rfl,hd⟩|⟨q,rfl,q1,q2,q3⟩
  ·rw[hd]at BX
   simp+contextual (maxSteps:=1000000) (disch:=first|exact dB|fail) [go_sem,int_lt,-Int.not_le,-Int.not_lt,-List.map_set,e3,e6,e7,e8,fH]
   (repeat refine Alt.mk ?_)
   refine⟨u+1,J,J,J,.inr ⟨R.n+1,by rw[BX];rfl,J,bG,?_⟩,J,fun y y1=>?_⟩
   ·rw[BX];simp only[List.nil_append,List.map_cons,List.map_nil];(first|exact bn|fail)
   ·first|exact hf y y1|(rw[←hf y y1];(first|exact bn|fail))
  ·have tt:((ws.map aG).take u).length≤1000000:=by rw[List.length_take];omega
   generalize(ws.map aG).take u=l at*
   simp+contextual (maxSteps:=1000000) (disch:=first|exact dB|fail) [go_sem,int_lt,-Int.not_le,-Int.not_lt,-List.map_set,e3,e6,e7,e8,fH,q3]
   (repeat refine Alt.mk ?_)
   refine⟨u+1,J,J,J,.inr ⟨R.n+1,by rw[BX];simp,J,by simp only[au,aR];omega,?_⟩,J,fun y y1=>hf y y1⟩
   rw[BX];simp only[List.map_append,List.map_cons,List.map_nil];(first|exact bn|fail)
 ·omega
 ·exact .inl ⟨rfl,rfl⟩
 ·omega
 ·intro y y1;(first|exact bn|fail)
theorem Gn(I:af)(s p l:Int)(h:aM.ok ⟨s,p,l⟩):
 Fn Tryz.prog 20 [cV s p l] I fun x R=>∃P O aa E,x= .agg [.int .i64 s,.sl P 0 p.toNat 1,.al,.al,.al,.al,.sl O 0 (p*8).toNat 1,.sl aa 0 s.toNat 1,.sl E 0 s.toNat 1]∧BkE I.n R s p P O aa E∧bY I.n I R∧I.n≤R.n:=by
 refine bA Pd mixed Tryz.func20 (by kernel_rfl) rfl (by kernel_rfl) ?_
 have h':=h
 unfold aM.ok at h'
 simp only at h'
 obtain⟨c1,c2,c3,c4,c5,c6⟩:=h'
 have q1:0≤s:=J
 have q2:0≤p:=J
 have q3:0≤p*8:=J
 have q4:¬9223372036854775807≤s:=J
 have q5:¬9223372036854775807≤p:=J
 have q6:¬9223372036854775807≤p*8:=J
 have q7:8*s≤140737488355328:=J
 have q8:8*p≤140737488355328:=J
 have q9:8*(p*8)≤140737488355328:=J
 have q10:(8*p).toNat=(p*8).toNat:=J
 have q11:8*p=p*8:=J
 simp+contextual (maxSteps:=1000000) (disch:=first|exact dB|fail) [go_sem,int_lt,-Int.not_le,-Int.not_lt,-List.map_set,Pd,h,kw,q1,q2,q3,q4,q5,q6,q7,q8,q9,q10,q11,-List.map_replicate]
 refine Alt.mk ⟨⟨J,by simp only[au,az,dw];omega,aD,?_,?_,?_,?_⟩,fp,J⟩<;>(rw[List.map_replicate];(first|exact bn|fail))
end AH
namespace AH
open Go Go.Proofs Ho
set_option maxRecDepth 20000
set_option maxHeartbeats 16000000
theorem ui{n:Nat}{f g:Nat→List Int→List Int}(h:∀i,i<n→∀v,f i v=g i v)(v:List Int):upto n f v=upto n g v:=by
 induction n with
 |zero=>rfl
 |succ n ih=>rw[en,en,ih fun i hi=>h i J,h n J]
theorem G0{v xs:List Int}{k:Nat}(h:k+xs.length≤v.length):∀n,n≤xs.length→upto n (fun i w=>put w ((k:Int)+i) (at_ xs i)) v=v.take k++xs.take n++v.drop (k+n):=by
 intro n
 induction n with
 |zero=>intro _;rw[fK];simp
 |succ n ih=>
  intro hn
  rw[en,ih J]
  unfold put
  rw[show((k:Int)+(n:Int)).toNat=k+n by omega]
  apply List.ext_getElem?
  intro j
  rw[List.getElem?_set]
  have h1:(v.take k).length=k:=by rw[List.length_take];omega
  have h2:(xs.take n).length=n:=by rw[List.length_take];omega
  have h3:(xs.take (n+1)).length=n+1:=by rw[List.length_take];omega
  have h4:(v.drop (k+n)).length=v.length-(k+n):=List.length_drop
  simp only[List.getElem?_append,List.length_append,h1,h2,h3,h4,List.getElem?_take,List.getElem?_drop]
  by_cases e:k+n=j
  ·subst e
   rw[if_pos rfl,if_pos J,if_pos J,if_neg J,if_pos J]
   simp[at_,show n<xs.length by omega]
  ·rw[if_neg e]
   (repeat' split)<;>first|omega|rfl|(congr 1;omega)
theorem zy{v xs:List Int}{k:Nat}(h:k+xs.length≤v.length):aB (v.map (U.int .i64)) k (xs.map (.int .i64))=(upto xs.length (fun i w=>put w ((k:Int)+i) (at_ xs i)) v).map (.int .i64):=by
 rw[G0 h _ (Nat.le_refl _)]
 unfold aB
 simp
theorem xS(I:af)(b:Bk)(pv h0 h1 h2 h3 ov iv ev:U)(s p l':Int)(hb:fb I b pv h0 h1 h2 h3 ov iv ev)(hs:dW b)(h:aM.ok ⟨s,p,l'⟩)(hi:(b.cy.length:Int)=s∧(b.ao.length:Int)=s∧(b.ah.length:Int)=p)(Qa:HR b):
 Fn Tryz.prog 221 [cV s p l',bV b pv h0 h1 h2 h3 ov iv ev] I fun x R=>x= .sl I.n 0 (lay ⟨s,p,l'⟩ b).length 1∧R=I.push ⟨(lay ⟨s,p,l'⟩ b).map (.int .i64),true⟩:=by
 have key:=ld (args:=[cV s p l',bV b pv h0 h1 h2 h3 ov iv ev]) (I:=I) (xs:=(lay ⟨s,p,l'⟩ b).map (.int .i64)) nm mixed Tryz.func221 (by kernel_rfl) rfl (by kernel_rfl) (lz _ _ _) ?_
 ·simpa using key
 obtain⟨S,rfl⟩:∃S:Nat,s=(S:Int):=⟨s.toNat,by have:=h.1;simp only at this;omega⟩
 obtain⟨Q,rfl⟩:∃Q:Nat,p=(Q:Int):=⟨p.toNat,by have:=h.2.2.1;simp only at this;omega⟩
 have h':=h
 unfold aM.ok at h'
 simp only at h'
 have EG:b.owner.length=b.ah.length*8:=Qa.1
 have L0:aP ⟨(S:Int),(Q:Int),l'⟩=7+2*(S:Int)+17*(Q:Int):=rfl
 obtain⟨H,XM⟩:∃H:Nat,H=7+2*S+17*Q:=⟨_,rfl⟩
 have Jc:aP ⟨(S:Int),(Q:Int),l'⟩=(H:Int):=J
 have pr:∀i:Nat,i<S→bT ⟨(S:Int),(Q:Int),l'⟩ i=3+(i:Int):=fun i hi=>by unfold bT ed;rw[if_pos ⟨h,J,by simp only;omega⟩];omega
 have pp:∀i:Nat,i<Q→iJ ⟨(S:Int),(Q:Int),l'⟩ i=((7+2*S:Nat):Int)+i:=fun i hi=>by unfold iJ ed;rw[if_pos ⟨h,J,by simp only;omega⟩];simp only;omega
 have pt:∀i:Nat,i<Q*8→mE ⟨(S:Int),(Q:Int),l'⟩ i=((7+2*S+Q:Nat):Int)+i:=fun i hi=>by unfold mE ed;rw[if_pos ⟨h,J,by simp only;omega⟩];simp only;omega
 have ph:∀i:Nat,i<4→dv ⟨(S:Int),(Q:Int),l'⟩ i=3+2*(S:Int)+i:=fun i hi=>by unfold dv ed;rw[if_pos ⟨h,J⟩];simp only;omega
 have pl:∀x:Int,0≤x→x<(Q:Int)*8→eV ⟨(S:Int),(Q:Int),l'⟩ x=7+2*(S:Int)+9*(Q:Int)+x:=fun x h1 h2=>by unfold eV ed;rw[if_pos ⟨h,h1,h2⟩];simp only;omega
 obtain⟨v0,pK⟩:∃v0,v0=List.replicate H (0:Int):=⟨_,rfl⟩
 have Jv:v0.length=H:=by rw[pK];simp
 obtain⟨v1,mJ⟩:∃v1,v1=upto S (f1 ⟨(S:Int),(Q:Int),l'⟩ b) v0:=⟨_,rfl⟩
 have pm:v1.length=H:=by rw[mJ,dY (f1 ⟨(S:Int),(Q:Int),l'⟩ b) (fun i v=>aF _ _ _),Jv]
 obtain⟨v2,fw⟩:∃v2,v2=upto Q (f2 ⟨(S:Int),(Q:Int),l'⟩ b) v1:=⟨_,rfl⟩
 have pI:v2.length=H:=by rw[fw,dY (f2 ⟨(S:Int),(Q:Int),l'⟩ b) (fun i v=>aF _ _ _),pm]
 obtain⟨v3,om⟩:∃v3,v3=upto b.owner.length (f3 ⟨(S:Int),(Q:Int),l'⟩ b) v2:=⟨_,rfl⟩
 have L':v3.length=H:=by rw[om,dY (f3 ⟨(S:Int),(Q:Int),l'⟩ b) (fun i v=>aF _ _ _),pI]
 have Ty:aB (v1.map (U.int .i64)) (7+2*(S:Int)).toNat (b.ah.map (.int .i64))=v2.map (.int .i64):=by
  rw[show(7+2*(S:Int)).toNat=7+2*S by omega,zy J,fw,show b.ah.length=Q by omega]
  exact congrArg _ (ui (fun i hi v=>by show _=put v (iJ _ i) _;rw[pp i hi]) _)
 have cp3:aB (v2.map (U.int .i64)) (7+2*(S:Int)+Q).toNat (b.owner.map (.int .i64))=v3.map (.int .i64):=by
  rw[show(7+2*(S:Int)+Q).toNat=7+2*S+Q by omega,zy J,om]
  exact congrArg _ (ui (fun i hi v=>by show _=put v (mE _ i) _;rw[pt i J]) _)
 have Qq:lay ⟨(S:Int),(Q:Int),l'⟩ b=upto 4 (f4 ⟨(S:Int),(Q:Int),l'⟩ b) v3:=by
  unfold lay
  rw[Jc,om,fw,mJ,pK]
  simp only[Int.toNat_natCast]
  rfl
 rw[Qq]
 have OU:=hb
 obtain⟨vp,w0,w1,w2,w3,vo,vi,ve⟩:=id hb
 obtain⟨_,⟨sp,qP⟩,sh,⟨so,KR⟩,⟨si,si'⟩,⟨se,se'⟩⟩:=id hs
 have:=And.intro hb.p.aQ (And.intro hb.h0.aQ (And.intro hb.h1.aQ (And.intro hb.h2.aQ (And.intro hb.h3.aQ (And.intro hb.o.aQ (And.intro hb.i.aQ hb.e.aQ))))))
 obtain⟨l1,l2,l3,l4,l5,l6,l7,l8⟩:=this
 have q1:¬9223372036854775807≤(H:Int):=J
 have q2:8*(H:Int)≤140737488355328:=J
 have q3:(H:Int)≤140737488355328:=J
 have q4:7+2*(S:Int)+17*(Q:Int)=(H:Int):=J
 have d1:=hb.p.ne (j:=I.n) J
 simp+contextual (maxSteps:=1000000) (disch:=first|exact dB|fail) [go_sem,int_lt,-Int.not_le,-Int.not_lt,-List.map_set,nm,q4,kw,q1,q2,-List.map_replicate]
 (repeat refine Alt.mk ?_)
 rw[show List.replicate H (U.int .i64 0)=(upto 0 (f1 ⟨(S:Int),(Q:Int),l'⟩ b) v0).map (.int .i64)from by rw[fK,pK];simp]
 refine aC (fun R_ env R=>∃(u:Nat),env 17= .int .i64 u∧env 16= .int .i64 S∧env 2= .ptr I.n 0∧env 3= .ptr (I.n+1) 0∧env 5= .sl (I.n+1+1) 0 H 1∧((I.push ⟨[.int .i64 (S:Int),.int .i64 (Q:Int),.int .i64 l'],true⟩).push ⟨[.int .i64 b.am,pv,h0,h1,h2,h3,ov,iv,ev],true⟩).push ⟨(upto u (f1 ⟨(S:Int),(Q:Int),l'⟩ b) v0).map (.int .i64),true⟩=R∧R_ (S-u)∧(u≤S)) (by rintro R_ env R ⟨u,LY,sZ,e2,e3,e5,h_,cz,hp⟩;exact⟨_,cz,u,LY,sZ,e2,e3,e5,h_,rfl,hp⟩) ⟨0,aq,aq,aq,aq,aq,rfl,trivial,?_⟩ ?_
 rotate_left
 rintro m_ env R ⟨u,LY,sZ,e2,e3,e5,rfl,rfl,hp⟩
 ·have BR:(upto u (f1 ⟨(S:Int),(Q:Int),l'⟩ b) v0).length=H:=by rw[dY (f1 ⟨(S:Int),(Q:Int),l'⟩ b) (fun i v=>aF _ _ _),Jv]
  by_cases ms:u<S
  ·have fH:¬S≤u:=J
   have b1:=si' u
   have b2:=se' u
   have b3:¬(H:Int)≤3+(u:Int):=J
   simp+contextual (maxSteps:=1000000) (disch:=first|exact dB|fail) [go_sem,int_lt,-Int.not_le,-Int.not_lt,-List.map_set,nm,LY,sZ,e2,e3,e5,fH,BR,b3]
   (repeat refine Alt.mk ?_)
   exact⟨u+1,J,by rw[en,show ∀w,f1 ⟨(S:Int),(Q:Int),l'⟩ b u w=put w (3+(u:Int)) (at_ b.cy u+4*at_ b.ao u)from fun w=>by unfold f1;rw[pr u ms]],J,J⟩
  ·have z9:u=S:=J
   have fH:S≤u:=J
   rw[z9,←mJ]
   have n1:0<b.ah.length:=J
   have n2:0<b.owner.length:=J
   have n3:b.ah.length≤H-(7+2*(S:Int)).toNat:=J
   have n4:b.owner.length≤H-(7+2*(S:Int)+Q).toNat:=J
   simp+contextual (maxSteps:=1000000) (disch:=first|exact dB|fail) [go_sem,int_lt,-Int.not_le,-Int.not_lt,-List.map_set,nm,LY,sZ,e2,e3,e5,fH,pm,pI,Fq,Ty,cp3]
   (repeat refine Alt.mk ?_)
   rw[show v3=upto 0 (f4 ⟨(S:Int),(Q:Int),l'⟩ b) v3 from(fK _ _).symm]
   refine aC (fun R_ env R=>∃(kk:Nat),env 55= .int .i64 kk∧env 54= .agg [h0,h1,h2,h3]∧env 2= .ptr I.n 0∧env 3= .ptr (I.n+1) 0∧env 5= .sl (I.n+1+1) 0 H 1∧((I.push ⟨[.int .i64 (S:Int),.int .i64 (Q:Int),.int .i64 l'],true⟩).push ⟨[.int .i64 b.am,pv,h0,h1,h2,h3,ov,iv,ev],true⟩).push ⟨(upto kk (f4 ⟨(S:Int),(Q:Int),l'⟩ b) v3).map (.int .i64),true⟩=R∧R_ (4-kk)∧(kk≤4)) (by rintro R_ env R ⟨kk,MB,MA,e2,e3,e5,h_,cz,hp⟩;exact⟨_,cz,kk,MB,MA,e2,e3,e5,h_,rfl,hp⟩) ⟨0,aq,aq,aq,aq,aq,rfl,trivial,?_⟩ ?_
   rotate_left
   rintro m_ env R ⟨kk,MB,MA,e2,e3,e5,rfl,rfl,hp⟩
   ·have BR:(upto kk (f4 ⟨(S:Int),(Q:Int),l'⟩ b) v3).length=H:=by rw[dY (f4 ⟨(S:Int),(Q:Int),l'⟩ b) (fun i v=>nk _ _ _ _),L']
    by_cases xJ:kk<4
    ·obtain⟨v,g1,g2⟩:=jS OU xJ
     have Sn:=tn xJ g1
     have g3:=g2.aQ
     obtain⟨s1,s2⟩:=sh kk
     have s3:=fun x (hx:x∈b.aj kk)=>Qa.2 kk xJ x hx
     have ph':=ph kk xJ
     have hk5:¬(4:Int)≤(kk:Int):=J
     simp+contextual (maxSteps:=1000000) (disch:=first|exact dB|fail) [go_sem,int_lt,-Int.not_le,-Int.not_lt,-List.map_set,nm,MB,MA,e2,e3,e5,hk5,Sn]
     (repeat refine Alt.mk ?_)
     refine aC (fun R_ env R=>∃(i:Nat),∃(a:Int),∃(cur:List Int),env 65= .int .i64 i∧env 9= .int .i64 a∧env 64= .int .i64 (b.aj kk).length∧env 63=v∧env 55= .int .i64 kk∧env 54= .agg [h0,h1,h2,h3]∧env 2= .ptr I.n 0∧env 3= .ptr (I.n+1) 0∧env 5= .sl (I.n+1+1) 0 H 1∧((I.push ⟨[.int .i64 (S:Int),.int .i64 (Q:Int),.int .i64 l'],true⟩).push ⟨[.int .i64 b.am,pv,h0,h1,h2,h3,ov,iv,ev],true⟩).push ⟨(cur).map (.int .i64),true⟩=R∧R_ ((b.aj kk).length-i)∧(i≤(b.aj kk).length∧0≤a∧a<H∧cur.length=H∧ew ⟨(S:Int),(Q:Int),l'⟩ ((b.aj kk).drop i) a cur=upto (kk+1) (f4 ⟨(S:Int),(Q:Int),l'⟩ b) v3)) (by rintro R_ env R ⟨i,a,cur,Xy,e9,Xx,Xw,MB,MA,e2,e3,e5,h_,cz,hp⟩;exact⟨_,cz,i,a,cur,Xy,e9,Xx,Xw,MB,MA,e2,e3,e5,h_,rfl,hp⟩) ⟨0,_,_,aq,aq,aq,aq,aq,aq,aq,aq,aq,rfl,trivial,?_⟩ ?_
     rotate_left
     rintro m_ env R ⟨i,a,cur,Xy,e9,Xx,Xw,MB,MA,e2,e3,e5,rfl,rfl,hp⟩
     ·obtain⟨nK,kM,vP,EH,EI⟩:=hp
      have Ma:¬(H:Int)≤a:=J
      by_cases Ui:i<(b.aj kk).length
      ·have gc:¬(b.aj kk).length≤i:=J
       have b1:=s2 i
       have hm:at_ (b.aj kk) i∈b.aj kk:=by simp[at_,Ui]
       obtain⟨r1,r2⟩:=s3 _ hm
       have r3:=pl _ r1 J
       have hd:=io (xs:=b.aj kk) (i:=(i:Int)) J J
       rw[Int.toNat_natCast,show((i:Int)+1).toNat=i+1 by omega]at hd
       simp+contextual (maxSteps:=1000000) (disch:=first|exact dB|fail) [go_sem,int_lt,-Int.not_le,-Int.not_lt,-List.map_set,nm,Xy,e9,Xx,Xw,MB,MA,e2,e3,e5,gc,kM,EH,Ma]
       (repeat refine Alt.mk ?_)
       exact⟨i+1,J,put cur a (at_ (b.aj kk) i+1),rfl,J,J,J,J,by rw[aF];exact EH,by rw[←EI,hd,ew,r3]⟩
      ·have gc:(b.aj kk).length≤i:=J
       have xD:cur=upto (kk+1) (f4 ⟨(S:Int),(Q:Int),l'⟩ b) v3:=by rw[←EI,List.drop_eq_nil_of_le gc];rfl
       simp+contextual (maxSteps:=1000000) (disch:=first|exact dB|fail) [go_sem,int_lt,-Int.not_le,-Int.not_lt,-List.map_set,nm,Xy,e9,Xx,Xw,MB,MA,e2,e3,e5,gc]
       exact⟨kk+1,J,by rw[xD],J,J⟩
     ·exact⟨J,J,J,BR,by rw[en];show _=ew _ _ (dv _ kk) _;rw[ph'];rfl⟩
    ·have z9:kk=4:=J
     subst z9
     simp+contextual (maxSteps:=1000000) (disch:=first|exact dB|fail) [go_sem,int_lt,-Int.not_le,-Int.not_lt,-List.map_set,nm,MB,MA,e2,e3,e5]
     (repeat refine Alt.mk ?_)
     rw[fK]
     exact⟨BR.symm,J,Nat.le_refl _,List.take_of_length_le aV⟩
   ·omega
 ·omega
theorem QT(I:af)(b:Bk)(pv h0 h1 h2 h3 ov iv ev:U)(s p l':Int)(hb:fb I b pv h0 h1 h2 h3 ov iv ev)(hs:dW b)(h:aM.ok ⟨s,p,l'⟩)(hi:(b.cy.length:Int)=s∧(b.ao.length:Int)=s∧(b.ah.length:Int)=p)(Qa:HR b)(k:U→af→Prop):
 @dN Tryz.prog (.fn 221 [] []) [cV s p l',bV b pv h0 h1 h2 h3 ov iv ev] I ⟨k⟩= @Alt (k (.sl I.n 0 (lay ⟨s,p,l'⟩ b).length 1) (I.push ⟨(lay ⟨s,p,l'⟩ b).map (.int .i64),true⟩)) ⟨@dN Tryz.prog (.fn 221 [] []) [cV s p l',bV b pv h0 h1 h2 h3 ov iv ev] I ⟨k⟩⟩:=ar (xS I b pv h0 h1 h2 h3 ov iv ev s p l' hb hs h hi Qa)
attribute [go_sem] QT
end AH
