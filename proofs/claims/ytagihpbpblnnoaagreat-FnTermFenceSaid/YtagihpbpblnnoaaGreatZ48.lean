import Derived.Test.YtagihpbpblnnoaaGreatZ44
import Derived.Test.YtagihpbpblnnoaaGreatZ43
import Derived.Test.YtagihpbpblnnoaaGreatZ45
import Derived.Test.YtagihpbpblnnoaaGreatZ46
import Derived.Test.YtagihpbpblnnoaaGreatZ42
import Derived.Test.YtagihpbpblnnoaaGreatZ41
import Derived.Test.YtagihpbpblnnoaaGreatZ47
import Derived.Test.YtagihpbpblnnoaaGreatZ40
import Derived.Test.YtagihpbpblnnoaaGreatZ32
import Derived.Test.YtagihpbpblnnoaaGreatZ00
set_option linter.all false
namespace AH
open Go Go.Proofs Ho
set_option maxRecDepth 20000
set_option maxHeartbeats 4000000
theorem QV(I:af)(i k j:Nat)(bp:List U)(c:aM)(ws:List Int)(g:ag)(sv pv:U)(h:cZ I i k j bp c ws g sv pv)(hL:rF I i j g sv pv)(eU:(13≤g.pc∧g.pc≤15)∨(22≤g.pc∧g.pc≤26)):
 Fn Tryz.prog 201 [jD i k j c ws] I fun x R=>x= .int .i64 (write c ws g).ev∧fV I R i k j bp (write c ws g).so sv pv:=by
 have h8:g.pc=13∨g.pc=14∨g.pc=15∨g.pc=22∨g.pc=23∨g.pc=24∨g.pc=25∨g.pc=26:=J
 rcases h8 with q|q|q|q|q|q|q|q
 ·exact JV I i k j bp c ws g sv pv h hL q
 ·exact JW I i k j bp c ws g sv pv h hL q
 ·exact JX I i k j bp c ws g sv pv h hL q
 ·exact JY I i k j bp c ws g sv pv h hL q
 ·exact JZ I i k j bp c ws g sv pv h hL q
 ·exact J0 I i k j bp c ws g sv pv h hL q
 ·exact J1 I i k j bp c ws g sv pv h hL q
 ·exact J2 I i k j bp c ws g sv pv h hL q
end AH
namespace AH
open Go Go.Proofs Ho
set_option maxRecDepth 20000
set_option maxHeartbeats 16000000
theorem GP{c:aM}{ws:List Int}{g:ag}{I:af}{i k j:Nat}{bp:List U}{sv pv:U}(h:cZ I i k j bp c ws g sv pv)(hp:1≤g.pc∧g.pc≤8):cW c ws g=(cx c ws g).so:=by
 unfold cW;rw[if_pos hp.2];exact Iq h.hc h.hl h.ok.2.2.2.1 hp
theorem DX{c:aM}{ws:List Int}{g:ag}(hp:9≤g.pc∧g.pc≤12):cW c ws g=jX c ws g:=by
 unfold cW jX;rw[if_neg J]
 split
 ·rfl
 ·rw[if_pos J]
theorem AU{c:aM}{ws:List Int}{g:ag}{I:af}{i k j:Nat}{bp:List U}{sv pv:U}(h:cZ I i k j bp c ws g sv pv)(hp:16≤g.pc∧g.pc≤21):cW c ws g=(watch c ws g).so:=by
 have ok:=h.ok
 have hw:0≤g.aX∧g.aX<c.am:=ok.2.2.2.2.2.2.2.2.2.2.2.2.2.2.2.2.2.2.2.1 hp
 unfold cW;rw[if_neg J,if_neg J,if_neg J,if_neg J]
 split
 ·exact Oe h.hc h.hl hw ⟨hp.1,bZ⟩
 ·rw[if_pos J];exact Od h.hc h.hl hw J
theorem AW{c:aM}{ws:List Int}{g:ag}{I:af}{i k j:Nat}{bp:List U}{sv pv:U}(h:cZ I i k j bp c ws g sv pv)(hp:(13≤g.pc∧g.pc≤15)∨(22≤g.pc∧g.pc≤26)):cW c ws g=(write c ws g).so:=by
 have hl:=h.hl
 have cL:=h.hc
 unfold aM.ok at cL
 have ok:=h.ok
 have hw:g.pc=22∨g.pc=23∨g.pc=24→(1≤g.gk∧g.gk≤g.gn)∧(g.own=true→g.gn=g.ax.length)∧0≤g.aX∧g.aX<c.am:=ok.2.2.2.2.2.2.2.2.2.2.2.2.2.2.2.2.2.2.1
 have hk:=ok.2.2.2.2.2.2.2.2.2.2.2.2.2.2.2.2.2.1
 have dO:=ok.2.2.2.2.2.2.2.2.2.2.2.2.2.2.1
 have gG:=ok.2.2.2.1
 have Gd:=ok.2.2.2.2.2.2.2.2.2.2.2.1
 by_cases kW:g.pc=15
 ·unfold cW write;rw[if_neg J,if_neg J,if_neg J,if_pos J]
  have s3:∀o,dp ws 2 o↔at_ ws 2=o:=fun o=>fJ J (by unfold aM.size at hl;omega)
  unfold fk Out.so
  simp only[kW,s3]
  simp
  split<;>simp_all
 ·rcases hp with hp|hp
  ·unfold cW;rw[if_neg J,if_neg J,if_neg J,if_pos J]
   have:=hk J
   exact Ok h.hc hl gG hp ⟨Gd.1,J⟩
  ·unfold cW;rw[if_neg J,if_neg J,if_neg J,if_neg J,if_neg J]
   split
   ·exact Oj h.hc (fun e=>by have:=hw (.inl e);omega) ⟨hp.1,bZ⟩ h.gw.2.2.2.1
   ·exact Ol (by unfold aM.size at hl;omega) J
theorem Nf(I:af)(i k j:Nat)(bp:List U)(c:aM)(ws:List Int)(g:ag)(sv pv:U)(h:cZ I i k j bp c ws g sv pv)(hL:rF I i j g sv pv)(eU:g.pc≠0):
 Fn Tryz.prog 150 [jD i k j c ws] I fun x R=>x= .int .i64 (cW c ws g).ev∧fV I R i k j bp (cW c ws g) sv pv:=by
 generalize hG:(fun(x:U) (R:af)=>x= .int .i64 (cW c ws g).ev∧fV I R i k j bp (cW c ws g) sv pv)=GG
 refine bA aZ mixed Tryz.func150 (by kernel_rfl) rfl (by kernel_rfl) ?_
 have f:∀(o:SO),cW c ws g=o→∀B R,fV (I.push B) R i k j bp o sv pv→GG (.int .i64 o.ev) R:=fun o h B R h1=>by
  rw[←hG]
  simp only[h]
  exact⟨trivial,h1.from bG (fun y hy=>ak hy)⟩
 clear hG
 have hP:0≤g.pc∧g.pc≤26:=h.ok.2.2.2.2.2.2.2.1
 have fr:∀B:cT,cZ (I.push B) i k j bp c ws g sv pv:=fun B=>h.frame bG (fun y hy=>ak hy)
 have Ht:∀B:cT,rF (I.push B) i j g sv pv:=fun B=>hL.frame bG (fun y hy=>ak hy)
 have hi:=h.hi
 have hg:=h.hg
 have hk:=h.hk
 by_cases g1:g.pc≤8
 ·have e:=GP h ⟨J,g1⟩
  have hc:g.pc=1∨g.pc=2∨g.pc=3∨g.pc=4∨g.pc=5∨g.pc=6∨g.pc=7∨g.pc=8:=J
  rcases hc with q|q|q|q|q|q|q|q
  all_goals
   simp+contextual (maxSteps:=1000000) (disch:=first|exact dB|fail) [go_sem,int_lt,-Int.not_le,-Int.not_lt,-List.map_set,hg,q]
   (repeat refine Alt.mk ?_)
   refine aw (Nc _ i k j bp c ws g sv pv (fr _) (Ht _) ⟨J,g1⟩) ?_
   rintro x R hn ⟨rfl,hx⟩
   have f2:GG (.int .i64 (cx c ws g).ev) R:=f _ e _ R hx
   clear f hx e h hL fr Ht
   generalize(cx c ws g).ev=E at f2⊢
   simp+contextual (maxSteps:=1000000) (disch:=first|exact dB|fail) [go_sem,int_lt,-Int.not_le,-Int.not_lt,-List.map_set]
   (repeat refine Alt.mk ?_)
   exact f2
 by_cases g2:g.pc≤12
 ·have e:=DX (c:=c) (ws:=ws) ⟨J,g2⟩
  have hc:g.pc=9∨g.pc=10∨g.pc=11∨g.pc=12:=J
  rcases hc with q|q|q|q
  all_goals
   simp+contextual (maxSteps:=1000000) (disch:=first|exact dB|fail) [go_sem,int_lt,-Int.not_le,-Int.not_lt,-List.map_set,hg,q]
   (repeat refine Alt.mk ?_)
   refine aw (JS _ i k j bp c ws g sv pv (fr _) (Ht _) ⟨J,g2⟩) ?_
   rintro x R hn ⟨rfl,hx⟩
   have f2:=f _ e _ R hx
   clear f hx e h hL fr Ht
   generalize(jX c ws g).ev=E at f2⊢
   simp+contextual (maxSteps:=1000000) (disch:=first|exact dB|fail) [go_sem,int_lt,-Int.not_le,-Int.not_lt,-List.map_set]
   (repeat refine Alt.mk ?_)
   exact f2
 by_cases g3:16≤g.pc∧g.pc≤21
 ·have e:=AU h g3
  have hc:g.pc=16∨g.pc=17∨g.pc=18∨g.pc=19∨g.pc=20∨g.pc=21:=J
  rcases hc with q|q|q|q|q|q
  all_goals
   simp+contextual (maxSteps:=1000000) (disch:=first|exact dB|fail) [go_sem,int_lt,-Int.not_le,-Int.not_lt,-List.map_set,hg,q]
   (repeat refine Alt.mk ?_)
   refine aw (Gv _ i k j bp c ws g sv pv (fr _) (Ht _) g3) ?_
   rintro x R hn ⟨rfl,hx⟩
   have f2:GG (.int .i64 (watch c ws g).ev) R:=f _ e _ R hx
   clear f hx e h hL fr Ht
   generalize(watch c ws g).ev=E at f2⊢
   simp+contextual (maxSteps:=1000000) (disch:=first|exact dB|fail) [go_sem,int_lt,-Int.not_le,-Int.not_lt,-List.map_set]
   (repeat refine Alt.mk ?_)
   exact f2
 have g4:(13≤g.pc∧g.pc≤15)∨(22≤g.pc∧g.pc≤26):=J
 have e:=AW h g4
 have hc:g.pc=13∨g.pc=14∨g.pc=15∨g.pc=22∨g.pc=23∨g.pc=24∨g.pc=25∨g.pc=26:=J
 rcases hc with q|q|q|q|q|q|q|q
 all_goals
  simp+contextual (maxSteps:=1000000) (disch:=first|exact dB|fail) [go_sem,int_lt,-Int.not_le,-Int.not_lt,-List.map_set,hg,q]
  (repeat refine Alt.mk ?_)
  refine aw (QV _ i k j bp c ws g sv pv (fr _) (Ht _) g4) ?_
  rintro x R hn ⟨rfl,hx⟩
  have f2:GG (.int .i64 (write c ws g).ev) R:=f _ e _ R hx
  clear f hx e h hL fr Ht
  generalize(write c ws g).ev=E at f2⊢
  simp+contextual (maxSteps:=1000000) (disch:=first|exact dB|fail) [go_sem,int_lt,-Int.not_le,-Int.not_lt,-List.map_set]
  (repeat refine Alt.mk ?_)
  exact f2
theorem Al(I:af)(i k j:Nat)(bp:List U)(c:aM)(ws:List Int)(g:ag)(sv pv:U)(h:cZ I i k j bp c ws g sv pv)(hL:rF I i j g sv pv):
 Fn Tryz.prog 88 [cV c.am c.ah c.bH,.sl j 0 ws.length 1,.ptr i k] I fun x R=>x= .int .i64 (ib c ws g).ev∧fV I R i k j bp (ib c ws g) sv pv:=by
 generalize hG:(fun(x:U) (R:af)=>x= .int .i64 (ib c ws g).ev∧fV I R i k j bp (ib c ws g) sv pv)=GG
 refine bA aZ mixed Tryz.func88 (by kernel_rfl) rfl (by kernel_rfl) ?_
 have f:∀(o:SO),ib c ws g=o→∀B R,fV (I.push B) R i k j bp o sv pv→GG (.int .i64 o.ev) R:=fun o h B R h1=>by
  rw[←hG]
  simp only[h]
  exact⟨trivial,h1.from bG (fun y hy=>ak hy)⟩
 clear hG
 have fr:∀B:cT,cZ (I.push B) i k j bp c ws g sv pv:=fun B=>h.frame bG (fun y hy=>ak hy)
 have Ht:∀B:cT,rF (I.push B) i j g sv pv:=fun B=>hL.frame bG (fun y hy=>ak hy)
 have hi:=h.hi
 have hg:=h.hg
 have hk:=h.hk
 have ll:∀B:cT,fV (I.push B) (I.push B) i k j bp ⟨ws,g,0⟩ sv pv:=fun B=>fV.same (Ht B) rfl rfl (fr B).hg (fr B).hw (fun _ _ _ _=>rfl) (Nat.le_refl _)
 cases hu:g.up with
 |false=>
  have f2:=fun B=>f ⟨ws,g,0⟩ (by unfold ib;rw[if_pos (.inl hu)]) B _ (ll B)
  clear f ll
  simp+contextual (maxSteps:=1000000) (disch:=first|exact dB|fail) [go_sem,int_lt,-Int.not_le,-Int.not_lt,-List.map_set,hg,hu]
  (repeat refine Alt.mk ?_)
  exact f2 _
 |true=>
  cases hb:g.busy with
  |false=>
   have f2:=fun B=>f ⟨ws,g,0⟩ (by unfold ib;rw[if_pos (.inr hb)]) B _ (ll B)
   clear f ll
   simp+contextual (maxSteps:=1000000) (disch:=first|exact dB|fail) [go_sem,int_lt,-Int.not_le,-Int.not_lt,-List.map_set,hg,hu,hb]
   (repeat refine Alt.mk ?_)
   exact f2 _
  |true=>
   have hp:g.pc≠0:=h.ok.2.1.1 hb
   have e:ib c ws g=cW c ws g:=by unfold ib;rw[if_neg (by rw[hu,hb];simp)]
   clear ll
   simp+contextual (maxSteps:=1000000) (disch:=first|exact dB|fail) [go_sem,int_lt,-Int.not_le,-Int.not_lt,-List.map_set,hg,hu,hb]
   (repeat refine Alt.mk ?_)
   refine aw (Nf _ i k j bp c ws g sv pv (fr _) (Ht _) hp) ?_
   rintro x R hn ⟨rfl,hx⟩
   have f2:=f _ e _ R hx
   clear f hx e h hL fr Ht
   generalize(cW c ws g).ev=E at f2⊢
   simp+contextual (maxSteps:=1000000) (disch:=first|exact dB|fail) [go_sem,int_lt,-Int.not_le,-Int.not_lt,-List.map_set]
   (repeat refine Alt.mk ?_)
   exact f2
end AH
namespace AH
open Go Go.Proofs Ho
set_option maxRecDepth 20000
set_option maxHeartbeats 16000000
theorem mF.any{n0:Nat}{R:af}{v:U}{xs:List Int}(h:mF n0 R v xs):mF 0 R v xs:=h.low (Nat.zero_le _)
theorem tH(I:af)(v:U)(l:List Int)(hv:bu .u64 I v l)(hl:(l.length:Int)≤1000000):
 Fn Tryz.prog 86 [v] I fun x R=>∃v',x=v'∧mF I.n R v' l∧∀y,y<I.n→R.get y=I.get y:=by
 by_cases hn:v= .al
 ·subst hn
  have Jv:l=[]:=by
   rcases hv.ex with⟨_,h⟩|⟨_,_,h,_⟩
   ·exact h
   ·cases h
  refine(l_ I).use ?_
  rintro x R _ ⟨rfl,rfl⟩
  exact⟨_,rfl,.inl ⟨rfl,Jv⟩,fun y _=>rfl⟩
 ·refine(oN I v l hv hn hl).use ?_
  rintro x R _ ⟨q,rfl,a1,a2,a3,a4⟩
  exact⟨_,rfl,.inr ⟨q,rfl,a1,a2,a3⟩,a4⟩
structure Ti(I R:af)(g:ag)(sv pv:U):Prop where
 s:mF I.n R sv g.snap
 p:mF I.n R pv g.ax
 ap:Th sv pv
 fr:∀y,y<I.n→R.get y=I.get y
theorem Gr(I:af)(g:ag)(sv pv:U)(hs:bu .u64 I sv g.snap)(hp:bu .u64 I pv g.ax)(h1:(g.snap.length:Int)≤1000000)(h2:(g.ax.length:Int)≤1000000):
 Fn Tryz.prog 87 [.agg (gV g sv pv)] I fun x R=>∃dS dg,x= .agg (gV g dS dg)∧Ti I R g dS dg:=by
 generalize hG:(fun(x:U) (R:af)=>∃dS dg,x=U.agg (gV g dS dg)∧Ti I R g dS dg)=GG
 have i1:=hs.aQ
 have i2:=hp.aQ
 refine bA rl mixed Tryz.func87 (by kernel_rfl) rfl (by kernel_rfl) ?_
 simp+contextual (maxSteps:=1000000) (disch:=first|exact dB|fail) [go_sem,int_lt,-Int.not_le,-Int.not_lt,-List.map_set,rl]
 (repeat refine Alt.mk ?_)
 refine bb (fun σ1=>σ1.n=I.n+1+1∧(∀y,y<I.n→σ1.get y=I.get y)∧σ1.get I.n=some ⟨gV g sv pv,true⟩∧σ1.get (I.n+1)=some ⟨gV ag.zero .al .al,true⟩) ?_ ?_
 ·exact⟨by simp only[au,az],fp,aI,aI⟩
 rintro σ1 ⟨x1,x2,x3,x4⟩
 have qE:=hs.frame (R:=σ1) J x2
 have nK:=hp.frame (R:=σ1) J x2
 refine aw (tH σ1 sv g.snap qE h1) ?_
 rintro dS R hn ⟨_,rfl,a1,a4⟩
 have y3:=(a4 _ J).trans x3
 have y4:=(a4 _ J).trans x4
 have kM:=nK.frame (R:=R) J a4
 have a2:=a1.v.aQ
 simp+contextual (maxSteps:=1000000) (disch:=first|exact dB|fail) [go_sem,int_lt,-Int.not_le,-Int.not_lt,-List.map_set,rl,y3,y4]
 (repeat refine Alt.mk ?_)
 refine aw (tH R pv g.ax kM h2) ?_
 rintro dg τ2 fz ⟨_,rfl,b1,b4⟩
 have z3:=(b4 _ J).trans y3
 have z4:=(b4 _ J).trans y4
 have b2:=b1.v.aQ
 simp+contextual (maxSteps:=1000000) (disch:=first|exact dB|fail) [go_sem,int_lt,-Int.not_le,-Int.not_lt,-List.map_set,rl,z3,z4]
 (repeat refine Alt.mk ?_)
 refine⟨y3.symm,?_⟩
 rw[←hG]
 have k1:∀(X Y:cT) (y:Nat),σ1.n≤y→((τ2.set I.n X).set (I.n+1) Y).get y=τ2.get y:=fun X Y y hy=>by rw[ai J,ai J]
 refine⟨dS,dg,rfl,?_,?_,?_,?_⟩
 ·refine(a1.low (n0:=I.n) J).frame bj fun q1 q2 q3=>?_
  have:=a1.lt.resolve_left q1
  rw[ai J,ai J,b4 _ q3]
 ·refine(b1.low (n0:=I.n) J).frame bj fun q1 q2 q3=>?_
  have:=b1.lt.resolve_left q1
  rw[ai J,ai J]
 ·rcases a1.lt with h|h
  ·exact .inl h
  ·rcases b1.lt with h'|h'
   ·exact .inr (.inl h')
   ·exact .inr (.inr J)
 ·intro y hy
  rw[ai J,ai J,b4 y J,a4 y J,x2 y hy]
theorem F'{c:aM}{g:ag}(h:bW c g):fR c g:=by
 obtain⟨hc,hb,ho,hf,hp⟩:=h
 have cL:=hc
 unfold aM.ok at cL
 unfold fu aP at hf
 unfold fg aP at hp
 unfold fR aM.im
 have UC:g.busy=true→g.aH=g.slot:=fun h=>by
  rcases ho with h1|h1
  ·exact h1
  ·rw[h1]at h;cases h
 split at hp
 ·exact absurd hp id
 rename_i Gf
 have JD:g.own=true→g.pc=23∨g.pc=24∨g.pc=25:=fun h=>by
  by_cases h1:g.pc<23∨25<g.pc
  ·exact absurd ⟨h,h1⟩ Gf
  ·omega
 refine⟨hc,hb,UC,J,J,J,J,J,J,J,J,J,J,J,J,?_,?_,?_,?_,?_,JD⟩
 ·intro e;rw[if_pos e]at hp;omega
 ·intro e;rw[if_neg J,if_pos e]at hp;omega
 ·intro e;rw[if_neg J,if_neg J,if_neg J,if_pos e]at hp;exact hp
 ·intro e
  rw[if_neg J,if_neg J,if_neg J,if_neg J,if_pos J]at hp
  refine⟨⟨hp.1,hp.2.1⟩,fun h=>?_,J,hp.2.2.1⟩
  rcases hp.2.2.2 with h1|h1
  ·rw[h1]at h;cases h
  ·exact h1
 ·intro e;rw[if_neg J,if_neg J,if_pos e]at hp;omega
theorem ub(l m:List U)(h:m.length=l.length):aB l 0 m=m:=by
 unfold aB
 simp[h]
theorem F8{B:Int}{ws:List Int}{g:ag}(hB:1≤B)(hg:GW B g)(hW:∀w∈ws,ci w)(h:(check ws).2=true∧bW (check ws).1 g):H3 (B+1) ws (ib (check ws).1 ws g):=by
 obtain⟨⟨r1,r2⟩,⟨r3,r4⟩,r5,r6⟩:=fG ws
 have hI:=hg.ok h.2
 unfold ib
 split
 ·exact⟨hI.le J,hW,rfl⟩
 ·exact yp hB hI hW J
theorem vV(I:af)(j:Nat)(ws:List Int)(g:ag)(sv pv:U)(B:Int)(hB:1≤B∧B≤800000)(hj:j<I.n)(hw:I.get j=some ⟨ws.map (.int .u64),true⟩)(hW:∀w∈ws,ci w)(Dh:(ws.length:Int)≤1000000)(hs:bu .u64 I sv g.snap)(hp:bu .u64 I pv g.ax)(hg:GW B g):
 Fn Tryz.prog 27 [.sl j 0 ws.length 1,.agg (gV g sv pv)] I fun x R=>RM I R (fe ws g) x:=by
 generalize hG:(fun(x:U) (R:af)=>RM I R (fe ws g) x)=GG
 have i1:=hs.aQ
 have i2:=hp.aQ
 have h1:(g.snap.length:Int)≤1000000:=by have:=hg.snap;omega
 have h2:(g.ax.length:Int)≤1000000:=by have:=hg.ax;omega
 have ct:0≤g.count∧g.count<100000000:=by have:=hg.count;omega
 obtain⟨⟨r1,r2⟩,⟨r3,r4⟩,r5,r6⟩:=fG ws
 refine bA nr mixed Tryz.func27 (by kernel_rfl) rfl (by kernel_rfl) ?_
 have f:∀(x:U) (R:af),RM I R (fe ws g) x→GG x R:=fun x R h=>by rw[←hG];exact h
 clear hG
 obtain⟨⟨C,ok⟩,hC⟩:∃C,check ws=C:=⟨_,rfl⟩
 simp+contextual (maxSteps:=1000000) (disch:=first|exact dB|fail) [go_sem,int_lt,-Int.not_le,-Int.not_lt,-List.map_set,nr]
 (repeat refine Alt.mk ?_)
 refine bb (fun σ1=>σ1.n=I.n+1+1+1∧(∀y,y<I.n→σ1.get y=I.get y)∧σ1.get I.n=some ⟨gV g sv pv,true⟩∧σ1.get (I.n+1)=some ⟨gV ag.zero .al .al,true⟩∧σ1.get (I.n+1+1)=none) ?_ ?_
 ·exact⟨by simp only[au,dw],fun y hy=>by rw[ef bG,ak bG,ak hy],by rw[ef bG];(first|exact bn|fail),by rw[ef bG];simp only[ag.zero];(first|exact bn|fail),by rw[kC,if_pos];simp only[au];omega⟩
 rintro σ1 ⟨m1,m2,m3,m4,m5⟩
 refine aw (oN σ1 _ ws ((bf hj hw rfl).frame J m2) aV Dh) ?_
 rintro x R hn ⟨q,rfl,a1,a2,a3,a4⟩
 have n3:=(a4 _ J).trans m3
 have n4:=(a4 _ J).trans m4
 have n5:=(a4 _ J).trans m5
 have qE:=(hs.frame (R:=σ1) J m2).frame (R:=R) hn a4
 have nK:=(hp.frame (R:=σ1) J m2).frame (R:=R) hn a4
 simp only[gV,ag.zero]at n4
 simp+contextual (maxSteps:=1000000) (disch:=first|exact dB|fail) [go_sem,int_lt,-Int.not_le,-Int.not_lt,-List.map_set,nr,n3,n4,n5]
 (repeat refine Alt.mk ?_)
 refine aw (Gr R g sv pv qE nK h1 h2) ?_
 rintro x τ2 fz ⟨dS,dg,rfl,hR⟩
 have j1:=hR.s.v.aQ
 have j2:=hR.p.v.aQ
 have v3:=(hR.fr _ J).trans n3
 have v4:=(hR.fr _ J).trans n4
 have v5:=(hR.fr _ J).trans n5
 have o1:=pO j1
 have o2:=pO j2
 unfold U.one at o1 o2
 have vq:=(hR.fr _ a2).trans a3
 have vw:τ2.get j=some ⟨ws.map (.int .u64),true⟩:=(hR.fr _ J).trans ((a4 _ J).trans ((m2 _ hj).trans hw))
 have vj:j<τ2.n:=J
 have Dq:=qE.frame (R:=τ2) fz hR.fr
 have kM:=nK.frame (R:=τ2) fz hR.fr
 have kp:∀(X Y Z:cT) (y:Nat),y<τ2.n→y≠I.n+1→y≠I.n+1+1→(((τ2.set (I.n+1+1) X).set (I.n+1) Y).push Z).get y=τ2.get y:=fun X Y Z y h1 h2 h3=>by rw[ak bj,ai h2,ai h3]
 have l1:=Dq.kB
 have l2:=kM.kB
 rw[hC]at r1 r2 r3 r4 r5 r6
 simp only at r1 r2 r3 r4 r5 r6
 have PS:∀y,y<I.n→τ2.get y=I.get y:=fun y hy=>(hR.fr y J).trans ((a4 y J).trans (m2 y hy))
 cases ok with
 |false=>
  have e:fe ws g=⟨ws,g,0⟩:=by unfold fe;rw[hC,if_neg aV]
  rw[e]at f
  clear a3 a4 n4 m2 m3 m4
  simp+contextual (maxSteps:=1000000) (disch:=first|exact dB|fail) [go_sem,int_lt,-Int.not_le,-Int.not_lt,-List.map_set,nr,v3,v4,v5,hC]
  rw[if_pos ⟨o1,o2⟩]
  simp+contextual (maxSteps:=1000000) (disch:=first|exact dB|fail) [go_sem,int_lt,-Int.not_le,-Int.not_lt,-List.map_set,nr,v3,v4,v5,hC]
  (repeat refine Alt.mk ?_)
  refine⟨n3.symm,by rw[kC,if_pos bG];exact n5.symm,n5,?_⟩
  (repeat refine Alt.mk ?_)
  refine f _ _ ⟨⟨q,dS,dg,rfl,J,by simp only[au,az];omega,(kp _ _ _ q J J J).trans vq,(hR.s.frame bc fun h1 h2 h3=>kp _ _ _ _ h3 J J).v,(hR.p.frame bc fun h1 h2 h3=>kp _ _ _ _ h3 J J).v⟩,fun y hy=>?_⟩
  rw[kp _ _ _ y J J J];exact PS y hy
 |true=>
  by_cases hP:bW C g
  rotate_left
  ·have e:fe ws g=⟨ws,g,0⟩:=by unfold fe;rw[hC,if_neg (fun h=>hP h.2)]
   rw[e]at f
   clear a3 a4 n4 m2 m3 m4
   simp+contextual (maxSteps:=1000000) (disch:=first|exact dB|fail) [go_sem,int_lt,-Int.not_le,-Int.not_lt,-List.map_set,nr,v3,v4,v5,hC,hP]
   rw[if_pos ⟨o1,o2⟩]
   simp+contextual (maxSteps:=1000000) (disch:=first|exact dB|fail) [go_sem,int_lt,-Int.not_le,-Int.not_lt,-List.map_set,nr,v3,v4,v5,hC,hP]
   (repeat refine Alt.mk ?_)
   refine⟨n3.symm,by rw[kC,if_pos bG];exact n5.symm,n5,?_⟩
   (repeat refine Alt.mk ?_)
   refine f _ _ ⟨⟨q,dS,dg,rfl,J,by simp only[au,az];omega,(kp _ _ _ q J J J).trans vq,(hR.s.frame bc fun h1 h2 h3=>kp _ _ _ _ h3 J J).v,(hR.p.frame bc fun h1 h2 h3=>kp _ _ _ _ h3 J J).v⟩,fun y hy=>?_⟩
   rw[kp _ _ _ y J J J];exact PS y hy
  have e:fe ws g=ib C ws g:=by unfold fe;rw[hC,if_pos ⟨rfl,hP⟩]
  have L6:=F8 hB.1 hg hW (by rw[hC];exact⟨rfl,hP⟩)
  have uB:=lR (ws:=ws) (by rw[hC])
  rw[hC]at L6 uB
  simp only at L6 uB
  rw[e]at f
  clear a3 a4 n4 m2 m3 m4
  simp+contextual (maxSteps:=1000000) (disch:=first|exact dB|fail) [go_sem,int_lt,-Int.not_le,-Int.not_lt,-List.map_set,nr,v3,v4,v5,hC,hP]
  rw[if_pos ⟨o1,o2⟩]
  simp+contextual (maxSteps:=1000000) (disch:=first|exact dB|fail) [go_sem,int_lt,-Int.not_le,-Int.not_lt,-List.map_set,nr,v3,v4,v5,hC,hP]
  (repeat refine Alt.mk ?_)
  refine⟨n3.symm,by rw[kC,if_pos bG];exact n5.symm,n5,?_⟩
  (repeat refine Alt.mk ?_)
  refine bb (fun σ3=>σ3.n=τ2.n+1∧(∀y,y<τ2.n→NE y (I.n+1+1)→σ3.get y=τ2.get y)∧σ3.get (I.n+1+1)=some ⟨gV g dS dg,true⟩) ?_ ?_
  ·exact⟨by simp only[au,az],sV,aI⟩
  rintro σ3 ⟨p1,p2,p3⟩
  have UJ:=hR.s.lt
  have vP:=hR.p.lt
  have nz:∀y,I.n+1+1<y→NE y (I.n+1+1):=fun y hy=>by simp only[NE];omega
  have nq:q≠I.n+1+1:=J
  have hA:cZ σ3 (I.n+1+1) 0 q (gV g dS dg) C ws g dS dg:=⟨J,J,Ne.symm nq,aV,by rw[p3,ub _ _ rfl],(p2 _ J nq).trans vq,hW,uB.2,uB.1,⟨hg.bw,hg.door,hg.aT,hg.entry,hg.E7,hg.KD⟩,F' hP,ct⟩
  have hL:rF σ3 (I.n+1+1) q g dS dg:=⟨(hR.s.any).frame J fun h1 _ h=>p2 _ h (nz _ (by have:=UJ.resolve_left h1;omega)),(hR.p.any).frame J fun h1 _ h=>p2 _ h (nz _ (by have:=vP.resolve_left h1;omega)),UJ.elim .inr fun h=> .inl J,UJ.elim .inr fun h=> .inl J,vP.elim .inr fun h=> .inl J,vP.elim .inr fun h=> .inl J,hR.ap⟩
  refine aw (Al σ3 (I.n+1+1) 0 q (gV g dS dg) C ws g dS dg hA hL) ?_
  rintro x τ4 Qx ⟨rfl,VA,Vv,t1,t2,t3,t4,t5,t6,t7,t8,t9⟩
  rw[ub (gV g dS dg) (iG (ib C ws g).g VA Vv) rfl]at t1
  have s1:=L6.g.snap
  have s2:=L6.g.ax
  have s3:=L6.l
  generalize ib C ws g=O at*
  have k1:=t3.v.aQ
  have k2:=t4.v.aQ
  have w4:τ4.get (I.n+1)=_:=(t8 _ J aD aD (UJ.elim .inr fun h=> .inl J)).trans ((p2 _ J aD).trans v4)
  simp+contextual (maxSteps:=1000000) (disch:=first|exact dB|fail) [go_sem,int_lt,-Int.not_le,-Int.not_lt,-List.map_set,nr,t1,w4]
  (repeat refine Alt.mk ?_)
  refine aw (JR τ4 O.g VA Vv t3.v t4.v J J) ?_
  rintro x τ5 Uy ⟨sv3,pv3,rfl,b1,b2,b3,b4,b5,b6,b7⟩
  have w5:=(b7 _ J).trans w4
  simp+contextual (maxSteps:=1000000) (disch:=first|exact dB|fail) [go_sem,int_lt,-Int.not_le,-Int.not_lt,-List.map_set,nr,w5]
  (repeat refine Alt.mk ?_)
  have c5:∀y,y<I.n→τ5.get y=I.get y:=fun y hy=>by
   rw[b7 y J,t8 y J aD aD (UJ.elim .inr fun h=> .inl J),p2 y J aD,PS y hy]
  rw[←s3]
  refine f _ _ ⟨⟨q,sv3,pv3,rfl,J,bj,?_,b1.set (b5.imp (fun h=>by omega) id),b2.set (b6.imp (fun h=>by omega) id)⟩,fun y hy=>?_⟩
  ·rw[ai J,b7 _ J];exact t2
  ·rw[ai J];exact c5 y hy
end AH
