import Derived.Test.YtagihpbpblnnoaaGreatZ39
import Derived.Test.YtagihpbpblnnoaaGreatZ15
import Derived.Test.YtagihpbpblnnoaaGreatZ00
set_option linter.all false
namespace AH
open Go Go.Proofs Ho
set_option maxRecDepth 20000
set_option maxHeartbeats 4000000
noncomputable def ib(c:aM)(ws:List Int)(g:ag):SO:=if g.up=false∨g.busy=false then⟨ws,g,0⟩else cW c ws g
noncomputable def fe(ws:List Int)(g:ag):SO:=if(check ws).2=true∧bW (check ws).1 g then ib (check ws).1 ws g else⟨ws,g,0⟩
theorem lR{ws:List Int}(h:(check ws).2=true):(check ws).1.ok∧(ws.length:Int)=(check ws).1.size:=by
 unfold check whole at h⊢
 split at h
 ·cases h
 ·rename_i h0
  rw[if_neg h0]
  dsimp only at h⊢
  split at h
  ·rename_i h2
   rw[if_pos h2]
   exact⟨h2.1,h2.2.2⟩
  ·cases h
structure RM(I R:af)(o:SO)(x:U):Prop where
 ex:∃q dS dg,x= .cw [.sl q 0 o.ws.length 1,.agg (gV o.g dS dg),.int .i64 o.ev]∧I.n≤q∧q<R.n∧R.get q=some ⟨o.ws.map (.int .u64),true⟩∧bu .u64 R dS o.g.snap∧bu .u64 R dg o.g.ax
 fr:∀y,y<I.n→R.get y=I.get y
end AH
namespace AH
open Go Go.Proofs Ho
set_option maxRecDepth 20000
set_option maxHeartbeats 16000000
theorem wJ(I:af)(j:Nat)(ws:List Int)(g:ag)(sv pv:U)(B:Int)(hB:1≤B∧B≤800000)(hj:j<I.n)(hw:I.get j=some ⟨ws.map (.int .u64),true⟩)(hW:∀w∈ws,ci w)(Dh:(ws.length:Int)≤1000000)(hs:bu .u64 I sv g.snap)(hp:bu .u64 I pv g.ax)(hg:GW B g):
 Fn Tryz.prog 28 [.sl j 0 ws.length 1,.agg (gV g sv pv)] I fun x R=>RM I R (fe ws g) x:=by
 generalize hG:(fun(x:U) (R:af)=>RM I R (fe ws g) x)=GG
 have i1:=hs.aQ
 have i2:=hp.aQ
 have h1:(g.snap.length:Int)≤1000000:=by have:=hg.snap;omega
 have h2:(g.ax.length:Int)≤1000000:=by have:=hg.ax;omega
 have l1:=hs.kB
 have l2:=hp.kB
 have hv:=bf hj hw rfl
 obtain⟨⟨r1,r2⟩,⟨r3,r4⟩,r5,r6⟩:=fG ws
 refine bA E0 mixed Tryz.func28 (by kernel_rfl) rfl (by kernel_rfl) ?_
 have f:∀(x:U) (R:af),RM I R (fe ws g) x→GG x R:=fun x R h=>by rw[←hG];exact h
 clear hG
 obtain⟨⟨C,ok⟩,hC⟩:∃C,check ws=C:=⟨_,rfl⟩
 rw[hC]at r1 r2 r3 r4 r5 r6
 simp only at r1 r2 r3 r4 r5 r6
 have ag8:ws.length≤1000000:=J
 have eN:ok=false∨¬bW C g∨g.up=false∨g.busy=false→fe ws g=⟨ws,g,0⟩:=by
  intro hh
  unfold fe ib
  rw[hC]
  simp only
  split
  ·rename_i h
   rw[if_pos]
   rcases hh with hh|hh|hh|hh
   ·rw[hh]at h;exact absurd h.1 aV
   ·exact absurd h.2 hh
   ·exact .inl hh
   ·exact .inr hh
  ·rfl
 simp+contextual (maxSteps:=1000000) (disch:=first|exact dB|fail) [go_sem,int_lt,-Int.not_le,-Int.not_lt,-List.map_set,E0,hC]
 (repeat refine Alt.mk ?_)
 refine⟨fun hh=>Alt.mk ?_,fun k1 k2 k3 k4=>?_⟩
 ·have e:=eN hh
  intro R a b a1 a2 a3 a4 a5 a6 a7 a8 a9
  refine f _ _ ?_
  rw[e]
  refine⟨⟨I.n+1+1+1+1,.sl a 0 g.snap.length 1,.sl b 0 g.ax.length 1,rfl,J,bj,?_,bu.own bj (by rw[ai J];exact a7),bu.own bj (by rw[ai J];exact a8)⟩,fun y hy=>?_⟩
  ·rw[ai J,a9 _ J,if_pos rfl]
  ·rw[ai J,a9 _ J]
   simp only[show ¬y=I.n+1+1+1+1 by omega,show ¬y=I.n+1+1+1 by omega,show ¬y=I.n+1+1 by omega,show ¬y=I.n+1 by omega,show ¬y=I.n by omega,if_false]
 ·subst k1
  have hI:GI B g:=hg.ok k2
  refine bb (fun σ1=>σ1.n=I.n+1+1+1+1+1∧(∀y,y<I.n→σ1.get y=I.get y)∧σ1.get (I.n+1+1+1+1)=some ⟨ws.map (.int .u64),true⟩∧σ1.get (I.n+1)=some ⟨gV ag.zero .al .al,true⟩∧σ1.get I.n=some ⟨gV g sv pv,true⟩∧σ1.get (I.n+1+1)=some ⟨[.int .i64 C.am,.int .i64 C.ah,.int .i64 C.bH],true⟩) ?_ ?_
  ·exact⟨by simp only[au,az,aR],fp,aI,by simp only[ag.zero];(first|exact bn|fail),aI,aI⟩
  rintro σ1 ⟨m1,m2,m3,m4,m5,m6⟩
  have hS:=Bo σ1 g sv pv (hs.frame J m2) (hp.frame J m2) h1 h2
  simp only[gV,k3,k4]at hS
  refine aw hS ?_
  rintro x R hn ⟨⟨a,b⟩,rfl,q1,q2,q3,q4,q5,q6⟩
  simp only at q1 q2 q3 q4 q5 q6
  have n3:=(q6 _ J).trans m3
  have n4:=(q6 _ J).trans m4
  have n6:=(q6 _ J).trans m6
  simp only[gV,ag.zero]at n4
  simp+contextual (maxSteps:=1000000) (disch:=first|exact dB|fail) [go_sem,int_lt,-Int.not_le,-Int.not_lt,-List.map_set,E0,n3,n4,n6]
  (repeat refine Alt.mk ?_)
  have hX:=Bl R (I.n+1+1+1+1) C ws g (.sl a 0 g.snap.length 1) (.sl b 0 g.ax.length 1) B J hI J n3 hW Dh (bu.own J q4) (bu.own J q5) (.inl il) (.inl il) J (hI.busy k4)
  simp only[gV,k3,k4]at hX
  refine aw hX ?_
  rintro x τ2 fz ⟨dS,dg,rfl,y1,y2,y3,y4⟩
  have e:fe ws g=cW C ws g:=by
   unfold fe ib
   rw[hC]
   simp only
   rw[if_pos ⟨trivial,k2⟩,if_neg (by rw[k3,k4];simp)]
  rw[e]at f
  have v4:=(y2 _ J aD).trans n4
  have z1:=y3.aQ (kO _ _ _ _)
  have z2:=y4.aQ (kO _ _ _ _)
  generalize cW C ws g=O at*
  simp+contextual (maxSteps:=1000000) (disch:=first|exact dB|fail) [go_sem,int_lt,-Int.not_le,-Int.not_lt,-List.map_set,E0,v4]
  (repeat refine Alt.mk ?_)
  refine⟨n6.symm,f _ _ ?_⟩
  have L:∀(d:Nat) (v':U) (l l':List Int) (X:cT),NV R.n τ2 (.sl d 0 l.length 1) v' l l'→σ1.n≤d→d<R.n→R.get d=some ⟨l.map (.int .u64),true⟩→bu .u64 (τ2.set (I.n+1) X) v' l':=by
   intro d v' l l' X h1 h2 h3 h4
   rcases h1 with⟨rfl,rfl⟩|⟨h1,h5⟩
   ·exact bu.own bj (by rw[ai J,y2 _ h3 aD];exact h4)
   ·exact h1.set (h5.imp (fun h=>by omega) id)
  refine⟨⟨I.n+1+1+1+1,dS,dg,rfl,J,bj,?_,L _ _ _ _ _ y3 q1.1 q1.2 q4,L _ _ _ _ _ y4 q2.1 q2.2 q5⟩,fun y hy=>?_⟩
  ·rw[ai J];exact y1
  ·rw[ai J,y2 y J aD,q6 y J,m2 y hy]
end AH
namespace AH
open Go Go.Proofs Ho
set_option maxRecDepth 20000
set_option maxHeartbeats 16000000
theorem Eg(I:af)(lo:Nat)(B:Int)(j:Nat)(v:U)(gb:Nat)(ws:List Int)(gs:List (ag×U×U))(h:gm I lo B j v gb ws gs)(i:Nat)(bv:U)(bs:List Int)(p:Int)(hr:Rd I i bv bs p)(uU:i<lo)(hp:p≤999999000)(s:Int)(hs:0≤s∧s≤100):
 Fn Tryz.prog 162 [.ptr i 0,.agg [.sl j 0 ws.length 1,v],.int .i64 s] I fun x R=>OB I i bv bs p x R:=by
 generalize hG:(fun(x:U) (R:af)=>OB I i bv bs p x R)=GG
 have fin:∀(R:af) (k w n o a b q:Int),p≤q→q≤p+60→I.n≤R.n→R.get i=some ⟨[bv,.int .i64 q],true⟩→(∀y,y<I.n→NE y i→R.get y=I.get y)→GG (.agg [.int .i64 k,.int .i64 w,.int .i64 n,.int .i64 o,.int .i64 a,.int .i64 b]) R:=by
  intro R k w n o a b q h1 h2 h3 h4 h5
  rw[←hG]
  exact OB.mk hr J k w n o a b q h1 h2 h3 h4 h5
 have iv:=h.aQ
 have hi:=hr.hi
 have zX:=hr.hp
 have hb:=hr.hb
 have lj:=h.lj
 have lg:=h.lg
 clear hG
 refine bA aZ mixed Tryz.func162 (by kernel_rfl) rfl (by kernel_rfl) ?_
 have pk:=fun(k n:Int) (hn:1≤n)=>dC (bs:=bs) (k:=k) (n:=n) hn
 cases h.hv with
 |none=>
  have ll:(0:Int)≤s:=hs.1
  simp+contextual (maxSteps:=1000000) (disch:=first|exact dB|fail) [go_sem,int_lt,-Int.not_le,-Int.not_lt,-List.map_set,ll]
  (repeat refine Alt.mk ?_)
  exact zD
 | @some gb m gs h0 h1 h2 h3 h4=>
   by_cases hm:(m:Int)≤s
   ·simp+contextual (maxSteps:=1000000) (disch:=first|exact dB|fail) [go_sem,int_lt,-Int.not_le,-Int.not_lt,-List.map_set,hm]
    (repeat refine Alt.mk ?_)
    exact zD
   ·obtain⟨sn,rfl⟩:∃sn:Nat,s=sn:=⟨s.toNat,J⟩
    have mr:sn<m:=J
    have Sr:(m:Int)≤6:=by have:=h.m6;omega
    have oM:¬m≤sn:=J
    obtain⟨⟨g,sv,pv⟩,hx⟩:∃x,gs[sn]? =some x:=⟨gs[sn]'(by omega),by simp[h0,mr]⟩
    have dU:=dr hx
    have hlen:sn*26+26≤(bJ gs).length:=by rw[dq];omega
    have oe:=h.G _ (List.mem_of_getElem? hx)
    have i1:=oe.s.aQ
    have i2:=oe.p.aQ
    obtain⟨K,hK⟩:∃K,cY bs p 8=K:=⟨_,rfl⟩
    have hKr:=pk p 8 J
    rw[hK]at hKr
    by_cases k0:K=0
    ·simp+contextual (maxSteps:=1000000) (disch:=first|exact dB|fail) [go_sem,int_lt,-Int.not_le,-Int.not_lt,-List.map_set,hm,mr,oM,h4,dU,hlen,hK,k0]
     (repeat refine Alt.mk ?_)
     exact zD
    by_cases k1:K=1
    ·simp+contextual (maxSteps:=1000000) (disch:=first|exact dB|fail) [go_sem,int_lt,-Int.not_le,-Int.not_lt,-List.map_set,hm,mr,oM,h4,dU,hlen,hK,k0,k1]
     (repeat refine Alt.mk ?_)
     exact zD
    obtain⟨ab,hR⟩:∃ab:Nat,cY bs (p+1) m=ab:=⟨(cY bs (p+1) m).toNat,by have:=pk (p+1) m J;omega⟩
    have rU:ab<m:=by have:=pk (p+1) m J;omega
    by_cases k2:(K=2∨K=3)∧g.busy=true
    ·obtain⟨k2,k3⟩:=k2
     rcases k2 with k2|k2
     ·simp+contextual (maxSteps:=1000000) (disch:=first|exact dB|fail) [go_sem,int_lt,-Int.not_le,-Int.not_lt,-List.map_set,hm,mr,oM,h4,dU,hlen,hK,k0,k1,k2,k3]
      repeat' (first|refine Alt.mk ?_|refine And.intro ?_ ?_|intro _)
      all_goals exact zD
     ·simp+contextual (maxSteps:=1000000) (disch:=first|exact dB|fail) [go_sem,int_lt,-Int.not_le,-Int.not_lt,-List.map_set,hm,mr,oM,h4,dU,hlen,hK,k0,k1,k2,k3]
      repeat' (first|refine Alt.mk ?_|refine And.intro ?_ ?_|intro _)
      all_goals exact zD
    have kK:¬m≤ab:=J
    obtain⟨⟨g2,VA,Vv⟩,hx2⟩:∃x,gs[ab]? =some x:=⟨gs[ab]'(by omega),by simp[h0,rU]⟩
    have vQ:=dr hx2
    have oh:ab*26+26≤(bJ gs).length:=by rw[dq];omega
    have PZ:=h.G _ (List.mem_of_getElem? hx2)
    have i3:=PZ.s.aQ
    have i4:=PZ.p.aQ
    obtain⟨R3,R'⟩:∃R3:Nat,((ab:Int)+1) % m=R3:=⟨(((ab:Int)+1) % m).toNat,by have:=Int.emod_nonneg ((ab:Int)+1) (show(m:Int)≠0 by omega);omega⟩
    have zS:((ab:Int)+1).tmod m=R3:=by rw[Int.tmod_eq_emod_of_nonneg J];exact R'
    have zR:R3<m:=by have:=Int.emod_lt_of_pos ((ab:Int)+1) (show(0:Int)<m by omega);omega
    have OS:¬m≤R3:=J
    obtain⟨⟨g3,sv3,pv3⟩,hx3⟩:∃x,gs[R3]? =some x:=⟨gs[R3]'(by omega),by simp[h0,zR]⟩
    have O9:=dr hx3
    have O2:R3*26+26≤(bJ gs).length:=by rw[dq];omega
    have P0:=h.G _ (List.mem_of_getElem? hx3)
    have i5:=P0.s.aQ
    have i6:=P0.p.aQ
    have k4:(K=2∧g.busy=false)∨(K=3∧g.busy=false)∨(¬K=2∧¬K=3):=by
     cases hq:g.busy with
     |false=>
      by_cases c2:K=2
      ·exact .inl ⟨c2,rfl⟩
      ·by_cases c3:K=3
       ·exact .inr (.inl ⟨c3,rfl⟩)
       ·exact .inr (.inr ⟨c2,c3⟩)
     |true=>exact .inr (.inr ⟨fun c=>k2 ⟨.inl c,hq⟩,fun c=>k2 ⟨.inr c,hq⟩⟩)
    clear k2 oe PZ P0 hx hx2 hx3
    rcases k4 with⟨k5,k8⟩|⟨k5,k8⟩|⟨k5,k6⟩
    ·by_cases k7:ab=sn
     ·subst k7
      simp+contextual (maxSteps:=1000000) (disch:=first|exact dB|fail) [go_sem,int_lt,-Int.not_le,-Int.not_lt,-List.map_set,hm,mr,oM,h4,dU,hlen,hK,k0,k1,hR,k5,k8]
      repeat' (first|refine Alt.mk ?_|refine And.intro ?_ ?_|intro _)
      all_goals exact oc
     ·have Pb:¬((ab:Int)=(sn:Int)):=J
      by_cases k9:g2.slot=g.slot
      ·simp+contextual (maxSteps:=1000000) (disch:=first|exact dB|fail) [go_sem,int_lt,-Int.not_le,-Int.not_lt,-List.map_set,hm,mr,oM,h4,dU,hlen,hK,k0,k1,hR,k5,k8,k7,Pb,vQ,oh,rU,kK,k9]
       repeat' (first|refine Alt.mk ?_|refine And.intro ?_ ?_|intro _)
       all_goals exact oc
      ·simp+contextual (maxSteps:=1000000) (disch:=first|exact dB|fail) [go_sem,int_lt,-Int.not_le,-Int.not_lt,-List.map_set,hm,mr,oM,h4,dU,hlen,hK,k0,k1,hR,k5,k8,k7,Pb,vQ,oh,rU,kK,k9]
       repeat' (first|refine Alt.mk ?_|refine And.intro ?_ ?_|intro _)
       all_goals exact oc
    ·by_cases k7:ab=sn
     ·subst k7
      simp+contextual (maxSteps:=1000000) (disch:=first|exact dB|fail) [go_sem,int_lt,-Int.not_le,-Int.not_lt,-List.map_set,hm,mr,oM,h4,dU,hlen,hK,k0,k1,hR,k5,k8]
      repeat' (first|refine Alt.mk ?_|refine And.intro ?_ ?_|intro _)
      all_goals exact oc
     ·have Pb:¬((ab:Int)=(sn:Int)):=J
      by_cases k9:g2.slot=g.slot
      ·simp+contextual (maxSteps:=1000000) (disch:=first|exact dB|fail) [go_sem,int_lt,-Int.not_le,-Int.not_lt,-List.map_set,hm,mr,oM,h4,dU,hlen,hK,k0,k1,hR,k5,k8,k7,Pb,vQ,oh,rU,kK,k9]
       repeat' (first|refine Alt.mk ?_|refine And.intro ?_ ?_|intro _)
       all_goals exact oc
      ·simp+contextual (maxSteps:=1000000) (disch:=first|exact dB|fail) [go_sem,int_lt,-Int.not_le,-Int.not_lt,-List.map_set,hm,mr,oM,h4,dU,hlen,hK,k0,k1,hR,k5,k8,k7,Pb,vQ,oh,rU,kK,k9]
       repeat' (first|refine Alt.mk ?_|refine And.intro ?_ ?_|intro _)
       all_goals exact oc
    ·by_cases k7:ab=sn
     ·subst k7
      cases k8:g.busy with
      |false=>
       simp+contextual (maxSteps:=1000000) (disch:=first|exact dB|fail) [go_sem,int_lt,-Int.not_le,-Int.not_lt,-List.map_set,hm,mr,oM,h4,dU,hlen,hK,k0,k1,hR,k5,k6,k8]
       repeat' (first|refine Alt.mk ?_|refine And.intro ?_ ?_|intro _)
       all_goals exact oc
      |true=>
       by_cases k9:g3.slot=g.slot
       ·simp+contextual (maxSteps:=1000000) (disch:=first|exact dB|fail) [go_sem,int_lt,-Int.not_le,-Int.not_lt,-List.map_set,hm,mr,oM,h4,dU,hlen,hK,k0,k1,hR,k5,k6,k8,zS,O9,O2,zR,OS,k9]
        repeat' (first|refine Alt.mk ?_|refine And.intro ?_ ?_|intro _)
        all_goals exact oc
       ·simp+contextual (maxSteps:=1000000) (disch:=first|exact dB|fail) [go_sem,int_lt,-Int.not_le,-Int.not_lt,-List.map_set,hm,mr,oM,h4,dU,hlen,hK,k0,k1,hR,k5,k6,k8,zS,O9,O2,zR,OS,k9]
        repeat' (first|refine Alt.mk ?_|refine And.intro ?_ ?_|intro _)
        all_goals exact oc
     ·have Pb:¬((ab:Int)=(sn:Int)):=J
      by_cases k9:g2.slot=g.slot
      ·simp+contextual (maxSteps:=1000000) (disch:=first|exact dB|fail) [go_sem,int_lt,-Int.not_le,-Int.not_lt,-List.map_set,hm,mr,oM,h4,dU,hlen,hK,k0,k1,hR,k5,k6,k7,Pb,vQ,oh,rU,kK,k9]
       repeat' (first|refine Alt.mk ?_|refine And.intro ?_ ?_|intro _)
       all_goals exact oc
      ·simp+contextual (maxSteps:=1000000) (disch:=first|exact dB|fail) [go_sem,int_lt,-Int.not_le,-Int.not_lt,-List.map_set,hm,mr,oM,h4,dU,hlen,hK,k0,k1,hR,k5,k6,k7,Pb,vQ,oh,rU,kK,k9]
       repeat' (first|refine Alt.mk ?_|refine And.intro ?_ ?_|intro _)
       all_goals exact oc
end AH
namespace AH
open Go Go.Proofs Ho
set_option maxRecDepth 20000
set_option maxHeartbeats 4000000
def w9(c:aM)(g:ag)(a:Int):Prop:=
 ((g.pc=3∨g.pc=7)∧a=3+c.am+g.slot)∨(g.pc=14∧bx c g.slot≤a∧a≤bx c g.slot+20)∨(g.pc=8∧a=3+g.slot)∨
 ((g.pc=12∨g.pc=19)∧3≤a∧a<3+c.am)∨((g.pc=10∨g.pc=15∨g.pc=20∨g.pc=25∨g.pc=26)∧a=2)∨(g.pc=24∧a=aG g.entry/1048576)
def sD(c:aM)(ws:List Int)(g:ag)(ws':List Int):Prop:=ws'=ws∨∃a x,ws'=put ws a x∧0≤a∧w9 c g a
theorem sD.sw{c:aM}{ws:List Int}{g:ag}{a o x:Int}(h:0≤a∧w9 c g a):sD c ws g (dc ws a o x):=by
 unfold dc;split
 ·exact .inr ⟨a,x,rfl,h.1,h.2⟩
 ·exact .inl rfl
theorem sD.len{c:aM}{ws ws':List Int}{g:ag}(h:sD c ws g ws'):ws'.length=ws.length:=by
 rcases h with rfl|⟨a,x,rfl,_⟩
 ·rfl
 ·exact aF _ _ _
theorem sD.at{c:aM}{ws ws':List Int}{g:ag}(h:sD c ws g ws'){b:Int}(hb:0≤b)(gF:at_ ws' b≠at_ ws b):w9 c g b:=by
 rcases h with rfl|⟨a,x,rfl,h0,h⟩
 ·exact absurd rfl gF
 ·rw[ik]at gF
  split at gF
  ·have:b=a:=J
   rw[this];exact h
  ·exact absurd rfl gF
theorem sD.one{c:aM}{ws ws':List Int}{g:ag}(h:sD c ws g ws'){b d:Int}(hb:0≤b)(hd:0≤d)(h1:at_ ws' b≠at_ ws b)(h2:at_ ws' d≠at_ ws d):b=d:=by
 rcases h with rfl|⟨a,x,rfl,h0,h⟩
 ·exact absurd rfl h1
 ·rw[ik]at h1 h2
  split at h1
  ·split at h2
   ·omega
   ·exact absurd rfl h2
  ·exact absurd rfl h1
theorem GX{c:aM}{ws:List Int}{g:ag}(hc:c.ok)(hP:bW c g)(hb:g.busy=true):sD c ws g (cW c ws g).ws:=by
 have cL:=hc
 unfold aM.ok at cL
 obtain⟨_,h1,_,hf,hp⟩:=hP
 have eU:=h1.1 hb
 have slot:0≤g.slot∧g.slot<c.am:=⟨hf.1.1,hf.1.2.1⟩
 have dO:(g.ax.length:Int)≤20:=by unfold fu at hf;omega
 have Gd:0≤g.gk:=by unfold fu at hf;omega
 have UE:0≤g.pc∧g.pc≤26:=by unfold fu at hf;omega
 have mw:g.pc=12→0≤g.oa∧g.oa<c.am:=by
  intro e
  unfold fg at hp
  split at hp
  ·exact hp.elim
  ·first|omega|(rw[if_neg J,if_pos e]at hp;omega)|(rw[if_neg J]at hp;omega)
 have p14:g.pc=14→g.gk≤g.ax.length:=by
  intro e
  unfold fg at hp
  split at hp
  ·exact hp.elim
  ·rw[if_neg J,if_neg J,if_neg J,if_pos (.inr e)]at hp;exact hp
 have p19:g.pc=19→0≤g.aX∧g.aX<c.am:=by
  intro e
  unfold fg at hp
  split at hp
  ·exact hp.elim
  ·rw[if_neg J,if_neg J,if_pos J]at hp
   unfold fu at hf
   omega
 have e1:=lC hc slot
 have e2:=gA hc slot
 have e3:=ke hc slot
 have agR:=kI g.entry
 have W:∀a,w9 c g a↔(((g.pc=3∨g.pc=7)∧a=3+c.am+g.slot)∨(g.pc=14∧bx c g.slot≤a∧a≤bx c g.slot+20)∨(g.pc=8∧a=3+g.slot)∨
  ((g.pc=12∨g.pc=19)∧3≤a∧a<3+c.am)∨((g.pc=10∨g.pc=15∨g.pc=20∨g.pc=25∨g.pc=26)∧a=2)∨(g.pc=24∧a=aG g.entry/1048576)):=fun a=>Iff.rfl
 unfold cW
 split
 ·unfold bS
  dsimp only
  split
  ·split<;>exact .inl rfl
  split
  ·exact .inl rfl
  split
  ·split
   ·exact .inl rfl
   ·exact .sw ⟨J,(W _).2 J⟩
  split
  ·(repeat' split)<;>exact .inl rfl
  split
  ·exact .inl rfl
  split
  ·exact .inl rfl
  split
  ·split
   ·exact .inl rfl
   ·exact .sw ⟨J,(W _).2 J⟩
  split
  ·split
   ·exact .inr ⟨_,_,rfl,J,(W _).2 J⟩
   ·exact .inl rfl
  ·exact .inl rfl
 split
 ·unfold gM
  dsimp only
  split
  ·split
   ·exact .inr ⟨_,_,rfl,J,(W _).2 J⟩
   ·exact .inl rfl
  ·(repeat' split)<;>exact .inl rfl
 split
 ·unfold eh
  dsimp only
  split
  ·exact .inl rfl
  ·have nW:=mw J
   have e4:=gA hc nW
   split
   ·exact .inr ⟨_,_,rfl,J,(W _).2 J⟩
   ·exact .inl rfl
 split
 ·unfold fk
  dsimp only
  split
  ·split<;>exact .inl rfl
  split
  ·rename_i e
   have jm:=p14 e
   have hd:0≤bx c g.slot:=by unfold bx;omega
   split
   ·exact .inl rfl
   ·dsimp only
    split
    ·exact .inr ⟨_,_,rfl,J,(W _).2 J⟩
    ·exact .inl rfl
  ·split
   ·exact .inr ⟨_,_,rfl,J,(W _).2 J⟩
   ·exact .inl rfl
 split
 ·unfold fQ
  dsimp only
  split
  ·exact .inl rfl
  split
  ·exact .inl rfl
  split
  ·exact .inl rfl
  split
  ·have rT:=p19 J
   have e4:=gA hc rT
   exact .sw ⟨J,(W _).2 J⟩
  ·exact .sw ⟨J,(W _).2 J⟩
 split
 ·unfold kt
  dsimp only
  split
  ·split<;>exact .inl rfl
  split
  ·exact .inl rfl
  split
  ·split<;>exact .inl rfl
  ·split
   ·exact .inr ⟨_,_,rfl,J,(W _).2 J⟩
   ·exact .inl rfl
 ·unfold iK
  split
  ·exact .sw ⟨J,(W _).2 J⟩
  ·exact .sw ⟨J,(W _).2 J⟩
theorem tb(ws:List Int)(g:ag):sD (check ws).1 ws g (fe ws g).ws:=by
 unfold fe
 split
 ·rename_i h
  unfold ib
  split
  ·exact .inl rfl
  ·rename_i h2
   refine GX (lR h.1).1 h.2 ?_
   cases hb:g.busy with
   |true=>rfl
   |false=>exact absurd (.inr hb) h2
 ·exact .inl rfl
end AH
