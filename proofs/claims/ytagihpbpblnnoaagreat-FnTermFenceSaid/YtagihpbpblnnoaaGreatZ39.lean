import Derived.Test.YtagihpbpblnnoaaGreatZ38
import Derived.Test.YtagihpbpblnnoaaGreatZ27
import Derived.Test.YtagihpbpblnnoaaGreatZ14
import Derived.Test.YtagihpbpblnnoaaGreatZ00
set_option linter.all false
namespace AH
open Go Go.Proofs Ho
set_option maxRecDepth 20000
set_option maxHeartbeats 16000000
def nD(ws:List Int)(gs:List ag):Prop:=(check ws).2=true∧gs.length≤6∧∀g∈gs,bW (check ws).1 g
noncomputable instance(ws:List Int)(gs:List ag):Decidable (nD ws gs):=Classical.propDecidable _
theorem OA(I:af)(lo:Nat)(B:Int)(j:Nat)(v:U)(gb:Nat)(ws:List Int)(gs:List (ag×U×U))(h:gm I lo B j v gb ws gs):
 Fn Tryz.prog 37 [.agg [.sl j 0 ws.length 1,v]] I fun x R=>x= .bool (decide (nD ws (gs.map (·.1))))∧R=I:=by
 refine ay rk mixed Tryz.func37 (by kernel_rfl) rfl (by kernel_rfl) bE ?_
 obtain⟨hj,hw,lj,lg,W,len,l2,m6,hv,G,MK⟩:=h
 have HG:=bf hj hw rfl
 obtain⟨⟨r1,r2⟩,⟨r3,r4⟩,r5,r6⟩:=fG ws
 generalize hb:decide (nD ws (gs.map (·.1)))=b
 by_cases hc:(check ws).2=true
 ·cases hv with
  |none=>
   have EC:b=true:=by rw[←hb];exact decide_eq_true ⟨hc,aV,aV⟩
   subst EC
   simp+contextual (maxSteps:=1000000) (disch:=first|exact dB|fail) [go_sem,int_lt,-Int.not_le,-Int.not_lt,-List.map_set,rk,hc]
   (repeat refine Alt.mk ?_)
   refine⟨1,?_⟩
   simp+contextual (maxSteps:=1000000) (disch:=first|exact dB|fail) [go_sem,int_lt,-Int.not_le,-Int.not_lt,-List.map_set,rk,px]
  | @some gb m gs h0 h1 h2 h3 h4=>
    have Sr:(m:Int)≤6:=J
    have EC:(∀g∈gs.map (·.1),bW (check ws).1 g)→b=true:=fun hh=>by rw[←hb];exact decide_eq_true ⟨hc,bX,hh⟩
    have XT:∀g∈gs.map (·.1),¬bW (check ws).1 g→b=false:=fun g hg hn=>by rw[←hb];exact decide_eq_false (fun h=>hn (h.2.2 g hg))
    clear hb
    obtain⟨C,hC⟩:∃C,(check ws).1=C:=⟨_,rfl⟩
    have hCk:(check ws).2=true:=hc
    rw[hC]at r1 r2 r3 r4 r5 r6 EC XT
    simp+contextual (maxSteps:=1000000) (disch:=first|exact dB|fail) [go_sem,int_lt,-Int.not_le,-Int.not_lt,-List.map_set,rk,hc,Sr,hC]
    (repeat refine Alt.mk ?_)
    refine aC (fun R_ env R=>∃(u:Nat),env 1= .ptr I.n 0∧env 3= .ptr (I.n+1) 0∧env 5= .int .i64 u∧(I.push ⟨[.sl j 0 ws.length 1,.sl gb 0 m 26],true⟩).push ⟨[.int .i64 C.am,.int .i64 C.ah,.int .i64 C.bH],true⟩=R∧R_ (m-u)∧(u≤m∧(∀k,k<u→∀x,gs[k]? =some x→bW C x.1))) (by rintro R_ env R ⟨u,e1,e3,e5,h_,cz,hp⟩;exact⟨_,cz,u,e1,e3,e5,h_,rfl,hp⟩) ⟨0,aq,aq,aq,rfl,trivial,?_⟩ ?_
    rotate_left
    rintro m_ env R ⟨u,e1,e3,e5,rfl,rfl,hp⟩
    ·obtain⟨um,hI⟩:=hp
     by_cases hu:u<m
     ·have fH:¬m≤u:=J
      obtain⟨⟨g,sv,pv⟩,hx⟩:∃x,gs[u]? =some x:=⟨gs[u]'(by omega),aV⟩
      have dU:=dr hx
      have hlen:u*26+26≤(bJ gs).length:=by rw[dq];omega
      have oe:=G _ (List.mem_of_getElem? hx)
      have l1:cC sv g.snap.length:=oe.s.kB
      have l3:cC pv g.ax.length:=oe.p.kB
      have hgm:g∈gs.map (·.1):=List.mem_map.2 ⟨_,List.mem_of_getElem? hx,rfl⟩
      by_cases hg:bW C g
      ·simp+contextual (maxSteps:=1000000) (disch:=first|exact dB|fail) [go_sem,int_lt,-Int.not_le,-Int.not_lt,-List.map_set,rk,e1,e3,e5,h4,dU,hlen,hu,fH,hg]
       (repeat refine Alt.mk ?_)
       refine⟨u+1,J,J,J,?_⟩
       intro k hk a dS dg Qn
       rcases Nat.lt_or_ge k u with rh|rh
       ·exact hI k rh _ Qn
       ·have:k=u:=J
        subst this
        rw[hx]at Qn
        cases Qn
        exact hg
      ·have aai:=XT g hgm hg
       subst aai
       simp+contextual (maxSteps:=1000000) (disch:=first|exact dB|fail) [go_sem,int_lt,-Int.not_le,-Int.not_lt,-List.map_set,rk,e1,e3,e5,h4,dU,hlen,hu,fH,hg]
     ·have fH:m≤u:=J
      have aam:b=true:=by
       apply EC
       intro g hg
       obtain⟨x,hx,rfl⟩:=List.mem_map.1 hg
       obtain⟨k,hk,hkx⟩:=List.mem_iff_getElem.1 hx
       exact hI k J x (by rw[List.getElem?_eq_getElem hk,hkx])
      subst aam
      simp+contextual (maxSteps:=1000000) (disch:=first|exact dB|fail) [go_sem,int_lt,-Int.not_le,-Int.not_lt,-List.map_set,rk,e1,e3,e5,hu,fH]
    ·exact⟨Nat.zero_le _,fun k hk=>by omega⟩
 ·have XT:b=false:=by rw[←hb];exact decide_eq_false (fun h=>hc h.1)
  have cL:(check ws).2=false:=by simpa using hc
  subst XT
  simp+contextual (maxSteps:=1000000) (disch:=first|exact dB|fail) [go_sem,int_lt,-Int.not_le,-Int.not_lt,-List.map_set,rk,cL]
end AH
namespace AH
open Go Go.Proofs Ho
set_option maxRecDepth 20000
set_option maxHeartbeats 16000000
end AH
namespace AH
open Go Go.Proofs Ho
set_option maxRecDepth 20000
set_option maxHeartbeats 16000000
noncomputable def rA(ws:List Int)(gs:List ag):Bk×Bool:=if nD ws gs then jc ws else(Bk.zero,false)
theorem Hk(I:af)(lo:Nat)(B:Int)(j:Nat)(v:U)(gb:Nat)(ws:List Int)(gs:List (ag×U×U))(h:gm I lo B j v gb ws gs):
 Fn Tryz.prog 165 [.agg [.sl j 0 ws.length 1,v]] I fun x R=>BG I R (rA ws (gs.map (·.1))) x:=by
 generalize hG:(fun(x:U) (R:af)=>BG I R (rA ws (gs.map (·.1))) x)=GG
 have iv:=h.aQ
 refine bA aZ mixed Tryz.func165 (by kernel_rfl) rfl (by kernel_rfl) ?_
 simp+contextual (maxSteps:=1000000) (disch:=first|exact dB|fail) [go_sem,int_lt,-Int.not_le,-Int.not_lt,-List.map_set]
 (repeat refine Alt.mk ?_)
 refine bb (fun σ1=>I.n+1<σ1.n∧(∀y,y<I.n→σ1.get y=I.get y)∧σ1.get (I.n+1)=some ⟨[.int .i64 0,.al,.al,.al,.al,.al,.al,.al,.al],true⟩∧σ1.get I.n=some ⟨[.sl j 0 ws.length 1,v],true⟩) ?_ ?_
 ·exact⟨by simp only[au,az];omega,fp,aI,aI⟩
 rintro σ1 ⟨x1,x2,x3,x4⟩
 have jq:I.n≤σ1.n:=J
 have h1:=h.frame jq x2
 have HG:=bf h1.hj h1.hw rfl
 refine aw (OA σ1 lo B j v gb ws gs h1) ?_
 rintro x R hn ⟨rfl,rfl⟩
 by_cases hP:nD ws (gs.map (·.1))
 ·have hb:rA ws (gs.map (·.1))=jc ws:=if_pos hP
  rw[decide_eq_true hP]
  simp+contextual (maxSteps:=1000000) (disch:=first|exact dB|fail) [go_sem,int_lt,-Int.not_le,-Int.not_lt,-List.map_set,x3,x4]
  (repeat refine Alt.mk ?_)
  refine aw (yB R (.sl j 0 ws.length 1) ws HG h.W h.len) ?_
  rintro x τ2 fz ⟨pv,k0,k1,k2,k3,ov,wa,ev,rfl,y2,y3,y1,y4⟩
  have z3:=(y3 _ x1).trans x3
  have b1:=y2.p.aQ
  have b2:=y2.h0.aQ
  have b3:=y2.h1.aQ
  have b4:=y2.h2.aQ
  have b5:=y2.h3.aQ
  have b6:=y2.o.aQ
  have b7:=y2.i.aQ
  have b8:=y2.e.aQ
  simp+contextual (maxSteps:=1000000) (disch:=first|exact dB|fail) [go_sem,int_lt,-Int.not_le,-Int.not_lt,-List.map_set,z3]
  (repeat refine Alt.mk ?_)
  rw[←hG]
  show BG _ _ _ _
  rw[hb]
  refine⟨pv,k0,k1,k2,k3,ov,wa,ev,rfl,y2.mn (y4 _ x1),fun y yy=>?_,?_,fun y yy=>y4 y J⟩
  ·rw[ai J,y3 y J,x2 y yy]
  ·simp only[az];omega
 ·have hb:rA ws (gs.map (·.1))=(Bk.zero,false):=if_neg hP
  rw[decide_eq_false hP]
  simp+contextual (maxSteps:=1000000) (disch:=first|exact dB|fail) [go_sem,int_lt,-Int.not_le,-Int.not_lt,-List.map_set,x3,x4]
  (repeat refine Alt.mk ?_)
  rw[←hG]
  show BG _ _ _ _
  refine BG.zero hb (fun y yy=>?_) ?_
  ·first
    |exact x2 y yy
    |(rw[ai J];exact x2 y yy)
  ·simp only[az];omega
end AH
namespace AH
open Go Go.Proofs Ho
set_option maxRecDepth 20000
set_option maxHeartbeats 16000000
def OB(I:af)(i:Nat)(bv:U)(bs:List Int)(p:Int)(x:U)(R:af):Prop:=
 ∃e q,x= .agg (LZ e)∧p≤q∧q≤p+60∧Rd R i bv bs q∧I.n≤R.n∧∀y,y<I.n→NE y i→R.get y=I.get y
theorem Rd.go{I R:af}{i:Nat}{bv:U}{bs:List Int}{p q:Int}(h:Rd I i bv bs p)(hn:I.n≤R.n)(hg:R.get i=some ⟨[bv,.int .i64 q],true⟩)(hf:∀y,y<I.n→NE y i→R.get y=I.get y)(hq:0≤q∧q≤1000000000):Rd R i bv bs q:=by
 obtain⟨a1,a2,a3,a4,a5,a6,a7⟩:=h
 refine⟨J,hg,?_,a4,a5,a6,hq⟩
 rcases a3.ex with⟨rfl,rfl⟩|⟨y,k,rfl,hi,Bk,hb,hc⟩
 ·exact .nil
 ·rcases a4 with a4|a4
  ·simp only[cn]at a4
   exact .mk' ⟨J,Bk,by rw[hf y hi a4];exact hb,hc⟩
  ·cases a4
theorem OB.mk{I R:af}{i:Nat}{bv:U}{bs:List Int}{p:Int}(h:Rd I i bv bs p)(hp:p≤999999900)(k w n o a b q:Int)(h1:p≤q)(h2:q≤p+60)(hn:I.n≤R.n)(hg:R.get i=some ⟨[bv,.int .i64 q],true⟩)(hf:∀y,y<I.n→NE y i→R.get y=I.get y):
 OB I i bv bs p (.agg [.int .i64 k,.int .i64 w,.int .i64 n,.int .i64 o,.int .i64 a,.int .i64 b]) R:=
 ⟨⟨k,w,n,o,a,b⟩,q,rfl,h1,h2,h.go hn hg hf (by have:=h.hp;omega),hn,hf⟩
end AH
namespace AH
open Go Go.Proofs Ho
set_option maxRecDepth 20000
set_option maxHeartbeats 16000000
theorem bu.Hp{I R:af}{lo z:Nat}{v:U}{l:List Int}(h:bu .u64 I v l)(hn:I.n≤R.n)(a1:fo v z)(a2:lo≤cn v∨v= .al)(hf:∀y,lo≤y→y<I.n→NE y z→R.get y=I.get y):bu .u64 R v l:=by
 rcases h.ex with⟨rfl,rfl⟩|⟨i,k,rfl,hi,Bk,hb,hc⟩
 ·exact .nil
 ·rcases a1 with a1|a1
  ·rcases a2 with a2|a2
   ·simp only[cn]at a1 a2
    exact .mk' ⟨J,Bk,by rw[hf i a2 hi a1];exact hb,hc⟩
   ·cases a2
  ·cases a1
theorem gm.Hp{I R:af}{lo:Nat}{B:Int}{j:Nat}{v:U}{gb:Nat}{ws:List Int}{gs:List (ag×U×U)}(h:gm I lo B j v gb ws gs){z:Nat}(hn:I.n≤R.n)(hz1:NE j z)(QP:NE gb z)(ha:kq z gs)(hf:∀y,lo≤y→y<I.n→NE y z→R.get y=I.get y):gm R lo B j v gb ws gs:=by
 obtain⟨a1,a2,a3,a4,a5,a6,l2,a7,a8,a9,a0⟩:=h
 refine⟨J,(hf j a3 a1 hz1).trans a2,a3,a4,a5,a6,l2,a7,?_,fun x hx=>?_,a0⟩
 ·cases a8 with
  |none=>exact .none
  |some h0 h1 h2 h3 h4=>exact .some h0 h1 J h3 ((hf gb a4 h2 QP).trans h4)
 ·obtain⟨b1,b2⟩:=ha x hx
  have hg:=a9 x hx
  exact⟨hg.gi,hg.s.Hp hn b1 hg.sl hf,hg.p.Hp hn b2 hg.pl hf,hg.sj,hg.pj,hg.sg,hg.pg,hg.sl,hg.pl,hg.Gw⟩
theorem gm.ss{I:af}{lo:Nat}{B:Int}{j:Nat}{v:U}{gb:Nat}{ws:List Int}{gs:List (ag×U×U)}(h:gm I lo B j v gb ws gs){z:Nat}(hz:z<lo):kq z gs:=by
 intro x hx
 refine⟨?_,?_⟩
 ·rcases(h.G x hx).sl with h|h
  ·exact .inl J
  ·exact .inr h
 ·rcases(h.G x hx).pl with h|h
  ·exact .inl J
  ·exact .inr h
theorem gm.DI{I R:af}{lo:Nat}{B:Int}{j:Nat}{v:U}{gb:Nat}{ws:List Int}{gs:List (ag×U×U)}(h:gm I lo B j v gb ws gs){z:Nat}(hz:z<lo)(hn:I.n≤R.n)(hf:∀y,y<I.n→NE y z→R.get y=I.get y):gm R lo B j v gb ws gs:=by
 have h1:=h.lj
 have h2:=h.lg
 exact h.Hp (z:=z) hn aD aD (h.ss hz) (fun y _ y2 y3=>hf y y2 y3)
end AH
namespace AH
open Go Go.Proofs Ho
set_option maxRecDepth 20000
set_option maxHeartbeats 16000000
structure GW(B:Int)(g:ag):Prop where
 slot:0≤g.slot∧g.slot≤10
 ao:0≤g.ao∧g.ao≤4095
 pc:0≤g.pc∧g.pc≤26
 gk:0≤g.gk∧g.gk≤B
 gn:0≤g.gn∧g.gn≤20
 seq:0≤g.seq∧g.seq≤4294967295
 aX:0≤g.aX∧g.aX≤7
 aK:0≤g.aK∧g.aK≤4095
 time:0≤g.time∧g.time≤1048575
 count:0≤g.count∧g.count≤B
 next:0≤g.next∧g.next≤4095
 bw:ci g.bw
 door:ci g.door
 aT:ci g.aT
 entry:ci g.entry
 E7:∀w∈g.snap,ci w
 KD:∀w∈g.ax,ci w
 snap:(g.snap.length:Int)≤B
 ax:(g.ax.length:Int)≤20
 own:g.own=true→g.gn=g.ax.length
theorem GI.uk{B:Int}{g:ag}(h:GI B g):GW B g:=by
 obtain⟨h1,h2,h3,h4,h5,h6,h7,h8,h9,pC,lh,nW,jQ,jm,kW,qC,lk,uS,rT,tg,BK,mC,nX,gE⟩:=h
 exact⟨h1,h2,h3,h4,h5,h6,h7,h8,h9,pC,lh,nW,jQ,jm,kW,qC,lk,uS,rT,fun h=>(gE h).2.2⟩
theorem GW.ok{B:Int}{g:ag}{c:aM}(h:GW B g)(hg:bW c g):GI B g:=by
 obtain⟨h1,h2,h3,h4,h5,h6,h7,h8,h9,pC,lh,nW,jQ,jm,kW,qC,lk,uS,rT,tg⟩:=h
 obtain⟨⟨o1,o2,o3,o4,o5,o6⟩,p2,p3,p4,p5⟩:=hg
 have hh:aP c=7+2*c.am+17*c.ah:=rfl
 unfold fg at p5
 refine⟨h1,h2,h3,h4,h5,h6,h7,h8,h9,pC,lh,nW,jQ,jm,kW,qC,lk,uS,rT,?_,?_,?_,?_,?_⟩
 ·intro hb
  have:=p2.1 hb
  omega
 ·intro hp
  split at p5
  ·exact p5.elim
  ·first|exact p5.1|(simp[hp]at p5;omega)
 ·intro hp
  split at p5
  ·exact p5.elim
  ·first|omega|(simp[hp]at p5;omega)
 ·intro hp
  split at p5
  ·exact p5.elim
  ·first|exact p5|(rcases hp with hp|hp<;>(simp[hp]at p5;omega))
 ·intro ho
  split at p5
  ·exact p5.elim
  ·rename_i hn
   have ZZ:=tg ho
   refine⟨?_,?_,ZZ⟩
   ·exact Int.not_lt.1 fun hh=>hn ⟨ho,.inl hh⟩
   ·exact Int.not_lt.1 fun hh=>hn ⟨ho,.inr hh⟩
structure RL(R:af)(lo:Nat)(B:Int)(j gb:Nat)(x:ag×U×U):Prop where
 gi:GW B x.1
 s:bu .u64 R x.2.1 x.1.snap
 p:bu .u64 R x.2.2 x.1.ax
 sj:fo x.2.1 j
 pj:fo x.2.2 j
 sg:fo x.2.1 gb
 pg:fo x.2.2 gb
 sl:lo≤cn x.2.1∨x.2.1= .al
 pl:lo≤cn x.2.2∨x.2.2= .al
 Gw:kY x.1
structure uE(R:af)(lo:Nat)(B:Int)(j:Nat)(v:U)(gb:Nat)(ws:List Int)(gs:List (ag×U×U)):Prop where
 hj:j<R.n
 hw:R.get j=some ⟨ws.map (.int .u64),true⟩
 lj:lo≤j
 lg:lo≤gb
 W:∀w∈ws,ci w
 len:(ws.length:Int)≤1000000
 l2:2≤ws.length
 m7:gs.length≤7
 hv:GB R j v gb gs
 G:∀x∈gs,RL R lo B j gb x
 B:B≤900000
theorem GA.uk{R:af}{lo:Nat}{B:Int}{j gb:Nat}{x:ag×U×U}(h:GA R lo B j gb x):RL R lo B j gb x:=
 ⟨GI.uk h.gi,h.s,h.p,h.sj,h.pj,h.sg,h.pg,h.sl,h.pl,h.Gw⟩
theorem gm.uk{R:af}{lo:Nat}{B:Int}{j:Nat}{v:U}{gb:Nat}{ws:List Int}{gs:List (ag×U×U)}(h:gm R lo B j v gb ws gs):uE R lo B j v gb ws gs:=
 ⟨h.hj,h.hw,h.lj,h.lg,h.W,h.len,h.l2,by have:=h.m6;omega,h.hv,fun x hx=>(h.G x hx).uk,h.B⟩
theorem uE.ok{R:af}{lo:Nat}{B:Int}{j:Nat}{v:U}{gb:Nat}{ws:List Int}{gs:List (ag×U×U)}(h:uE R lo B j v gb ws gs)(hP:nD ws (gs.map (·.1))):gm R lo B j v gb ws gs:=by
 obtain⟨a1,a2,a3,a4,a5,a6,l2,a7,a8,a9,a0⟩:=h
 refine⟨a1,a2,a3,a4,a5,a6,l2,by simpa using hP.2.1,a8,fun x hx=>?_,a0⟩
 obtain⟨b1,b2,b3,b4,b5,b6,b7,b8,b9,Mr⟩:=a9 x hx
 exact⟨b1.ok (hP.2.2 x.1 (List.mem_map.2 ⟨x,hx,rfl⟩)),b2,b3,b4,b5,b6,b7,b8,b9,Mr⟩
theorem RL.frame{I R:af}{lo:Nat}{B:Int}{j gb:Nat}{x:ag×U×U}(h:RL I lo B j gb x)(hn:I.n≤R.n)(hf:∀y,y<I.n→R.get y=I.get y):RL R lo B j gb x:=
 ⟨h.gi,h.s.frame hn hf,h.p.frame hn hf,h.sj,h.pj,h.sg,h.pg,h.sl,h.pl,h.Gw⟩
theorem uE.frame{I R:af}{lo:Nat}{B:Int}{j:Nat}{v:U}{gb:Nat}{ws:List Int}{gs:List (ag×U×U)}(h:uE I lo B j v gb ws gs)(hn:I.n≤R.n)(hf:∀y,y<I.n→R.get y=I.get y):uE R lo B j v gb ws gs:=by
 obtain⟨a1,a2,a3,a4,a5,a6,l2,a7,a8,a9,a0⟩:=h
 refine⟨J,(hf j a1).trans a2,a3,a4,a5,a6,l2,a7,?_,fun x hx=>(a9 x hx).frame hn hf,a0⟩
 cases a8 with
 |none=>exact .none
 |some h0 h1 h2 h3 h4=>exact .some h0 h1 J h3 ((hf gb h2).trans h4)
theorem uE.aQ{I:af}{lo:Nat}{B:Int}{j:Nat}{v:U}{gb:Nat}{ws:List Int}{gs:List (ag×U×U)}(h:uE I lo B j v gb ws gs):ey v:=by
 cases h.hv with
 |none=>exact jV
 |some=>exact kO _ _ _ _
theorem uE.DI{I R:af}{lo:Nat}{B:Int}{j:Nat}{v:U}{gb:Nat}{ws:List Int}{gs:List (ag×U×U)}(h:uE I lo B j v gb ws gs){z:Nat}(hz:z<lo)(hn:I.n≤R.n)(hf:∀y,y<I.n→NE y z→R.get y=I.get y):uE R lo B j v gb ws gs:=by
 obtain⟨a1,a2,a3,a4,a5,a6,l2,a7,a8,a9,a0⟩:=h
 refine⟨J,(hf j a1 aD).trans a2,a3,a4,a5,a6,l2,a7,?_,fun x hx=>?_,a0⟩
 ·cases a8 with
  |none=>exact .none
  |some h0 h1 h2 h3 h4=>exact .some h0 h1 J h3 ((hf gb h2 aD).trans h4)
 ·have hg:=a9 x hx
  have BM:∀(w:U),(lo≤cn w∨w= .al)→fo w z:=fun w hw=>by
   rcases hw with h|h
   ·exact .inl J
   ·exact .inr h
  exact⟨hg.gi,hg.s.Hp (lo:=lo) hn (BM _ hg.sl) hg.sl (fun y _ y2 y3=>hf y y2 y3),hg.p.Hp (lo:=lo) hn (BM _ hg.pl) hg.pl (fun y _ y2 y3=>hf y y2 y3),hg.sj,hg.pj,hg.sg,hg.pg,hg.sl,hg.pl,hg.Gw⟩
theorem uE.low{I:af}{lo lo':Nat}{B:Int}{j:Nat}{v:U}{gb:Nat}{ws:List Int}{gs:List (ag×U×U)}(h:uE I lo B j v gb ws gs)(hl:lo'≤lo):uE I lo' B j v gb ws gs:=by
 obtain⟨a1,a2,a3,a4,a5,a6,l2,a7,a8,a9,a0⟩:=h
 refine⟨a1,a2,J,J,a5,a6,l2,a7,a8,fun x hx=>?_,a0⟩
 obtain⟨b1,b2,b3,b4,b5,b6,b7,b8,b9,Mr⟩:=a9 x hx
 refine⟨b1,b2,b3,b4,b5,b6,b7,?_,?_,Mr⟩
 ·rcases b8 with h|h
  ·exact .inl J
  ·exact .inr h
 ·rcases b9 with h|h
  ·exact .inl J
  ·exact .inr h
end AH
