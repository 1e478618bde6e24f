import Derived.Test.YtagihpbpblnnoaaGreatZ16
import Derived.Test.YtagihpbpblnnoaaGreatZ13
import Derived.Test.YtagihpbpblnnoaaGreatZ00
set_option linter.all false
namespace AH
open Go Go.Proofs Ho
set_option maxRecDepth 20000
set_option maxHeartbeats 8000000
theorem Mx(c:aM):aM.mk c.am c.ah c.bH=c:=_root_.id rfl
attribute [go_sem] Mx
theorem yn(ws:List Int)(a x:Int):(put ws a x).length=ws.length:=by simp[put]
abbrev rG(j nw:Nat)(c:aM)(g:ag)(sv pv:U)(ev:Int):List U:=
 [.sl j 0 nw 1,.int .i64 c.am,.int .i64 c.ah,.int .i64 c.bH,.bool g.up,.int .i64 g.slot,.int .i64 g.ao,.bool g.busy,.int .i64 g.aE,.int .i64 g.aH,.int .i64 g.oa,.int .i64 g.ob,.int .i64 g.pc,.int .i64 g.gk,.int .i64 g.gn,.int .i64 g.seq,.int .i64 g.next,.int .i64 g.aX,.int .i64 g.aK,.bool g.own,.int .i64 g.time,.int .u64 g.bw,.int .u64 g.door,.int .u64 g.aT,.int .u64 g.entry,sv,pv,.int .i64 g.code,.int .i64 g.val,.int .i64 g.count,.int .i64 ev]
structure GS(g:ag):Prop where
 slot: -1000000≤g.slot∧g.slot≤1000000
 ao: -1000000≤g.ao∧g.ao≤1000000
 pc:0≤g.pc∧g.pc≤26
 gk:0≤g.gk∧g.gk≤100000000
 gn:0≤g.gn∧g.gn≤20
 seq:0≤g.seq∧g.seq≤4294967295
 aX:0≤g.aX∧g.aX≤7
 aK:0≤g.aK∧g.aK≤4095
 time:0≤g.time∧g.time≤1048575
 count:0≤g.count∧g.count≤10000000
 next:0≤g.next∧g.next≤4096
 words:g.words
structure uy(I:af)(r j:Nat)(c:aM)(ws:List Int)(g:ag)(sv pv:U):Prop where
 hr:r<I.n
 hj:j<I.n
 ne:r≠j
 hg:I.get r=some ⟨rG j ws.length c g sv pv 0,true⟩
 hw:I.get j=some ⟨ws.map (.int .u64),true⟩
 W:∀w∈ws,ci w
 len:(ws.length:Int)≤1000000
 gs:GS g
 cs:0≤c.am∧c.am≤10∧0≤c.ah∧c.ah≤10∧0≤c.bH∧c.bH≤1000000
 ls:ey sv
 lp:ey pv
def LV(v v':U)(l l':List Int):Prop:=(v'=v∧l'=l)∨(v'= .al∧l'=[])
abbrev fj(I:af)(r j:Nat)(c:aM)(o:SO)(sv pv:U):af:=(I.set j ⟨o.ws.map (.int .u64),true⟩).set r ⟨rG j o.ws.length c o.g sv pv o.ev,true⟩
theorem uY{I:af}{r j:Nat}{c:aM}{ws:List Int}{g:ag}{sv pv dS dg:U}{o:SO}(h:uy I r j c ws g sv pv)(h1:LV sv dS g.snap o.g.snap)(h2:LV pv dg g.ax o.g.ax):
 ∀y,y<I.n→(fj I r j c o dS dg).get y=I.get y∨∀B,(fj I r j c o dS dg).get y=some B→∃C,I.get y=some C∧∀a∈B.cells,a.lt I.n=true∨a∈C.cells:=by
 intro y _
 by_cases e:y=r
 ·right
  intro B hB
  rw[af.cX,if_pos e]at hB
  cases hB
  subst e
  refine⟨_,h.hg,?_⟩
  have hjl:=h.hj
  intro a ha
  have ks:dS.lt I.n=true∨dS=sv:=by rcases h1 with⟨h,_⟩|⟨h,_⟩;exact .inr h;exact .inl (h▸rfl)
  have kp:dg.lt I.n=true∨dg=pv:=by rcases h2 with⟨h,_⟩|⟨h,_⟩;exact .inr h;exact .inl (h▸rfl)
  simp only[rG,List.mem_cons,List.not_mem_nil,or_false]at ha
  rcases ha with ha|ha|ha|ha|ha|ha|ha|ha|ha|ha|ha|ha|ha|ha|ha|ha|ha|ha|ha|ha|ha|ha|ha|ha|ha|ha|ha|ha|ha|ha|ha
  all_goals first
   |exact .inl (ha▸rfl)
   |(rw[ha];left;simp only[U.lt];exact decide_eq_true (by first|exact hjl|omega))
   |(rw[ha];rcases ks with k|k;exact .inl k;exact .inr (by simp[k]))
   |(rw[ha];rcases kp with k|k;exact .inl k;exact .inr (by simp[k]))
 ·by_cases e':y=j
  ·right
   intro B hB
   rw[af.cX,if_neg e,af.cX,if_pos e']at hB
   cases hB
   subst e'
   exact⟨_,h.hw,fun a ha=> .inl (nM ha)⟩
  ·left
   rw[af.cX,if_neg e,af.cX,if_neg e']
theorem Om(I:af)(r:Nat)(cd v:Int)(j nw:Nat)(cs cp cl:Int)(up:Bool)(slot:Int)(ao:Int)(busy:Bool)(aE:Int)(aH:Int)(oa:Int)(ob:Int)(pc:Int)(gk:Int)(gn:Int)(seq:Int)(next:Int)(aX:Int)(aK:Int)(own:Bool)(time:Int)(bw:Int)(door:Int)(aT:Int)(entry:Int)(sv:U)(pv:U)(code:Int)(val:Int)(count:Int)(cS:Int)(hg:I.get r=some ⟨[.sl j 0 nw 1,.int .i64 cs,.int .i64 cp,.int .i64 cl,.bool up,.int .i64 slot,.int .i64 ao,.bool busy,.int .i64 aE,.int .i64 aH,.int .i64 oa,.int .i64 ob,.int .i64 pc,.int .i64 gk,.int .i64 gn,.int .i64 seq,.int .i64 next,.int .i64 aX,.int .i64 aK,.bool own,.int .i64 time,.int .u64 bw,.int .u64 door,.int .u64 aT,.int .u64 entry,sv,pv,.int .i64 code,.int .i64 val,.int .i64 count,.int .i64 cS],true⟩)(hc:0≤count∧count<100000000)(M9:ey sv)(yE:ey pv):Fn Tryz.prog 203 [.ptr r 0,.int .i64 cd,.int .i64 v] I fun x R=>x= .cw []∧R=I.set r ⟨[.sl j 0 nw 1,.int .i64 cs,.int .i64 cp,.int .i64 cl,.bool up,.int .i64 slot,.int .i64 (if aE=5∧cd=0 then 0 else ao),.bool false,.int .i64 aE,.int .i64 aH,.int .i64 oa,.int .i64 ob,.int .i64 0,.int .i64 0,.int .i64 0,.int .i64 0,.int .i64 0,.int .i64 0,.int .i64 0,.bool false,.int .i64 0,.int .u64 0,.int .u64 0,.int .u64 0,.int .u64 0,.al,.al,.int .i64 cd,.int .i64 v,.int .i64 (count+1),.int .i64 cS],true⟩:=by
 refine ec aZ mixed Tryz.func203 (by kernel_rfl) rfl (by kernel_rfl) ?_ ?_ ?_ ?_
 ·rfl
 ·rfl
 ·exact dJ hg kx
 simp+contextual (maxSteps:=1000000) (disch:=first|exact dA|fail) [go_sem,int_lt,-Int.not_le,-Int.not_lt,hg]
@[go_sem] def adH:=fun(I:af) r cd v j nw cs cp cl up slot ao busy aE aH oa ob pc gk gn seq next aX aK own time bw door aT entry sv pv code val count cS hg hc M9 yE (aA:U→af→Prop)=>ar (k:=aA) (Om I r cd v j nw cs cp cl up slot ao busy aE aH oa ob pc gk gn seq next aX aK own time bw door aT entry sv pv code val count cS hg hc M9 yE)
theorem On(I:af)(r j:Nat)(c:aM)(ws:List Int)(g:ag)(sv pv:U)(h:uy I r j c ws g sv pv)(eU:g.pc=4):Fn Tryz.prog 257 [.ptr r 0] I fun x R=>∃a_:U×U,x= .cw []∧R=fj I r j c (bS c ws g) a_.1 a_.2∧(LV sv a_.1 g.snap (bS c ws g).g.snap∧LV pv a_.2 g.ax (bS c ws g).g.ax):=by
 refine jP (fun a_:U×U=> .cw []) (fun a_:U×U=>fj I r j c (bS c ws g) a_.1 a_.2) (fun a_:U×U=>LV sv a_.1 g.snap (bS c ws g).g.snap∧LV pv a_.2 g.ax (bS c ws g).g.ax) yc mixed Tryz.func257 (by kernel_rfl) rfl (by kernel_rfl) ?_ ?_ ?_ ?_
 ·intros;rfl
 ·intros;rfl
 ·intro a ha;exact uY h ha.1 ha.2
 obtain⟨hr,hj,ne,hg,hw,hW,hl,gs,⟨c1,c2,c3,c4,c5,c6⟩,ls,lp⟩:=h
 have d_:∀X A B,(af.set (af.set X r A) j B)=(X.set j B).set r A:=fun X A B=>jB ne X A B
 have dO:=dE hW (bT c g.slot)
 have MR:=aO (w:=bm ws (bT c g.slot))
 have bt:=dF hw
 have Jo:=gs.count
 have aeN:=gs.slot
 unfold bS
 by_cases b1:aG (bm ws (bT c g.slot)) % 4=0
 ·by_cases b2:4095≤aG (bm ws (bT c g.slot))/4
  ·simp+contextual (maxSteps:=1000000) (disch:=first|exact dA|fail) [go_sem,int_lt,-Int.not_le,-Int.not_lt,yc,hg,hw,d_,bt,eU,b1,b2,ag.complete,ag.zero]
   ((repeat refine Alt.mk ?_)<;>first|exact cQ|skip)
  ·simp+contextual (maxSteps:=1000000) (disch:=first|exact dA|fail) [go_sem,int_lt,-Int.not_le,-Int.not_lt,yc,hg,hw,d_,bt,eU,b1,b2,ag.complete,ag.zero]
   ((repeat refine Alt.mk ?_)<;>first|exact cQ|skip)
 ·simp+contextual (maxSteps:=1000000) (disch:=first|exact dA|fail) [go_sem,int_lt,-Int.not_le,-Int.not_lt,yc,hg,hw,d_,bt,eU,b1,ag.complete,ag.zero]
  ((repeat refine Alt.mk ?_)<;>first|exact cQ|skip)
@[go_sem] def adI:=fun(I:af) r j c ws g sv pv h eU (aA:U→af→Prop)=>eK aA (On I r j c ws g sv pv h eU)
theorem Bd(I:af)(r j:Nat)(c:aM)(ws:List Int)(g:ag)(sv pv:U)(h:uy I r j c ws g sv pv)(eU:5≤g.pc∧g.pc≤8):Fn Tryz.prog 206 [.ptr r 0] I fun x R=>∃a_:U×U,x= .cw []∧R=fj I r j c (bS c ws g) a_.1 a_.2∧(LV sv a_.1 g.snap (bS c ws g).g.snap∧LV pv a_.2 g.ax (bS c ws g).g.ax):=by
 refine jP (fun a_:U×U=> .cw []) (fun a_:U×U=>fj I r j c (bS c ws g) a_.1 a_.2) (fun a_:U×U=>LV sv a_.1 g.snap (bS c ws g).g.snap∧LV pv a_.2 g.ax (bS c ws g).g.ax) kR mixed Tryz.func206 (by kernel_rfl) rfl (by kernel_rfl) ?_ ?_ ?_ ?_
 ·intros;rfl
 ·intros;rfl
 ·intro a ha;exact uY h ha.1 ha.2
 obtain⟨hr,hj,ne,hg,hw,hW,hl,gs,⟨c1,c2,c3,c4,c5,c6⟩,ls,lp⟩:=h
 have d_:∀X A B,(af.set (af.set X r A) j B)=(X.set j B).set r A:=fun X A B=>jB ne X A B
 have bt:=dF hw
 obtain⟨g1,g2,g3,g4,g5,g6,g7,g8,g9,MF,xx,⟨w1,w2,w3,w4,w5,w6⟩⟩:=gs
 have nK:=dE hW (dn c g.slot)
 have kM:=dE hW 1
 have MR:=aO (w:=bm ws 1)
 unfold bS
 by_cases e5:g.pc=5
 ·simp+contextual (maxSteps:=1000000) (disch:=first|exact dA|fail) [go_sem,int_lt,-Int.not_le,-Int.not_lt,kR,hg,hw,d_,bt,e5,ag.complete,ag.zero]
  ((repeat refine Alt.mk ?_)<;>first|exact cQ|skip)
 by_cases e6:g.pc=6
 ·simp+contextual (maxSteps:=1000000) (disch:=first|exact dA|fail) [go_sem,int_lt,-Int.not_le,-Int.not_lt,kR,hg,hw,d_,bt,e5,e6,ag.complete,ag.zero]
  ((repeat refine Alt.mk ?_)<;>first|exact cQ|skip)
 by_cases e7:g.pc=7
 ·by_cases b1:g.next≤aL g.bw
  ·simp+contextual (maxSteps:=1000000) (disch:=first|exact dA|fail) [go_sem,int_lt,-Int.not_le,-Int.not_lt,kR,hg,hw,d_,bt,e5,e6,e7,b1,ag.complete,ag.zero]
   ((repeat refine Alt.mk ?_)<;>first|exact cQ|skip)
  ·by_cases b2:dp ws (dn c g.slot) g.bw
   ·simp+contextual (maxSteps:=1000000) (disch:=first|exact dA|fail) [go_sem,int_lt,-Int.not_le,-Int.not_lt,kR,hg,hw,d_,bt,e5,e6,e7,b1,b2,ag.complete,ag.zero]
    ((repeat refine Alt.mk ?_)<;>first|exact cQ|skip)
   ·simp+contextual (maxSteps:=1000000) (disch:=first|exact dA|fail) [go_sem,int_lt,-Int.not_le,-Int.not_lt,kR,hg,hw,d_,bt,e5,e6,e7,b1,b2,ag.complete,ag.zero]
    ((repeat refine Alt.mk ?_)<;>first|exact cQ|skip)
 have e8:g.pc=8:=J
 by_cases b2:dp ws (bT c g.slot) g.entry
 ·simp+contextual (maxSteps:=1000000) (disch:=first|exact dA|fail) [go_sem,int_lt,-Int.not_le,-Int.not_lt,kR,hg,hw,d_,bt,e5,e6,e7,e8,b2,dc,ag.complete,ag.zero]
  ((repeat refine Alt.mk ?_)<;>first|exact cQ|skip)
 ·simp+contextual (maxSteps:=1000000) (disch:=first|exact dA|fail) [go_sem,int_lt,-Int.not_le,-Int.not_lt,kR,hg,hw,d_,bt,e5,e6,e7,e8,b2,dc,ag.complete,ag.zero]
  ((repeat refine Alt.mk ?_)<;>first|exact cQ|skip)
@[go_sem] def YM:=fun(I:af) r j c ws g sv pv h eU (aA:U→af→Prop)=>eK aA (Bd I r j c ws g sv pv h eU)
end AH
namespace AH
open Go Go.Proofs Ho
set_option maxRecDepth 20000
set_option maxHeartbeats 8000000
theorem Bi(I:af)(r j:Nat)(c:aM)(ws:List Int)(g:ag)(sv pv:U)(h:uy I r j c ws g sv pv)(eU:25≤g.pc):Fn Tryz.prog 157 [.ptr r 0] I fun x R=>∃a_:U×U,x= .cw []∧R=fj I r j c (iK ws g) a_.1 a_.2∧(LV sv a_.1 g.snap (iK ws g).g.snap∧LV pv a_.2 g.ax (iK ws g).g.ax):=by
 refine jP (fun a_:U×U=> .cw []) (fun a_:U×U=>fj I r j c (iK ws g) a_.1 a_.2) (fun a_:U×U=>LV sv a_.1 g.snap (iK ws g).g.snap∧LV pv a_.2 g.ax (iK ws g).g.ax) oU mixed Tryz.func157 (by kernel_rfl) rfl (by kernel_rfl) ?_ ?_ ?_ ?_
 ·intros;rfl
 ·intros;rfl
 ·intro a ha;exact uY h ha.1 ha.2
 obtain⟨hr,hj,ne,hg,hw,hW,hl,gs,⟨c1,c2,c3,c4,c5,c6⟩,ls,lp⟩:=h
 have d_:∀X A B,(af.set (af.set X r A) j B)=(X.set j B).set r A:=fun X A B=>jB ne X A B
 have bt:=dF hw
 obtain⟨g1,g2,g3,g4,g5,g6,g7,g8,g9,MF,xx,⟨w1,w2,w3,w4,w5,w6⟩⟩:=gs
 unfold iK
 by_cases e1:g.pc=26
 ·by_cases b1:dp ws 2 (cK 1 g.slot g.ao g.seq)
  ·simp+contextual (maxSteps:=1000000) (disch:=first|exact dA|fail) [go_sem,int_lt,-Int.not_le,-Int.not_lt,oU,hg,hw,d_,bt,e1,b1,ag.complete,ag.zero]
   ((repeat refine Alt.mk ?_)<;>first|exact cQ|skip)
  ·simp+contextual (maxSteps:=1000000) (disch:=first|exact dA|fail) [go_sem,int_lt,-Int.not_le,-Int.not_lt,oU,hg,hw,d_,bt,e1,b1,ag.complete,ag.zero]
   ((repeat refine Alt.mk ?_)<;>first|exact cQ|skip)
 by_cases b1:dp ws 2 g.door
 ·cases b2:g.own
  ·simp+contextual (maxSteps:=1000000) (disch:=first|exact dA|fail) [go_sem,int_lt,-Int.not_le,-Int.not_lt,oU,hg,hw,d_,bt,e1,b1,b2,ag.complete,ag.zero]
   ((repeat refine Alt.mk ?_)<;>first|exact cQ|skip)
  ·simp+contextual (maxSteps:=1000000) (disch:=first|exact dA|fail) [go_sem,int_lt,-Int.not_le,-Int.not_lt,oU,hg,hw,d_,bt,e1,b1,b2,ag.complete,ag.zero]
   ((repeat refine Alt.mk ?_)<;>first|exact cQ|skip)
 ·cases b2:g.own
  ·simp+contextual (maxSteps:=1000000) (disch:=first|exact dA|fail) [go_sem,int_lt,-Int.not_le,-Int.not_lt,oU,hg,hw,d_,bt,e1,b1,b2,ag.complete,ag.zero]
   ((repeat refine Alt.mk ?_)<;>first|exact cQ|skip)
  ·simp+contextual (maxSteps:=1000000) (disch:=first|exact dA|fail) [go_sem,int_lt,-Int.not_le,-Int.not_lt,oU,hg,hw,d_,bt,e1,b1,b2,ag.complete,ag.zero]
   ((repeat refine Alt.mk ?_)<;>first|exact cQ|skip)
@[go_sem] def YT:=fun(I:af) r j c ws g sv pv h eU (aA:U→af→Prop)=>eK aA (Bi I r j c ws g sv pv h eU)
end AH
namespace AH
open Go Go.Proofs Ho
set_option maxRecDepth 20000
set_option maxHeartbeats 8000000
theorem Bf(I:af)(r j:Nat)(c:aM)(ws:List Int)(g:ag)(sv pv:U)(h:uy I r j c ws g sv pv)(eU:9≤g.pc∧g.pc≤10):Fn Tryz.prog 152 [.ptr r 0] I fun x R=>∃a_:U×U,x= .cw []∧R=fj I r j c (gM c ws g) a_.1 a_.2∧(LV sv a_.1 g.snap (gM c ws g).g.snap∧LV pv a_.2 g.ax (gM c ws g).g.ax):=by
 refine jP (fun a_:U×U=> .cw []) (fun a_:U×U=>fj I r j c (gM c ws g) a_.1 a_.2) (fun a_:U×U=>LV sv a_.1 g.snap (gM c ws g).g.snap∧LV pv a_.2 g.ax (gM c ws g).g.ax) kQ mixed Tryz.func152 (by kernel_rfl) rfl (by kernel_rfl) ?_ ?_ ?_ ?_
 ·intros;rfl
 ·intros;rfl
 ·intro a ha;exact uY h ha.1 ha.2
 obtain⟨hr,hj,ne,hg,hw,hW,hl,gs,⟨c1,c2,c3,c4,c5,c6⟩,ls,lp⟩:=h
 have d_:∀X A B,(af.set (af.set X r A) j B)=(X.set j B).set r A:=fun X A B=>jB ne X A B
 have bt:=dF hw
 obtain⟨g1,g2,g3,g4,g5,g6,g7,g8,g9,MF,xx,⟨w1,w2,w3,w4,w5,w6⟩⟩:=gs
 have nK:=dE hW 2
 have MR:=aO (w:=bm ws 2)
 unfold gM
 by_cases e1:g.pc=10
 ·by_cases b1:dp ws 2 g.door
  ·simp+contextual (maxSteps:=1000000) (disch:=first|exact dA|fail) [go_sem,int_lt,-Int.not_le,-Int.not_lt,kQ,hg,hw,d_,bt,e1,b1,dc,ag.complete,ag.zero]
   ((repeat refine Alt.mk ?_)<;>first|exact cQ|skip)
  ·simp+contextual (maxSteps:=1000000) (disch:=first|exact dA|fail) [go_sem,int_lt,-Int.not_le,-Int.not_lt,kQ,hg,hw,d_,bt,e1,b1,dc,ag.complete,ag.zero]
   ((repeat refine Alt.mk ?_)<;>first|exact cQ|skip)
 by_cases b1:aL (bm ws 2)≤1000000
 ·by_cases b2:aG (bm ws 2) % 4≤2
  ·by_cases b3:aG (bm ws 2) % 4=0
   ·by_cases b4:aL (bm ws 2)=1000000
    ·simp+contextual (maxSteps:=1000000) (disch:=first|exact dA|fail) [go_sem,int_lt,-Int.not_le,-Int.not_lt,kQ,hg,hw,d_,bt,e1,b1,b2,b3,b4,ag.complete,ag.zero]
     ((repeat refine Alt.mk ?_)<;>first|exact cQ|skip)
    ·simp+contextual (maxSteps:=1000000) (disch:=first|exact dA|fail) [go_sem,int_lt,-Int.not_le,-Int.not_lt,kQ,hg,hw,d_,bt,e1,b1,b2,b3,b4,ag.complete,ag.zero]
     ((repeat refine Alt.mk ?_)<;>first|exact cQ|skip)
   ·by_cases b4:c.am≤aG (bm ws 2)/4 % 8
    ·simp+contextual (maxSteps:=1000000) (disch:=first|exact dA|fail) [go_sem,int_lt,-Int.not_le,-Int.not_lt,kQ,hg,hw,d_,bt,e1,b1,b2,b3,b4,ag.complete,ag.zero]
     ((repeat refine Alt.mk ?_)<;>first|exact cQ|skip)
    ·by_cases b5:aG (bm ws 2) % 4=1
     ·simp+contextual (maxSteps:=1000000) (disch:=first|exact dA|fail) [go_sem,int_lt,-Int.not_le,-Int.not_lt,kQ,hg,hw,d_,bt,e1,b1,b2,b3,b4,b5,ag.complete,ag.zero]
      ((repeat refine Alt.mk ?_)<;>first|exact cQ|skip)
     ·simp+contextual (maxSteps:=1000000) (disch:=first|exact dA|fail) [go_sem,int_lt,-Int.not_le,-Int.not_lt,kQ,hg,hw,d_,bt,e1,b1,b2,b3,b4,b5,ag.complete,ag.zero]
      ((repeat refine Alt.mk ?_)<;>first|exact cQ|skip)
  ·simp+contextual (maxSteps:=1000000) (disch:=first|exact dA|fail) [go_sem,int_lt,-Int.not_le,-Int.not_lt,kQ,hg,hw,d_,bt,e1,b1,b2,ag.complete,ag.zero]
   ((repeat refine Alt.mk ?_)<;>first|exact cQ|skip)
 ·simp+contextual (maxSteps:=1000000) (disch:=first|exact dA|fail) [go_sem,int_lt,-Int.not_le,-Int.not_lt,kQ,hg,hw,d_,bt,e1,b1,ag.complete,ag.zero]
  ((repeat refine Alt.mk ?_)<;>first|exact cQ|skip)
@[go_sem] def YO:=fun(I:af) r j c ws g sv pv h eU (aA:U→af→Prop)=>eK aA (Bf I r j c ws g sv pv h eU)
end AH
