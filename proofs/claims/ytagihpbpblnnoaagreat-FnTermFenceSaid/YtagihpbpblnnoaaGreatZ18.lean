import Derived.Test.YtagihpbpblnnoaaGreatZ17
import Derived.Test.YtagihpbpblnnoaaGreatZ00
set_option linter.all false
namespace AH
open Go Go.Proofs Ho
set_option maxRecDepth 20000
set_option maxHeartbeats 8000000
def cC(v:U)(n:Nat):Prop:=(v= .al∧n=0)∨∃i k e,v= .sl i k n e
theorem bu.kB{kk:IntKind}{I:af}{v:U}{xs:List Int}(h:bu kk I v xs):cC v xs.length:=by
 rcases h.ex with⟨rfl,rfl⟩|⟨i,k,rfl,_⟩
 ·exact .inl ⟨rfl,rfl⟩
 ·exact .inr ⟨_,_,_,rfl⟩
theorem Nr{e:TypeId}{v:U}{I:af}{n:Nat}(h:cC v n):Kc (some (.slice e)) v I=some (.int .i64 n,I):=by
 rcases h with⟨rfl,rfl⟩|⟨i,k,e,rfl⟩<;>rfl
attribute [go_sem] Nr
theorem D4(I:af)(r:Nat)(j nw:Nat)(cs cp cl:Int)(up:Bool)(slot:Int)(ao:Int)(busy:Bool)(aE:Int)(aH:Int)(oa:Int)(ob:Int)(pc:Int)(gk:Int)(gn:Int)(seq:Int)(next:Int)(aX:Int)(aK:Int)(own:Bool)(time:Int)(bw:Int)(door:Int)(aT:Int)(entry:Int)(sv:U)(pv:U)(code:Int)(val:Int)(count:Int)(cS:Int)(hg:I.get r=some ⟨[.sl j 0 nw 1,.int .i64 cs,.int .i64 cp,.int .i64 cl,.bool up,.int .i64 slot,.int .i64 ao,.bool busy,.int .i64 aE,.int .i64 aH,.int .i64 oa,.int .i64 ob,.int .i64 pc,.int .i64 gk,.int .i64 gn,.int .i64 seq,.int .i64 next,.int .i64 aX,.int .i64 aK,.bool own,.int .i64 time,.int .u64 bw,.int .u64 door,.int .u64 aT,.int .u64 entry,sv,pv,.int .i64 code,.int .i64 val,.int .i64 count,.int .i64 cS],true⟩)(h1:gn<gk):Fn Tryz.prog 217 [.ptr r 0] I fun x R=>x= .cw []∧R=I.set r ⟨[.sl j 0 nw 1,.int .i64 cs,.int .i64 cp,.int .i64 cl,.bool up,.int .i64 slot,.int .i64 ao,.bool busy,.int .i64 aE,.int .i64 aH,.int .i64 oa,.int .i64 ob,.int .i64 25,.int .i64 0,.int .i64 gn,.int .i64 seq,.int .i64 next,.int .i64 aX,.int .i64 aK,.bool own,.int .i64 time,.int .u64 bw,.int .u64 door,.int .u64 aT,.int .u64 entry,sv,pv,.int .i64 code,.int .i64 val,.int .i64 count,.int .i64 cS],true⟩:=by
 refine ec qM mixed Tryz.func217 (by kernel_rfl) rfl (by kernel_rfl) ?_ ?_ ?_ ?_
 ·rfl
 ·rfl
 ·exact dJ hg kx
 have qB:¬gk≤gn:=J
 simp+contextual (maxSteps:=1000000) (disch:=first|exact dA|fail) [go_sem,int_lt,-Int.not_le,-Int.not_lt,qM,hg,qB]
@[go_sem] def SS:=fun(I:af) r j nw cs cp cl up slot ao busy aE aH oa ob pc gk gn seq next aX aK own time bw door aT entry sv pv code val count cS hg h1 (aA:U→af→Prop)=>ar (k:=aA) (D4 I r j nw cs cp cl up slot ao busy aE aH oa ob pc gk gn seq next aX aK own time bw door aT entry sv pv code val count cS hg h1)
theorem D5(I:af)(r:Nat)(j nw:Nat)(cs cp cl:Int)(up:Bool)(slot:Int)(ao:Int)(busy:Bool)(aE:Int)(aH:Int)(oa:Int)(ob:Int)(pc:Int)(gk:Int)(gn:Int)(seq:Int)(next:Int)(aX:Int)(aK:Int)(own:Bool)(time:Int)(bw:Int)(door:Int)(aT:Int)(entry:Int)(sv:U)(pv:U)(code:Int)(val:Int)(count:Int)(cS:Int)(hg:I.get r=some ⟨[.sl j 0 nw 1,.int .i64 cs,.int .i64 cp,.int .i64 cl,.bool up,.int .i64 slot,.int .i64 ao,.bool busy,.int .i64 aE,.int .i64 aH,.int .i64 oa,.int .i64 ob,.int .i64 pc,.int .i64 gk,.int .i64 gn,.int .i64 seq,.int .i64 next,.int .i64 aX,.int .i64 aK,.bool own,.int .i64 time,.int .u64 bw,.int .u64 door,.int .u64 aT,.int .u64 entry,sv,pv,.int .i64 code,.int .i64 val,.int .i64 count,.int .i64 cS],true⟩)(h1:gk≤gn)(ho:own=false):Fn Tryz.prog 217 [.ptr r 0] I fun x R=>x= .cw []∧R=I.set r ⟨[.sl j 0 nw 1,.int .i64 cs,.int .i64 cp,.int .i64 cl,.bool up,.int .i64 slot,.int .i64 ao,.bool busy,.int .i64 aE,.int .i64 aH,.int .i64 oa,.int .i64 ob,.int .i64 22,.int .i64 gk,.int .i64 gn,.int .i64 seq,.int .i64 next,.int .i64 aX,.int .i64 aK,.bool own,.int .i64 time,.int .u64 bw,.int .u64 door,.int .u64 aT,.int .u64 entry,sv,pv,.int .i64 code,.int .i64 val,.int .i64 count,.int .i64 cS],true⟩:=by
 refine ec qM mixed Tryz.func217 (by kernel_rfl) rfl (by kernel_rfl) ?_ ?_ ?_ ?_
 ·rfl
 ·rfl
 ·exact dJ hg kx
 simp+contextual (maxSteps:=1000000) (disch:=first|exact dA|fail) [go_sem,int_lt,-Int.not_le,-Int.not_lt,qM,hg,ho,h1]
@[go_sem] def SU:=fun(I:af) r j nw cs cp cl up slot ao busy aE aH oa ob pc gk gn seq next aX aK own time bw door aT entry sv pv code val count cS hg h1 ho (aA:U→af→Prop)=>ar (k:=aA) (D5 I r j nw cs cp cl up slot ao busy aE aH oa ob pc gk gn seq next aX aK own time bw door aT entry sv pv code val count cS hg h1 ho)
theorem D6(I:af)(r:Nat)(pl:List Int)(j nw:Nat)(cs cp cl:Int)(up:Bool)(slot:Int)(ao:Int)(busy:Bool)(aE:Int)(aH:Int)(oa:Int)(ob:Int)(pc:Int)(gk:Int)(gn:Int)(seq:Int)(next:Int)(aX:Int)(aK:Int)(own:Bool)(time:Int)(bw:Int)(door:Int)(aT:Int)(entry:Int)(sv:U)(pv:U)(code:Int)(val:Int)(count:Int)(cS:Int)(hg:I.get r=some ⟨[.sl j 0 nw 1,.int .i64 cs,.int .i64 cp,.int .i64 cl,.bool up,.int .i64 slot,.int .i64 ao,.bool busy,.int .i64 aE,.int .i64 aH,.int .i64 oa,.int .i64 ob,.int .i64 pc,.int .i64 gk,.int .i64 gn,.int .i64 seq,.int .i64 next,.int .i64 aX,.int .i64 aK,.bool own,.int .i64 time,.int .u64 bw,.int .u64 door,.int .u64 aT,.int .u64 entry,sv,pv,.int .i64 code,.int .i64 val,.int .i64 count,.int .i64 cS],true⟩)(h1:gk≤gn)(ho:own=true)(hp:bu .u64 I pv pl)(hk:1≤gk∧gk≤pl.length∧(pl.length:Int)≤1000000):Fn Tryz.prog 217 [.ptr r 0] I fun x R=>x= .cw []∧R=I.set r ⟨[.sl j 0 nw 1,.int .i64 cs,.int .i64 cp,.int .i64 cl,.bool up,.int .i64 slot,.int .i64 ao,.bool busy,.int .i64 aE,.int .i64 aH,.int .i64 oa,.int .i64 ob,.int .i64 23,.int .i64 gk,.int .i64 gn,.int .i64 seq,.int .i64 next,.int .i64 aX,.int .i64 aK,.bool own,.int .i64 time,.int .u64 bw,.int .u64 door,.int .u64 aT,.int .u64 (at_ pl (gk-1)),sv,pv,.int .i64 code,.int .i64 val,.int .i64 count,.int .i64 cS],true⟩:=by
 refine ec qM mixed Tryz.func217 (by kernel_rfl) rfl (by kernel_rfl) ?_ ?_ ?_ ?_
 ·rfl
 ·rfl
 ·exact dJ hg kx
 simp+contextual (maxSteps:=1000000) (disch:=first|exact dA|fail) [go_sem,int_lt,-Int.not_le,-Int.not_lt,qM,hg,ho,h1]
@[go_sem] def SV:=fun(I:af) r pl j nw cs cp cl up slot ao busy aE aH oa ob pc gk gn seq next aX aK own time bw door aT entry sv pv code val count cS hg h1 ho hp hk (aA:U→af→Prop)=>ar (k:=aA) (D6 I r pl j nw cs cp cl up slot ao busy aE aH oa ob pc gk gn seq next aX aK own time bw door aT entry sv pv code val count cS hg h1 ho hp hk)
theorem wD(I:af)(r:Nat)(pn:Nat)(j nw:Nat)(cs cp cl:Int)(up:Bool)(slot:Int)(ao:Int)(busy:Bool)(aE:Int)(aH:Int)(oa:Int)(ob:Int)(pc:Int)(gk:Int)(gn:Int)(seq:Int)(next:Int)(aX:Int)(aK:Int)(own:Bool)(time:Int)(bw:Int)(door:Int)(aT:Int)(entry:Int)(sv:U)(pv:U)(code:Int)(val:Int)(count:Int)(cS:Int)(hg:I.get r=some ⟨[.sl j 0 nw 1,.int .i64 cs,.int .i64 cp,.int .i64 cl,.bool up,.int .i64 slot,.int .i64 ao,.bool busy,.int .i64 aE,.int .i64 aH,.int .i64 oa,.int .i64 ob,.int .i64 pc,.int .i64 gk,.int .i64 gn,.int .i64 seq,.int .i64 next,.int .i64 aX,.int .i64 aK,.bool own,.int .i64 time,.int .u64 bw,.int .u64 door,.int .u64 aT,.int .u64 entry,sv,pv,.int .i64 code,.int .i64 val,.int .i64 count,.int .i64 cS],true⟩)(hk:gk=0)(hp:cC pv pn):Fn Tryz.prog 212 [.ptr r 0] I fun x R=>x= .int .u64 (pack pn seq)∧R=I:=by
 refine ay yb mixed Tryz.func212 (by kernel_rfl) rfl (by kernel_rfl) bE ?_
 simp+contextual (maxSteps:=1000000) (disch:=first|exact dA|fail) [go_sem,int_lt,-Int.not_le,-Int.not_lt,yb,hg,hk,hp]
@[go_sem] def Wu:=fun(I:af) r pn j nw cs cp cl up slot ao busy aE aH oa ob pc gk gn seq next aX aK own time bw door aT entry sv pv code val count cS hg hk hp (aA:U→af→Prop)=>ar (k:=aA) (wD I r pn j nw cs cp cl up slot ao busy aE aH oa ob pc gk gn seq next aX aK own time bw door aT entry sv pv code val count cS hg hk hp)
@[go_sem] def Wt:=fun(I:af) (b_:Bool) (r:Nat) (pn:Nat) (j nw:Nat) (cs cp cl:Int) (up:Bool) (slot:Int) (ao:Int) (busy:Bool) (aE:Int) (aH:Int) (oa:Int) (ob:Int) (pc:Int) (gk:Int) (gn:Int) (seq:Int) (next:Int) (aX:Int) (aK:Int) (own:Bool) (time:Int) (bw:Int) (door:Int) (aT:Int) (entry:Int) (sv:U) (pv:U) (code:Int) (val:Int) (count:Int) (cS:Int) (hg:b_=true→ I.get r=some ⟨[.sl j 0 nw 1,.int .i64 cs,.int .i64 cp,.int .i64 cl,.bool up,.int .i64 slot,.int .i64 ao,.bool busy,.int .i64 aE,.int .i64 aH,.int .i64 oa,.int .i64 ob,.int .i64 pc,.int .i64 gk,.int .i64 gn,.int .i64 seq,.int .i64 next,.int .i64 aX,.int .i64 aK,.bool own,.int .i64 time,.int .u64 bw,.int .u64 door,.int .u64 aT,.int .u64 entry,sv,pv,.int .i64 code,.int .i64 val,.int .i64 count,.int .i64 cS],true⟩) (hk:b_=true→ gk=0) (hp:b_=true→ cC pv pn) (aA:U→af→Prop)=>aJ (k:=aA) b_ fun aY=>wD I r pn j nw cs cp cl up slot ao busy aE aH oa ob pc gk gn seq next aX aK own time bw door aT entry sv pv code val count cS (hg aY) (hk aY) (hp aY)
theorem Bm(I:af)(r:Nat)(pl:List Int)(j nw:Nat)(cs cp cl:Int)(up:Bool)(slot:Int)(ao:Int)(busy:Bool)(aE:Int)(aH:Int)(oa:Int)(ob:Int)(pc:Int)(gk:Int)(gn:Int)(seq:Int)(next:Int)(aX:Int)(aK:Int)(own:Bool)(time:Int)(bw:Int)(door:Int)(aT:Int)(entry:Int)(sv:U)(pv:U)(code:Int)(val:Int)(count:Int)(cS:Int)(hg:I.get r=some ⟨[.sl j 0 nw 1,.int .i64 cs,.int .i64 cp,.int .i64 cl,.bool up,.int .i64 slot,.int .i64 ao,.bool busy,.int .i64 aE,.int .i64 aH,.int .i64 oa,.int .i64 ob,.int .i64 pc,.int .i64 gk,.int .i64 gn,.int .i64 seq,.int .i64 next,.int .i64 aX,.int .i64 aK,.bool own,.int .i64 time,.int .u64 bw,.int .u64 door,.int .u64 aT,.int .u64 entry,sv,pv,.int .i64 code,.int .i64 val,.int .i64 count,.int .i64 cS],true⟩)(hp:bu .u64 I pv pl)(hk:1≤gk∧gk≤pl.length∧(pl.length:Int)≤1000000):Fn Tryz.prog 212 [.ptr r 0] I fun x R=>x= .int .u64 (at_ pl (gk-1))∧R=I:=by
 refine ay yb mixed Tryz.func212 (by kernel_rfl) rfl (by kernel_rfl) bE ?_
 have gY:¬gk=0:=J
 simp+contextual (maxSteps:=1000000) (disch:=first|exact dA|fail) [go_sem,int_lt,-Int.not_le,-Int.not_lt,yb,hg,gY]
@[go_sem] def YZ:=fun(I:af) r pl j nw cs cp cl up slot ao busy aE aH oa ob pc gk gn seq next aX aK own time bw door aT entry sv pv code val count cS hg hp hk (aA:U→af→Prop)=>ar (k:=aA) (Bm I r pl j nw cs cp cl up slot ao busy aE aH oa ob pc gk gn seq next aX aK own time bw door aT entry sv pv code val count cS hg hp hk)
@[go_sem] def YY:=fun(I:af) (b_:Bool) (r:Nat) (pl:List Int) (j nw:Nat) (cs cp cl:Int) (up:Bool) (slot:Int) (ao:Int) (busy:Bool) (aE:Int) (aH:Int) (oa:Int) (ob:Int) (pc:Int) (gk:Int) (gn:Int) (seq:Int) (next:Int) (aX:Int) (aK:Int) (own:Bool) (time:Int) (bw:Int) (door:Int) (aT:Int) (entry:Int) (sv:U) (pv:U) (code:Int) (val:Int) (count:Int) (cS:Int) (hg:b_=true→ I.get r=some ⟨[.sl j 0 nw 1,.int .i64 cs,.int .i64 cp,.int .i64 cl,.bool up,.int .i64 slot,.int .i64 ao,.bool busy,.int .i64 aE,.int .i64 aH,.int .i64 oa,.int .i64 ob,.int .i64 pc,.int .i64 gk,.int .i64 gn,.int .i64 seq,.int .i64 next,.int .i64 aX,.int .i64 aK,.bool own,.int .i64 time,.int .u64 bw,.int .u64 door,.int .u64 aT,.int .u64 entry,sv,pv,.int .i64 code,.int .i64 val,.int .i64 count,.int .i64 cS],true⟩) (hp:b_=true→ bu .u64 I pv pl) (hk:b_=true→ 1≤gk∧gk≤pl.length∧(pl.length:Int)≤1000000) (aA:U→af→Prop)=>aJ (k:=aA) b_ fun aY=>Bm I r pl j nw cs cp cl up slot ao busy aE aH oa ob pc gk gn seq next aX aK own time bw door aT entry sv pv code val count cS (hg aY) (hp aY) (hk aY)
end AH
namespace AH
open Go Go.Proofs Ho
set_option maxRecDepth 20000
set_option maxHeartbeats 8000000
theorem Fb(I:af)(r j:Nat)(c:aM)(ws:List Int)(g:ag)(sv pv:U)(h:uy I r j c ws g sv pv)(yE:bu .u64 I pv g.ax)(lY:cn pv≠r∨pv= .al)(eX:cn pv≠j∨pv= .al)(dO:(g.ax.length:Int)≤100000)(ho:g.own=true→23≤g.pc)(hk:23≤g.pc→g.own=true→0≤g.gk∧g.gn≤g.ax.length)(eU:21≤g.pc∧g.pc≤24):Fn Tryz.prog 156 [.ptr r 0] I fun x R=>∃a_:U×U,x= .cw []∧R=fj I r j c (kt c ws g) a_.1 a_.2∧(LV sv a_.1 g.snap (kt c ws g).g.snap∧LV pv a_.2 g.ax (kt c ws g).g.ax):=by
 refine jP (fun a_:U×U=> .cw []) (fun a_:U×U=>fj I r j c (kt c ws g) a_.1 a_.2) (fun a_:U×U=>LV sv a_.1 g.snap (kt c ws g).g.snap∧LV pv a_.2 g.ax (kt c ws g).g.ax) g_ mixed Tryz.func156 (by kernel_rfl) rfl (by kernel_rfl) ?_ ?_ ?_ ?_
 ·intros;rfl
 ·intros;rfl
 ·intro a ha;exact uY h ha.1 ha.2
 obtain⟨hr,hj,ne,hg,hw,hW,hl,gs,⟨c1,c2,c3,c4,c5,c6⟩,ls,lp⟩:=h
 have d_:∀X A B,(af.set (af.set X r A) j B)=(X.set j B).set r A:=fun X A B=>jB ne X A B
 have bt:=dF hw
 obtain⟨g1,g2,g3,g4,g5,g6,g7,g8,g9,MF,xx,⟨w1,w2,w3,w4,w5,w6⟩⟩:=gs
 have nK:=dE hW (du c g.aX)
 have kM:=dE hW (du c g.aX+g.gk)
 have vP:=dE hW (aG g.entry/1048576)
 have L9:0≤du c g.aX∧du c g.aX≤1000000:=by unfold du ed aP;split<;>omega
 have MR:=aO (w:=bm ws (du c g.aX))
 have aav:=aO (w:=g.entry)
 unfold kt
 by_cases e1:g.pc=21
 ·have ho1:g.own=false:=by cases hq:g.own;rfl;exact absurd (ho hq) J
  by_cases b1:aL (bm ws (du c g.aX))=g.seq
  ·by_cases b2:aG (bm ws (du c g.aX))≤20
   ·by_cases b3:1≤aG (bm ws (du c g.aX))
    ·simp+contextual (maxSteps:=1000000) (disch:=first|exact dA|fail) [go_sem,int_lt,-Int.not_le,-Int.not_lt,g_,hg,hw,d_,bt,e1,b1,b2,b3,ho1,ag.continues,ag.complete,ag.zero]
     ((repeat refine Alt.mk ?_)<;>first|exact cQ|skip)
    ·simp+contextual (maxSteps:=1000000) (disch:=first|exact dA|fail) [go_sem,int_lt,-Int.not_le,-Int.not_lt,g_,hg,hw,d_,bt,e1,b1,b2,b3,ho1,ag.continues,ag.complete,ag.zero]
     ((repeat refine Alt.mk ?_)<;>first|exact cQ|skip)
   ·simp+contextual (maxSteps:=1000000) (disch:=first|exact dA|fail) [go_sem,int_lt,-Int.not_le,-Int.not_lt,g_,hg,hw,d_,bt,e1,b1,b2,ag.complete,ag.zero]
    ((repeat refine Alt.mk ?_)<;>first|exact cQ|skip)
  ·simp+contextual (maxSteps:=1000000) (disch:=first|exact dA|fail) [go_sem,int_lt,-Int.not_le,-Int.not_lt,g_,hg,hw,d_,bt,e1,b1,ag.complete,ag.zero]
   ((repeat refine Alt.mk ?_)<;>first|exact cQ|skip)
 by_cases e2:g.pc=22
 ·by_cases b1:aL (bm ws (du c g.aX+g.gk))=g.seq
  ·simp+contextual (maxSteps:=1000000) (disch:=first|exact dA|fail) [go_sem,int_lt,-Int.not_le,-Int.not_lt,g_,hg,hw,d_,bt,e1,e2,b1,ag.complete,ag.zero]
   ((repeat refine Alt.mk ?_)<;>first|exact cQ|skip)
  ·simp+contextual (maxSteps:=1000000) (disch:=first|exact dA|fail) [go_sem,int_lt,-Int.not_le,-Int.not_lt,g_,hg,hw,d_,bt,e1,e2,b1,ag.complete,ag.zero]
   ((repeat refine Alt.mk ?_)<;>first|exact cQ|skip)
 have rh:=hk J
 by_cases e3:g.pc=23
 ·by_cases b1:g.seq≤aL (bm ws (aG g.entry/1048576))
  ·by_cases b3:g.gk+1≤g.gn
   ·cases b4:g.own with
    |false=>
     simp+contextual (maxSteps:=1000000) (disch:=first|exact dA|fail) [go_sem,int_lt,-Int.not_le,-Int.not_lt,g_,hg,hw,d_,bt,e1,e2,e3,b1,b3,b4,ag.continues,ag.complete,ag.zero]
     ((repeat refine Alt.mk ?_)<;>first|exact cQ|skip)
    |true=>
     have uV:=rh b4
     simp+contextual (maxSteps:=1000000) (disch:=first|exact dA|fail) [go_sem,int_lt,-Int.not_le,-Int.not_lt,g_,hg,hw,d_,bt,e1,e2,e3,b1,b3,b4,ag.continues,ag.complete,ag.zero]
     ((repeat refine Alt.mk ?_)<;>first|exact cQ|skip)
   ·simp+contextual (maxSteps:=1000000) (disch:=first|exact dA|fail) [go_sem,int_lt,-Int.not_le,-Int.not_lt,g_,hg,hw,d_,bt,e1,e2,e3,b1,b3,ag.continues,ag.complete,ag.zero]
    ((repeat refine Alt.mk ?_)<;>first|exact cQ|skip)
  ·simp+contextual (maxSteps:=1000000) (disch:=first|exact dA|fail) [go_sem,int_lt,-Int.not_le,-Int.not_lt,g_,hg,hw,d_,bt,e1,e2,e3,b1,ag.complete,ag.zero]
   ((repeat refine Alt.mk ?_)<;>first|exact cQ|skip)
 have e4:g.pc=24:=J
 by_cases b1:dp ws (aG g.entry/1048576) g.bw
 ·by_cases b3:g.gk+1≤g.gn
  ·cases b4:g.own with
   |false=>
    simp+contextual (maxSteps:=1000000) (disch:=first|exact dA|fail) [go_sem,int_lt,-Int.not_le,-Int.not_lt,g_,hg,hw,d_,bt,e1,e2,e3,e4,b1,b3,b4,dc,ag.continues,ag.complete,ag.zero]
    ((repeat refine Alt.mk ?_)<;>first|exact cQ|skip)
   |true=>
    have uV:=rh b4
    simp+contextual (maxSteps:=1000000) (disch:=first|exact dA|fail) [go_sem,int_lt,-Int.not_le,-Int.not_lt,g_,hg,hw,d_,bt,e1,e2,e3,e4,b1,b3,b4,dc,ag.continues,ag.complete,ag.zero]
    ((repeat refine Alt.mk ?_)<;>first|exact cQ|skip)
  ·simp+contextual (maxSteps:=1000000) (disch:=first|exact dA|fail) [go_sem,int_lt,-Int.not_le,-Int.not_lt,g_,hg,hw,d_,bt,e1,e2,e3,e4,b1,b3,dc,ag.continues,ag.complete,ag.zero]
   ((repeat refine Alt.mk ?_)<;>first|exact cQ|skip)
 ·simp+contextual (maxSteps:=1000000) (disch:=first|exact dA|fail) [go_sem,int_lt,-Int.not_le,-Int.not_lt,g_,hg,hw,d_,bt,e1,e2,e3,e4,b1,dc,ag.complete,ag.zero]
  ((repeat refine Alt.mk ?_)<;>first|exact cQ|skip)
@[go_sem] def adG:=fun(I:af) r j c ws g sv pv h yE lY eX dO ho hk eU (aA:U→af→Prop)=>eK aA (Fb I r j c ws g sv pv h yE lY eX dO ho hk eU)
end AH
