import Derived.Test.YtagihpbpblnnoaaGreatZ18
import Derived.Test.YtagihpbpblnnoaaGreatZ34
import Derived.Test.YtagihpbpblnnoaaGreatZ00
set_option linter.all false
namespace AH
open Go Go.Proofs Ho
set_option maxRecDepth 20000
set_option maxHeartbeats 8000000
theorem Lz(I:af)(r j:Nat)(c:aM)(ws:List Int)(g:ag)(sv pv:U)(h:uy I r j c ws g sv pv)(yE:bu .u64 I pv g.ax)(lY:cn pv≠r∨pv= .al)(eX:cn pv≠j∨pv= .al)(dO:(g.ax.length:Int)≤100000)(eU:g.pc=15):Fn Tryz.prog 213 [.ptr r 0] I fun x R=>∃a_:U×U,x= .cw []∧R=fj I r j c (fk c ws g) a_.1 a_.2∧(LV sv a_.1 g.snap (fk c ws g).g.snap∧LV pv a_.2 g.ax (fk c ws g).g.ax):=by
 refine jP (fun a_:U×U=> .cw []) (fun a_:U×U=>fj I r j c (fk c ws g) a_.1 a_.2) (fun a_:U×U=>LV sv a_.1 g.snap (fk c ws g).g.snap∧LV pv a_.2 g.ax (fk c ws g).g.ax) aZ mixed Tryz.func213 (by kernel_rfl) rfl (by kernel_rfl) ?_ ?_ ?_ ?_
 ·intros;rfl
 ·intros;rfl
 ·intro a ha;exact uY h ha.1 ha.2
 have oL:=h
 obtain⟨hr,hj,ne,hg,hw,hW,hl,gs,⟨c1,c2,c3,c4,c5,c6⟩,ls,lp⟩:=h
 have d_:∀X A B,(af.set (af.set X r A) j B)=(X.set j B).set r A:=fun X A B=>jB ne X A B
 have bt:=dF hw
 obtain⟨g1,g2,g3,g4,g5,g6,g7,g8,g9,MF,xx,⟨w1,w2,w3,w4,w5,w6⟩⟩:=gs
 have hlen:=yE.kB
 unfold fk
 by_cases b1:dp ws 2 (cK 1 g.slot g.ao g.seq)
 ·by_cases b2:1≤(g.ax.length:Int)
  ·simp+contextual (maxSteps:=1000000) (disch:=first|exact dA|fail) [go_sem,int_lt,-Int.not_le,-Int.not_lt,hg,hw,d_,bt,eU,b1,b2,dc,ag.continues,ag.complete,ag.zero]
   ((repeat refine Alt.mk ?_)<;>first|exact cQ|skip)
  ·simp+contextual (maxSteps:=1000000) (disch:=first|exact dA|fail) [go_sem,int_lt,-Int.not_le,-Int.not_lt,hg,hw,d_,bt,eU,b1,b2,dc,ag.continues,ag.complete,ag.zero]
   ((repeat refine Alt.mk ?_)<;>first|exact cQ|skip)
 ·simp+contextual (maxSteps:=1000000) (disch:=first|exact dA|fail) [go_sem,int_lt,-Int.not_le,-Int.not_lt,hg,hw,d_,bt,eU,b1,dc,ag.complete,ag.zero]
  ((repeat refine Alt.mk ?_)<;>first|exact cQ|skip)
@[go_sem] def YX:=fun(I:af) r j c ws g sv pv h yE lY eX dO eU (aA:U→af→Prop)=>eK aA (Lz I r j c ws g sv pv h yE lY eX dO eU)
end AH
namespace AH
open Go Go.Proofs Ho
set_option maxRecDepth 20000
set_option maxHeartbeats 8000000
theorem Be(I:af)(r j:Nat)(c:aM)(ws:List Int)(g:ag)(sv pv:U)(h:uy I r j c ws g sv pv)(yE:bu .u64 I pv g.ax)(lY:cn pv≠r∨pv= .al)(eX:cn pv≠j∨pv= .al)(dO:(g.ax.length:Int)≤100000)(hk:g.pc=14→0≤g.gk∧g.gk≤g.ax.length)(eU:13≤g.pc∧g.pc≤15):Fn Tryz.prog 154 [.ptr r 0] I fun x R=>∃a_:U×U,x= .cw []∧R=fj I r j c (fk c ws g) a_.1 a_.2∧(LV sv a_.1 g.snap (fk c ws g).g.snap∧LV pv a_.2 g.ax (fk c ws g).g.ax):=by
 refine jP (fun a_:U×U=> .cw []) (fun a_:U×U=>fj I r j c (fk c ws g) a_.1 a_.2) (fun a_:U×U=>LV sv a_.1 g.snap (fk c ws g).g.snap∧LV pv a_.2 g.ax (fk c ws g).g.ax) ir mixed Tryz.func154 (by kernel_rfl) rfl (by kernel_rfl) ?_ ?_ ?_ ?_
 ·intros;rfl
 ·intros;rfl
 ·intro a ha;exact uY h ha.1 ha.2
 have oL:=h
 obtain⟨hr,hj,ne,hg,hw,hW,hl,gs,⟨c1,c2,c3,c4,c5,c6⟩,ls,lp⟩:=h
 have d_:∀X A B,(af.set (af.set X r A) j B)=(X.set j B).set r A:=fun X A B=>jB ne X A B
 have bt:=dF hw
 obtain⟨g1,g2,g3,g4,g5,g6,g7,g8,g9,MF,xx,⟨w1,w2,w3,w4,w5,w6⟩⟩:=gs
 have hlen:=yE.kB
 have L9:0≤du c g.slot∧du c g.slot≤1000000:=by unfold du ed aP;split<;>omega
 have nK:=dE hW (du c g.slot+g.gk)
 by_cases e1:g.pc=13
 ·unfold fk
  by_cases b1:g.seq<aL (bm ws (du c g.slot+g.gk))
  ·simp+contextual (maxSteps:=1000000) (disch:=first|exact dA|fail) [go_sem,int_lt,-Int.not_le,-Int.not_lt,ir,hg,hw,d_,bt,e1,b1,ag.complete,ag.zero]
   ((repeat refine Alt.mk ?_)<;>first|exact cQ|skip)
  ·simp+contextual (maxSteps:=1000000) (disch:=first|exact dA|fail) [go_sem,int_lt,-Int.not_le,-Int.not_lt,ir,hg,hw,d_,bt,e1,b1,ag.complete,ag.zero]
   ((repeat refine Alt.mk ?_)<;>first|exact cQ|skip)
 by_cases e2:g.pc=14
 ·unfold fk ag.written
  have hkl:=hk e2
  by_cases b0:g.gk=0
  ·by_cases b1:g.bw=pack g.ax.length g.seq
   ·by_cases b3:1≤(g.ax.length:Int)
    ·simp+contextual (maxSteps:=1000000) (disch:=first|exact dA|fail) [go_sem,int_lt,-Int.not_le,-Int.not_lt,ir,hg,hw,d_,bt,e1,e2,b0,b1,b3,ag.complete,ag.zero]
     ((repeat refine Alt.mk ?_)<;>first|exact cQ|skip)
    ·simp+contextual (maxSteps:=1000000) (disch:=first|exact dA|fail) [go_sem,int_lt,-Int.not_le,-Int.not_lt,ir,hg,hw,d_,bt,e1,e2,b0,b1,b3,ag.complete,ag.zero]
     ((repeat refine Alt.mk ?_)<;>first|exact cQ|skip)
   ·by_cases b2:dp ws (du c g.slot) g.bw
    ·by_cases b3:1≤(g.ax.length:Int)
     ·simp+contextual (maxSteps:=1000000) (disch:=first|exact dA|fail) [go_sem,int_lt,-Int.not_le,-Int.not_lt,ir,hg,hw,d_,bt,e1,e2,b0,b1,b2,b3,dc,ag.complete,ag.zero]
      ((repeat refine Alt.mk ?_)<;>first|exact cQ|skip)
     ·simp+contextual (maxSteps:=1000000) (disch:=first|exact dA|fail) [go_sem,int_lt,-Int.not_le,-Int.not_lt,ir,hg,hw,d_,bt,e1,e2,b0,b1,b2,b3,dc,ag.complete,ag.zero]
      ((repeat refine Alt.mk ?_)<;>first|exact cQ|skip)
    ·simp+contextual (maxSteps:=1000000) (disch:=first|exact dA|fail) [go_sem,int_lt,-Int.not_le,-Int.not_lt,ir,hg,hw,d_,bt,e1,e2,b0,b1,b2,dc,ag.complete,ag.zero]
     ((repeat refine Alt.mk ?_)<;>first|exact cQ|skip)
  ·by_cases b1:g.bw=at_ g.ax (g.gk-1)
   ·by_cases b3:g.gk+1≤(g.ax.length:Int)
    ·simp+contextual (maxSteps:=1000000) (disch:=first|exact dA|fail) [go_sem,int_lt,-Int.not_le,-Int.not_lt,ir,hg,hw,d_,bt,e1,e2,b0,b1,b3,ag.complete,ag.zero]
     ((repeat refine Alt.mk ?_)<;>first|exact cQ|skip)
    ·simp+contextual (maxSteps:=1000000) (disch:=first|exact dA|fail) [go_sem,int_lt,-Int.not_le,-Int.not_lt,ir,hg,hw,d_,bt,e1,e2,b0,b1,b3,ag.complete,ag.zero]
     ((repeat refine Alt.mk ?_)<;>first|exact cQ|skip)
   ·by_cases b2:dp ws (du c g.slot+g.gk) g.bw
    ·by_cases b3:g.gk+1≤(g.ax.length:Int)
     ·simp+contextual (maxSteps:=1000000) (disch:=first|exact dA|fail) [go_sem,int_lt,-Int.not_le,-Int.not_lt,ir,hg,hw,d_,bt,e1,e2,b0,b1,b2,b3,dc,ag.complete,ag.zero]
      ((repeat refine Alt.mk ?_)<;>first|exact cQ|skip)
     ·simp+contextual (maxSteps:=1000000) (disch:=first|exact dA|fail) [go_sem,int_lt,-Int.not_le,-Int.not_lt,ir,hg,hw,d_,bt,e1,e2,b0,b1,b2,b3,dc,ag.complete,ag.zero]
      ((repeat refine Alt.mk ?_)<;>first|exact cQ|skip)
    ·simp+contextual (maxSteps:=1000000) (disch:=first|exact dA|fail) [go_sem,int_lt,-Int.not_le,-Int.not_lt,ir,hg,hw,d_,bt,e1,e2,b0,b1,b2,dc,ag.complete,ag.zero]
     ((repeat refine Alt.mk ?_)<;>first|exact cQ|skip)
 have e3:g.pc=15:=J
 simp+contextual (maxSteps:=1000000) (disch:=first|exact dA|fail) [go_sem,int_lt,-Int.not_le,-Int.not_lt,ir,hg,e1,e2,e3]
 ((repeat refine Alt.mk ?_)<;>first|exact cQ|skip)
@[go_sem] def YN:=fun(I:af) r j c ws g sv pv h yE lY eX dO hk eU (aA:U→af→Prop)=>eK aA (Be I r j c ws g sv pv h yE lY eX dO hk eU)
end AH
