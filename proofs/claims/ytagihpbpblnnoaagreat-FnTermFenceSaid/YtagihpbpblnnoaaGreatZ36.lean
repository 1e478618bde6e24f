import Derived.Test.YtagihpbpblnnoaaGreatZ17
import Derived.Test.YtagihpbpblnnoaaGreatZ00
set_option linter.all false
namespace AH
open Go Go.Proofs Ho
set_option maxRecDepth 20000
set_option maxHeartbeats 8000000
theorem wC(I:af)(r j:Nat)(c:aM)(ws:List Int)(g:ag)(sv pv:U)(h:uy I r j c ws g sv pv)(eU:16≤g.pc∧g.pc≤20):Fn Tryz.prog 155 [.ptr r 0] I fun x R=>∃a_:U×U,x= .cw []∧R=fj I r j c (fQ c ws g) a_.1 a_.2∧(LV sv a_.1 g.snap (fQ c ws g).g.snap∧LV pv a_.2 g.ax (fQ c ws g).g.ax):=by
 refine jP (fun a_:U×U=> .cw []) (fun a_:U×U=>fj I r j c (fQ c ws g) a_.1 a_.2) (fun a_:U×U=>LV sv a_.1 g.snap (fQ c ws g).g.snap∧LV pv a_.2 g.ax (fQ c ws g).g.ax) iT mixed Tryz.func155 (by kernel_rfl) rfl (by kernel_rfl) ?_ ?_ ?_ ?_
 ·intros;rfl
 ·intros;rfl
 ·intro a ha;exact uY h ha.1 ha.2
 obtain⟨hr,hj,ne,hg,hw,hW,hl,gs,⟨c1,c2,c3,c4,c5,c6⟩,ls,lp⟩:=h
 have d_:∀X A B,(af.set (af.set X r A) j B)=(X.set j B).set r A:=fun X A B=>jB ne X A B
 have bt:=dF hw
 obtain⟨g1,g2,g3,g4,g5,g6,g7,g8,g9,MF,xx,⟨w1,w2,w3,w4,w5,w6⟩⟩:=gs
 have nK:=dE hW (bT c g.aX)
 have kM:=dE hW 1
 have MR:=aO (w:=bm ws (bT c g.aX))
 have aav:=aO (w:=bm ws 1)
 have agN:=aO (w:=g.aT)
 unfold fQ
 by_cases e1:g.pc=16
 ·by_cases b1:aG (bm ws (bT c g.aX)) % 4=1
  ·by_cases b2:aG (bm ws (bT c g.aX))/4=g.aK
   ·simp+contextual (maxSteps:=1000000) (disch:=first|exact dA|fail) [go_sem,int_lt,-Int.not_le,-Int.not_lt,iT,hg,hw,d_,bt,e1,b1,b2,ag.complete,ag.zero]
    ((repeat refine Alt.mk ?_)<;>first|exact cQ|skip)
   ·simp+contextual (maxSteps:=1000000) (disch:=first|exact dA|fail) [go_sem,int_lt,-Int.not_le,-Int.not_lt,iT,hg,hw,d_,bt,e1,b1,b2,ag.complete,ag.zero]
    ((repeat refine Alt.mk ?_)<;>first|exact cQ|skip)
  ·simp+contextual (maxSteps:=1000000) (disch:=first|exact dA|fail) [go_sem,int_lt,-Int.not_le,-Int.not_lt,iT,hg,hw,d_,bt,e1,b1,ag.complete,ag.zero]
   ((repeat refine Alt.mk ?_)<;>first|exact cQ|skip)
 by_cases e2:g.pc=17
 ·simp+contextual (maxSteps:=1000000) (disch:=first|exact dA|fail) [go_sem,int_lt,-Int.not_le,-Int.not_lt,iT,hg,hw,d_,bt,e1,e2,ag.complete,ag.zero]
  ((repeat refine Alt.mk ?_)<;>first|exact cQ|skip)
 by_cases e3:g.pc=18
 ·by_cases b1:g.aK≤aL g.aT
  ·by_cases b2:aL g.aT=g.aK
   ·by_cases b3:aG (bm ws 1)-aG g.aT≤c.bH
    ·simp+contextual (maxSteps:=1000000) (disch:=first|exact dA|fail) [go_sem,int_lt,-Int.not_le,-Int.not_lt,iT,hg,hw,d_,bt,e1,e2,e3,b1,b2,b3,ag.complete,ag.zero]
     ((repeat refine Alt.mk ?_)<;>first|exact cQ|skip)
    ·simp+contextual (maxSteps:=1000000) (disch:=first|exact dA|fail) [go_sem,int_lt,-Int.not_le,-Int.not_lt,iT,hg,hw,d_,bt,e1,e2,e3,b1,b2,b3,ag.complete,ag.zero]
     ((repeat refine Alt.mk ?_)<;>first|exact cQ|skip)
   ·simp+contextual (maxSteps:=1000000) (disch:=first|exact dA|fail) [go_sem,int_lt,-Int.not_le,-Int.not_lt,iT,hg,hw,d_,bt,e1,e2,e3,b1,b2,ag.complete,ag.zero]
    ((repeat refine Alt.mk ?_)<;>first|exact cQ|skip)
  ·have b2:¬aL g.aT=g.aK:=J
   simp+contextual (maxSteps:=1000000) (disch:=first|exact dA|fail) [go_sem,int_lt,-Int.not_le,-Int.not_lt,iT,hg,hw,d_,bt,e1,e2,e3,b1,b2,ag.complete,ag.zero]
   ((repeat refine Alt.mk ?_)<;>first|exact cQ|skip)
 by_cases e4:g.pc=19
 ·by_cases b1:dp ws (bT c g.aX) g.bw
  ·simp+contextual (maxSteps:=1000000) (disch:=first|exact dA|fail) [go_sem,int_lt,-Int.not_le,-Int.not_lt,iT,hg,hw,d_,bt,e1,e2,e3,e4,b1,ag.complete,ag.zero]
   ((repeat refine Alt.mk ?_)<;>first|exact cQ|skip)
  ·simp+contextual (maxSteps:=1000000) (disch:=first|exact dA|fail) [go_sem,int_lt,-Int.not_le,-Int.not_lt,iT,hg,hw,d_,bt,e1,e2,e3,e4,b1,ag.complete,ag.zero]
   ((repeat refine Alt.mk ?_)<;>first|exact cQ|skip)
 have e5:g.pc=20:=J
 by_cases b1:dp ws 2 (cK 1 g.aX g.aK g.seq)
 ·simp+contextual (maxSteps:=1000000) (disch:=first|exact dA|fail) [go_sem,int_lt,-Int.not_le,-Int.not_lt,iT,hg,hw,d_,bt,e1,e2,e3,e4,e5,b1,ag.complete,ag.zero]
  ((repeat refine Alt.mk ?_)<;>first|exact cQ|skip)
 ·simp+contextual (maxSteps:=1000000) (disch:=first|exact dA|fail) [go_sem,int_lt,-Int.not_le,-Int.not_lt,iT,hg,hw,d_,bt,e1,e2,e3,e4,e5,b1,ag.complete,ag.zero]
  ((repeat refine Alt.mk ?_)<;>first|exact cQ|skip)
@[go_sem] def Wr:=fun(I:af) r j c ws g sv pv h eU (aA:U→af→Prop)=>eK aA (wC I r j c ws g sv pv h eU)
end AH
