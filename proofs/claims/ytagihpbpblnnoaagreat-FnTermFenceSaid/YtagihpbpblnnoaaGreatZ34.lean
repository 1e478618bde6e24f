import Derived.Test.YtagihpbpblnnoaaGreatZ17
import Derived.Test.YtagihpbpblnnoaaGreatZ00
set_option linter.all false
namespace AH
open Go Go.Proofs Ho
set_option maxRecDepth 20000
set_option maxHeartbeats 8000000
theorem uy.push{I:af}{r j:Nat}{c:aM}{ws:List Int}{g:ag}{sv pv:U}(h:uy I r j c ws g sv pv){B:cT}:uy (I.push B) r j c ws g sv pv:=
 ⟨by have:=h.hr;simp;omega,by have:=h.hj;simp;omega,h.ne,by rw[ak h.hr];exact h.hg,by rw[ak h.hj];exact h.hw,h.W,h.len,h.gs,h.cs,h.ls,h.lp⟩
theorem GO{I:af}{r j:Nat}{c:aM}{o:SO}{sv pv:U}{B:cT}(hr:r<I.n)(hj:j<I.n):fj (I.push B) r j c o sv pv=(fj I r j c o sv pv).push B:=by
 unfold fj
 rw[nu hj,nu (by simpa using hr)]
attribute [go_sem] GO
theorem wA(I:af)(r j:Nat)(c:aM)(ws:List Int)(g:ag)(sv pv:U)(h:uy I r j c ws g sv pv)(eU:g.pc=4):Fn Tryz.prog 206 [.ptr r 0] I fun x R=>∃a_:U×U,x= .cw []∧R=fj I r j c (bS c ws g) a_.1 a_.2∧(LV sv a_.1 g.snap (bS c ws g).g.snap∧LV pv a_.2 g.ax (bS c ws g).g.ax):=by
 refine jP (fun a_:U×U=> .cw []) (fun a_:U×U=>fj I r j c (bS c ws g) a_.1 a_.2) (fun a_:U×U=>LV sv a_.1 g.snap (bS c ws g).g.snap∧LV pv a_.2 g.ax (bS c ws g).g.ax) kR mixed Tryz.func206 (by kernel_rfl) rfl (by kernel_rfl) ?_ ?_ ?_ ?_
 ·intros;rfl
 ·intros;rfl
 ·intro a ha;exact uY h ha.1 ha.2
 have oL:=h
 obtain⟨hr,hj,ne,hg,hw,hW,hl,gs,⟨c1,c2,c3,c4,c5,c6⟩,ls,lp⟩:=h
 have d_:∀X A B,(af.set (af.set X r A) j B)=(X.set j B).set r A:=fun X A B=>jB ne X A B
 have bt:=dF hw
 obtain⟨g1,g2,g3,g4,g5,g6,g7,g8,g9,MF,xx,⟨w1,w2,w3,w4,w5,w6⟩⟩:=gs
 have hsf:∀x,bS c ws g=x→bS c ws g=x:=fun x h=>h
 simp+contextual (maxSteps:=1000000) (disch:=first|exact dA|fail) [go_sem,int_lt,-Int.not_le,-Int.not_lt,kR,hg,eU]
 ((repeat refine Alt.mk ?_)<;>first|exact cQ|skip)
@[go_sem] def Wo:=fun(I:af) r j c ws g sv pv h eU (aA:U→af→Prop)=>eK aA (wA I r j c ws g sv pv h eU)
theorem G6(I:af)(r j:Nat)(c:aM)(ws:List Int)(g:ag)(sv pv:U)(h:uy I r j c ws g sv pv)(eU:4≤g.pc∧g.pc≤8):
 Fn Tryz.prog 206 [.ptr r 0] I fun x R=>∃a_:U×U,x= .cw []∧R=fj I r j c (bS c ws g) a_.1 a_.2∧LV sv a_.1 g.snap (bS c ws g).g.snap∧LV pv a_.2 g.ax (bS c ws g).g.ax:=by
 by_cases e:g.pc=4
 ·exact wA I r j c ws g sv pv h e
 ·exact Bd I r j c ws g sv pv h J
@[go_sem] theorem Wp(I:af)(r j:Nat)(c:aM)(ws:List Int)(g:ag)(sv pv:U)(h:uy I r j c ws g sv pv)(eU:4≤g.pc∧g.pc≤8)(aA:U→af→Prop):
 @dN Tryz.prog (.fn 206 [] []) [.ptr r 0] I ⟨aA⟩= @Alt (∀a_:U×U,(LV sv a_.1 g.snap (bS c ws g).g.snap∧LV pv a_.2 g.ax (bS c ws g).g.ax)→aA (.cw []) (fj I r j c (bS c ws g) a_.1 a_.2)) ⟨@dN Tryz.prog (.fn 206 [] []) [.ptr r 0] I ⟨aA⟩⟩:=
 eK (α:=U×U) (V:=fun _=> .cw []) (H:=fun a_=>fj I r j c (bS c ws g) a_.1 a_.2) (F:=fun a_=>LV sv a_.1 g.snap (bS c ws g).g.snap∧LV pv a_.2 g.ax (bS c ws g).g.ax) aA (G6 I r j c ws g sv pv h eU)
theorem wB(I:af)(r j:Nat)(c:aM)(ws:List Int)(g:ag)(sv pv:U)(h:uy I r j c ws g sv pv)(eU:1≤g.pc∧g.pc≤8):Fn Tryz.prog 151 [.ptr r 0] I fun x R=>∃a_:U×U,x= .cw []∧R=fj I r j c (bS c ws g) a_.1 a_.2∧(LV sv a_.1 g.snap (bS c ws g).g.snap∧LV pv a_.2 g.ax (bS c ws g).g.ax):=by
 refine jP (fun a_:U×U=> .cw []) (fun a_:U×U=>fj I r j c (bS c ws g) a_.1 a_.2) (fun a_:U×U=>LV sv a_.1 g.snap (bS c ws g).g.snap∧LV pv a_.2 g.ax (bS c ws g).g.ax) nl mixed Tryz.func151 (by kernel_rfl) rfl (by kernel_rfl) ?_ ?_ ?_ ?_
 ·intros;rfl
 ·intros;rfl
 ·intro a ha;exact uY h ha.1 ha.2
 have oL:=h
 obtain⟨hr,hj,ne,hg,hw,hW,hl,gs,⟨c1,c2,c3,c4,c5,c6⟩,ls,lp⟩:=h
 have d_:∀X A B,(af.set (af.set X r A) j B)=(X.set j B).set r A:=fun X A B=>jB ne X A B
 have bt:=dF hw
 obtain⟨g1,g2,g3,g4,g5,g6,g7,g8,g9,MF,xx,⟨w1,w2,w3,w4,w5,w6⟩⟩:=gs
 have nK:=dE hW (dn c g.slot)
 have kM:=dE hW 1
 have MR:=aO (w:=bm ws 1)
 by_cases e1:g.pc=1
 ·unfold bS
  by_cases b1:g.ao<aL (bm ws (dn c g.slot))
  ·simp+contextual (maxSteps:=1000000) (disch:=first|exact dA|fail) [go_sem,int_lt,-Int.not_le,-Int.not_lt,nl,hg,hw,d_,bt,e1,b1,ag.complete,ag.zero]
   ((repeat refine Alt.mk ?_)<;>first|exact cQ|skip)
  ·simp+contextual (maxSteps:=1000000) (disch:=first|exact dA|fail) [go_sem,int_lt,-Int.not_le,-Int.not_lt,nl,hg,hw,d_,bt,e1,b1,ag.complete,ag.zero]
   ((repeat refine Alt.mk ?_)<;>first|exact cQ|skip)
 by_cases e2:g.pc=2
 ·unfold bS
  simp+contextual (maxSteps:=1000000) (disch:=first|exact dA|fail) [go_sem,int_lt,-Int.not_le,-Int.not_lt,nl,hg,hw,d_,bt,e1,e2,ag.complete,ag.zero]
  ((repeat refine Alt.mk ?_)<;>first|exact cQ|skip)
 by_cases e3:g.pc=3
 ·unfold bS
  by_cases b1:g.bw=pack g.time g.ao
  ·simp+contextual (maxSteps:=1000000) (disch:=first|exact dA|fail) [go_sem,int_lt,-Int.not_le,-Int.not_lt,nl,hg,hw,d_,bt,e1,e2,e3,b1,ag.complete,ag.zero]
   ((repeat refine Alt.mk ?_)<;>first|exact cQ|skip)
  ·by_cases b2:dp ws (dn c g.slot) g.bw
   ·simp+contextual (maxSteps:=1000000) (disch:=first|exact dA|fail) [go_sem,int_lt,-Int.not_le,-Int.not_lt,nl,hg,hw,d_,bt,e1,e2,e3,b1,b2,ag.complete,ag.zero]
    ((repeat refine Alt.mk ?_)<;>first|exact cQ|skip)
   ·simp+contextual (maxSteps:=1000000) (disch:=first|exact dA|fail) [go_sem,int_lt,-Int.not_le,-Int.not_lt,nl,hg,hw,d_,bt,e1,e2,e3,b1,b2,ag.complete,ag.zero]
    ((repeat refine Alt.mk ?_)<;>first|exact cQ|skip)
 have e4:4≤g.pc∧g.pc≤8:=J
 simp+contextual (maxSteps:=1000000) (disch:=first|exact dA|fail) [go_sem,int_lt,-Int.not_le,-Int.not_lt,nl,hg,e1,e2,e3]
 ((repeat refine Alt.mk ?_)<;>first|exact cQ|skip)
@[go_sem] def Wq:=fun(I:af) r j c ws g sv pv h eU (aA:U→af→Prop)=>eK aA (wB I r j c ws g sv pv h eU)
end AH
