import Derived.Test.YtagihpbpblnnoaaGreatZ43
import Derived.Test.YtagihpbpblnnoaaGreatZ00
set_option linter.all false
namespace AH
open Go Go.Proofs Ho
set_option maxRecDepth 20000
set_option maxHeartbeats 16000000
theorem JZ(I:af)(i k j:Nat)(bp:List U)(c:aM)(ws:List Int)(g:ag)(sv pv:U)(h:cZ I i k j bp c ws g sv pv)(hL:rF I i j g sv pv)(nX:g.pc=23):
 Fn Tryz.prog 201 [jD i k j c ws] I fun x R=>x= .int .i64 (write c ws g).ev∧fV I R i k j bp (write c ws g).so sv pv:=by
 generalize hG:(fun(x:U) (R:af)=>x= .int .i64 (write c ws g).ev∧fV I R i k j bp (write c ws g).so sv pv)=GG
 refine bA cD mixed Tryz.func201 (by kernel_rfl) rfl (by kernel_rfl) ?_
 obtain⟨hi,hj,gW,hk,hg,hw,hW,hl,hc,⟨Hu,Hv,Hw,Hx,rS,C9⟩,ok,ct⟩:=h
 have fS:∀(ws':List Int) (g':ag) (ev:Int),write c ws g=stay ws' g' ev→g'.snap=g.snap→g'.ax=g.ax→∀R:af,R.get i=some ⟨aB bp k (iG g' sv pv),true⟩→R.get j=some ⟨ws'.map (.int .u64),true⟩→(∀y,y<I.n→NE y i→NE y j→R.get y=I.get y)→I.n≤R.n→GG (.int .i64 ev) R:=fun ws' g' ev h h1 h2 R t1 t2 t3 t4=>by
  rw[←hG]
  simp only[h]
  exact⟨trivial,fV.same hL h1 h2 t1 t2 t3 t4⟩
 have fN:∀(ws':List Int) (g':ag) (cd vl ev:Int),write c ws g=fin ws' g' cd vl ev→∀R:af,R.get i=some ⟨aB bp k (iG (g'.complete cd vl) .al .al),true⟩→R.get j=some ⟨ws'.map (.int .u64),true⟩→(∀y,y<I.n→NE y i→NE y j→R.get y=I.get y)→I.n≤R.n→GG (.int .i64 ev) R:=fun ws' g' cd vl ev h R t1 t2 t3 t4=>by
  rw[←hG]
  simp only[h]
  exact⟨trivial,fV.none rfl rfl t1 t2 t3 t4⟩
 have cc:0≤g.count∧g.count<100000000:=ct
 have Df:j≠i:=Ne.symm gW
 have hp:=hL.p.v
 have dO:eC pv=some g.ax.length:=hp.elems.2
 have M6:cn pv≠i∨pv= .al:=hL.pi
 have QC:cn pv≠j∨pv= .al:=hL.pj
 have De:=hp.aQ
 have cL:=hc
 unfold aM.ok at cL
 unfold aM.size at hl
 unfold fR aM.im at ok
 have sl:0≤g.slot∧g.slot<c.am:=J
 have sq:0≤g.seq∧g.seq≤1000001:=J
 have kk:0≤g.gk∧g.gk≤1000:=J
 have PV:0≤g.gn∧g.gn≤20:=J
 have pl:(g.ax.length:Int)≤20:=J
 have k1:g.pc=13∨g.pc=14→g.gk≤g.ax.length:=J
 have k2:g.pc=22∨g.pc=23∨g.pc=24→(1≤g.gk∧g.gk≤g.gn)∧(g.own=true→g.gn=g.ax.length)∧0≤g.aX∧g.aX<c.am:=ok.2.2.2.2.2.2.2.2.2.2.2.2.2.2.2.2.2.2.1
 clear ok rS hG hL hc
 have jQ:¬g.pc=13:=J
 have jm:¬g.pc=14:=J
 have kW:¬g.pc=15:=J
 have mC:¬g.pc=22:=J
 have hc:c.ok:=by unfold aM.ok;exact cL
 have e2:=bF hW 2
 have e4:=bF hW (bx c g.slot+g.gk)
 have e5:=bF hW (bx c g.aX+g.gk)
 have e6:=bF hW (aG g.entry/1048576)
 have v0:=aO (w:=g.entry)
 have a0:0≤aG g.entry/1048576:=J
 have hlen:(ws.length:Int)<1000000:=J
 have aaV:=kZ.own hj hw
 ·obtain⟨⟨ka,kb⟩,kc,kd⟩:=k2 (.inr (.inl nX))
  generalize hA:at_ ws (aG g.entry/1048576)=A at*
  by_cases q:g.seq≤aL A
  ·obtain⟨G2,od⟩:∃x:ag,x={g with bw:=A,pc:=24,gk:=g.gk+1}:=⟨_,rfl⟩
   have jj:write c ws g=stay ws G2.continues 0:=by unfold write;rw[if_neg jQ,if_neg jm,if_neg kW,if_neg mC,if_pos nX];simp only[hA];rw[if_pos q,od]
   by_cases r:g.gn<g.gk+1
   ·have mH:G2.continues={G2 with gk:=0,pc:=25}:=by unfold ag.continues;rw[if_pos sT]
    have f:=fS _ _ _ (jj.trans sU) jC jC
    rw[od]at f
    clear fS fN jj mH od
    simp+contextual (maxSteps:=1000000) (disch:=first|exact dB|fail) [go_sem,int_lt,-Int.not_le,-Int.not_lt,-List.map_set,cD,hg,hw,dO,r,nX,hA,q,a0]
    (repeat refine Alt.mk ?_)
    first|exact f _ aI aI (fun y hy h1 h2=>by(first|exact bn|fail)) bc|trace_state
   cases ho:g.own
   ·have mH:G2.continues={G2 with pc:=22}:=by unfold ag.continues;rw[if_neg sT,if_neg (by rw[od];simp[ho])]
    have f:=fS _ _ _ (jj.trans sU) jC jC
    rw[od]at f
    clear fS fN jj mH od
    simp only[iG,ho]at f
    simp+contextual (maxSteps:=1000000) (disch:=first|exact dB|fail) [go_sem,int_lt,-Int.not_le,-Int.not_lt,-List.map_set,cD,hg,hw,dO,r,nX,hA,q,a0,ho]
    (repeat refine Alt.mk ?_)
    first|exact f _ aI aI (fun y hy h1 h2=>by(first|exact bn|fail)) bc|trace_state
   ·have kf:=kc ho
    have e9:at_ G2.ax (G2.gk-1)=at_ g.ax g.gk:=by rw[od];exact congrArg (at_ g.ax) py
    have mH:G2.continues={G2 with entry:=at_ g.ax g.gk,pc:=23}:=by unfold ag.continues;rw[if_neg sT,if_pos (by rw[od];exact ho),e9]
    have r1:g.gk+1≤g.ax.length:=J
    have f:=fS _ _ _ (jj.trans sU) jC jC
    rw[od]at f
    clear fS fN jj mH od
    simp only[iG,ho]at f
    simp+contextual (maxSteps:=1000000) (disch:=first|exact dB|fail) [go_sem,int_lt,-Int.not_le,-Int.not_lt,-List.map_set,cD,hg,hw,dO,r,nX,hA,q,a0,ho]
    (repeat refine Alt.mk ?_)
    first|exact f _ aI aI (fun y hy h1 h2=>by(first|exact bn|fail)) bc|trace_state
  ·skip
   have hm:write c ws g=stay ws {g with bw:=A,pc:=24} 0:=by unfold write;simp[nX,hA,q,a0]
   have f:=fS _ _ _ hm rfl rfl
   clear fS fN hm
   simp+contextual (maxSteps:=1000000) (disch:=first|exact dB|fail) [go_sem,int_lt,-Int.not_le,-Int.not_lt,-List.map_set,cD,hg,hw,dO,nX,hA,q,a0]
   (repeat refine Alt.mk ?_)
   first|exact f _ aI aI (fun y hy h1 h2=>by(first|exact bn|fail)) bc|trace_state
end AH
