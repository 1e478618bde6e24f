import Derived.Test.YtagihpbpblnnoaaGreatZ43
import Derived.Test.YtagihpbpblnnoaaGreatZ00
set_option linter.all false
namespace AH
open Go Go.Proofs Ho
set_option maxRecDepth 20000
set_option maxHeartbeats 16000000
theorem JW(I:af)(i k j:Nat)(bp:List U)(c:aM)(ws:List Int)(g:ag)(sv pv:U)(h:cZ I i k j bp c ws g sv pv)(hL:rF I i j g sv pv)(jm:g.pc=14):
 Fn Tryz.prog 201 [jD i k j c ws] I fun x R=>x= .int .i64 (write c ws g).ev∧fV I R i k j bp (write c ws g).so sv pv:=by
 generalize hG:(fun(x:U) (R:af)=>x= .int .i64 (write c ws g).ev∧fV I R i k j bp (write c ws g).so sv pv)=GG
 refine bA cD mixed Tryz.func201 (by kernel_rfl) rfl (by kernel_rfl) ?_
 obtain⟨hi,hj,gW,hk,hg,hw,hW,hl,hc,⟨Hu,Hv,Hw,Hx,rS,C9⟩,ok,ct⟩:=h
 have fS:∀(ws':List Int) (g':ag) (ev:Int),write c ws g=stay ws' g' ev→g'.snap=g.snap→g'.ax=g.ax→∀R:af,R.get i=some ⟨aB bp k (iG g' sv pv),true⟩→R.get j=some ⟨ws'.map (.int .u64),true⟩→(∀y,y<I.n→NE y i→NE y j→R.get y=I.get y)→I.n≤R.n→GG (.int .i64 ev) R:=fun ws' g' ev h h1 h2 R t1 t2 t3 t4=>by
  rw[←hG]
  simp only[h]
  exact⟨trivial,fV.same hL h1 h2 t1 t2 t3 t4⟩
 have fN:∀(ws':List Int) (g':ag) (cd vl ev:Int),write c ws g=fin ws' g' cd vl ev→∀R:af,R.get i=some ⟨aB bp k (iG (g'.complete cd vl) .al .al),true⟩→R.get j=some ⟨ws'.map (.int .u64),true⟩→(∀y,y<I.n→NE y i→NE y j→R.get y=I.get y)→I.n≤R.n→GG (.int .i64 ev) R:=fun ws' g' cd vl ev h R t1 t2 t3 t4=>by
  rw[←hG]
  simp only[h]
  exact⟨trivial,fV.none rfl rfl t1 t2 t3 t4⟩
 have cc:0≤g.count∧g.count<100000000:=ct
 have Df:j≠i:=Ne.symm gW
 have hp:=hL.p.v
 have dO:eC pv=some g.ax.length:=hp.elems.2
 have M6:cn pv≠i∨pv= .al:=hL.pi
 have QC:cn pv≠j∨pv= .al:=hL.pj
 have De:=hp.aQ
 have cL:=hc
 unfold aM.ok at cL
 unfold aM.size at hl
 unfold fR aM.im at ok
 have sl:0≤g.slot∧g.slot<c.am:=J
 have sq:0≤g.seq∧g.seq≤1000001:=J
 have kk:0≤g.gk∧g.gk≤1000:=J
 have PV:0≤g.gn∧g.gn≤20:=J
 have pl:(g.ax.length:Int)≤20:=J
 have k1:g.pc=13∨g.pc=14→g.gk≤g.ax.length:=J
 have k2:g.pc=22∨g.pc=23∨g.pc=24→(1≤g.gk∧g.gk≤g.gn)∧(g.own=true→g.gn=g.ax.length)∧0≤g.aX∧g.aX<c.am:=ok.2.2.2.2.2.2.2.2.2.2.2.2.2.2.2.2.2.2.1
 clear ok rS hG hL hc
 have jQ:¬g.pc=13:=J
 have hc:c.ok:=by unfold aM.ok;exact cL
 have e2:=bF hW 2
 have e4:=bF hW (bx c g.slot+g.gk)
 have e5:=bF hW (bx c g.aX+g.gk)
 have e6:=bF hW (aG g.entry/1048576)
 have v0:=aO (w:=g.entry)
 ·have kd:g.gk≤20:=by have:=k1 (.inr jm);omega
  have kp:g.gk≤g.ax.length:=k1 (.inr jm)
  unfold bx at e4
  generalize hA:at_ ws (7+2*c.am+17*c.ah+21*g.slot+g.gk)=A at*
  obtain⟨want,iI⟩:∃x,(if 0<g.gk then at_ g.ax (g.gk-1)else pack g.ax.length g.seq)=x:=⟨_,rfl⟩
  have EX:∀ws':List Int,g.ax.length<g.gk+1→write c ws g=stay ws' (if g.ax.length<g.gk+1 then {g with gk:=0,pc:=15}else {g with gk:=g.gk+1,pc:=13}) 0→write c ws g=stay ws' {g with gk:=0,pc:=15} 0:=fun ws' h1 h2=>by rw[h2,if_pos h1]
  have EY:∀ws':List Int,¬g.ax.length<g.gk+1→write c ws g=stay ws' (if g.ax.length<g.gk+1 then {g with gk:=0,pc:=15}else {g with gk:=g.gk+1,pc:=13}) 0→write c ws g=stay ws' {g with gk:=g.gk+1,pc:=13} 0:=fun ws' h1 h2=>by rw[h2,if_neg h1]
  by_cases z:0<g.gk
  ·rw[if_pos z]at iI
   have z1:¬g.gk<1:=J
   have z2:¬(g.ax.length:Int)≤g.gk-1:=J
   by_cases q:g.bw=want
   ·have q0:(g.bw=want)=True:=eq_true q
    have jj:write c ws g=stay ws (if g.ax.length<g.gk+1 then {g with gk:=0,pc:=15}else {g with gk:=g.gk+1,pc:=13}) 0:=by unfold write;rw[if_neg jQ,if_pos jm];simp only[bx,hA,z,if_true,iI];rw[if_pos q]
    by_cases r:g.ax.length<g.gk+1
    ·have f:=fS _ _ _ (EX _ r jj) rfl rfl
     clear fS fN jj EX EY
     simp+contextual (maxSteps:=1000000) (disch:=first|exact dB|fail) [go_sem,int_lt,-Int.not_le,-Int.not_lt,-List.map_set,cD,hg,hw,dO,r,jm,hA,q0,z,z1,z2,iI]
     (repeat refine Alt.mk ?_)
     first|exact f _ aI aI (fun y hy h1 h2=>by(first|exact bn|fail)) bc|trace_state
    ·have f:=fS _ _ _ (EY _ r jj) rfl rfl
     clear fS fN jj EX EY
     simp+contextual (maxSteps:=1000000) (disch:=first|exact dB|fail) [go_sem,int_lt,-Int.not_le,-Int.not_lt,-List.map_set,cD,hg,hw,dO,r,jm,hA,q0,z,z1,z2,iI]
     (repeat refine Alt.mk ?_)
     first|exact f _ aI aI (fun y hy h1 h2=>by(first|exact bn|fail)) bc|trace_state
   ·have q0:(g.bw=want)=False:=eq_false q
    by_cases q2:A=g.bw
    ·have q3:at_ ws (7+2*c.am+17*c.ah+21*g.slot+g.gk)=g.bw:=hA.trans q2
     have jj:write c ws g=stay (put ws (7+2*c.am+17*c.ah+21*g.slot+g.gk) want) (if g.ax.length<g.gk+1 then {g with gk:=0,pc:=15}else {g with gk:=g.gk+1,pc:=13}) 0:=by unfold write;rw[if_neg jQ,if_pos jm];simp only[bx,hA,z,if_true,iI];rw[if_neg q,if_pos q2]
     by_cases r:g.ax.length<g.gk+1
     ·have f:=fS _ _ _ (EX _ r jj) rfl rfl
      clear fS fN jj EX EY
      simp+contextual (maxSteps:=1000000) (disch:=first|exact dB|fail) [go_sem,int_lt,-Int.not_le,-Int.not_lt,-List.map_set,cD,hg,hw,dO,r,jm,hA,q0,q2,z,z1,z2,iI]
      (repeat refine Alt.mk ?_)
      first|exact f _ aI aI (fun y hy h1 h2=>by(first|exact bn|fail)) bc|trace_state
     ·have f:=fS _ _ _ (EY _ r jj) rfl rfl
      clear fS fN jj EX EY
      simp+contextual (maxSteps:=1000000) (disch:=first|exact dB|fail) [go_sem,int_lt,-Int.not_le,-Int.not_lt,-List.map_set,cD,hg,hw,dO,r,jm,hA,q0,q2,z,z1,z2,iI]
      (repeat refine Alt.mk ?_)
      first|exact f _ aI aI (fun y hy h1 h2=>by(first|exact bn|fail)) bc|trace_state
    ·have q3:¬at_ ws (7+2*c.am+17*c.ah+21*g.slot+g.gk)=g.bw:=fun h=>q2 (hA.symm.trans h)
     have hm:write c ws g=stay ws {g with pc:=13} 0:=by unfold write;simp[jm,hA,q,q2,z,z1,z2,iI,bx]
     have f:=fS _ _ _ hm rfl rfl
     clear fS fN hm
     clear EX EY
     simp+contextual (maxSteps:=1000000) (disch:=first|exact dB|fail) [go_sem,int_lt,-Int.not_le,-Int.not_lt,-List.map_set,cD,hg,hw,dO,jm,hA,q,q2,z,z1,z2,iI]
     (repeat refine Alt.mk ?_)
     first|exact f _ aI aI (fun y hy h1 h2=>by(first|exact bn|fail)) bc|trace_state
  ·rw[if_neg z]at iI
   by_cases q:g.bw=want
   ·have q0:(g.bw=want)=True:=eq_true q
    have jj:write c ws g=stay ws (if g.ax.length<g.gk+1 then {g with gk:=0,pc:=15}else {g with gk:=g.gk+1,pc:=13}) 0:=by unfold write;rw[if_neg jQ,if_pos jm];simp only[bx,hA,z,if_false,iI];rw[if_pos q]
    by_cases r:g.ax.length<g.gk+1
    ·have f:=fS _ _ _ (EX _ r jj) rfl rfl
     clear fS fN jj EX EY
     simp+contextual (maxSteps:=1000000) (disch:=first|exact dB|fail) [go_sem,int_lt,-Int.not_le,-Int.not_lt,-List.map_set,cD,hg,hw,dO,r,jm,hA,q0,z,iI]
     (repeat refine Alt.mk ?_)
     first|exact f _ aI aI (fun y hy h1 h2=>by(first|exact bn|fail)) bc|trace_state
    ·have f:=fS _ _ _ (EY _ r jj) rfl rfl
     clear fS fN jj EX EY
     simp+contextual (maxSteps:=1000000) (disch:=first|exact dB|fail) [go_sem,int_lt,-Int.not_le,-Int.not_lt,-List.map_set,cD,hg,hw,dO,r,jm,hA,q0,z,iI]
     (repeat refine Alt.mk ?_)
     first|exact f _ aI aI (fun y hy h1 h2=>by(first|exact bn|fail)) bc|trace_state
   ·have q0:(g.bw=want)=False:=eq_false q
    by_cases q2:A=g.bw
    ·have q3:at_ ws (7+2*c.am+17*c.ah+21*g.slot+g.gk)=g.bw:=hA.trans q2
     have jj:write c ws g=stay (put ws (7+2*c.am+17*c.ah+21*g.slot+g.gk) want) (if g.ax.length<g.gk+1 then {g with gk:=0,pc:=15}else {g with gk:=g.gk+1,pc:=13}) 0:=by unfold write;rw[if_neg jQ,if_pos jm];simp only[bx,hA,z,if_false,iI];rw[if_neg q,if_pos q2]
     by_cases r:g.ax.length<g.gk+1
     ·have f:=fS _ _ _ (EX _ r jj) rfl rfl
      clear fS fN jj EX EY
      simp+contextual (maxSteps:=1000000) (disch:=first|exact dB|fail) [go_sem,int_lt,-Int.not_le,-Int.not_lt,-List.map_set,cD,hg,hw,dO,r,jm,hA,q0,q2,z,iI]
      (repeat refine Alt.mk ?_)
      first|exact f _ aI aI (fun y hy h1 h2=>by(first|exact bn|fail)) bc|trace_state
     ·have f:=fS _ _ _ (EY _ r jj) rfl rfl
      clear fS fN jj EX EY
      simp+contextual (maxSteps:=1000000) (disch:=first|exact dB|fail) [go_sem,int_lt,-Int.not_le,-Int.not_lt,-List.map_set,cD,hg,hw,dO,r,jm,hA,q0,q2,z,iI]
      (repeat refine Alt.mk ?_)
      first|exact f _ aI aI (fun y hy h1 h2=>by(first|exact bn|fail)) bc|trace_state
    ·have q3:¬at_ ws (7+2*c.am+17*c.ah+21*g.slot+g.gk)=g.bw:=fun h=>q2 (hA.symm.trans h)
     have hm:write c ws g=stay ws {g with pc:=13} 0:=by unfold write;simp[jm,hA,q,q2,z,iI,bx]
     have f:=fS _ _ _ hm rfl rfl
     clear fS fN hm
     clear EX EY
     simp+contextual (maxSteps:=1000000) (disch:=first|exact dB|fail) [go_sem,int_lt,-Int.not_le,-Int.not_lt,-List.map_set,cD,hg,hw,dO,jm,hA,q,q2,z,iI]
     (repeat refine Alt.mk ?_)
     first|exact f _ aI aI (fun y hy h1 h2=>by(first|exact bn|fail)) bc|trace_state
end AH
