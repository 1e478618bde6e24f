import Derived.Test.YtagihpbpblnnoaaGreatZ41
import Derived.Test.YtagihpbpblnnoaaGreatZ00
set_option linter.all false
namespace AH
open Go Go.Proofs Ho
set_option maxRecDepth 20000
set_option maxHeartbeats 16000000
theorem Nc(I:af)(i k j:Nat)(bp:List U)(c:aM)(ws:List Int)(g:ag)(sv pv:U)(h:cZ I i k j bp c ws g sv pv)(hL:rF I i j g sv pv)(eU:1≤g.pc∧g.pc≤8):
 Fn Tryz.prog 198 [jD i k j c ws] I fun x R=>x= .int .i64 (cx c ws g).ev∧fV I R i k j bp (cx c ws g).so sv pv:=by
 generalize hG:(fun(x:U) (R:af)=>x= .int .i64 (cx c ws g).ev∧fV I R i k j bp (cx c ws g).so sv pv)=GG
 refine bA gd mixed Tryz.func198 (by kernel_rfl) rfl (by kernel_rfl) ?_
 obtain⟨hi,hj,gW,hk,hg,hw,hW,hl,hc,⟨Hu,Hv,Hw,Hx,rS,C9⟩,ok,ct⟩:=h
 have fS:∀(ws':List Int) (g':ag) (ev:Int),cx c ws g=stay ws' g' ev→g'.snap=g.snap→g'.ax=g.ax→∀R:af,R.get i=some ⟨aB bp k (iG g' sv pv),true⟩→R.get j=some ⟨ws'.map (.int .u64),true⟩→(∀y,y<I.n→NE y i→NE y j→R.get y=I.get y)→I.n≤R.n→GG (.int .i64 ev) R:=fun ws' g' ev h h1 h2 R t1 t2 t3 t4=>by
  rw[←hG]
  simp only[h]
  exact⟨trivial,fV.same hL h1 h2 t1 t2 t3 t4⟩
 have fN:∀(ws':List Int) (g':ag) (cd vl ev:Int),cx c ws g=fin ws' g' cd vl ev→∀R:af,R.get i=some ⟨aB bp k (iG (g'.complete cd vl) .al .al),true⟩→R.get j=some ⟨ws'.map (.int .u64),true⟩→(∀y,y<I.n→NE y i→NE y j→R.get y=I.get y)→I.n≤R.n→GG (.int .i64 ev) R:=fun ws' g' cd vl ev h R t1 t2 t3 t4=>by
  rw[←hG]
  simp only[h]
  exact⟨trivial,fV.none rfl rfl t1 t2 t3 t4⟩
 have sl:0≤g.slot∧g.slot<c.am:=ok.2.2.2.1
 have cc:0≤g.count∧g.count<100000000:=ct
 have Df:j≠i:=Ne.symm gW
 clear ok rS C9 hG hL
 have cL:=hc
 unfold aM.ok at cL
 unfold aM.size at hl
 have e1:=bF hW (3+c.am+g.slot)
 have e2:=bF hW (3+g.slot)
 have e3:=aO (w:=at_ ws (3+g.slot))
 generalize hA:at_ ws (3+c.am+g.slot)=A at*
 generalize hB:at_ ws (3+g.slot)=B at*
 by_cases h1:g.pc=1
 ·skip
  by_cases q:g.ao<aL A
  ·skip
   have hm:cx c ws g=fin ws {g with bw:=A} 11 0 0:=by unfold cx;simp[h1,q,hA,hB]
   have f:=fN _ _ _ _ _ hm
   rw[jd _ fX]at f
   clear fS fN hm
   simp+contextual (maxSteps:=1000000) (disch:=first|exact dB|fail) [go_sem,int_lt,-Int.not_le,-Int.not_lt,-List.map_set,gd,hg,hw,hA,hB,h1,q]
   (repeat refine Alt.mk ?_)
   first|exact f _ aI aI (fun y hy h1 h2=>by(first|exact bn|fail)) bc|trace_state
  ·skip
   have hm:cx c ws g=stay ws {g with bw:=A,pc:=2} 0:=by unfold cx;simp[h1,q,hA,hB]
   have f:=fS _ _ _ hm rfl rfl
   clear fS fN hm
   simp+contextual (maxSteps:=1000000) (disch:=first|exact dB|fail) [go_sem,int_lt,-Int.not_le,-Int.not_lt,-List.map_set,gd,hg,hw,hA,hB,h1,q]
   (repeat refine Alt.mk ?_)
   first|exact f _ aI aI (fun y hy h1 h2=>by(first|exact bn|fail)) bc|trace_state
 have n1:¬g.pc=1:=h1
 by_cases h2:g.pc=2
 ·skip
  have hm:cx c ws g=stay ws {g with time:=min (aG (at_ ws 1)) 1048575,pc:=3} 0:=by unfold cx;simp[h2,hA,hB,clockOf]
  have f:=fS _ _ _ hm rfl rfl
  clear fS fN hm
  simp+contextual (maxSteps:=1000000) (disch:=first|exact dB|fail) [go_sem,int_lt,-Int.not_le,-Int.not_lt,-List.map_set,gd,hg,hw,hA,hB,h2]
  (repeat refine Alt.mk ?_)
  first|exact f _ aI aI (fun y hy h1 h2=>by(first|exact bn|fail)) bc|trace_state
 have n2:¬g.pc=2:=h2
 by_cases h3:g.pc=3
 ·skip
  by_cases q:g.bw=pack g.time g.ao
  ·have q4:(g.bw=pack g.time g.ao)=True:=eq_true q
   have hm:cx c ws g=stay ws {g with pc:=9} 0:=by unfold cx;simp[h3,q4,hA,hB]
   have f:=fS _ _ _ hm rfl rfl
   clear fS fN hm
   simp+contextual (maxSteps:=1000000) (disch:=first|exact dB|fail) [go_sem,int_lt,-Int.not_le,-Int.not_lt,-List.map_set,gd,hg,hw,hA,hB,h3,q4]
   (repeat refine Alt.mk ?_)
   first|exact f _ aI aI (fun y hy h1 h2=>by(first|exact bn|fail)) bc|trace_state
  ·by_cases q2:A=g.bw
   ·have q3:at_ ws (3+c.am+g.slot)=g.bw:=hA.trans q2
    have q4:(g.bw=pack g.time g.ao)=False:=eq_false q
    have hm:cx c ws g=stay (put ws (3+c.am+g.slot) (pack g.time g.ao)) {g with pc:=9} 0:=by unfold cx;simp[h3,q4,q2,hA,hB]
    have f:=fS _ _ _ hm rfl rfl
    clear fS fN hm
    simp+contextual (maxSteps:=1000000) (disch:=first|exact dB|fail) [go_sem,int_lt,-Int.not_le,-Int.not_lt,-List.map_set,gd,hg,hw,hA,hB,h3,q4,q2]
    (repeat refine Alt.mk ?_)
    first|exact f _ aI aI (fun y hy h1 h2=>by(first|exact bn|fail)) bc|trace_state
   ·have q3:¬at_ ws (3+c.am+g.slot)=g.bw:=fun h=>q2 (hA.symm.trans h)
    have hm:cx c ws g=stay ws {g with pc:=1} 0:=by unfold cx;simp[h3,q,q2,hA,hB]
    have f:=fS _ _ _ hm rfl rfl
    clear fS fN hm
    simp+contextual (maxSteps:=1000000) (disch:=first|exact dB|fail) [go_sem,int_lt,-Int.not_le,-Int.not_lt,-List.map_set,gd,hg,hw,hA,hB,h3,q,q2]
    (repeat refine Alt.mk ?_)
    first|exact f _ aI aI (fun y hy h1 h2=>by(first|exact bn|fail)) bc|trace_state
 have n3:¬g.pc=3:=h3
 by_cases h4:g.pc=4
 ·skip
  by_cases q:aG B % 4=0
  ·by_cases q2:4095≤aG B/4
   ·skip
    have hm:cx c ws g=fin ws {g with entry:=B} 12 0 0:=by unfold cx;simp[h4,q,q2,hA,hB]
    have f:=fN _ _ _ _ _ hm
    rw[jd _ fX]at f
    clear fS fN hm
    simp+contextual (maxSteps:=1000000) (disch:=first|exact dB|fail) [go_sem,int_lt,-Int.not_le,-Int.not_lt,-List.map_set,gd,hg,hw,hA,hB,h4,q,q2]
    (repeat refine Alt.mk ?_)
    first|exact f _ aI aI (fun y hy h1 h2=>by(first|exact bn|fail)) bc|trace_state
   ·skip
    have hm:cx c ws g=stay ws {g with entry:=B,next:=aG B/4+1,pc:=5} 0:=by unfold cx;simp[h4,q,q2,hA,hB]
    have f:=fS _ _ _ hm rfl rfl
    clear fS fN hm
    simp+contextual (maxSteps:=1000000) (disch:=first|exact dB|fail) [go_sem,int_lt,-Int.not_le,-Int.not_lt,-List.map_set,gd,hg,hw,hA,hB,h4,q,q2]
    (repeat refine Alt.mk ?_)
    first|exact f _ aI aI (fun y hy h1 h2=>by(first|exact bn|fail)) bc|trace_state
  ·skip
   have hm:cx c ws g=fin ws {g with entry:=B} 6 0 0:=by unfold cx;simp[h4,q,hA,hB]
   have f:=fN _ _ _ _ _ hm
   rw[jd _ fX]at f
   clear fS fN hm
   simp+contextual (maxSteps:=1000000) (disch:=first|exact dB|fail) [go_sem,int_lt,-Int.not_le,-Int.not_lt,-List.map_set,gd,hg,hw,hA,hB,h4,q]
   (repeat refine Alt.mk ?_)
   first|exact f _ aI aI (fun y hy h1 h2=>by(first|exact bn|fail)) bc|trace_state
 have n4:¬g.pc=4:=h4
 by_cases h5:g.pc=5
 ·skip
  have hm:cx c ws g=stay ws {g with bw:=A,pc:=6} 0:=by unfold cx;simp[h5,hA,hB]
  have f:=fS _ _ _ hm rfl rfl
  clear fS fN hm
  simp+contextual (maxSteps:=1000000) (disch:=first|exact dB|fail) [go_sem,int_lt,-Int.not_le,-Int.not_lt,-List.map_set,gd,hg,hw,hA,hB,h5]
  (repeat refine Alt.mk ?_)
  first|exact f _ aI aI (fun y hy h1 h2=>by(first|exact bn|fail)) bc|trace_state
 have n5:¬g.pc=5:=h5
 by_cases h6:g.pc=6
 ·skip
  have hm:cx c ws g=stay ws {g with time:=min (aG (at_ ws 1)) 1048575,pc:=7} 0:=by unfold cx;simp[h6,hA,hB,clockOf]
  have f:=fS _ _ _ hm rfl rfl
  clear fS fN hm
  simp+contextual (maxSteps:=1000000) (disch:=first|exact dB|fail) [go_sem,int_lt,-Int.not_le,-Int.not_lt,-List.map_set,gd,hg,hw,hA,hB,h6]
  (repeat refine Alt.mk ?_)
  first|exact f _ aI aI (fun y hy h1 h2=>by(first|exact bn|fail)) bc|trace_state
 have n6:¬g.pc=6:=h6
 by_cases h7:g.pc=7
 ·skip
  by_cases q:g.next≤aL g.bw
  ·skip
   have hm:cx c ws g=stay ws {g with pc:=8} 0:=by unfold cx;simp[h7,q,hA,hB]
   have f:=fS _ _ _ hm rfl rfl
   clear fS fN hm
   simp+contextual (maxSteps:=1000000) (disch:=first|exact dB|fail) [go_sem,int_lt,-Int.not_le,-Int.not_lt,-List.map_set,gd,hg,hw,hA,hB,h7,q]
   (repeat refine Alt.mk ?_)
   first|exact f _ aI aI (fun y hy h1 h2=>by(first|exact bn|fail)) bc|trace_state
  ·by_cases q2:A=g.bw
   ·have q3:at_ ws (3+c.am+g.slot)=g.bw:=hA.trans q2
    have hm:cx c ws g=stay (put ws (3+c.am+g.slot) (pack g.time g.next)) {g with pc:=8} 0:=by unfold cx;simp[h7,q,q2,hA,hB]
    have f:=fS _ _ _ hm rfl rfl
    clear fS fN hm
    simp+contextual (maxSteps:=1000000) (disch:=first|exact dB|fail) [go_sem,int_lt,-Int.not_le,-Int.not_lt,-List.map_set,gd,hg,hw,hA,hB,h7,q,q2]
    (repeat refine Alt.mk ?_)
    first|exact f _ aI aI (fun y hy h1 h2=>by(first|exact bn|fail)) bc|trace_state
   ·have q3:¬at_ ws (3+c.am+g.slot)=g.bw:=fun h=>q2 (hA.symm.trans h)
    have hm:cx c ws g=stay ws {g with pc:=5} 0:=by unfold cx;simp[h7,q,q2,hA,hB]
    have f:=fS _ _ _ hm rfl rfl
    clear fS fN hm
    simp+contextual (maxSteps:=1000000) (disch:=first|exact dB|fail) [go_sem,int_lt,-Int.not_le,-Int.not_lt,-List.map_set,gd,hg,hw,hA,hB,h7,q,q2]
    (repeat refine Alt.mk ?_)
    first|exact f _ aI aI (fun y hy h1 h2=>by(first|exact bn|fail)) bc|trace_state
 have n7:¬g.pc=7:=h7
 have h8:g.pc=8:=J
 by_cases q2:B=g.entry
 ·have q3:at_ ws (3+g.slot)=g.entry:=hB.trans q2
  have hm:cx c ws g=fin (put ws (3+g.slot) (lT 1 g.next (aL g.entry))) {g with ao:=g.next} 0 g.next 4:=by unfold cx;simp[h8,q2,hA,hB]
  have f:=fN _ _ _ _ _ hm
  rw[CS]at f
  clear fS fN hm
  simp+contextual (maxSteps:=1000000) (disch:=first|exact dB|fail) [go_sem,int_lt,-Int.not_le,-Int.not_lt,-List.map_set,gd,hg,hw,hA,hB,h8,q2]
  (repeat refine Alt.mk ?_)
  first|exact f _ aI aI (fun y hy h1 h2=>by(first|exact bn|fail)) bc|trace_state
 ·have q3:¬at_ ws (3+g.slot)=g.entry:=fun h=>q2 (hB.symm.trans h)
  have hm:cx c ws g=stay ws {g with pc:=4} 0:=by unfold cx;simp[h8,q2,hA,hB]
  have f:=fS _ _ _ hm rfl rfl
  clear fS fN hm
  simp+contextual (maxSteps:=1000000) (disch:=first|exact dB|fail) [go_sem,int_lt,-Int.not_le,-Int.not_lt,-List.map_set,gd,hg,hw,hA,hB,h8,q2]
  (repeat refine Alt.mk ?_)
  first|exact f _ aI aI (fun y hy h1 h2=>by(first|exact bn|fail)) bc|trace_state
end AH
