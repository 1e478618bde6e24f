import Derived.Test.YtagihpbpblnnoaaGreatZ41
import Derived.Test.YtagihpbpblnnoaaGreatZ00
set_option linter.all false
namespace AH
open Go Go.Proofs Ho
set_option maxRecDepth 20000
set_option maxHeartbeats 16000000
theorem wu(I:af)(i k j:Nat)(s p l a ii now:Int)(ws:List Int)(hj:j<I.n)(hw:I.get j=some ⟨ws.map (.int .u64),true⟩)(hl:(ws.length:Int)<1000000)(h0:0≤a)(h1:¬a<ws.length):Fn Tryz.prog 243 [.agg [.ptr i k,.int .i64 s,.int .i64 p,.int .i64 l,.sl j 0 ws.length 1],.int .i64 a,.int .u64 ii,.int .u64 now] I fun x R=>x= .bool false∧R=I:=by
 refine ay aZ mixed Tryz.func243 (by kernel_rfl) rfl (by kernel_rfl) bE ?_
 have h3:¬a≤ws.length-1:=J
 simp(disch:=first|exact dB|fail) [go_sem,bL,aZ,wrap_i64,eC,hw,h0,h1,h3]
@[go_sem] def VE:=fun(I:af) i k j s p l a ii now ws hj hw hl h0 h1 (aA:U→af→Prop)=>ar (k:=aA) (wu I i k j s p l a ii now ws hj hw hl h0 h1)
@[go_sem] def VD:=fun(I:af) (b_:Bool) (i k j:Nat) (s p l a ii now:Int) (ws:List Int) (hj:b_=true→ j<I.n) (hw:b_=true→ I.get j=some ⟨ws.map (.int .u64),true⟩) (hl:b_=true→ (ws.length:Int)<1000000) (h0:b_=true→ 0≤a) (h1:b_=true→ ¬a<ws.length) (aA:U→af→Prop)=>aJ (k:=aA) b_ fun aY=>wu I i k j s p l a ii now ws (hj aY) (hw aY) (hl aY) (h0 aY) (h1 aY)
theorem IG(I:af)(i k:Nat)(ps:List Int)(bp:List U)(up:Bool)(slot:Int)(ao:Int)(busy:Bool)(aE:Int)(aH:Int)(oa:Int)(ob:Int)(pc:Int)(gk:Int)(gn:Int)(seq:Int)(next:Int)(aX:Int)(aK:Int)(own:Bool)(time:Int)(bw:Int)(door:Int)(aT:Int)(entry:Int)(sv:U)(pv:U)(code:Int)(val:Int)(count:Int)(hk:k+26≤bp.length)(hg:I.get i=some ⟨aB bp k [.bool up,.int .i64 slot,.int .i64 ao,.bool busy,.int .i64 aE,.int .i64 aH,.int .i64 oa,.int .i64 ob,.int .i64 pc,.int .i64 gk,.int .i64 gn,.int .i64 seq,.int .i64 next,.int .i64 aX,.int .i64 aK,.bool own,.int .i64 time,.int .u64 bw,.int .u64 door,.int .u64 aT,.int .u64 entry,sv,pv,.int .i64 code,.int .i64 val,.int .i64 count],true⟩)(h:¬gn<gk)(ho:own=true)(hp:bu .u64 I pv ps)(h1:1≤gk)(h2:gk≤ps.length)(h3:gk≤1000):Fn Tryz.prog 248 [.ptr i k] I fun x R=>x= .cw []∧R=I.set i ⟨aB bp k [.bool up,.int .i64 slot,.int .i64 ao,.bool busy,.int .i64 aE,.int .i64 aH,.int .i64 oa,.int .i64 ob,.int .i64 23,.int .i64 gk,.int .i64 gn,.int .i64 seq,.int .i64 next,.int .i64 aX,.int .i64 aK,.bool own,.int .i64 time,.int .u64 bw,.int .u64 door,.int .u64 aT,.int .u64 (at_ ps (gk-1)),sv,pv,.int .i64 code,.int .i64 val,.int .i64 count],true⟩:=by
 refine ec np mixed Tryz.func248 (by kernel_rfl) rfl (by kernel_rfl) ?_ ?_ ?_ ?_
 ·rfl
 ·rfl
 ·exact dJ hg (i9 aV bX kx)
 subst ho
 have h5:¬gk<1:=J
 have h6:¬(ps.length:Int)≤gk-1:=J
 simp+contextual (maxSteps:=1000000) (disch:=first|exact dB|fail) [go_sem,int_lt,-Int.not_le,-Int.not_lt,-List.map_set,np,hg,h]
@[go_sem] def Xp:=fun(I:af) i k ps bp up slot ao busy aE aH oa ob pc gk gn seq next aX aK own time bw door aT entry sv pv code val count hk hg h ho hp h1 h2 h3 (aA:U→af→Prop)=>ar (k:=aA) (IG I i k ps bp up slot ao busy aE aH oa ob pc gk gn seq next aX aK own time bw door aT entry sv pv code val count hk hg h ho hp h1 h2 h3)
end AH
namespace AH
open Go Go.Proofs Ho
set_option maxRecDepth 20000
set_option maxHeartbeats 16000000
theorem JV(I:af)(i k j:Nat)(bp:List U)(c:aM)(ws:List Int)(g:ag)(sv pv:U)(h:cZ I i k j bp c ws g sv pv)(hL:rF I i j g sv pv)(jQ:g.pc=13):
 Fn Tryz.prog 201 [jD i k j c ws] I fun x R=>x= .int .i64 (write c ws g).ev∧fV I R i k j bp (write c ws g).so sv pv:=by
 generalize hG:(fun(x:U) (R:af)=>x= .int .i64 (write c ws g).ev∧fV I R i k j bp (write c ws g).so sv pv)=GG
 refine bA cD mixed Tryz.func201 (by kernel_rfl) rfl (by kernel_rfl) ?_
 obtain⟨hi,hj,gW,hk,hg,hw,hW,hl,hc,⟨Hu,Hv,Hw,Hx,rS,C9⟩,ok,ct⟩:=h
 have fS:∀(ws':List Int) (g':ag) (ev:Int),write c ws g=stay ws' g' ev→g'.snap=g.snap→g'.ax=g.ax→∀R:af,R.get i=some ⟨aB bp k (iG g' sv pv),true⟩→R.get j=some ⟨ws'.map (.int .u64),true⟩→(∀y,y<I.n→NE y i→NE y j→R.get y=I.get y)→I.n≤R.n→GG (.int .i64 ev) R:=fun ws' g' ev h h1 h2 R t1 t2 t3 t4=>by
  rw[←hG]
  simp only[h]
  exact⟨trivial,fV.same hL h1 h2 t1 t2 t3 t4⟩
 have fN:∀(ws':List Int) (g':ag) (cd vl ev:Int),write c ws g=fin ws' g' cd vl ev→∀R:af,R.get i=some ⟨aB bp k (iG (g'.complete cd vl) .al .al),true⟩→R.get j=some ⟨ws'.map (.int .u64),true⟩→(∀y,y<I.n→NE y i→NE y j→R.get y=I.get y)→I.n≤R.n→GG (.int .i64 ev) R:=fun ws' g' cd vl ev h R t1 t2 t3 t4=>by
  rw[←hG]
  simp only[h]
  exact⟨trivial,fV.none rfl rfl t1 t2 t3 t4⟩
 have cc:0≤g.count∧g.count<100000000:=ct
 have Df:j≠i:=Ne.symm gW
 have hp:=hL.p.v
 have dO:eC pv=some g.ax.length:=hp.elems.2
 have M6:cn pv≠i∨pv= .al:=hL.pi
 have QC:cn pv≠j∨pv= .al:=hL.pj
 have De:=hp.aQ
 have cL:=hc
 unfold aM.ok at cL
 unfold aM.size at hl
 unfold fR aM.im at ok
 have sl:0≤g.slot∧g.slot<c.am:=J
 have sq:0≤g.seq∧g.seq≤1000001:=J
 have kk:0≤g.gk∧g.gk≤1000:=J
 have PV:0≤g.gn∧g.gn≤20:=J
 have pl:(g.ax.length:Int)≤20:=J
 have k1:g.pc=13∨g.pc=14→g.gk≤g.ax.length:=J
 have k2:g.pc=22∨g.pc=23∨g.pc=24→(1≤g.gk∧g.gk≤g.gn)∧(g.own=true→g.gn=g.ax.length)∧0≤g.aX∧g.aX<c.am:=ok.2.2.2.2.2.2.2.2.2.2.2.2.2.2.2.2.2.2.1
 clear ok rS hG hL hc
 have hc:c.ok:=by unfold aM.ok;exact cL
 have e2:=bF hW 2
 have e4:=bF hW (bx c g.slot+g.gk)
 have e5:=bF hW (bx c g.aX+g.gk)
 have e6:=bF hW (aG g.entry/1048576)
 have v0:=aO (w:=g.entry)
 ·have kd:g.gk≤20:=by have:=k1 (.inl jQ);omega
  unfold bx at e4
  generalize hA:at_ ws (7+2*c.am+17*c.ah+21*g.slot+g.gk)=A at*
  by_cases q:g.seq<aL A
  ·skip
   have hm:write c ws g=fin ws {g with bw:=A} 11 0 0:=by unfold write;simp[jQ,hA,q,bx]
   have f:=fN _ _ _ _ _ hm
   rw[jd _ fX]at f
   clear fS fN hm
   simp+contextual (maxSteps:=1000000) (disch:=first|exact dB|fail) [go_sem,int_lt,-Int.not_le,-Int.not_lt,-List.map_set,cD,hg,hw,dO,jQ,hA,q]
   (repeat refine Alt.mk ?_)
   first|exact f _ aI aI (fun y hy h1 h2=>by(first|exact bn|fail)) bc|trace_state
  ·skip
   have hm:write c ws g=stay ws {g with bw:=A,pc:=14} 0:=by unfold write;simp[jQ,hA,q,bx]
   have f:=fS _ _ _ hm rfl rfl
   clear fS fN hm
   simp+contextual (maxSteps:=1000000) (disch:=first|exact dB|fail) [go_sem,int_lt,-Int.not_le,-Int.not_lt,-List.map_set,cD,hg,hw,dO,jQ,hA,q]
   (repeat refine Alt.mk ?_)
   first|exact f _ aI aI (fun y hy h1 h2=>by(first|exact bn|fail)) bc|trace_state
theorem JX(I:af)(i k j:Nat)(bp:List U)(c:aM)(ws:List Int)(g:ag)(sv pv:U)(h:cZ I i k j bp c ws g sv pv)(hL:rF I i j g sv pv)(kW:g.pc=15):
 Fn Tryz.prog 201 [jD i k j c ws] I fun x R=>x= .int .i64 (write c ws g).ev∧fV I R i k j bp (write c ws g).so sv pv:=by
 generalize hG:(fun(x:U) (R:af)=>x= .int .i64 (write c ws g).ev∧fV I R i k j bp (write c ws g).so sv pv)=GG
 refine bA cD mixed Tryz.func201 (by kernel_rfl) rfl (by kernel_rfl) ?_
 obtain⟨hi,hj,gW,hk,hg,hw,hW,hl,hc,⟨Hu,Hv,Hw,Hx,rS,C9⟩,ok,ct⟩:=h
 have fS:∀(ws':List Int) (g':ag) (ev:Int),write c ws g=stay ws' g' ev→g'.snap=g.snap→g'.ax=g.ax→∀R:af,R.get i=some ⟨aB bp k (iG g' sv pv),true⟩→R.get j=some ⟨ws'.map (.int .u64),true⟩→(∀y,y<I.n→NE y i→NE y j→R.get y=I.get y)→I.n≤R.n→GG (.int .i64 ev) R:=fun ws' g' ev h h1 h2 R t1 t2 t3 t4=>by
  rw[←hG]
  simp only[h]
  exact⟨trivial,fV.same hL h1 h2 t1 t2 t3 t4⟩
 have fN:∀(ws':List Int) (g':ag) (cd vl ev:Int),write c ws g=fin ws' g' cd vl ev→∀R:af,R.get i=some ⟨aB bp k (iG (g'.complete cd vl) .al .al),true⟩→R.get j=some ⟨ws'.map (.int .u64),true⟩→(∀y,y<I.n→NE y i→NE y j→R.get y=I.get y)→I.n≤R.n→GG (.int .i64 ev) R:=fun ws' g' cd vl ev h R t1 t2 t3 t4=>by
  rw[←hG]
  simp only[h]
  exact⟨trivial,fV.none rfl rfl t1 t2 t3 t4⟩
 have cc:0≤g.count∧g.count<100000000:=ct
 have Df:j≠i:=Ne.symm gW
 have hp:=hL.p.v
 have dO:eC pv=some g.ax.length:=hp.elems.2
 have M6:cn pv≠i∨pv= .al:=hL.pi
 have QC:cn pv≠j∨pv= .al:=hL.pj
 have De:=hp.aQ
 have cL:=hc
 unfold aM.ok at cL
 unfold aM.size at hl
 unfold fR aM.im at ok
 have sl:0≤g.slot∧g.slot<c.am:=J
 have sq:0≤g.seq∧g.seq≤1000001:=J
 have kk:0≤g.gk∧g.gk≤1000:=J
 have PV:0≤g.gn∧g.gn≤20:=J
 have pl:(g.ax.length:Int)≤20:=J
 have k1:g.pc=13∨g.pc=14→g.gk≤g.ax.length:=J
 have k2:g.pc=22∨g.pc=23∨g.pc=24→(1≤g.gk∧g.gk≤g.gn)∧(g.own=true→g.gn=g.ax.length)∧0≤g.aX∧g.aX<c.am:=ok.2.2.2.2.2.2.2.2.2.2.2.2.2.2.2.2.2.2.1
 clear ok rS hG hL hc
 have jQ:¬g.pc=13:=J
 have jm:¬g.pc=14:=J
 have hc:c.ok:=by unfold aM.ok;exact cL
 have e2:=bF hW 2
 have e4:=bF hW (bx c g.slot+g.gk)
 have e5:=bF hW (bx c g.aX+g.gk)
 have e6:=bF hW (aG g.entry/1048576)
 have v0:=aO (w:=g.entry)
 ·by_cases q2:at_ ws 2=cK 1 g.slot g.ao g.seq
  ·obtain⟨G2,od⟩:∃x:ag,x={g with own:=true,door:=cK 2 g.slot g.ao g.seq,gn:=g.ax.length,gk:=1}:=⟨_,rfl⟩
   have jj:write c ws g=stay (put ws 2 (cK 2 g.slot g.ao g.seq)) G2.continues 1:=by unfold write;rw[if_neg jQ,if_neg jm,if_pos kW,if_pos q2,od]
   by_cases r:(g.ax.length:Int)<1
   ·have mH:G2.continues={G2 with gk:=0,pc:=25}:=by unfold ag.continues;rw[if_pos sT]
    have f:=fS _ _ _ (jj.trans sU) jC jC
    rw[od]at f
    clear fS fN jj mH od
    simp+contextual (maxSteps:=1000000) (disch:=first|exact dB|fail) [go_sem,int_lt,-Int.not_le,-Int.not_lt,-List.map_set,cD,hg,hw,dO,r,kW,q2]
    (repeat refine Alt.mk ?_)
    first|exact f _ aI aI (fun y hy h1 h2=>by(first|exact bn|fail)) bc|trace_state
   ·have mH:G2.continues={G2 with entry:=at_ g.ax 0,pc:=23}:=by unfold ag.continues;rw[if_neg sT,if_pos jC];rw[od];rfl
    have r1:(1:Int)≤g.ax.length:=J
    have f:=fS _ _ _ (jj.trans sU) jC jC
    rw[od]at f
    clear fS fN jj mH od
    simp+contextual (maxSteps:=1000000) (disch:=first|exact dB|fail) [go_sem,int_lt,-Int.not_le,-Int.not_lt,-List.map_set,cD,hg,hw,dO,r,kW,q2]
    (repeat refine Alt.mk ?_)
    first|exact f _ aI aI (fun y hy h1 h2=>by(first|exact bn|fail)) bc|trace_state
  ·skip
   have hm:write c ws g=fin ws g 11 0 0:=by unfold write;simp[kW,q2]
   have f:=fN _ _ _ _ _ hm
   rw[jd _ fX]at f
   clear fS fN hm
   simp+contextual (maxSteps:=1000000) (disch:=first|exact dB|fail) [go_sem,int_lt,-Int.not_le,-Int.not_lt,-List.map_set,cD,hg,hw,dO,kW,q2]
   (repeat refine Alt.mk ?_)
   first|exact f _ aI aI (fun y hy h1 h2=>by(first|exact bn|fail)) bc|trace_state
theorem JY(I:af)(i k j:Nat)(bp:List U)(c:aM)(ws:List Int)(g:ag)(sv pv:U)(h:cZ I i k j bp c ws g sv pv)(hL:rF I i j g sv pv)(mC:g.pc=22):
 Fn Tryz.prog 201 [jD i k j c ws] I fun x R=>x= .int .i64 (write c ws g).ev∧fV I R i k j bp (write c ws g).so sv pv:=by
 generalize hG:(fun(x:U) (R:af)=>x= .int .i64 (write c ws g).ev∧fV I R i k j bp (write c ws g).so sv pv)=GG
 refine bA cD mixed Tryz.func201 (by kernel_rfl) rfl (by kernel_rfl) ?_
 obtain⟨hi,hj,gW,hk,hg,hw,hW,hl,hc,⟨Hu,Hv,Hw,Hx,rS,C9⟩,ok,ct⟩:=h
 have fS:∀(ws':List Int) (g':ag) (ev:Int),write c ws g=stay ws' g' ev→g'.snap=g.snap→g'.ax=g.ax→∀R:af,R.get i=some ⟨aB bp k (iG g' sv pv),true⟩→R.get j=some ⟨ws'.map (.int .u64),true⟩→(∀y,y<I.n→NE y i→NE y j→R.get y=I.get y)→I.n≤R.n→GG (.int .i64 ev) R:=fun ws' g' ev h h1 h2 R t1 t2 t3 t4=>by
  rw[←hG]
  simp only[h]
  exact⟨trivial,fV.same hL h1 h2 t1 t2 t3 t4⟩
 have fN:∀(ws':List Int) (g':ag) (cd vl ev:Int),write c ws g=fin ws' g' cd vl ev→∀R:af,R.get i=some ⟨aB bp k (iG (g'.complete cd vl) .al .al),true⟩→R.get j=some ⟨ws'.map (.int .u64),true⟩→(∀y,y<I.n→NE y i→NE y j→R.get y=I.get y)→I.n≤R.n→GG (.int .i64 ev) R:=fun ws' g' cd vl ev h R t1 t2 t3 t4=>by
  rw[←hG]
  simp only[h]
  exact⟨trivial,fV.none rfl rfl t1 t2 t3 t4⟩
 have cc:0≤g.count∧g.count<100000000:=ct
 have Df:j≠i:=Ne.symm gW
 have hp:=hL.p.v
 have dO:eC pv=some g.ax.length:=hp.elems.2
 have M6:cn pv≠i∨pv= .al:=hL.pi
 have QC:cn pv≠j∨pv= .al:=hL.pj
 have De:=hp.aQ
 have cL:=hc
 unfold aM.ok at cL
 unfold aM.size at hl
 unfold fR aM.im at ok
 have sl:0≤g.slot∧g.slot<c.am:=J
 have sq:0≤g.seq∧g.seq≤1000001:=J
 have kk:0≤g.gk∧g.gk≤1000:=J
 have PV:0≤g.gn∧g.gn≤20:=J
 have pl:(g.ax.length:Int)≤20:=J
 have k1:g.pc=13∨g.pc=14→g.gk≤g.ax.length:=J
 have k2:g.pc=22∨g.pc=23∨g.pc=24→(1≤g.gk∧g.gk≤g.gn)∧(g.own=true→g.gn=g.ax.length)∧0≤g.aX∧g.aX<c.am:=ok.2.2.2.2.2.2.2.2.2.2.2.2.2.2.2.2.2.2.1
 clear ok rS hG hL hc
 have jQ:¬g.pc=13:=J
 have jm:¬g.pc=14:=J
 have kW:¬g.pc=15:=J
 have hc:c.ok:=by unfold aM.ok;exact cL
 have e2:=bF hW 2
 have e4:=bF hW (bx c g.slot+g.gk)
 have e5:=bF hW (bx c g.aX+g.gk)
 have e6:=bF hW (aG g.entry/1048576)
 have v0:=aO (w:=g.entry)
 ·obtain⟨⟨ka,kb⟩,kc,kd⟩:=k2 (.inl mC)
  have kd2:g.gk≤20:=J
  unfold bx at e5
  generalize hA:at_ ws (7+2*c.am+17*c.ah+21*g.aX+g.gk)=A at*
  by_cases q:aL A=g.seq
  ·skip
   have hm:write c ws g=stay ws {g with entry:=A,pc:=23} 0:=by unfold write;simp[mC,hA,q,bx]
   have f:=fS _ _ _ hm rfl rfl
   clear fS fN hm
   simp+contextual (maxSteps:=1000000) (disch:=first|exact dB|fail) [go_sem,int_lt,-Int.not_le,-Int.not_lt,-List.map_set,cD,hg,hw,dO,mC,hA,q]
   (repeat refine Alt.mk ?_)
   first|exact f _ aI aI (fun y hy h1 h2=>by(first|exact bn|fail)) bc|trace_state
  ·skip
   have hm:write c ws g=stay ws {g with entry:=A,pc:=9} 0:=by unfold write;simp[mC,hA,q,bx]
   have f:=fS _ _ _ hm rfl rfl
   clear fS fN hm
   simp+contextual (maxSteps:=1000000) (disch:=first|exact dB|fail) [go_sem,int_lt,-Int.not_le,-Int.not_lt,-List.map_set,cD,hg,hw,dO,mC,hA,q]
   (repeat refine Alt.mk ?_)
   first|exact f _ aI aI (fun y hy h1 h2=>by(first|exact bn|fail)) bc|trace_state
theorem J1(I:af)(i k j:Nat)(bp:List U)(c:aM)(ws:List Int)(g:ag)(sv pv:U)(h:cZ I i k j bp c ws g sv pv)(hL:rF I i j g sv pv)(MJ:g.pc=25):
 Fn Tryz.prog 201 [jD i k j c ws] I fun x R=>x= .int .i64 (write c ws g).ev∧fV I R i k j bp (write c ws g).so sv pv:=by
 generalize hG:(fun(x:U) (R:af)=>x= .int .i64 (write c ws g).ev∧fV I R i k j bp (write c ws g).so sv pv)=GG
 refine bA cD mixed Tryz.func201 (by kernel_rfl) rfl (by kernel_rfl) ?_
 obtain⟨hi,hj,gW,hk,hg,hw,hW,hl,hc,⟨Hu,Hv,Hw,Hx,rS,C9⟩,ok,ct⟩:=h
 have fS:∀(ws':List Int) (g':ag) (ev:Int),write c ws g=stay ws' g' ev→g'.snap=g.snap→g'.ax=g.ax→∀R:af,R.get i=some ⟨aB bp k (iG g' sv pv),true⟩→R.get j=some ⟨ws'.map (.int .u64),true⟩→(∀y,y<I.n→NE y i→NE y j→R.get y=I.get y)→I.n≤R.n→GG (.int .i64 ev) R:=fun ws' g' ev h h1 h2 R t1 t2 t3 t4=>by
  rw[←hG]
  simp only[h]
  exact⟨trivial,fV.same hL h1 h2 t1 t2 t3 t4⟩
 have fN:∀(ws':List Int) (g':ag) (cd vl ev:Int),write c ws g=fin ws' g' cd vl ev→∀R:af,R.get i=some ⟨aB bp k (iG (g'.complete cd vl) .al .al),true⟩→R.get j=some ⟨ws'.map (.int .u64),true⟩→(∀y,y<I.n→NE y i→NE y j→R.get y=I.get y)→I.n≤R.n→GG (.int .i64 ev) R:=fun ws' g' cd vl ev h R t1 t2 t3 t4=>by
  rw[←hG]
  simp only[h]
  exact⟨trivial,fV.none rfl rfl t1 t2 t3 t4⟩
 have cc:0≤g.count∧g.count<100000000:=ct
 have Df:j≠i:=Ne.symm gW
 have hp:=hL.p.v
 have dO:eC pv=some g.ax.length:=hp.elems.2
 have M6:cn pv≠i∨pv= .al:=hL.pi
 have QC:cn pv≠j∨pv= .al:=hL.pj
 have De:=hp.aQ
 have cL:=hc
 unfold aM.ok at cL
 unfold aM.size at hl
 unfold fR aM.im at ok
 have sl:0≤g.slot∧g.slot<c.am:=J
 have sq:0≤g.seq∧g.seq≤1000001:=J
 have kk:0≤g.gk∧g.gk≤1000:=J
 have PV:0≤g.gn∧g.gn≤20:=J
 have pl:(g.ax.length:Int)≤20:=J
 have k1:g.pc=13∨g.pc=14→g.gk≤g.ax.length:=J
 have k2:g.pc=22∨g.pc=23∨g.pc=24→(1≤g.gk∧g.gk≤g.gn)∧(g.own=true→g.gn=g.ax.length)∧0≤g.aX∧g.aX<c.am:=ok.2.2.2.2.2.2.2.2.2.2.2.2.2.2.2.2.2.2.1
 clear ok rS hG hL hc
 have jQ:¬g.pc=13:=J
 have jm:¬g.pc=14:=J
 have kW:¬g.pc=15:=J
 have mC:¬g.pc=22:=J
 have nX:¬g.pc=23:=J
 have gE:¬g.pc=24:=J
 have hc:c.ok:=by unfold aM.ok;exact cL
 have e2:=bF hW 2
 have e4:=bF hW (bx c g.slot+g.gk)
 have e5:=bF hW (bx c g.aX+g.gk)
 have e6:=bF hW (aG g.entry/1048576)
 have v0:=aO (w:=g.entry)
 ·by_cases q:at_ ws 2=g.door
  ·cases ho:g.own
   ·skip
    have hm:write c ws g=stay (put ws 2 (cK 0 0 0 (g.seq+1))) {g with pc:=9} 0:=by unfold write;simp[MJ,q,ho]
    have f:=fS _ _ _ hm rfl rfl
    simp only[iG,ho]at f
    clear fS fN hm
    simp+contextual (maxSteps:=1000000) (disch:=first|exact dB|fail) [go_sem,int_lt,-Int.not_le,-Int.not_lt,-List.map_set,cD,hg,hw,dO,MJ,q,ho]
    (repeat refine Alt.mk ?_)
    first|exact f _ aI aI (fun y hy h1 h2=>by(first|exact bn|fail)) bc|trace_state
   ·skip
    have hm:write c ws g=fin (put ws 2 (cK 0 0 0 (g.seq+1))) g g.code g.val 0:=by unfold write;simp[MJ,q,ho]
    have f:=fN _ _ _ _ _ hm
    clear fS fN hm
    simp+contextual (maxSteps:=1000000) (disch:=first|exact dB|fail) [go_sem,int_lt,-Int.not_le,-Int.not_lt,-List.map_set,cD,hg,hw,dO,MJ,q,ho]
    (repeat refine Alt.mk ?_)
    first|exact f _ aI aI (fun y hy h1 h2=>by(first|exact bn|fail)) bc|trace_state
  ·cases ho:g.own
   ·skip
    have hm:write c ws g=stay ws {g with pc:=9} 0:=by unfold write;simp[MJ,q,ho]
    have f:=fS _ _ _ hm rfl rfl
    simp only[iG,ho]at f
    clear fS fN hm
    simp+contextual (maxSteps:=1000000) (disch:=first|exact dB|fail) [go_sem,int_lt,-Int.not_le,-Int.not_lt,-List.map_set,cD,hg,hw,dO,MJ,q,ho]
    (repeat refine Alt.mk ?_)
    first|exact f _ aI aI (fun y hy h1 h2=>by(first|exact bn|fail)) bc|trace_state
   ·skip
    have hm:write c ws g=fin ws g g.code g.val 0:=by unfold write;simp[MJ,q,ho]
    have f:=fN _ _ _ _ _ hm
    clear fS fN hm
    simp+contextual (maxSteps:=1000000) (disch:=first|exact dB|fail) [go_sem,int_lt,-Int.not_le,-Int.not_lt,-List.map_set,cD,hg,hw,dO,MJ,q,ho]
    (repeat refine Alt.mk ?_)
    first|exact f _ aI aI (fun y hy h1 h2=>by(first|exact bn|fail)) bc|trace_state
theorem J2(I:af)(i k j:Nat)(bp:List U)(c:aM)(ws:List Int)(g:ag)(sv pv:U)(h:cZ I i k j bp c ws g sv pv)(hL:rF I i j g sv pv)(XL:g.pc=26):
 Fn Tryz.prog 201 [jD i k j c ws] I fun x R=>x= .int .i64 (write c ws g).ev∧fV I R i k j bp (write c ws g).so sv pv:=by
 generalize hG:(fun(x:U) (R:af)=>x= .int .i64 (write c ws g).ev∧fV I R i k j bp (write c ws g).so sv pv)=GG
 refine bA cD mixed Tryz.func201 (by kernel_rfl) rfl (by kernel_rfl) ?_
 obtain⟨hi,hj,gW,hk,hg,hw,hW,hl,hc,⟨Hu,Hv,Hw,Hx,rS,C9⟩,ok,ct⟩:=h
 have fS:∀(ws':List Int) (g':ag) (ev:Int),write c ws g=stay ws' g' ev→g'.snap=g.snap→g'.ax=g.ax→∀R:af,R.get i=some ⟨aB bp k (iG g' sv pv),true⟩→R.get j=some ⟨ws'.map (.int .u64),true⟩→(∀y,y<I.n→NE y i→NE y j→R.get y=I.get y)→I.n≤R.n→GG (.int .i64 ev) R:=fun ws' g' ev h h1 h2 R t1 t2 t3 t4=>by
  rw[←hG]
  simp only[h]
  exact⟨trivial,fV.same hL h1 h2 t1 t2 t3 t4⟩
 have fN:∀(ws':List Int) (g':ag) (cd vl ev:Int),write c ws g=fin ws' g' cd vl ev→∀R:af,R.get i=some ⟨aB bp k (iG (g'.complete cd vl) .al .al),true⟩→R.get j=some ⟨ws'.map (.int .u64),true⟩→(∀y,y<I.n→NE y i→NE y j→R.get y=I.get y)→I.n≤R.n→GG (.int .i64 ev) R:=fun ws' g' cd vl ev h R t1 t2 t3 t4=>by
  rw[←hG]
  simp only[h]
  exact⟨trivial,fV.none rfl rfl t1 t2 t3 t4⟩
 have cc:0≤g.count∧g.count<100000000:=ct
 have Df:j≠i:=Ne.symm gW
 have hp:=hL.p.v
 have dO:eC pv=some g.ax.length:=hp.elems.2
 have M6:cn pv≠i∨pv= .al:=hL.pi
 have QC:cn pv≠j∨pv= .al:=hL.pj
 have De:=hp.aQ
 have cL:=hc
 unfold aM.ok at cL
 unfold aM.size at hl
 unfold fR aM.im at ok
 have sl:0≤g.slot∧g.slot<c.am:=J
 have sq:0≤g.seq∧g.seq≤1000001:=J
 have kk:0≤g.gk∧g.gk≤1000:=J
 have PV:0≤g.gn∧g.gn≤20:=J
 have pl:(g.ax.length:Int)≤20:=J
 have k1:g.pc=13∨g.pc=14→g.gk≤g.ax.length:=J
 have k2:g.pc=22∨g.pc=23∨g.pc=24→(1≤g.gk∧g.gk≤g.gn)∧(g.own=true→g.gn=g.ax.length)∧0≤g.aX∧g.aX<c.am:=ok.2.2.2.2.2.2.2.2.2.2.2.2.2.2.2.2.2.2.1
 clear ok rS hG hL hc
 have jQ:¬g.pc=13:=J
 have jm:¬g.pc=14:=J
 have kW:¬g.pc=15:=J
 have mC:¬g.pc=22:=J
 have nX:¬g.pc=23:=J
 have gE:¬g.pc=24:=J
 have MJ:¬g.pc=25:=J
 have hc:c.ok:=by unfold aM.ok;exact cL
 have e2:=bF hW 2
 have e4:=bF hW (bx c g.slot+g.gk)
 have e5:=bF hW (bx c g.aX+g.gk)
 have e6:=bF hW (aG g.entry/1048576)
 have v0:=aO (w:=g.entry)
 by_cases q:at_ ws 2=cK 1 g.slot g.ao g.seq
 ·skip
  have hm:write c ws g=fin (put ws 2 (cK 0 0 0 (g.seq+1))) g g.code 0 0:=by unfold write;simp[XL,q]
  have f:=fN _ _ _ _ _ hm
  clear fS fN hm
  simp+contextual (maxSteps:=1000000) (disch:=first|exact dB|fail) [go_sem,int_lt,-Int.not_le,-Int.not_lt,-List.map_set,cD,hg,hw,dO,XL,q]
  (repeat refine Alt.mk ?_)
  first|exact f _ aI aI (fun y hy h1 h2=>by(first|exact bn|fail)) bc|trace_state
 ·skip
  have hm:write c ws g=fin ws g g.code 0 0:=by unfold write;simp[XL,q]
  have f:=fN _ _ _ _ _ hm
  clear fS fN hm
  simp+contextual (maxSteps:=1000000) (disch:=first|exact dB|fail) [go_sem,int_lt,-Int.not_le,-Int.not_lt,-List.map_set,cD,hg,hw,dO,XL,q]
  (repeat refine Alt.mk ?_)
  first|exact f _ aI aI (fun y hy h1 h2=>by(first|exact bn|fail)) bc|trace_state
end AH
