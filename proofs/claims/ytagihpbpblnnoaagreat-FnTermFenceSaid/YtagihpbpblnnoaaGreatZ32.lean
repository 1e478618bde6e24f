import Derived.Test.YtagihpbpblnnoaaGreatZ21
import Derived.Test.YtagihpbpblnnoaaGreatZ31
import Derived.Test.YtagihpbpblnnoaaGreatZ09
import Derived.Test.YtagihpbpblnnoaaGreatZ00
set_option linter.all false
namespace AH
open Go Go.Proofs Ho
set_option maxRecDepth 20000
set_option maxHeartbeats 16000000
theorem U2(I:af)(c:aM)(g:ag)(sv pv:U)(hs:cC sv g.snap.length)(hp:cC pv g.ax.length)(hc:0≤c.am∧c.am≤10∧0≤c.ah∧c.ah≤10)(cq:c.ok)(hq:g.busy=false):
 Fn Tryz.prog 51 [cV c.am c.ah c.bH,.agg (gV g sv pv)] I fun x R=>x= .bool (decide (bW c g))∧R=I:=by
 refine ay aZ mixed Tryz.func51 (by kernel_rfl) rfl (by kernel_rfl) bE ?_
 have MQ:0≤c.am∧c.am≤1000:=J
 have Sf:0≤c.ah∧c.ah≤1000:=J
 generalize hQ:decide (bW c g)=Q
 have iB:aM.ok ⟨c.am,c.ah,c.bH⟩:=cq
 have Jg:Q=decide _:=hQ.symm.trans (decide_eq_decide.2 (xT cq))
 clear hQ
 simp+contextual (maxSteps:=1000000) (disch:=first|exact dB|fail) [go_sem,int_lt,-Int.not_le,-Int.not_lt,-List.map_set,cq,iB,hq]
 repeat' (first|refine Alt.mk ?_|refine And.intro ?_ ?_|intro _)
 all_goals(subst Jg;simp[hq]at* <;>first|omega|grind)
end AH
namespace AH
open Go Go.Proofs Ho
set_option maxRecDepth 20000
set_option maxHeartbeats 16000000
theorem U5(I:af)(c:aM)(g:ag)(sv pv:U)(hs:cC sv g.snap.length)(hp:cC pv g.ax.length)(hc:0≤c.am∧c.am≤10∧0≤c.ah∧c.ah≤10)(cq:c.ok)(hq:g.busy=true)(ho:g.own=true)(hn:¬g.gn=g.ax.length):
 Fn Tryz.prog 51 [cV c.am c.ah c.bH,.agg (gV g sv pv)] I fun x R=>x= .bool (decide (bW c g))∧R=I:=by
 refine ay aZ mixed Tryz.func51 (by kernel_rfl) rfl (by kernel_rfl) bE ?_
 have MQ:0≤c.am∧c.am≤1000:=J
 have Sf:0≤c.ah∧c.ah≤1000:=J
 generalize hQ:decide (bW c g)=Q
 have iB:aM.ok ⟨c.am,c.ah,c.bH⟩:=cq
 have Jg:Q=decide _:=hQ.symm.trans (decide_eq_decide.2 (xT cq))
 clear hQ
 simp+contextual (maxSteps:=1000000) (disch:=first|exact dB|fail) [go_sem,int_lt,-Int.not_le,-Int.not_lt,-List.map_set,cq,iB,hq,ho,hn]
 repeat' (first|refine Alt.mk ?_|refine And.intro ?_ ?_|intro _)
 all_goals(subst Jg;simp[hq,ho,hn]at* <;>first|omega|grind)
end AH
namespace AH
open Go Go.Proofs Ho
set_option maxRecDepth 20000
set_option maxHeartbeats 16000000
theorem U6(I:af)(c:aM)(g:ag)(sv pv:U)(cq:¬c.ok):
 Fn Tryz.prog 51 [cV c.am c.ah c.bH,.agg (gV g sv pv)] I fun x R=>x= .bool (decide (bW c g))∧R=I:=by
 refine ay aZ mixed Tryz.func51 (by kernel_rfl) rfl (by kernel_rfl) bE ?_
 have iB:¬aM.ok ⟨c.am,c.ah,c.bH⟩:=cq
 have hg:¬bW c g:=fun h=>cq h.1
 simp+contextual (maxSteps:=1000000) (disch:=first|exact dB|fail) [go_sem,int_lt,-Int.not_le,-Int.not_lt,-List.map_set,cq,iB,hg]
theorem JT(I:af)(c:aM)(g:ag)(sv pv:U)(hs:cC sv g.snap.length)(hp:cC pv g.ax.length)(hc:0≤c.am∧c.am≤10∧0≤c.ah∧c.ah≤10):Fn Tryz.prog 51 [cV c.am c.ah c.bH,.agg (gV g sv pv)] I fun x R=>x= .bool (decide (bW c g))∧R=I:=by
 by_cases cq:c.ok
 ·cases hq:g.busy with
  |false=>exact U2 I c g sv pv hs hp hc cq hq
  |true=>
   cases ho:g.own with
   |false=>exact U3 I c g sv pv hs hp hc cq hq ho
   |true=>
    by_cases hn:g.gn=g.ax.length
    ·exact U4 I c g sv pv hs hp hc cq hq ho hn
    ·exact U5 I c g sv pv hs hp hc cq hq ho hn
 ·exact U6 I c g sv pv cq
@[go_sem] def ae0:=fun(I:af) c g sv pv hs hp hc (aA:U→af→Prop)=>ar (k:=aA) (JT I c g sv pv hs hp hc)
@[go_sem] def aeZ:=fun(I:af) (b_:Bool) (c:aM) (g:ag) (sv pv:U) (hs:b_=true→ cC sv g.snap.length) (hp:b_=true→ cC pv g.ax.length) (hc:b_=true→ 0≤c.am∧c.am≤10∧0≤c.ah∧c.ah≤10) (aA:U→af→Prop)=>aJ (k:=aA) b_ fun aY=>JT I c g sv pv (hs aY) (hp aY) (hc aY)
end AH
namespace AH
open Go Go.Proofs Ho
set_option maxRecDepth 20000
set_option maxHeartbeats 4000000
theorem vu(I:af)(s p l:Int):Fn Tryz.prog 95 [.agg [.int .i64 s,.int .i64 p,.int .i64 l]] I fun x R=>x= .int .i64 s∧R=I:=by
 refine ay aZ mixed Tryz.func95 (by kernel_rfl) rfl (by kernel_rfl) bE ?_
 simp+contextual (maxSteps:=1000000) (disch:=first|exact dB|fail) [go_sem,int_lt,-Int.not_le,-Int.not_lt,-List.map_set]
@[go_sem] def Tx:=fun(I:af) s p l (aA:U→af→Prop)=>ar (k:=aA) (vu I s p l)
@[go_sem] def Tw:=fun(I:af) (b_:Bool) (s p l:Int) (aA:U→af→Prop)=>aJ (k:=aA) b_ fun aY=>vu I s p l
theorem EM(I:af)(s p l slot:Int)(hc:aM.ok ⟨s,p,l⟩):Fn Tryz.prog 93 [.agg [.int .i64 s,.int .i64 p,.int .i64 l],.fn 94 [] [],.int .i64 slot,.fn 95 [] []] I fun x R=>x= .int .i64 (if 0≤slot∧slot<s then 3+slot else 0)∧R=I:=by
 refine ay aZ mixed Tryz.func93 (by kernel_rfl) rfl (by kernel_rfl) bE ?_
 have cL:=hc
 unfold aM.ok at cL
 simp only at cL
 by_cases h0:0≤slot
 ·by_cases h1:slot≤s-1
  ·have h2:slot<s:=J
   simp+contextual (maxSteps:=1000000) (disch:=first|exact dB|fail) [go_sem,int_lt,-Int.not_le,-Int.not_lt,-List.map_set,hc,h0,h1,h2]
  ·have h2:¬slot<s:=J
   simp+contextual (maxSteps:=1000000) (disch:=first|exact dB|fail) [go_sem,int_lt,-Int.not_le,-Int.not_lt,-List.map_set,hc,h0,h1,h2]
 ·simp+contextual (maxSteps:=1000000) (disch:=first|exact dB|fail) [go_sem,int_lt,-Int.not_le,-Int.not_lt,-List.map_set,hc,h0]
@[go_sem] def abJ:=fun(I:af) s p l slot hc (aA:U→af→Prop)=>ar (k:=aA) (EM I s p l slot hc)
@[go_sem] def abI:=fun(I:af) (b_:Bool) (s p l slot:Int) (hc:b_=true→ aM.ok ⟨s,p,l⟩) (aA:U→af→Prop)=>aJ (k:=aA) b_ fun aY=>EM I s p l slot (hc aY)
theorem EL(I:af)(s p l slot:Int)(hc:aM.ok ⟨s,p,l⟩):Fn Tryz.prog 93 [.agg [.int .i64 s,.int .i64 p,.int .i64 l],.fn 96 [] [],.int .i64 slot,.fn 95 [] []] I fun x R=>x= .int .i64 (if 0≤slot∧slot<s then 3+s+slot else 0)∧R=I:=by
 refine ay aZ mixed Tryz.func93 (by kernel_rfl) rfl (by kernel_rfl) bE ?_
 have cL:=hc
 unfold aM.ok at cL
 simp only at cL
 by_cases h0:0≤slot
 ·by_cases h1:slot≤s-1
  ·have h2:slot<s:=J
   simp+contextual (maxSteps:=1000000) (disch:=first|exact dB|fail) [go_sem,int_lt,-Int.not_le,-Int.not_lt,-List.map_set,hc,h0,h1,h2]
  ·have h2:¬slot<s:=J
   simp+contextual (maxSteps:=1000000) (disch:=first|exact dB|fail) [go_sem,int_lt,-Int.not_le,-Int.not_lt,-List.map_set,hc,h0,h1,h2]
 ·simp+contextual (maxSteps:=1000000) (disch:=first|exact dB|fail) [go_sem,int_lt,-Int.not_le,-Int.not_lt,-List.map_set,hc,h0]
@[go_sem] def abH:=fun(I:af) s p l slot hc (aA:U→af→Prop)=>ar (k:=aA) (EL I s p l slot hc)
@[go_sem] def abG:=fun(I:af) (b_:Bool) (s p l slot:Int) (hc:b_=true→ aM.ok ⟨s,p,l⟩) (aA:U→af→Prop)=>aJ (k:=aA) b_ fun aY=>EL I s p l slot (hc aY)
theorem Aj(I:af)(s p l slot:Int)(hc:aM.ok ⟨s,p,l⟩):Fn Tryz.prog 31 [.agg [.int .i64 s,.int .i64 p,.int .i64 l],.int .i64 slot] I fun x R=>x= .int .i64 (if 0≤slot∧slot<s then 3+slot else 0)∧R=I:=by
 refine ay aZ mixed Tryz.func31 (by kernel_rfl) rfl (by kernel_rfl) bE ?_
 have cL:=hc
 unfold aM.ok at cL
 simp only at cL
 simp+contextual (maxSteps:=1000000) (disch:=first|exact dB|fail) [go_sem,int_lt,-Int.not_le,-Int.not_lt,-List.map_set,hc]
@[go_sem] def Yo:=fun(I:af) s p l slot hc (aA:U→af→Prop)=>ar (k:=aA) (Aj I s p l slot hc)
@[go_sem] def Yn:=fun(I:af) (b_:Bool) (s p l slot:Int) (hc:b_=true→ aM.ok ⟨s,p,l⟩) (aA:U→af→Prop)=>aJ (k:=aA) b_ fun aY=>Aj I s p l slot (hc aY)
theorem vY(I:af)(s p l slot:Int)(hc:aM.ok ⟨s,p,l⟩):Fn Tryz.prog 32 [.agg [.int .i64 s,.int .i64 p,.int .i64 l],.int .i64 slot] I fun x R=>x= .int .i64 (if 0≤slot∧slot<s then 3+s+slot else 0)∧R=I:=by
 refine ay aZ mixed Tryz.func32 (by kernel_rfl) rfl (by kernel_rfl) bE ?_
 have cL:=hc
 unfold aM.ok at cL
 simp only at cL
 simp+contextual (maxSteps:=1000000) (disch:=first|exact dB|fail) [go_sem,int_lt,-Int.not_le,-Int.not_lt,-List.map_set,hc]
@[go_sem] def U_:=fun(I:af) s p l slot hc (aA:U→af→Prop)=>ar (k:=aA) (vY I s p l slot hc)
@[go_sem] def U9:=fun(I:af) (b_:Bool) (s p l slot:Int) (hc:b_=true→ aM.ok ⟨s,p,l⟩) (aA:U→af→Prop)=>aJ (k:=aA) b_ fun aY=>vY I s p l slot (hc aY)
end AH
