import Derived.Test.YtagihpbpblnnoaaGreatZ21
import Derived.Test.YtagihpbpblnnoaaGreatZ00
set_option linter.all false
namespace AH
open Go Go.Proofs Ho
set_option maxRecDepth 20000
set_option maxHeartbeats 16000000
theorem U3(I:af)(c:aM)(g:ag)(sv pv:U)(hs:cC sv g.snap.length)(hp:cC pv g.ax.length)(hc:0≤c.am∧c.am≤10∧0≤c.ah∧c.ah≤10)(cq:c.ok)(hq:g.busy=true)(ho:g.own=false):
 Fn Tryz.prog 51 [cV c.am c.ah c.bH,.agg (gV g sv pv)] I fun x R=>x= .bool (decide (bW c g))∧R=I:=by
 refine ay aZ mixed Tryz.func51 (by kernel_rfl) rfl (by kernel_rfl) bE ?_
 have MQ:0≤c.am∧c.am≤1000:=J
 have Sf:0≤c.ah∧c.ah≤1000:=J
 generalize hQ:decide (bW c g)=Q
 have iB:aM.ok ⟨c.am,c.ah,c.bH⟩:=cq
 have Jg:Q=decide _:=hQ.symm.trans (decide_eq_decide.2 (xT cq))
 clear hQ
 simp+contextual (maxSteps:=1000000) (disch:=first|exact dB|fail) [go_sem,int_lt,-Int.not_le,-Int.not_lt,-List.map_set,cq,iB,hq,ho]
 repeat' (first|refine Alt.mk ?_|refine And.intro ?_ ?_|intro _)
 all_goals(subst Jg;simp[hq,ho]at* <;>first|omega|grind)
end AH
