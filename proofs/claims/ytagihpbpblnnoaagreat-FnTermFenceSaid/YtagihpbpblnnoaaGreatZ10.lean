import Derived.Test.YtagihpbpblnnoaaGreatZ09
import Derived.Test.YtagihpbpblnnoaaGreatZ00
set_option linter.all false
namespace AH
open Go Go.Proofs Ho
set_option maxRecDepth 10000
set_option maxHeartbeats 4000000
theorem ID(I:af)(i k:Nat)(bp:List U)(up:Bool)(slot:Int)(ao:Int)(busy:Bool)(aE:Int)(aH:Int)(oa:Int)(ob:Int)(pc:Int)(gk:Int)(gn:Int)(seq:Int)(next:Int)(aX:Int)(aK:Int)(own:Bool)(time:Int)(bw:Int)(door:Int)(aT:Int)(entry:Int)(sv:U)(pv:U)(code:Int)(val:Int)(count:Int)(hk:k+26≤bp.length)(hg:I.get i=some ⟨aB bp k [.bool up,.int .i64 slot,.int .i64 ao,.bool busy,.int .i64 aE,.int .i64 aH,.int .i64 oa,.int .i64 ob,.int .i64 pc,.int .i64 gk,.int .i64 gn,.int .i64 seq,.int .i64 next,.int .i64 aX,.int .i64 aK,.bool own,.int .i64 time,.int .u64 bw,.int .u64 door,.int .u64 aT,.int .u64 entry,sv,pv,.int .i64 code,.int .i64 val,.int .i64 count],true⟩)(h:gn<gk):Fn Tryz.prog 248 [.ptr i k] I fun x R=>x= .cw []∧R=I.set i ⟨aB bp k [.bool up,.int .i64 slot,.int .i64 ao,.bool busy,.int .i64 aE,.int .i64 aH,.int .i64 oa,.int .i64 ob,.int .i64 25,.int .i64 0,.int .i64 gn,.int .i64 seq,.int .i64 next,.int .i64 aX,.int .i64 aK,.bool own,.int .i64 time,.int .u64 bw,.int .u64 door,.int .u64 aT,.int .u64 entry,sv,pv,.int .i64 code,.int .i64 val,.int .i64 count],true⟩:=by
 refine ec np mixed Tryz.func248 (by kernel_rfl) rfl (by kernel_rfl) ?_ ?_ ?_ ?_
 ·rfl
 ·rfl
 ·exact dJ hg (i9 aV bX kx)
 simp(disch:=first|exact dA|fail) [go_sem,bL,hg,np,h]
@[go_sem] def Xm:=fun(I:af) i k bp up slot ao busy aE aH oa ob pc gk gn seq next aX aK own time bw door aT entry sv pv code val count hk hg h (aA:U→af→Prop)=>ar (k:=aA) (ID I i k bp up slot ao busy aE aH oa ob pc gk gn seq next aX aK own time bw door aT entry sv pv code val count hk hg h)
theorem IE(I:af)(i k a b:Nat)(ps:List Int)(bp:List U)(up:Bool)(slot:Int)(ao:Int)(busy:Bool)(aE:Int)(aH:Int)(oa:Int)(ob:Int)(pc:Int)(gk:Int)(gn:Int)(seq:Int)(next:Int)(aX:Int)(aK:Int)(own:Bool)(time:Int)(bw:Int)(door:Int)(aT:Int)(entry:Int)(sv:U)(pv:U)(code:Int)(val:Int)(count:Int)(hk:k+26≤bp.length)(hg:I.get i=some ⟨aB bp k [.bool up,.int .i64 slot,.int .i64 ao,.bool busy,.int .i64 aE,.int .i64 aH,.int .i64 oa,.int .i64 ob,.int .i64 pc,.int .i64 gk,.int .i64 gn,.int .i64 seq,.int .i64 next,.int .i64 aX,.int .i64 aK,.bool own,.int .i64 time,.int .u64 bw,.int .u64 door,.int .u64 aT,.int .u64 entry,sv,pv,.int .i64 code,.int .i64 val,.int .i64 count],true⟩)(h:¬gn<gk)(ho:own=true)(hp:pv= .sl a b ps.length 1)(hl:kZ .u64 I a b ps)(h1:1≤gk)(h2:gk≤ps.length)(h3:gk≤1000):Fn Tryz.prog 248 [.ptr i k] I fun x R=>x= .cw []∧R=I.set i ⟨aB bp k [.bool up,.int .i64 slot,.int .i64 ao,.bool busy,.int .i64 aE,.int .i64 aH,.int .i64 oa,.int .i64 ob,.int .i64 23,.int .i64 gk,.int .i64 gn,.int .i64 seq,.int .i64 next,.int .i64 aX,.int .i64 aK,.bool own,.int .i64 time,.int .u64 bw,.int .u64 door,.int .u64 aT,.int .u64 (at_ ps (gk-1)),sv,pv,.int .i64 code,.int .i64 val,.int .i64 count],true⟩:=by
 refine ec np mixed Tryz.func248 (by kernel_rfl) rfl (by kernel_rfl) ?_ ?_ ?_ ?_
 ·rfl
 ·rfl
 ·exact dJ hg (i9 aV bX kx)
 subst ho hp
 have h5:=fun R (h:kZ .u64 R a b ps)=>kZ.load (P:=Tryz.prog) (t:=43) (n:=1) h (by simp[go_sem]) (gk.toNat-1) J
 have h4:((gk.toNat-1:Nat):Int)=gk-1:=J
 rw[h4]at h5
 simp(disch:=first|exact dA|fail) [go_sem,bL,hg,np,h,wrap_i64,h5]
@[go_sem] def Xn:=fun(I:af) i k a b ps bp up slot ao busy aE aH oa ob pc gk gn seq next aX aK own time bw door aT entry sv pv code val count hk hg h ho hp hl h1 h2 h3 (aA:U→af→Prop)=>ar (k:=aA) (IE I i k a b ps bp up slot ao busy aE aH oa ob pc gk gn seq next aX aK own time bw door aT entry sv pv code val count hk hg h ho hp hl h1 h2 h3)
theorem IF(I:af)(i k:Nat)(bp:List U)(up:Bool)(slot:Int)(ao:Int)(busy:Bool)(aE:Int)(aH:Int)(oa:Int)(ob:Int)(pc:Int)(gk:Int)(gn:Int)(seq:Int)(next:Int)(aX:Int)(aK:Int)(own:Bool)(time:Int)(bw:Int)(door:Int)(aT:Int)(entry:Int)(sv:U)(pv:U)(code:Int)(val:Int)(count:Int)(hk:k+26≤bp.length)(hg:I.get i=some ⟨aB bp k [.bool up,.int .i64 slot,.int .i64 ao,.bool busy,.int .i64 aE,.int .i64 aH,.int .i64 oa,.int .i64 ob,.int .i64 pc,.int .i64 gk,.int .i64 gn,.int .i64 seq,.int .i64 next,.int .i64 aX,.int .i64 aK,.bool own,.int .i64 time,.int .u64 bw,.int .u64 door,.int .u64 aT,.int .u64 entry,sv,pv,.int .i64 code,.int .i64 val,.int .i64 count],true⟩)(h:¬gn<gk)(ho:own=false):Fn Tryz.prog 248 [.ptr i k] I fun x R=>x= .cw []∧R=I.set i ⟨aB bp k [.bool up,.int .i64 slot,.int .i64 ao,.bool busy,.int .i64 aE,.int .i64 aH,.int .i64 oa,.int .i64 ob,.int .i64 22,.int .i64 gk,.int .i64 gn,.int .i64 seq,.int .i64 next,.int .i64 aX,.int .i64 aK,.bool own,.int .i64 time,.int .u64 bw,.int .u64 door,.int .u64 aT,.int .u64 entry,sv,pv,.int .i64 code,.int .i64 val,.int .i64 count],true⟩:=by
 refine ec np mixed Tryz.func248 (by kernel_rfl) rfl (by kernel_rfl) ?_ ?_ ?_ ?_
 ·rfl
 ·rfl
 ·exact dJ hg (i9 aV bX kx)
 subst ho
 simp(disch:=first|exact dA|fail) [go_sem,bL,hg,np,h]
@[go_sem] def Xo:=fun(I:af) i k bp up slot ao busy aE aH oa ob pc gk gn seq next aX aK own time bw door aT entry sv pv code val count hk hg h ho (aA:U→af→Prop)=>ar (k:=aA) (IF I i k bp up slot ao busy aE aH oa ob pc gk gn seq next aX aK own time bw door aT entry sv pv code val count hk hg h ho)
theorem Lm(I:af)(i k j:Nat)(bp:List U)(c:aM)(ws:List Int)(g:ag)(sv pv:U)(h:cZ I i k j bp c ws g sv pv)(hp:16≤g.pc∧g.pc≤21):
 Fn Tryz.prog 199 [jD i k j c ws] I fun x R=>x= .int .i64 (watch c ws g).ev∧R=gl I i k j bp sv pv (watch c ws g):=by
 refine ec md mixed Tryz.func199 (by kernel_rfl) rfl (by kernel_rfl) rfl rfl (EW h _) ?_
 obtain⟨hi,hj,gW,hk,hg,hw,hW,hl,hc,⟨Hu,Hv,Hw,Hx,rS,C9⟩,ok,ct⟩:=h
 have d_:=set_comm gW
 have cL:=hc
 unfold aM.ok at cL
 unfold aM.size at hl
 unfold fR at ok
 have sl:0≤g.aX∧g.aX<c.am:=J
 have sq:0≤g.seq∧g.seq≤1000001:=J
 have ow:g.own=false:=by
  cases ho:g.own with
  |false=>rfl
  |true=>have:=ok.2.2.2.2.2.2.2.2.2.2.2.2.2.2.2.2.2.2.2.2 ho;omega
 clear ok rS C9
 have e1:=bF hW (3+c.am+g.aX)
 have e2:=bF hW (3+g.aX)
 have e3:=bF hW 1
 have e4:=bF hW (7+2*c.am+17*c.ah+21*g.aX)
 have f3:=aO (w:=at_ ws 1)
 have f4:=aO (w:=at_ ws (7+2*c.am+17*c.ah+21*g.aX))
 by_cases h1:g.pc=16
 ·by_cases h2:aG (at_ ws (3+g.aX)) % 4=1<;>by_cases h3:aG (at_ ws (3+g.aX))/4=g.aK<;>
   simp(disch:=first|exact dA|fail) [go_sem,bL,md,wrap_i64,hg,hw,d_,watch,fm hw,ag.complete,ag.zero,gl,put,clockOf,bx,h1,h2,h3]
 by_cases h2:g.pc=17
 ·simp(disch:=first|exact dA|fail) [go_sem,bL,md,wrap_i64,hg,hw,d_,watch,fm hw,ag.complete,ag.zero,gl,put,clockOf,bx,h1,h2]
 by_cases h3:g.pc=18
 ·cases h5:lK g.aT g.aK (aG (at_ ws 1)) c.bH<;>
   simp(disch:=first|exact dA|fail) [go_sem,bL,md,wrap_i64,hg,hw,d_,watch,fm hw,ag.complete,ag.zero,gl,put,clockOf,bx,h1,h2,h3,h5]
 by_cases h4:g.pc=19
 ·by_cases h5:at_ ws (3+g.aX)=g.bw<;>
   simp(disch:=first|exact dA|fail) [go_sem,bL,md,wrap_i64,hg,hw,d_,watch,fm hw,ag.complete,ag.zero,gl,put,clockOf,bx,h1,h2,h3,h4,h5]
 by_cases h5:g.pc=20
 ·by_cases h6:at_ ws 2=cK 1 g.aX g.aK g.seq<;>
   simp(disch:=first|exact dA|fail) [go_sem,bL,md,wrap_i64,hg,hw,d_,watch,fm hw,ag.complete,ag.zero,gl,put,clockOf,bx,h1,h2,h3,h4,h5,h6]
 have h6:g.pc=21:=J
 by_cases h7:aL (at_ ws (7+2*c.am+17*c.ah+21*g.aX))=g.seq
 ·by_cases h8:aG (at_ ws (7+2*c.am+17*c.ah+21*g.aX))≤20
  ·by_cases h9:aG (at_ ws (7+2*c.am+17*c.ah+21*g.aX))<1<;>
    simp(disch:=first|exact dA|fail) [go_sem,bL,md,wrap_i64,hg,hw,d_,watch,fm hw,ag.complete,ag.zero,gl,put,clockOf,bx,h6,h7,h8,h9,ow,ag.continues]
  ·simp(disch:=first|exact dA|fail) [go_sem,bL,md,wrap_i64,hg,hw,d_,watch,fm hw,ag.complete,ag.zero,gl,put,clockOf,bx,h6,h7,h8]
 ·simp(disch:=first|exact dA|fail) [go_sem,bL,md,wrap_i64,hg,hw,d_,watch,fm hw,ag.complete,ag.zero,gl,put,clockOf,bx,h6,h7]
end AH
namespace AH
open Go Go.Proofs Ho
set_option maxRecDepth 10000
set_option maxHeartbeats 4000000
theorem KO(I:af)(i k j:Nat)(bp:List U)(c:aM)(ws:List Int)(g:ag)(sv pv:U)(h:cZ I i k j bp c ws g sv pv):
 Fn Tryz.prog 249 [jD i k j c ws] I fun x R=>x= .cw []∧R=gl I i k j bp sv pv (eQ c ws g):=by
 refine ec qN mixed Tryz.func249 (by kernel_rfl) rfl (by kernel_rfl) rfl rfl (EW h _) ?_
 obtain⟨hi,hj,gW,hk,hg,hw,hW,hl,hc,⟨Hu,Hv,Hw,Hx,rS,C9⟩,ok,ct⟩:=h
 have d_:=set_comm gW
 have cL:=hc
 unfold aM.ok at cL
 unfold aM.size at hl
 clear ok rS C9
 have e3:=bF hW 2
 have f3:=aO (w:=at_ ws 2)
 have f4:=gx e3
 have dG:(2:Int)<ws.length:=J
 have hx:ws[2]'(by omega)=at_ ws 2:=by simp[at_,show 2<ws.length by omega]
 generalize hd:at_ ws 2=d at*
 by_cases h1:1000000<aL d
 ·simp(disch:=first|exact dA|fail) [go_sem,bL,qN,wrap_i64,hg,hw,d_,eQ,fm hw,ag.complete,ag.zero,gl,put,clockOf,hd,dG,hx,h1]
 by_cases h2:2<aG d % 4
 ·simp(disch:=first|exact dA|fail) [go_sem,bL,qN,wrap_i64,hg,hw,d_,eQ,fm hw,ag.complete,ag.zero,gl,put,clockOf,hd,dG,hx,h1,h2]
 by_cases h3:aG d % 4=0
 ·by_cases h4:aL d=1000000<;>
   simp(disch:=first|exact dA|fail) [go_sem,bL,qN,wrap_i64,hg,hw,d_,eQ,fm hw,ag.complete,ag.zero,gl,put,clockOf,hd,dG,hx,h1,h2,h3,h4]
 by_cases h4:aG d/4 % 8<c.am
 ·have TZ:aG d/4 % 8≤c.am-1:=J
  have h6:0≤aG d/4 % 8:=J
  by_cases h5:aG d % 4=1<;>
   simp(disch:=first|exact dA|fail) [go_sem,bL,qN,wrap_i64,hg,hw,d_,eQ,fm hw,ag.complete,ag.zero,gl,put,clockOf,hd,dG,hx,h1,h2,h3,h4,TZ,h5,h6]
 ·have TZ:¬aG d/4 % 8≤c.am-1:=J
  have h6:0≤aG d/4 % 8:=J
  simp(disch:=first|exact dA|fail) [go_sem,bL,qN,wrap_i64,hg,hw,d_,eQ,fm hw,ag.complete,ag.zero,gl,put,clockOf,hd,dG,hx,h1,h2,h3,h4,TZ,h6]
end AH
