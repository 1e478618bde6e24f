import Derived.Test.YtagihpbpblnnoaaGreatZ14
import Derived.Test.YtagihpbpblnnoaaGreatZ15
import Derived.Test.YtagihpbpblnnoaaGreatZ00
set_option linter.all false
namespace AH
open Go Go.Proofs Ho
set_option maxRecDepth 20000
set_option maxHeartbeats 4000000
def uc(P:Program)(t:TypeId)(a v:U)(I:af):Option (U×af):=(kH P t a v I).map fun σ'=>(.undef,σ')
theorem FB{P:Program}{ajS:Operand→U}{I:af}(t:TypeId)(a x:Operand):db P ajS (.store t a x) I=uc P t (ajS a) (ajS x) I:=_root_.id rfl
theorem D0{P:Program}{t:TypeId}{I:af}(i k:Nat)(v:U):uc P t (.ptr i k) v I=(kH P t (.ptr i k) v I).map fun σ'=>(.undef,σ'):=_root_.id rfl
def stR(g:Option (Bool×Nat))(v:af)[a:Kt (Option (U×af))]:Option (U×af):=
 match g with
 |some (false,1)=>some (.undef,v)
 |_=>a.val
theorem KS(v:af)(a:Option (U×af)): @stR (some (false,1)) v ⟨a⟩=some (.undef,v):=_root_.id rfl
theorem GY{P:Program}{t:TypeId}{j n:Nat}{kk:IntKind}{a x:Int}{xs:List Int}{I:af}(hw:I.get j=some ⟨xs.map (.int kk),true⟩)(h0:0≤a)(h1:a<xs.length):
 uc P t (s6 (.sl j 0 n 1) a) (.int kk x) I= @stR (fq P t) (I.set j ⟨(put xs a x).map (.int kk),true⟩) ⟨uc P t (s6 (.sl j 0 n 1) a) (.int kk x) I⟩:=by
 unfold stR
 split
 ·rename_i hg
  simp only[uc,s6,cn,Vh,kH,U.cells,hg,hw]
  rw[if_pos ⟨trivial,rfl,bX,by simp[U.one]⟩]
  rw[Nat.zero_add,jH h0 h1]
  rfl
 ·rfl
attribute [go_sem ↓ high] FB
attribute [go_sem] D0 GY KS
theorem qQ(ws:List Int)(a o n:Int):(dc ws a o n).length=ws.length:=by unfold dc put;split<;>simp
theorem zm{ws:List Int}{a:Int}(h0:0≤a)(h1:a<ws.length):bm ws a=at_ ws a:=by unfold bm;rw[if_neg J]
theorem KT{ws:List Int}{a o n:Int}(h:dp ws a o):dc ws a o n=put ws a n:=by unfold dc;rw[if_pos h]
theorem NF{ws:List Int}{a o n:Int}(h:¬dp ws a o):dc ws a o n=ws:=by unfold dc;rw[if_neg h]
theorem dF{I:af}{j:Nat}{B:cT}(h:I.get j=some B):I.set j B=I:=by
 cases I
 unfold af.set
 congr 1
 funext q
 dsimp only at h⊢
 split
 ·rename_i e;rw[e,h]
 ·rfl
theorem Bj(I:af)(r:Nat)(a:Int)(ws:List Int)(j nw:Nat)(cs cp cl:Int)(up:Bool)(slot:Int)(ao:Int)(busy:Bool)(aE:Int)(aH:Int)(oa:Int)(ob:Int)(pc:Int)(gk:Int)(gn:Int)(seq:Int)(next:Int)(aX:Int)(aK:Int)(own:Bool)(time:Int)(bw:Int)(door:Int)(aT:Int)(entry:Int)(sv:U)(pv:U)(code:Int)(val:Int)(count:Int)(cS:Int)(hg:I.get r=some ⟨[.sl j 0 nw 1,.int .i64 cs,.int .i64 cp,.int .i64 cl,.bool up,.int .i64 slot,.int .i64 ao,.bool busy,.int .i64 aE,.int .i64 aH,.int .i64 oa,.int .i64 ob,.int .i64 pc,.int .i64 gk,.int .i64 gn,.int .i64 seq,.int .i64 next,.int .i64 aX,.int .i64 aK,.bool own,.int .i64 time,.int .u64 bw,.int .u64 door,.int .u64 aT,.int .u64 entry,sv,pv,.int .i64 code,.int .i64 val,.int .i64 count,.int .i64 cS],true⟩)(hw:I.get j=some ⟨ws.map (.int .u64),true⟩)(hj:j<I.n)(hn:ws.length=nw):Fn Tryz.prog 202 [.ptr r 0,.int .i64 a] I fun x R=>x= .int .u64 (bm ws a)∧R=I:=by
 refine ay aZ mixed Tryz.func202 (by kernel_rfl) rfl (by kernel_rfl) bE ?_
 have hv:=bf hj hw hn
 simp+contextual (maxSteps:=1000000) (disch:=first|exact dA|fail) [go_sem,int_lt,-Int.not_le,-Int.not_lt,hg]
@[go_sem] def YV:=fun(I:af) r a ws j nw cs cp cl up slot ao busy aE aH oa ob pc gk gn seq next aX aK own time bw door aT entry sv pv code val count cS hg hw hj hn (aA:U→af→Prop)=>ar (k:=aA) (Bj I r a ws j nw cs cp cl up slot ao busy aE aH oa ob pc gk gn seq next aX aK own time bw door aT entry sv pv code val count cS hg hw hj hn)
@[go_sem] def YU:=fun(I:af) (b_:Bool) (r:Nat) (a:Int) (ws:List Int) (j nw:Nat) (cs cp cl:Int) (up:Bool) (slot:Int) (ao:Int) (busy:Bool) (aE:Int) (aH:Int) (oa:Int) (ob:Int) (pc:Int) (gk:Int) (gn:Int) (seq:Int) (next:Int) (aX:Int) (aK:Int) (own:Bool) (time:Int) (bw:Int) (door:Int) (aT:Int) (entry:Int) (sv:U) (pv:U) (code:Int) (val:Int) (count:Int) (cS:Int) (hg:b_=true→ I.get r=some ⟨[.sl j 0 nw 1,.int .i64 cs,.int .i64 cp,.int .i64 cl,.bool up,.int .i64 slot,.int .i64 ao,.bool busy,.int .i64 aE,.int .i64 aH,.int .i64 oa,.int .i64 ob,.int .i64 pc,.int .i64 gk,.int .i64 gn,.int .i64 seq,.int .i64 next,.int .i64 aX,.int .i64 aK,.bool own,.int .i64 time,.int .u64 bw,.int .u64 door,.int .u64 aT,.int .u64 entry,sv,pv,.int .i64 code,.int .i64 val,.int .i64 count,.int .i64 cS],true⟩) (hw:b_=true→ I.get j=some ⟨ws.map (.int .u64),true⟩) (hj:b_=true→ j<I.n) (hn:b_=true→ ws.length=nw) (aA:U→af→Prop)=>aJ (k:=aA) b_ fun aY=>Bj I r a ws j nw cs cp cl up slot ao busy aE aH oa ob pc gk gn seq next aX aK own time bw door aT entry sv pv code val count cS (hg aY) (hw aY) (hj aY) (hn aY)
theorem RC(I:af)(r:Nat)(Yt:Int)(j nw:Nat)(cs cp cl:Int)(up:Bool)(slot:Int)(ao:Int)(busy:Bool)(aE:Int)(aH:Int)(oa:Int)(ob:Int)(pc:Int)(gk:Int)(gn:Int)(seq:Int)(next:Int)(aX:Int)(aK:Int)(own:Bool)(time:Int)(bw:Int)(door:Int)(aT:Int)(entry:Int)(sv:U)(pv:U)(code:Int)(val:Int)(count:Int)(cS:Int)(hg:I.get r=some ⟨[.sl j 0 nw 1,.int .i64 cs,.int .i64 cp,.int .i64 cl,.bool up,.int .i64 slot,.int .i64 ao,.bool busy,.int .i64 aE,.int .i64 aH,.int .i64 oa,.int .i64 ob,.int .i64 pc,.int .i64 gk,.int .i64 gn,.int .i64 seq,.int .i64 next,.int .i64 aX,.int .i64 aK,.bool own,.int .i64 time,.int .u64 bw,.int .u64 door,.int .u64 aT,.int .u64 entry,sv,pv,.int .i64 code,.int .i64 val,.int .i64 count,.int .i64 cS],true⟩):Fn Tryz.prog 204 [.ptr r 0,.int .i64 Yt] I fun x R=>x= .cw []∧R=I.set r ⟨[.sl j 0 nw 1,.int .i64 cs,.int .i64 cp,.int .i64 cl,.bool up,.int .i64 slot,.int .i64 ao,.bool busy,.int .i64 aE,.int .i64 aH,.int .i64 oa,.int .i64 ob,.int .i64 Yt,.int .i64 gk,.int .i64 gn,.int .i64 seq,.int .i64 next,.int .i64 aX,.int .i64 aK,.bool own,.int .i64 time,.int .u64 bw,.int .u64 door,.int .u64 aT,.int .u64 entry,sv,pv,.int .i64 code,.int .i64 val,.int .i64 count,.int .i64 cS],true⟩:=by
 refine ec aZ mixed Tryz.func204 (by kernel_rfl) rfl (by kernel_rfl) ?_ ?_ ?_ ?_
 ·rfl
 ·rfl
 ·exact dJ hg kx
 simp+contextual (maxSteps:=1000000) (disch:=first|exact dA|fail) [go_sem,int_lt,-Int.not_le,-Int.not_lt,hg]
@[go_sem] def afu:=fun(I:af) r Yt j nw cs cp cl up slot ao busy aE aH oa ob pc gk gn seq next aX aK own time bw door aT entry sv pv code val count cS hg (aA:U→af→Prop)=>ar (k:=aA) (RC I r Yt j nw cs cp cl up slot ao busy aE aH oa ob pc gk gn seq next aX aK own time bw door aT entry sv pv code val count cS hg)
theorem Bh(I:af)(r:Nat)(st:Int)(j nw:Nat)(cs cp cl:Int)(up:Bool)(slot:Int)(ao:Int)(busy:Bool)(aE:Int)(aH:Int)(oa:Int)(ob:Int)(pc:Int)(gk:Int)(gn:Int)(seq:Int)(next:Int)(aX:Int)(aK:Int)(own:Bool)(time:Int)(bw:Int)(door:Int)(aT:Int)(entry:Int)(sv:U)(pv:U)(code:Int)(val:Int)(count:Int)(cS:Int)(hg:I.get r=some ⟨[.sl j 0 nw 1,.int .i64 cs,.int .i64 cp,.int .i64 cl,.bool up,.int .i64 slot,.int .i64 ao,.bool busy,.int .i64 aE,.int .i64 aH,.int .i64 oa,.int .i64 ob,.int .i64 pc,.int .i64 gk,.int .i64 gn,.int .i64 seq,.int .i64 next,.int .i64 aX,.int .i64 aK,.bool own,.int .i64 time,.int .u64 bw,.int .u64 door,.int .u64 aT,.int .u64 entry,sv,pv,.int .i64 code,.int .i64 val,.int .i64 count,.int .i64 cS],true⟩):Fn Tryz.prog 207 [.ptr r 0,.int .i64 st] I fun x R=>x= .int .u64 (cK st slot ao seq)∧R=I:=by
 refine ay Kr mixed Tryz.func207 (by kernel_rfl) rfl (by kernel_rfl) bE ?_
 simp+contextual (maxSteps:=1000000) (disch:=first|exact dA|fail) [go_sem,int_lt,-Int.not_le,-Int.not_lt,Kr,hg]
@[go_sem] def YS:=fun(I:af) r st j nw cs cp cl up slot ao busy aE aH oa ob pc gk gn seq next aX aK own time bw door aT entry sv pv code val count cS hg (aA:U→af→Prop)=>ar (k:=aA) (Bh I r st j nw cs cp cl up slot ao busy aE aH oa ob pc gk gn seq next aX aK own time bw door aT entry sv pv code val count cS hg)
@[go_sem] def YR:=fun(I:af) (b_:Bool) (r:Nat) (st:Int) (j nw:Nat) (cs cp cl:Int) (up:Bool) (slot:Int) (ao:Int) (busy:Bool) (aE:Int) (aH:Int) (oa:Int) (ob:Int) (pc:Int) (gk:Int) (gn:Int) (seq:Int) (next:Int) (aX:Int) (aK:Int) (own:Bool) (time:Int) (bw:Int) (door:Int) (aT:Int) (entry:Int) (sv:U) (pv:U) (code:Int) (val:Int) (count:Int) (cS:Int) (hg:b_=true→ I.get r=some ⟨[.sl j 0 nw 1,.int .i64 cs,.int .i64 cp,.int .i64 cl,.bool up,.int .i64 slot,.int .i64 ao,.bool busy,.int .i64 aE,.int .i64 aH,.int .i64 oa,.int .i64 ob,.int .i64 pc,.int .i64 gk,.int .i64 gn,.int .i64 seq,.int .i64 next,.int .i64 aX,.int .i64 aK,.bool own,.int .i64 time,.int .u64 bw,.int .u64 door,.int .u64 aT,.int .u64 entry,sv,pv,.int .i64 code,.int .i64 val,.int .i64 count,.int .i64 cS],true⟩) (aA:U→af→Prop)=>aJ (k:=aA) b_ fun aY=>Bh I r st j nw cs cp cl up slot ao busy aE aH oa ob pc gk gn seq next aX aK own time bw door aT entry sv pv code val count cS (hg aY)
theorem Bg(I:af)(r:Nat)(j nw:Nat)(cs cp cl:Int)(up:Bool)(slot:Int)(ao:Int)(busy:Bool)(aE:Int)(aH:Int)(oa:Int)(ob:Int)(pc:Int)(gk:Int)(gn:Int)(seq:Int)(next:Int)(aX:Int)(aK:Int)(own:Bool)(time:Int)(bw:Int)(door:Int)(aT:Int)(entry:Int)(sv:U)(pv:U)(code:Int)(val:Int)(count:Int)(cS:Int)(hg:I.get r=some ⟨[.sl j 0 nw 1,.int .i64 cs,.int .i64 cp,.int .i64 cl,.bool up,.int .i64 slot,.int .i64 ao,.bool busy,.int .i64 aE,.int .i64 aH,.int .i64 oa,.int .i64 ob,.int .i64 pc,.int .i64 gk,.int .i64 gn,.int .i64 seq,.int .i64 next,.int .i64 aX,.int .i64 aK,.bool own,.int .i64 time,.int .u64 bw,.int .u64 door,.int .u64 aT,.int .u64 entry,sv,pv,.int .i64 code,.int .i64 val,.int .i64 count,.int .i64 cS],true⟩)(hs:0≤seq∧seq≤1000000000000):Fn Tryz.prog 215 [.ptr r 0] I fun x R=>x= .int .u64 (cK 0 0 0 (seq+1))∧R=I:=by
 refine ay aZ mixed Tryz.func215 (by kernel_rfl) rfl (by kernel_rfl) bE ?_
 simp+contextual (maxSteps:=1000000) (disch:=first|exact dA|fail) [go_sem,int_lt,-Int.not_le,-Int.not_lt,hg]
@[go_sem] def YQ:=fun(I:af) r j nw cs cp cl up slot ao busy aE aH oa ob pc gk gn seq next aX aK own time bw door aT entry sv pv code val count cS hg hs (aA:U→af→Prop)=>ar (k:=aA) (Bg I r j nw cs cp cl up slot ao busy aE aH oa ob pc gk gn seq next aX aK own time bw door aT entry sv pv code val count cS hg hs)
@[go_sem] def YP:=fun(I:af) (b_:Bool) (r:Nat) (j nw:Nat) (cs cp cl:Int) (up:Bool) (slot:Int) (ao:Int) (busy:Bool) (aE:Int) (aH:Int) (oa:Int) (ob:Int) (pc:Int) (gk:Int) (gn:Int) (seq:Int) (next:Int) (aX:Int) (aK:Int) (own:Bool) (time:Int) (bw:Int) (door:Int) (aT:Int) (entry:Int) (sv:U) (pv:U) (code:Int) (val:Int) (count:Int) (cS:Int) (hg:b_=true→ I.get r=some ⟨[.sl j 0 nw 1,.int .i64 cs,.int .i64 cp,.int .i64 cl,.bool up,.int .i64 slot,.int .i64 ao,.bool busy,.int .i64 aE,.int .i64 aH,.int .i64 oa,.int .i64 ob,.int .i64 pc,.int .i64 gk,.int .i64 gn,.int .i64 seq,.int .i64 next,.int .i64 aX,.int .i64 aK,.bool own,.int .i64 time,.int .u64 bw,.int .u64 door,.int .u64 aT,.int .u64 entry,sv,pv,.int .i64 code,.int .i64 val,.int .i64 count,.int .i64 cS],true⟩) (hs:b_=true→ 0≤seq∧seq≤1000000000000) (aA:U→af→Prop)=>aJ (k:=aA) b_ fun aY=>Bg I r j nw cs cp cl up slot ao busy aE aH oa ob pc gk gn seq next aX aK own time bw door aT entry sv pv code val count cS (hg aY) (hs aY)
theorem Ly(I:af)(r:Nat)(a ii now:Int)(ws:List Int)(j nw:Nat)(cs cp cl:Int)(up:Bool)(slot:Int)(ao:Int)(busy:Bool)(aE:Int)(aH:Int)(oa:Int)(ob:Int)(pc:Int)(gk:Int)(gn:Int)(seq:Int)(next:Int)(aX:Int)(aK:Int)(own:Bool)(time:Int)(bw:Int)(door:Int)(aT:Int)(entry:Int)(sv:U)(pv:U)(code:Int)(val:Int)(count:Int)(cS:Int)(hg:I.get r=some ⟨[.sl j 0 nw 1,.int .i64 cs,.int .i64 cp,.int .i64 cl,.bool up,.int .i64 slot,.int .i64 ao,.bool busy,.int .i64 aE,.int .i64 aH,.int .i64 oa,.int .i64 ob,.int .i64 pc,.int .i64 gk,.int .i64 gn,.int .i64 seq,.int .i64 next,.int .i64 aX,.int .i64 aK,.bool own,.int .i64 time,.int .u64 bw,.int .u64 door,.int .u64 aT,.int .u64 entry,sv,pv,.int .i64 code,.int .i64 val,.int .i64 count,.int .i64 cS],true⟩)(hw:I.get j=some ⟨ws.map (.int .u64),true⟩)(hj:j<I.n)(hn:ws.length=nw):Fn Tryz.prog 205 [.ptr r 0,.int .i64 a,.int .u64 ii,.int .u64 now] I fun x R=>x= .bool (decide (dp ws a ii))∧R=I.set j ⟨(dc ws a ii now).map (.int .u64),true⟩:=by
 refine ec aZ mixed Tryz.func205 (by kernel_rfl) rfl (by kernel_rfl) ?_ ?_ ?_ ?_
 ·rfl
 ·rfl
 ·exact dJ hw (fun a ha=> .inl (nM ha))
 have hv:=bf hj hw hn
 have hq:bm ws a=ii→0≤a→¬(ws.length:Int)≤a→dp ws a ii:=fun h h0 h1=>⟨h0,J,by rw[←h,zm h0 J]⟩
 have hr:¬bm ws a=ii∨¬0≤a∨(ws.length:Int)≤a→¬dp ws a ii:=by
  rintro h ⟨h0,h1,h2⟩
  rcases h with h|h|h
  ·exact h (by rw[zm h0 h1];exact h2)
  ·exact h h0
  ·omega
 simp+contextual (maxSteps:=1000000) (disch:=first|exact dA|fail) [go_sem,int_lt,-Int.not_le,-Int.not_lt,hg]
 refine Alt.mk ⟨fun h=>⟨hr h,?_⟩,fun h h0 h1=>⟨hq h h0 h1,?_⟩⟩
 ·rw[NF (hr h),dF hw];exact bY.refl _ _
 ·rw[KT (hq h h0 h1)];exact bY.refl _ _
@[go_sem] def YW:=fun(I:af) r a ii now ws j nw cs cp cl up slot ao busy aE aH oa ob pc gk gn seq next aX aK own time bw door aT entry sv pv code val count cS hg hw hj hn (aA:U→af→Prop)=>ar (k:=aA) (Ly I r a ii now ws j nw cs cp cl up slot ao busy aE aH oa ob pc gk gn seq next aX aK own time bw door aT entry sv pv code val count cS hg hw hj hn)
theorem Bc(I:af)(up:Bool)(slot:Int)(ao:Int)(busy:Bool)(aE:Int)(aH:Int)(oa:Int)(ob:Int)(pc:Int)(gk:Int)(gn:Int)(seq:Int)(next:Int)(aX:Int)(aK:Int)(own:Bool)(time:Int)(bw:Int)(door:Int)(aT:Int)(entry:Int)(sv:U)(pv:U)(code:Int)(val:Int)(count:Int)(cd v:Int)(M9:ey sv)(yE:ey pv)(hc:0≤count∧count<100000000):Fn Tryz.prog 197 [.agg [.bool up,.int .i64 slot,.int .i64 ao,.bool busy,.int .i64 aE,.int .i64 aH,.int .i64 oa,.int .i64 ob,.int .i64 pc,.int .i64 gk,.int .i64 gn,.int .i64 seq,.int .i64 next,.int .i64 aX,.int .i64 aK,.bool own,.int .i64 time,.int .u64 bw,.int .u64 door,.int .u64 aT,.int .u64 entry,sv,pv,.int .i64 code,.int .i64 val,.int .i64 count],.int .i64 cd,.int .i64 v] I fun x R=>x= .agg [.bool up,.int .i64 slot,.int .i64 (if aE=5∧cd=0 then 0 else ao),.bool false,.int .i64 aE,.int .i64 aH,.int .i64 oa,.int .i64 ob,.int .i64 0,.int .i64 0,.int .i64 0,.int .i64 0,.int .i64 0,.int .i64 0,.int .i64 0,.bool false,.int .i64 0,.int .u64 0,.int .u64 0,.int .u64 0,.int .u64 0,.al,.al,.int .i64 cd,.int .i64 v,.int .i64 (count+1)]∧R=I:=by
 refine ay aZ mixed Tryz.func197 (by kernel_rfl) rfl (by kernel_rfl) bE ?_
 simp+contextual (maxSteps:=1000000) (disch:=first|exact dA|fail) [go_sem,int_lt,-Int.not_le,-Int.not_lt]
@[go_sem] def YL:=fun(I:af) up slot ao busy aE aH oa ob pc gk gn seq next aX aK own time bw door aT entry sv pv code val count cd v M9 yE hc (aA:U→af→Prop)=>ar (k:=aA) (Bc I up slot ao busy aE aH oa ob pc gk gn seq next aX aK own time bw door aT entry sv pv code val count cd v M9 yE hc)
@[go_sem] def YK:=fun(I:af) (b_:Bool) (up:Bool) (slot:Int) (ao:Int) (busy:Bool) (aE:Int) (aH:Int) (oa:Int) (ob:Int) (pc:Int) (gk:Int) (gn:Int) (seq:Int) (next:Int) (aX:Int) (aK:Int) (own:Bool) (time:Int) (bw:Int) (door:Int) (aT:Int) (entry:Int) (sv:U) (pv:U) (code:Int) (val:Int) (count:Int) (cd v:Int) (M9:b_=true→ ey sv) (yE:b_=true→ ey pv) (hc:b_=true→ 0≤count∧count<100000000) (aA:U→af→Prop)=>aJ (k:=aA) b_ fun aY=>Bc I up slot ao busy aE aH oa ob pc gk gn seq next aX aK own time bw door aT entry sv pv code val count cd v (M9 aY) (yE aY) (hc aY)
end AH
