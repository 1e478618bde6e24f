import Derived.Test.YtagihpbpblnnoaaGreatZ18
import Derived.Test.YtagihpbpblnnoaaGreatZ19
import Derived.Test.YtagihpbpblnnoaaGreatZ17
import Derived.Test.YtagihpbpblnnoaaGreatZ09
import Derived.Test.YtagihpbpblnnoaaGreatZ00
set_option linter.all false
namespace AH
open Go Go.Proofs Ho
set_option maxRecDepth 20000
set_option maxHeartbeats 8000000
theorem abY(n:Nat):(n=n+1)=False:=by simp
theorem abZ(n:Nat):(n=n+1+1)=False:=by simp only[eq_iff_iff,iff_false];omega
theorem ab5(n:Nat):(n+1+1=n)=False:=by simp only[eq_iff_iff,iff_false];omega
theorem ab0(n:Nat):(n=n+1+1+1)=False:=by simp only[eq_iff_iff,iff_false];omega
theorem ab6(n:Nat):(n+1+1+1=n)=False:=by simp only[eq_iff_iff,iff_false];omega
theorem ab1(n:Nat):(n=n+1+1+1+1)=False:=by simp only[eq_iff_iff,iff_false];omega
theorem ab7(n:Nat):(n+1+1+1+1=n)=False:=by simp only[eq_iff_iff,iff_false];omega
theorem ab2(n:Nat):(n=n+1+1+1+1+1)=False:=by simp only[eq_iff_iff,iff_false];omega
theorem ab8(n:Nat):(n+1+1+1+1+1=n)=False:=by simp only[eq_iff_iff,iff_false];omega
theorem ab3(n:Nat):(n=n+1+1+1+1+1+1)=False:=by simp only[eq_iff_iff,iff_false];omega
theorem ab9(n:Nat):(n+1+1+1+1+1+1=n)=False:=by simp only[eq_iff_iff,iff_false];omega
theorem ab4(n:Nat):(n=n+1+1+1+1+1+1+1)=False:=by simp only[eq_iff_iff,iff_false];omega
theorem ab_(n:Nat):(n+1+1+1+1+1+1+1=n)=False:=by simp only[eq_iff_iff,iff_false];omega
attribute [go_sem] abY abZ ab5 ab0 ab6 ab1 ab7 ab2 ab8 ab3 ab9 ab4 ab_
theorem jK{P:Program}{g:FuncId}{args:List U}{I:af}{α:Type}{V:α→U}{F:α→af→Prop}(k:U→af→Prop)(h:Fn P g args I fun x R=>∃a,x=V a∧F a R):
 @dN P (.fn g [] []) args I ⟨k⟩= @Alt (∀(R:af) (a:α),(I.n≤R.n∧F a R)→k (V a) R) ⟨@dN P (.fn g [] []) args I ⟨k⟩⟩:=by
 refine propext ⟨fun hh=> .inr hh,fun hh=>?_⟩
 rcases hh with hh|hh
 ·refine aw h ?_
  rintro v σ' hn ⟨a,rfl,hF⟩
  exact hh σ' a ⟨hn,hF⟩
 ·exact hh
theorem bu.frame{kk:IntKind}{I R:af}{v:U}{xs:List Int}(h:bu kk I v xs)(hn:I.n≤R.n)(hf:∀j,j<I.n→R.get j=I.get j):bu kk R v xs:=by
 rcases h.ex with⟨rfl,rfl⟩|⟨i,k,rfl,hl⟩
 ·exact .nil
 ·obtain⟨h1,B,h2,h3⟩:=hl
  exact .mk' ⟨J,B,by rw[hf i h1];exact h2,h3⟩
abbrev gV(g:ag)(sv pv:U):List U:=[.bool g.up,.int .i64 g.slot,.int .i64 g.ao,.bool g.busy,.int .i64 g.aE,.int .i64 g.aH,.int .i64 g.oa,.int .i64 g.ob,.int .i64 g.pc,.int .i64 g.gk,.int .i64 g.gn,.int .i64 g.seq,.int .i64 g.next,.int .i64 g.aX,.int .i64 g.aK,.bool g.own,.int .i64 g.time,.int .u64 g.bw,.int .u64 g.door,.int .u64 g.aT,.int .u64 g.entry,sv,pv,.int .i64 g.code,.int .i64 g.val,.int .i64 g.count]
theorem G7(I:af)(r:Nat)(cd:Int)(j nw:Nat)(cs cp cl:Int)(up:Bool)(slot:Int)(ao:Int)(busy:Bool)(aE:Int)(aH:Int)(oa:Int)(ob:Int)(pc:Int)(gk:Int)(gn:Int)(seq:Int)(next:Int)(aX:Int)(aK:Int)(own:Bool)(time:Int)(bw:Int)(door:Int)(aT:Int)(entry:Int)(sv:U)(pv:U)(code:Int)(val:Int)(count:Int)(cS:Int)(hg:I.get r=some ⟨[.sl j 0 nw 1,.int .i64 cs,.int .i64 cp,.int .i64 cl,.bool up,.int .i64 slot,.int .i64 ao,.bool busy,.int .i64 aE,.int .i64 aH,.int .i64 oa,.int .i64 ob,.int .i64 pc,.int .i64 gk,.int .i64 gn,.int .i64 seq,.int .i64 next,.int .i64 aX,.int .i64 aK,.bool own,.int .i64 time,.int .u64 bw,.int .u64 door,.int .u64 aT,.int .u64 entry,sv,pv,.int .i64 code,.int .i64 val,.int .i64 count,.int .i64 cS],true⟩):Fn Tryz.prog 258 [.ptr r 0,.int .i64 cd] I fun x R=>x= .cw []∧R=I.set r ⟨[.sl j 0 nw 1,.int .i64 cs,.int .i64 cp,.int .i64 cl,.bool up,.int .i64 slot,.int .i64 ao,.bool busy,.int .i64 aE,.int .i64 aH,.int .i64 oa,.int .i64 ob,.int .i64 26,.int .i64 gk,.int .i64 gn,.int .i64 seq,.int .i64 next,.int .i64 aX,.int .i64 aK,.bool own,.int .i64 time,.int .u64 bw,.int .u64 door,.int .u64 aT,.int .u64 entry,sv,pv,.int .i64 cd,.int .i64 val,.int .i64 count,.int .i64 cS],true⟩:=by
 refine ec aZ mixed Tryz.func258 (by kernel_rfl) rfl (by kernel_rfl) ?_ ?_ ?_ ?_
 ·rfl
 ·rfl
 ·exact dJ hg kx
 simp+contextual (maxSteps:=1000000) (disch:=first|exact FV|fail) [go_sem,int_lt,-Int.not_le,-Int.not_lt,hg]
@[go_sem] def Wy:=fun(I:af) r cd j nw cs cp cl up slot ao busy aE aH oa ob pc gk gn seq next aX aK own time bw door aT entry sv pv code val count cS hg (aA:U→af→Prop)=>ar (k:=aA) (G7 I r cd j nw cs cp cl up slot ao busy aE aH oa ob pc gk gn seq next aX aK own time bw door aT entry sv pv code val count cS hg)
theorem Fc(I:af)(slot:Int):Fn Tryz.prog 80 [.int .i64 slot] I fun x R=>x= .agg (gV (if 0≤slot∧slot<4 then {ag.zero with up:=true,slot:=slot}else ag.zero) .al .al)∧R=I:=by
 refine ay aZ mixed Tryz.func80 (by kernel_rfl) rfl (by kernel_rfl) bE ?_
 by_cases hx:0≤slot∧slot<4
 ·obtain⟨x1,x2⟩:=hx
  have x3:¬4≤slot:=J
  simp+contextual (maxSteps:=1000000) (disch:=first|exact FV|fail) [go_sem,int_lt,-Int.not_le,-Int.not_lt,ag.zero,x1,x3]
 ·have x3:¬0≤slot∨4≤slot:=J
  have x4:¬(0≤slot∧¬4≤slot):=J
  simp+contextual (maxSteps:=1000000) (disch:=first|exact FV|fail) [go_sem,int_lt,-Int.not_le,-Int.not_lt,ag.zero,x3,x4]
@[go_sem] def adL:=fun(I:af) slot (aA:U→af→Prop)=>ar (k:=aA) (Fc I slot)
@[go_sem] def adK:=fun(I:af) (b_:Bool) (slot:Int) (aA:U→af→Prop)=>aJ (k:=aA) b_ fun aY=>Fc I slot
theorem qb(I:af)(r:Nat)(c:aM)(sl ep:Int)(sn:List Int)(j nw:Nat)(cs cp cl:Int)(up:Bool)(slot:Int)(ao:Int)(busy:Bool)(aE:Int)(aH:Int)(oa:Int)(ob:Int)(pc:Int)(gk:Int)(gn:Int)(seq:Int)(next:Int)(aX:Int)(aK:Int)(own:Bool)(time:Int)(bw:Int)(door:Int)(aT:Int)(entry:Int)(sv:U)(pv:U)(code:Int)(val:Int)(count:Int)(cS:Int)(hg:I.get r=some ⟨[.sl j 0 nw 1,.int .i64 cs,.int .i64 cp,.int .i64 cl,.bool up,.int .i64 slot,.int .i64 ao,.bool busy,.int .i64 aE,.int .i64 aH,.int .i64 oa,.int .i64 ob,.int .i64 pc,.int .i64 gk,.int .i64 gn,.int .i64 seq,.int .i64 next,.int .i64 aX,.int .i64 aK,.bool own,.int .i64 time,.int .u64 bw,.int .u64 door,.int .u64 aT,.int .u64 entry,sv,pv,.int .i64 code,.int .i64 val,.int .i64 count,.int .i64 cS],true⟩)(hc:c.am=cs∧c.ah=cp∧c.bH=cl)(hcr:0≤cs∧cs≤10)(hs:bu .u64 I sv sn)(hw:∀w∈sn,ci w)(hl:dn c sl<(sn.length:Int)∧1<(sn.length:Int)):Fn Tryz.prog 267 [.ptr r 0,.int .i64 sl,.int .i64 ep] I fun x R=>x= .bool (decide (aL (at_ sn (dn c sl))<ep∨(aL (at_ sn (dn c sl))=ep∧c.bH<aG (at_ sn 1)-aG (at_ sn (dn c sl)))))∧R=I:=by
 refine ay Ky mixed Tryz.func267 (by kernel_rfl) rfl (by kernel_rfl) bE ?_
 obtain⟨rfl,rfl,rfl⟩:=hc
 have hb:0≤dn c sl:=by
  unfold dn ed
  split
  ·rename_i hh;unfold aM.ok at hh;omega
  ·omega
 have w1:=bF hw (dn c sl)
 have w2:=bF hw 1
 have v1:=aO (w:=at_ sn (dn c sl))
 have v2:=aO (w:=at_ sn 1)
 simp+contextual (maxSteps:=1000000) (disch:=first|exact FV|fail) [go_sem,int_lt,-Int.not_le,-Int.not_lt,Ky,hg]
@[go_sem] def Y3:=fun(I:af) r c sl ep sn j nw cs cp cl up slot ao busy aE aH oa ob pc gk gn seq next aX aK own time bw door aT entry sv pv code val count cS hg hc hcr hs hw hl (aA:U→af→Prop)=>ar (k:=aA) (qb I r c sl ep sn j nw cs cp cl up slot ao busy aE aH oa ob pc gk gn seq next aX aK own time bw door aT entry sv pv code val count cS hg hc hcr hs hw hl)
@[go_sem] def Y2:=fun(I:af) (b_:Bool) (r:Nat) (c:aM) (sl ep:Int) (sn:List Int) (j nw:Nat) (cs cp cl:Int) (up:Bool) (slot:Int) (ao:Int) (busy:Bool) (aE:Int) (aH:Int) (oa:Int) (ob:Int) (pc:Int) (gk:Int) (gn:Int) (seq:Int) (next:Int) (aX:Int) (aK:Int) (own:Bool) (time:Int) (bw:Int) (door:Int) (aT:Int) (entry:Int) (sv:U) (pv:U) (code:Int) (val:Int) (count:Int) (cS:Int) (hg:b_=true→ I.get r=some ⟨[.sl j 0 nw 1,.int .i64 cs,.int .i64 cp,.int .i64 cl,.bool up,.int .i64 slot,.int .i64 ao,.bool busy,.int .i64 aE,.int .i64 aH,.int .i64 oa,.int .i64 ob,.int .i64 pc,.int .i64 gk,.int .i64 gn,.int .i64 seq,.int .i64 next,.int .i64 aX,.int .i64 aK,.bool own,.int .i64 time,.int .u64 bw,.int .u64 door,.int .u64 aT,.int .u64 entry,sv,pv,.int .i64 code,.int .i64 val,.int .i64 count,.int .i64 cS],true⟩) (hc:b_=true→ c.am=cs∧c.ah=cp∧c.bH=cl) (hcr:b_=true→ 0≤cs∧cs≤10) (hs:b_=true→ bu .u64 I sv sn) (hw:b_=true→ ∀w∈sn,ci w) (hl:b_=true→ dn c sl<(sn.length:Int)∧1<(sn.length:Int)) (aA:U→af→Prop)=>aJ (k:=aA) b_ fun aY=>qb I r c sl ep sn j nw cs cp cl up slot ao busy aE aH oa ob pc gk gn seq next aX aK own time bw door aT entry sv pv code val count cS (hg aY) (hc aY) (hcr aY) (hs aY) (hw aY) (hl aY)
theorem Bo(I:af)(g:ag)(sv pv:U)(hs:bu .u64 I sv g.snap)(hp:bu .u64 I pv g.ax)(h1:(g.snap.length:Int)≤1000000)(h2:(g.ax.length:Int)≤1000000):Fn Tryz.prog 89 [.agg (gV g sv pv)] I fun x R=>∃a_:Nat×Nat,x= .agg (gV g (.sl a_.1 0 g.snap.length 1) (.sl a_.2 0 g.ax.length 1))∧((I.n≤a_.1∧a_.1<R.n)∧(I.n≤a_.2∧a_.2<R.n)∧a_.1≠a_.2∧R.get a_.1=some ⟨g.snap.map (.int .u64),true⟩∧R.get a_.2=some ⟨g.ax.map (.int .u64),true⟩∧∀j,j<I.n→R.get j=I.get j):=by
 refine bA aZ mixed Tryz.func89 (by kernel_rfl) rfl (by kernel_rfl) ?_
 have i1:=hs.aQ
 have i2:=hp.aQ
 simp+contextual (maxSteps:=1000000) (disch:=first|exact FV|fail) [go_sem,int_lt,-Int.not_le,-Int.not_lt]
 all_goals omega
@[go_sem] def Y1:=fun(I:af) g sv pv hs hp h1 h2 (aA:U→af→Prop)=>jK aA (Bo I g sv pv hs hp h1 h2)
end AH
namespace AH
open Go Go.Proofs Ho
set_option maxRecDepth 20000
set_option maxHeartbeats 8000000
def fu(c:aM)(g:ag):Prop:=
 (0≤g.slot∧g.slot<c.am∧0≤g.ao∧g.ao≤4095∧0≤g.next∧g.next≤4095∧0≤g.pc∧g.pc≤26∧0≤g.seq∧g.seq≤1000001∧0≤g.aX∧g.aX≤7∧0≤g.aK∧g.aK≤4095)∧
 (0≤g.gn∧g.gn≤20∧0≤g.gk∧g.gk≤aP c∧(g.snap.length:Int)≤aP c∧(g.ax.length:Int)≤20∧0≤g.time∧g.time≤1048575)
noncomputable instance(c:aM)(g:ag):Decidable (fu c g):=Classical.propDecidable _
theorem o8(I:af)(c:aM)(g:ag)(sv pv:U)(hs:cC sv g.snap.length)(hp:cC pv g.ax.length)(hc:0≤c.am∧c.am≤10∧0≤c.ah∧c.ah≤10):Fn Tryz.prog 118 [cV c.am c.ah c.bH,.agg (gV g sv pv)] I fun x R=>x= .bool (decide (fu c g))∧R=I:=by
 refine ay Ki mixed Tryz.func118 (by kernel_rfl) rfl (by kernel_rfl) bE ?_
 simp+contextual (maxSteps:=1000000) (disch:=first|exact FV|fail) [go_sem,int_lt,-Int.not_le,-Int.not_lt,Ki]
 refine⟨fun h hf=>?_,fun a1 a2 a3 a4 a5 a6 a7 a8 a9 a10 a11 a12 a13 a14=>Alt.mk (Alt.mk ?_)⟩
 ·unfold fu at hf;omega
 ·rw[Bool.eq_iff_iff]
  simp only[Bool.and_eq_true,decide_eq_true_eq]
  unfold fu
  constructor
  ·rintro⟨b1,b2,b3,b4,b5,b6,b7,b8⟩;exact⟨⟨a1,J,a3,a4,a5,a6,a7,a8,a9,a10,a11,a12,a13,a14⟩,b1,b2,b3,b4,b5,b6,b7,b8⟩
  ·rintro⟨_,b1,b2,b3,b4,b5,b6,b7,b8⟩;exact⟨b1,b2,b3,b4,b5,b6,b7,b8⟩
@[go_sem] def SX:=fun(I:af) c g sv pv hs hp hc (aA:U→af→Prop)=>ar (k:=aA) (o8 I c g sv pv hs hp hc)
@[go_sem] def SW:=fun(I:af) (b_:Bool) (c:aM) (g:ag) (sv pv:U) (hs:b_=true→ cC sv g.snap.length) (hp:b_=true→ cC pv g.ax.length) (hc:b_=true→ 0≤c.am∧c.am≤10∧0≤c.ah∧c.ah≤10) (aA:U→af→Prop)=>aJ (k:=aA) b_ fun aY=>o8 I c g sv pv (hs aY) (hp aY) (hc aY)
def fg(c:aM)(g:ag):Prop:=
 if g.own=true∧(g.pc<23∨25<g.pc)then False
 else if g.pc=11 then(g.snap.length:Int)=g.gk∧g.gk<aP c
 else if g.pc=12 then(g.snap.length:Int)=aP c∧0≤g.oa∧g.oa<c.am
 else if 16≤g.pc∧g.pc≤21 then g.aX<c.am
 else if g.pc=13∨g.pc=14 then g.gk≤g.ax.length
 else if 22≤g.pc∧g.pc≤24 then 1≤g.gk∧g.gk≤g.gn∧g.aX<c.am∧(g.own=false∨g.gn=g.ax.length)
 else True
noncomputable instance(c:aM)(g:ag):Decidable (fg c g):=Classical.propDecidable _
theorem qT(I:af)(c:aM)(g:ag)(sv pv:U)(hs:cC sv g.snap.length)(hp:cC pv g.ax.length)(hc:0≤c.am∧c.am≤10∧0≤c.ah∧c.ah≤10):Fn Tryz.prog 119 [cV c.am c.ah c.bH,.agg (gV g sv pv)] I fun x R=>x= .bool (decide (fg c g))∧R=I:=by
 refine ay Kj mixed Tryz.func119 (by kernel_rfl) rfl (by kernel_rfl) bE ?_
 simp+contextual (maxSteps:=1000000) (disch:=first|exact FV|fail) [go_sem,int_lt,-Int.not_le,-Int.not_lt,Kj]
 have hd:∀b:Bool,(b=true↔fg c g)→b=decide (fg c g):=fun b h=>by rw[Bool.eq_iff_iff,h,decide_eq_true_iff]
 repeat' (first|refine Alt.mk ?_|refine And.intro ?_ ?_|intro _)
 all_goals first
  |(rename_i aa8;unfold fg at aa8;grind)
  |(unfold fg;grind)
  |(refine hd _ ?_;simp only[Bool.and_eq_true,Bool.or_eq_true,Bool.not_eq_true',decide_eq_true_eq,decide_eq_false_iff_not];unfold fg;grind)
  |(have hh:=hd (!decide (c.am≤g.aX)) (by simp only[Bool.not_eq_true',decide_eq_false_iff_not];unfold fg;grind);rw[←hh];simp)
  |skip
@[go_sem] def Wx:=fun(I:af) c g sv pv hs hp hc (aA:U→af→Prop)=>ar (k:=aA) (qT I c g sv pv hs hp hc)
@[go_sem] def Ww:=fun(I:af) (b_:Bool) (c:aM) (g:ag) (sv pv:U) (hs:b_=true→ cC sv g.snap.length) (hp:b_=true→ cC pv g.ax.length) (hc:b_=true→ 0≤c.am∧c.am≤10∧0≤c.ah∧c.ah≤10) (aA:U→af→Prop)=>aJ (k:=aA) b_ fun aY=>qT I c g sv pv (hs aY) (hp aY) (hc aY)
theorem rC(I:af)(c:aM)(snap ax:List Int)(up:Bool)(slot:Int)(ao:Int)(busy:Bool)(aE:Int)(aH:Int)(oa:Int)(ob:Int)(pc:Int)(gk:Int)(gn:Int)(seq:Int)(next:Int)(aX:Int)(aK:Int)(own:Bool)(time:Int)(bw:Int)(door:Int)(aT:Int)(entry:Int)(sv:U)(pv:U)(code:Int)(val:Int)(count:Int)(hs:cC sv snap.length)(hp:cC pv ax.length)(hc:0≤c.am∧c.am≤10∧0≤c.ah∧c.ah≤10):Fn Tryz.prog 118 [cV c.am c.ah c.bH,.agg [.bool up,.int .i64 slot,.int .i64 ao,.bool busy,.int .i64 aE,.int .i64 aH,.int .i64 oa,.int .i64 ob,.int .i64 pc,.int .i64 gk,.int .i64 gn,.int .i64 seq,.int .i64 next,.int .i64 aX,.int .i64 aK,.bool own,.int .i64 time,.int .u64 bw,.int .u64 door,.int .u64 aT,.int .u64 entry,sv,pv,.int .i64 code,.int .i64 val,.int .i64 count]] I fun x R=>x= .bool (decide (fu c (ag.mk up slot ao busy aE aH oa ob pc gk gn seq next aX aK own time bw door aT entry snap ax code val count)))∧R=I:=by
 exact o8 I c (ag.mk up slot ao busy aE aH oa ob pc gk gn seq next aX aK own time bw door aT entry snap ax code val count) sv pv hs hp hc
@[go_sem] def RE:=fun(I:af) c snap ax up slot ao busy aE aH oa ob pc gk gn seq next aX aK own time bw door aT entry sv pv code val count hs hp hc (aA:U→af→Prop)=>ar (k:=aA) (rC I c snap ax up slot ao busy aE aH oa ob pc gk gn seq next aX aK own time bw door aT entry sv pv code val count hs hp hc)
@[go_sem] def RD:=fun(I:af) (b_:Bool) (c:aM) (snap ax:List Int) (up:Bool) (slot:Int) (ao:Int) (busy:Bool) (aE:Int) (aH:Int) (oa:Int) (ob:Int) (pc:Int) (gk:Int) (gn:Int) (seq:Int) (next:Int) (aX:Int) (aK:Int) (own:Bool) (time:Int) (bw:Int) (door:Int) (aT:Int) (entry:Int) (sv:U) (pv:U) (code:Int) (val:Int) (count:Int) (hs:b_=true→ cC sv snap.length) (hp:b_=true→ cC pv ax.length) (hc:b_=true→ 0≤c.am∧c.am≤10∧0≤c.ah∧c.ah≤10) (aA:U→af→Prop)=>aJ (k:=aA) b_ fun aY=>rC I c snap ax up slot ao busy aE aH oa ob pc gk gn seq next aX aK own time bw door aT entry sv pv code val count (hs aY) (hp aY) (hc aY)
theorem uq(I:af)(c:aM)(snap ax:List Int)(up:Bool)(slot:Int)(ao:Int)(busy:Bool)(aE:Int)(aH:Int)(oa:Int)(ob:Int)(pc:Int)(gk:Int)(gn:Int)(seq:Int)(next:Int)(aX:Int)(aK:Int)(own:Bool)(time:Int)(bw:Int)(door:Int)(aT:Int)(entry:Int)(sv:U)(pv:U)(code:Int)(val:Int)(count:Int)(hs:cC sv snap.length)(hp:cC pv ax.length)(hc:0≤c.am∧c.am≤10∧0≤c.ah∧c.ah≤10):Fn Tryz.prog 119 [cV c.am c.ah c.bH,.agg [.bool up,.int .i64 slot,.int .i64 ao,.bool busy,.int .i64 aE,.int .i64 aH,.int .i64 oa,.int .i64 ob,.int .i64 pc,.int .i64 gk,.int .i64 gn,.int .i64 seq,.int .i64 next,.int .i64 aX,.int .i64 aK,.bool own,.int .i64 time,.int .u64 bw,.int .u64 door,.int .u64 aT,.int .u64 entry,sv,pv,.int .i64 code,.int .i64 val,.int .i64 count]] I fun x R=>x= .bool (decide (fg c (ag.mk up slot ao busy aE aH oa ob pc gk gn seq next aX aK own time bw door aT entry snap ax code val count)))∧R=I:=by
 exact qT I c (ag.mk up slot ao busy aE aH oa ob pc gk gn seq next aX aK own time bw door aT entry snap ax code val count) sv pv hs hp hc
@[go_sem] def SZ:=fun(I:af) c snap ax up slot ao busy aE aH oa ob pc gk gn seq next aX aK own time bw door aT entry sv pv code val count hs hp hc (aA:U→af→Prop)=>ar (k:=aA) (uq I c snap ax up slot ao busy aE aH oa ob pc gk gn seq next aX aK own time bw door aT entry sv pv code val count hs hp hc)
@[go_sem] def SY:=fun(I:af) (b_:Bool) (c:aM) (snap ax:List Int) (up:Bool) (slot:Int) (ao:Int) (busy:Bool) (aE:Int) (aH:Int) (oa:Int) (ob:Int) (pc:Int) (gk:Int) (gn:Int) (seq:Int) (next:Int) (aX:Int) (aK:Int) (own:Bool) (time:Int) (bw:Int) (door:Int) (aT:Int) (entry:Int) (sv:U) (pv:U) (code:Int) (val:Int) (count:Int) (hs:b_=true→ cC sv snap.length) (hp:b_=true→ cC pv ax.length) (hc:b_=true→ 0≤c.am∧c.am≤10∧0≤c.ah∧c.ah≤10) (aA:U→af→Prop)=>aJ (k:=aA) b_ fun aY=>uq I c snap ax up slot ao busy aE aH oa ob pc gk gn seq next aX aK own time bw door aT entry sv pv code val count (hs aY) (hp aY) (hc aY)
def bW(c:aM)(g:ag):Prop:=c.ok∧(g.busy=true↔g.pc≠0)∧(g.aH=g.slot∨g.busy=false)∧fu c g∧fg c g
noncomputable instance(c:aM)(g:ag):Decidable (bW c g):=Classical.propDecidable _
theorem LA(I:af)(c:aM)(g:ag)(sv pv:U)(hs:cC sv g.snap.length)(hp:cC pv g.ax.length)(hc:0≤c.am∧c.am≤10∧0≤c.ah∧c.ah≤10):Fn Tryz.prog 52 [cV c.am c.ah c.bH,.agg (gV g sv pv)] I fun x R=>x= .bool (decide (bW c g))∧R=I:=by
 refine ay aZ mixed Tryz.func52 (by kernel_rfl) rfl (by kernel_rfl) bE ?_
 by_cases cq:c.ok
 ·have iB:aM.ok ⟨c.am,c.ah,c.bH⟩:=cq
  have hd:∀b:Bool,(b=true↔bW c g)→b=decide (bW c g):=fun b h=>by rw[Bool.eq_iff_iff,h,decide_eq_true_iff]
  cases hq:g.busy with
  |false=>
   by_cases h0:g.pc=0
   ·simp+contextual (maxSteps:=1000000) (disch:=first|exact FV|fail) [go_sem,int_lt,-Int.not_le,-Int.not_lt,cq,iB,hq,h0]
    refine Alt.mk (Alt.mk (Alt.mk (hd _ ?_)))
    have eg:(ag.mk g.up g.slot g.ao false g.aE g.aH g.oa g.ob 0 g.gk g.gn g.seq g.next g.aX g.aK g.own g.time g.bw g.door g.aT g.entry g.snap g.ax g.code g.val g.count)=g:=by
     cases g;simp only at hq h0;subst hq h0;rfl
    rw[eg,Bool.and_eq_true,decide_eq_true_eq,decide_eq_true_eq]
    exact⟨fun h=>⟨cq,by simp[hq,h0],.inr hq,h.1,h.2⟩,fun h=>⟨h.2.2.2.1,h.2.2.2.2⟩⟩
   ·have hg:¬bW c g:=fun h=>by have:=h.2.1.2 h0;rw[hq]at this;cases this
    simp+contextual (maxSteps:=1000000) (disch:=first|exact FV|fail) [go_sem,int_lt,-Int.not_le,-Int.not_lt,cq,iB,hq,h0,hg]
  |true=>
   by_cases h0:g.pc=0
   ·have hg:¬bW c g:=fun h=>h.2.1.1 hq h0
    simp+contextual (maxSteps:=1000000) (disch:=first|exact FV|fail) [go_sem,int_lt,-Int.not_le,-Int.not_lt,cq,iB,hq,h0,hg]
   ·simp+contextual (maxSteps:=1000000) (disch:=first|exact FV|fail) [go_sem,int_lt,-Int.not_le,-Int.not_lt,cq,iB,hq,h0]
    refine Alt.mk ⟨fun h hg=>?_,fun h=>Alt.mk (Alt.mk (hd _ ?_))⟩
    ·rcases hg.2.2.1 with h1|h1
     ·exact h h1
     ·rw[hq]at h1;cases h1
    ·have eg:(ag.mk g.up g.slot g.ao true g.aE g.slot g.oa g.ob g.pc g.gk g.gn g.seq g.next g.aX g.aK g.own g.time g.bw g.door g.aT g.entry g.snap g.ax g.code g.val g.count)=g:=by
      cases g;simp only at hq h;subst hq h;rfl
     rw[eg,Bool.and_eq_true,decide_eq_true_eq,decide_eq_true_eq]
     exact⟨fun hh=>⟨cq,by simp[hq,h0],.inl h,hh.1,hh.2⟩,fun hh=>⟨hh.2.2.2.1,hh.2.2.2.2⟩⟩
 ·have iB:¬aM.ok ⟨c.am,c.ah,c.bH⟩:=cq
  have hg:¬bW c g:=fun h=>cq h.1
  simp+contextual (maxSteps:=1000000) (disch:=first|exact FV|fail) [go_sem,int_lt,-Int.not_le,-Int.not_lt,cq,iB,hg]
@[go_sem] def afw:=fun(I:af) c g sv pv hs hp hc (aA:U→af→Prop)=>ar (k:=aA) (LA I c g sv pv hs hp hc)
@[go_sem] def afv:=fun(I:af) (b_:Bool) (c:aM) (g:ag) (sv pv:U) (hs:b_=true→ cC sv g.snap.length) (hp:b_=true→ cC pv g.ax.length) (hc:b_=true→ 0≤c.am∧c.am≤10∧0≤c.ah∧c.ah≤10) (aA:U→af→Prop)=>aJ (k:=aA) b_ fun aY=>LA I c g sv pv (hs aY) (hp aY) (hc aY)
end AH
namespace AH
open Go Go.Proofs Ho
set_option maxRecDepth 20000
set_option maxHeartbeats 8000000
theorem kO(i k n e:Nat):ey (.sl i k n e):= .inr ⟨i,k,n,e,rfl⟩
theorem jV:ey .al:= .inl rfl
theorem Kd{kk:IntKind}{R:af}{q n:Nat}{xs:List Int}(hg:R.get q=some ⟨xs.map (.int kk),true⟩)(hq:q<R.n)(hn:xs.length=n):bu kk R (.sl q 0 n 1) xs↔True:=⟨fun _=>trivial,fun _=>bf hq hg hn⟩
theorem Nu(kk:IntKind)(R:af):bu kk R .al []↔True:=⟨fun _=>trivial,fun _=> .nil⟩
theorem Py(i k n e:Nat):cn (.sl i k n e)=i:=_root_.id rfl
attribute [go_sem] Kd Nu Py
def ag.asked(g:Ho.ag)(kind a b:Int):Ho.ag:=
 if g.up=false∨g.busy=true∨1000000≤g.count then g
 else
  let g1:Ho.ag:={g with aE:=kind,aH:=g.slot,oa:=a,ob:=b}
  if kind<1∨6<kind then g1.complete 13 0
  else if kind=1∧0<g.ao then g1.complete 6 0
  else if kind≠1∧g.ao=0 then g1.complete 9 0
  else {g1 with busy:=true,pc:=if kind=1 then 4 else 1}
theorem Oq(I:af)(g:ag)(sv pv:U)(kind sl a b:Int)(hs:bu .u64 I sv g.snap)(hp:bu .u64 I pv g.ax)(h1:(g.snap.length:Int)≤1000000)(h2:(g.ax.length:Int)≤1000000)(hc:0≤g.count∧g.count≤10000000):Fn Tryz.prog 146 [.agg (gV g sv pv),.agg [.int .i64 kind,.int .i64 sl,.int .i64 a,.int .i64 b]] I fun x R=>∃a_:U×U,x= .agg (gV (ag.asked g kind a b) a_.1 a_.2)∧(bu .u64 R a_.1 (ag.asked g kind a b).snap∧bu .u64 R a_.2 (ag.asked g kind a b).ax∧(∀j,j<I.n→R.get j=I.get j)∧(I.n≤cn a_.1∨a_.1= .al)∧(I.n≤cn a_.2∨a_.2= .al)∧(cn a_.1≠cn a_.2∨a_.1= .al)):=by
 refine bA aZ mixed Tryz.func146 (by kernel_rfl) rfl (by kernel_rfl) ?_
 have i1:=hs.aQ
 have i2:=hp.aQ
 simp+contextual (maxSteps:=1000000) (disch:=first|exact FV|fail) [go_sem,int_lt,-Int.not_le,-Int.not_lt,ag.asked,ag.complete,ag.zero]
 repeat' (first|refine Alt.mk ?_|refine And.intro ?_ ?_|intro _)
 all_goals first|omega|(rename_i j_ xI;simp only[show ¬j_=I.n+1+1 by omega,show ¬j_=I.n+1 by omega,show ¬j_=I.n by omega,if_false])
@[go_sem] def adJ:=fun(I:af) g sv pv kind sl a b hs hp h1 h2 hc (aA:U→af→Prop)=>jK aA (Oq I g sv pv kind sl a b hs hp h1 h2 hc)
end AH
namespace AH
open Go Go.Proofs Ho
set_option maxRecDepth 20000
set_option maxHeartbeats 16000000
def NE(a b:Nat):Prop:=a≠b
theorem NE.ne{a b:Nat}(h:NE a b):a≠b:=h
theorem NE.sym{a b:Nat}(h:NE a b):b≠a:=Ne.symm h
structure iY(n0:Nat)(R:af)(b:Bk)(p o i e h0 h1 h2 h3:Nat):Prop where
 lo:n0≤p∧n0≤o∧n0≤i∧n0≤e∧n0≤h0∧n0≤h1∧n0≤h2∧n0≤h3
 hi:p<R.n∧o<R.n∧i<R.n∧e<R.n∧h0<R.n∧h1<R.n∧h2<R.n∧h3<R.n
 nd:NE p o∧NE p i∧NE p e∧NE p h0∧NE p h1∧NE p h2∧NE p h3∧NE o i∧NE o e∧NE o h0∧NE o h1∧NE o h2∧NE o h3∧NE i e∧NE i h0∧NE i h1∧NE i h2∧NE i h3∧NE e h0∧NE e h1∧NE e h2∧NE e h3∧NE h0 h1∧NE h0 h2∧NE h0 h3∧NE h1 h2∧NE h1 h3∧NE h2 h3
 gp:R.get p=some ⟨b.ah.map (.int .i64),true⟩
 go:R.get o=some ⟨b.owner.map (.int .i64),true⟩
 gi:R.get i=some ⟨b.cy.map (.int .i64),true⟩
 ge:R.get e=some ⟨b.ao.map (.int .i64),true⟩
 g0:R.get h0=some ⟨(b.aj 0).map (.int .i64),true⟩
 g1:R.get h1=some ⟨(b.aj 1).map (.int .i64),true⟩
 g2:R.get h2=some ⟨(b.aj 2).map (.int .i64),true⟩
 g3:R.get h3=some ⟨(b.aj 3).map (.int .i64),true⟩
abbrev bO(b:Bk)(p o i e h0 h1 h2 h3:Nat):U:=
 bV b (.sl p 0 b.ah.length 1) (.sl h0 0 (b.aj 0).length 1) (.sl h1 0 (b.aj 1).length 1) (.sl h2 0 (b.aj 2).length 1) (.sl h3 0 (b.aj 3).length 1) (.sl o 0 b.owner.length 1) (.sl i 0 b.cy.length 1) (.sl e 0 b.ao.length 1)
theorem iY.v{n0:Nat}{R:af}{b:Bk}{p o i e h0 h1 h2 h3:Nat}(h:iY n0 R b p o i e h0 h1 h2 h3):
 fb R b (.sl p 0 b.ah.length 1) (.sl h0 0 (b.aj 0).length 1) (.sl h1 0 (b.aj 1).length 1) (.sl h2 0 (b.aj 2).length 1) (.sl h3 0 (b.aj 3).length 1) (.sl o 0 b.owner.length 1) (.sl i 0 b.cy.length 1) (.sl e 0 b.ao.length 1):=by
 obtain⟨_,⟨a1,a2,a3,a4,a5,a6,a7,a8⟩,_,gp,go,gi,ge,g0,g1,g2,g3⟩:=h
 exact⟨bf a1 gp rfl,bf a5 g0 rfl,bf a6 g1 rfl,bf a7 g2 rfl,bf a8 g3 rfl,bf a2 go rfl,bf a3 gi rfl,bf a4 ge rfl⟩
theorem iO{P:Program}{ord:Nat→bD}{c:Code}{K:Exit→Env→af→Prop}{env:Env}{I:af}(F:af→Prop)(h0:F I)(h:∀R,F R→ @lL ⟨ko P ord c⟩ ⟨K⟩ env R): @lL ⟨ko P ord c⟩ ⟨K⟩ env I:=h I h0
theorem px(step:(Exit→Env→af→Prop)→Env→af→Prop)(K:Exit→Env→af→Prop)(n:Nat)(env:Env)(I:af):pu step K (n+1) env I=step (mR (pu step K n) K) env I:=_root_.id rfl
theorem LH(I:af)(b:Bk)(pv h0 h1 h2 h3 ov iv ev:U)(hb:fb I b pv h0 h1 h2 h3 ov iv ev)(hs:dW b):
 Fn Tryz.prog 75 [bV b pv h0 h1 h2 h3 ov iv ev] I fun x R=>∃p o i e q0 q1 q2 q3:Nat,x=bO b p o i e q0 q1 q2 q3∧iY I.n R b p o i e q0 q1 q2 q3∧bY I.n I R∧I.n≤R.n:=by
 refine bA Kz mixed Tryz.func75 (by kernel_rfl) rfl (by kernel_rfl) ?_
 obtain⟨vp,v0,v1,v2,v3,vo,vi,ve⟩:=hb
 obtain⟨_,⟨sp,_⟩,sh,⟨so,_⟩,⟨si,_⟩,⟨se,_⟩⟩:=hs
 have s0:=(sh 0).1
 have s1:=(sh 1).1
 have s2:=(sh 2).1
 have s3:=(sh 3).1
 simp+contextual (maxSteps:=1000000) (disch:=first|exact dB|fail) [go_sem,int_lt,-Int.not_le,-Int.not_lt,Kz]
 refine iO (fun R=>R.n=I.n+1+1+4+1+1+1+1+1∧R.get I.n=some ⟨[.int .i64 b.am,pv,h0,h1,h2,h3,ov,iv,ev],true⟩∧R.get (I.n+1)=some ⟨[.int .i64 0,.al,.al,.al,.al,.al,.al,.al,.al],true⟩∧
  R.get (I.n+1+1+3)=some ⟨[.int .i64 b.am,.sl (I.n+1+1+4+1) 0 b.ah.length 1,.al,.al,.al,.al,.sl (I.n+1+1+4+1+1) 0 b.owner.length 1,.sl (I.n+1+1+4+1+1+1) 0 b.cy.length 1,.sl (I.n+1+1+4+1+1+1+1) 0 b.ao.length 1],true⟩∧
  R.get (I.n+1+1+4+1)=some ⟨b.ah.map (.int .i64),true⟩∧R.get (I.n+1+1+4+1+1)=some ⟨b.owner.map (.int .i64),true⟩∧R.get (I.n+1+1+4+1+1+1)=some ⟨b.cy.map (.int .i64),true⟩∧R.get (I.n+1+1+4+1+1+1+1)=some ⟨b.ao.map (.int .i64),true⟩∧bY I.n I R) ?_ ?_
 ·refine⟨by simp+arith [dw],?_,?_,?_,?_,?_,?_,?_,?_⟩
  all_goals first
   |(simp+arith [af.cu,af.cX,af.jW,kC,dw];done)
   |(intro j_ xI;simp(disch:=first|exact NE.ne bZ|exact NE.sym bZ|omega|(simp only[au,az,aR,dw];omega)) only[ak,ai,bg,ef])
 rintro R ⟨n1,g0,g1,g3,gp,go,gi,ge,hk⟩
 have v0':=v0.keeps hk v0.lt J
 have v1':=v1.keeps hk v1.lt J
 have v2':=v2.keeps hk v2.lt J
 have v3':=v3.keeps hk v3.lt J
 have c0:=v0.ne (j:=I.n+1+1+3) J
 have c1:=v1.ne (j:=I.n+1+1+3) J
 have c2:=v2.ne (j:=I.n+1+1+3) J
 have c3:=v3.ne (j:=I.n+1+1+3) J
 clear v0 v1 v2 v3
 refine⟨5,?_⟩
 simp+contextual (maxSteps:=1000000) (disch:=first|exact dB|fail) [go_sem,int_lt,-Int.not_le,-Int.not_lt,Kz,px,g0,g1,g3]
 refine⟨⟨J,by simp only[au,az,aR];omega,aD,?_,?_,?_,?_,?_,?_,?_,?_⟩,hk,J⟩<;>(first|exact bn|fail)
end AH
namespace AH
open Go Go.Proofs Ho
set_option maxRecDepth 20000
set_option maxHeartbeats 8000000
def bJ:List (ag×U×U)→List U
 |[]=>[]
 |x::gs=>gV x.1 x.2.1 x.2.2++bJ gs
theorem kJ(g:ag)(sv pv:U):(gV g sv pv).length=26:=rfl
theorem dq(gs:List (ag×U×U)):(bJ gs).length=gs.length*26:=by
 induction gs with
 |nil=>rfl
 |cons x gs ih=>
  show(gV x.1 x.2.1 x.2.2++bJ gs).length=(gs.length+1)*26
  rw[List.length_append,ih]
  show 26+gs.length*26=_
  omega
theorem dr{gs:List (ag×U×U)}{i:Nat}{x:ag×U×U}(h:gs[i]? =some x):((bJ gs).drop (i*26)).take 26=gV x.1 x.2.1 x.2.2:=by
 induction gs generalizing i with
 |nil=>simp at h
 |cons y gs ih=>
  cases i with
  |zero=>
   simp at h;subst h
   simp only[bJ,Nat.zero_mul,List.drop_zero]
   rw[List.take_append_of_le_length aV]
   rfl
  |succ i=>
   simp only[bJ]
   rw[List.drop_append,show(i+1)*26-(gV y.1 y.2.1 y.2.2).length=i*26 by rw[kJ];omega,List.drop_eq_nil_of_le (by rw[kJ];omega),List.nil_append]
   exact ih FU
theorem oB{gs:List (ag×U×U)}{i:Nat}(h:i<gs.length)(g:ag)(sv pv:U):aB (bJ gs) (i*26) (gV g sv pv)=bJ (gs.set i (g,sv,pv)):=by
 induction gs generalizing i with
 |nil=>simp at h
 |cons y gs ih=>
  cases i with
  |zero=>
   unfold aB
   simp only[bJ,Nat.zero_mul,List.take_zero,List.nil_append,Nat.zero_add,List.set_cons_zero]
   rw[List.drop_append,List.drop_eq_nil_of_le (by rw[kJ,kJ];exact Nat.le_refl _),List.nil_append,kJ,kJ]
   rfl
  |succ i=>
   have:=ih (i:=i) FU
   simp only[bJ,List.set_cons_succ]
   rw[←this]
   unfold aB
   rw[List.take_append,List.drop_append,kJ,kJ,List.take_of_length_le (by rw[kJ];omega),List.drop_eq_nil_of_le (by rw[kJ];omega)]
   rw[show(i+1)*26-26=i*26 by omega,show(i+1)*26+26-26=i*26+26 by omega]
   simp only[List.append_assoc,List.nil_append]
theorem rb(gs:List (ag×U×U))(g:ag)(sv pv:U):bJ gs++gV g sv pv=bJ (gs++[(g,sv,pv)]):=by
 induction gs with
 |nil=>simp[bJ]
 |cons y gs ih=>simp only[bJ,List.cons_append,List.append_assoc,ih]
end AH
