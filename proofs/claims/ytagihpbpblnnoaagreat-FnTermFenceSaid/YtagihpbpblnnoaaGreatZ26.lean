import Derived.Test.YtagihpbpblnnoaaGreatZ12
import Derived.Test.YtagihpbpblnnoaaGreatZ24
import Derived.Test.YtagihpbpblnnoaaGreatZ11
import Derived.Test.YtagihpbpblnnoaaGreatZ09
import Derived.Test.YtagihpbpblnnoaaGreatZ08
import Derived.Test.YtagihpbpblnnoaaGreatZ25
import Derived.Test.YtagihpbpblnnoaaGreatZ21
import Derived.Test.YtagihpbpblnnoaaGreatZ22
import Derived.Test.YtagihpbpblnnoaaGreatZ13
import Derived.Test.YtagihpbpblnnoaaGreatZ00
set_option linter.all false
namespace AH
open Go Go.Proofs Ho
set_option maxRecDepth 20000
set_option maxHeartbeats 16000000
theorem Pv{P:Program}{t:TypeId}{R:af}{j:Nat}{kk:IntKind}{x:Int}(hj:R.get j=some ⟨[.int kk x],true⟩):
 cJ P t .al (.sl j 0 1 1) R= @uL (bR P t) (.sl R.n 0 1 1,R.push ⟨[.int kk x],true⟩) ⟨cJ P t .al (.sl j 0 1 1) R⟩:=by
 have e1:fZ 1 (.sl j 0 1 1) R=some [.int kk x]:=by simp[fZ,hj,U.one]
 have key:∀(b:Nat) (z:List U),b≤8→bR P t=some (1,b,z)→cJ P t .al (.sl j 0 1 1) R=some (.sl R.n 0 1 1,R.push ⟨[.int kk x],true⟩):=by
  intro b z hb h
  simp only[cJ,h,e1,eC]
  rw[if_neg J,if_pos J]
 unfold uL
 split
 ·rename_i h;exact key 8 _ J h
 ·rename_i h;exact key 1 _ J h
 ·rfl
attribute [go_sem] Pv
def uD(n0:Nat)(R:af)(v:U)(xs:List Int):Prop:=(v= .al∧xs=[])∨∃q,v= .sl q 0 xs.length 1∧n0≤q∧q<R.n∧R.get q=some ⟨xs.map (.int .i64),true⟩
theorem uD.v{n0:Nat}{R:af}{v:U}{xs:List Int}(h:uD n0 R v xs):bu .i64 R v xs:=by
 rcases h with⟨rfl,rfl⟩|⟨q,rfl,_,h2,h3⟩
 ·exact .nil
 ·exact bu.own h2 h3
theorem uD.frame{n0:Nat}{I R:af}{v:U}{xs:List Int}(h:uD n0 I v xs)(hn:I.n≤R.n)(hf:v≠ .al→n0≤cn v→cn v<I.n→R.get (cn v)=I.get (cn v)):uD n0 R v xs:=by
 rcases h with⟨rfl,rfl⟩|⟨q,rfl,h1,h2,h3⟩
 ·exact .inl ⟨rfl,rfl⟩
 ·exact .inr ⟨q,rfl,h1,J,(hf aV h1 h2).trans h3⟩
theorem uD.low{n0 n1:Nat}{R:af}{v:U}{xs:List Int}(h:uD n1 R v xs)(hn:n0≤n1):uD n0 R v xs:=by
 rcases h with h|⟨q,h0,h1,h2⟩
 ·exact .inl h
 ·exact .inr ⟨q,h0,J,h2⟩
theorem JP(I:af)(v:U)(l:List Int)(hv:bu .i64 I v l)(hn:v≠ .al)(hl:(l.length:Int)≤1000000):
 Fn Tryz.prog 269 [v] I fun x R=>∃q,x= .sl q 0 l.length 1∧I.n≤q∧q<R.n∧R.get q=some ⟨l.map (.int .i64),true⟩∧∀y,y<I.n→R.get y=I.get y:=by
 refine bA aZ mixed Tryz.func269 (by kernel_rfl) rfl (by kernel_rfl) ?_
 rcases hv.ex with⟨rfl,_⟩|⟨i,k,rfl,hi⟩
 ·exact absurd rfl hn
 simp+contextual (maxSteps:=1000000) (disch:=first|exact dB|fail) [go_sem,int_lt,-Int.not_le,-Int.not_lt,-List.map_set,eB]
theorem tG(I:af) :Fn Tryz.prog 269 [.al] I fun x R=>x= .al∧R=I:=by
 refine ay aZ mixed Tryz.func269 (by kernel_rfl) rfl (by kernel_rfl) bE ?_
 simp+contextual (maxSteps:=1000000) (disch:=first|exact dB|fail) [go_sem,int_lt,-Int.not_le,-Int.not_lt,-List.map_set,eB]
@[go_sem] def Ye:=fun(I:af) (aA:U→af→Prop)=>ar (k:=aA) (tG I)
@[go_sem] def Yd:=fun(I:af) (b_:Bool) (aA:U→af→Prop)=>aJ (k:=aA) b_ fun aY=>tG I
theorem pL(I:af)(v:U)(l:List Int)(hv:bu .i64 I v l)(hl:(l.length:Int)≤1000000):
 Fn Tryz.prog 269 [v] I fun x R=>uD I.n R x l∧(v= .al→x= .al)∧∀y,y<I.n→R.get y=I.get y:=by
 by_cases hn:v= .al
 ·subst hn
  rcases hv.ex with⟨_,rfl⟩|⟨i,k,h,_⟩
  ·refine(tG I).use ?_
   rintro x R hn ⟨rfl,rfl⟩
   exact⟨.inl ⟨rfl,rfl⟩,fun _=>rfl,fun y _=>rfl⟩
  ·cases h
 ·refine(JP I v l hv hn hl).use ?_
  rintro x R fz ⟨q,rfl,a1,a2,a3,a4⟩
  exact⟨.inr ⟨q,rfl,a1,a2,a3⟩,fun h=>absurd h hn,a4⟩
def gh(hv:Nat→U)(k:Nat)(v:U):Nat→U:=fun j=>if j=k then v else hv j
theorem xF{s pv ov iv ev v:U}{hv:Nat→U}{k:Nat}(hk:k<4):aB [s,pv,hv 0,hv 1,hv 2,hv 3,ov,iv,ev] (2+k) [v]=[s,pv,gh hv k v 0,gh hv k v 1,gh hv k v 2,gh hv k v 3,ov,iv,ev]:=by
 have:k=0∨k=1∨k=2∨k=3:=J
 rcases this with rfl|rfl|rfl|rfl<;>simp[aB,gh]
def wZ(v w:U):Prop:=v= .al∨w= .al∨NE (cn v) (cn w)
structure sb(n0:Nat)(I:af)(b:Bk)(p o i e:Nat)(hv:Nat→U):Prop where
 lo:n0≤p∧n0≤o∧n0≤i∧n0≤e
 hi:p<I.n∧o<I.n∧i<I.n∧e<I.n
 nd:NE p o∧NE p i∧NE p e∧NE o i∧NE o e∧NE i e
 gp:I.get p=some ⟨b.ah.map (.int .i64),true⟩
 go:I.get o=some ⟨b.owner.map (.int .i64),true⟩
 gi:I.get i=some ⟨b.cy.map (.int .i64),true⟩
 ge:I.get e=some ⟨b.ao.map (.int .i64),true⟩
 hd:∀k,k<4→uD n0 I (hv k) (b.aj k)
 ha:∀k,k<4→wZ (hv k) (.sl p 0 0 1)∧wZ (hv k) (.sl o 0 0 1)∧wZ (hv k) (.sl i 0 0 1)∧wZ (hv k) (.sl e 0 0 1)
 hs:∀j k,j<4→k<4→j≠k→wZ (hv j) (hv k)
abbrev bI(b:Bk)(p o i e:Nat)(hv:Nat→U):U:=
 bV b (.sl p 0 b.ah.length 1) (hv 0) (hv 1) (hv 2) (hv 3) (.sl o 0 b.owner.length 1) (.sl i 0 b.cy.length 1) (.sl e 0 b.ao.length 1)
abbrev zn(b:Bk)(p o i e:Nat)(hv:Nat→U):List U:=
 [.int .i64 b.am,.sl p 0 b.ah.length 1,hv 0,hv 1,hv 2,hv 3,.sl o 0 b.owner.length 1,.sl i 0 b.cy.length 1,.sl e 0 b.ao.length 1]
theorem sb.v{n0:Nat}{I:af}{b:Bk}{p o i e:Nat}{hv:Nat→U}(h:sb n0 I b p o i e hv):
 fb I b (.sl p 0 b.ah.length 1) (hv 0) (hv 1) (hv 2) (hv 3) (.sl o 0 b.owner.length 1) (.sl i 0 b.cy.length 1) (.sl e 0 b.ao.length 1):=
 ⟨bu.own h.hi.1 h.gp,(h.hd 0 J).v,(h.hd 1 J).v,(h.hd 2 J).v,(h.hd 3 J).v,bu.own h.hi.2.1 h.go,bu.own h.hi.2.2.1 h.gi,bu.own h.hi.2.2.2 h.ge⟩
structure yI(n1:Nat)(R:af)(b:Bk)(h0 h1 h2 h3:U)(k:Nat)(hv:Nat→U):Prop where
 hd:∀j,j<k→uD n1 R (hv j) (b.aj j)
 hn:∀j,k≤j→hv j= .al
 hs:∀i j,i<k→j<k→i≠j→wZ (hv i) (hv j)
 hz:∀j v,j<k→([h0,h1,h2,h3]:List U)[j]? =some v→v= .al→hv j= .al
theorem yI.next{n1:Nat}{R τ' τ2:af}{b:Bk}{h0 h1 h2 h3 v v':U}{k:Nat}{hv:Nat→U}(h:yI n1 R b h0 h1 h2 h3 k hv)(jq:n1≤R.n)(mJ:([h0,h1,h2,h3]:List U)[k]? =some v)
 (c1:uD R.n τ' v' (b.aj k)) (c2:v= .al→v'= .al) (c3:∀y,y<R.n→τ'.get y=R.get y) (c4:R.n≤τ'.n) (d1:∀y,n1≤y→y<τ'.n→τ2.get y=τ'.get y) (d2:τ2.n=τ'.n):
 yI n1 τ2 b h0 h1 h2 h3 (k+1) (gh hv k v'):=by
 have ii:∀j,j<k→gh hv k v' j=hv j:=fun j hj=>by unfold gh;rw[if_neg J]
 have new:gh hv k v' k=v':=by unfold gh;rw[if_pos rfl]
 have hb:∀j,j<k→hv j= .al∨cn (hv j)<R.n:=fun j hj=>by
  rcases h.hd j hj with⟨h1,_⟩|⟨q,h1,_,h3,_⟩
  ·exact .inl h1
  ·right;rw[h1];exact h3
 have eR:v'= .al∨R.n≤cn v':=by
  rcases c1 with⟨h1,_⟩|⟨q,h1,h2,_⟩
  ·exact .inl h1
  ·right;rw[h1];exact h2
 have sep:∀j,j<k→wZ (hv j) v':=fun j hj=>by
  rcases hb j hj with h1|h1
  ·exact .inl h1
  ·rcases eR with h2|h2
   ·exact .inr (.inl h2)
   ·exact .inr (.inr aD)
 refine⟨fun j hj=>?_,fun j hj=>?_,fun i j hi hj gW=>?_,fun j w hj hw hwn=>?_⟩
 ·by_cases e:j=k
  ·subst e
   rw[new]
   exact(c1.low J).frame J fun _ h1 h2=>d1 _ J h2
  ·rw[ii j J]
   exact(h.hd j J).frame J fun _ h1 h2=>(d1 _ h1 J).trans (c3 _ h2)
 ·unfold gh;rw[if_neg J];exact h.hn j J
 ·by_cases e:i=k
  ·subst e
   rw[new,ii j J]
   rcases sep j J with h1|h1|h1
   ·exact .inr (.inl h1)
   ·exact .inl h1
   ·exact .inr (.inr h1.sym)
  ·rw[ii i J]
   by_cases e2:j=k
   ·subst e2;rw[new];exact sep i J
   ·rw[ii j J];exact h.hs i j J J gW
 ·by_cases e:j=k
  ·subst e
   rw[mJ]at hw;cases hw
   rw[new];exact c2 hwn
  ·rw[ii j J];exact h.hz j w J hw hwn
end AH
namespace AH
open Go Go.Proofs Ho
set_option maxRecDepth 20000
set_option maxHeartbeats 16000000
theorem vR(I:af)(aW:Int):Fn Tryz.prog 275 [.int .i64 aW] I fun x R=>x= .int .i64 (bB aW)∧R=I:=by
 refine ay aZ mixed Tryz.func275 (by kernel_rfl) rfl (by kernel_rfl) bE ?_
 by_cases h1:1≤aW
 rotate_left
 ·have e:bB aW= -1:=by unfold bB;rw[if_pos J]
  simp+contextual (maxSteps:=1000000) (disch:=first|exact dB|fail) [go_sem,int_lt,-Int.not_le,-Int.not_lt,-List.map_set,h1]
  (repeat refine Alt.mk ?_)
  exact e.symm
 by_cases h2:aW≤32
 rotate_left
 ·have e:bB aW= -1:=by unfold bB;(repeat' split)<;>omega
  simp+contextual (maxSteps:=1000000) (disch:=first|exact dB|fail) [go_sem,int_lt,-Int.not_le,-Int.not_lt,-List.map_set,h1,h2]
  (repeat refine Alt.mk ?_)
  exact e.symm
 simp+contextual (maxSteps:=1000000) (disch:=first|exact dB|fail) [go_sem,int_lt,-Int.not_le,-Int.not_lt,-List.map_set,h1,h2]
 (repeat refine Alt.mk ?_)
 refine aC (fun R_ env R=>∃(k:Int),env 0= .int .i64 aW∧env 3= .int .i64 k∧I=R∧R_ ((4-k).toNat)∧(0≤k∧k≤4∧(0<k→¬aW≤1)∧(1<k→¬aW≤2)∧(2<k→¬aW≤4)∧(3<k→¬aW≤8))) (by rintro R_ env R ⟨k,e0,e3,h_,cz,hp⟩;exact⟨_,cz,k,e0,e3,h_,rfl,hp⟩) ⟨0,aq,aq,rfl,trivial,?_⟩ ?_
 rotate_left
 rintro m_ env R ⟨k,e0,e3,rfl,rfl,hp⟩
 rotate_left
 ·omega
 have hk:k=0∨k=1∨k=2∨k=3∨k=4:=J
 unfold bB
 rcases hk with rfl|rfl|rfl|rfl|rfl<;>simp+contextual (maxSteps:=1000000) (disch:=first|exact dB|fail) [go_sem,int_lt,-Int.not_le,-Int.not_lt,-List.map_set,e0,e3,HP,HQ,HS,HT]
 all_goals(repeat' (first|refine Alt.mk ?_|refine⟨?_,?_⟩|intro _))
 all_goals(repeat' split)<;>omega
@[go_sem] def UT:=fun(I:af) aW (aA:U→af→Prop)=>ar (k:=aA) (vR I aW)
@[go_sem] def US:=fun(I:af) (b_:Bool) (aW:Int) (aA:U→af→Prop)=>aJ (k:=aA) b_ fun aY=>vR I aW
theorem Ak(I:af)(b:Bk)(pv h0 h1 h2 h3 ov iv ev:U)(a:Int)(hb:fb I b pv h0 h1 h2 h3 ov iv ev)(hs:dW b)(h:b.owner.length=b.ah.length*8):Fn Tryz.prog 278 [bV b pv h0 h1 h2 h3 ov iv ev,.int .i64 a] I fun x R=>x= .int .i64 (e_ b a)∧R=I:=by
 refine ay aZ mixed Tryz.func278 (by kernel_rfl) rfl (by kernel_rfl) bE ?_
 have:=And.intro hb.p.aQ (And.intro hb.h0.aQ (And.intro hb.h1.aQ (And.intro hb.h2.aQ (And.intro hb.h3.aQ (And.intro hb.o.aQ (And.intro hb.i.aQ hb.e.aQ))))))
 obtain⟨l1,l2,l3,l4,l5,l6,l7,l8⟩:=this
 obtain⟨vp,_,_,_,_,vo,vi,ve⟩:=id hb
 obtain⟨⟨s0,s1⟩,⟨sp,qP⟩,sh,⟨so,KR⟩,⟨si,_⟩,⟨se,_⟩⟩:=id hs
 have YD:=qP (a/8)
 by_cases h1:0≤a
 rotate_left
 ·have e:e_ b a=0:=by unfold e_;rw[if_pos J]
  rw[e]
  simp+contextual (maxSteps:=1000000) (disch:=first|exact dB|fail) [go_sem,int_lt,-Int.not_le,-Int.not_lt,-List.map_set,h1]
 by_cases h2:a≤(b.owner.length:Int)-1
 rotate_left
 ·have e:e_ b a=0:=by unfold e_;rw[if_pos J]
  rw[e]
  simp+contextual (maxSteps:=1000000) (disch:=first|exact dB|fail) [go_sem,int_lt,-Int.not_le,-Int.not_lt,-List.map_set,h1,h2]
 by_cases h3:at_ b.owner a=0
 ·have e:e_ b a=0:=by unfold e_;rw[if_neg J,if_pos h3]
  rw[e]
  simp+contextual (maxSteps:=1000000) (disch:=first|exact dB|fail) [go_sem,int_lt,-Int.not_le,-Int.not_lt,-List.map_set,h1,h2,h3]
 obtain⟨c,hc⟩:∃c,at_ b.ah (a/8)=c:=⟨_,rfl⟩
 by_cases h4:1≤c∧c≤4
 ·have e:e_ b a=sz (c-1):=by
   unfold e_
   rw[if_neg J,if_neg h3,hc,if_pos ((dI c).2 h4)]
   unfold ch;rw[if_neg J]
  rw[e]
  simp+contextual (maxSteps:=1000000) (disch:=first|exact dB|fail) [go_sem,int_lt,-Int.not_le,-Int.not_lt,-List.map_set,h1,h2,h3,h4.1,h4.2,hc,Int.tdiv_eq_ediv_of_nonneg]
 ·have e:e_ b a=(c-8)*8:=by
   unfold e_
   rw[if_neg J,if_neg h3,hc,if_neg (fun h=>h4 ((dI c).1 h))]
  have Z0:(decide (1≤c)&&decide (c≤4))=false:=by
   rw[Bool.and_eq_false_iff,decide_eq_false_iff_not,decide_eq_false_iff_not];omega
  rw[e]
  simp+contextual (maxSteps:=1000000) (disch:=first|exact dB|fail) [go_sem,int_lt,-Int.not_le,-Int.not_lt,-List.map_set,h1,h2,h3,Z0,hc,Int.tdiv_eq_ediv_of_nonneg]
@[go_sem] def Yq:=fun(I:af) b pv h0 h1 h2 h3 ov iv ev a hb hs h (aA:U→af→Prop)=>ar (k:=aA) (Ak I b pv h0 h1 h2 h3 ov iv ev a hb hs h)
@[go_sem] def Yp:=fun(I:af) (b_:Bool) (b:Bk) (pv h0 h1 h2 h3 ov iv ev:U) (a:Int) (hb:b_=true→ fb I b pv h0 h1 h2 h3 ov iv ev) (hs:b_=true→ dW b) (h:b_=true→ b.owner.length=b.ah.length*8) (aA:U→af→Prop)=>aJ (k:=aA) b_ fun aY=>Ak I b pv h0 h1 h2 h3 ov iv ev a (hb aY) (hs aY) (h aY)
theorem tR(l:List Int)(v:Int):∀(n:Nat) (i:Int),n<l.length→cB (l.take (n+1)) v i=cB (l.take n) v i++(if at_ l n=v then [i+n]else []):=by
 induction l with
 |nil=>intro n i h;simp at h
 |cons x l ih=>
  intro n i h
  cases n with
  |zero=>
   simp only[List.take_succ_cons,List.take_zero,cB,at_]
   by_cases e:x=v<;>simp[e]
  |succ n=>
   have:=ih n (i+1) FU
   simp only[List.take_succ_cons,cB]at this⊢
   have ea:at_ (x::l) ((n+1:Nat):Int)=at_ l n:=by simp[at_]
   rw[this,ea,show i+1+(n:Int)=i+((n+1:Nat):Int) by omega]
   split<;>simp
theorem ye(l:List Int)(v:Int):∀i:Int,(cB l v i).length≤l.length:=by
 induction l with
 |nil=>intro i;exact Nat.le_refl _
 |cons x l ih=>
  intro i
  unfold cB
  have:=ih (i+1)
  split<;>simp<;>omega
theorem tE(I:af)(b:Bk)(pv h0 h1 h2 h3 ov iv ev:U)(slot:Int)(hb:fb I b pv h0 h1 h2 h3 ov iv ev)(hs:dW b)(h: -1000000≤slot∧slot≤1000000):
 Fn Tryz.prog 72 [bV b pv h0 h1 h2 h3 ov iv ev,.int .i64 slot] I fun x R=>uD I.n R x (cB b.owner (slot+1) 0)∧(∀y,y<I.n→R.get y=I.get y):=by
 have:=And.intro hb.p.aQ (And.intro hb.h0.aQ (And.intro hb.h1.aQ (And.intro hb.h2.aQ (And.intro hb.h3.aQ (And.intro hb.o.aQ (And.intro hb.i.aQ hb.e.aQ))))))
 obtain⟨l1,l2,l3,l4,l5,l6,l7,l8⟩:=this
 have vo:=hb.o
 have so:=hs.o.1
 refine bA aZ mixed Tryz.func72 (by kernel_rfl) rfl (by kernel_rfl) ?_
 simp+contextual (maxSteps:=1000000) (disch:=first|exact dB|fail) [go_sem,int_lt,-Int.not_le,-Int.not_lt,-List.map_set]
 (repeat refine Alt.mk ?_)
 refine aC (fun R_ env R=>∃(u:Nat),∃(v:U),env 1= .int .i64 slot∧env 5=v∧env 9=ov∧env 10= .int .i64 b.owner.length∧env 11= .int .i64 u∧R_ (b.owner.length-u)∧(u≤b.owner.length)∧(uD (I.n+1) R v (cB (b.owner.take u) (slot+1) 0))∧(I.n+1≤R.n)∧((∀y,y<I.n→R.get y=I.get y))) (by rintro R_ env R ⟨u,v,e1,e5,e9,em,ft,cz,hu,hd,hn,hf⟩;exact⟨_,cz,u,v,e1,e5,e9,em,ft,rfl,hu,hd,hn,hf⟩) ⟨0,.al,aq,aq,aq,aq,aq,trivial,?_,?_,?_,?_⟩ ?_
 rotate_left 4
 rintro m_ env R ⟨u,v,e1,e5,e9,em,ft,rfl,hu,hd,hn,hf⟩
 ·have YI:=vo.keeps (R:=R) (n:=I.n) hf vo.lt J
  by_cases HF:u<b.owner.length
  rotate_left
  ·have fH:b.owner.length≤u:=J
   have iv:=hd.v.aQ
   rw[List.take_of_length_le fH]at hd
   simp+contextual (maxSteps:=1000000) (disch:=first|exact dB|fail) [go_sem,int_lt,-Int.not_le,-Int.not_lt,-List.map_set,e1,e5,e9,em,ft,fH]
   (repeat refine Alt.mk ?_)
   exact⟨hd.low J,hf⟩
  have fH:¬b.owner.length≤u:=J
  have BX:=tR b.owner (slot+1) u 0 HF
  have YC:=hs.o.2 u
  by_cases hz:at_ b.owner u=slot+1
  ·rw[if_pos hz]at BX
   rcases hd with⟨rfl,hd⟩|⟨q,rfl,q1,q2,q3⟩
   ·rw[hd]at BX
    simp+contextual (maxSteps:=1000000) (disch:=first|exact dB|fail) [go_sem,int_lt,-Int.not_le,-Int.not_lt,-List.map_set,e1,e5,e9,em,ft,fH,hz]
    (repeat refine Alt.mk ?_)
    refine⟨u+1,J,J,J,.inr ⟨R.n+1,by rw[BX];rfl,J,bG,?_⟩,J,fun y y1=>?_⟩
    ·rw[BX];simp only[Int.zero_add,List.nil_append,List.map_cons,List.map_nil];(first|exact bn|fail)
    ·first|exact hf y y1|(rw[←hf y y1];(first|exact bn|fail))
   ·have tt:(cB (b.owner.take u) (slot+1) 0).length≤1000000:=Nat.le_trans (ye _ _ _) IJ
    generalize cB (b.owner.take u) (slot+1) 0=l at*
    simp+contextual (maxSteps:=1000000) (disch:=first|exact dB|fail) [go_sem,int_lt,-Int.not_le,-Int.not_lt,-List.map_set,e1,e5,e9,em,ft,fH,hz,q3]
    (repeat refine Alt.mk ?_)
    refine⟨u+1,J,J,J,.inr ⟨R.n+1,by rw[BX];simp,J,by simp only[au,aR];omega,?_⟩,J,fun y y1=>hf y y1⟩
    rw[BX];simp only[List.map_append,List.map_cons,List.map_nil,Int.zero_add];(first|exact bn|fail)
  ·rw[if_neg hz,List.append_nil]at BX
   have iv:=hd.v.aQ
   simp+contextual (maxSteps:=1000000) (disch:=first|exact dB|fail) [go_sem,int_lt,-Int.not_le,-Int.not_lt,-List.map_set,e1,e5,e9,em,ft,fH,hz]
   (repeat refine Alt.mk ?_)
   refine⟨u+1,J,J,J,?_,hn,hf⟩
   rw[BX];exact hd
 ·omega
 ·exact .inl ⟨rfl,rfl⟩
 ·simp only[au];omega
 ·intro y y1;(first|exact bn|fail)
end AH
namespace AH
open Go Go.Proofs Ho
set_option maxRecDepth 20000
set_option maxHeartbeats 16000000
def BH(R:af)(z:Nat)(b:Bk):Prop:=∃pv k0 k1 k2 k3 ov iv ev,R.get z=some ⟨[.int .i64 b.am,pv,k0,k1,k2,k3,ov,iv,ev],true⟩∧fb R b pv k0 k1 k2 k3 ov iv ev
def Fk(n0:Nat)(I R:af)(z:Nat)(r:Bk×Int×Int)(x:U):Prop:=
 x= .cw [.int .i64 r.2.1,.int .i64 r.2.2]∧(∀y,y<n0→R.get y=I.get y)∧I.n≤R.n∧(r.2.1=0∨r.2.1=10→BH R z r.1)
theorem BH.of{n0:Nat}{R:af}{b:Bk}{p o i e z:Nat}{hv:Nat→U}(h:sb n0 R b p o i e hv)(gz:R.get z=some ⟨zn b p o i e hv,true⟩):BH R z b:=⟨_,_,_,_,_,_,_,_,gz,h.v⟩
theorem sb.Nv{n0:Nat}{I R:af}{b b':Bk}{p o i e:Nat}{hv:Nat→U}(h:sb n0 I b p o i e hv)(hh:∀k,k<4→b'.aj k=b.aj k)(hn:I.n≤R.n)(gp:R.get p=some ⟨b'.ah.map (.int .i64),true⟩)(go:R.get o=some ⟨b'.owner.map (.int .i64),true⟩)
 (gi:R.get i=some ⟨b'.cy.map (.int .i64),true⟩) (ge:R.get e=some ⟨b'.ao.map (.int .i64),true⟩) (hf:∀k,k<4→hv k≠ .al→NE (cn (hv k)) p→NE (cn (hv k)) o→NE (cn (hv k)) i→NE (cn (hv k)) e→cn (hv k)<I.n→R.get (cn (hv k))=I.get (cn (hv k))):sb n0 R b' p o i e hv:=by
 refine⟨h.lo,by have:=h.hi;omega,h.nd,gp,go,gi,ge,fun k hk=>?_,h.ha,h.hs⟩
 rw[hh k hk]
 refine(h.hd k hk).frame hn fun h0 h1 h2=>?_
 obtain⟨a1,a2,a3,a4⟩:=h.ha k hk
 have key:∀q,wZ (hv k) (.sl q 0 0 1)→NE (cn (hv k)) q:=fun q a=>by
  rcases a with a|a|a
  ·exact absurd a h0
  ·cases a
  ·exact a
 exact hf k hk h0 (key p a1) (key o a2) (key i a3) (key e a4) h2
theorem wZ.ne{v:U}{q n:Nat}(h:wZ v (.sl q 0 n 1))(h0:v≠ .al):NE (cn v) q:=by
 rcases h with a|a|a
 ·exact absurd a h0
 ·cases a
 ·exact a
theorem Ai(I:af)(z:Nat)(b:Bk)(pv h0 h1 h2 h3 ov iv ev:U)(slot a:Int)(hz:z<I.n)(gz:I.get z=some ⟨[.int .i64 b.am,pv,h0,h1,h2,h3,ov,iv,ev],true⟩)(hb:fb I b pv h0 h1 h2 h3 ov iv ev)(hs:dW b)(h:b.owner.length=b.ah.length*8)(h': -1000000≤slot∧slot≤1000000):Fn Tryz.prog 272 [.ptr z 0,.int .i64 slot,.int .i64 a] I fun x R=>x= .int .i64 (fU b slot a)∧R=I:=by
 refine ay aZ mixed Tryz.func272 (by kernel_rfl) rfl (by kernel_rfl) bE ?_
 have:=And.intro hb.p.aQ (And.intro hb.h0.aQ (And.intro hb.h1.aQ (And.intro hb.h2.aQ (And.intro hb.h3.aQ (And.intro hb.o.aQ (And.intro hb.i.aQ hb.e.aQ))))))
 obtain⟨l1,l2,l3,l4,l5,l6,l7,l8⟩:=this
 have vo:=hb.o
 by_cases hr:e_ b a=0
 ·have e:fU b slot a=3:=by unfold fU;rw[if_pos hr]
  rw[e]
  simp+contextual (maxSteps:=1000000) (disch:=first|exact dB|fail) [go_sem,int_lt,-Int.not_le,-Int.not_lt,-List.map_set,gz,hr]
 ·obtain⟨r1,r2⟩:=ki hr
  by_cases ho:at_ b.owner a=slot+1
  ·have e:fU b slot a=0:=by unfold fU;rw[if_neg hr,if_neg (fun h=>h ho)]
   rw[e]
   simp+contextual (maxSteps:=1000000) (disch:=first|exact dB|fail) [go_sem,int_lt,-Int.not_le,-Int.not_lt,-List.map_set,gz,hr,ho]
  ·have e:fU b slot a=4:=by unfold fU;rw[if_neg hr,if_pos ho]
   rw[e]
   simp+contextual (maxSteps:=1000000) (disch:=first|exact dB|fail) [go_sem,int_lt,-Int.not_le,-Int.not_lt,-List.map_set,gz,hr,ho]
@[go_sem] def Ym:=fun(I:af) z b pv h0 h1 h2 h3 ov iv ev slot a hz gz hb hs h h' (aA:U→af→Prop)=>ar (k:=aA) (Ai I z b pv h0 h1 h2 h3 ov iv ev slot a hz gz hb hs h h')
@[go_sem] def Yl:=fun(I:af) (b_:Bool) (z:Nat) (b:Bk) (pv h0 h1 h2 h3 ov iv ev:U) (slot a:Int) (hz:b_=true→ z<I.n) (gz:b_=true→ I.get z=some ⟨[.int .i64 b.am,pv,h0,h1,h2,h3,ov,iv,ev],true⟩) (hb:b_=true→ fb I b pv h0 h1 h2 h3 ov iv ev) (hs:b_=true→ dW b) (h:b_=true→ b.owner.length=b.ah.length*8) (h':b_=true→ -1000000≤slot∧slot≤1000000) (aA:U→af→Prop)=>aJ (k:=aA) b_ fun aY=>Ai I z b pv h0 h1 h2 h3 ov iv ev slot a (hz aY) (gz aY) (hb aY) (hs aY) (h aY) (h' aY)
def lV(b:Bk)(slot:Int):Bk×Int×Int:=
 if at_ b.cy slot≠0 then(b,6,0)
 else if at_ b.ao slot=4095 then(b,12,0)
 else({b with cy:=put b.cy slot 1,ao:=put b.ao slot (at_ b.ao slot+1)},0,at_ b.ao slot+1)
theorem Dv(I:af)(n0 z:Nat)(b:Bk)(p o i e:Nat)(hv:Nat→U)(slot:Int)(hz:n0≤z∧z<I.n)(gz:I.get z=some ⟨zn b p o i e hv,true⟩)(hb:sb n0 I b p o i e hv)(BT:z≠p∧z≠o∧z≠i∧z≠e∧∀k,k<4→wZ (hv k) (.sl z 0 0 1))(hs:dW b)(hl:(b.cy.length:Int)=b.am∧(b.ao.length:Int)=b.am)(h:0≤slot∧slot<b.am):
 Fn Tryz.prog 270 [.ptr z 0,.int .i64 slot] I fun x R=>Fk n0 I R z (lV b slot) x:=by
 have gR:=hb.v
 have:=And.intro gR.p.aQ (And.intro gR.h0.aQ (And.intro gR.h1.aQ (And.intro gR.h2.aQ (And.intro gR.h3.aQ (And.intro gR.o.aQ (And.intro gR.i.aQ gR.e.aQ))))))
 obtain⟨l1,l2,l3,l4,l5,l6,l7,l8⟩:=this
 obtain⟨vp,_,_,_,_,vo,vi,ve⟩:=id gR
 obtain⟨d1,d2,d3,d4,d5,d6⟩:=hb.nd
 refine bA yd mixed Tryz.func270 (by kernel_rfl) rfl (by kernel_rfl) ?_
 have gi:=hb.gi
 have ge:=hb.ge
 have gp:=hb.gp
 have go:=hb.go
 have qE:=hs.i.2 slot
 have Dq:=hs.e.2 slot
 obtain⟨s1,s2⟩:=h
 have s3:¬b.am≤slot:=J
 by_cases hi:at_ b.cy slot=0
 rotate_left
 ·have kL:HK b slot:=⟨s1,s2,hi⟩
  have er:lV b slot=(b,6,0):=by unfold lV;rw[if_pos hi]
  rw[er]
  simp+contextual (maxSteps:=1000000) (disch:=first|exact dB|fail) [go_sem,int_lt,-Int.not_le,-Int.not_lt,-List.map_set,yd,gz,kL]
  (repeat refine Alt.mk ?_)
  exact⟨rfl,fun y _=>rfl,J,fun h=>by rcases h with h|h<;>cases h⟩
 have kL:¬HK b slot:=fun h=>h.2.2 hi
 by_cases Ue:at_ b.ao slot=4095
 ·have er:lV b slot=(b,12,0):=by unfold lV;rw[if_neg (fun h=>h hi),if_pos Ue]
  rw[er]
  simp+contextual (maxSteps:=1000000) (disch:=first|exact dB|fail) [go_sem,int_lt,-Int.not_le,-Int.not_lt,-List.map_set,yd,gz,kL,Ue]
  (repeat refine Alt.mk ?_)
  exact⟨rfl,fun y _=>rfl,J,fun h=>by rcases h with h|h<;>cases h⟩
 have er:lV b slot=({b with cy:=put b.cy slot 1,ao:=put b.ao slot (at_ b.ao slot+1)},0,at_ b.ao slot+1):=by unfold lV;rw[if_neg (fun h=>h hi),if_neg Ue]
 rw[er]
 have xw:(put b.ao slot (at_ b.ao slot+1))[slot.toNat]? =some (at_ b.ao slot+1):=by unfold put;rw[List.getElem?_set_self J]
 obtain⟨z1,z2,z3,z4,z5⟩:=BT
 have BN:slot<b.ao.length:=J
 have P':slot<b.cy.length:=J
 simp+contextual (maxSteps:=1000000) (disch:=first|exact dB|fail) [go_sem,int_lt,-Int.not_le,-Int.not_lt,-List.map_set,yd,gz,kL,Ue,gi,ge,aF,xw]
 (repeat refine Alt.mk ?_)
 refine⟨rfl,fun y hy=>?_,bj,fun _=>BH.of (hb.Nv (fun k _=>rfl) bj ?_ ?_ ?_ ?_ ?_) ?_⟩
 ·have:=hb.lo;rw[ai J,ai J]
 ·(first|exact bn|fail)
 ·(first|exact bn|fail)
 ·(first|exact bn|fail)
 ·(first|exact bn|fail)
 ·intro k hk q0 q1 q2 q3 q4 q5;(first|exact bn|fail)
 ·simp only[zn,aF]
  rw[ai J,ai J];exact gz
end AH
namespace AH
open Go Go.Proofs Ho
set_option maxRecDepth 20000
set_option maxHeartbeats 16000000
theorem EN(I:af)(m:Int):Fn Tryz.prog 283 [.int .i64 m] I fun x R=>x= .bool (!decide (m=0))∧R=I:=by
 refine ay aZ mixed Tryz.func283 (by kernel_rfl) rfl (by kernel_rfl) bE ?_
 by_cases h:m=0<;>simp+contextual (maxSteps:=1000000) (disch:=first|exact dB|fail) [go_sem,int_lt,-Int.not_le,-Int.not_lt,-List.map_set,h]
@[go_sem] def QU:=fun(I:af) m (aA:U→af→Prop)=>ar (k:=aA) (EN I m)
@[go_sem] def abK:=fun(I:af) (b_:Bool) (m:Int) (aA:U→af→Prop)=>aJ (k:=aA) b_ fun aY=>EN I m
theorem Gt(I:af):B6 (.fn 283 [] []) (fun x=> !decide (x=0)) I:=fun a kk=>QU I a kk
theorem bu.part{kk:IntKind}{I:af}{q n:Nat}{xs:List Int}(h:bu kk I (.sl q 0 xs.length 1) xs){lo:Nat}(h1:lo+n≤xs.length):bu kk I (.sl q lo n 1) ((xs.drop lo).take n):=by
 rcases h.ex with⟨h,_⟩|⟨i,k,e,hl⟩
 ·cases h
 ·cases e
  obtain⟨g1,B,g2,g3,g4⟩:=hl
  have hlen:((xs.drop lo).take n).length=n:=by rw[List.length_take,List.length_drop];omega
  refine⟨.inr ⟨q,lo,by rw[hlen],⟨g1,B,g2,by rw[hlen];omega,?_⟩⟩⟩
  rw[hlen,List.map_take,List.map_drop,←g4,List.drop_take,List.take_take,List.drop_drop]
  rw[Nat.zero_add]
  congr 1
  omega
theorem any_empty{ah:List Int}{p n:Nat}(h:p+n≤ah.length):(((ah.drop p).take n).any fun x=> !decide (x=0))= !decide (iQ ah p n):=by
 by_cases hE:iQ ah p n
 ·rw[decide_eq_true hE]
  rw[List.any_eq_false.2]
  ·rfl
  ·intro x hx
   obtain⟨j,hj⟩:=List.mem_iff_getElem?.1 hx
   rw[List.getElem?_take]at hj
   split at hj
   ·rw[List.getElem?_drop]at hj
    have:=hE j J J
    unfold at_ at this
    rw[show((p:Int)+j).toNat=p+j by omega,List.getD_eq_getElem?_getD,hj]at this
    have h0:x=0:=this
    simp[h0]
   ·cases hj
 ·rw[decide_eq_false hE]
  refine List.any_eq_true.2 ?_
  refine Classical.byContradiction fun tu=>hE fun i i1 i2=>Classical.byContradiction fun h0=>tu ?_
  refine⟨at_ ah (p+i),?_,by simpa using h0⟩
  rw[List.mem_iff_getElem?]
  refine⟨i.toNat,?_⟩
  rw[List.getElem?_take,if_pos J,List.getElem?_drop]
  simp[at_,show((p:Int)+i).toNat=p+i.toNat by omega,show p+i.toNat<ah.length by omega]
theorem tK(I:af)(n0 z:Nat)(b:Bk)(p o i e:Nat)(hv:Nat→U)(slot:Int)(n:Nat)(hz:n0≤z∧z<I.n)(gz:I.get z=some ⟨zn b p o i e hv,true⟩)(hb:sb n0 I b p o i e hv)(BT:NE z p∧NE z o∧NE z i∧NE z e∧∀k,k<4→wZ (hv k) (.sl z 0 0 1))(hs:dW b)(hl:b.owner.length=b.ah.length*8)(Ma:b.ah.length≤6)(hn:1≤n∧n≤4)(h:0≤slot∧slot≤10):
 Fn Tryz.prog 276 [.ptr z 0,.int .i64 slot,.int .i64 n] I fun x R=>Fk n0 I R z (if cf b.ah n<0 then(b,2,0)else({b with ah:=gD (put b.ah (cf b.ah n) (8+n)) (cf b.ah n+1) 7 (n-1),owner:=put b.owner (cf b.ah n*8) (slot+1)},0,cf b.ah n*8)) x:=by
 generalize hr:cf b.ah n=r
 generalize hG:(fun(x:U) (R:af)=>Fk n0 I R z (if r<0 then(b,2,0)else({b with ah:=gD (put b.ah r (8+n)) (r+1) 7 (n-1),owner:=put b.owner (r*8) (slot+1)},0,r*8)) x)=GG
 have gR:=hb.v
 have:=And.intro gR.p.aQ (And.intro gR.h0.aQ (And.intro gR.h1.aQ (And.intro gR.h2.aQ (And.intro gR.h3.aQ (And.intro gR.o.aQ (And.intro gR.i.aQ gR.e.aQ))))))
 obtain⟨l1,l2,l3,l4,l5,l6,l7,l8⟩:=this
 obtain⟨vp,_,_,_,_,vo,vi,ve⟩:=id gR
 obtain⟨d1,d2,d3,d4,d5,d6⟩:=hb.nd
 obtain⟨z1,z2,z3,z4,z5⟩:=BT
 have gi:=hb.gi
 have ge:=hb.ge
 have gp:=hb.gp
 have go:=hb.go
 have rX:=hb.lo
 refine bA aZ mixed Tryz.func276 (by kernel_rfl) rfl (by kernel_rfl) ?_
 simp+contextual (maxSteps:=1000000) (disch:=first|exact dB|fail) [go_sem,int_lt,-Int.not_le,-Int.not_lt,-List.map_set]
 (repeat refine Alt.mk ?_)
 refine aC (fun R_ env R=>∃(pg:Nat),env 0= .ptr z 0∧env 1= .int .i64 slot∧env 2= .int .i64 n∧env 8= .int .i64 pg∧I=R∧R_ (b.ah.length+1-pg)∧(pg≤b.ah.length+1∧r=fv b.ah n ((b.ah.length:Int)+1-pg).toNat pg)) (by rintro R_ env R ⟨pg,e0,e1,e2,e8,h_,cz,hp⟩;exact⟨_,cz,pg,e0,e1,e2,e8,h_,rfl,hp⟩) ⟨0,aq,aq,aq,aq,rfl,trivial,?_⟩ ?_
 rotate_left
 rintro m_ env R ⟨pg,e0,e1,e2,e8,rfl,rfl,hp⟩
 rotate_left
 ·exact⟨J,by rw[←hr];unfold cf;congr 1⟩
 obtain⟨q1,q2⟩:=hp
 by_cases kr:pg+n≤b.ah.length
 rotate_left
 ·rw[EJ J J]at q2
  have f:GG (.cw [.int .i64 2,.int .i64 0]) I:=by
   rw[←hG,q2];exact⟨rfl,fun y _=>rfl,J,fun h=>by rcases h with h|h<;>cases h⟩
  have JE:¬(pg:Int)+n≤b.ah.length:=J
  clear hG
  simp+contextual (maxSteps:=1000000) (disch:=first|exact dB|fail) [go_sem,int_lt,-Int.not_le,-Int.not_lt,-List.map_set,e0,e1,e2,e8,gz,JE]
  (repeat refine Alt.mk ?_)
  exact f
 have JE:(pg:Int)+n≤b.ah.length:=J
 rw[AR J J]at q2
 have O6:=bu.part (n:=n) vp kr
 have hpt:((pg:Int)+n).toNat-pg=n:=J
 simp+contextual (maxSteps:=1000000) (disch:=first|exact dB|fail) [go_sem,int_lt,-Int.not_le,-Int.not_lt,-List.map_set,e0,e1,e2,e8,gz,JE,hpt]
 (repeat refine Alt.mk ?_)
 refine aw (Gp I _ _ _ (fun x=> !decide (x=0)) O6 IJ (Gt I)) ?_
 rintro x R lZ ⟨rfl,hτ⟩
 have QQ:=hτ.symm
 subst QQ
 rw[any_empty kr]
 by_cases hE:iQ b.ah pg n
 rotate_left
 ·rw[if_neg hE]at q2
  rw[decide_eq_false hE]
  clear hG
  simp+contextual (maxSteps:=1000000) (disch:=first|exact dB|fail) [go_sem,int_lt,-Int.not_le,-Int.not_lt,-List.map_set,e0,e1,e2,e8]
  (repeat refine Alt.mk ?_)
  exact⟨pg+1,J,J,J,by rw[q2];congr 1;omega⟩
 rw[if_pos hE]at q2
 rw[decide_eq_true hE]
 simp+contextual (maxSteps:=1000000) (disch:=first|exact dB|fail) [go_sem,int_lt,-Int.not_le,-Int.not_lt,-List.map_set,e0,e1,e2,e8,gz,gp]
 (repeat refine Alt.mk ?_)
 have rf:¬r<0:=J
 rw[if_neg rf,q2]at hG
 clear q2 O6 hr rf q1
 refine aC (fun R_ env R=>∃(k:Nat),env 0= .ptr z 0∧env 1= .int .i64 slot∧env 2= .int .i64 n∧env 8= .int .i64 pg∧env 9= .int .i64 ((k:Int)+1)∧I.set p ⟨(gD (put b.ah pg (8+n)) (pg+1) 7 k).map (.int .i64),true⟩=R∧R_ (n-k)∧(k<n)) (by rintro R_ env R ⟨k,e0,e1,e2,e8,e9,h_,cz,hp⟩;exact⟨_,cz,k,e0,e1,e2,e8,e9,h_,rfl,hp⟩) ⟨0,aq,aq,aq,aq,aq,rfl,trivial,?_⟩ ?_
 rotate_left
 rintro m_ env R ⟨k,e0,e1,e2,e8,e9,rfl,rfl,hp⟩
 rotate_left
 ·omega
 have hlen:=eL (put b.ah pg (8+n)) (pg+1) 7 k
 rw[aF]at hlen
 have k1:0≤(pg:Int)+((k:Int)+1):=J
 have k2:(pg:Int)*8<b.owner.length:=J
 simp+contextual (maxSteps:=1000000) (disch:=first|exact dB|fail) [go_sem,int_lt,-Int.not_le,-Int.not_lt,-List.map_set,e0,e1,e2,e8,e9,gz,go,hlen,k1]
 refine⟨fun hk=>?_,fun hk=>?_⟩
 ·refine⟨k+1,J,?_,J,J⟩
  simp only[gD]
  rw[show(pg:Int)+1+(k:Int)=pg+((k:Int)+1) by omega]
 ·have ek:n-1=k:=J
  rw[←hG,ek]
  refine⟨rfl,fun y hy=>?_,bj,fun _=>BH.of (hb.Nv (fun k _=>rfl) bj ?_ ?_ ?_ ?_ ?_) ?_⟩
  ·rw[ai J,ai J]
  ·(first|exact bn|fail)
  ·(first|exact bn|fail)
  ·(first|exact bn|fail)
  ·(first|exact bn|fail)
  ·intro k hk q0 q1 q2 q3 q4 q5;(first|exact bn|fail)
  ·simp only[zn,aF,eL]
   rw[ai z2.ne,ai z1.ne];exact gz
end AH
namespace AH
open Go Go.Proofs Ho
set_option maxRecDepth 20000
set_option maxHeartbeats 16000000
theorem F3(ah:List Int):dk ah 0 0=cf ah 1:=by
 have key:∀(d p:Nat),p+d=ah.length+1→p≤ah.length→dk (ah.drop p) 0 p=fv ah 1 d p:=by
  intro d
  induction d with
  |zero=>intro p h1 h2;omega
  |succ d ih=>
   intro p h1 h2
   unfold fv
   by_cases hp:p<ah.length
   ·rw[if_neg J,pA hp]
    by_cases hz:at_ ah p=0
    ·have hE:iQ ah p 1:=fun i i1 i2=>by rw[show(p:Int)+i=p by omega];exact hz
     rw[if_pos hz,if_pos hE]
    ·rw[if_neg hz,if_neg (fun h=>hz (by have:=h 0 J J;rwa[Int.add_zero]at this)),ih (p+1) J J]
     congr 1
   ·rw[if_pos J,List.drop_eq_nil_of_le J];rfl
 have:=key (ah.length+1) 0 J J
 rw[List.drop_zero]at this
 exact this
theorem BH.mk'{R:af}{z:Nat}{b':Bk}{p o i e lp lo li le K:Nat}{s:Int}{hv:Nat→U}{w:U}(gz:R.get z=some ⟨[.int .i64 s,.sl p 0 lp 1,gh hv K w 0,gh hv K w 1,gh hv K w 2,gh hv K w 3,.sl o 0 lo 1,.sl i 0 li 1,.sl e 0 le 1],true⟩)(hs:s=b'.am)
 (hp:bu .i64 R (.sl p 0 lp 1) b'.ah) (ho:bu .i64 R (.sl o 0 lo 1) b'.owner) (hi:bu .i64 R (.sl i 0 li 1) b'.cy) (he:bu .i64 R (.sl e 0 le 1) b'.ao) (hw:bu .i64 R w (b'.aj K)) (hh:∀k,k<4→k≠K→bu .i64 R (hv k) (b'.aj k)):BH R z b':=by
 have key:∀k,k<4→bu .i64 R (gh hv K w k) (b'.aj k):=fun k hk=>by
  unfold gh
  by_cases e:k=K
  ·rw[if_pos e,e];exact hw
  ·rw[if_neg e];exact hh k hk e
 subst hs
 exact⟨_,_,_,_,_,_,_,_,gz,⟨hp,key 0 J,key 1 J,key 2 J,key 3 J,ho,hi,he⟩⟩
theorem bu.tl{kk:IntKind}{I:af}{q n:Nat}{xs:List Int}(h:bu kk I (.sl q 0 n 1) xs)(hn:1≤n):bu kk I (.sl q 1 (n-1) 1) xs.tail:=by
 have hl:n=xs.length:=by
  rcases h.ex with⟨h,_⟩|⟨i,k,e,_⟩
  ·cases h
  ·cases e;rfl
 subst hl
 have:=bu.part (lo:=1) (n:=xs.length-1) h J
 rwa[List.take_of_length_le (by rw[List.length_drop];omega),List.drop_one]at this
theorem yz{hv:Nat→U}{K:Nat}{v:U}(hK:K<4):([gh hv K v 0,gh hv K v 1,gh hv K v 2,gh hv K v 3]:List U)[K]? =some v:=by
 have:K=0∨K=1∨K=2∨K=3:=J
 rcases this with rfl|rfl|rfl|rfl<;>simp[gh]
theorem D2{s pv ov iv ev v w:U}{hv:Nat→U}{k:Nat}(hk:k<4):aB [s,pv,gh hv k v 0,gh hv k v 1,gh hv k v 2,gh hv k v 3,ov,iv,ev] (2+k) [w]=[s,pv,gh hv k w 0,gh hv k w 1,gh hv k w 2,gh hv k w 3,ov,iv,ev]:=by
 have:k=0∨k=1∨k=2∨k=3:=J
 rcases this with rfl|rfl|rfl|rfl<;>simp[aB,gh]
def gT(pg S m:Nat):List Int:=(List.range (m/S)).map fun(j:Nat)=>(pg:Int)*8+(j:Int)*(S:Int)
theorem zq{pg S m:Nat}(hS:0<S)(hm:S ∣ m):gT pg S (m+S)=gT pg S m++[(pg:Int)*8+m]:=by
 unfold gT
 rw[Nat.add_div_right m hS,List.range_succ,List.map_append]
 congr 1
 simp only[List.map_cons,List.map_nil]
 have:=Nat.div_mul_cancel hm
 rw[show((m/S:Nat):Int)*(S:Int)=((m/S*S:Nat):Int) by simp,this]
theorem sQ(pg S m:Nat):(gT pg S m).length=m/S:=by simp[gT]
theorem Rr{K:Nat}(h:K<4):∃S:Nat,sz (K:Int)=S∧0<S∧S ∣ 8∧S≤8:=by
 have:K=0∨K=1∨K=2∨K=3:=J
 rcases this with rfl|rfl|rfl|rfl
 ·exact⟨1,rfl,J,J,J⟩
 ·exact⟨2,rfl,J,J,J⟩
 ·exact⟨4,rfl,J,J,J⟩
 ·exact⟨8,rfl,J,J,J⟩
def TU(b:Bk)(k:Nat)(slot:Int):Bk×Int×Int:=({b with aj:=cE b.aj k (b.aj k).tail,owner:=put b.owner (at_ (b.aj k) 0) (slot+1)},0,at_ (b.aj k) 0)
theorem KW{b:Bk}{slot aW:Int}{k:Nat}(hk:bB aW=k)(h4:k<4):cI b slot aW=if b.aj k=[]then(if cf b.ah 1<0 then(b,2,0)else TU (bC b (cf b.ah 1) k) k slot)else TU b k slot:=by
 unfold cI
 dsimp only
 rw[hk,if_neg J,if_neg J]
 simp only[Int.toNat_natCast]
 rfl
theorem Gu(I:af)(n0 z:Nat)(b:Bk)(p o i e:Nat)(hv:Nat→U)(slot aW:Int)(hz:n0≤z∧z<I.n)(gz:I.get z=some ⟨zn b p o i e hv,true⟩)(hb:sb n0 I b p o i e hv)(BT:NE z p∧NE z o∧NE z i∧NE z e∧∀k,k<4→wZ (hv k) (.sl z 0 0 1))(gF:∀k,k<4→b.aj k=[]→hv k= .al)(hs:dW b)(di:cm b)(h:0≤slot∧slot≤10):
 Fn Tryz.prog 271 [.ptr z 0,.int .i64 slot,.int .i64 aW] I fun x R=>Fk n0 I R z (cI b slot aW) x:=by
 generalize hG:(fun(x:U) (R:af)=>Fk n0 I R z (cI b slot aW) x)=GG
 have gR:=hb.v
 have:=And.intro gR.p.aQ (And.intro gR.h0.aQ (And.intro gR.h1.aQ (And.intro gR.h2.aQ (And.intro gR.h3.aQ (And.intro gR.o.aQ (And.intro gR.i.aQ gR.e.aQ))))))
 obtain⟨l1,l2,l3,l4,l5,l6,l7,l8⟩:=this
 obtain⟨vp,_,_,_,_,vo,vi,ve⟩:=id gR
 obtain⟨d1,d2,d3,d4,d5,d6⟩:=hb.nd
 obtain⟨z1,z2,z3,z4,z5⟩:=id BT
 have gi:=hb.gi
 have ge:=hb.ge
 have gp:=hb.gp
 have go:=hb.go
 have rX:=hb.lo
 have uA:=hb.hi
 have EG:b.owner.length=b.ah.length*8:=di.1.1.2.2.2.2.2.2
 have dO:b.ah.length≤6:=di.1.1.2.2.2.2.2.1
 refine bA kT mixed Tryz.func271 (by kernel_rfl) rfl (by kernel_rfl) ?_
 have X4: -1≤bB aW∧bB aW≤4:=by unfold bB;(repeat' split)<;>omega
 by_cases k0:bB aW<0
 ·have f:GG (.cw [.int .i64 1,.int .i64 0]) I:=by
   have eT:cI b slot aW=(b,1,0):=by unfold cI;dsimp only;rw[if_pos k0]
   rw[←hG,eT];exact⟨rfl,fun y _=>rfl,J,fun h=>by rcases h with h|h<;>cases h⟩
  clear hG
  simp+contextual (maxSteps:=1000000) (disch:=first|exact dB|fail) [go_sem,int_lt,-Int.not_le,-Int.not_lt,-List.map_set,kT,k0]
  (repeat refine Alt.mk ?_)
  exact f
 by_cases k4:bB aW=4
 ·have hu:9≤aW∧aW≤32:=by unfold bB at k4;(repeat' split at k4)<;>omega
  obtain⟨n,hn⟩:∃n:Nat,(aW+7)/8=n:=⟨((aW+7)/8).toNat,J⟩
  have fz:(aW+8-1)/8=n:=J
  have eT:cI b slot aW=if cf b.ah n<0 then(b,2,0)else({b with ah:=gD (put b.ah (cf b.ah n) (8+n)) (cf b.ah n+1) 7 (n-1),owner:=put b.owner (cf b.ah n*8) (slot+1)},0,cf b.ah n*8):=by
   unfold cI;dsimp only;rw[if_neg k0,if_pos k4,hn];simp only[Int.toNat_natCast]
  rw[eT]at hG
  simp+contextual (maxSteps:=1000000) (disch:=first|exact dB|fail) [go_sem,int_lt,-Int.not_le,-Int.not_lt,-List.map_set,kT,k4,fz,Int.tdiv_eq_ediv_of_nonneg]
  (repeat refine Alt.mk ?_)
  refine aw (tK I n0 z b p o i e hv slot n hz gz hb BT hs EG dO J h) ?_
  rintro x R lZ hX
  generalize(if cf b.ah n<0 then(b,2,0)else({b with ah:=gD (put b.ah (cf b.ah n) (8+n)) (cf b.ah n+1) 7 (n-1),owner:=put b.owner (cf b.ah n*8) (slot+1)},0,cf b.ah n*8):Bk×Int×Int)=ab at hX hG
  have Z':=hX
  rw[hX.1]
  rw[hX.1]at Z'
  have f:=Eq.mp (congrFun (congrFun hG _) R) Z'
  clear hG hX Z'
  simp+contextual (maxSteps:=1000000) (disch:=first|exact dB|fail) [go_sem,int_lt,-Int.not_le,-Int.not_lt,-List.map_set,kT]
  (repeat refine Alt.mk ?_)
  exact f
 obtain⟨K,hK⟩:∃K:Nat,bB aW=K:=⟨(bB aW).toNat,J⟩
 have qe:K<4:=J
 have Jd:¬4≤(K:Int):=J
 have Z5:¬(K:Int)=4:=J
 rw[KW hK qe]at hG
 obtain⟨v,mJ,fw⟩:=jS gR qe
 have hvK:v=hv K:=by
  have:K=0∨K=1∨K=2∨K=3:=J
  rcases this with rfl|rfl|rfl|rfl<;>(cases mJ;rfl)
 subst hvK
 have uW:=nI (s:= .int .i64 b.am) (pv:= .sl p 0 b.ah.length 1) (ov:= .sl o 0 b.owner.length 1) (iv:= .sl i 0 b.cy.length 1) (ev:= .sl e 0 b.ao.length 1) qe mJ
 have tq:=qA uW
 have ln:=fun v=> @xF (.int .i64 b.am) (.sl p 0 b.ah.length 1) (.sl o 0 b.owner.length 1) (.sl i 0 b.cy.length 1) (.sl e 0 b.ao.length 1) v hv K qe
 by_cases xK:b.aj K=[]
 rotate_left
 ·rw[if_neg xK]at hG
  have tt:0<(b.aj K).length:=List.length_pos_iff.2 xK
  have Jy:¬(b.aj K).length≤0:=J
  rcases hb.hd K qe with⟨hq,yF⟩|⟨q,hq,q1,q2,q3⟩
  ·exact absurd yF xK
  rw[hq]at uW tq fw
  have nZ:at_ (b.aj K) 0∈b.aj K:=by
   cases hbh:b.aj K with
   |nil=>exact absurd hbh xK
   |cons x l=>simp[at_]
  obtain⟨_,c1,c2,_⟩:=count_le di qe nZ
  have hle:=(hs.h K).1
  simp+contextual (maxSteps:=1000000) (disch:=first|exact dB|fail) [go_sem,int_lt,-Int.not_le,-Int.not_lt,-List.map_set,kT,gz,hK,Jd,Z5,uW,tq,Jy,go,ln,xK]
  (repeat refine Alt.mk ?_)
  rw[←hG]
  obtain⟨aq1,aq2,aq3,aq4⟩:=hb.ha K qe
  have aq5:=z5 K qe
  rw[hq]at aq1 aq2 aq3 aq4 aq5
  have nq2:=aq2.ne aV
  have nq5:=aq5.ne aV
  simp only[cn]at nq2 nq5
  have zo:=z2
  refine⟨rfl,fun y hy=>by rw[ai J,ai J],bj,fun _=>BH.mk' (K:=K) (hv:=hv) (w:= .sl q 1 ((b.aj K).length-1) 1) (by rw[ai z2.ne];(first|exact bn|fail)) rfl ?_ ?_ ?_ ?_ ?_ fun k hk MY=>?_⟩
  ·show bu _ _ _ b.ah;first|exact dB|fail
  ·exact bf bj aI (by simp only[TU,aF])
  ·show bu _ _ _ b.cy;first|exact dB|fail
  ·show bu _ _ _ b.ao;first|exact dB|fail
  ·show bu _ _ _ (cE b.aj K (b.aj K).tail K)
   have:cE b.aj K (b.aj K).tail K=(b.aj K).tail:=by unfold cE;rw[if_pos rfl]
   rw[this]
   have h1:=(fw.tl J).set (j:=z) (B:=⟨[.int .i64 b.am,.sl p 0 b.ah.length 1,gh hv K (.sl q 1 ((b.aj K).length-1) 1) 0,gh hv K (.sl q 1 ((b.aj K).length-1) 1) 1,gh hv K (.sl q 1 ((b.aj K).length-1) 1) 2,gh hv K (.sl q 1 ((b.aj K).length-1) 1) 3,.sl o 0 b.owner.length 1,.sl i 0 b.cy.length 1,.sl e 0 b.ao.length 1],true⟩) (.inl nq5.ne)
   exact h1.set (.inl nq2.ne)
  ·show bu _ _ _ (cE b.aj K (b.aj K).tail k)
   have:cE b.aj K (b.aj K).tail k=b.aj k:=by unfold cE;rw[if_neg MY]
   rw[this]
   exact((hb.hd k hk).frame bj fun h0 h1 h2=>by
    have a1:=(hb.ha k hk).2.1.ne h0
    have a2:=(z5 k hk).ne h0
    rw[ai a1.ne,ai a2.ne]).v
 ·have hvn:=gF K qe xK
  rw[if_pos xK]at hG
  have tt:(b.aj K).length=0:=by rw[xK];rfl
  rw[hvn]at uW tq
  obtain⟨r,hr⟩:∃r,cf b.ah 1=r:=⟨_,rfl⟩
  have Gj:=ie b.ah 1
  have jn:=F3 b.ah
  rw[hr]at hG Gj jn
  by_cases oK:r<0
  ·rw[if_pos oK]at hG
   have f:GG (.cw [.int .i64 2,.int .i64 0]) I:=by
    rw[←hG];exact⟨rfl,fun y _=>rfl,J,fun h=>by rcases h with h|h<;>cases h⟩
   clear hG
   simp+contextual (maxSteps:=1000000) (disch:=first|exact dB|fail) [go_sem,int_lt,-Int.not_le,-Int.not_lt,-List.map_set,kT,gz,hK,Jd,Z5,uW,tq,jn,oK]
   (repeat refine Alt.mk ?_)
   exact f
  rw[if_neg oK]at hG
  obtain⟨pg,kr⟩:∃pg:Nat,r=pg:=⟨r.toNat,J⟩
  subst kr
  have ahq:pg<b.ah.length:=J
  have aa7:¬(b.ah.length:Int)≤pg:=J
  simp+contextual (maxSteps:=1000000) (disch:=first|exact dB|fail) [go_sem,int_lt,-Int.not_le,-Int.not_lt,-List.map_set,kT,gz,hK,Jd,Z5,uW,tq,jn,gp,aa7]
  (repeat refine Alt.mk ?_)
  obtain⟨S,hS,P5,hS8,hS9⟩:=Rr qe
  clear uW tq fw ln
  refine aC (fun R_ env R=>∃(m:Nat),∃(v:U),env 0= .ptr z 0∧env 1= .int .i64 slot∧env 8= .int .i64 K∧env 9= .int .i64 pg∧env 10= .int .i64 ((pg:Int)*8+m)∧R_ (8-m)∧(m≤8∧S ∣ m)∧(R.get z=some ⟨[.int .i64 b.am,.sl p 0 b.ah.length 1,gh hv K v 0,gh hv K v 1,gh hv K v 2,gh hv K v 3,.sl o 0 b.owner.length 1,.sl i 0 b.cy.length 1,.sl e 0 b.ao.length 1],true⟩)∧(uD I.n R v (gT pg S m))∧(R.get p=some ⟨(put b.ah pg (K+1)).map (.int .i64),true⟩)∧(I.n≤R.n)∧((∀y,y<I.n→NE y z→NE y p→R.get y=I.get y))) (by rintro R_ env R ⟨m,v,e0,e1,e8,e9,em,cz,hm,zV,hO,zU,hn,hf⟩;exact⟨_,cz,m,v,e0,e1,e8,e9,em,rfl,hm,zV,hO,zU,hn,hf⟩) ⟨0,.al,aq,aq,aq,aq,aq,trivial,?_,?_,?_,?_,?_,?_⟩ ?_
  rotate_left 6
  rintro m_ env R ⟨m,v,e0,e1,e8,e9,em,rfl,hm,zV,hO,zU,hn,hf⟩
  ·obtain⟨X6,X7⟩:=hm
   have om:=nI (s:= .int .i64 b.am) (pv:= .sl p 0 b.ah.length 1) (ov:= .sl o 0 b.owner.length 1) (iv:= .sl i 0 b.cy.length 1) (ev:= .sl e 0 b.ao.length 1) qe (yz (hv:=hv) (v:=v) qe)
   have JL:=qA om
   have ln:=fun w=> @D2 (.int .i64 b.am) (.sl p 0 b.ah.length 1) (.sl o 0 b.owner.length 1) (.sl i 0 b.cy.length 1) (.sl e 0 b.ao.length 1) v w hv K qe
   have Q2:∀k,ey (gh hv K v k)∨4≤k:=fun k=>by
    by_cases h4:k<4
    ·left;unfold gh;split
     ·exact hO.v.aQ
     ·exact(hb.hd k h4).v.aQ
    ·exact .inr J
   by_cases hm8:m<8
   ·have d_:¬((pg:Int)+1)*8≤pg*8+m:=J
    have hmS:m+S≤8:=by
     have:=Nat.le_of_dvd J ((Nat.dvd_sub hS8 X7));omega
    have xM:=zq (pg:=pg) P5 X7
    have hlen:=sQ pg S m
    have hle:m/S≤8:=Nat.le_trans (Nat.div_le_self m S) X6
    clear hG
    rcases hO with⟨rfl,hO⟩|⟨q,rfl,q1,q2,q3⟩
    ·simp+contextual (maxSteps:=1000000) (disch:=first|exact dB|fail) [go_sem,int_lt,-Int.not_le,-Int.not_lt,-List.map_set,kT,e0,e1,e8,e9,em,d_,zV,om,JL,Jd,ln,hS]
     (repeat refine Alt.mk ?_)
     exact⟨m+S,J,J,J,Nat.dvd_add X7 (Nat.dvd_refl S),_,rfl,rfl,rfl,rfl,.inr ⟨R.n+1,by rw[xM,hO];rfl,J,by simp only[au,az];omega,by rw[xM,hO];simp only[List.nil_append,List.map_cons,List.map_nil];(first|exact bn|fail)⟩,zU,J,hf⟩
    ·simp+contextual (maxSteps:=1000000) (disch:=first|exact dB|fail) [go_sem,int_lt,-Int.not_le,-Int.not_lt,-List.map_set,kT,e0,e1,e8,e9,em,d_,zV,om,JL,Jd,ln,hS,q3]
     (repeat refine Alt.mk ?_)
     exact⟨m+S,J,J,J,Nat.dvd_add X7 (Nat.dvd_refl S),_,rfl,rfl,rfl,rfl,.inr ⟨R.n+1,by rw[xM];simp,J,by simp only[au,az,aR];omega,by rw[xM];simp only[List.map_append,List.map_cons,List.map_nil];(first|exact bn|fail)⟩,by first|exact zU|(first|exact bn|fail),J,by first|exact hf|(intro y y1 y2 y3;rw[←hf y y1 y2 y3];(first|exact bn|fail))⟩
   ·have d_:((pg:Int)+1)*8≤pg*8+m:=J
    have aaX:m=8:=J
    have aat:((pg:Int)+1)*8≤(pg:Int)*8+8:=J
    subst aaX
    have og:gT pg S 8=dj pg K:=by unfold gT dj;rw[hS];simp
    have hlen:=sQ pg S 8
    have h8S:1≤8/S:=Nat.div_pos hS9 P5
    have hle:8/S≤8:=Nat.div_le_self 8 S
    have pf:at_ (gT pg S 8) 0=(pg:Int)*8:=by
     unfold gT at_
     obtain⟨d,hd⟩:∃d,8/S=d+1:=⟨8/S-1,J⟩
     rw[hd,List.range_succ_eq_map];simp
    rcases hO with⟨rfl,hO⟩|⟨q,rfl,q1,q2,q3⟩
    ·rw[hO]at hlen;simp at hlen;omega
    have xG:=(hf o uA.2.1 z2.sym d1.sym).trans go
    have Us:¬(gT pg S 8).length≤0:=J
    have Gc:bu .i64 R (.sl q 0 (gT pg S 8).length 1) (gT pg S 8):=bf q2 q3 rfl
    have Gf:(pg:Int)*8<b.owner.length:=J
    have hGf:=fun τ'=>Eq.mp (congrFun (congrFun hG (U.cw [.int .i64 0,.int .i64 ((pg:Int)*8)])) τ')
    clear hG
    obtain⟨CL,zP⟩:∃CL,gT pg S 8=CL:=⟨_,rfl⟩
    rw[zP]at og hlen pf Us Gc q3 zV om JL ln Q2
    simp+contextual (maxSteps:=1000000) (disch:=first|exact dB|fail) [go_sem,int_lt,-Int.not_le,-Int.not_lt,-List.map_set,kT,e0,e1,e8,e9,em,aat,zV,om,JL,Jd,ln,xG,Us,pf]
    (repeat refine Alt.mk ?_)
    refine hGf _ ?_
    have eT:(TU (bC b pg K) K slot)=({bC b pg K with aj:=cE (bC b pg K).aj K CL.tail,owner:=put b.owner ((pg:Int)*8) (slot+1)},0,(pg:Int)*8):=by
     have e1:(bC b pg K).aj K=CL:=by simp only[bC,cE,Int.toNat_natCast,if_true,xK,List.nil_append,og]
     unfold TU
     rw[e1,pf]
     rfl
    rw[eT]
    refine⟨rfl,fun y hy=>?_,bj,fun _=>BH.mk' (K:=K) (hv:=hv) (w:= .sl q 1 (CL.length-1) 1) (by rw[ai z2.ne];(first|exact bn|fail)) rfl ?_ ?_ ?_ ?_ ?_ fun k hk MY=>?_⟩
    ·rw[ai J,ai J];exact hf y J aD aD
    ·exact bf bj (by rw[ai d1.ne,ai z1.sym];exact zU) (by simp only[bC,aF])
    ·exact bf bj aI (by simp only[aF])
    ·exact bf bj (by rw[ai d4.sym,ai z3.sym,hf i uA.2.2.1 z3.sym d2.sym];exact gi) rfl
    ·exact bf bj (by rw[ai d5.sym,ai z4.sym,hf e uA.2.2.2 z4.sym d3.sym];exact ge) rfl
    ·show bu _ _ _ (cE (bC b pg K).aj K CL.tail K)
     have:cE (bC b pg K).aj K CL.tail K=CL.tail:=by unfold cE;rw[if_pos rfl]
     rw[this]
     exact((Gc.tl J).set (.inl il)).set (.inl il)
    ·show bu _ _ _ (cE (bC b pg K).aj K CL.tail k)
     have:cE (bC b pg K).aj K CL.tail k=b.aj k:=by unfold cE bC cE;simp only[Int.toNat_natCast];rw[if_neg MY,if_neg MY]
     rw[this]
     exact((hb.hd k hk).frame bj fun h0 h1 h2=>by
      have a1:=(hb.ha k hk).2.1.ne h0
      have a2:=(z5 k hk).ne h0
      have a3:=(hb.ha k hk).1.ne h0
      rw[ai a1.ne,ai a2.ne,hf _ h2 a2 a3]).v
  ·exact⟨J,Nat.dvd_zero S⟩
  ·rw[show gh hv K .al=hv from by funext k;unfold gh;split<;>simp_all];(first|exact bn|fail)
  ·exact .inl ⟨rfl,by simp[gT]⟩
  ·(first|exact bn|fail)
  ·simp only[az];omega
  ·intro y y1 y2 y3;(first|exact bn|fail)
end AH
namespace AH
open Go Go.Proofs Ho
set_option maxRecDepth 20000
set_option maxHeartbeats 16000000
theorem xR(I:af)(m page:Int)(pb:Nat)(hp:pb<I.n)(hg:I.get pb=some ⟨[.int .i64 page],true⟩):Fn Tryz.prog 281 [.int .i64 m,.ptr pb 0] I fun x R=>x= .bool (decide (IntKind.i64.wrap (m.tdiv 8)=page))∧R=I:=by
 refine ay aZ mixed Tryz.func281 (by kernel_rfl) rfl (by kernel_rfl) bE ?_
 simp+contextual (maxSteps:=1000000) (disch:=first|exact dB|fail) [go_sem,int_lt,-Int.not_le,-Int.not_lt,-List.map_set,hg]
@[go_sem] def abF:=fun(I:af) m page pb hp hg (aA:U→af→Prop)=>ar (k:=aA) (xR I m page pb hp hg)
@[go_sem] def abE:=fun(I:af) (b_:Bool) (m page:Int) (pb:Nat) (hp:b_=true→ pb<I.n) (hg:b_=true→ I.get pb=some ⟨[.int .i64 page],true⟩) (aA:U→af→Prop)=>aJ (k:=aA) b_ fun aY=>xR I m page pb (hp aY) (hg aY)
theorem DZ{kk:IntKind}{xs:List Int}{k:Nat}{v:Int}(h:k<xs.length):aB (xs.map (U.int kk)) k [.int kk v]=(put xs k v).map (.int kk):=by
 unfold aB put
 rw[Int.toNat_natCast]
 apply List.ext_getElem?
 intro j
 simp only[List.length_cons,List.length_nil,List.getElem?_append,List.length_append,List.length_take,List.length_map,List.getElem?_take,List.getElem?_drop,List.getElem?_map,List.getElem?_set]
 rw[show min k xs.length=k by omega]
 by_cases h1:j<k
 ·rw[if_pos J,if_pos h1,if_pos h1,if_neg J]
 ·by_cases h2:j=k
  ·subst h2
   rw[if_pos J,if_neg J,if_pos rfl,if_pos h,Nat.sub_self];rfl
  ·rw[if_neg J,if_neg (Ne.symm h2),show k+(0+1)+(j-(k+(0+1)))=j by omega]
theorem Gq(I:af)(page:Int)(pb:Nat)(hp:pb<I.n)(hg:I.get pb=some ⟨[.int .i64 page],true⟩):B6 (.fn 281 [] [.ptr pb 0]) (fun x=>decide (IntKind.i64.wrap (x.tdiv 8)=page)) I:=by
 intro a aA
 refine propext ⟨fun hh=> .inr hh,fun hh=>?_⟩
 rcases hh with hh|hh
 ·rw[vx];exact(xR I a page pb hp hg).eq hh
 ·exact hh
theorem Nh(I:af)(n0:Nat)(v:U)(xs:List Int)(q:Nat)(x:Int)(hv:uD n0 I v xs)(gF:xs=[]→v= .al)(hxl:xs.length≤1000000)(hq:I.get q=some ⟨[.int .i64 x],true⟩)(hvq:v= .al∨NE (cn v) q):
 Fn Tryz.prog 279 [v,.int .i64 0,.sl q 0 1 1] I fun y R=>y= .sl I.n 0 (xs.length+1) 1∧R.n=I.n+1∧R.get I.n=some ⟨(x::xs).map (.int .i64),true⟩∧∀y,y<I.n→(v= .al∨NE y (cn v))→R.get y=I.get y:=by
 rcases hv with⟨rfl,rfl⟩|⟨i,rfl,_,h2,h3⟩
 ·exact⟨_,_,Nl hq,rfl,rfl,aI,fun y hy _=>by(first|exact bn|fail)⟩
 ·have hx:0<xs.length:=List.length_pos_iff.2 fun h=>by have:=gF h;cases this
  have MX:NE i q:=by
   rcases hvq with h|h
   ·cases h
   ·exact h
  refine⟨_,_,Q1 (pre:=[]) h3 rfl hx hxl hq MX.ne,rfl,rfl,?_,fun y hy h=>?_⟩
  ·exact aU _ (by simp only[aR])
  ·rcases h with h|h
   ·cases h
   ·simp only[cn]at h
    rw[ak (by simp only[aR];omega),bg h.ne]
def Mf(y z p o i e:Nat)(hv:Nat→U):Prop:=NE y z∧NE y p∧NE y o∧NE y i∧NE y e∧∀k,k<4→wZ (hv k) (.sl y 0 0 1)
theorem sb.low{n0:Nat}{I:af}{b:Bk}{p o i e z:Nat}{hv:Nat→U}(h:sb n0 I b p o i e hv)(hz:n0≤z){y:Nat}(hy:y<n0):Mf y z p o i e hv:=by
 have:=h.lo
 refine⟨aD,aD,aD,aD,aD,fun k hk=>?_⟩
 rcases h.hd k hk with⟨h1,_⟩|⟨q,h1,h2,_⟩
 ·exact .inl h1
 ·rw[h1];exact .inr (.inr Es)
theorem Ae(I:af)(n0 z:Nat)(b:Bk)(p o i e:Nat)(hv:Nat→U)(a:Int)(hz:n0≤z∧z<I.n)(gz:I.get z=some ⟨zn b p o i e hv,true⟩)(hb:sb n0 I b p o i e hv)(BT:NE z p∧NE z o∧NE z i∧NE z e∧∀k,k<4→wZ (hv k) (.sl z 0 0 1))(gF:∀k,k<4→b.aj k=[]→hv k= .al)(hs:dW b)(di:cm b)(h:0≤a∧a<b.owner.length):
 Fn Tryz.prog 273 [.ptr z 0,.int .i64 a] I fun x R=>x= .cw []∧(∀y,y<I.n→Mf y z p o i e hv→R.get y=I.get y)∧I.n≤R.n∧BH R z (ej b a):=by
 generalize hG:(fun(x:U) (R:af)=>x=U.cw []∧(∀y,y<I.n→Mf y z p o i e hv→R.get y=I.get y)∧I.n≤R.n∧BH R z (ej b a))=GG
 have gR:=hb.v
 have:=And.intro gR.p.aQ (And.intro gR.h0.aQ (And.intro gR.h1.aQ (And.intro gR.h2.aQ (And.intro gR.h3.aQ (And.intro gR.o.aQ (And.intro gR.i.aQ gR.e.aQ))))))
 obtain⟨l1,l2,l3,l4,l5,l6,l7,l8⟩:=this
 obtain⟨vp,_,_,_,_,vo,vi,ve⟩:=id gR
 obtain⟨d1,d2,d3,d4,d5,d6⟩:=hb.nd
 obtain⟨z1,z2,z3,z4,z5⟩:=id BT
 have gi:=hb.gi
 have ge:=hb.ge
 have gp:=hb.gp
 have go:=hb.go
 have rX:=hb.lo
 have uA:=hb.hi
 have EG:b.owner.length=b.ah.length*8:=di.1.1.2.2.2.2.2.2
 have dO:b.ah.length≤6:=di.1.1.2.2.2.2.2.1
 obtain⟨a1,a2⟩:=h
 have YD:=hs.p.2 (a/8)
 obtain⟨pg,kr⟩:∃pg:Nat,a/8=pg:=⟨(a/8).toNat,J⟩
 have JE:pg<b.ah.length:=J
 have QA:¬(b.ah.length:Int)≤pg:=J
 obtain⟨c,hc⟩:∃c,at_ b.ah pg=c:=⟨_,rfl⟩
 rw[kr,hc]at YD
 refine bA mf mixed Tryz.func273 (by kernel_rfl) rfl (by kernel_rfl) ?_
 by_cases hk:1≤c∧c≤4
 rotate_left
 ·have Z0:(decide (1≤c)&&decide (c≤4))=false:=by
   rw[Bool.and_eq_false_iff,decide_eq_false_iff_not,decide_eq_false_iff_not];omega
  have eT:ej b a={b with owner:=put b.owner a 0,ah:=gD b.ah pg 0 (c-8).toNat}:=by
   unfold ej;dsimp only;rw[kr,hc,if_pos (by have:=dI c;omega)]
  rw[eT]at hG
  have Jp:c≤8∨(c-8≤4∧pg+(c-8)≤b.ah.length):=by
   by_cases h8:c≤8
   ·exact .inl h8
   ·have hp:=di.2.2 pg J J
    unfold ic at hp
    rw[hc,if_neg J,if_neg (fun hh=>hk ((dI c).1 hh)),if_neg J]at hp
    have:=hp.1
    rw[hc]at this
    omega
  simp+contextual (maxSteps:=1000000) (disch:=first|exact dB|fail) [go_sem,int_lt,-Int.not_le,-Int.not_lt,-List.map_set,mf,gz,go,kr,hc,QA,Z0,Int.tdiv_eq_ediv_of_nonneg]
  (repeat refine Alt.mk ?_)
  refine aC (fun R_ env R=>∃(k:Nat),env 0= .ptr z 0∧env 4= .ptr I.n 0∧env 27= .int .i64 (c-8)∧env 28= .int .i64 k∧R_ ((c-8-k).toNat)∧(k=0∨(k:Int)≤c-8)∧(R.get z=some ⟨zn b p o i e hv,true⟩)∧(R.get p=some ⟨(gD b.ah pg 0 k).map (.int .i64),true⟩)∧(R.get o=some ⟨(put b.owner a 0).map (.int .i64),true⟩)∧(R.get I.n=some ⟨[.int .i64 pg],true⟩)∧(I.n+1≤R.n)∧((∀y,y<I.n→NE y p→NE y o→R.get y=I.get y))) (by rintro R_ env R ⟨k,e0,e4,Xq,Xr,cz,uV,zV,zU,xG,rc,hn,hf⟩;exact⟨_,cz,k,e0,e4,Xq,Xr,rfl,uV,zV,zU,xG,rc,hn,hf⟩) ⟨0,aq,aq,aq,aq,trivial,?_,?_,?_,?_,?_,?_,?_⟩ ?_
  rotate_left 7
  rintro m_ env R ⟨k,e0,e4,Xq,Xr,rfl,uV,zV,zU,xG,rc,hn,hf⟩
  ·have hlen:=eL b.ah pg 0 k
   by_cases Qo:(k:Int)<c-8
   ·have Qp:¬c-8≤(k:Int):=J
    have k1:0≤(pg:Int)+k:=J
    have k2:(pg:Int)+k<b.ah.length:=J
    clear hG
    simp+contextual (maxSteps:=1000000) (disch:=first|exact dB|fail) [go_sem,int_lt,-Int.not_le,-Int.not_lt,-List.map_set,mf,e0,e4,Xq,Xr,Qp,zV,zU,rc,hlen,k1]
    (repeat refine Alt.mk ?_)
    exact⟨k+1,J,J,J,rfl,xG,hn,hf⟩
   ·have Qp:c-8≤(k:Int):=J
    have MZ:(c-8).toNat=k:=J
    rw[MZ]at hG
    have fi:GG (.cw []) R:=by
     rw[←hG]
     refine⟨rfl,fun y hy ho=>hf y hy ho.2.1 ho.2.2.1,J,BH.of (n0:=n0) (p:=p) (o:=o) (i:=i) (e:=e) (hv:=hv) (hb.Nv (fun k _=>rfl) J zU xG ((hf i uA.2.2.1 d2.sym d4.sym).trans gi) ((hf e uA.2.2.2 d3.sym d5.sym).trans ge) fun k hk q0 q1 q2 q3 q4 q5=>hf _ q5 q1 q2) ?_⟩
     simp only[zn,aF,eL];exact zV
    clear hG
    simp+contextual (maxSteps:=1000000) (disch:=first|exact dB|fail) [go_sem,int_lt,-Int.not_le,-Int.not_lt,-List.map_set,mf,e0,e4,Xq,Xr,Qp]
    (repeat refine Alt.mk ?_)
    exact fi
  ·exact .inl rfl
  ·(first|exact bn|fail)
  ·(first|exact bn|fail)
  ·(first|exact bn|fail)
  ·(first|exact bn|fail)
  ·simp only[au,az];omega
  ·intro y y1 y2 y3;(first|exact bn|fail)
 obtain⟨K,hK⟩:∃K:Nat,c=(K:Int)+1:=⟨(c-1).toNat,J⟩
 have qe:K<4:=J
 have Jd:¬4≤(K:Int):=J
 have sf:ch c=K:=by unfold ch;rw[if_neg J];omega
 have Uo:=hk.1
 have uV:=hk.2
 obtain⟨v,mJ,fw⟩:=jS gR qe
 have hvK:v=hv K:=by
  have:K=0∨K=1∨K=2∨K=3:=J
  rcases this with rfl|rfl|rfl|rfl<;>(cases mJ;rfl)
 subst hvK
 have uW:=nI (s:= .int .i64 b.am) (pv:= .sl p 0 b.ah.length 1) (ov:= .sl o 0 b.owner.length 1) (iv:= .sl i 0 b.cy.length 1) (ev:= .sl e 0 b.ao.length 1) qe mJ
 have tq:=qA uW
 have ln:=fun v=> @xF (.int .i64 b.am) (.sl p 0 b.ah.length 1) (.sl o 0 b.owner.length 1) (.sl i 0 b.cy.length 1) (.sl e 0 b.ao.length 1) v hv K qe
 obtain⟨b2,eX⟩:∃b2:Bk,b2={b with owner:=put b.owner a 0,aj:=cE b.aj K (a::b.aj K)}:=⟨_,rfl⟩
 have P_:b2.am=b.am:=by rw[eX]
 have aag:b2.ah=b.ah:=by rw[eX]
 have MP:b2.owner=put b.owner a 0:=by rw[eX]
 have T7:b2.cy=b.cy:=by rw[eX]
 have T6:b2.ao=b.ao:=by rw[eX]
 have T5:b2.aj K=a::b.aj K:=by rw[eX];simp[cE]
 have aaf:∀k,k≠K→b2.aj k=b.aj k:=fun k hk=>by rw[eX];simp[cE,hk]
 have aeC:=f_ di hs K qe
 have eT:ej b a=if dz b2 pg 0 then {b2 with ah:=put b.ah pg 0,aj:=cE b.aj K ((a::b.aj K).filter fun x=>decide (x/8≠(pg:Int)))}else b2:=by
  unfold ej
  dsimp only
  rw[kr,hc,sf,if_neg J]
  simp only[Int.toNat_natCast]
  have e1:dz {b with owner:=put b.owner a 0} pg 0↔dz b2 pg 0:=by rw[eX];exact Iff.rfl
  by_cases hf:dz b2 pg 0
  ·rw[if_pos hf,if_pos (e1.2 hf),eX]
  ·rw[if_neg hf,if_neg (fun hh=>hf (e1.1 hh)),eX]
 rw[eT]at hG
 clear eT
 rw[hK]at hc Uo uV
 have Jm:(K:Int)+1-1=K:=J
 simp+contextual (maxSteps:=1000000) (disch:=first|exact dB|fail) [go_sem,int_lt,-Int.not_le,-Int.not_lt,-List.map_set,mf,gz,go,kr,hc,QA,Uo,uV,Jd,uW,tq,ln,Int.tdiv_eq_ediv_of_nonneg]
 (repeat refine Alt.mk ?_)
 refine bb (fun σ1=>σ1.n=I.n+2∧(∀y,y<I.n→NE y o→σ1.get y=I.get y)∧σ1.get o=some ⟨(put b.owner a 0).map (.int .i64),true⟩∧σ1.get I.n=some ⟨[.int .i64 pg],true⟩∧σ1.get (I.n+1)=some ⟨[.int .i64 a],true⟩) ?_ ?_
 ·exact⟨by simp only[au,az],fun y y1 y2=>by(first|exact bn|fail),aI,aI,aI⟩
 rintro σ1 ⟨x1,x2,x3,x4,x5⟩
 have hdK:=hb.hd K qe
 have T4:=hb.ha K qe
 have hzK:=z5 K qe
 have Db:hv K= .al∨cn (hv K)<I.n:=by
  rcases hdK with⟨h1,_⟩|⟨q,h1,_,h3,_⟩
  ·exact .inl h1
  ·right;rw[h1];exact h3
 have aax:uD n0 σ1 (hv K) (b.aj K):=hdK.frame J fun h0 h1 h2=>x2 _ h2 (T4.2.1.ne h0)
 refine aw (Nh σ1 n0 (hv K) (b.aj K) (I.n+1) a aax (gF K qe) J x5 (Db.imp id fun h=>by simp only[NE];omega)) ?_
 rintro y R hn ⟨rfl,t1,t2,t3⟩
 have kp:∀y,y<I.n+2→wZ (hv K) (.sl y 0 0 1)→R.get y=σ1.get y:=fun y y1 y2=>t3 y J (by
  rcases y2 with h|h|h
  ·exact .inl h
  ·cases h
  ·exact .inr h.sym)
 have y1:R.get z=some ⟨zn b p o i e hv,true⟩:=by rw[kp z J hzK,x2 z hz.2 z2];exact gz
 have y2:R.get p=some ⟨b.ah.map (.int .i64),true⟩:=by rw[kp p J T4.1,x2 p uA.1 d1];exact gp
 have y3:R.get o=some ⟨(put b.owner a 0).map (.int .i64),true⟩:=by rw[kp o J T4.2.1];exact x3
 have y4:R.get i=some ⟨b.cy.map (.int .i64),true⟩:=by rw[kp i J T4.2.2.1,x2 i uA.2.2.1 d4.sym];exact gi
 have y5:R.get e=some ⟨b.ao.map (.int .i64),true⟩:=by rw[kp e J T4.2.2.2,x2 e uA.2.2.2 d5.sym];exact ge
 have y6:R.get I.n=some ⟨[.int .i64 pg],true⟩:=by
  rw[kp I.n J (by
   rcases Db with h|h
   ·exact .inl h
   ·exact .inr (.inr (by show cn (hv K)≠I.n;omega)))];exact x4
 have hbK:∀k,k<4→k≠K→uD n0 R (hv k) (b.aj k):=fun k hk MY=>(hb.hd k hk).frame J fun h0 h1 h2=>by
  rw[kp _ J (by
   rcases hb.hs k K hk qe MY with h|h|h
   ·exact absurd h h0
   ·exact .inl h
   ·exact .inr (.inr h.sym)),x2 _ h2 ((hb.ha k hk).2.1.ne h0)]
 have rY:∀y,y<I.n→Mf y z p o i e hv→R.get y=I.get y:=fun y hy ho=>by
  rw[kp y J (ho.2.2.2.2.2 K qe),x2 y hy ho.2.2.1]
 obtain⟨w,hw⟩:∃w,w=U.sl σ1.n 0 ((b.aj K).length+1) 1:=⟨_,rfl⟩
 have UN:ey w:=by rw[hw];exact kO _ _ _ _
 have hwv:bu .i64 R w (b2.aj K):=by rw[hw,T5];exact bf J t2 aV
 have O':NE (cn w) z:=by rw[hw];simp only[NE,cn];omega
 have hBV:∀τ',(∀y,NE y z→τ'.get y=R.get y)→τ'.n=R.n→fb τ' b2 (.sl p 0 b.ah.length 1) (gh hv K w 0) (gh hv K w 1) (gh hv K w 2) (gh hv K w 3) (.sl o 0 b.owner.length 1) (.sl i 0 b.cy.length 1) (.sl e 0 b.ao.length 1):=fun τ' h1 h2=>by
  have key:∀k,k<4→bu .i64 τ' (gh hv K w k) (b2.aj k):=fun k hk=>by
   unfold gh
   by_cases ek:k=K
   ·rw[if_pos ek,ek,T5,hw]
    exact bf J (by rw[h1 _ aD];exact t2) aV
   ·rw[if_neg ek,aaf k ek]
    exact((hbK k hk ek).frame J fun h0 _ _=>h1 _ ((z5 k hk).ne h0)).v
  refine⟨?_,key 0 J,key 1 J,key 2 J,key 3 J,?_,?_,?_⟩
  ·rw[aag];exact bf J (by rw[h1 p z1.sym];exact y2) rfl
  ·rw[MP];exact bf J (by rw[h1 o z2.sym];exact y3) IS
  ·rw[T7];exact bf J (by rw[h1 i z3.sym];exact y4) rfl
  ·rw[T6];exact bf J (by rw[h1 e z4.sym];exact y5) rfl
 rw[←hw]
 clear t3 x2 x3 x4 x5 uW tq
 simp+contextual (maxSteps:=1000000) (disch:=first|exact dB|fail) [go_sem,int_lt,-Int.not_le,-Int.not_lt,-List.map_set,mf,y1,y6,Jd,ln,Jm]
 (repeat refine Alt.mk ?_)
 have hSm:dW b2:=by
  rw[eX]
  exact⟨hs.s,hs.p,jJ hs.h (.of bX (by
   intro x hx
   rcases List.mem_cons.1 hx with rfl|hx
   ·omega
   ·exact(hs.h _).mem x hx)),hs.o.put _ J,hs.i,hs.e⟩
 refine bb (fun τz=>(∀y,NE y z→τz.get y=R.get y)∧τz.n=R.n∧τz.get z=some ⟨[.int .i64 b.am,.sl p 0 b.ah.length 1,gh hv K w 0,gh hv K w 1,gh hv K w 2,gh hv K w 3,.sl o 0 b.owner.length 1,.sl i 0 b.cy.length 1,.sl e 0 b.ao.length 1],true⟩) ?_ ?_
 ·exact⟨fun y y1=>ai y1.ne,rfl,aI⟩
 rintro τz ⟨w1,w2,w3⟩
 have hob:b2.owner.length=b.owner.length:=by rw[MP,aF]
 have PY:=hBV τz w1 w2
 rw[←P_]
 refine aw (qG τz b2 _ _ _ _ _ _ _ _ (pg*8) (pg*8+8) PY hSm ⟨J,J,J,J⟩) ?_
 rintro x τ3 Dk ⟨rfl,abz⟩
 have abA:=abz.symm
 subst abA
 have BP:fM b2 (pg*8) (pg*8+8)=0↔dz b2 pg 0:=by
  rw[jl b2 J J]
  constructor
  ·intro h u u1 u2 hu
   have:=h (pg*8+u) J J
   omega
  ·intro h u u1 u2
   have h1:=h (u-pg*8) J J
   have h2:=di.1.2.2 u J J
   rw[show(pg:Int)*8+(u-pg*8)=u by omega]at h1
   rw[MP,ik]at h1⊢
   split at h1
   ·rename_i hh;rw[if_pos hh]
   ·rename_i hh;rw[if_neg hh];omega
 obtain⟨N,hN⟩:∃N,fM b2 (pg*8) (pg*8+8)=N:=⟨_,rfl⟩
 rw[hN]at BP⊢
 by_cases XO:N=0
 rotate_left
 ·have fi:GG (.cw []) τz:=by
   rw[←hG,if_neg (fun h=>XO (BP.2 h))]
   exact⟨rfl,fun y hy ho=>by rw[w1 y ho.1];exact rY y hy ho,J,⟨_,_,_,_,_,_,_,_,by rw[P_];exact w3,PY⟩⟩
  clear hG
  simp+contextual (maxSteps:=1000000) (disch:=first|exact dB|fail) [go_sem,int_lt,-Int.not_le,-Int.not_lt,-List.map_set,mf,XO]
  (repeat refine Alt.mk ?_)
  exact fi
 rw[if_pos (BP.1 XO)]at hG
 have om:=nI (s:= .int .i64 b.am) (pv:= .sl p 0 b.ah.length 1) (ov:= .sl o 0 b.owner.length 1) (iv:= .sl i 0 b.cy.length 1) (ev:= .sl e 0 b.ao.length 1) qe (yz (hv:=hv) (v:=w) qe)
 have JL:=qA om
 have abh:=fun u=> @D2 (.int .i64 b.am) (.sl p 0 b.ah.length 1) (.sl o 0 b.owner.length 1) (.sl i 0 b.cy.length 1) (.sl e 0 b.ao.length 1) w u hv K qe
 have Q2:=PY.h0.aQ
 have iu1:=PY.h1.aQ
 have iu2:=PY.h2.aQ
 have iu3:=PY.h3.aQ
 have y7:τz.get I.n=some ⟨[.int .i64 pg],true⟩:=(w1 I.n aD).trans y6
 simp+contextual (maxSteps:=1000000) (disch:=first|exact dB|fail) [go_sem,int_lt,-Int.not_le,-Int.not_lt,-List.map_set,mf,XO,w3,om,JL,Jd,Jm]
 (repeat refine Alt.mk ?_)
 subst hw
 refine aw (Nd τz σ1.n (.fn 281 [] [.ptr I.n 0]) (a::b.aj K) (fun x=>decide (IntKind.i64.wrap (x.tdiv 8)=(pg:Int))) J (by rw[w1 _ aD];exact t2) bX (fun τ' h1 h2=>Gq τ' pg I.n J (by rw[h1 _ aD];exact y7))) ?_
 rintro x τ5 Uy ⟨ys,hx,abB,JN,HJ⟩
 have hfl:((a::b.aj K).filter fun x=> !decide (IntKind.i64.wrap (x.tdiv 8)=(pg:Int)))=(a::b.aj K).filter fun x=>decide (x/8≠(pg:Int)):=by
  refine List.filter_congr fun x hx=>?_
  have hr:0≤x∧x<1000:=by
   rcases List.mem_cons.1 hx with rfl|hx
   ·omega
   ·have:=count_le di qe hx;omega
  rw[Int.tdiv_eq_ediv_of_nonneg hr.1,wrap_i64 J]
  by_cases h:x/8=(pg:Int)<;>simp[h]
 rw[hfl]at hx HJ
 obtain⟨fl,aaE⟩:∃fl,((a::b.aj K).filter fun x=>decide (x/8≠(pg:Int)))=fl:=⟨_,rfl⟩
 rw[aaE]at hx HJ hG
 have agV:fl.length≤ys.length:=by rw[←HJ,List.length_take];omega
 subst hx abB
 obtain⟨τ6,h6⟩:∃τ6,τ6=τz.set σ1.n ⟨ys.map (.int .i64),true⟩:=⟨_,rfl⟩
 rw[←h6]
 have g6n:τ6.n=τz.n:=by rw[h6];rfl
 have g6:∀y,NE y σ1.n→τ6.get y=τz.get y:=fun y hy=>by rw[h6];exact ai hy.ne
 have g6q:τ6.get σ1.n=some ⟨ys.map (.int .i64),true⟩:=by rw[h6];exact bo _ _
 clear h6
 have v3:=(g6 z aD).trans w3
 have v7:=(g6 I.n aD).trans y7
 have vp6:τ6.get p=some ⟨b.ah.map (.int .i64),true⟩:=by rw[g6 p aD,w1 p z1.sym];exact y2
 have vo6:τ6.get o=some ⟨(put b.owner a 0).map (.int .i64),true⟩:=by rw[g6 o aD,w1 o z2.sym];exact y3
 have vi6:τ6.get i=some ⟨b.cy.map (.int .i64),true⟩:=by rw[g6 i aD,w1 i z3.sym];exact y4
 have ve6:τ6.get e=some ⟨b.ao.map (.int .i64),true⟩:=by rw[g6 e aD,w1 e z4.sym];exact y5
 clear hBV PY
 have Gk:= @DZ .i64 b.ah pg 0 JE
 simp+contextual (maxSteps:=1000000) (disch:=first|exact dB|fail) [go_sem,int_lt,-Int.not_le,-Int.not_lt,-List.map_set,mf,v3,v7,vp6,Jd,abh,QA,Jm,Gk]
 (repeat refine Alt.mk ?_)
 rw[←hG]
 refine⟨rfl,fun y hy ho=>?_,bj,BH.mk' (K:=K) (hv:=hv) (w:= .sl σ1.n 0 fl.length 1) aI P_.symm ?_ ?_ ?_ ?_ ?_ fun k hk MY=>?_⟩
 ·rw[ai ho.2.1.ne,ai ho.1.ne,g6 y aD,w1 y ho.1];exact rY y hy ho
 ·exact bf bj aI (by simp only[aF])
 ·show bu _ _ _ b2.owner
  rw[MP];exact bf bj (by rw[ai d1.sym,ai z2.sym];exact vo6) IS
 ·show bu _ _ _ b2.cy
  rw[T7];exact bf bj (by rw[ai d2.sym,ai z3.sym];exact vi6) rfl
 ·show bu _ _ _ b2.ao
  rw[T6];exact bf bj (by rw[ai d3.sym,ai z4.sym];exact ve6) rfl
 ·show bu _ _ _ (cE b.aj K fl K)
  have e1:cE b.aj K fl K=fl:=by unfold cE;rw[if_pos rfl]
  rw[e1]
  have hq6:bu .i64 τ6 (.sl σ1.n 0 ys.length 1) ys:=bf J g6q rfl
  have:=bu.part (lo:=0) (n:=fl.length) hq6 J
  rw[List.drop_zero,HJ]at this
  exact(this.set (.inl il)).set (.inl il)
 ·show bu _ _ _ (cE b.aj K fl k)
  have e1:cE b.aj K fl k=b.aj k:=by unfold cE;rw[if_neg MY]
  rw[e1]
  exact((hbK k hk MY).frame bj fun h0 h1 h2=>by
   have q1:=(z5 k hk).ne h0
   have q2:=(hb.ha k hk).1.ne h0
   have q3:NE (cn (hv k)) σ1.n:=by
    rcases hb.hd k hk with⟨h,_⟩|⟨r,h,_,h3,_⟩
    ·exact absurd h h0
    ·rw[h];simp only[NE,cn];omega
   rw[ai q2.ne,ai q1.ne,g6 _ q3,w1 _ q1]).v
end AH
namespace AH
open Go Go.Proofs Ho
set_option maxRecDepth 20000
set_option maxHeartbeats 16000000
theorem mv(l:List Int)(v:Int):∀i:Int,0≤i→(cB l v i=[]∧dk l v i= -1)∨∃r,cB l v i=dk l v i::r∧0≤dk l v i:=by
 induction l with
 |nil=>intro i _;exact .inl ⟨rfl,rfl⟩
 |cons x l ih=>
  intro i hi
  unfold cB dk
  by_cases h:x=v
  ·rw[if_pos h,if_pos h];exact .inr ⟨_,rfl,hi⟩
  ·rw[if_neg h,if_neg h];exact ih (i+1) J
theorem Gs(I:af)(n0 z:Nat)(b:Bk)(p o i e:Nat)(hv:Nat→U)(slot:Int)(hz:n0≤z∧z<I.n)(gz:I.get z=some ⟨zn b p o i e hv,true⟩)(hb:sb n0 I b p o i e hv)(BT:NE z p∧NE z o∧NE z i∧NE z e∧∀k,k<4→wZ (hv k) (.sl z 0 0 1))(gF:∀k,k<4→b.aj k=[]→hv k= .al)(hs:dW b)(di:cm b):
 Fn Tryz.prog 274 [.ptr z 0,.int .i64 slot] I fun x R=>Fk n0 I R z (dX b slot) x:=by
 generalize hG:(fun(x:U) (R:af)=>Fk n0 I R z (dX b slot) x)=GG
 have gR:=hb.v
 have:=And.intro gR.p.aQ (And.intro gR.h0.aQ (And.intro gR.h1.aQ (And.intro gR.h2.aQ (And.intro gR.h3.aQ (And.intro gR.o.aQ (And.intro gR.i.aQ gR.e.aQ))))))
 obtain⟨l1,l2,l3,l4,l5,l6,l7,l8⟩:=this
 obtain⟨vp,_,_,_,_,vo,vi,ve⟩:=id gR
 obtain⟨d1,d2,d3,d4,d5,d6⟩:=hb.nd
 obtain⟨z1,z2,z3,z4,z5⟩:=id BT
 have gi:=hb.gi
 have rX:=hb.lo
 have uA:=hb.hi
 have uU:(b.cy.length:Int)=b.am:=di.1.1.2.2.1
 have M8:b.am≤4:=di.1.1.2.1
 refine bA oY mixed Tryz.func274 (by kernel_rfl) rfl (by kernel_rfl) ?_
 by_cases kL:HK b slot
 rotate_left
 ·have eT:dX b slot=(b,9,0):=by
   unfold dX
   by_cases h1:slot<0∨b.am≤slot
   ·rw[if_pos h1]
   ·rw[if_neg h1]
    by_cases h2:at_ b.cy slot=0
    ·rw[if_pos h2]
    ·exact absurd ⟨J,J,h2⟩ kL
  have fi:GG (.cw [.int .i64 9,.int .i64 0]) I:=by
   rw[←hG,eT];exact⟨rfl,fun y _=>rfl,J,fun h=>by rcases h with h|h<;>cases h⟩
  clear hG
  simp+contextual (maxSteps:=1000000) (disch:=first|exact dB|fail) [go_sem,int_lt,-Int.not_le,-Int.not_lt,-List.map_set,oY,gz,kL]
  (repeat refine Alt.mk ?_)
  exact fi
 obtain⟨i1,i2,i3⟩:=id kL
 have gG:slot<b.cy.length:=J
 by_cases pm:at_ b.cy slot=1
 ·have eT:dX b slot=(b,8,0):=by
   unfold dX;rw[if_neg J,if_neg i3,if_pos pm]
  have fi:GG (.cw [.int .i64 8,.int .i64 0]) I:=by
   rw[←hG,eT];exact⟨rfl,fun y _=>rfl,J,fun h=>by rcases h with h|h<;>cases h⟩
  clear hG
  simp+contextual (maxSteps:=1000000) (disch:=first|exact dB|fail) [go_sem,int_lt,-Int.not_le,-Int.not_lt,-List.map_set,oY,gz,kL,pm]
  (repeat refine Alt.mk ?_)
  exact fi
 simp+contextual (maxSteps:=1000000) (disch:=first|exact dB|fail) [go_sem,int_lt,-Int.not_le,-Int.not_lt,-List.map_set,oY,gz,kL,pm]
 (repeat refine Alt.mk ?_)
 refine aw (tE I b _ _ _ _ _ _ _ _ slot gR hs J) ?_
 rintro v R hn ⟨hd,hf⟩
 have y1:=(hf z hz.2).trans gz
 have iv:=hd.v.aQ
 rcases mv b.owner (slot+1) 0 J with⟨e1,e2⟩|⟨r,e1,e2⟩
 ·rw[e1]at hd
  have pK:bu .i64 R v []:=hd.v
  have eT:dX b slot=({b with cy:=put b.cy slot 0},0,0):=by
   unfold dX;rw[if_neg J,if_neg i3,if_neg pm,if_pos OJ]
  have XK:=(hf i uA.2.2.1).trans gi
  have fi:GG (.cw [.int .i64 0,.int .i64 0]) (R.set i ⟨(put b.cy slot 0).map (.int .i64),true⟩):=by
   rw[←hG,eT]
   have nY:sb n0 R b p o i e hv:=hb.Nv (fun k _=>rfl) hn ((hf p uA.1).trans hb.gp) ((hf o uA.2.1).trans hb.go) XK ((hf e uA.2.2.2).trans hb.ge) fun k hk q0 q1 q2 q3 q4 q5=>hf _ q5
   refine⟨rfl,fun y hy=>by rw[ai J];exact hf y J,bj,fun _=>BH.of (nY.Nv (b':={b with cy:=put b.cy slot 0}) (fun k _=>rfl) bj ?_ ?_ ?_ ?_ ?_) ?_⟩
   ·rw[ai d2.ne];exact nY.gp
   ·rw[ai d4.ne];exact nY.go
   ·exact bo _ _
   ·rw[ai d6.sym];exact nY.ge
   ·intro k hk q0 q1 q2 q3 q4 q5;exact ai q3.ne
   ·simp only[zn,aF];rw[ai z3.ne];exact y1
  clear hG
  simp+contextual (maxSteps:=1000000) (disch:=first|exact dB|fail) [go_sem,int_lt,-Int.not_le,-Int.not_lt,-List.map_set,oY,y1,XK]
  (repeat refine Alt.mk ?_)
  exact fi
 ·rw[e1]at hd
  have hr:=kz b.owner (slot+1) 0
  obtain⟨fx,hfx⟩:∃fx,dk b.owner (slot+1) 0=fx:=⟨_,rfl⟩
  rw[hfx]at hd e2 hr
  have hfo:gO b slot=fx:=hfx
  have eT:dX b slot=(ej b fx,10,fx):=by
   unfold dX;rw[if_neg J,if_neg i3,if_neg pm,hfo,if_neg J]
  have HG:=hd.v
  have tt:¬(fx::r).length≤0:=by simp
  have pf:at_ (fx::r) 0=fx:=rfl
  have Jy:0<((fx::r).length:Int):=by simp
  have nY:sb n0 R b p o i e hv:=hb.Nv (fun k _=>rfl) hn ((hf p uA.1).trans hb.gp) ((hf o uA.2.1).trans hb.go) ((hf i uA.2.2.1).trans gi) ((hf e uA.2.2.2).trans hb.ge) fun k hk q0 q1 q2 q3 q4 q5=>hf _ q5
  obtain⟨L,hL⟩:∃L,fx::r=L:=⟨_,rfl⟩
  rw[hL]at hd HG tt pf Jy
  simp+contextual (maxSteps:=1000000) (disch:=first|exact dB|fail) [go_sem,int_lt,-Int.not_le,-Int.not_lt,-List.map_set,oY,y1,tt,Jy,pf]
  (repeat refine Alt.mk ?_)
  intro _
  refine aw (Ae R n0 z b p o i e hv fx ⟨J,J⟩ y1 nY BT gF hs di J) ?_
  rintro x τ2 fz ⟨rfl,f1,f2,f3⟩
  have Db:∀k,k<4→hv k= .al∨cn (hv k)<I.n:=fun k hk=>by
   rcases hb.hd k hk with⟨h1,_⟩|⟨q,h1,_,h3,_⟩
   ·exact .inl h1
   ·right;rw[h1];exact h3
  have ahH:bu .i64 τ2 v L:=(hd.frame f2 fun h0 h1 h2=>f1 _ h2 ⟨aD,aD,aD,aD,aD,fun k hk=>by
   rcases Db k hk with h|h
   ·exact .inl h
   ·exact .inr (.inr (by show cn (hv k)≠cn v;omega))⟩).v
  have fi:GG (.cw [.int .i64 10,.int .i64 fx]) τ2:=by
   rw[←hG,eT]
   exact⟨rfl,fun y hy=>by rw[f1 y J (nY.low J hy),hf y J],J,fun _=>f3⟩
  clear hG HG
  simp+contextual (maxSteps:=1000000) (disch:=first|exact dB|fail) [go_sem,int_lt,-Int.not_le,-Int.not_lt,-List.map_set,oY,tt,Jy,pf]
  (repeat refine Alt.mk ?_)
  exact fi
end AH
namespace AH
open Go Go.Proofs Ho
set_option maxRecDepth 20000
set_option maxHeartbeats 16000000
theorem sb.frame{n0:Nat}{I R:af}{b:Bk}{p o i e:Nat}{hv:Nat→U}(h:sb n0 I b p o i e hv)(hn:I.n≤R.n)(hf:∀y,y<I.n→R.get y=I.get y):sb n0 R b p o i e hv:=by
 have:=h.hi
 exact h.Nv (fun k _=>rfl) hn ((hf p J).trans h.gp) ((hf o J).trans h.go) ((hf i J).trans h.gi) ((hf e J).trans h.ge) fun k hk q0 q1 q2 q3 q4 q5=>hf _ q5
theorem Fk.up{n0 z:Nat}{I σ1 R:af}{r:Bk×Int×Int}{x:U}(h:Fk n0 σ1 R z r x)(h0:n0≤I.n)(hn:I.n≤σ1.n)(hf:∀y,y<I.n→σ1.get y=I.get y):Fk n0 I R z r x:=
 ⟨h.1,fun y hy=>(h.2.1 y hy).trans (hf y J),by have:=h.2.2.1;omega,h.2.2.2⟩
theorem QS(I:af)(n0 z:Nat)(b:Bk)(p o i e:Nat)(hv:Nat→U)(op:Ho.Op)(hz:n0≤z∧z<I.n)(gz:I.get z=some ⟨zn b p o i e hv,true⟩)(hb:sb n0 I b p o i e hv)(BT:NE z p∧NE z o∧NE z i∧NE z e∧∀k,k<4→wZ (hv k) (.sl z 0 0 1))(gF:∀k,k<4→b.aj k=[]→hv k= .al)(hs:dW b)(di:cm b):
 Fn Tryz.prog 262 [.ptr z 0,.agg [.int .i64 op.kind,.int .i64 op.slot,.int .i64 op.a,.int .i64 op.b]] I fun x R=>Fk n0 I R z (kV b op) x:=by
 generalize hG:(fun(x:U) (R:af)=>Fk n0 I R z (kV b op) x)=GG
 have gR:=hb.v
 have:=And.intro gR.p.aQ (And.intro gR.h0.aQ (And.intro gR.h1.aQ (And.intro gR.h2.aQ (And.intro gR.h3.aQ (And.intro gR.o.aQ (And.intro gR.i.aQ gR.e.aQ))))))
 obtain⟨l1,l2,l3,l4,l5,l6,l7,l8⟩:=this
 obtain⟨d1,d2,d3,d4,d5,d6⟩:=hb.nd
 obtain⟨z1,z2,z3,z4,z5⟩:=id BT
 have rX:=hb.lo
 have uA:=hb.hi
 have uU:(b.cy.length:Int)=b.am:=di.1.1.2.2.1
 have Sj:(b.ao.length:Int)=b.am:=di.1.1.2.2.2.1
 have M8:b.am≤4:=di.1.1.2.1
 have EG:b.owner.length=b.ah.length*8:=di.1.1.2.2.2.2.2.2
 refine bA ff mixed Tryz.func262 (by kernel_rfl) rfl (by kernel_rfl) ?_
 obtain⟨σ1,gJ⟩:∃σ1,σ1=I.push ⟨[.int .i64 op.kind,.int .i64 op.slot,.int .i64 op.a,.int .i64 op.b],true⟩:=⟨_,rfl⟩
 have n1:σ1.n=I.n+1:=by rw[gJ];rfl
 have f1:∀y,y<I.n→σ1.get y=I.get y:=fun y hy=>by rw[gJ];exact ak hy
 have lY:sb n0 σ1 b p o i e hv:=hb.frame J f1
 have aan:=lY.v
 have xB:=(f1 z hz.2).trans gz
 have td:σ1.get I.n=some ⟨[.int .i64 op.kind,.int .i64 op.slot,.int .i64 op.a,.int .i64 op.b],true⟩:=by rw[gJ];exact aU _ rfl
 have fin:∀(r:Bk×Int×Int) (x:U) (R:af),kV b op=r→Fk n0 σ1 R z r x→GG x R:=fun r x R h1 h2=>by
  rw[←hG,h1];exact h2.up J J f1
 have fail:∀(c:Int),kV b op=(b,c,0)→¬(c=0∨c=10)→GG (.cw [.int .i64 c,.int .i64 0]) σ1:=fun c h1 h2=>fin _ _ _ h1 ⟨rfl,fun y _=>rfl,J,fun h=>absurd h h2⟩
 clear hG
 by_cases gG:0≤op.slot∧op.slot≤b.am-1
 rotate_left
 ·have fi:=fail 13 (by unfold kV;rw[if_pos J]) J
  by_cases c1:0≤op.slot
  ·have c2:¬op.slot≤b.am-1:=fun h=>gG ⟨c1,h⟩
   simp+contextual (maxSteps:=1000000) (disch:=first|exact dB|fail) [go_sem,int_lt,-Int.not_le,-Int.not_lt,-List.map_set,ff,←gJ,xB,td,c1,c2]
   (repeat refine Alt.mk ?_)
   exact fi
  ·simp+contextual (maxSteps:=1000000) (disch:=first|exact dB|fail) [go_sem,int_lt,-Int.not_le,-Int.not_lt,-List.map_set,ff,←gJ,xB,td,c1]
   (repeat refine Alt.mk ?_)
   exact fi
 obtain⟨c1,c2⟩:=gG
 have Ya:¬(op.slot<0∨b.am≤op.slot):=J
 by_cases k1:op.kind=1
 ·have eT:kV b op=lV b op.slot:=by unfold kV lV;rw[if_neg Ya,if_pos k1]
  rw[k1]at gJ td
  simp+contextual (maxSteps:=1000000) (disch:=first|exact dB|fail) [go_sem,int_lt,-Int.not_le,-Int.not_lt,-List.map_set,ff,←gJ,xB,td,c1,c2,k1]
  (repeat refine Alt.mk ?_)
  refine aw (Dv σ1 n0 z b p o i e hv op.slot ⟨J,J⟩ xB lY ⟨z1,z2,z3,z4,z5⟩ hs ⟨uU,Sj⟩ ⟨J,J⟩) ?_
  rintro x R hn hX
  have fi:=fin _ _ _ eT hX
  rw[hX.1]at fi⊢
  simp+contextual (maxSteps:=1000000) (disch:=first|exact dB|fail) [go_sem,int_lt,-Int.not_le,-Int.not_lt,-List.map_set,ff]
  (repeat refine Alt.mk ?_)
  exact fi
 by_cases kL:HK b op.slot
 rotate_left
 ·have OZ:at_ b.cy op.slot=0:=Classical.byContradiction fun h=>kL ⟨c1,J,h⟩
  have fi:=fail 9 (by unfold kV;rw[if_neg Ya,if_neg k1,if_pos OZ]) J
  simp+contextual (maxSteps:=1000000) (disch:=first|exact dB|fail) [go_sem,int_lt,-Int.not_le,-Int.not_lt,-List.map_set,ff,←gJ,xB,td,c1,c2,k1,kL]
  (repeat refine Alt.mk ?_)
  exact fi
 have OZ:¬at_ b.cy op.slot=0:=kL.2.2
 have eD:kV b op=eH b op:=by unfold kV;rw[if_neg Ya,if_neg k1,if_neg OZ]
 rw[eD]at fin fail
 by_cases k2:op.kind=2
 ·have eT:eH b op=cI b op.slot op.a:=by unfold eH;rw[if_pos k2]
  rw[k2]at gJ td
  simp+contextual (maxSteps:=1000000) (disch:=first|exact dB|fail) [go_sem,int_lt,-Int.not_le,-Int.not_lt,-List.map_set,ff,←gJ,xB,td,c1,c2,k2,kL]
  (repeat refine Alt.mk ?_)
  refine aw (Gu σ1 n0 z b p o i e hv op.slot op.a ⟨J,J⟩ xB lY BT gF hs di ⟨J,J⟩) ?_
  rintro x R hn hX
  have fi:=fin _ _ _ eT hX
  rw[hX.1]at fi⊢
  simp+contextual (maxSteps:=1000000) (disch:=first|exact dB|fail) [go_sem,int_lt,-Int.not_le,-Int.not_lt,-List.map_set,ff]
  (repeat refine Alt.mk ?_)
  exact fi
 obtain⟨w,hw⟩:∃w,fU b op.slot op.a=w:=⟨_,rfl⟩
 have HH:w=0∨w=3∨w=4:=by unfold fU at hw;(repeat' split at hw)<;>omega
 have P9:w=0→0≤op.a∧op.a<b.owner.length:=fun h=>ki (b:=b) (a:=op.a) (fun hr=>by unfold fU at hw;rw[if_pos hr]at hw;omega)
 by_cases k3:op.kind=3
 ·by_cases mu:w=0
  ·have eT:eH b op=(ej b op.a,0,0):=by unfold eH;rw[if_neg k2,if_pos k3,hw,if_neg J]
   rw[k3]at gJ td
   simp+contextual (maxSteps:=1000000) (disch:=first|exact dB|fail) [go_sem,int_lt,-Int.not_le,-Int.not_lt,-List.map_set,ff,←gJ,xB,td,c1,c2,k3,kL,hw,mu]
   (repeat refine Alt.mk ?_)
   refine aw (Ae σ1 n0 z b p o i e hv op.a ⟨J,J⟩ xB lY BT gF hs di (P9 mu)) ?_
   rintro x R hn ⟨rfl,t1,t2,t3⟩
   have fi:=fin _ (.cw [.int .i64 0,.int .i64 0]) R eT ⟨rfl,fun y hy=>t1 y J (lY.low J hy),t2,fun _=>t3⟩
   simp+contextual (maxSteps:=1000000) (disch:=first|exact dB|fail) [go_sem,int_lt,-Int.not_le,-Int.not_lt,-List.map_set,ff]
   (repeat refine Alt.mk ?_)
   exact fi
  ·have fi:=fail w (by unfold eH;rw[if_neg k2,if_pos k3,hw,if_pos J]) J
   rw[k3]at gJ td
   simp+contextual (maxSteps:=1000000) (disch:=first|exact dB|fail) [go_sem,int_lt,-Int.not_le,-Int.not_lt,-List.map_set,ff,←gJ,xB,td,c1,c2,k3,kL,hw,mu]
   (repeat refine Alt.mk ?_)
   exact fi
 by_cases k4:op.kind=4
 ·by_cases mu:w=0
  rotate_left
  ·have fi:=fail w (by unfold eH;rw[if_neg k2,if_neg k3,if_pos k4,hw,if_pos J]) J
   rw[k4]at gJ td
   simp+contextual (maxSteps:=1000000) (disch:=first|exact dB|fail) [go_sem,int_lt,-Int.not_le,-Int.not_lt,-List.map_set,ff,←gJ,xB,td,c1,c2,k4,kL,hw,mu]
   (repeat refine Alt.mk ?_)
   exact fi
  by_cases HC:HK b op.b
  rotate_left
  ·have fi:=fail 5 (by
    unfold eH;rw[if_neg k2,if_neg k3,if_pos k4,hw,if_neg J]
    by_cases h1:op.b<0∨b.am≤op.b
    ·rw[if_pos h1]
    ·rw[if_neg h1,if_pos (Classical.byContradiction fun h=>HC ⟨J,J,h⟩)]) J
   rw[k4]at gJ td
   simp+contextual (maxSteps:=1000000) (disch:=first|exact dB|fail) [go_sem,int_lt,-Int.not_le,-Int.not_lt,-List.map_set,ff,←gJ,xB,td,c1,c2,k4,kL,hw,mu,HC]
   (repeat refine Alt.mk ?_)
   exact fi
  ·obtain⟨b1,b2,b3⟩:=id HC
   have eT:eH b op=({b with owner:=put b.owner op.a (op.b+1)},0,0):=by
    unfold eH;rw[if_neg k2,if_neg k3,if_pos k4,hw,if_neg J,if_neg J,if_neg b3]
   obtain⟨a1,a2⟩:=P9 mu
   have go1:=lY.go
   have fi:=fin _ (.cw [.int .i64 0,.int .i64 0]) (σ1.set o ⟨(put b.owner op.a (op.b+1)).map (.int .i64),true⟩) eT ⟨rfl,fun y hy=>ai J,Nat.le_refl _,fun _=>BH.of (lY.Nv (b':={b with owner:=put b.owner op.a (op.b+1)}) (fun k _=>rfl) (Nat.le_refl _) (by rw[ai d1.ne];exact lY.gp) (bo _ _) (by rw[ai d4.sym];exact lY.gi) (by rw[ai d5.sym];exact lY.ge) fun k hk q0 q1 q2 q3 q4 q5=>ai q2.ne) (by simp only[zn,aF];rw[ai z2.ne];exact xB)⟩
   rw[k4]at gJ td
   simp+contextual (maxSteps:=1000000) (disch:=first|exact dB|fail) [go_sem,int_lt,-Int.not_le,-Int.not_lt,-List.map_set,ff,←gJ,xB,td,c1,c2,k4,kL,hw,mu,HC,go1]
   (repeat refine Alt.mk ?_)
   exact fi
 by_cases k5:op.kind=5
 ·rw[k5]at gJ td
  simp+contextual (maxSteps:=1000000) (disch:=first|exact dB|fail) [go_sem,int_lt,-Int.not_le,-Int.not_lt,-List.map_set,ff,←gJ,xB,td,c1,c2,k5,kL]
  (repeat refine Alt.mk ?_)
  refine aw (tE σ1 b _ _ _ _ _ _ _ _ op.slot aan hs J) ?_
  rintro v R hn ⟨hd,hf⟩
  have y1:=(hf z J).trans xB
  have y2:=(hf I.n J).trans td
  have nY:=lY.frame hn hf
  have XK:=nY.gi
  have iv:=hd.v.aQ
  have HG:=hd.v
  rcases mv b.owner (op.slot+1) 0 J with⟨e1,e2⟩|⟨r,e1,e2⟩
  ·rw[e1]at hd HG
   have eT:eH b op=({b with cy:=put b.cy op.slot 0},0,0):=by
    unfold eH;rw[if_neg k2,if_neg k3,if_neg k4,if_pos k5,if_neg OJ]
   have hsi:op.slot<b.cy.length:=J
   have fi:=fin _ (.cw [.int .i64 0,.int .i64 0]) (R.set i ⟨(put b.cy op.slot 0).map (.int .i64),true⟩) eT ⟨rfl,fun y hy=>by rw[ai J];exact hf y J,hn,fun _=>BH.of (nY.Nv (b':={b with cy:=put b.cy op.slot 0}) (fun k _=>rfl) (Nat.le_refl _) (by rw[ai d2.ne];exact nY.gp) (by rw[ai d4.ne];exact nY.go) (bo _ _) (by rw[ai d6.sym];exact nY.ge) fun k hk q0 q1 q2 q3 q4 q5=>ai q3.ne) (by simp only[zn,aF];rw[ai z3.ne];exact y1)⟩
   simp+contextual (maxSteps:=1000000) (disch:=first|exact dB|fail) [go_sem,int_lt,-Int.not_le,-Int.not_lt,-List.map_set,ff,y1,y2,XK]
   (repeat refine Alt.mk ?_)
   exact fi
  ·rw[e1]at hd HG
   have tt:0<(dk b.owner (op.slot+1) 0::r).length:=by simp
   have fi:=fin (b,7,0) (.cw [.int .i64 7,.int .i64 0]) R (by unfold eH;rw[if_neg k2,if_neg k3,if_neg k4,if_pos k5,if_pos OJ]) ⟨rfl,fun y hy=>hf y J,hn,fun h=>by rcases h with h|h<;>cases h⟩
   obtain⟨L,hL⟩:∃L,dk b.owner (op.slot+1) 0::r=L:=⟨_,rfl⟩
   rw[hL]at hd HG tt
   simp+contextual (maxSteps:=1000000) (disch:=first|exact dB|fail) [go_sem,int_lt,-Int.not_le,-Int.not_lt,-List.map_set,ff,y1,y2,tt]
   (repeat refine Alt.mk ?_)
   exact fi
 by_cases k6:op.kind=6
 ·have eT:eH b op=dX b op.a:=by unfold eH;rw[if_neg k2,if_neg k3,if_neg k4,if_neg k5,if_pos k6]
  rw[k6]at gJ td
  simp+contextual (maxSteps:=1000000) (disch:=first|exact dB|fail) [go_sem,int_lt,-Int.not_le,-Int.not_lt,-List.map_set,ff,←gJ,xB,td,c1,c2,k6,kL]
  (repeat refine Alt.mk ?_)
  refine aw (Gs σ1 n0 z b p o i e hv op.a ⟨J,J⟩ xB lY BT gF hs di) ?_
  rintro x R hn hX
  have fi:=fin _ _ _ eT hX
  rw[hX.1]at fi⊢
  simp+contextual (maxSteps:=1000000) (disch:=first|exact dB|fail) [go_sem,int_lt,-Int.not_le,-Int.not_lt,-List.map_set,ff]
  (repeat refine Alt.mk ?_)
  exact fi
 ·have fi:=fail 13 (by unfold eH;rw[if_neg k2,if_neg k3,if_neg k4,if_neg k5,if_neg k6]) J
  simp+contextual (maxSteps:=1000000) (disch:=first|exact dB|fail) [go_sem,int_lt,-Int.not_le,-Int.not_lt,-List.map_set,ff,←gJ,xB,td,c1,c2,k1,k2,k3,k4,k5,k6,kL]
  (repeat refine Alt.mk ?_)
  exact fi
end AH
namespace AH
open Go Go.Proofs Ho
set_option maxRecDepth 20000
set_option maxHeartbeats 16000000
theorem tD(I:af)(b:Bk)(pv h0 h1 h2 h3 ov iv ev:U)(hb:fb I b pv h0 h1 h2 h3 ov iv ev)(hs:dW b)(zX:0<b.ah.length)(ho0:0<b.owner.length)(OZ:0<b.cy.length)(HA:0<b.ao.length):
 Fn Tryz.prog 261 [bV b pv h0 h1 h2 h3 ov iv ev] I fun x R=>∃p o i e hv,x=bI b p o i e hv∧sb I.n R b p o i e hv∧(∀j v,j<4→([h0,h1,h2,h3]:List U)[j]? =some v→v= .al→hv j= .al)∧(∀y,y<I.n→R.get y=I.get y):=by
 generalize hG:(fun(x:U) (R:af)=>∃p o i e hv,x=bI b p o i e hv∧sb I.n R b p o i e hv∧(∀j v,j<4→([h0,h1,h2,h3]:List U)[j]? =some v→v=U.al→hv j= .al)∧(∀y,y<I.n→R.get y=I.get y))=GG
 have:=And.intro hb.p.aQ (And.intro hb.h0.aQ (And.intro hb.h1.aQ (And.intro hb.h2.aQ (And.intro hb.h3.aQ (And.intro hb.o.aQ (And.intro hb.i.aQ hb.e.aQ))))))
 obtain⟨l1,l2,l3,l4,l5,l6,l7,l8⟩:=this
 refine bA me mixed Tryz.func261 (by kernel_rfl) rfl (by kernel_rfl) ?_
 simp+contextual (maxSteps:=1000000) (disch:=first|exact dB|fail) [go_sem,int_lt,-Int.not_le,-Int.not_lt,-List.map_set,me]
 (repeat refine Alt.mk ?_)
 refine bb (fun σ1=>σ1.n=I.n+3∧(∀y,y<I.n→σ1.get y=I.get y)∧σ1.get I.n=some ⟨[.int .i64 b.am,pv,h0,h1,h2,h3,ov,iv,ev],true⟩∧σ1.get (I.n+1)=some ⟨[.int .i64 0,.al,.al,.al,.al,.al,.al,.al,.al],true⟩∧σ1.get (I.n+2)=none) ?_ ?_
 ·exact⟨by simp only[au,az,dw],fp,aI,aI,by simp[kC,dw]⟩
 rintro σ1 ⟨x1,x2,x3,x4,x5⟩
 have lY:=hb.keeps (R:=σ1) x2 J
 refine aw (pL σ1 pv b.ah lY.p hs.p.1) ?_
 rintro x τ1 jq ⟨a1,_,a3⟩
 rcases a1 with⟨rfl,a1⟩|⟨p,rfl,a4,a5,a6⟩
 ·rw[a1]at zX;simp at zX
 have y3:=(a3 _ J).trans x3
 have y4:=(a3 _ J).trans x4
 have y5:=(a3 _ J).trans x5
 have eX:=lY.keeps (R:=τ1) a3 J
 simp+contextual (maxSteps:=1000000) (disch:=first|exact dB|fail) [go_sem,int_lt,-Int.not_le,-Int.not_lt,-List.map_set,me,y3,y4,y5]
 (repeat refine Alt.mk ?_)
 refine aw (pL τ1 ov b.owner eX.o hs.o.1) ?_
 rintro x τ2 fz ⟨b1,_,b3⟩
 rcases b1 with⟨rfl,b1⟩|⟨o,rfl,b4,b5,b6⟩
 ·rw[b1]at ho0;simp at ho0
 have z3:=(b3 _ J).trans y3
 have z4:=(b3 _ J).trans y4
 have z5:=(b3 _ J).trans y5
 have a7:=(b3 _ a5).trans a6
 have EB:=eX.keeps (R:=τ2) b3 J
 simp+contextual (maxSteps:=1000000) (disch:=first|exact dB|fail) [go_sem,int_lt,-Int.not_le,-Int.not_lt,-List.map_set,me,z3,z4,z5]
 (repeat refine Alt.mk ?_)
 refine aw (pL τ2 iv b.cy EB.i hs.i.1) ?_
 rintro x τ3 Dk ⟨c1,_,c3⟩
 rcases c1 with⟨rfl,c1⟩|⟨i,rfl,c4,c5,c6⟩
 ·rw[c1]at OZ;simp at OZ
 have w3:=(c3 _ J).trans z3
 have w4:=(c3 _ J).trans z4
 have w5:=(c3 _ J).trans z5
 have a8:=(c3 _ J).trans a7
 have b7:=(c3 _ b5).trans b6
 have T8:=EB.keeps (R:=τ3) c3 J
 simp+contextual (maxSteps:=1000000) (disch:=first|exact dB|fail) [go_sem,int_lt,-Int.not_le,-Int.not_lt,-List.map_set,me,w3,w4,w5]
 (repeat refine Alt.mk ?_)
 refine aw (pL τ3 ev b.ao T8.e hs.e.1) ?_
 rintro x τ4 Qx ⟨d1,_,d3⟩
 rcases d1 with⟨rfl,d1⟩|⟨e,rfl,d4,d5,d6⟩
 ·rw[d1]at HA;simp at HA
 have v3:=(d3 _ J).trans w3
 have v4:=(d3 _ J).trans w4
 have v5:=(d3 _ J).trans w5
 have a9:=(d3 _ J).trans a8
 have b8:=(d3 _ J).trans b7
 have c7:=(d3 _ c5).trans c6
 have T9:=T8.keeps (R:=τ4) d3 J
 have rY:∀y,y<I.n→τ4.get y=I.get y:=fun y hy=>by rw[d3 y J,c3 y J,b3 y J,a3 y J,x2 y hy]
 simp+contextual (maxSteps:=1000000) (disch:=first|exact dB|fail) [go_sem,int_lt,-Int.not_le,-Int.not_lt,-List.map_set,me,v3,v4,v5]
 (repeat refine Alt.mk ?_)
 refine⟨y3.symm,y3.trans z3.symm,z3.trans w3.symm,w3,y3.symm,y3.trans z3.symm,y3.symm,y3.trans z3.symm,z3.trans w3.symm,?_,y5.trans z5.symm,z5.trans w5.symm,w5,?_⟩
 ·rw[y5];simp[kC,dw]
 have fin:∀(R τ':af) (hv:Nat→U),yI τ4.n R b h0 h1 h2 h3 4 hv→τ4.n≤R.n→(∀y,y<τ4.n→NE y (I.n+2)→R.get y=τ4.get y)→R.n≤τ'.n→(∀y,y<R.n→NE y (I.n+1)→τ'.get y=R.get y)→GG (bI b p o i e hv) τ':=by
  intro R τ' hv hO h1 h2 h3 h4
  rw[←hG]
  have low:∀y,y<τ4.n→NE y (I.n+2)→NE y (I.n+1)→τ'.get y=τ4.get y:=fun y q1 q2 q3=>(h4 y J q3).trans (h2 y q1 q2)
  have bl:∀k,k<4→∀q n,q<τ4.n→wZ (hv k) (.sl q 0 n 1):=fun k hk q n hq=>by
   rcases hO.hd k hk with⟨h,_⟩|⟨r,h,hr,_⟩
   ·exact .inl h
   ·rw[h];exact .inr (.inr Es)
  refine⟨p,o,i,e,hv,rfl,⟨J,J,aD,?_,?_,?_,?_,fun k hk=>?_,fun k hk=>⟨bl k hk _ _ J,bl k hk _ _ J,bl k hk _ _ J,bl k hk _ _ J⟩,hO.hs⟩,fun j v hj=>hO.hz j v hj,fun y hy=>?_⟩
  ·rw[low p J aD aD];exact a9
  ·rw[low o J aD aD];exact b8
  ·rw[low i J aD aD];exact c7
  ·rw[low e J aD aD];exact d6
  ·exact((hO.hd k hk).low J).frame h3 fun pK q1 q2=>h4 _ q2 (by
    rcases hO.hd k hk with⟨h,_⟩|⟨r,h,hr,_⟩
    ·exact absurd h pK
    ·rw[h];simp only[NE,cn];omega)
  ·rw[low y J aD aD];exact rY y hy
 clear hG a9 b8 c7 d6 a8 b7 a7 eX EB T8 y3 y4 y5 z3 z4 z5 w3 w4 w5 a3 b3 c3 d3
 refine aC (fun R_ env R=>∃(k:Nat),∃(hv:Nat→U),env 2= .ptr (I.n+1) 0∧env 3= .ptr (I.n+2) 0∧env 22= .agg [h0,h1,h2,h3]∧env 23= .int .i64 k∧R_ (4-k)∧(k≤4)∧(R.get (I.n+2)=some ⟨zn b p o i e hv,true⟩)∧(R.get (I.n+1)=some ⟨[.int .i64 0,.al,.al,.al,.al,.al,.al,.al,.al],true⟩)∧(yI τ4.n R b h0 h1 h2 h3 k hv)∧(τ4.n≤R.n)∧((∀y,y<τ4.n→NE y (I.n+2)→R.get y=τ4.get y))) (by rintro R_ env R ⟨k,hv,e2,e3,TJ,TK,cz,hk,zV,L_,hO,hn,hf⟩;exact⟨_,cz,k,hv,e2,e3,TJ,TK,rfl,hk,zV,L_,hO,hn,hf⟩) ⟨0,fun _=> .al,aq,aq,aq,aq,trivial,?_,?_,?_,?_,?_,?_⟩ ?_
 rotate_left 6
 rintro m_ env R ⟨k,hv,e2,e3,TJ,TK,rfl,hk,zV,L_,hO,hn,hf⟩
 ·by_cases xJ:k<4
  ·have nY:=hb.keeps (R:=R) (fun y hy=>(hf y J aD).trans (rY y hy)) J
   obtain⟨v,mJ,fw⟩:=jS nY xJ
   have Sn:=tn xJ mJ
   have iv2:=fw.aQ
   have uV:¬4≤k:=J
   have Jt:¬4≤(k:Int):=J
   simp+contextual (maxSteps:=1000000) (disch:=first|exact dB|fail) [go_sem,int_lt,-Int.not_le,-Int.not_lt,-List.map_set,me,e2,e3,TJ,TK,uV,Jt,Sn]
   (repeat refine Alt.mk ?_)
   refine aw (pL R v (b.aj k) fw (hs.h k).1) ?_
   rintro v' τ5 Uy ⟨q1,q2,q3⟩
   have ln:=fun v=> @xF (.int .i64 b.am) (.sl p 0 b.ah.length 1) (.sl o 0 b.owner.length 1) (.sl i 0 b.cy.length 1) (.sl e 0 b.ao.length 1) v hv k xJ
   have g3:=(q3 _ J).trans zV
   have g1:=(q3 _ J).trans L_
   have iv3:=q1.v.aQ
   have eF:=hf
   clear zV L_ hf fw nY rY fin
   simp+contextual (maxSteps:=1000000) (disch:=first|exact dB|fail) [go_sem,int_lt,-Int.not_le,-Int.not_lt,-List.map_set,me,e2,e3,TJ,TK,g3,Jt,ln]
   (repeat refine Alt.mk ?_)
   exact⟨k+1,J,J,J,gh hv k v',rfl,rfl,rfl,rfl,by first|exact g1|(first|exact bn|fail),hO.next hn mJ q1 q2 q3 Uy (fun y y1 y2=>by(first|exact bn|fail)) rfl,J,fun y y1 y2=>by rw[q3 y J,eF y y1 y2]⟩
  ·have uV:4≤k:=J
   have Jt:4≤(k:Int):=J
   have MZ:k=4:=J
   subst MZ
   have f:=fun τ'=>fin R τ' hv hO hn hf
   have P':=And.intro (hO.hd 0 J).v.aQ (And.intro (hO.hd 1 J).v.aQ (And.intro (hO.hd 2 J).v.aQ (hO.hd 3 J).v.aQ))
   obtain⟨m0,m1,m2,m3⟩:=P'
   clear hf rY fin hO
   simp+contextual (maxSteps:=1000000) (disch:=first|exact dB|fail) [go_sem,int_lt,-Int.not_le,-Int.not_lt,-List.map_set,me,e2,e3,TJ,TK,zV,L_,uV,Jt]
   (repeat refine Alt.mk ?_)
   exact f _ bj fun y y1 y2=>by(first|exact bn|fail)
 ·omega
 ·(first|exact bn|fail)
 ·(first|exact bn|fail)
 ·exact⟨fun j hj=>by omega,fun j hj=>rfl,fun j k hj=>by omega,fun j v hj=>by omega⟩
 ·simp only[az];omega
 ·intro y y1 y2;(first|exact bn|fail)
end AH
namespace AH
open Go Go.Proofs Ho
set_option maxRecDepth 20000
set_option maxHeartbeats 16000000
theorem sb.ap{n0:Nat}{I:af}{b:Bk}{p o i e:Nat}{hv:Nat→U}(h:sb n0 I b p o i e hv){y:Nat}(hy:y<n0):B1 y (.sl p 0 b.ah.length 1) (hv 0) (hv 1) (hv 2) (hv 3) (.sl o 0 b.owner.length 1) (.sl i 0 b.cy.length 1) (.sl e 0 b.ao.length 1):=by
 have hl:=h.lo
 have key:∀k,k<4→fo (hv k) y:=fun k hk=>by
  rcases h.hd k hk with⟨h1,_⟩|⟨q,h1,h2,_⟩
  ·exact .inr h1
  ·rw[h1];exact .inl (by show q≠y;omega)
 exact⟨.inl (by show p≠y;omega),key 0 J,key 1 J,key 2 J,key 3 J,.inl (by show o≠y;omega),.inl (by show i≠y;omega),.inl (by show e≠y;omega)⟩
theorem D1(b:Bk)(s u:Int)(h0:(cI b s u).2.1≠0):cI b s u=(b,(cI b s u).2.1,0):=by
 unfold cI at*
 dsimp only at*
 (repeat' split)<;>simp_all
theorem DT(b:Bk)(s:Int)(h0:(dX b s).2.1≠0)(h1:(dX b s).2.1≠10):dX b s=(b,(dX b s).2.1,0):=by
 unfold dX at*
 (repeat' split)<;>simp_all
def Ei(b:Bk)(r:Bk×Int×Int):Prop:=r.2.1≠0→r.2.1≠10→r=(b,r.2.1,0)
theorem IX(b:Bk)(op:Ho.Op):Ei b (kV b op):=by
 have h2:Ei b (cI b op.slot op.a):=fun h _=>D1 b op.slot op.a h
 have h3:Ei b (dX b op.a):=DT b op.a
 unfold kV eH
 (repeat' split)<;>first|exact h2|exact h3|exact fun _ _=>rfl|exact fun h _=>absurd rfl h
theorem Du(I:af)(b:Bk)(pv h0 h1 h2 h3 ov iv ev:U)(op:Ho.Op)(hb:fb I b pv h0 h1 h2 h3 ov iv ev)(hs:dW b)(gF:∀k v,k<4→([h0,h1,h2,h3]:List U)[k]? =some v→b.aj k=[]→v= .al):
 Fn Tryz.prog 220 [bV b pv h0 h1 h2 h3 ov iv ev,.agg [.int .i64 op.kind,.int .i64 op.slot,.int .i64 op.a,.int .i64 op.b]] I fun x R=>ZA I R (d' b op) x:=by
 generalize hG:(fun(x:U) (R:af)=>ZA I R (d' b op) x)=GG
 have:=And.intro hb.p.aQ (And.intro hb.h0.aQ (And.intro hb.h1.aQ (And.intro hb.h2.aQ (And.intro hb.h3.aQ (And.intro hb.o.aQ (And.intro hb.i.aQ hb.e.aQ))))))
 obtain⟨l1,l2,l3,l4,l5,l6,l7,l8⟩:=this
 refine bA aZ mixed Tryz.func220 (by kernel_rfl) rfl (by kernel_rfl) ?_
 by_cases di:cm b
 rotate_left
 ·have hT:d' b op=(Bk.zero,13,0):=by unfold d';rw[if_neg di]
  have fi:∀R:af,(∀y,y<I.n→R.get y=I.get y)→I.n≤R.n→GG (.cw [.agg [.int .i64 0,.al,.al,.al,.al,.al,.al,.al,.al],.int .i64 13,.int .i64 0]) R:=fun R h1 h2=>by
   rw[←hG,hT]
   exact⟨.al,.al,.al,.al,.al,.al,.al,.al,rfl,⟨.nil,.nil,.nil,.nil,.nil,.nil,.nil,.nil⟩,h1,h2,fun y hy=>⟨.inr rfl,.inr rfl,.inr rfl,.inr rfl,.inr rfl,.inr rfl,.inr rfl,.inr rfl⟩⟩
  clear hG
  simp+contextual (maxSteps:=1000000) (disch:=first|exact dB|fail) [go_sem,int_lt,-Int.not_le,-Int.not_lt,-List.map_set,di]
  (repeat refine Alt.mk ?_)
  exact fi _ (by intro y hy;simp(disch:=first|omega|(simp only[au,az];omega)) only[ak,ai]) bc
 have hT:d' b op=kV b op:=by unfold d';rw[if_pos di]
 rw[hT]at hG
 have gG:=di.1.1
 have uX:=sd di hs op
 simp+contextual (maxSteps:=1000000) (disch:=first|exact dB|fail) [go_sem,int_lt,-Int.not_le,-Int.not_lt,-List.map_set,di]
 (repeat refine Alt.mk ?_)
 refine bb (fun σ1=>σ1.n=I.n+3∧(∀y,y<I.n→σ1.get y=I.get y)∧σ1.get I.n=some ⟨[.int .i64 b.am,pv,h0,h1,h2,h3,ov,iv,ev],true⟩∧σ1.get (I.n+1)=some ⟨[.int .i64 op.kind,.int .i64 op.slot,.int .i64 op.a,.int .i64 op.b],true⟩∧σ1.get (I.n+2)=some ⟨[.int .i64 0,.al,.al,.al,.al,.al,.al,.al,.al],true⟩) ?_ ?_
 ·exact⟨by simp only[au,az],fp,aI,aI,aI⟩
 rintro σ1 ⟨x1,x2,x3,x4,x5⟩
 have lY:=hb.keeps (R:=σ1) x2 J
 refine aw (tD σ1 b pv h0 h1 h2 h3 ov iv ev lY hs J J J J) ?_
 rintro x R hn ⟨p,o,i,e,hv,rfl,hI,lZ,hf⟩
 have y3:=(hf _ J).trans x3
 have y4:=(hf _ J).trans x4
 have y5:=(hf _ J).trans x5
 have rX:=hI.lo
 have uA:=hI.hi
 have XN:=hI.v
 have iu:=And.intro XN.h0.aQ (And.intro XN.h1.aQ (And.intro XN.h2.aQ XN.h3.aQ))
 obtain⟨m0,m1,m2,m3⟩:=iu
 have UA:∀k,k<4→b.aj k=[]→hv k= .al:=fun k hk h=>by
  obtain⟨v,mJ,_⟩:=jS hb hk
  exact lZ k v hk mJ (gF k v hk mJ h)
 simp+contextual (maxSteps:=1000000) (disch:=first|exact dB|fail) [go_sem,int_lt,-Int.not_le,-Int.not_lt,-List.map_set,y3,y4,y5]
 (repeat refine Alt.mk ?_)
 refine bb (fun τ2=>τ2.n=R.n+1∧(∀y,y<R.n→τ2.get y=R.get y)∧τ2.get R.n=some ⟨zn b p o i e hv,true⟩) ?_ ?_
 ·exact⟨iF,fun y hy=>ak hy,aU _ rfl⟩
 rintro τ2 ⟨w1,w2,w3⟩
 have hI2:=hI.frame J w2
 refine aw (QS τ2 σ1.n R.n b p o i e hv op ⟨J,J⟩ w3 hI2 ⟨aD,aD,aD,aD,fun k hk=>by
  rcases hI.hd k hk with⟨h1,_⟩|⟨q,h1,_,h3,_⟩
  ·exact .inl h1
  ·rw[h1];exact .inr (.inr Es)⟩ UA hs di) ?_
 rintro x τ3 Dk ⟨rfl,v1,v2,v3⟩
 have kp:∀y,y<σ1.n→τ3.get y=σ1.get y:=fun y hy=>by rw[v1 y hy,w2 y J,hf y hy]
 have u3:=(kp _ J).trans x3
 have u4:=(kp _ J).trans x4
 have u5:=(kp _ J).trans x5
 have low:∀y,y<I.n→τ3.get y=I.get y:=fun y hy=>(kp y J).trans (x2 y hy)
 have EB:=hb.keeps (R:=τ3) low J
 have XY:=IX b op
 obtain⟨r,hr⟩:∃r,kV b op=r:=⟨_,rfl⟩
 rw[hr]at hG v3 uX XY⊢
 unfold Ei at XY
 obtain⟨b2,cd,n⟩:=r
 dsimp only at v3 uX XY⊢
 by_cases hc:cd=0∨cd=10
 rotate_left
 ·have Se:¬cd=0:=fun h=>hc (.inl h)
  have Jm:¬cd=10:=fun h=>hc (.inr h)
  obtain⟨rfl,oH⟩:b2=b∧n=0:=by
   have:=XY Se Jm
   simp only[Prod.mk.injEq,true_and]at this
   exact this
  simp+contextual (maxSteps:=1000000) (disch:=first|exact dB|fail) [go_sem,int_lt,-Int.not_le,-Int.not_lt,-List.map_set,u3,u4,u5,Se,Jm]
  (repeat refine Alt.mk ?_)
  refine aw (tD τ3 b2 pv h0 h1 h2 h3 ov iv ev EB hs J J J J) ?_
  rintro x τ4 Qx ⟨p',o',i',e',qF,rfl,MN,_,OX⟩
  have th:=MN.v
  have iu4:=And.intro th.h0.aQ (And.intro th.h1.aQ (And.intro th.h2.aQ th.h3.aQ))
  obtain⟨m0',m1',m2',m3'⟩:=iu4
  have t5:=(OX _ J).trans u5
  simp+contextual (maxSteps:=1000000) (disch:=first|exact dB|fail) [go_sem,int_lt,-Int.not_le,-Int.not_lt,-List.map_set,t5]
  (repeat refine Alt.mk ?_)
  rw[←hG,oH]
  have n8:=MN.lo
  refine⟨_,_,_,_,_,_,_,_,rfl,th.mn (MN.ap J),fun y hy=>?_,bj,fun y hy=>MN.ap J⟩
  rw[ai J,OX y J];exact low y hy
 ·obtain⟨dg,k0,k1,k2,k3,Ph,wa,OP,gz,om⟩:=v3 hc
  have:=And.intro om.p.aQ (And.intro om.h0.aQ (And.intro om.h1.aQ (And.intro om.h2.aQ (And.intro om.h3.aQ (And.intro om.o.aQ (And.intro om.i.aQ om.e.aQ))))))
  obtain⟨j1,j2,j3,j4,j5,j6,j7,j8⟩:=this
  have s1:=uX.p
  have s2:=uX.o
  have s3:=uX.i
  have s4:=uX.e
  rcases hc with rfl|rfl
  all_goals
   simp+contextual (maxSteps:=1000000) (disch:=first|exact dB|fail) [go_sem,int_lt,-Int.not_le,-Int.not_lt,-List.map_set,gz,u4,u5]
   (repeat refine Alt.mk ?_)
   refine aw (tD τ3 b2 dg k0 k1 k2 k3 Ph wa OP om uX.S J J J J) ?_
   rintro x τ4 Qx ⟨p',o',i',e',qF,rfl,MN,_,OX⟩
   have th:=MN.v
   have iu4:=And.intro th.h0.aQ (And.intro th.h1.aQ (And.intro th.h2.aQ th.h3.aQ))
   obtain⟨m0',m1',m2',m3'⟩:=iu4
   have t5:=(OX _ J).trans u5
   simp+contextual (maxSteps:=1000000) (disch:=first|exact dB|fail) [go_sem,int_lt,-Int.not_le,-Int.not_lt,-List.map_set,t5]
   (repeat refine Alt.mk ?_)
   rw[←hG]
   have n8:=MN.lo
   refine⟨_,_,_,_,_,_,_,_,rfl,th.mn (MN.ap J),fun y hy=>?_,bj,fun y hy=>MN.ap J⟩
   rw[ai J,OX y J];exact low y hy
end AH
