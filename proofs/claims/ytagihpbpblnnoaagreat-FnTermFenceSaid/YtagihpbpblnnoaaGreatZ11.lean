import Derived.Test.YtagihpbpblnnoaaGreatZ09
import Derived.Test.YtagihpbpblnnoaaGreatZ00
set_option linter.all false
namespace AH
open Go Go.Proofs Ho
set_option maxRecDepth 20000
theorem ND(xs:List Int)(a x:Int):xs.set a.toNat x=put xs a x:=_root_.id rfl
theorem J5{α:Type}{p:Prop}[Decidable p](x:α)(h:p):(if p then some x else none)=some x:=if_pos h
theorem J4{α:Type}{p:Prop}[Decidable p](x:α)(h:¬p):(if p then none else some x)=some x:=if_neg h
attribute [go_sem] ND J5 J4
end AH
namespace AH
open Go Go.Proofs Ho
set_option maxRecDepth 20000
set_option maxHeartbeats 16000000
def ng(pr:Int→Bool):List Int→Int→Int
 |[],_=> -1
 |x::l,i=>if pr x=true then i else ng pr l (i+1)
theorem An(pr:Int→Bool)(l:List Int):∀i:Int,0≤i→(ng pr l i= -1∧l.any pr=false)∨(i≤ng pr l i∧ng pr l i<i+l.length∧l.any pr=true∧(∀j:Nat,(j:Int)<ng pr l i-i→∀x,l[j]? =some x→pr x=false)∧∀x,l[(ng pr l i-i).toNat]? =some x→pr x=true):=by
 induction l with
 |nil=>intro i _;exact .inl ⟨rfl,rfl⟩
 |cons x l ih=>
  intro i hi
  unfold ng
  by_cases h:pr x=true
  ·rw[if_pos h]
   right
   refine⟨J,bX,by simp[h],fun j hj=>by omega,fun y hy=>?_⟩
   rw[show(i-i).toNat=0 by omega]at hy
   cases hy;exact h
  ·rw[if_neg h]
   have h':pr x=false:=by simpa using h
   rcases ih (i+1) J with⟨h1,h2⟩|⟨h1,h2,h3,h4,h5⟩
   ·exact .inl ⟨h1,by simp[h',h2]⟩
   ·right
    refine⟨J,bX,by simp[h',h3],fun j hj y hy=>?_,fun y hy=>?_⟩
    ·cases j with
     |zero=>cases hy;exact h'
     |succ j=>exact h4 j J y (by simpa using hy)
    ·rw[show(ng pr l (i+1)-i).toNat=(ng pr l (i+1)-(i+1)).toNat+1 by omega]at hy
     exact h5 y (by simpa using hy)
theorem Gy{pr:Int→Bool}{xs:List Int}{u:Nat}(h:u<xs.length):ng pr (xs.drop u) u=if pr (at_ xs u)=true then(u:Int)else ng pr (xs.drop (u+1)) ((u+1:Nat):Int):=by
 have:=io (xs:=xs) (i:=u) J J
 rw[show((u:Int)+1).toNat=u+1 by omega,Int.toNat_natCast]at this
 rw[this];rfl
theorem pA{a:Int}{xs:List Int}{u:Nat}(h:u<xs.length):dk (xs.drop u) a u=if at_ xs u=a then(u:Int)else dk (xs.drop (u+1)) a ((u+1:Nat):Int):=by
 have:=io (xs:=xs) (i:=u) J J
 rw[show((u:Int)+1).toNat=u+1 by omega,Int.toNat_natCast]at this
 rw[this];rfl
theorem vW(I:af)(v:U)(xs:List Int)(a:Int)(hv:bu .i64 I v xs)(hl:xs.length≤1000000):Fn Tryz.prog 277 [v,.int .i64 a] I fun x R=>x= .int .i64 (dk xs a 0)∧R=I:=by
 refine ay aZ mixed Tryz.func277 (by kernel_rfl) rfl (by kernel_rfl) bE ?_
 have iv:=hv.aQ
 simp+contextual (maxSteps:=1000000) (disch:=first|exact dB|fail) [go_sem,int_lt,-Int.not_le,-Int.not_lt,-List.map_set]
 (repeat refine Alt.mk ?_)
 refine aC (fun R_ env R=>∃(u:Nat),env 0=v∧env 1= .int .i64 a∧env 7= .int .i64 xs.length∧env 8= .int .i64 u∧I=R∧R_ (xs.length-u)∧(u≤xs.length∧dk xs a 0=dk (xs.drop u) a u)) (by rintro R_ env R ⟨u,e0,e1,e7,e8,h_,cz,hp⟩;exact⟨_,cz,u,e0,e1,e7,e8,h_,rfl,hp⟩) ⟨0,aq,aq,aq,aq,rfl,trivial,?_⟩ ?_
 rotate_left
 rintro m_ env R ⟨u,e0,e1,e7,e8,rfl,rfl,hp⟩
 ·obtain⟨p1,p2⟩:=hp
  by_cases hu:u<xs.length
  ·have fH:¬xs.length≤u:=J
   rw[pA hu]at p2
   by_cases hz:a=at_ xs u
   ·rw[if_pos hz.symm]at p2
    simp+contextual (maxSteps:=1000000) (disch:=first|exact dB|fail) [go_sem,int_lt,-Int.not_le,-Int.not_lt,-List.map_set,e0,e1,e7,e8,fH,hz]
    (repeat refine Alt.mk ?_)
    rw[←hz,p2]
   ·rw[if_neg (fun h=>hz h.symm)]at p2
    simp+contextual (maxSteps:=1000000) (disch:=first|exact dB|fail) [go_sem,int_lt,-Int.not_le,-Int.not_lt,-List.map_set,e0,e1,e7,e8,fH,hz]
    (repeat refine Alt.mk ?_)
    exact⟨u+1,J,J,J,p2⟩
  ·have fH:xs.length≤u:=J
   rw[List.drop_eq_nil_of_le fH]at p2
   have p2':dk xs a 0= -1:=p2
   simp+contextual (maxSteps:=1000000) (disch:=first|exact dB|fail) [go_sem,int_lt,-Int.not_le,-Int.not_lt,-List.map_set,e0,e1,e7,e8,fH]
   (repeat refine Alt.mk ?_)
   exact p2'.symm
 ·exact⟨Nat.zero_le _,rfl⟩
@[go_sem] def UZ:=fun(I:af) v xs a hv hl (aA:U→af→Prop)=>ar (k:=aA) (vW I v xs a hv hl)
@[go_sem] def UY:=fun(I:af) (b_:Bool) (v:U) (xs:List Int) (a:Int) (hv:b_=true→ bu .i64 I v xs) (hl:b_=true→ xs.length≤1000000) (aA:U→af→Prop)=>aJ (k:=aA) b_ fun aY=>vW I v xs a (hv aY) (hl aY)
def B6(f:U)(pr:Int→Bool)(I:af):Prop:=∀(a:Int) (aA:U→af→Prop),@dN Tryz.prog f [.int .i64 a] I ⟨aA⟩= @Alt (aA (.bool (pr a)) I) ⟨@dN Tryz.prog f [.int .i64 a] I ⟨aA⟩⟩
theorem Ag(I:af)(v f:U)(xs:List Int)(pr:Int→Bool)(hv:bu .i64 I v xs)(hl:xs.length≤1000000)(hf:B6 f pr I):
 Fn Tryz.prog 286 [v,f] I fun x R=>x= .int .i64 (ng pr xs 0)∧R=I:=by
 refine ay aZ mixed Tryz.func286 (by kernel_rfl) rfl (by kernel_rfl) bE ?_
 have iv:=hv.aQ
 unfold B6 at hf
 simp+contextual (maxSteps:=1000000) (disch:=first|exact dB|fail) [go_sem,int_lt,-Int.not_le,-Int.not_lt,-List.map_set]
 (repeat refine Alt.mk ?_)
 refine aC (fun R_ env R=>∃(u:Nat),env 0=v∧env 1=f∧env 7= .int .i64 xs.length∧env 8= .int .i64 u∧I=R∧R_ (xs.length-u)∧(u≤xs.length∧ng pr xs 0=ng pr (xs.drop u) u)) (by rintro R_ env R ⟨u,e0,e1,e7,e8,h_,cz,hp⟩;exact⟨_,cz,u,e0,e1,e7,e8,h_,rfl,hp⟩) ⟨0,aq,aq,aq,aq,rfl,trivial,?_⟩ ?_
 rotate_left
 rintro m_ env R ⟨u,e0,e1,e7,e8,rfl,rfl,hp⟩
 ·obtain⟨p1,p2⟩:=hp
  by_cases hu:u<xs.length
  ·have fH:¬xs.length≤u:=J
   rw[Gy hu]at p2
   by_cases hz:pr (at_ xs u)=true
   ·rw[if_pos hz]at p2
    simp+contextual (maxSteps:=1000000) (disch:=first|exact dB|fail) [go_sem,int_lt,-Int.not_le,-Int.not_lt,-List.map_set,e0,e1,e7,e8,fH,hf,hz]
    (repeat refine Alt.mk ?_)
    exact p2.symm
   ·rw[if_neg hz]at p2
    have UR:pr (at_ xs u)=false:=by simpa using hz
    simp+contextual (maxSteps:=1000000) (disch:=first|exact dB|fail) [go_sem,int_lt,-Int.not_le,-Int.not_lt,-List.map_set,e0,e1,e7,e8,fH,hf,UR]
    (repeat refine Alt.mk ?_)
    exact⟨u+1,J,J,J,p2⟩
  ·have fH:xs.length≤u:=J
   rw[List.drop_eq_nil_of_le fH]at p2
   have p2':ng pr xs 0= -1:=p2
   simp+contextual (maxSteps:=1000000) (disch:=first|exact dB|fail) [go_sem,int_lt,-Int.not_le,-Int.not_lt,-List.map_set,e0,e1,e7,e8,fH]
   (repeat refine Alt.mk ?_)
   exact p2'.symm
 ·exact⟨Nat.zero_le _,rfl⟩
theorem Gp(I:af)(v f:U)(xs:List Int)(pr:Int→Bool)(hv:bu .i64 I v xs)(hl:xs.length≤1000000)(hf:B6 f pr I):
 Fn Tryz.prog 282 [v,f] I fun x R=>x= .bool (xs.any pr)∧R=I:=by
 refine ay aZ mixed Tryz.func282 (by kernel_rfl) rfl (by kernel_rfl) bE ?_
 have iv:=hv.aQ
 simp+contextual (maxSteps:=1000000) (disch:=first|exact dB|fail) [go_sem,int_lt,-Int.not_le,-Int.not_lt,-List.map_set]
 (repeat refine Alt.mk ?_)
 refine aw (Ag I v f xs pr hv hl hf) ?_
 rintro x R hn ⟨rfl,rfl⟩
 have hr:=An pr xs 0 J
 generalize ng pr xs 0=r at*
 simp+contextual (maxSteps:=1000000) (disch:=first|exact dB|fail) [go_sem,int_lt,-Int.not_le,-Int.not_lt,-List.map_set]
 (repeat refine Alt.mk ?_)
 rcases hr with⟨h1,h2⟩|⟨h1,_,h2,_⟩
 ·rw[h2,h1];rfl
 ·rw[h2];simpa using h1
theorem B8{P:Program}{t:TypeId}{vt:Nat}{I:af}{i k n:Nat}{ys:List Int}(ht:bR P t=some (1,vt,[.int .i64 0]))(hB:I.get i=some ⟨ys.map (.int .i64),true⟩)(hk:k+n≤ys.length):
 qm P t (.sl i k n 1) I=some (.cw [],I.set i ⟨(ys.take k++List.replicate n 0++ys.drop (k+n)).map (.int .i64),true⟩):=by
 unfold qm
 rw[ht]
 dsimp only
 by_cases h0:n=0
 ·rw[if_pos h0]
  subst h0
  simp only[List.replicate_zero,List.append_nil,Nat.add_zero,List.take_append_drop]
  congr 2
  cases I
  unfold af.set
  congr 1
  funext j
  dsimp only at hB⊢
  split
  ·rename_i e;rw[e,hB]
  ·rfl
 ·rw[if_neg h0,hB]
  dsimp only
  rw[if_pos ⟨rfl,rfl,bX,by simp[U.one]⟩]
  congr 4
  unfold aB
  simp
end AH
