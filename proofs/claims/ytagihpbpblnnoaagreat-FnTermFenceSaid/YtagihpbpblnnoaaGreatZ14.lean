import Derived.Test.YtagihpbpblnnoaaGreatZ13
import Derived.Test.YtagihpbpblnnoaaGreatZ00
set_option linter.all false
namespace AH
open Go Go.Proofs Ho
set_option maxRecDepth 10000
set_option maxHeartbeats 4000000
attribute [go_sem] nU
theorem Rd.keeps{I R:af}{n i:Nat}{bv:U}{bs:List Int}{p:Int}(h:Rd I i bv bs p)(hk:bY n I R)(hi:i<n)(hb:bv.lt n=true)(hn:I.n≤R.n):Rd R i bv bs p:=
 ⟨by have:=h.hi;omega,by rw[hk i hi];exact h.hg,h.hb.keeps hk hb hn,h.ne,h.vt,h.len,h.hp⟩
theorem rj{n i:Nat}{I R:af}{A B:cT}(h:bY n (I.set i A) R):bY n (I.set i B) (R.set i B):=by
 intro j hj
 have:=h j hj
 by_cases e:j=i
 ·rw[af.cX,if_pos e,af.cX,if_pos e]
 ·rw[af.cX,if_neg e]at this⊢;rw[af.cX,if_neg e];exact this
theorem jB{i j:Nat}(h:i≠j)(I:af)(A B:cT):(I.set i A).set j B=(I.set j B).set i A:=by
 unfold af.set
 congr 1
 funext q
 dsimp only
 by_cases e:q=j
 ·subst e;rw[if_pos rfl,if_neg (Ne.symm h),if_pos rfl]
 ·rw[if_neg e]
  by_cases e':q=i
  ·rw[if_pos e',if_pos e']
  ·rw[if_neg e',if_neg e',if_neg e]
theorem EZ{I R:af}{ol:List Int}{u p:Int}{q i:Nat}{l bs:List Int}{bv ov:U}{Kp:Prop}(h:¬(ol.length:Int)≤u)(u0:0≤u)(u1:u≤ol.length)(l1:(l.length:Int)≤u)(lr:∀j:Int,0≤j→j<l.length→0≤at_ l j∧at_ l j<ol.length)
 (hq:I.n+3<q∧q<R.n) (Gg:Rd R i bv bs (p+3)) (rX:bu .i64 R ov ol) (hk:Kp) (BU:i≠q) (Gc:cn bv≠q∨bv= .al) (oJ:cn ov≠q∨ov= .al):
 ∃x:List Int,l.length+1=x.length∧¬↑ol.length-u≤max (↑ol.length-(u+1)) 0∧0≤u+1∧u+1≤ ↑ol.length∧ ↑x.length≤u+1∧(∀(j:Int),0≤j→¬↑x.length≤j→0≤at_ x j∧¬↑ol.length≤at_ x j)∧I.n+3<R.n+1∧List.map (U.int IntKind.i64) l++[U.int IntKind.i64 u]=List.map (U.int IntKind.i64) x∧Rd (((R.kill q).push {cells:=[U.int IntKind.i64 u],rw:=true}).push {cells:=List.map (U.int IntKind.i64) l++[U.int IntKind.i64 u],rw:=true}) i bv bs (p+3)∧bu IntKind.i64 (((R.kill q).push {cells:=[U.int IntKind.i64 u],rw:=true}).push {cells:=List.map (U.int IntKind.i64) l++[U.int IntKind.i64 u],rw:=true}) ov ol∧Kp:=by
 refine⟨l++[u],aV,J,J,J,bX,fun j j0 j1=>?_,J,aV,((Gg.kill BU Gc).push).push,((rX.kill oJ).push).push,hk⟩
 have:=Mo (x:=u) (P:=fun z=>0≤z∧z<ol.length) lr ⟨J,J⟩ j j0 J
 exact⟨this.1,J⟩
theorem RK(I:af)(i:Nat)(bv:U)(bs:List Int)(p:Int)(b:Bk)(pv h0 h1 h2 h3 ov iv ev:U)(hr:Rd I i bv bs p)(hp:p≤999999000)(ho:bu .i64 I ov b.owner)(hs:Sm b.owner)(gF:cn ov≠i∨ov= .al):Fn Tryz.prog 166 [.ptr i 0,bV b pv h0 h1 h2 h3 ov iv ev] I fun x R=>∃a_:Int×Int×Int×Int×Int,x= .agg [.int .i64 a_.1,.int .i64 a_.2.1,.int .i64 a_.2.2.1,.int .i64 a_.2.2.2.1]∧R=I.set i ⟨[bv,.int .i64 a_.2.2.2.2],true⟩∧(p≤a_.2.2.2.2∧a_.2.2.2.2≤p+12):=by
 refine jP (fun a_:Int×Int×Int×Int×Int=> .agg [.int .i64 a_.1,.int .i64 a_.2.1,.int .i64 a_.2.2.1,.int .i64 a_.2.2.2.1]) (fun a_:Int×Int×Int×Int×Int=>I.set i ⟨[bv,.int .i64 a_.2.2.2.2],true⟩) (fun a_:Int×Int×Int×Int×Int=>p≤a_.2.2.2.2∧a_.2.2.2.2≤p+12) aZ mixed Tryz.func166 (by kernel_rfl) rfl (by kernel_rfl) ?_ ?_ ?_ ?_
 ·intros;rfl
 ·intros;rfl
 ·intro a _;exact hr.mut _
 have hi:=hr.hi
 have zX:=hr.hp
 obtain⟨so,KR⟩:=hs
 have q0:=dC (bs:=bs) (k:=p) (n:=12) J
 have q1:=dC (bs:=bs) (k:=p+1) (n:=3) J
 simp+contextual (maxSteps:=1000000) (disch:=first|exact dA|fail) [go_sem,int_lt,-Int.not_le,-Int.not_lt]
 repeat' (first|refine Alt.mk ?_|refine And.intro ?_ ?_|intro _)
 all_goals first|exact⟨_,bY.refl _ _,J,J⟩|skip
 all_goals
  refine aC (fun R_ env R=>∃(u:Int) (q:Nat) (l:List Int),env 7= .int .i64 u∧env 6= .sl q 0 l.length 1∧env 0= .ptr i 0∧env 3= .ptr I.n 0∧env 4= .ptr (I.n+1) 0∧env 5= .ptr (I.n+1+1+1) 0∧R_ (b.owner.length-u).toNat∧
   (0≤u∧u≤b.owner.length∧(l.length:Int)≤u∧(∀j:Int,0≤j→j<l.length→0≤at_ l j∧at_ l j<b.owner.length))∧(I.n+3<q∧q<R.n)∧R.get q=some ⟨l.map (.int .i64),true⟩∧R.get I.n=some ⟨[.int .i64 b.am,pv,h0,h1,h2,h3,ov,iv,ev],true⟩∧
   R.get (I.n+1)=some ⟨[.int .i64 0,.int .i64 0,.int .i64 0,.int .i64 0],true⟩∧(∃kd s a:Int,R.get (I.n+1+1+1)=some ⟨[.int .i64 kd,.int .i64 s,.int .i64 a,.int .i64 0],true⟩)∧Rd R i bv bs (p+3)∧bu .i64 R ov b.owner∧bY I.n (I.set i ⟨[bv,.int .i64 (p+3)],true⟩) R)
   (by rintro R_ env R ⟨u,q,l,e7,e6,e0,e3,e4,e5,cz,hp⟩;exact⟨_,cz,u,q,l,e7,e6,e0,e3,e4,e5,rfl,hp⟩) ?_ ?_
  ·refine⟨0,I.n+1+1+1+1,[],rfl,rfl,rfl,rfl,rfl,rfl,trivial,⟨J,J,aV,fun j j1 j2=>by simp at j2;omega⟩,⟨J,aV⟩,?_,?_,?_,?_,?_,?_,?_⟩
   ·simp+arith [af.cu]
   ·simp+arith [af.cu]
   ·simp+arith [af.cu]
   ·exact⟨_,_,_,by simp[af.cu];exact⟨rfl,rfl,rfl⟩⟩
   ·exact((((((hr.gl J).push).push).push).push).push)
   ·exact((((((ho.set gF).push).push).push).push).push)
   ·simp+contextual (maxSteps:=1000000) (disch:=first|exact dA|fail) [go_sem,int_lt,-Int.not_le,-Int.not_lt]
  ·rintro m_ env R ⟨u,q,l,e7,e6,e0,e3,e4,e5,rfl,hp,hq,gq,g0,g1,⟨kd,s,a,g3⟩,Gg,rX,hk⟩
   obtain⟨u0,u1,l1,lr⟩:=hp
   have ahx:=Gg.hi
   have Gc:cn bv≠q∨bv= .al:=by rcases hr.hb.Mt hr.hb.lt with h|h;exact .inl J;exact .inr h
   have oJ:cn ov≠q∨ov= .al:=by rcases ho.Mt ho.lt with h|h;exact .inl J;exact .inr h
   have lY:cn bv≠I.n+1∨bv= .al:=by rcases hr.hb.Mt hr.hb.lt with h|h;exact .inl J;exact .inr h
   have ho1:cn ov≠I.n+1∨ov= .al:=by rcases ho.Mt ho.lt with h|h;exact .inl J;exact .inr h
   have EB:cn bv≠I.n+1+1+1∨bv= .al:=by rcases hr.hb.Mt hr.hb.lt with h|h;exact .inl J;exact .inr h
   have ho3:cn ov≠I.n+1+1+1∨ov= .al:=by rcases ho.Mt ho.lt with h|h;exact .inl J;exact .inr h
   have Jm:∀X A B,(af.set (af.set X (I.n+1) B) i A)=(X.set i A).set (I.n+1) B:=fun X A B=>jB J X B A
   have Sf:∀X A B,(af.set (af.set X (I.n+1+1+1) B) i A)=(X.set i A).set (I.n+1+1+1) B:=fun X A B=>jB J X B A
   have HE:bu .i64 R (.sl q 0 l.length 1) l:=bf hq.2 gq rfl
   have BU:cn (.sl q 0 l.length 1)≠i∨U.sl q 0 l.length 1= .al:= .inl (by simp[cn];omega)
   by_cases hz:0<l.length
   ·have c0:=dC (bs:=bs) (k:=p+4) (n:=l.length) J
    have c1:=lr _ c0.1 c0.2
    simp+contextual (maxSteps:=1000000) (disch:=first|exact dA|fail) [go_sem,int_lt,-Int.not_le,-Int.not_lt,e0,e3,e4,e5,e6,e7,gq,g0,g1,g3,hz,Jm,Sf]
    repeat' (first|refine Alt.mk ?_|refine And.intro ?_ ?_|intro _)
    all_goals first
     |exact⟨_,rj hk,J,J⟩
     |exact EZ bZ u0 u1 l1 lr hq Gg rX hk J Gc oJ
     |exact⟨l,aV,J,J,J,J,fun j j0 j1=>by have:=lr j j0 J;omega,J,J,rfl,Gg,rX,hk⟩
     |skip
   ·have hz0:l=[]:=List.eq_nil_of_length_eq_zero J
    subst hz0
    simp+contextual (maxSteps:=1000000) (disch:=first|exact dA|fail) [go_sem,int_lt,-Int.not_le,-Int.not_lt,e0,e3,e4,e5,e6,e7,gq,g0,g1,g3,Jm,Sf]
    repeat' (first|refine Alt.mk ?_|refine And.intro ?_ ?_|intro _)
    all_goals first
     |exact⟨_,rj hk,J,J⟩
     |(have hh:=EZ (l:=[]) (Kp:=bY I.n (I.set i {cells:=[bv,U.int IntKind.i64 (p+3)],rw:=true}) R) bZ u0 u1 l1 lr hq Gg rX hk J Gc oJ;simpa using hh)
     |exact⟨[],aV,J,J,J,J,fun j j0 j1=>by have:=lr j j0 J;omega,J,J,aV,Gg,rX,hk⟩
     |skip
@[go_sem] def afB:=fun(I:af) i bv bs p b pv h0 h1 h2 h3 ov iv ev hr hp ho hs gF (aA:U→af→Prop)=>eK aA (RK I i bv bs p b pv h0 h1 h2 h3 ov iv ev hr hp ho hs gF)
end AH
