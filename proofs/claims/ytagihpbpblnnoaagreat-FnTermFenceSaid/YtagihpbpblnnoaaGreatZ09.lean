import Derived.Test.YtagihpbpblnnoaaGreatZ02
import Derived.Test.YtagihpbpblnnoaaGreatZ08
import Derived.Test.YtagihpbpblnnoaaGreatZ07
import Derived.Test.YtagihpbpblnnoaaGreatZ03
import Derived.Test.YtagihpbpblnnoaaGreatZ05
import Derived.Test.YtagihpbpblnnoaaGreatZ06
import Derived.Test.YtagihpbpblnnoaaGreatZ01
import Derived.Carry
import Derived.Below
import Derived.SizedLaws
import Derived.Test.YtagihpbpblnnoaaGreatZ00
set_option linter.all false
namespace AH
open Go Ho
def cn:U→Nat
 | .sl i _ _ _=>i
 |_=>0
def Vh:U→Nat
 | .sl _ k _ _=>k
 |_=>0
structure bu(kk:IntKind)(I:af)(v:U)(xs:List Int):Prop where
 ex:(v= .al∧xs=[])∨∃i k,v= .sl i k xs.length 1∧kZ kk I i k xs
theorem bu.nil{kk:IntKind}{I:af}:bu kk I .al []:=⟨.inl ⟨rfl,rfl⟩⟩
theorem bu.mk'{kk:IntKind}{I:af}{i k:Nat}{xs:List Int}(h:kZ kk I i k xs):bu kk I (.sl i k xs.length 1) xs:=⟨.inr ⟨i,k,rfl,h⟩⟩
theorem bu.own{kk:IntKind}{I:af}{i:Nat}{xs:List Int}{rw:Bool}(hi:i<I.n)(h:I.get i=some ⟨xs.map (.int kk),rw⟩):bu kk I (.sl i 0 xs.length 1) xs:=bu.mk' (kZ.own hi h)
theorem bu.lt{kk:IntKind}{I:af}{v:U}{xs:List Int}(h:bu kk I v xs):v.lt I.n=true:=by
 rcases h.ex with⟨rfl,_⟩|⟨i,k,rfl,hl⟩
 ·rfl
 ·simp[U.lt,hl.lt]
theorem bu.push{kk:IntKind}{I:af}{v:U}{xs:List Int}(h:bu kk I v xs){B:cT}:bu kk (I.push B) v xs:=by
 rcases h.ex with⟨rfl,rfl⟩|⟨i,k,rfl,hl⟩
 ·exact .nil
 ·exact .mk' hl.push
theorem bu.set{kk:IntKind}{I:af}{v:U}{xs:List Int}{j:Nat}(h:bu kk I v xs){B:cT}(hj:cn v≠j∨v= .al):bu kk (I.set j B) v xs:=by
 rcases h.ex with⟨rfl,rfl⟩|⟨i,k,rfl,hl⟩
 ·exact .nil
 ·refine .mk' (hl.set ?_)
  rcases hj with hj|hj
  ·exact hj
  ·cases hj
theorem bu.keeps{kk:IntKind}{I R:af}{n:Nat}{v:U}{xs:List Int}(h:bu kk I v xs)(hk:bY n I R)(hi:v.lt n=true)(hn:I.n≤R.n):bu kk R v xs:=by
 rcases h.ex with⟨rfl,rfl⟩|⟨i,k,rfl,hl⟩
 ·exact .nil
 ·refine .mk' (hl.keeps hk ?_ hn)
  simpa[U.lt]using hi
def Kc(d:Option TypeDesc)(v:U)(I:af):Option (U×af):=
 match d,eC v,v with
 |some (.slice _),some n,.sl .. =>some (.int .i64 n,I)
 |some (.slice _),some n,.al=>some (.int .i64 n,I)
 |some .string,some n,.str _=>some (.int .i64 n,I)
 |_,_,_=>none
theorem Mi{P:Program}{ajS:Operand→U}{I:af}(x:Operand)(t:TypeId):db P ajS (.call ⟨.builtin .len,#[x],#[t]⟩) I=Kc (P.underlying t) (ajS x) I:=_root_.id rfl
theorem Nt(e:TypeId)(i k n q:Nat)(I:af):Kc (some (.slice e)) (.sl i k n q) I=some (.int .i64 n,I):=_root_.id rfl
theorem GC(e:TypeId)(I:af):Kc (some (.slice e)) .al I=some (.int .i64 0,I):=_root_.id rfl
theorem Ns{e:TypeId}{v:U}{I:af}{kk:IntKind}{xs:List Int}(h:bu kk I v xs):Kc (some (.slice e)) v I=some (.int .i64 xs.length,I):=by
 rcases h.ex with⟨rfl,rfl⟩|⟨i,k,rfl,hl⟩<;>rfl
def Ni(P:Program)(t:TypeId)(v ix:U)(I:af):Option (U×af):=
 match ix with
 | .int _ i=>match v with
   | .sl b k n e=>match bR P t with
     |some (e',_)=>if e=e'∧0≤i∧i<n then some (.ptr b (k+i.toNat*e),I)else none
     |none=>none
   | .ptr b k=>match A8 P t with
     |some (n,e)=>if 0≤i∧i<n then some (.ptr b (k+i.toNat*e),I)else none
     |none=>none
   |_=>none
 |_=>none
theorem uH{P:Program}{ajS:Operand→U}{I:af}(t:TypeId)(x ix:Operand):db P ajS (.indexAddr t x ix) I=Ni P t (ajS x) (ajS ix) I:=_root_.id rfl
theorem EO{P:Program}(t:TypeId)(b k n e:Nat)(kk:IntKind)(i:Int)(I:af):Ni P t (.sl b k n e) (.int kk i) I=(match bR P t with
 |some (e',_)=>if e=e'∧0≤i∧i<n then some (.ptr b (k+i.toNat*e),I)else none
 |none=>none):=_root_.id rfl
theorem J3{P:Program}(t:TypeId)(b k:Nat)(kk:IntKind)(i:Int)(I:af):Ni P t (.ptr b k) (.int kk i) I=(match A8 P t with
 |some (n,e)=>if 0≤i∧i<n then some (.ptr b (k+i.toNat*e),I)else none
 |none=>none):=_root_.id rfl
def s6(v:U)(i:Int):U:= .ptr (cn v) (Vh v+i.toNat)
def QW(s:Option (Nat×Nat×List U))(v:U)(i:Int)(I:af):Option (U×af):=
 match s with
 |some (1,_)=>some (s6 v i,I)
 |_=>none
theorem Gx(a:Nat)(b:List U)(v:U)(i:Int)(I:af):QW (some (1,a,b)) v i I=some (s6 v i,I):=_root_.id rfl
theorem Nj{P:Program}{t:TypeId}{v:U}{I:af}{k' kk:IntKind}{i:Int}{xs:List Int}(h:bu kk I v xs)(h0:0≤i)(h1:i<xs.length):Ni P t v (.int k' i) I=QW (bR P t) v i I:=by
 rcases h.ex with⟨rfl,rfl⟩|⟨j,k,rfl,hl⟩
 ·simp at h1;omega
 ·rw[EO]
  unfold QW
  cases hs:bR P t with
  |none=>rfl
  |some s=>
   obtain⟨e,vt,z⟩:=s
   dsimp only
   by_cases he:e=1
   ·subst he
    rw[if_pos ⟨rfl,h0,h1⟩]
    simp[s6,cn,Vh]
   ·rw[if_neg J]
    split
    ·rename_i h2;cases h2;exact absurd rfl he
    ·rfl
def ldI(g:Option (Bool×Nat))(v:U)[a:Kt (Option U)]:Option U:=
 match g with
 |some (false,_)=>some v
 |_=>a.val
theorem Kb(n:Nat)(v:U)(a:Option U): @ldI (some (false,n)) v ⟨a⟩=some v:=_root_.id rfl
theorem ET{P:Program}{t:TypeId}{v:U}{I:af}{kk:IntKind}{i:Int}{xs:List Int}(h:bu kk I v xs)(h0:0≤i)(h1:i<xs.length):
 ja P t (s6 v i) I= @ldI (fq P t) (.int kk (at_ xs i)) ⟨ja P t (s6 v i) I⟩:=by
 rcases h.ex with⟨rfl,rfl⟩|⟨j,k,rfl,hl⟩
 ·simp at h1;omega
 ·obtain⟨B,b1,_,_,b4⟩:=hl.cell
  have:=b4 i.toNat J
  rw[show((i.toNat:Nat):Int)=i by omega]at this
  unfold ldI
  split
  ·rename_i hg
   simp only[s6,cn,Vh,ja,b1,hg,this]
  ·rfl
attribute [go_sem ↓] Mi uH
attribute [go_sem] Nt GC Ns Nj EO J3 Gx Kb ET B9 yM
def TN(d:Option TypeDesc)(a b:Bool):Option U:=
 match d with
 |some .bool=>some (.bool (a==b))
 |_=>none
theorem Fo{P:Program}(t:TypeId)(a b:Bool):eB P .eql t (.bool a) (.bool b)=TN (P.underlying t) a b:=by
 simp only[eB,qn,TN]
 generalize P.underlying t=d
 cases d with
 |none=>rfl
 |some d=>cases d<;>rfl
theorem Fp{P:Program}(t:TypeId)(a b:Bool):eB P .neq t (.bool a) (.bool b)=TN (P.underlying t) (!a) b:=by
 simp only[eB,qn,TN]
 generalize P.underlying t=d
 cases d with
 |none=>rfl
 |some d=>cases d<;>cases a<;>cases b<;>rfl
theorem I1(a b:Bool):TN (some .bool) a b=some (.bool (a==b)):=_root_.id rfl
attribute [go_sem] Fo Fp I1
def ey(v:U):Prop:=v= .al∨∃i k n e,v= .sl i k n e
theorem bu.aQ{kk:IntKind}{I:af}{v:U}{xs:List Int}(h:bu kk I v xs):ey v:=by
 rcases h.ex with⟨rfl,rfl⟩|⟨i,k,rfl,hl⟩
 ·exact .inl rfl
 ·exact .inr ⟨_,_,_,_,rfl⟩
theorem FP{v:U}(h:ey v):v.cells=some [v]:=by rcases h with rfl|⟨i,k,n,e,rfl⟩<;>rfl
theorem pO{v:U}(h:ey v):v.one=true:=by rcases h with rfl|⟨i,k,n,e,rfl⟩<;>rfl
attribute [go_sem ↓ high] FP pO
theorem FF(e i k n:Nat)(kk:IntKind)(h:Int)(h0:0≤h)(h1:h≤n):jN e (.sl i k n e) none (some (.int kk h))=some (.sl i k h.toNat e):=by
 simp only[jN,mM];rw[if_pos ⟨trivial,J,h0,h1⟩];simp
theorem FG(e i k n:Nat)(kk:IntKind)(l:Int)(h0:0≤l)(h1:l≤n):jN e (.sl i k n e) (some (.int kk l)) none=some (.sl i (k+l.toNat*e) (n-l.toNat) e):=by
 simp only[jN,mM];rw[if_pos ⟨trivial,h0,h1,J⟩];simp
theorem vg(e i k n:Nat)(kk kk':IntKind)(l h:Int)(h0:0≤l)(h1:l≤h)(h2:h≤n):jN e (.sl i k n e) (some (.int kk l)) (some (.int kk' h))=some (.sl i (k+l.toNat*e) (h.toNat-l.toNat) e):=by
 simp only[jN,mM];rw[if_pos ⟨trivial,h0,h1,h2⟩]
attribute [go_sem] FF FG vg
theorem bu.take{kk:IntKind}{I:af}{i k:Nat}{xs:List Int}(h:bu kk I (.sl i k xs.length 1) xs)(m:Nat)(hm:m≤xs.length):bu kk I (.sl i k m 1) (xs.take m):=by
 rcases h.ex with⟨h,_⟩|⟨i',k',h',hl⟩
 ·cases h
 ·cases h'
  obtain⟨h1,B,h2,h3,h4⟩:=hl
  have:=bu.mk' (kk:=kk) (I:=I) (i:=i) (k:=k) (xs:=xs.take m) ⟨h1,B,h2,bX,by
   rw[List.length_take,Nat.min_eq_left hm,←Nat.min_eq_left hm,←List.take_take,h4,Nat.min_eq_left hm,List.map_take]⟩
  rwa[List.length_take,Nat.min_eq_left hm]at this
theorem aC{P:Program}{ord:Nat→bD}{c:Code}{K:Exit→Env→af→Prop}{env:Env}{I:af}(aa:(Nat→Prop)→Env→af→Prop)
 (hk:∀ab env R,aa ab env R→∃k,ab k∧aa (fun x=>x=k) env R) (h0:aa (fun _=>True) env I)
 (h:∀M env R,aa (fun x=>x=M) env R→ko P ord c (mR (fun ce τ'=>aa (fun x=>x<M) ce τ') K) env R): @lL ⟨ko P ord c⟩ ⟨K⟩ env I:=by
 obtain⟨k,_,h1⟩:=hk _ _ _ h0
 refine Ci (fun m env R=>aa (fun x=>x=m) env R) k h1 fun m env R hI=>Ba ?_ (h m env R hI)
 intro e ce τ' he
 cases e with
 |normal=>
  obtain⟨k',dG,R6⟩:=hk _ _ _ he
  exact⟨k',dG,R6⟩
 |_=>exact he
theorem int_lt(a b:Int):(a<b)=¬(b≤a):=by rw[Int.not_le]
theorem Q_(s p l:Int):decide (aM.ok ⟨s,p,l⟩)=(decide (1≤s)&&(decide (s≤4)&&(decide (1≤p)&&(decide (p≤6)&&(decide (1≤l)&&decide (l≤20)))))):=by
 rw[Bool.eq_iff_iff,decide_eq_true_iff];simp[aM.ok]
theorem qx(p:Prop)[Decidable p]:(decide p==false)=decide (¬p):=by by_cases h:p<;>simp[h]
theorem rP(p:Prop)[Decidable p]:(decide p==true)=decide p:=by by_cases h:p<;>simp[h]
attribute [go_sem] qx rP bL wrap_i64 Bool.decide_and Bool.decide_or and_assoc Bool.and_assoc Bool.or_assoc Prod.exists Prod.forall
end AH
namespace AH
open Go Go.Proofs Ho
set_option maxRecDepth 10000
abbrev Iz(c:aM):U:= .agg [.int .i64 c.am,.int .i64 c.ah,.int .i64 c.bH]
theorem wj(I:af)(s p l:Int):Fn Tryz.prog 64 [.agg [.int .i64 s,.int .i64 p,.int .i64 l]] I fun x R=>x= .bool (decide (aM.ok ⟨s,p,l⟩))∧R=I:=by
 refine ay aZ mixed Tryz.func64 (by kernel_rfl) rfl (by kernel_rfl) bE ?_
 by_cases h1:1≤s<;>by_cases h2:s≤4<;>by_cases h3:1≤p<;>by_cases h4:p≤6<;>simp[go_sem,bL,h1,h2,h3,h4,aM.ok]
@[go_sem] def Vu:=fun(I:af) s p l (aA:U→af→Prop)=>ar (k:=aA) (wj I s p l)
@[go_sem] def Vt:=fun(I:af) (b_:Bool) (s p l:Int) (aA:U→af→Prop)=>aJ (k:=aA) b_ fun aY=>wj I s p l
theorem AM(I:af)(s p l:Int):Fn Tryz.prog 94 [.agg [.int .i64 s,.int .i64 p,.int .i64 l]] I fun x R=>x= .int .i64 3∧R=I:=by
 refine ay aZ mixed Tryz.func94 (by kernel_rfl) rfl (by kernel_rfl) bE ?_
 simp+contextual (maxSteps:=1000000) (disch:=first|exact dA|fail) [go_sem,int_lt,-Int.not_le,-Int.not_lt]
@[go_sem] def Yv:=fun(I:af) s p l (aA:U→af→Prop)=>ar (k:=aA) (AM I s p l)
@[go_sem] def Yu:=fun(I:af) (b_:Bool) (s p l:Int) (aA:U→af→Prop)=>aJ (k:=aA) b_ fun aY=>AM I s p l
theorem vn(I:af)(s p l:Int)(hs:0≤s∧s≤1000):Fn Tryz.prog 96 [.agg [.int .i64 s,.int .i64 p,.int .i64 l]] I fun x R=>x= .int .i64 (3+s)∧R=I:=by
 refine ay Pg mixed Tryz.func96 (by kernel_rfl) rfl (by kernel_rfl) bE ?_
 simp(disch:=first|exact dA|fail) [go_sem,bL,Pg,wrap_i64]
@[go_sem] def Ts:=fun(I:af) s p l hs (aA:U→af→Prop)=>ar (k:=aA) (vn I s p l hs)
@[go_sem] def Tr:=fun(I:af) (b_:Bool) (s p l:Int) (hs:b_=true→ 0≤s∧s≤1000) (aA:U→af→Prop)=>aJ (k:=aA) b_ fun aY=>vn I s p l (hs aY)
theorem vN(I:af)(s p l:Int)(hs:0≤s∧s≤1000):Fn Tryz.prog 237 [.agg [.int .i64 s,.int .i64 p,.int .i64 l]] I fun x R=>x= .int .i64 (3+2*s)∧R=I:=by
 refine ay Ku mixed Tryz.func237 (by kernel_rfl) rfl (by kernel_rfl) bE ?_
 simp(disch:=first|exact dA|fail) [go_sem,bL,Ku,wrap_i64]
 exact Alt.mk J
@[go_sem] def Uc:=fun(I:af) s p l hs (aA:U→af→Prop)=>ar (k:=aA) (vN I s p l hs)
@[go_sem] def Ub:=fun(I:af) (b_:Bool) (s p l:Int) (hs:b_=true→ 0≤s∧s≤1000) (aA:U→af→Prop)=>aJ (k:=aA) b_ fun aY=>vN I s p l (hs aY)
theorem wg(I:af)(s p l:Int)(hs:0≤s∧s≤1000):Fn Tryz.prog 229 [.agg [.int .i64 s,.int .i64 p,.int .i64 l]] I fun x R=>x= .int .i64 (7+2*s)∧R=I:=by
 refine ay aZ mixed Tryz.func229 (by kernel_rfl) rfl (by kernel_rfl) bE ?_
 simp(disch:=first|exact dA|fail) [go_sem,bL,aZ,wrap_i64]
 exact Alt.mk J
@[go_sem] def Vr:=fun(I:af) s p l hs (aA:U→af→Prop)=>ar (k:=aA) (wg I s p l hs)
@[go_sem] def Vq:=fun(I:af) (b_:Bool) (s p l:Int) (hs:b_=true→ 0≤s∧s≤1000) (aA:U→af→Prop)=>aJ (k:=aA) b_ fun aY=>wg I s p l (hs aY)
theorem A6(I:af)(s p l:Int)(hs:0≤s∧s≤1000)(hp:0≤p∧p≤1000):Fn Tryz.prog 178 [.agg [.int .i64 s,.int .i64 p,.int .i64 l]] I fun x R=>x= .int .i64 (7+2*s+p)∧R=I:=by
 refine ay Ko mixed Tryz.func178 (by kernel_rfl) rfl (by kernel_rfl) bE ?_
 simp(disch:=first|exact dA|fail) [go_sem,bL,Ko,wrap_i64]
@[go_sem] def YF:=fun(I:af) s p l hs hp (aA:U→af→Prop)=>ar (k:=aA) (A6 I s p l hs hp)
@[go_sem] def YE:=fun(I:af) (b_:Bool) (s p l:Int) (hs:b_=true→ 0≤s∧s≤1000) (hp:b_=true→ 0≤p∧p≤1000) (aA:U→af→Prop)=>aJ (k:=aA) b_ fun aY=>A6 I s p l (hs aY) (hp aY)
theorem wb(I:af)(s p l:Int)(hs:0≤s∧s≤1000)(hp:0≤p∧p≤1000):Fn Tryz.prog 127 [.agg [.int .i64 s,.int .i64 p,.int .i64 l]] I fun x R=>x= .int .i64 (7+2*s+9*p)∧R=I:=by
 refine ay Kk mixed Tryz.func127 (by kernel_rfl) rfl (by kernel_rfl) bE ?_
 simp(disch:=first|exact dA|fail) [go_sem,bL,Kk,wrap_i64]
 exact Alt.mk J
@[go_sem] def Vk:=fun(I:af) s p l hs hp (aA:U→af→Prop)=>ar (k:=aA) (wb I s p l hs hp)
@[go_sem] def Vj:=fun(I:af) (b_:Bool) (s p l:Int) (hs:b_=true→ 0≤s∧s≤1000) (hp:b_=true→ 0≤p∧p≤1000) (aA:U→af→Prop)=>aJ (k:=aA) b_ fun aY=>wb I s p l (hs aY) (hp aY)
theorem vD(I:af)(s p l:Int)(hs:0≤s∧s≤1000)(hp:0≤p∧p≤1000):Fn Tryz.prog 65 [.agg [.int .i64 s,.int .i64 p,.int .i64 l]] I fun x R=>x= .int .i64 (7+2*s+17*p)∧R=I:=by
 refine ay Pe mixed Tryz.func65 (by kernel_rfl) rfl (by kernel_rfl) bE ?_
 simp(disch:=first|exact dA|fail) [go_sem,bL,Pe,wrap_i64]
 exact Alt.mk J
@[go_sem] def TE:=fun(I:af) s p l hs hp (aA:U→af→Prop)=>ar (k:=aA) (vD I s p l hs hp)
@[go_sem] def TD:=fun(I:af) (b_:Bool) (s p l:Int) (hs:b_=true→ 0≤s∧s≤1000) (hp:b_=true→ 0≤p∧p≤1000) (aA:U→af→Prop)=>aJ (k:=aA) b_ fun aY=>vD I s p l (hs aY) (hp aY)
theorem E6(I:af)(s p l:Int)(hs:0≤s∧s≤1000)(hp:0≤p∧p≤1000):Fn Tryz.prog 92 [.agg [.int .i64 s,.int .i64 p,.int .i64 l]] I fun x R=>x= .int .i64 (7+23*s+17*p)∧R=I:=by
 refine ay Pf mixed Tryz.func92 (by kernel_rfl) rfl (by kernel_rfl) bE ?_
 simp(disch:=first|exact dA|fail) [go_sem,bL,Pf,wrap_i64]
 exact Alt.mk J
@[go_sem] def adn:=fun(I:af) s p l hs hp (aA:U→af→Prop)=>ar (k:=aA) (E6 I s p l hs hp)
@[go_sem] def adm:=fun(I:af) (b_:Bool) (s p l:Int) (hs:b_=true→ 0≤s∧s≤1000) (hp:b_=true→ 0≤p∧p≤1000) (aA:U→af→Prop)=>aJ (k:=aA) b_ fun aY=>E6 I s p l (hs aY) (hp aY)
theorem A9(I:af)(s p l:Int)(hp:0≤p∧p≤1000):Fn Tryz.prog 238 [.agg [.int .i64 s,.int .i64 p,.int .i64 l]] I fun x R=>x= .int .i64 (8*p)∧R=I:=by
 refine ay aZ mixed Tryz.func238 (by kernel_rfl) rfl (by kernel_rfl) bE ?_
 simp(disch:=first|exact dA|fail) [go_sem,bL,wrap_i64]
@[go_sem] def YH:=fun(I:af) s p l hp (aA:U→af→Prop)=>ar (k:=aA) (A9 I s p l hp)
@[go_sem] def YG:=fun(I:af) (b_:Bool) (s p l:Int) (hp:b_=true→ 0≤p∧p≤1000) (aA:U→af→Prop)=>aJ (k:=aA) b_ fun aY=>A9 I s p l (hp aY)
theorem sO(I:af)(s p l slot:Int)(hs:0≤s∧s≤1000):Fn Tryz.prog 117 [.agg [.int .i64 s,.int .i64 p,.int .i64 l],.int .i64 slot] I fun x R=>x= .bool (decide (0≤slot)&&decide (slot≤s-1))∧R=I:=by
 refine ay aZ mixed Tryz.func117 (by kernel_rfl) rfl (by kernel_rfl) bE ?_
 simp(disch:=first|exact dA|fail) [go_sem,bL,wrap_i64]
@[go_sem] def RP:=fun(I:af) s p l slot hs (aA:U→af→Prop)=>ar (k:=aA) (sO I s p l slot hs)
@[go_sem] def RO:=fun(I:af) (b_:Bool) (s p l slot:Int) (hs:b_=true→ 0≤s∧s≤1000) (aA:U→af→Prop)=>aJ (k:=aA) b_ fun aY=>sO I s p l slot (hs aY)
theorem rr(I:af)(s p l slot:Int)(hc:aM.ok ⟨s,p,l⟩):Fn Tryz.prog 46 [.agg [.int .i64 s,.int .i64 p,.int .i64 l],.int .i64 slot] I fun x R=>x= .int .i64 (if 0≤slot∧slot<s then 7+2*s+17*p+21*slot else 0)∧R=I:=by
 refine ay aZ mixed Tryz.func46 (by kernel_rfl) rfl (by kernel_rfl) bE ?_
 have cL:=hc
 unfold aM.ok at cL
 simp only at cL
 by_cases h0:0≤slot<;>by_cases h1:slot≤s-1<;>simp(disch:=first|exact dA|fail) [go_sem,bL,wrap_i64,hc,h0,h1]
 ·refine Alt.mk (Alt.mk (Alt.mk ?_))
  rw[if_pos J];omega
 all_goals first|(exfalso;omega)|(intro h;omega)|exact Alt.mk (Alt.mk (fun _=>by omega))|exact Alt.mk J|trace_state
@[go_sem] def Rh:=fun(I:af) s p l slot hc (aA:U→af→Prop)=>ar (k:=aA) (rr I s p l slot hc)
@[go_sem] def Rg:=fun(I:af) (b_:Bool) (s p l slot:Int) (hc:b_=true→ aM.ok ⟨s,p,l⟩) (aA:U→af→Prop)=>aJ (k:=aA) b_ fun aY=>rr I s p l slot (hc aY)
theorem ry(I:af)(s p l:Int):Fn Tryz.prog 17 [.agg [.int .i64 s,.int .i64 p,.int .i64 l]] I fun x R=>x= .int .i64 (if aM.ok ⟨s,p,l⟩then 260+(7+2*s+17*p)else 0)∧R=I:=by
 refine ay aZ mixed Tryz.func17 (by kernel_rfl) rfl (by kernel_rfl) bE ?_
 by_cases hc:aM.ok ⟨s,p,l⟩
 ·have cL:=hc
  unfold aM.ok at cL
  simp only at cL
  simp(disch:=first|exact dA|fail) [go_sem,bL,wrap_i64,hc]
 ·simp(disch:=first|exact dA|fail) [go_sem,bL,wrap_i64,hc]
@[go_sem] def Ro:=fun(I:af) s p l (aA:U→af→Prop)=>ar (k:=aA) (ry I s p l)
@[go_sem] def Rn:=fun(I:af) (b_:Bool) (s p l:Int) (aA:U→af→Prop)=>aJ (k:=aA) b_ fun aY=>ry I s p l
theorem lQ(I:af) :Fn Tryz.prog 91 [.al] I fun x R=>x= .cw [Iz ⟨0,0,0⟩,.bool false]∧R=I:=by
 refine ay KB mixed Tryz.func91 (by kernel_rfl) rfl (by kernel_rfl) bE ?_
 simp(disch:=first|exact dA|fail) [go_sem,bL,wrap_i64,eC]
@[go_sem] def OI:=fun(I:af) (aA:U→af→Prop)=>ar (k:=aA) (lQ I)
@[go_sem] def OH:=fun(I:af) (b_:Bool) (aA:U→af→Prop)=>aJ (k:=aA) b_ fun aY=>lQ I
theorem sR(I:af)(i k:Nat)(ws:List Int)(hv:kZ .u64 I i k ws)(hw:∀w∈ws,ci w):Fn Tryz.prog 91 [.sl i k ws.length 1] I fun x R=>x= .cw [Iz (dm ws).1,.bool (dm ws).2]∧R=I:=by
 refine ay KB mixed Tryz.func91 (by kernel_rfl) rfl (by kernel_rfl) bE ?_
 by_cases HI:ws=[]
 ·subst HI
  simp(disch:=first|exact dA|fail) [go_sem,bL,wrap_i64,eC,dm]
 ·have hl:0<ws.length:=by cases ws<;>simp at HI⊢
  have df:((ws.length:Int)==0)=false:=by simpa using HI
  have h0:=fun R (h:kZ .u64 R i k ws)=>kZ.load (P:=Tryz.prog) (t:=43) (n:=1) h (by simp[go_sem]) 0 hl
  simp only[Nat.add_zero]at h0
  have mu:=bF hw 0
  by_cases hm:aL (at_ ws 0)=201115
  ·have hc:=aO (w:=at_ ws 0)
   simp(disch:=first|exact dA|fail) [go_sem,bL,wrap_i64,eC,HI,hl,df,h0,hm,KB,Int.tdiv_eq_ediv_of_nonneg,Int.tmod_eq_emod_of_nonneg,dm]
  ·have yD:(aL (at_ ws 0) != 201115)=true:=by simp[hm]
   simp(disch:=first|exact dA|fail) [go_sem,bL,wrap_i64,eC,HI,hl,df,h0,hm,yD,dm]
@[go_sem] def Xj:=fun(I:af) i k ws hv hw (aA:U→af→Prop)=>ar (k:=aA) (sR I i k ws hv hw)
@[go_sem] def Xi:=fun(I:af) (b_:Bool) (i k:Nat) (ws:List Int) (hv:b_=true→ kZ .u64 I i k ws) (hw:b_=true→ ∀w∈ws,ci w) (aA:U→af→Prop)=>aJ (k:=aA) b_ fun aY=>sR I i k ws (hv aY) (hw aY)
theorem zr{ws:List Int}(h:(dm ws).2=true):(dm ws).1.ok:=by
 unfold dm at h⊢
 split at h
 ·cases h
 ·rw[if_neg bZ]
  simpa using h
theorem mi(I:af)(i k:Nat)(ws:List Int)(hv:kZ .u64 I i k ws)(hw:∀w∈ws,ci w):Fn Tryz.prog 29 [.sl i k ws.length 1] I fun x R=>x= .cw [Iz (iV ws).1,.bool (iV ws).2]∧R=I:=by
 refine ay aZ mixed Tryz.func29 (by kernel_rfl) rfl (by kernel_rfl) bE ?_
 cases hc:(dm ws).2 with
 |false=>simp(disch:=first|exact dA|fail) [go_sem,bL,hc,iV]
 |true=>
  have cq:=zr hc
  unfold aM.ok at cq
  by_cases hl:(ws.length:Int)=(dm ws).1.size
  ·have hs:(dm ws).1.size=7+23*(dm ws).1.am+17*(dm ws).1.ah:=rfl
   simp(disch:=first|exact dA|fail) [go_sem,bL,hc,iV,eC,hl,hs]
  ·have df:=hl
   unfold aM.size at df
   have pI:((ws.length:Int) != 7+23*(dm ws).1.am+17*(dm ws).1.ah)=true:=by simpa using df
   simp(disch:=first|exact dA|fail) [go_sem,bL,hc,iV,eC,hl,pI]
@[go_sem] def Pm:=fun(I:af) i k ws hv hw (aA:U→af→Prop)=>ar (k:=aA) (mi I i k ws hv hw)
@[go_sem] def Pl:=fun(I:af) (b_:Bool) (i k:Nat) (ws:List Int) (hv:b_=true→ kZ .u64 I i k ws) (hw:b_=true→ ∀w∈ws,ci w) (aA:U→af→Prop)=>aJ (k:=aA) b_ fun aY=>mi I i k ws (hv aY) (hw aY)
theorem lD(I:af) :Fn Tryz.prog 29 [.al] I fun x R=>x= .cw [Iz ⟨0,0,0⟩,.bool false]∧R=I:=by
 refine ay aZ mixed Tryz.func29 (by kernel_rfl) rfl (by kernel_rfl) bE ?_
 simp(disch:=first|exact dA|fail) [go_sem,bL]
@[go_sem] def HN:=fun(I:af) (aA:U→af→Prop)=>ar (k:=aA) (lD I)
@[go_sem] def HM:=fun(I:af) (b_:Bool) (aA:U→af→Prop)=>aJ (k:=aA) b_ fun aY=>lD I
theorem rt(I:af)(i k:Nat)(ws:List Int)(mG:Int)(hv:kZ .u64 I i k ws)(hl:(ws.length:Int)<1000000):Fn Tryz.prog 255 [.sl i k ws.length 1,.int .i64 mG] I fun x R=>x= .int .u64 (if 0≤mG then at_ ws mG else 0)∧R=I:=by
 refine ay aZ mixed Tryz.func255 (by kernel_rfl) rfl (by kernel_rfl) bE ?_
 by_cases h0:0≤mG
 ·by_cases h1:mG<ws.length
  ·have h5:=fun R (h:kZ .u64 R i k ws)=>kZ.load (P:=Tryz.prog) (t:=43) (n:=1) h (by simp[go_sem]) mG.toNat J
   have h3:mG≤ws.length-1:=J
   have h4:((mG.toNat:Nat):Int)=mG:=J
   rw[h4]at h5
   simp(disch:=first|exact dA|fail) [go_sem,bL,eC,wrap_i64,h0,h1,h3,h5]
  ·have h3:¬mG≤ws.length-1:=J
   have h4:at_ ws mG=0:=by unfold at_;rw[List.getD_eq_getElem?_getD,List.getElem?_eq_none J];rfl
   simp(disch:=first|exact dA|fail) [go_sem,bL,eC,wrap_i64,h0,h1,h3,h4]
 ·simp(disch:=first|exact dA|fail) [go_sem,bL,eC,wrap_i64,h0]
@[go_sem] def Rj:=fun(I:af) i k ws mG hv hl (aA:U→af→Prop)=>ar (k:=aA) (rt I i k ws mG hv hl)
@[go_sem] def Ri:=fun(I:af) (b_:Bool) (i k:Nat) (ws:List Int) (mG:Int) (hv:b_=true→ kZ .u64 I i k ws) (hl:b_=true→ (ws.length:Int)<1000000) (aA:U→af→Prop)=>aJ (k:=aA) b_ fun aY=>rt I i k ws mG (hv aY) (hl aY)
theorem yO(I:af)(aT ao clock bH:Int)(hb:ci aT)(hc:0≤clock∧clock≤4294967296):Fn Tryz.prog 98 [.int .u64 aT,.int .i64 ao,.int .i64 clock,.int .i64 bH] I fun x R=>x= .bool (lK aT ao clock bH)∧R=I:=by
 refine ay aZ mixed Tryz.func98 (by kernel_rfl) rfl (by kernel_rfl) bE ?_
 have hv:=aO (w:=aT)
 by_cases h0:ao<aL aT<;>by_cases h1:aL aT=ao<;>simp(disch:=first|exact dA|fail) [go_sem,bL,wrap_i64,h0,h1,lK]
@[go_sem] def Xg:=fun(I:af) aT ao clock bH hb hc (aA:U→af→Prop)=>ar (k:=aA) (yO I aT ao clock bH hb hc)
@[go_sem] def Xf:=fun(I:af) (b_:Bool) (aT ao clock bH:Int) (hb:b_=true→ ci aT) (hc:b_=true→ 0≤clock∧clock≤4294967296) (aA:U→af→Prop)=>aJ (k:=aA) b_ fun aY=>yO I aT ao clock bH (hb aY) (hc aY)
end AH
namespace AH
open Go Go.Proofs Ho
set_option maxRecDepth 10000
theorem F_(I:af)(i k:Nat)(yes no:Int)(bp:List U)(up:Bool)(slot:Int)(ao:Int)(busy:Bool)(aE:Int)(aH:Int)(oa:Int)(ob:Int)(pc:Int)(gk:Int)(gn:Int)(seq:Int)(next:Int)(aX:Int)(aK:Int)(own:Bool)(time:Int)(bw:Int)(door:Int)(aT:Int)(entry:Int)(sv:U)(pv:U)(code:Int)(val:Int)(count:Int)(hk:k+26≤bp.length)(hg:I.get i=some ⟨aB bp k [.bool up,.int .i64 slot,.int .i64 ao,.bool busy,.int .i64 aE,.int .i64 aH,.int .i64 oa,.int .i64 ob,.int .i64 pc,.int .i64 gk,.int .i64 gn,.int .i64 seq,.int .i64 next,.int .i64 aX,.int .i64 aK,.bool own,.int .i64 time,.int .u64 bw,.int .u64 door,.int .u64 aT,.int .u64 entry,sv,pv,.int .i64 code,.int .i64 val,.int .i64 count],true⟩):Fn Tryz.prog 242 [.ptr i k,.bool true,.int .i64 yes,.int .i64 no] I fun x R=>x= .cw []∧R=I.set i ⟨aB bp k [.bool up,.int .i64 slot,.int .i64 ao,.bool busy,.int .i64 aE,.int .i64 aH,.int .i64 oa,.int .i64 ob,.int .i64 yes,.int .i64 gk,.int .i64 gn,.int .i64 seq,.int .i64 next,.int .i64 aX,.int .i64 aK,.bool own,.int .i64 time,.int .u64 bw,.int .u64 door,.int .u64 aT,.int .u64 entry,sv,pv,.int .i64 code,.int .i64 val,.int .i64 count],true⟩:=by
 refine ec aZ mixed Tryz.func242 (by kernel_rfl) rfl (by kernel_rfl) ?_ ?_ ?_ ?_
 ·rfl
 ·rfl
 ·exact dJ hg (i9 aV bX kx)
 simp(disch:=first|exact dA|fail) [go_sem,bL,hg]
@[go_sem] def TW:=fun(I:af) i k yes no bp up slot ao busy aE aH oa ob pc gk gn seq next aX aK own time bw door aT entry sv pv code val count hk hg (aA:U→af→Prop)=>ar (k:=aA) (F_ I i k yes no bp up slot ao busy aE aH oa ob pc gk gn seq next aX aK own time bw door aT entry sv pv code val count hk hg)
theorem F9(I:af)(i k:Nat)(yes no:Int)(bp:List U)(up:Bool)(slot:Int)(ao:Int)(busy:Bool)(aE:Int)(aH:Int)(oa:Int)(ob:Int)(pc:Int)(gk:Int)(gn:Int)(seq:Int)(next:Int)(aX:Int)(aK:Int)(own:Bool)(time:Int)(bw:Int)(door:Int)(aT:Int)(entry:Int)(sv:U)(pv:U)(code:Int)(val:Int)(count:Int)(hk:k+26≤bp.length)(hg:I.get i=some ⟨aB bp k [.bool up,.int .i64 slot,.int .i64 ao,.bool busy,.int .i64 aE,.int .i64 aH,.int .i64 oa,.int .i64 ob,.int .i64 pc,.int .i64 gk,.int .i64 gn,.int .i64 seq,.int .i64 next,.int .i64 aX,.int .i64 aK,.bool own,.int .i64 time,.int .u64 bw,.int .u64 door,.int .u64 aT,.int .u64 entry,sv,pv,.int .i64 code,.int .i64 val,.int .i64 count],true⟩):Fn Tryz.prog 242 [.ptr i k,.bool false,.int .i64 yes,.int .i64 no] I fun x R=>x= .cw []∧R=I.set i ⟨aB bp k [.bool up,.int .i64 slot,.int .i64 ao,.bool busy,.int .i64 aE,.int .i64 aH,.int .i64 oa,.int .i64 ob,.int .i64 no,.int .i64 gk,.int .i64 gn,.int .i64 seq,.int .i64 next,.int .i64 aX,.int .i64 aK,.bool own,.int .i64 time,.int .u64 bw,.int .u64 door,.int .u64 aT,.int .u64 entry,sv,pv,.int .i64 code,.int .i64 val,.int .i64 count],true⟩:=by
 refine ec aZ mixed Tryz.func242 (by kernel_rfl) rfl (by kernel_rfl) ?_ ?_ ?_ ?_
 ·rfl
 ·rfl
 ·exact dJ hg (i9 aV bX kx)
 simp(disch:=first|exact dA|fail) [go_sem,bL,hg]
@[go_sem] def TV:=fun(I:af) i k yes no bp up slot ao busy aE aH oa ob pc gk gn seq next aX aK own time bw door aT entry sv pv code val count hk hg (aA:U→af→Prop)=>ar (k:=aA) (F9 I i k yes no bp up slot ao busy aE aH oa ob pc gk gn seq next aX aK own time bw door aT entry sv pv code val count hk hg)
def ad:List U:=[]
theorem LB(I:af)(i k:Nat)(cd:Int)(bp:List U)(up:Bool)(slot:Int)(ao:Int)(busy:Bool)(aE:Int)(aH:Int)(oa:Int)(ob:Int)(pc:Int)(gk:Int)(gn:Int)(seq:Int)(next:Int)(aX:Int)(aK:Int)(own:Bool)(time:Int)(bw:Int)(door:Int)(aT:Int)(entry:Int)(sv:U)(pv:U)(code:Int)(val:Int)(count:Int)(hk:k+26≤bp.length)(hg:I.get i=some ⟨aB bp k [.bool up,.int .i64 slot,.int .i64 ao,.bool busy,.int .i64 aE,.int .i64 aH,.int .i64 oa,.int .i64 ob,.int .i64 pc,.int .i64 gk,.int .i64 gn,.int .i64 seq,.int .i64 next,.int .i64 aX,.int .i64 aK,.bool own,.int .i64 time,.int .u64 bw,.int .u64 door,.int .u64 aT,.int .u64 entry,sv,pv,.int .i64 code,.int .i64 val,.int .i64 count],true⟩):Fn Tryz.prog 266 [.ptr i k,.int .i64 cd] I fun x R=>x= .cw []∧R=I.set i ⟨aB bp k [.bool up,.int .i64 slot,.int .i64 ao,.bool busy,.int .i64 aE,.int .i64 aH,.int .i64 oa,.int .i64 ob,.int .i64 26,.int .i64 gk,.int .i64 gn,.int .i64 seq,.int .i64 next,.int .i64 aX,.int .i64 aK,.bool own,.int .i64 time,.int .u64 bw,.int .u64 door,.int .u64 aT,.int .u64 entry,sv,pv,.int .i64 cd,.int .i64 val,.int .i64 count],true⟩:=by
 refine ec aZ mixed Tryz.func266 (by kernel_rfl) rfl (by kernel_rfl) ?_ ?_ ?_ ?_
 ·rfl
 ·rfl
 ·exact dJ hg (i9 aV bX kx)
 simp(disch:=first|exact dA|fail) [go_sem,bL,hg,aZ]
@[go_sem] def Y6:=fun(I:af) i k cd bp up slot ao busy aE aH oa ob pc gk gn seq next aX aK own time bw door aT entry sv pv code val count hk hg (aA:U→af→Prop)=>ar (k:=aA) (LB I i k cd bp up slot ao busy aE aH oa ob pc gk gn seq next aX aK own time bw door aT entry sv pv code val count hk hg)
theorem AY(I:af)(i k:Nat)(bp:List U)(up:Bool)(slot:Int)(ao:Int)(busy:Bool)(aE:Int)(aH:Int)(oa:Int)(ob:Int)(pc:Int)(gk:Int)(gn:Int)(seq:Int)(next:Int)(aX:Int)(aK:Int)(own:Bool)(time:Int)(bw:Int)(door:Int)(aT:Int)(entry:Int)(sv:U)(pv:U)(code:Int)(val:Int)(count:Int)(hk:k+26≤bp.length)(hg:I.get i=some ⟨aB bp k [.bool up,.int .i64 slot,.int .i64 ao,.bool busy,.int .i64 aE,.int .i64 aH,.int .i64 oa,.int .i64 ob,.int .i64 pc,.int .i64 gk,.int .i64 gn,.int .i64 seq,.int .i64 next,.int .i64 aX,.int .i64 aK,.bool own,.int .i64 time,.int .u64 bw,.int .u64 door,.int .u64 aT,.int .u64 entry,sv,pv,.int .i64 code,.int .i64 val,.int .i64 count],true⟩):Fn Tryz.prog 251 [.ptr i k] I fun x R=>x= .cw []∧R=I.set i ⟨aB bp k [.bool up,.int .i64 slot,.int .i64 ao,.bool busy,.int .i64 aE,.int .i64 aH,.int .i64 oa,.int .i64 ob,.int .i64 11,.int .i64 0,.int .i64 gn,.int .i64 seq,.int .i64 next,.int .i64 aX,.int .i64 aK,.bool own,.int .i64 time,.int .u64 bw,.int .u64 door,.int .u64 aT,.int .u64 entry,.al,pv,.int .i64 code,.int .i64 val,.int .i64 count],true⟩:=by
 refine ec aZ mixed Tryz.func251 (by kernel_rfl) rfl (by kernel_rfl) ?_ ?_ ?_ ?_
 ·rfl
 ·rfl
 ·exact dJ hg (i9 aV bX kx)
 simp(disch:=first|exact dA|fail) [go_sem,bL,hg,aZ]
@[go_sem] def Rm:=fun(I:af) i k bp up slot ao busy aE aH oa ob pc gk gn seq next aX aK own time bw door aT entry sv pv code val count hk hg (aA:U→af→Prop)=>ar (k:=aA) (AY I i k bp up slot ao busy aE aH oa ob pc gk gn seq next aX aK own time bw door aT entry sv pv code val count hk hg)
theorem zx(I:af)(i k:Nat)(cd v:Int)(bp:List U)(up:Bool)(slot:Int)(ao:Int)(busy:Bool)(aE:Int)(aH:Int)(oa:Int)(ob:Int)(pc:Int)(gk:Int)(gn:Int)(seq:Int)(next:Int)(aX:Int)(aK:Int)(own:Bool)(time:Int)(bw:Int)(door:Int)(aT:Int)(entry:Int)(sv:U)(pv:U)(code:Int)(val:Int)(count:Int)(hk:k+26≤bp.length)(hg:I.get i=some ⟨aB bp k [.bool up,.int .i64 slot,.int .i64 ao,.bool busy,.int .i64 aE,.int .i64 aH,.int .i64 oa,.int .i64 ob,.int .i64 pc,.int .i64 gk,.int .i64 gn,.int .i64 seq,.int .i64 next,.int .i64 aX,.int .i64 aK,.bool own,.int .i64 time,.int .u64 bw,.int .u64 door,.int .u64 aT,.int .u64 entry,sv,pv,.int .i64 code,.int .i64 val,.int .i64 count],true⟩)(hc:0≤count∧count<100000000):Fn Tryz.prog 179 [.ptr i k,.int .i64 cd,.int .i64 v] I fun x R=>x= .cw []∧R=I.set i ⟨aB bp k [.bool up,.int .i64 slot,.int .i64 (if aE=5∧cd=0 then 0 else ao),.bool false,.int .i64 aE,.int .i64 aH,.int .i64 oa,.int .i64 ob,.int .i64 0,.int .i64 0,.int .i64 0,.int .i64 0,.int .i64 0,.int .i64 0,.int .i64 0,.bool false,.int .i64 0,.int .u64 0,.int .u64 0,.int .u64 0,.int .u64 0,.al,.al,.int .i64 cd,.int .i64 v,.int .i64 (count+1)],true⟩:=by
 refine ec Kq mixed Tryz.func179 (by kernel_rfl) rfl (by kernel_rfl) ?_ ?_ ?_ ?_
 ·rfl
 ·rfl
 ·exact dJ hg (i9 aV bX kx)
 by_cases h1:aE=5<;>by_cases h2:cd=0<;>simp(disch:=first|exact dA|fail) [go_sem,bL,hg,Kq,wrap_i64,h1,h2]
@[go_sem] def PE:=fun(I:af) i k cd v bp up slot ao busy aE aH oa ob pc gk gn seq next aX aK own time bw door aT entry sv pv code val count hk hg hc (aA:U→af→Prop)=>ar (k:=aA) (zx I i k cd v bp up slot ao busy aE aH oa ob pc gk gn seq next aX aK own time bw door aT entry sv pv code val count hk hg hc)
theorem EE(I:af)(i k:Nat)(bp:List U)(up:Bool)(slot:Int)(ao:Int)(busy:Bool)(aE:Int)(aH:Int)(oa:Int)(ob:Int)(pc:Int)(gk:Int)(gn:Int)(seq:Int)(next:Int)(aX:Int)(aK:Int)(own:Bool)(time:Int)(bw:Int)(door:Int)(aT:Int)(entry:Int)(sv:U)(pv:U)(code:Int)(val:Int)(count:Int)(hk:k+26≤bp.length)(hg:I.get i=some ⟨aB bp k [.bool up,.int .i64 slot,.int .i64 ao,.bool busy,.int .i64 aE,.int .i64 aH,.int .i64 oa,.int .i64 ob,.int .i64 pc,.int .i64 gk,.int .i64 gn,.int .i64 seq,.int .i64 next,.int .i64 aX,.int .i64 aK,.bool own,.int .i64 time,.int .u64 bw,.int .u64 door,.int .u64 aT,.int .u64 entry,sv,pv,.int .i64 code,.int .i64 val,.int .i64 count],true⟩):Fn Tryz.prog 250 [.ptr i k] I fun x R=>x= .int .u64 (cK 1 slot ao seq)∧R=I:=by
 refine ay Kv mixed Tryz.func250 (by kernel_rfl) rfl (by kernel_rfl) bE ?_
 simp(disch:=first|exact dA|fail) [go_sem,bL,hg,Kv]
@[go_sem] def aaC:=fun(I:af) i k bp up slot ao busy aE aH oa ob pc gk gn seq next aX aK own time bw door aT entry sv pv code val count hk hg (aA:U→af→Prop)=>ar (k:=aA) (EE I i k bp up slot ao busy aE aH oa ob pc gk gn seq next aX aK own time bw door aT entry sv pv code val count hk hg)
@[go_sem] def aaB:=fun(I:af) (b_:Bool) (i k:Nat) (bp:List U) (up:Bool) (slot:Int) (ao:Int) (busy:Bool) (aE:Int) (aH:Int) (oa:Int) (ob:Int) (pc:Int) (gk:Int) (gn:Int) (seq:Int) (next:Int) (aX:Int) (aK:Int) (own:Bool) (time:Int) (bw:Int) (door:Int) (aT:Int) (entry:Int) (sv:U) (pv:U) (code:Int) (val:Int) (count:Int) (hk:b_=true→ k+26≤bp.length) (hg:b_=true→ I.get i=some ⟨aB bp k [.bool up,.int .i64 slot,.int .i64 ao,.bool busy,.int .i64 aE,.int .i64 aH,.int .i64 oa,.int .i64 ob,.int .i64 pc,.int .i64 gk,.int .i64 gn,.int .i64 seq,.int .i64 next,.int .i64 aX,.int .i64 aK,.bool own,.int .i64 time,.int .u64 bw,.int .u64 door,.int .u64 aT,.int .u64 entry,sv,pv,.int .i64 code,.int .i64 val,.int .i64 count],true⟩) (aA:U→af→Prop)=>aJ (k:=aA) b_ fun aY=>EE I i k bp up slot ao busy aE aH oa ob pc gk gn seq next aX aK own time bw door aT entry sv pv code val count (hk aY) (hg aY)
theorem zN(I:af)(i k:Nat)(bp:List U)(up:Bool)(slot:Int)(ao:Int)(busy:Bool)(aE:Int)(aH:Int)(oa:Int)(ob:Int)(pc:Int)(gk:Int)(gn:Int)(seq:Int)(next:Int)(aX:Int)(aK:Int)(own:Bool)(time:Int)(bw:Int)(door:Int)(aT:Int)(entry:Int)(sv:U)(pv:U)(code:Int)(val:Int)(count:Int)(hk:k+26≤bp.length)(hg:I.get i=some ⟨aB bp k [.bool up,.int .i64 slot,.int .i64 ao,.bool busy,.int .i64 aE,.int .i64 aH,.int .i64 oa,.int .i64 ob,.int .i64 pc,.int .i64 gk,.int .i64 gn,.int .i64 seq,.int .i64 next,.int .i64 aX,.int .i64 aK,.bool own,.int .i64 time,.int .u64 bw,.int .u64 door,.int .u64 aT,.int .u64 entry,sv,pv,.int .i64 code,.int .i64 val,.int .i64 count],true⟩):Fn Tryz.prog 254 [.ptr i k] I fun x R=>x= .int .u64 (cK 2 slot ao seq)∧R=I:=by
 refine ay Kw mixed Tryz.func254 (by kernel_rfl) rfl (by kernel_rfl) bE ?_
 simp(disch:=first|exact dA|fail) [go_sem,bL,hg,Kw]
@[go_sem] def XH:=fun(I:af) i k bp up slot ao busy aE aH oa ob pc gk gn seq next aX aK own time bw door aT entry sv pv code val count hk hg (aA:U→af→Prop)=>ar (k:=aA) (zN I i k bp up slot ao busy aE aH oa ob pc gk gn seq next aX aK own time bw door aT entry sv pv code val count hk hg)
@[go_sem] def XG:=fun(I:af) (b_:Bool) (i k:Nat) (bp:List U) (up:Bool) (slot:Int) (ao:Int) (busy:Bool) (aE:Int) (aH:Int) (oa:Int) (ob:Int) (pc:Int) (gk:Int) (gn:Int) (seq:Int) (next:Int) (aX:Int) (aK:Int) (own:Bool) (time:Int) (bw:Int) (door:Int) (aT:Int) (entry:Int) (sv:U) (pv:U) (code:Int) (val:Int) (count:Int) (hk:b_=true→ k+26≤bp.length) (hg:b_=true→ I.get i=some ⟨aB bp k [.bool up,.int .i64 slot,.int .i64 ao,.bool busy,.int .i64 aE,.int .i64 aH,.int .i64 oa,.int .i64 ob,.int .i64 pc,.int .i64 gk,.int .i64 gn,.int .i64 seq,.int .i64 next,.int .i64 aX,.int .i64 aK,.bool own,.int .i64 time,.int .u64 bw,.int .u64 door,.int .u64 aT,.int .u64 entry,sv,pv,.int .i64 code,.int .i64 val,.int .i64 count],true⟩) (aA:U→af→Prop)=>aJ (k:=aA) b_ fun aY=>zN I i k bp up slot ao busy aE aH oa ob pc gk gn seq next aX aK own time bw door aT entry sv pv code val count (hk aY) (hg aY)
theorem zO(I:af)(i k:Nat)(bp:List U)(up:Bool)(slot:Int)(ao:Int)(busy:Bool)(aE:Int)(aH:Int)(oa:Int)(ob:Int)(pc:Int)(gk:Int)(gn:Int)(seq:Int)(next:Int)(aX:Int)(aK:Int)(own:Bool)(time:Int)(bw:Int)(door:Int)(aT:Int)(entry:Int)(sv:U)(pv:U)(code:Int)(val:Int)(count:Int)(hk:k+26≤bp.length)(hg:I.get i=some ⟨aB bp k [.bool up,.int .i64 slot,.int .i64 ao,.bool busy,.int .i64 aE,.int .i64 aH,.int .i64 oa,.int .i64 ob,.int .i64 pc,.int .i64 gk,.int .i64 gn,.int .i64 seq,.int .i64 next,.int .i64 aX,.int .i64 aK,.bool own,.int .i64 time,.int .u64 bw,.int .u64 door,.int .u64 aT,.int .u64 entry,sv,pv,.int .i64 code,.int .i64 val,.int .i64 count],true⟩)(hs:0≤seq∧seq<1000000000):Fn Tryz.prog 246 [.ptr i k] I fun x R=>x= .int .u64 (cK 0 0 0 (seq+1))∧R=I:=by
 refine ay aZ mixed Tryz.func246 (by kernel_rfl) rfl (by kernel_rfl) bE ?_
 simp(disch:=first|exact dA|fail) [go_sem,bL,hg,aZ,wrap_i64]
@[go_sem] def XJ:=fun(I:af) i k bp up slot ao busy aE aH oa ob pc gk gn seq next aX aK own time bw door aT entry sv pv code val count hk hg hs (aA:U→af→Prop)=>ar (k:=aA) (zO I i k bp up slot ao busy aE aH oa ob pc gk gn seq next aX aK own time bw door aT entry sv pv code val count hk hg hs)
@[go_sem] def XI:=fun(I:af) (b_:Bool) (i k:Nat) (bp:List U) (up:Bool) (slot:Int) (ao:Int) (busy:Bool) (aE:Int) (aH:Int) (oa:Int) (ob:Int) (pc:Int) (gk:Int) (gn:Int) (seq:Int) (next:Int) (aX:Int) (aK:Int) (own:Bool) (time:Int) (bw:Int) (door:Int) (aT:Int) (entry:Int) (sv:U) (pv:U) (code:Int) (val:Int) (count:Int) (hk:b_=true→ k+26≤bp.length) (hg:b_=true→ I.get i=some ⟨aB bp k [.bool up,.int .i64 slot,.int .i64 ao,.bool busy,.int .i64 aE,.int .i64 aH,.int .i64 oa,.int .i64 ob,.int .i64 pc,.int .i64 gk,.int .i64 gn,.int .i64 seq,.int .i64 next,.int .i64 aX,.int .i64 aK,.bool own,.int .i64 time,.int .u64 bw,.int .u64 door,.int .u64 aT,.int .u64 entry,sv,pv,.int .i64 code,.int .i64 val,.int .i64 count],true⟩) (hs:b_=true→ 0≤seq∧seq<1000000000) (aA:U→af→Prop)=>aJ (k:=aA) b_ fun aY=>zO I i k bp up slot ao busy aE aH oa ob pc gk gn seq next aX aK own time bw door aT entry sv pv code val count (hk aY) (hg aY) (hs aY)
end AH
namespace AH
open Go Go.Proofs Ho
set_option maxRecDepth 10000
theorem E5(I:af)(i k j n:Nat)(s p l slot:Int)(hs:0≤s∧s≤1000)(h:0≤slot∧slot≤1000):Fn Tryz.prog 244 [.agg [.ptr i k,.int .i64 s,.int .i64 p,.int .i64 l,.sl j 0 n 1],.int .i64 slot] I fun x R=>x= .int .i64 (3+slot)∧R=I:=by
 refine ay aZ mixed Tryz.func244 (by kernel_rfl) rfl (by kernel_rfl) bE ?_
 simp(disch:=first|exact dA|fail) [go_sem,bL,aZ,wrap_i64]
@[go_sem] def adi:=fun(I:af) i k j n s p l slot hs h (aA:U→af→Prop)=>ar (k:=aA) (E5 I i k j n s p l slot hs h)
@[go_sem] def adh:=fun(I:af) (b_:Bool) (i k j n:Nat) (s p l slot:Int) (hs:b_=true→ 0≤s∧s≤1000) (h:b_=true→ 0≤slot∧slot≤1000) (aA:U→af→Prop)=>aJ (k:=aA) b_ fun aY=>E5 I i k j n s p l slot (hs aY) (h aY)
theorem AS(I:af)(i k j n:Nat)(s p l slot:Int)(hs:0≤s∧s≤1000)(h:0≤slot∧slot≤1000):Fn Tryz.prog 240 [.agg [.ptr i k,.int .i64 s,.int .i64 p,.int .i64 l,.sl j 0 n 1],.int .i64 slot] I fun x R=>x= .int .i64 (3+s+slot)∧R=I:=by
 refine ay aZ mixed Tryz.func240 (by kernel_rfl) rfl (by kernel_rfl) bE ?_
 simp(disch:=first|exact dA|fail) [go_sem,bL,aZ,wrap_i64]
@[go_sem] def Yz:=fun(I:af) i k j n s p l slot hs h (aA:U→af→Prop)=>ar (k:=aA) (AS I i k j n s p l slot hs h)
@[go_sem] def Yy:=fun(I:af) (b_:Bool) (i k j n:Nat) (s p l slot:Int) (hs:b_=true→ 0≤s∧s≤1000) (h:b_=true→ 0≤slot∧slot≤1000) (aA:U→af→Prop)=>aJ (k:=aA) b_ fun aY=>AS I i k j n s p l slot (hs aY) (h aY)
theorem AT(I:af)(i k j n:Nat)(s p l slot:Int)(hc:aM.ok ⟨s,p,l⟩)(h:0≤slot∧slot<s):Fn Tryz.prog 247 [.agg [.ptr i k,.int .i64 s,.int .i64 p,.int .i64 l,.sl j 0 n 1],.int .i64 slot] I fun x R=>x= .int .i64 (7+2*s+17*p+21*slot)∧R=I:=by
 refine ay aZ mixed Tryz.func247 (by kernel_rfl) rfl (by kernel_rfl) bE ?_
 simp(disch:=first|exact dA|fail) [go_sem,bL,aZ,wrap_i64,h]
@[go_sem] def YB:=fun(I:af) i k j n s p l slot hc h (aA:U→af→Prop)=>ar (k:=aA) (AT I i k j n s p l slot hc h)
@[go_sem] def YA:=fun(I:af) (b_:Bool) (i k j n:Nat) (s p l slot:Int) (hc:b_=true→ aM.ok ⟨s,p,l⟩) (h:b_=true→ 0≤slot∧slot<s) (aA:U→af→Prop)=>aJ (k:=aA) b_ fun aY=>AT I i k j n s p l slot (hc aY) (h aY)
theorem wl(I:af)(i k j:Nat)(s p l:Int)(ws:List Int)(hj:j<I.n)(hw:I.get j=some ⟨ws.map (.int .u64),true⟩)(hW:∀w∈ws,ci w)(hl:1<ws.length):Fn Tryz.prog 241 [.agg [.ptr i k,.int .i64 s,.int .i64 p,.int .i64 l,.sl j 0 ws.length 1]] I fun x R=>x= .int .i64 (aG (at_ ws 1))∧R=I:=by
 refine ay aZ mixed Tryz.func241 (by kernel_rfl) rfl (by kernel_rfl) bE ?_
 have h1:ws[1]=at_ ws 1:=by simp[at_,hl]
 have h2:(1:Int)<ws.length:=J
 have Yc:=bF hW 1
 simp(disch:=first|exact dA|fail) [go_sem,bL,aZ,wrap_i64,hw,hl,h1,h2]
@[go_sem] def Vz:=fun(I:af) i k j s p l ws hj hw hW hl (aA:U→af→Prop)=>ar (k:=aA) (wl I i k j s p l ws hj hw hW hl)
@[go_sem] def Vy:=fun(I:af) (b_:Bool) (i k j:Nat) (s p l:Int) (ws:List Int) (hj:b_=true→ j<I.n) (hw:b_=true→ I.get j=some ⟨ws.map (.int .u64),true⟩) (hW:b_=true→ ∀w∈ws,ci w) (hl:b_=true→ 1<ws.length) (aA:U→af→Prop)=>aJ (k:=aA) b_ fun aY=>wl I i k j s p l ws (hj aY) (hw aY) (hW aY) (hl aY)
theorem GZ(I:af)(i k j:Nat)(s p l a ii now:Int)(ws:List Int)(hj:j<I.n)(hw:I.get j=some ⟨ws.map (.int .u64),true⟩)(hl:(ws.length:Int)<1000000)(h0:0≤a)(h1:a<ws.length)(h2:at_ ws a=ii):Fn Tryz.prog 243 [.agg [.ptr i k,.int .i64 s,.int .i64 p,.int .i64 l,.sl j 0 ws.length 1],.int .i64 a,.int .u64 ii,.int .u64 now] I fun x R=>x= .bool true∧R=I.set j ⟨(ws.set a.toNat now).map (.int .u64),true⟩:=by
 refine ec aZ mixed Tryz.func243 (by kernel_rfl) rfl (by kernel_rfl) ?_ ?_ ?_ ?_
 ·rfl
 ·rfl
 ·exact dJ hw (fun a ha=> .inl (nM ha))
 have h3:a≤ws.length-1:=J
 simp(disch:=first|exact dA|fail) [go_sem,bL,aZ,wrap_i64,eC,hw,h0,h1,h2,h3]
@[go_sem] def VF:=fun(I:af) i k j s p l a ii now ws hj hw hl h0 h1 h2 (aA:U→af→Prop)=>ar (k:=aA) (GZ I i k j s p l a ii now ws hj hw hl h0 h1 h2)
theorem wr(I:af)(i k j:Nat)(s p l a ii now:Int)(ws:List Int)(hj:j<I.n)(hw:I.get j=some ⟨ws.map (.int .u64),true⟩)(hl:(ws.length:Int)<1000000)(h0:0≤a)(h1:a<ws.length)(h2:¬at_ ws a=ii):Fn Tryz.prog 243 [.agg [.ptr i k,.int .i64 s,.int .i64 p,.int .i64 l,.sl j 0 ws.length 1],.int .i64 a,.int .u64 ii,.int .u64 now] I fun x R=>x= .bool false∧R=I:=by
 refine ay aZ mixed Tryz.func243 (by kernel_rfl) rfl (by kernel_rfl) bE ?_
 have h3:a≤ws.length-1:=J
 simp(disch:=first|exact dA|fail) [go_sem,bL,aZ,wrap_i64,eC,hw,h0,h1,h2,h3]
@[go_sem] def VC:=fun(I:af) i k j s p l a ii now ws hj hw hl h0 h1 h2 (aA:U→af→Prop)=>ar (k:=aA) (wr I i k j s p l a ii now ws hj hw hl h0 h1 h2)
@[go_sem] def VB:=fun(I:af) (b_:Bool) (i k j:Nat) (s p l a ii now:Int) (ws:List Int) (hj:b_=true→ j<I.n) (hw:b_=true→ I.get j=some ⟨ws.map (.int .u64),true⟩) (hl:b_=true→ (ws.length:Int)<1000000) (h0:b_=true→ 0≤a) (h1:b_=true→ a<ws.length) (h2:b_=true→ ¬at_ ws a=ii) (aA:U→af→Prop)=>aJ (k:=aA) b_ fun aY=>wr I i k j s p l a ii now ws (hj aY) (hw aY) (hl aY) (h0 aY) (h1 aY) (h2 aY)
end AH
namespace AH
open Go Go.Proofs Ho
set_option maxRecDepth 10000
set_option maxHeartbeats 4000000
abbrev iG(g:ag)(sv pv:U):List U:=[.bool g.up,.int .i64 g.slot,.int .i64 g.ao,.bool g.busy,.int .i64 g.aE,.int .i64 g.aH,.int .i64 g.oa,.int .i64 g.ob,.int .i64 g.pc,.int .i64 g.gk,.int .i64 g.gn,.int .i64 g.seq,.int .i64 g.next,.int .i64 g.aX,.int .i64 g.aK,.bool g.own,.int .i64 g.time,.int .u64 g.bw,.int .u64 g.door,.int .u64 g.aT,.int .u64 g.entry,sv,pv,.int .i64 g.code,.int .i64 g.val,.int .i64 g.count]
abbrev gl(I:af)(i k j:Nat)(bp:List U)(sv pv:U)(o:Out):af:=
 (I.set j ⟨o.ws.map (.int .u64),true⟩).set i ⟨aB bp k (iG o.g (if o.x8=true then .al else sv) (if o.xZ=true then .al else pv)),true⟩
theorem fm{I:af}{j:Nat}{B:cT}(h:I.get j=some B):I.set j B=I:=by
 cases I
 unfold af.set
 congr 1
 funext q
 dsimp only at h⊢
 split
 ·rename_i e;rw[e,h]
 ·rfl
theorem set_comm{i j:Nat}(h:i≠j)(I:af)(A B:cT):(I.set i A).set j B=(I.set j B).set i A:=by
 unfold af.set
 congr 1
 funext q
 dsimp only
 by_cases e:q=j
 ·subst e;rw[if_pos rfl,if_neg (Ne.symm h),if_pos rfl]
 ·rw[if_neg e]
  by_cases e':q=i
  ·rw[if_pos e',if_pos e']
  ·rw[if_neg e',if_neg e',if_neg e]
structure cZ(I:af)(i k j:Nat)(bp:List U)(c:aM)(ws:List Int)(g:ag)(sv pv:U):Prop where
 hi:i<I.n
 hj:j<I.n
 gW:i≠j
 hk:k+26≤bp.length
 hg:I.get i=some ⟨aB bp k (iG g sv pv),true⟩
 hw:I.get j=some ⟨ws.map (.int .u64),true⟩
 hW:∀w∈ws,ci w
 hl:(ws.length:Int)=c.size
 hc:c.ok
 gw:g.words
 ok:fR c g
 ct:0≤g.count∧g.count<100000000
abbrev jD(i k j:Nat)(c:aM)(ws:List Int):U:= .agg [.ptr i k,.int .i64 c.am,.int .i64 c.ah,.int .i64 c.bH,.sl j 0 ws.length 1]
theorem EW{I:af}{i k j:Nat}{bp:List U}{c:aM}{ws:List Int}{g:ag}{sv pv:U}(h:cZ I i k j bp c ws g sv pv)(o:Out):
 ∀y,y<I.n→(gl I i k j bp sv pv o).get y=I.get y∨∀B,(gl I i k j bp sv pv o).get y=some B→∃C,I.get y=some C∧∀a∈B.cells,a.lt I.n=true∨a∈C.cells:=by
 intro y _
 by_cases e:y=i
 ·right
  intro B hB
  rw[af.cX,if_pos e]at hB
  cases hB
  subst e
  refine⟨_,h.hg,i9 aV (by simp;have:=h.hk;omega) ?_⟩
  intro a ha
  have key:a.lt I.n=true∨a=(if o.x8=true then U.al else sv)∨a=(if o.xZ=true then U.al else pv):=by
   simp only[iG,List.mem_cons,List.not_mem_nil,or_false]at ha
   rcases ha with h|h|h|h|h|h|h|h|h|h|h|h|h|h|h|h|h|h|h|h|h|h|h|h|h|h<;>first|exact .inl (h▸rfl)|exact .inr (.inl h)|exact .inr (.inr h)
  rcases key with h1|h1|h1
  ·exact .inl h1
  ·rw[h1];split
   ·exact .inl rfl
   ·exact .inr aV
  ·rw[h1];split
   ·exact .inl rfl
   ·exact .inr aV
 ·by_cases e':y=j
  ·right
   intro B hB
   rw[af.cX,if_neg e,af.cX,if_pos e']at hB
   cases hB
   subst e'
   exact⟨_,h.hw,fun a ha=> .inl (nM ha)⟩
  ·left
   rw[af.cX,if_neg e,af.cX,if_neg e']
end AH
namespace AH
open Go Go.Proofs Ho
set_option maxRecDepth 10000
theorem gu{n m:Int}(h:0≤m):0≤bU n m∧bU n m≤m:=by unfold bU;omega
theorem Fe(I:af)(n m:Int)(h:0≤m):Fn Tryz.prog 148 [.int .i64 n,.int .i64 m] I fun x R=>x= .int .i64 (bU n m)∧R=I:=by
 refine ay aZ mixed Tryz.func148 (by kernel_rfl) rfl (by kernel_rfl) bE ?_
 simp+contextual (maxSteps:=1000000) (disch:=first|exact dA|fail) [go_sem,int_lt,-Int.not_le,-Int.not_lt]
 unfold bU
 refine⟨fun h=>by omega,fun h=>⟨fun h=>by omega,fun h=>by omega⟩⟩
@[go_sem] def adO:=fun(I:af) n m h (aA:U→af→Prop)=>ar (k:=aA) (Fe I n m h)
@[go_sem] def adN:=fun(I:af) (b_:Bool) (n m:Int) (h:b_=true→ 0≤m) (aA:U→af→Prop)=>aJ (k:=aA) b_ fun aY=>Fe I n m (h aY)
theorem Bz(I:af)(val bK:Int):Fn Tryz.prog 147 [.int .i64 val,.int .i64 bK] I fun x R=>x= .int .u64 (pack val bK)∧R=I:=by
 refine ay aZ mixed Tryz.func147 (by kernel_rfl) rfl (by kernel_rfl) bE ?_
 have h1:=gu (n:=val) (m:=4294967295) fX
 have h2:=gu (n:=bK) (m:=4294967295) fX
 simp+contextual (maxSteps:=1000000) (disch:=first|exact dA|fail) [go_sem,int_lt,-Int.not_le,-Int.not_lt,wrap_u64,pack]
@[go_sem] def Zn:=fun(I:af) val bK (aA:U→af→Prop)=>ar (k:=aA) (Bz I val bK)
@[go_sem] def Zm:=fun(I:af) (b_:Bool) (val bK:Int) (aA:U→af→Prop)=>aJ (k:=aA) b_ fun aY=>Bz I val bK
theorem Fi(I:af)(w:Int)(hw:ci w):Fn Tryz.prog 142 [.int .u64 w] I fun x R=>x= .int .i64 (aG w)∧R=I:=by
 refine ay aZ mixed Tryz.func142 (by kernel_rfl) rfl (by kernel_rfl) bE ?_
 have h:=aO (w:=w)
 have h1:w.tmod 4294967296=aG w:=Int.tmod_eq_emod_of_nonneg hw.1
 simp+contextual (maxSteps:=1000000) (disch:=first|exact dA|fail) [go_sem,int_lt,-Int.not_le,-Int.not_lt,h1]
@[go_sem] def adW:=fun(I:af) w hw (aA:U→af→Prop)=>ar (k:=aA) (Fi I w hw)
@[go_sem] def adV:=fun(I:af) (b_:Bool) (w:Int) (hw:b_=true→ ci w) (aA:U→af→Prop)=>aJ (k:=aA) b_ fun aY=>Fi I w (hw aY)
theorem wV(I:af)(w:Int)(hw:ci w):Fn Tryz.prog 149 [.int .u64 w] I fun x R=>x= .int .i64 (aL w)∧R=I:=by
 refine ay aZ mixed Tryz.func149 (by kernel_rfl) rfl (by kernel_rfl) bE ?_
 have h:=gx hw
 have h1:w.tdiv 4294967296=aL w:=Int.tdiv_eq_ediv_of_nonneg hw.1
 simp+contextual (maxSteps:=1000000) (disch:=first|exact dA|fail) [go_sem,int_lt,-Int.not_le,-Int.not_lt,h1,wrap_u64]
@[go_sem] def W9:=fun(I:af) w hw (aA:U→af→Prop)=>ar (k:=aA) (wV I w hw)
@[go_sem] def W8:=fun(I:af) (b_:Bool) (w:Int) (hw:b_=true→ ci w) (aA:U→af→Prop)=>aJ (k:=aA) b_ fun aY=>wV I w (hw aY)
theorem Bt(I:af)(state slot ao bK:Int):Fn Tryz.prog 214 [.int .i64 state,.int .i64 slot,.int .i64 ao,.int .i64 bK] I fun x R=>x= .int .u64 (cK state slot ao bK)∧R=I:=by
 refine ay aZ mixed Tryz.func214 (by kernel_rfl) rfl (by kernel_rfl) bE ?_
 have h1:=gu (n:=state) (m:=2) fX
 have h2:=gu (n:=slot) (m:=7) fX
 have h3:=gu (n:=ao) (m:=4095) fX
 simp+contextual (maxSteps:=1000000) (disch:=first|exact dA|fail) [go_sem,int_lt,-Int.not_le,-Int.not_lt,cK]
@[go_sem] def Y_:=fun(I:af) state slot ao bK (aA:U→af→Prop)=>ar (k:=aA) (Bt I state slot ao bK)
@[go_sem] def Y9:=fun(I:af) (b_:Bool) (state slot ao bK:Int) (aA:U→af→Prop)=>aJ (k:=aA) b_ fun aY=>Bt I state slot ao bK
theorem Fg(I:af)(state ao bK:Int):Fn Tryz.prog 209 [.int .i64 state,.int .i64 ao,.int .i64 bK] I fun x R=>x= .int .u64 (lT state ao bK)∧R=I:=by
 refine ay aZ mixed Tryz.func209 (by kernel_rfl) rfl (by kernel_rfl) bE ?_
 have h1:=gu (n:=state) (m:=2) fX
 have h3:=gu (n:=ao) (m:=4095) fX
 simp+contextual (maxSteps:=1000000) (disch:=first|exact dA|fail) [go_sem,int_lt,-Int.not_le,-Int.not_lt,lT]
@[go_sem] def adS:=fun(I:af) state ao bK (aA:U→af→Prop)=>ar (k:=aA) (Fg I state ao bK)
@[go_sem] def adR:=fun(I:af) (b_:Bool) (state ao bK:Int) (aA:U→af→Prop)=>aJ (k:=aA) b_ fun aY=>Fg I state ao bK
theorem wH(I:af)(addr val bK:Int):Fn Tryz.prog 177 [.int .i64 addr,.int .i64 val,.int .i64 bK] I fun x R=>x= .int .u64 (iP addr val bK)∧R=I:=by
 refine ay aZ mixed Tryz.func177 (by kernel_rfl) rfl (by kernel_rfl) bE ?_
 have h1:=gu (n:=addr) (m:=4095) fX
 have h3:=gu (n:=val) (m:=1048575) fX
 simp+contextual (maxSteps:=1000000) (disch:=first|exact dA|fail) [go_sem,int_lt,-Int.not_le,-Int.not_lt,iP]
@[go_sem] def WE:=fun(I:af) addr val bK (aA:U→af→Prop)=>ar (k:=aA) (wH I addr val bK)
@[go_sem] def WD:=fun(I:af) (b_:Bool) (addr val bK:Int) (aA:U→af→Prop)=>aJ (k:=aA) b_ fun aY=>wH I addr val bK
theorem wS(I:af)(w:Int)(hw:ci w):Fn Tryz.prog 171 [.int .u64 w] I fun x R=>x= .cw [.int .i64 (aG w % 4),.int .i64 (aG w/4)]∧R=I:=by
 refine ay aZ mixed Tryz.func171 (by kernel_rfl) rfl (by kernel_rfl) bE ?_
 have h:=aO (w:=w)
 simp+contextual (maxSteps:=1000000) (disch:=first|exact dA|fail) [go_sem,int_lt,-Int.not_le,-Int.not_lt,Int.tdiv_eq_ediv_of_nonneg,Int.tmod_eq_emod_of_nonneg]
@[go_sem] def W3:=fun(I:af) w hw (aA:U→af→Prop)=>ar (k:=aA) (wS I w hw)
@[go_sem] def W2:=fun(I:af) (b_:Bool) (w:Int) (hw:b_=true→ ci w) (aA:U→af→Prop)=>aJ (k:=aA) b_ fun aY=>wS I w (hw aY)
theorem ut(I:af)(w:Int)(hw:ci w):Fn Tryz.prog 170 [.int .u64 w] I fun x R=>x= .cw [.int .i64 (aG w % 4),.int .i64 (aG w/4 % 8),.int .i64 (aG w/32)]∧R=I:=by
 refine ay aZ mixed Tryz.func170 (by kernel_rfl) rfl (by kernel_rfl) bE ?_
 have h:=aO (w:=w)
 simp+contextual (maxSteps:=1000000) (disch:=first|exact dA|fail) [go_sem,int_lt,-Int.not_le,-Int.not_lt,Int.tdiv_eq_ediv_of_nonneg,Int.tmod_eq_emod_of_nonneg]
@[go_sem] def S4:=fun(I:af) w hw (aA:U→af→Prop)=>ar (k:=aA) (ut I w hw)
@[go_sem] def S3:=fun(I:af) (b_:Bool) (w:Int) (hw:b_=true→ ci w) (aA:U→af→Prop)=>aJ (k:=aA) b_ fun aY=>ut I w (hw aY)
theorem rD(I:af)(w:Int)(hw:ci w):Fn Tryz.prog 216 [.int .u64 w] I fun x R=>x= .cw [.int .i64 (aG w/1048576),.int .i64 (aG w % 1048576)]∧R=I:=by
 refine ay aZ mixed Tryz.func216 (by kernel_rfl) rfl (by kernel_rfl) bE ?_
 have h:=aO (w:=w)
 simp+contextual (maxSteps:=1000000) (disch:=first|exact dA|fail) [go_sem,int_lt,-Int.not_le,-Int.not_lt,Int.tdiv_eq_ediv_of_nonneg,Int.tmod_eq_emod_of_nonneg]
@[go_sem] def RH:=fun(I:af) w hw (aA:U→af→Prop)=>ar (k:=aA) (rD I w hw)
@[go_sem] def RG:=fun(I:af) (b_:Bool) (w:Int) (hw:b_=true→ ci w) (aA:U→af→Prop)=>aJ (k:=aA) b_ fun aY=>rD I w (hw aY)
abbrev cV(s p l:Int):U:= .agg [.int .i64 s,.int .i64 p,.int .i64 l]
theorem uw(I:af)(s p l:Int):Fn Tryz.prog 16 [cV s p l] I fun x R=>x= .bool (decide (aM.ok ⟨s,p,l⟩))∧R=I:=by
 refine ay aZ mixed Tryz.func16 (by kernel_rfl) rfl (by kernel_rfl) bE ?_
 simp+contextual (maxSteps:=1000000) (disch:=first|exact dA|fail) [go_sem,int_lt,-Int.not_le,-Int.not_lt,Q_]
@[go_sem] def S6:=fun(I:af) s p l (aA:U→af→Prop)=>ar (k:=aA) (uw I s p l)
@[go_sem] def S5:=fun(I:af) (b_:Bool) (s p l:Int) (aA:U→af→Prop)=>aJ (k:=aA) b_ fun aY=>uw I s p l
theorem wK(I:af)(s p l:Int)(hs:0≤s∧s≤1000)(hp:0≤p∧p≤1000):Fn Tryz.prog 83 [cV s p l] I fun x R=>x= .int .i64 (aP ⟨s,p,l⟩)∧R=I:=by
 refine ay aZ mixed Tryz.func83 (by kernel_rfl) rfl (by kernel_rfl) bE ?_
 simp+contextual (maxSteps:=1000000) (disch:=first|exact dA|fail) [go_sem,int_lt,-Int.not_le,-Int.not_lt,aP]
 omega
@[go_sem] def WL:=fun(I:af) s p l hs hp (aA:U→af→Prop)=>ar (k:=aA) (wK I s p l hs hp)
@[go_sem] def WJ:=fun(I:af) (b_:Bool) (s p l:Int) (hs:b_=true→ 0≤s∧s≤1000) (hp:b_=true→ 0≤p∧p≤1000) (aA:U→af→Prop)=>aJ (k:=aA) b_ fun aY=>wK I s p l (hs aY) (hp aY)
abbrev okc(s p l:Int):aM:=⟨s,p,l⟩
theorem BD(I:af)(s p l:Int)(hs:0≤s∧s≤1000)(hp:0≤p∧p≤1000):Fn Tryz.prog 144 [cV s p l] I fun x R=>x= .int .i64 (aM.size ⟨s,p,l⟩)∧R=I:=by
 refine ay Km mixed Tryz.func144 (by kernel_rfl) rfl (by kernel_rfl) bE ?_
 simp+contextual (maxSteps:=1000000) (disch:=first|exact dA|fail) [go_sem,int_lt,-Int.not_le,-Int.not_lt,Km,aP,aM.size]
 all_goals((repeat refine Alt.mk ?_)<;>first|done|omega|(congr 1;omega)|(intros;omega)|grind)
@[go_sem] def Zw:=fun(I:af) s p l hs hp (aA:U→af→Prop)=>ar (k:=aA) (BD I s p l hs hp)
@[go_sem] def Zv:=fun(I:af) (b_:Bool) (s p l:Int) (hs:b_=true→ 0≤s∧s≤1000) (hp:b_=true→ 0≤p∧p≤1000) (aA:U→af→Prop)=>aJ (k:=aA) b_ fun aY=>BD I s p l (hs aY) (hp aY)
theorem LC(I:af)(s p l a n mb:Int)(ha:0≤a∧a≤1000)(hm:mb≤1000):Fn Tryz.prog 223 [cV s p l,.int .i64 a,.int .i64 n,.int .i64 mb,.int .i64 1] I fun x R=>x= .int .i64 (ed ⟨s,p,l⟩ a n mb 1)∧R=I:=by
 refine ay aZ mixed Tryz.func223 (by kernel_rfl) rfl (by kernel_rfl) bE ?_
 simp+contextual (maxSteps:=1000000) (disch:=first|exact dA|fail) [go_sem,int_lt,-Int.not_le,-Int.not_lt,ed]
 all_goals((repeat refine Alt.mk ?_)<;>first|done|omega|(congr 1;omega)|(intros;omega)|grind)
@[go_sem] def afy:=fun(I:af) s p l a n mb ha hm (aA:U→af→Prop)=>ar (k:=aA) (LC I s p l a n mb ha hm)
@[go_sem] def afx:=fun(I:af) (b_:Bool) (s p l a n mb:Int) (ha:b_=true→ 0≤a∧a≤1000) (hm:b_=true→ mb≤1000) (aA:U→af→Prop)=>aJ (k:=aA) b_ fun aY=>LC I s p l a n mb (ha aY) (hm aY)
theorem Bq(I:af)(s p l a n mb:Int)(ha:0≤a∧a≤1000)(hm:mb≤1000):Fn Tryz.prog 223 [cV s p l,.int .i64 a,.int .i64 n,.int .i64 mb,.int .i64 21] I fun x R=>x= .int .i64 (ed ⟨s,p,l⟩ a n mb 21)∧R=I:=by
 refine ay aZ mixed Tryz.func223 (by kernel_rfl) rfl (by kernel_rfl) bE ?_
 simp+contextual (maxSteps:=1000000) (disch:=first|exact dA|fail) [go_sem,int_lt,-Int.not_le,-Int.not_lt,ed]
 all_goals((repeat refine Alt.mk ?_)<;>first|done|omega|(congr 1;omega)|(intros;omega)|grind)
@[go_sem] def Y8:=fun(I:af) s p l a n mb ha hm (aA:U→af→Prop)=>ar (k:=aA) (Bq I s p l a n mb ha hm)
@[go_sem] def Y7:=fun(I:af) (b_:Bool) (s p l a n mb:Int) (ha:b_=true→ 0≤a∧a≤1000) (hm:b_=true→ mb≤1000) (aA:U→af→Prop)=>aJ (k:=aA) b_ fun aY=>Bq I s p l a n mb (ha aY) (hm aY)
theorem Bx(I:af)(s p l n:Int)(hs:0≤s∧s≤1000):Fn Tryz.prog 172 [cV s p l,.int .i64 n] I fun x R=>x= .int .i64 (bT ⟨s,p,l⟩ n)∧R=I:=by
 refine ay aZ mixed Tryz.func172 (by kernel_rfl) rfl (by kernel_rfl) bE ?_
 simp+contextual (maxSteps:=1000000) (disch:=first|exact dA|fail) [go_sem,int_lt,-Int.not_le,-Int.not_lt,bT]
@[go_sem] def Zj:=fun(I:af) s p l n hs (aA:U→af→Prop)=>ar (k:=aA) (Bx I s p l n hs)
@[go_sem] def Zi:=fun(I:af) (b_:Bool) (s p l n:Int) (hs:b_=true→ 0≤s∧s≤1000) (aA:U→af→Prop)=>aJ (k:=aA) b_ fun aY=>Bx I s p l n (hs aY)
theorem wN(I:af)(s p l n:Int)(hs:0≤s∧s≤100):Fn Tryz.prog 173 [cV s p l,.int .i64 n] I fun x R=>x= .int .i64 (dn ⟨s,p,l⟩ n)∧R=I:=by
 refine ay aZ mixed Tryz.func173 (by kernel_rfl) rfl (by kernel_rfl) bE ?_
 simp+contextual (maxSteps:=1000000) (disch:=first|exact dA|fail) [go_sem,int_lt,-Int.not_le,-Int.not_lt,dn]
@[go_sem] def WS:=fun(I:af) s p l n hs (aA:U→af→Prop)=>ar (k:=aA) (wN I s p l n hs)
@[go_sem] def WR:=fun(I:af) (b_:Bool) (s p l n:Int) (hs:b_=true→ 0≤s∧s≤100) (aA:U→af→Prop)=>aJ (k:=aA) b_ fun aY=>wN I s p l n (hs aY)
theorem wP(I:af)(s p l n:Int)(hs:0≤s∧s≤100):Fn Tryz.prog 227 [cV s p l,.int .i64 n] I fun x R=>x= .int .i64 (dv ⟨s,p,l⟩ n)∧R=I:=by
 refine ay aZ mixed Tryz.func227 (by kernel_rfl) rfl (by kernel_rfl) bE ?_
 simp+contextual (maxSteps:=1000000) (disch:=first|exact dA|fail) [go_sem,int_lt,-Int.not_le,-Int.not_lt,dv]
@[go_sem] def WW:=fun(I:af) s p l n hs (aA:U→af→Prop)=>ar (k:=aA) (wP I s p l n hs)
@[go_sem] def WV:=fun(I:af) (b_:Bool) (s p l n:Int) (hs:b_=true→ 0≤s∧s≤100) (aA:U→af→Prop)=>aJ (k:=aA) b_ fun aY=>wP I s p l n (hs aY)
theorem wR(I:af)(s p l n:Int)(hs:0≤s∧s≤10)(hp:0≤p∧p≤10):Fn Tryz.prog 225 [cV s p l,.int .i64 n] I fun x R=>x= .int .i64 (iJ ⟨s,p,l⟩ n)∧R=I:=by
 refine ay aZ mixed Tryz.func225 (by kernel_rfl) rfl (by kernel_rfl) bE ?_
 simp+contextual (maxSteps:=1000000) (disch:=first|exact dA|fail) [go_sem,int_lt,-Int.not_le,-Int.not_lt,iJ]
 all_goals((repeat refine Alt.mk ?_)<;>first|done|omega|(congr 1;omega)|(intros;omega)|grind)
@[go_sem] def W0:=fun(I:af) s p l n hs hp (aA:U→af→Prop)=>ar (k:=aA) (wR I s p l n hs hp)
@[go_sem] def WZ:=fun(I:af) (b_:Bool) (s p l n:Int) (hs:b_=true→ 0≤s∧s≤10) (hp:b_=true→ 0≤p∧p≤10) (aA:U→af→Prop)=>aJ (k:=aA) b_ fun aY=>wR I s p l n (hs aY) (hp aY)
theorem By(I:af)(s p l n:Int)(hs:0≤s∧s≤10)(hp:0≤p∧p≤10):Fn Tryz.prog 226 [cV s p l,.int .i64 n] I fun x R=>x= .int .i64 (mE ⟨s,p,l⟩ n)∧R=I:=by
 refine ay aZ mixed Tryz.func226 (by kernel_rfl) rfl (by kernel_rfl) bE ?_
 simp+contextual (maxSteps:=1000000) (disch:=first|exact dA|fail) [go_sem,int_lt,-Int.not_le,-Int.not_lt,mE]
 all_goals((repeat refine Alt.mk ?_)<;>first|done|omega|(congr 1;omega)|(intros;omega)|grind)
@[go_sem] def Zl:=fun(I:af) s p l n hs hp (aA:U→af→Prop)=>ar (k:=aA) (By I s p l n hs hp)
@[go_sem] def Zk:=fun(I:af) (b_:Bool) (s p l n:Int) (hs:b_=true→ 0≤s∧s≤10) (hp:b_=true→ 0≤p∧p≤10) (aA:U→af→Prop)=>aJ (k:=aA) b_ fun aY=>By I s p l n (hs aY) (hp aY)
theorem wQ(I:af)(s p l n:Int)(hs:0≤s∧s≤10)(hp:0≤p∧p≤10):Fn Tryz.prog 228 [cV s p l,.int .i64 n] I fun x R=>x= .int .i64 (eV ⟨s,p,l⟩ n)∧R=I:=by
 refine ay aZ mixed Tryz.func228 (by kernel_rfl) rfl (by kernel_rfl) bE ?_
 simp+contextual (maxSteps:=1000000) (disch:=first|exact dA|fail) [go_sem,int_lt,-Int.not_le,-Int.not_lt,eV]
 all_goals((repeat refine Alt.mk ?_)<;>first|done|omega|(congr 1;omega)|(intros;omega)|grind)
@[go_sem] def WY:=fun(I:af) s p l n hs hp (aA:U→af→Prop)=>ar (k:=aA) (wQ I s p l n hs hp)
@[go_sem] def WX:=fun(I:af) (b_:Bool) (s p l n:Int) (hs:b_=true→ 0≤s∧s≤10) (hp:b_=true→ 0≤p∧p≤10) (aA:U→af→Prop)=>aJ (k:=aA) b_ fun aY=>wQ I s p l n (hs aY) (hp aY)
theorem wO(I:af)(s p l n:Int)(hs:0≤s∧s≤10)(hp:0≤p∧p≤10):Fn Tryz.prog 211 [cV s p l,.int .i64 n] I fun x R=>x= .int .i64 (du ⟨s,p,l⟩ n)∧R=I:=by
 refine ay Ks mixed Tryz.func211 (by kernel_rfl) rfl (by kernel_rfl) bE ?_
 simp+contextual (maxSteps:=1000000) (disch:=first|exact dA|fail) [go_sem,int_lt,-Int.not_le,-Int.not_lt,Ks,du,aP]
@[go_sem] def WU:=fun(I:af) s p l n hs hp (aA:U→af→Prop)=>ar (k:=aA) (wO I s p l n hs hp)
@[go_sem] def WT:=fun(I:af) (b_:Bool) (s p l n:Int) (hs:b_=true→ 0≤s∧s≤10) (hp:b_=true→ 0≤p∧p≤10) (aA:U→af→Prop)=>aJ (k:=aA) b_ fun aY=>wO I s p l n (hs aY) (hp aY)
theorem wM(I:af)(s p l:Int)(hs:0≤s∧s≤10)(hp:0≤p∧p≤10)(hl:0≤l∧l≤100000000):Fn Tryz.prog 143 [cV s p l] I fun x R=>x= .int .u64 (gH ⟨s,p,l⟩)∧R=I:=by
 refine ay aZ mixed Tryz.func143 (by kernel_rfl) rfl (by kernel_rfl) bE ?_
 simp+contextual (maxSteps:=1000000) (disch:=first|exact dA|fail) [go_sem,int_lt,-Int.not_le,-Int.not_lt,gH]
@[go_sem] def WQ:=fun(I:af) s p l hs hp hl (aA:U→af→Prop)=>ar (k:=aA) (wM I s p l hs hp hl)
@[go_sem] def WO:=fun(I:af) (b_:Bool) (s p l:Int) (hs:b_=true→ 0≤s∧s≤10) (hp:b_=true→ 0≤p∧p≤10) (hl:b_=true→ 0≤l∧l≤100000000) (aA:U→af→Prop)=>aJ (k:=aA) b_ fun aY=>wM I s p l (hs aY) (hp aY) (hl aY)
theorem Bw(I:af)(v:U)(ws:List Int)(a:Int)(hv:bu .u64 I v ws):Fn Tryz.prog 256 [v,.int .i64 a] I fun x R=>x= .int .u64 (bm ws a)∧R=I:=by
 refine ay aZ mixed Tryz.func256 (by kernel_rfl) rfl (by kernel_rfl) bE ?_
 simp+contextual (maxSteps:=1000000) (disch:=first|exact dA|fail) [go_sem,int_lt,-Int.not_le,-Int.not_lt,bm]
@[go_sem] def Zh:=fun(I:af) v ws a hv (aA:U→af→Prop)=>ar (k:=aA) (Bw I v ws a hv)
@[go_sem] def Zg:=fun(I:af) (b_:Bool) (v:U) (ws:List Int) (a:Int) (hv:b_=true→ bu .u64 I v ws) (aA:U→af→Prop)=>aJ (k:=aA) b_ fun aY=>Bw I v ws a (hv aY)
end AH
namespace AH
open Go Go.Proofs Ho
set_option maxRecDepth 10000
set_option maxHeartbeats 4000000
def Sm(xs:List Int):Prop:=(xs.length:Int)≤1000000∧∀j:Int,-1000000000000≤at_ xs j∧at_ xs j≤1000000000000
structure fb(I:af)(b:Bk)(pv h0 h1 h2 h3 ov iv ev:U):Prop where
 p:bu .i64 I pv b.ah
 h0:bu .i64 I h0 (b.aj 0)
 h1:bu .i64 I h1 (b.aj 1)
 h2:bu .i64 I h2 (b.aj 2)
 h3:bu .i64 I h3 (b.aj 3)
 o:bu .i64 I ov b.owner
 i:bu .i64 I iv b.cy
 e:bu .i64 I ev b.ao
theorem fb.push{I:af}{b:Bk}{pv h0 h1 h2 h3 ov iv ev:U}(h:fb I b pv h0 h1 h2 h3 ov iv ev){B:cT}:fb (I.push B) b pv h0 h1 h2 h3 ov iv ev:=
 ⟨h.p.push,h.h0.push,h.h1.push,h.h2.push,h.h3.push,h.o.push,h.i.push,h.e.push⟩
structure dW(b:Bk):Prop where
 s: -1000000≤b.am∧b.am≤1000000
 p:Sm b.ah
 h:∀k,Sm (b.aj k)
 o:Sm b.owner
 i:Sm b.cy
 e:Sm b.ao
abbrev bV(b:Bk)(pv h0 h1 h2 h3 ov iv ev:U):U:= .agg [.int .i64 b.am,pv,h0,h1,h2,h3,ov,iv,ev]
theorem take_at{xs:List Int}{i:Int}(h0:0≤i)(h1:i<xs.length):xs.take (i+1).toNat=xs.take i.toNat++[at_ xs i]:=by
 rw[show(i+1).toNat=i.toNat+1 by omega,List.take_add_one,List.getElem?_eq_getElem J]
 simp[at_,show i.toNat<xs.length by omega]
theorem Bu(I:af)(s:Int)(h: -1000000000000≤s∧s≤1000000000000):Fn Tryz.prog 183 [.int .i64 s] I fun x R=>x= .int .i64 (ch s)∧R=I:=by
 refine ay aZ mixed Tryz.func183 (by kernel_rfl) rfl (by kernel_rfl) bE ?_
 simp+contextual (maxSteps:=1000000) (disch:=first|exact dA|fail) [go_sem,int_lt,-Int.not_le,-Int.not_lt,ch]
 all_goals((repeat refine Alt.mk ?_)<;>first|done|omega|(congr 1;omega)|(intros;omega)|grind)
@[go_sem] def Zd:=fun(I:af) s h (aA:U→af→Prop)=>ar (k:=aA) (Bu I s h)
@[go_sem] def Zc:=fun(I:af) (b_:Bool) (s:Int) (h:b_=true→ -1000000000000≤s∧s≤1000000000000) (aA:U→af→Prop)=>aJ (k:=aA) b_ fun aY=>Bu I s (h aY)
theorem LP(I:af)(k:Int)(h:0≤k∧k<4):Fn Tryz.prog 184 [.int .i64 k] I fun x R=>x= .int .i64 (sz k)∧R=I:=by
 refine ay aZ mixed Tryz.func184 (by kernel_rfl) rfl (by kernel_rfl) bE ?_
 have:k=0∨k=1∨k=2∨k=3:=J
 rcases this with rfl|rfl|rfl|rfl<;>simp+contextual (maxSteps:=1000000) (disch:=first|exact dA|fail) [go_sem,int_lt,-Int.not_le,-Int.not_lt,sz,at_]
@[go_sem] def afD:=fun(I:af) k h (aA:U→af→Prop)=>ar (k:=aA) (LP I k h)
@[go_sem] def afC:=fun(I:af) (b_:Bool) (k:Int) (h:b_=true→ 0≤k∧k<4) (aA:U→af→Prop)=>aJ (k:=aA) b_ fun aY=>LP I k (h aY)
theorem LI(I:af)(v:U)(xs:List Int)(a:Int)(hv:bu .i64 I v xs)(hl:Sm xs):Fn Tryz.prog 230 [v,.int .i64 a] I fun x R=>x= .int .i64 (xs.count a)∧R=I:=by
 refine ay aZ mixed Tryz.func230 (by kernel_rfl) rfl (by kernel_rfl) bE ?_
 obtain⟨hl,_⟩:=hl
 simp+contextual (maxSteps:=1000000) (disch:=first|exact dA|fail) [go_sem,int_lt,-Int.not_le,-Int.not_lt]
 refine aC (fun R_ env R=>∃(i n:Int),env 0=v∧env 1= .int .i64 a∧env 5= .int .i64 n∧env 6= .int .i64 i∧I=R∧R_ ((xs.length-i).toNat)∧(0≤i∧i≤xs.length∧0≤n∧n≤i∧n=(xs.take i.toNat).count a)) (by rintro R_ env R ⟨i,n,e0,e1,e5,e6,h_,cz,hp⟩;exact⟨_,cz,i,n,e0,e1,e5,e6,h_,rfl,hp⟩) ⟨0,0,aq,aq,aq,aq,rfl,trivial,?_⟩ ?_
 rotate_left
 rintro m_ env R ⟨i,n,e0,e1,e5,e6,rfl,rfl,hp⟩
 ·simp+contextual (maxSteps:=1000000) (disch:=first|exact dA|fail) [go_sem,int_lt,-Int.not_le,-Int.not_lt,e0,e1,e5,e6]
  refine⟨fun h=>?_,fun h=>?_⟩
  ·rw[take_at hp.1 J,List.count_append]
   refine⟨fun h2=>?_,fun h2=>?_⟩<;>simp[h2]<;>omega
  ·rw[hp.2.2.2.2,List.take_of_length_le J]
 ·simp
@[go_sem] def afA:=fun(I:af) v xs a hv hl (aA:U→af→Prop)=>ar (k:=aA) (LI I v xs a hv hl)
@[go_sem] def afz:=fun(I:af) (b_:Bool) (v:U) (xs:List Int) (a:Int) (hv:b_=true→ bu .i64 I v xs) (hl:b_=true→ Sm xs) (aA:U→af→Prop)=>aJ (k:=aA) b_ fun aY=>LI I v xs a (hv aY) (hl aY)
theorem lH(I:af)(b:Bk)(pv h0 h1 h2 h3 ov iv ev:U)(page start:Int)(hb:fb I b pv h0 h1 h2 h3 ov iv ev)(hs:dW b)(h:0≤page∧page*8+8≤b.owner.length∧0≤start∧start≤8):Fn Tryz.prog 185 [bV b pv h0 h1 h2 h3 ov iv ev,.int .i64 page,.int .i64 start] I fun x R=>x= .bool (decide (dz b page start))∧R=I:=by
 refine ay aZ mixed Tryz.func185 (by kernel_rfl) rfl (by kernel_rfl) bE ?_
 obtain⟨_,_,_,_,_,ho,_,_⟩:=hb
 have hl:=hs.o.1
 simp+contextual (maxSteps:=1000000) (disch:=first|exact dA|fail) [go_sem,int_lt,-Int.not_le,-Int.not_lt]
 refine aC (fun R_ env R=>∃(u:Int),env 1= .int .i64 page∧env 7= .int .i64 u∧env 3= .ptr I.n 0∧I.push ⟨[.int .i64 b.am,pv,h0,h1,h2,h3,ov,iv,ev],true⟩=R∧R_ ((8-u).toNat)∧(start≤u∧u≤8∧∀q:Int,start≤q→q<u→¬0<at_ b.owner (page*8+q))) (by rintro R_ env R ⟨u,e1,e7,e3,h_,cz,hp⟩;exact⟨_,cz,u,e1,e7,e3,h_,rfl,hp⟩) ⟨start,aq,aq,aq,rfl,trivial,?_⟩ ?_
 rotate_left
 rintro m_ env R ⟨u,e1,e7,e3,rfl,rfl,hp⟩
 ·simp+contextual (maxSteps:=1000000) (disch:=first|exact dA|fail) [go_sem,int_lt,-Int.not_le,-Int.not_lt,e1,e7,e3]
  refine⟨fun h=>⟨fun h2=>?_,fun h2=>?_⟩,fun h=>?_⟩
  ·intro hf
   exact hf u J J J
  ·refine⟨J,J,J,fun q q1 q2=>?_⟩
   by_cases hq:q=u
   ·subst hq;omega
   ·have:=hp.2.2 q q1 J;omega
  ·intro q q1 q2
   exact hp.2.2 q q1 J
 ·refine⟨J,J,fun q q1 q2=>by omega⟩
@[go_sem] def Zb:=fun(I:af) b pv h0 h1 h2 h3 ov iv ev page start hb hs h (aA:U→af→Prop)=>ar (k:=aA) (lH I b pv h0 h1 h2 h3 ov iv ev page start hb hs h)
@[go_sem] def Za:=fun(I:af) (b_:Bool) (b:Bk) (pv h0 h1 h2 h3 ov iv ev:U) (page start:Int) (hb:b_=true→ fb I b pv h0 h1 h2 h3 ov iv ev) (hs:b_=true→ dW b) (h:b_=true→ 0≤page∧page*8+8≤b.owner.length∧0≤start∧start≤8) (aA:U→af→Prop)=>aJ (k:=aA) b_ fun aY=>lH I b pv h0 h1 h2 h3 ov iv ev page start (hb aY) (hs aY) (h aY)
abbrev qW(I:af)(b:Bk)(pv h0 h1 h2 h3 ov iv ev:U):af:=I.push ⟨[.int .i64 b.am,pv,h0,h1,h2,h3,ov,iv,ev],true⟩
theorem wU(I:af)(b:Bk)(pv h0 h1 h2 h3 ov iv ev:U)(hb:fb I b pv h0 h1 h2 h3 ov iv ev)(hs:dW b):Fn Tryz.prog 136 [bV b pv h0 h1 h2 h3 ov iv ev] I fun x R=>x= .bool (decide (gg b))∧R=I:=by
 refine ay ya mixed Tryz.func136 (by kernel_rfl) rfl (by kernel_rfl) bE ?_
 obtain⟨vp,_,_,_,_,vo,vi,ve⟩:=hb
 obtain⟨⟨s0,s1⟩,⟨sp,_⟩,_,⟨so,KR⟩,⟨si,_⟩,⟨se,_⟩⟩:=hs
 simp+contextual (maxSteps:=1000000) (disch:=first|exact dA|fail) [go_sem,int_lt,-Int.not_le,-Int.not_lt,ya]
 refine⟨fun h hp=>?_,fun a1 a2 a3 a4 a5 a6 a7=>?_⟩
 ·obtain⟨⟨a1,a2,a3,a4,a5,a6,a7⟩,_⟩:=hp
  rcases h with h|h|h|h|h|h|h<;>omega
 refine aC (fun R_ env R=>∃(i:Int),env 1= .ptr I.n 0∧env 3= .int .i64 i∧qW I b pv h0 h1 h2 h3 ov iv ev=R∧R_ ((b.am-i).toNat)∧(0≤i∧i≤b.am∧∀q:Int,0≤q→q<i→0≤at_ b.cy q∧at_ b.cy q≤2∧0≤at_ b.ao q∧at_ b.ao q≤4095∧¬(at_ b.ao q=0∧0<at_ b.cy q))) (by rintro R_ env R ⟨i,e1,e3,h_,cz,hp⟩;exact⟨_,cz,i,e1,e3,h_,rfl,hp⟩) ⟨0,aq,aq,rfl,trivial,?_⟩ ?_
 rotate_left
 rintro m_ env R ⟨i,e1,e3,rfl,rfl,hp⟩
 rotate_left
 ·refine⟨J,J,fun q q1 q2=>by omega⟩
 simp+contextual (maxSteps:=1000000) (disch:=first|exact dA|fail) [go_sem,int_lt,-Int.not_le,-Int.not_lt,ya,e1,e3]
 refine⟨fun h=>⟨fun hx kM=>?_,fun b1 b2 b3 b4 hy=>⟨J,J,J,fun q q1 q2=>?_⟩⟩,fun h=>?_⟩
 ·have:=kM.2.1 i J J
  omega
 ·by_cases hq:q=i
  ·subst hq;exact⟨b1,b2,b3,b4,fun hz=>by have:=hy hz;omega⟩
  ·have:=hp.2.2 q q1 J
   exact⟨this.1,this.2.1,this.2.2.1,this.2.2.2.1,fun hz=>by omega⟩
 have pF:∀q:Int,0≤q→q<b.am→_:=fun q q1 q2=>hp.2.2 q q1 J
 clear hp
 refine aC (fun R_ env R=>∃(u:Int),env 1= .ptr I.n 0∧env 4= .int .i64 u∧qW I b pv h0 h1 h2 h3 ov iv ev=R∧R_ ((b.owner.length-u).toNat)∧(0≤u∧u≤b.owner.length∧∀q:Int,0≤q→q<u→0≤at_ b.owner q∧at_ b.owner q≤b.am∧¬(0<at_ b.owner q∧at_ b.cy (at_ b.owner q-1)=0))) (by rintro R_ env R ⟨u,e1,e4,h_,cz,hp⟩;exact⟨_,cz,u,e1,e4,h_,rfl,hp⟩) ⟨0,aq,aq,rfl,trivial,?_⟩ ?_
 rotate_left
 rintro m_ env R ⟨u,e1,e4,rfl,rfl,hp⟩
 rotate_left
 ·refine⟨J,J,fun q q1 q2=>by omega⟩
 simp+contextual (maxSteps:=1000000) (disch:=first|exact dA|fail) [go_sem,int_lt,-Int.not_le,-Int.not_lt,ya,e1,e4]
 refine⟨fun h=>⟨fun hx kM=>?_,fun b1 b2 hy=>⟨J,J,J,fun q q1 q2=>?_⟩⟩,fun h=>?_⟩
 ·have:=kM.2.2 u J J
  omega
 ·by_cases hq:q=u
  ·subst hq;exact⟨b1,b2,hy⟩
  ·have:=hp.2.2 q q1 J
   exact⟨this.1,this.2.1,fun hz=>by omega⟩
 ·exact⟨⟨a1,a2,a3,a4,J,J,J⟩,pF,fun q q1 q2=>hp.2.2 q q1 J⟩
@[go_sem] def W7:=fun(I:af) b pv h0 h1 h2 h3 ov iv ev hb hs (aA:U→af→Prop)=>ar (k:=aA) (wU I b pv h0 h1 h2 h3 ov iv ev hb hs)
@[go_sem] def W6:=fun(I:af) (b_:Bool) (b:Bk) (pv h0 h1 h2 h3 ov iv ev:U) (hb:b_=true→ fb I b pv h0 h1 h2 h3 ov iv ev) (hs:b_=true→ dW b) (aA:U→af→Prop)=>aJ (k:=aA) b_ fun aY=>wU I b pv h0 h1 h2 h3 ov iv ev (hb aY) (hs aY)
end AH
namespace AH
open Go Go.Proofs Ho
set_option maxRecDepth 10000
set_option maxHeartbeats 4000000
theorem HP:sz 0=1:=_root_.id rfl
theorem HQ:sz 1=2:=_root_.id rfl
theorem HS:sz 2=4:=_root_.id rfl
theorem HT:sz 3=8:=_root_.id rfl
theorem kj{b:Bk}{page k s u n:Int}(h:¬8≤u)(u0:0≤u)(n0:0≤n)(n1:n≤u)(hr:∀q:Int,0≤q→q<u→iz b page k q)
 (hn:0<n↔∃q:Int,0≤q∧q<u∧q % s=0∧0<at_ b.owner (page*8+q)) (hx:iz b page k u) (tu:¬(u % s=0∧0<at_ b.owner (page*8+u))):
 ¬8-u≤max (8-(u+1)) 0∧0≤u+1∧u+1≤8∧0≤n∧n≤u+1∧(∀(q:Int),0≤q→¬u+1≤q→iz b page k q)∧(¬n≤0↔∃q,0≤q∧¬u+1≤q∧q % s=0∧¬at_ b.owner (page*8+q)≤0):=by
 refine⟨J,J,J,n0,J,fun q q1 q2=>?_,?_⟩
 ·by_cases e:q=u
  ·subst e;exact hx
  ·exact hr q q1 J
 ·rw[Int.not_le,hn]
  constructor
  ·rintro⟨q,q1,q2,q3,q4⟩;exact⟨q,q1,J,q3,J⟩
  ·rintro⟨q,q1,q2,q3,q4⟩
   by_cases e:q=u
   ·subst e;exact absurd ⟨q3,J⟩ tu
   ·exact⟨q,q1,J,q3,J⟩
theorem nS{b:Bk}{page k s u n:Int}(h:¬8≤u)(u0:0≤u)(n0:0≤n)(n1:n≤u)(hr:∀q:Int,0≤q→q<u→iz b page k q)
 (hx:iz b page k u) (h1:u % s=0) (h2:0<at_ b.owner (page*8+u)):
 ¬8-u≤max (8-(u+1)) 0∧0≤u+1∧u+1≤8∧0≤n+1∧n≤u∧(∀(q:Int),0≤q→¬u+1≤q→iz b page k q)∧(¬n+1≤0↔∃q,0≤q∧¬u+1≤q∧q % s=0∧¬at_ b.owner (page*8+q)≤0):=by
 refine⟨J,J,J,J,J,fun q q1 q2=>?_,⟨fun _=>⟨u,u0,J,h1,J⟩,fun _=>by omega⟩⟩
 by_cases e:q=u
 ·subst e;exact hx
 ·exact hr q q1 J
theorem nR{b:Bk}{page k u n:Int}(h:8≤u)(u1:u≤8)(n0:0≤n)(hr:∀q:Int,0≤q→q<u→iz b page k q)
 (hn:0<n↔∃q:Int,0≤q∧q<u∧q % sz k=0∧0<at_ b.owner (page*8+q)):(decide (n≤0)= !decide (iA b page k)):=by
 have e:u=8:=J
 subst e
 have:iA b page k↔¬n≤0:=by
  rw[Int.not_le,hn]
  exact⟨fun h=>h.2,fun h=>⟨hr,h⟩⟩
 by_cases oH:n≤0<;>simp[oH,this]
theorem pU{b:Bk}{page k u:Int}{kn:Nat}(e:k.toNat=kn)(h:¬u % sz k≤0):iz b page k u↔(at_ b.owner (page*8+u)≤0∧¬page*8+u∈b.aj kn):=by
 unfold iz;rw[e,if_pos J,List.count_pos_iff]
 constructor
 ·intro h;exact⟨J,fun hm=>h (.inr hm)⟩
 ·rintro⟨h1,h2⟩ (h|h)
  ·omega
  ·exact h2 h
theorem nQ{b:Bk}{page k u:Int}{kn:Nat}(e:k.toNat=kn)(h:u % sz k≤0):iz b page k u↔((at_ b.owner (page*8+u)≤0↔page*8+u∈b.aj kn)∧((b.aj kn).count (page*8+u):Int)≤1):=by
 unfold iz;rw[e,if_neg J,List.count_pos_iff]
 constructor
 ·intro h
  have h1:¬(0<at_ b.owner (page*8+u)↔page*8+u∈b.aj kn):=fun hh=>h (.inl hh)
  have h2:¬1<List.count (page*8+u) (b.aj kn):=fun hh=>h (.inr hh)
  refine⟨?_,J⟩
  by_cases h3:page*8+u∈b.aj kn<;>simp only[h3,iff_true,iff_false]at h1⊢ <;>omega
 ·rintro⟨h1,h2⟩ (h|h)
  ·rw[←h]at h1;omega
  ·omega
theorem o9(I:af)(b:Bk)(pv h0 h1 h2 h3 ov iv ev:U)(page:Int)(hb:fb I b pv h0 h1 h2 h3 ov iv ev)(hs:dW b)(h:0≤page∧page*8+8≤b.owner.length):Fn Tryz.prog 186 [bV b pv h0 h1 h2 h3 ov iv ev,.int .i64 page,.int .i64 0] I fun x R=>x= .bool (decide (iA b page 0))∧R=I:=by
 refine ay aZ mixed Tryz.func186 (by kernel_rfl) rfl (by kernel_rfl) bE ?_
 obtain⟨_,_,_,_,_,vo,_,_⟩:=hb
 obtain⟨_,_,sh,⟨so,_⟩,_,_⟩:=hs
 have sh':=sh 0
 simp+contextual (maxSteps:=1000000) (disch:=first|exact dA|fail) [go_sem,int_lt,-Int.not_le,-Int.not_lt]
 refine aC (fun R_ env R=>∃(u n:Int),env 1= .int .i64 page∧env 2= .int .i64 0∧env 3= .ptr I.n 0∧env 7= .int .i64 n∧env 8= .int .i64 u∧qW I b pv h0 h1 h2 h3 ov iv ev=R∧R_ ((8-u).toNat)∧(0≤u∧u≤8∧0≤n∧n≤u∧(∀q:Int,0≤q→q<u→iz b page 0 q)∧(0<n↔∃q:Int,0≤q∧q<u∧q % sz 0=0∧0<at_ b.owner (page*8+q)))) (by rintro R_ env R ⟨u,n,e1,e2,e3,e7,e8,h_,cz,hp⟩;exact⟨_,cz,u,n,e1,e2,e3,e7,e8,h_,rfl,hp⟩) ⟨0,0,aq,aq,aq,aq,aq,rfl,trivial,?_⟩ ?_
 rotate_left
 rintro m_ env R ⟨u,n,e1,e2,e3,e7,e8,rfl,rfl,hp⟩
 rotate_left
 ·refine⟨J,J,J,J,fun q q1 q2=>by omega,⟨fun h=>by omega,fun⟨q,q1,q2,_⟩=>by omega⟩⟩
 obtain⟨u0,u1,n0,n1,hr,hn⟩:=hp
 have ro:= @pU b page 0 u 0 rfl
 have re:= @nQ b page 0 u 0 rfl
 rw[HP]at ro re
 simp+contextual (maxSteps:=1000000) (disch:=first|exact dA|fail) [go_sem,int_lt,-Int.not_le,-Int.not_lt,e1,e2,e3,e7,e8,HP,Int.tmod_eq_emod_of_nonneg]
 rw[HP]at hn
 have h2:u % 1≤0:=J
 refine⟨fun h=>?_,fun h=>nR h u1 n0 hr (by rw[HP];exact hn)⟩
 refine Alt.mk (Alt.mk ⟨fun h3 Gh=>?_,fun h3 h4=>⟨fun h5=>?_,fun h5=>?_⟩⟩)
 ·have:=(re h2).1 (Gh.1 u u0 J)
  rcases h3 with h3|h3
  ·by_cases hm:page*8+u∈b.aj 0<;>simp[hm]at h3 this<;>omega
  ·exact h3 this.2
 ·simpa using nS (s:=1) h u0 n0 n1 hr ((re h2).2 ⟨h3,h4⟩) J II
 ·simpa using kj (s:=1) h u0 n0 n1 hr hn ((re h2).2 ⟨h3,h4⟩) (fun hh=>by have:=h3.2 h5;omega)
@[go_sem] def S8:=fun(I:af) b pv h0 h1 h2 h3 ov iv ev page hb hs h (aA:U→af→Prop)=>ar (k:=aA) (o9 I b pv h0 h1 h2 h3 ov iv ev page hb hs h)
@[go_sem] def S7:=fun(I:af) (b_:Bool) (b:Bk) (pv h0 h1 h2 h3 ov iv ev:U) (page:Int) (hb:b_=true→ fb I b pv h0 h1 h2 h3 ov iv ev) (hs:b_=true→ dW b) (h:b_=true→ 0≤page∧page*8+8≤b.owner.length) (aA:U→af→Prop)=>aJ (k:=aA) b_ fun aY=>o9 I b pv h0 h1 h2 h3 ov iv ev page (hb aY) (hs aY) (h aY)
theorem o_(I:af)(b:Bk)(pv h0 h1 h2 h3 ov iv ev:U)(page:Int)(hb:fb I b pv h0 h1 h2 h3 ov iv ev)(hs:dW b)(h:0≤page∧page*8+8≤b.owner.length):Fn Tryz.prog 186 [bV b pv h0 h1 h2 h3 ov iv ev,.int .i64 page,.int .i64 1] I fun x R=>x= .bool (decide (iA b page 1))∧R=I:=by
 refine ay aZ mixed Tryz.func186 (by kernel_rfl) rfl (by kernel_rfl) bE ?_
 obtain⟨_,_,_,_,_,vo,_,_⟩:=hb
 obtain⟨_,_,sh,⟨so,_⟩,_,_⟩:=hs
 have sh':=sh 1
 simp+contextual (maxSteps:=1000000) (disch:=first|exact dA|fail) [go_sem,int_lt,-Int.not_le,-Int.not_lt]
 refine aC (fun R_ env R=>∃(u n:Int),env 1= .int .i64 page∧env 2= .int .i64 1∧env 3= .ptr I.n 0∧env 7= .int .i64 n∧env 8= .int .i64 u∧qW I b pv h0 h1 h2 h3 ov iv ev=R∧R_ ((8-u).toNat)∧(0≤u∧u≤8∧0≤n∧n≤u∧(∀q:Int,0≤q→q<u→iz b page 1 q)∧(0<n↔∃q:Int,0≤q∧q<u∧q % sz 1=0∧0<at_ b.owner (page*8+q)))) (by rintro R_ env R ⟨u,n,e1,e2,e3,e7,e8,h_,cz,hp⟩;exact⟨_,cz,u,n,e1,e2,e3,e7,e8,h_,rfl,hp⟩) ⟨0,0,aq,aq,aq,aq,aq,rfl,trivial,?_⟩ ?_
 rotate_left
 rintro m_ env R ⟨u,n,e1,e2,e3,e7,e8,rfl,rfl,hp⟩
 rotate_left
 ·refine⟨J,J,J,J,fun q q1 q2=>by omega,⟨fun h=>by omega,fun⟨q,q1,q2,_⟩=>by omega⟩⟩
 obtain⟨u0,u1,n0,n1,hr,hn⟩:=hp
 have ro:= @pU b page 1 u 1 rfl
 have re:= @nQ b page 1 u 1 rfl
 rw[HQ]at ro re
 simp+contextual (maxSteps:=1000000) (disch:=first|exact dA|fail) [go_sem,int_lt,-Int.not_le,-Int.not_lt,e1,e2,e3,e7,e8,HQ,Int.tmod_eq_emod_of_nonneg]
 rw[HQ]at hn
 refine⟨fun h=>?_,fun h=>nR h u1 n0 hr (by rw[HQ];exact hn)⟩
 refine Alt.mk (Alt.mk ⟨fun h2=>⟨fun h3 Gh=>?_,fun h3 h4=>?_⟩,fun h2=>⟨fun h3 Gh=>?_,fun h3 h4=>⟨fun h5=>?_,fun h5=>?_⟩⟩⟩)
 ·have:=(ro h2).1 (Gh.1 u u0 J)
  rcases h3 with h3|h3
  ·exact h3 this.1
  ·exact this.2 h3
 ·exact kj h u0 n0 n1 hr hn ((ro h2).2 ⟨h3,h4⟩) (fun hh=>by omega)
 ·have:=(re h2).1 (Gh.1 u u0 J)
  rcases h3 with h3|h3
  ·by_cases hm:page*8+u∈b.aj 1<;>simp[hm]at h3 this<;>omega
  ·exact h3 this.2
 ·exact nS h u0 n0 n1 hr ((re h2).2 ⟨h3,h4⟩) J II
 ·exact kj h u0 n0 n1 hr hn ((re h2).2 ⟨h3,h4⟩) (fun hh=>by have:=h3.2 h5;omega)
@[go_sem] def S_:=fun(I:af) b pv h0 h1 h2 h3 ov iv ev page hb hs h (aA:U→af→Prop)=>ar (k:=aA) (o_ I b pv h0 h1 h2 h3 ov iv ev page hb hs h)
@[go_sem] def S9:=fun(I:af) (b_:Bool) (b:Bk) (pv h0 h1 h2 h3 ov iv ev:U) (page:Int) (hb:b_=true→ fb I b pv h0 h1 h2 h3 ov iv ev) (hs:b_=true→ dW b) (h:b_=true→ 0≤page∧page*8+8≤b.owner.length) (aA:U→af→Prop)=>aJ (k:=aA) b_ fun aY=>o_ I b pv h0 h1 h2 h3 ov iv ev page (hb aY) (hs aY) (h aY)
theorem pa(I:af)(b:Bk)(pv h0 h1 h2 h3 ov iv ev:U)(page:Int)(hb:fb I b pv h0 h1 h2 h3 ov iv ev)(hs:dW b)(h:0≤page∧page*8+8≤b.owner.length):Fn Tryz.prog 186 [bV b pv h0 h1 h2 h3 ov iv ev,.int .i64 page,.int .i64 2] I fun x R=>x= .bool (decide (iA b page 2))∧R=I:=by
 refine ay aZ mixed Tryz.func186 (by kernel_rfl) rfl (by kernel_rfl) bE ?_
 obtain⟨_,_,_,_,_,vo,_,_⟩:=hb
 obtain⟨_,_,sh,⟨so,_⟩,_,_⟩:=hs
 have sh':=sh 2
 simp+contextual (maxSteps:=1000000) (disch:=first|exact dA|fail) [go_sem,int_lt,-Int.not_le,-Int.not_lt]
 refine aC (fun R_ env R=>∃(u n:Int),env 1= .int .i64 page∧env 2= .int .i64 2∧env 3= .ptr I.n 0∧env 7= .int .i64 n∧env 8= .int .i64 u∧qW I b pv h0 h1 h2 h3 ov iv ev=R∧R_ ((8-u).toNat)∧(0≤u∧u≤8∧0≤n∧n≤u∧(∀q:Int,0≤q→q<u→iz b page 2 q)∧(0<n↔∃q:Int,0≤q∧q<u∧q % sz 2=0∧0<at_ b.owner (page*8+q)))) (by rintro R_ env R ⟨u,n,e1,e2,e3,e7,e8,h_,cz,hp⟩;exact⟨_,cz,u,n,e1,e2,e3,e7,e8,h_,rfl,hp⟩) ⟨0,0,aq,aq,aq,aq,aq,rfl,trivial,?_⟩ ?_
 rotate_left
 rintro m_ env R ⟨u,n,e1,e2,e3,e7,e8,rfl,rfl,hp⟩
 rotate_left
 ·refine⟨J,J,J,J,fun q q1 q2=>by omega,⟨fun h=>by omega,fun⟨q,q1,q2,_⟩=>by omega⟩⟩
 obtain⟨u0,u1,n0,n1,hr,hn⟩:=hp
 have ro:= @pU b page 2 u 2 rfl
 have re:= @nQ b page 2 u 2 rfl
 rw[HS]at ro re
 simp+contextual (maxSteps:=1000000) (disch:=first|exact dA|fail) [go_sem,int_lt,-Int.not_le,-Int.not_lt,e1,e2,e3,e7,e8,HS,Int.tmod_eq_emod_of_nonneg]
 rw[HS]at hn
 refine⟨fun h=>?_,fun h=>nR h u1 n0 hr (by rw[HS];exact hn)⟩
 refine Alt.mk (Alt.mk ⟨fun h2=>⟨fun h3 Gh=>?_,fun h3 h4=>?_⟩,fun h2=>⟨fun h3 Gh=>?_,fun h3 h4=>⟨fun h5=>?_,fun h5=>?_⟩⟩⟩)
 ·have:=(ro h2).1 (Gh.1 u u0 J)
  rcases h3 with h3|h3
  ·exact h3 this.1
  ·exact this.2 h3
 ·exact kj h u0 n0 n1 hr hn ((ro h2).2 ⟨h3,h4⟩) (fun hh=>by omega)
 ·have:=(re h2).1 (Gh.1 u u0 J)
  rcases h3 with h3|h3
  ·by_cases hm:page*8+u∈b.aj 2<;>simp[hm]at h3 this<;>omega
  ·exact h3 this.2
 ·exact nS h u0 n0 n1 hr ((re h2).2 ⟨h3,h4⟩) J II
 ·exact kj h u0 n0 n1 hr hn ((re h2).2 ⟨h3,h4⟩) (fun hh=>by have:=h3.2 h5;omega)
@[go_sem] def Tb:=fun(I:af) b pv h0 h1 h2 h3 ov iv ev page hb hs h (aA:U→af→Prop)=>ar (k:=aA) (pa I b pv h0 h1 h2 h3 ov iv ev page hb hs h)
@[go_sem] def Ta:=fun(I:af) (b_:Bool) (b:Bk) (pv h0 h1 h2 h3 ov iv ev:U) (page:Int) (hb:b_=true→ fb I b pv h0 h1 h2 h3 ov iv ev) (hs:b_=true→ dW b) (h:b_=true→ 0≤page∧page*8+8≤b.owner.length) (aA:U→af→Prop)=>aJ (k:=aA) b_ fun aY=>pa I b pv h0 h1 h2 h3 ov iv ev page (hb aY) (hs aY) (h aY)
theorem pd(I:af)(b:Bk)(pv h0 h1 h2 h3 ov iv ev:U)(page:Int)(hb:fb I b pv h0 h1 h2 h3 ov iv ev)(hs:dW b)(h:0≤page∧page*8+8≤b.owner.length):Fn Tryz.prog 186 [bV b pv h0 h1 h2 h3 ov iv ev,.int .i64 page,.int .i64 3] I fun x R=>x= .bool (decide (iA b page 3))∧R=I:=by
 refine ay aZ mixed Tryz.func186 (by kernel_rfl) rfl (by kernel_rfl) bE ?_
 obtain⟨_,_,_,_,_,vo,_,_⟩:=hb
 obtain⟨_,_,sh,⟨so,_⟩,_,_⟩:=hs
 have sh':=sh 3
 simp+contextual (maxSteps:=1000000) (disch:=first|exact dA|fail) [go_sem,int_lt,-Int.not_le,-Int.not_lt]
 refine aC (fun R_ env R=>∃(u n:Int),env 1= .int .i64 page∧env 2= .int .i64 3∧env 3= .ptr I.n 0∧env 7= .int .i64 n∧env 8= .int .i64 u∧qW I b pv h0 h1 h2 h3 ov iv ev=R∧R_ ((8-u).toNat)∧(0≤u∧u≤8∧0≤n∧n≤u∧(∀q:Int,0≤q→q<u→iz b page 3 q)∧(0<n↔∃q:Int,0≤q∧q<u∧q % sz 3=0∧0<at_ b.owner (page*8+q)))) (by rintro R_ env R ⟨u,n,e1,e2,e3,e7,e8,h_,cz,hp⟩;exact⟨_,cz,u,n,e1,e2,e3,e7,e8,h_,rfl,hp⟩) ⟨0,0,aq,aq,aq,aq,aq,rfl,trivial,?_⟩ ?_
 rotate_left
 rintro m_ env R ⟨u,n,e1,e2,e3,e7,e8,rfl,rfl,hp⟩
 rotate_left
 ·refine⟨J,J,J,J,fun q q1 q2=>by omega,⟨fun h=>by omega,fun⟨q,q1,q2,_⟩=>by omega⟩⟩
 obtain⟨u0,u1,n0,n1,hr,hn⟩:=hp
 have ro:= @pU b page 3 u 3 rfl
 have re:= @nQ b page 3 u 3 rfl
 rw[HT]at ro re
 simp+contextual (maxSteps:=1000000) (disch:=first|exact dA|fail) [go_sem,int_lt,-Int.not_le,-Int.not_lt,e1,e2,e3,e7,e8,HT,Int.tmod_eq_emod_of_nonneg]
 rw[HT]at hn
 refine⟨fun h=>?_,fun h=>nR h u1 n0 hr (by rw[HT];exact hn)⟩
 refine Alt.mk (Alt.mk ⟨fun h2=>⟨fun h3 Gh=>?_,fun h3 h4=>?_⟩,fun h2=>⟨fun h3 Gh=>?_,fun h3 h4=>⟨fun h5=>?_,fun h5=>?_⟩⟩⟩)
 ·have:=(ro h2).1 (Gh.1 u u0 J)
  rcases h3 with h3|h3
  ·exact h3 this.1
  ·exact this.2 h3
 ·exact kj h u0 n0 n1 hr hn ((ro h2).2 ⟨h3,h4⟩) (fun hh=>by omega)
 ·have:=(re h2).1 (Gh.1 u u0 J)
  rcases h3 with h3|h3
  ·by_cases hm:page*8+u∈b.aj 3<;>simp[hm]at h3 this<;>omega
  ·exact h3 this.2
 ·exact nS h u0 n0 n1 hr ((re h2).2 ⟨h3,h4⟩) J II
 ·exact kj h u0 n0 n1 hr hn ((re h2).2 ⟨h3,h4⟩) (fun hh=>by have:=h3.2 h5;omega)
@[go_sem] def Td:=fun(I:af) b pv h0 h1 h2 h3 ov iv ev page hb hs h (aA:U→af→Prop)=>ar (k:=aA) (pd I b pv h0 h1 h2 h3 ov iv ev page hb hs h)
@[go_sem] def Tc:=fun(I:af) (b_:Bool) (b:Bk) (pv h0 h1 h2 h3 ov iv ev:U) (page:Int) (hb:b_=true→ fb I b pv h0 h1 h2 h3 ov iv ev) (hs:b_=true→ dW b) (h:b_=true→ 0≤page∧page*8+8≤b.owner.length) (aA:U→af→Prop)=>aJ (k:=aA) b_ fun aY=>pd I b pv h0 h1 h2 h3 ov iv ev page (hb aY) (hs aY) (h aY)
end AH
namespace AH
open Go Go.Proofs Ho
set_option maxRecDepth 10000
set_option maxHeartbeats 4000000
theorem BF(I:af)(b:Bk)(pv h0 h1 h2 h3 ov iv ev:U)(page:Int)(hb:fb I b pv h0 h1 h2 h3 ov iv ev)(hs:dW b)(h:0≤page∧page<b.ah.length∧b.owner.length=b.ah.length*8):Fn Tryz.prog 188 [bV b pv h0 h1 h2 h3 ov iv ev,.int .i64 page] I fun x R=>x= .bool (decide (Ln b page))∧R=I:=by
 refine ay aZ mixed Tryz.func188 (by kernel_rfl) rfl (by kernel_rfl) bE ?_
 have eR:=hb
 have BW:=hs
 obtain⟨vp,_,_,_,_,vo,_,_⟩:=hb
 obtain⟨_,⟨sp,qP⟩,_,⟨so,_⟩,_,_⟩:=hs
 have kr:=qP page
 simp+contextual (maxSteps:=1000000) (disch:=first|exact dA|fail) [go_sem,int_lt,-Int.not_le,-Int.not_lt]
 refine Alt.mk ⟨fun h hw=>?_,fun a1 a2 a3 a4 a5=>?_⟩
 ·obtain⟨⟨b1,b2,b3,b4,b5⟩,_⟩:=hw
  rcases h with h|h|h|h|h<;>first|omega|exact h b5
 refine aC (fun R_ env R=>∃(i:Int),env 1= .int .i64 page∧env 2= .ptr I.n 0∧env 5= .int .i64 (at_ b.ah page-8)∧env 6= .int .i64 i∧qW I b pv h0 h1 h2 h3 ov iv ev=R∧R_ ((5-i).toNat)∧(1≤i∧i≤at_ b.ah page-8∧∀q:Int,1≤q→q<i→at_ b.ah (page+q)=7)) (by rintro R_ env R ⟨i,e1,e2,e5,e6,h_,cz,hp⟩;exact⟨_,cz,i,e1,e2,e5,e6,h_,rfl,hp⟩) ⟨1,aq,aq,aq,aq,rfl,trivial,?_⟩ ?_
 rotate_left
 rintro m_ env R ⟨i,e1,e2,e5,e6,rfl,rfl,hp⟩
 rotate_left
 ·refine⟨J,J,fun q q1 q2=>by omega⟩
 simp+contextual (maxSteps:=1000000) (disch:=first|exact dA|fail) [go_sem,int_lt,-Int.not_le,-Int.not_lt,e1,e2,e5,e6]
 refine⟨fun h=>⟨fun h2 hw=>?_,fun h2=>⟨J,J,J,fun q q1 q2=>?_⟩⟩,fun h=>⟨⟨a1,a2,a3,a4,a5⟩,fun q q1 q2=>hp.2.2 q q1 J⟩⟩
 ·exact h2 (hw.2 i J J)
 ·by_cases e:q=i
  ·subst e;exact h2
  ·exact hp.2.2 q q1 J
@[go_sem] def Zz:=fun(I:af) b pv h0 h1 h2 h3 ov iv ev page hb hs h (aA:U→af→Prop)=>ar (k:=aA) (BF I b pv h0 h1 h2 h3 ov iv ev page hb hs h)
@[go_sem] def Zy:=fun(I:af) (b_:Bool) (b:Bk) (pv h0 h1 h2 h3 ov iv ev:U) (page:Int) (hb:b_=true→ fb I b pv h0 h1 h2 h3 ov iv ev) (hs:b_=true→ dW b) (h:b_=true→ 0≤page∧page<b.ah.length∧b.owner.length=b.ah.length*8) (aA:U→af→Prop)=>aJ (k:=aA) b_ fun aY=>BF I b pv h0 h1 h2 h3 ov iv ev page (hb aY) (hs aY) (h aY)
theorem BB(I:af)(b:Bk)(pv h0 h1 h2 h3 ov iv ev:U)(page:Int)(hb:fb I b pv h0 h1 h2 h3 ov iv ev)(hs:dW b)(h:0≤page∧page<b.ah.length∧b.owner.length=b.ah.length*8):Fn Tryz.prog 187 [bV b pv h0 h1 h2 h3 ov iv ev,.int .i64 page] I fun x R=>x= .bool (decide (wk b page))∧R=I:=by
 refine ay aZ mixed Tryz.func187 (by kernel_rfl) rfl (by kernel_rfl) bE ?_
 have eR:=hb
 have BW:=hs
 obtain⟨vp,_,_,_,_,vo,_,_⟩:=hb
 obtain⟨_,⟨sp,qP⟩,_,⟨so,_⟩,_,_⟩:=hs
 have kr:=qP page
 simp+contextual (maxSteps:=1000000) (disch:=first|exact dA|fail) [go_sem,int_lt,-Int.not_le,-Int.not_lt]
 refine aC (fun R_ env R=>∃(p:Int),env 1= .int .i64 page∧env 2= .ptr I.n 0∧env 5= .int .i64 p∧qW I b pv h0 h1 h2 h3 ov iv ev=R∧R_ (p.toNat)∧(0≤p∧p≤page∧back b.ah p.toNat=back b.ah page.toNat)) (by rintro R_ env R ⟨p,e1,e2,e5,h_,cz,hp⟩;exact⟨_,cz,p,e1,e2,e5,h_,rfl,hp⟩) ⟨page,aq,aq,aq,rfl,trivial,?_⟩ ?_
 rotate_left
 rintro m_ env R ⟨p,e1,e2,e5,rfl,rfl,hp⟩
 rotate_left
 ·refine⟨J,J,rfl⟩
 have hpp:=qP p
 simp+contextual (maxSteps:=1000000) (disch:=first|exact dA|fail) [go_sem,int_lt,-Int.not_le,-Int.not_lt,e1,e2,e5]
 refine⟨fun h2 h3=>⟨J,J,J,?_⟩,fun h2=>Alt.mk ?_⟩
 ·rw[←hp.2.2]
  obtain⟨k,hk⟩:∃k:Nat,p=(k+1:Nat):=⟨p.toNat-1,J⟩
  subst hk
  simp only[Int.toNat_natCast,Nat.add_sub_cancel]
  conv=>rhs;unfold back
  rw[if_pos h3]
 ·have EB:(back b.ah page.toNat:Int)=p:=by
   rw[←hp.2.2]
   by_cases h0:p≤0
   ·have:p=0:=J
    subst this;rfl
   ·obtain⟨k,hk⟩:∃k:Nat,p=(k+1:Nat):=⟨p.toNat-1,J⟩
    subst hk
    simp only[Int.toNat_natCast]
    unfold back
    rw[if_neg (h2 J)]
  have hre:wk b page↔(8<at_ b.ah p∧page<p+at_ b.ah p-8∧dz b page 0):=by unfold wk;rw[EB]
  by_cases c1:at_ b.ah p≤8
  ·simp[c1,hre,show ¬8<at_ b.ah p by omega]
  ·by_cases c2:p+at_ b.ah p-8≤page
   ·simp[c1,c2,hre,show ¬page<p+at_ b.ah p-8 by omega]
   ·simp[c1,c2,hre,show 8<at_ b.ah p by omega,show page<p+at_ b.ah p-8 by omega]
@[go_sem] def Zs:=fun(I:af) b pv h0 h1 h2 h3 ov iv ev page hb hs h (aA:U→af→Prop)=>ar (k:=aA) (BB I b pv h0 h1 h2 h3 ov iv ev page hb hs h)
@[go_sem] def Zr:=fun(I:af) (b_:Bool) (b:Bk) (pv h0 h1 h2 h3 ov iv ev:U) (page:Int) (hb:b_=true→ fb I b pv h0 h1 h2 h3 ov iv ev) (hs:b_=true→ dW b) (h:b_=true→ 0≤page∧page<b.ah.length∧b.owner.length=b.ah.length*8) (aA:U→af→Prop)=>aJ (k:=aA) b_ fun aY=>BB I b pv h0 h1 h2 h3 ov iv ev page (hb aY) (hs aY) (h aY)
theorem wT(I:af)(b:Bk)(pv h0 h1 h2 h3 ov iv ev:U)(page kind:Int)(hb:fb I b pv h0 h1 h2 h3 ov iv ev)(hs:dW b)(h:0≤page∧page*8+8≤b.owner.length)(hk:0≤kind∧kind<4):Fn Tryz.prog 186 [bV b pv h0 h1 h2 h3 ov iv ev,.int .i64 page,.int .i64 kind] I fun x R=>x= .bool (decide (iA b page kind))∧R=I:=by
 have:kind=0∨kind=1∨kind=2∨kind=3:=J
 rcases this with rfl|rfl|rfl|rfl
 ·exact o9 I b pv h0 h1 h2 h3 ov iv ev page hb hs h
 ·exact o_ I b pv h0 h1 h2 h3 ov iv ev page hb hs h
 ·exact pa I b pv h0 h1 h2 h3 ov iv ev page hb hs h
 ·exact pd I b pv h0 h1 h2 h3 ov iv ev page hb hs h
@[go_sem] def W5:=fun(I:af) b pv h0 h1 h2 h3 ov iv ev page kind hb hs h hk (aA:U→af→Prop)=>ar (k:=aA) (wT I b pv h0 h1 h2 h3 ov iv ev page kind hb hs h hk)
@[go_sem] def W4:=fun(I:af) (b_:Bool) (b:Bk) (pv h0 h1 h2 h3 ov iv ev:U) (page kind:Int) (hb:b_=true→ fb I b pv h0 h1 h2 h3 ov iv ev) (hs:b_=true→ dW b) (h:b_=true→ 0≤page∧page*8+8≤b.owner.length) (hk:b_=true→ 0≤kind∧kind<4) (aA:U→af→Prop)=>aJ (k:=aA) b_ fun aY=>wT I b pv h0 h1 h2 h3 ov iv ev page kind (hb aY) (hs aY) (h aY) (hk aY)
theorem sm(s:Int):ch s<4:=by unfold ch;split<;>omega
theorem BA(I:af)(b:Bk)(pv h0 h1 h2 h3 ov iv ev:U)(page:Int)(hb:fb I b pv h0 h1 h2 h3 ov iv ev)(hs:dW b)(h:0≤page∧page<b.ah.length∧b.owner.length=b.ah.length*8):Fn Tryz.prog 138 [bV b pv h0 h1 h2 h3 ov iv ev,.int .i64 page] I fun x R=>x= .bool (decide (ic b page))∧R=I:=by
 refine ay Kl mixed Tryz.func138 (by kernel_rfl) rfl (by kernel_rfl) bE ?_
 have eR:=hb
 have BW:=hs
 obtain⟨vp,_,_,_,_,vo,_,_⟩:=hb
 obtain⟨_,⟨sp,qP⟩,_,⟨so,_⟩,_,_⟩:=hs
 have kr:=qP page
 have hkl:=sm (at_ b.ah page)
 simp+contextual (maxSteps:=1000000) (disch:=first|exact dA|fail) [go_sem,int_lt,-Int.not_le,-Int.not_lt,Kl,ic]
@[go_sem] def Zp:=fun(I:af) b pv h0 h1 h2 h3 ov iv ev page hb hs h (aA:U→af→Prop)=>ar (k:=aA) (BA I b pv h0 h1 h2 h3 ov iv ev page hb hs h)
@[go_sem] def Zo:=fun(I:af) (b_:Bool) (b:Bk) (pv h0 h1 h2 h3 ov iv ev:U) (page:Int) (hb:b_=true→ fb I b pv h0 h1 h2 h3 ov iv ev) (hs:b_=true→ dW b) (h:b_=true→ 0≤page∧page<b.ah.length∧b.owner.length=b.ah.length*8) (aA:U→af→Prop)=>aJ (k:=aA) b_ fun aY=>BA I b pv h0 h1 h2 h3 ov iv ev page (hb aY) (hs aY) (h aY)
theorem wL(I:af)(b:Bk)(pv h0 h1 h2 h3 ov iv ev:U)(hb:fb I b pv h0 h1 h2 h3 ov iv ev)(hs:dW b)(h:b.owner.length=b.ah.length*8):Fn Tryz.prog 137 [bV b pv h0 h1 h2 h3 ov iv ev] I fun x R=>x= .bool (decide (js b))∧R=I:=by
 refine ay jZ mixed Tryz.func137 (by kernel_rfl) rfl (by kernel_rfl) bE ?_
 have eR:=hb
 have BW:=hs
 obtain⟨vp,v0,v1,v2,v3,vo,_,_⟩:=hb
 obtain⟨_,⟨sp,qP⟩,sh,⟨so,_⟩,_,_⟩:=hs
 simp+contextual (maxSteps:=1000000) (disch:=first|exact dA|fail) [go_sem,int_lt,-Int.not_le,-Int.not_lt,jZ]
 refine aC (fun R_ env R=>∃(k:Int),env 1= .ptr I.n 0∧env 3= .int .i64 k∧qW I b pv h0 h1 h2 h3 ov iv ev=R∧R_ ((4-k).toNat)∧(0≤k∧k≤4∧∀j:Nat,(j:Int)<k→ES b j)) (by rintro R_ env R ⟨k,e1,e3,h_,cz,hp⟩;exact⟨_,cz,k,e1,e3,h_,rfl,hp⟩) ⟨0,aq,aq,rfl,trivial,?_⟩ ?_
 rotate_left
 rintro m_ env R ⟨k,e1,e3,rfl,rfl,hp⟩
 rotate_left
 ·refine⟨J,J,fun j hj=>by omega⟩
 have hk:k=0∨k=1∨k=2∨k=3∨k=4:=J
 rcases hk with rfl|rfl|rfl|rfl|rfl
 ·have sx:=sh 0
  have Mb:=hp
  obtain⟨sx,Md⟩:=sx
  simp+contextual (maxSteps:=1000000) (disch:=first|exact dA|fail) [go_sem,int_lt,-Int.not_le,-Int.not_lt,jZ,e1,e3]
  refine⟨fun hq hl=>?_,fun hq=>?_⟩
  ·have:=(hl 0 fX).1;omega
  refine aC (fun R_ env R=>∃(i:Int),env 1= .ptr I.n 0∧env 3= .int .i64 0∧env 4= .int .i64 i∧qW I b pv h0 h1 h2 h3 ov iv ev=R∧R_ (((b.aj 0).length-i).toNat)∧(0≤i∧i≤(b.aj 0).length∧∀q:Int,0≤q→q<i→0≤at_ (b.aj 0) q∧at_ (b.aj 0) q<b.owner.length∧ch (at_ b.ah (at_ (b.aj 0) q/8))=(0:Nat)∧at_ (b.aj 0) q % sz (0:Nat)≤0)) (by rintro R_ env R ⟨i,e1,e3,e4,h_,cz,hp⟩;exact⟨_,cz,i,e1,e3,e4,h_,rfl,hp⟩) ⟨0,aq,aq,aq,rfl,trivial,?_⟩ ?_
  rotate_left
  rintro m_ env R ⟨i,e1,e3,e4,rfl,rfl,hp⟩
  rotate_left
  ·refine⟨J,J,fun q q1 q2=>by omega⟩
  have sxi:=Md i
  have spi:=qP (at_ (b.aj 0) i/8)
  simp+contextual (maxSteps:=1000000) (disch:=first|exact dA|fail) [go_sem,int_lt,-Int.not_le,-Int.not_lt,jZ,e1,e3,e4,Int.tdiv_eq_ediv_of_nonneg,Int.tmod_eq_emod_of_nonneg,HP]
  have ez:sz ((0:Nat):Int)=1:=rfl
  refine⟨fun hi=>Alt.mk (Alt.mk ⟨fun hx hl=>?_,fun a1 a2 a3=>⟨J,J,J,fun q q1 q2=>?_⟩⟩),fun hi j hj=>?_⟩
  ·have hh:=(hl 0 fX).2 i J J
   rw[ez]at hh
   rcases hx with hx|hx|hx<;>omega
  ·by_cases e:q=i
   ·subst e;exact⟨a1,a2,a3⟩
   ·have:=hp.2.2 q q1 J
    rw[ez]at this
    exact⟨this.1,J,this.2.2.1⟩
  ·by_cases e:j=0
   ·subst e;exact⟨J,fun q q1 q2=>hp.2.2 q q1 J⟩
   ·exact Mb.2.2 j J
 ·have sx:=sh 1
  have Mb:=hp
  obtain⟨sx,Md⟩:=sx
  simp+contextual (maxSteps:=1000000) (disch:=first|exact dA|fail) [go_sem,int_lt,-Int.not_le,-Int.not_lt,jZ,e1,e3]
  refine⟨fun hq hl=>?_,fun hq=>?_⟩
  ·have:=(hl 1 fX).1;omega
  refine aC (fun R_ env R=>∃(i:Int),env 1= .ptr I.n 0∧env 3= .int .i64 1∧env 4= .int .i64 i∧qW I b pv h0 h1 h2 h3 ov iv ev=R∧R_ (((b.aj 1).length-i).toNat)∧(0≤i∧i≤(b.aj 1).length∧∀q:Int,0≤q→q<i→0≤at_ (b.aj 1) q∧at_ (b.aj 1) q<b.owner.length∧ch (at_ b.ah (at_ (b.aj 1) q/8))=(1:Nat)∧at_ (b.aj 1) q % sz (1:Nat)≤0)) (by rintro R_ env R ⟨i,e1,e3,e4,h_,cz,hp⟩;exact⟨_,cz,i,e1,e3,e4,h_,rfl,hp⟩) ⟨0,aq,aq,aq,rfl,trivial,?_⟩ ?_
  rotate_left
  rintro m_ env R ⟨i,e1,e3,e4,rfl,rfl,hp⟩
  rotate_left
  ·refine⟨J,J,fun q q1 q2=>by omega⟩
  have sxi:=Md i
  have spi:=qP (at_ (b.aj 1) i/8)
  simp+contextual (maxSteps:=1000000) (disch:=first|exact dA|fail) [go_sem,int_lt,-Int.not_le,-Int.not_lt,jZ,e1,e3,e4,Int.tdiv_eq_ediv_of_nonneg,Int.tmod_eq_emod_of_nonneg,HQ]
  have ez:sz ((1:Nat):Int)=2:=rfl
  refine⟨fun hi=>Alt.mk (Alt.mk ⟨fun hx hl=>?_,fun a1 a2 a3 a4=>⟨J,J,J,fun q q1 q2=>?_⟩⟩),fun hi j hj=>?_⟩
  ·have hh:=(hl 1 fX).2 i J J
   rw[ez]at hh
   rcases hx with hx|hx|hx|hx<;>omega
  ·by_cases e:q=i
   ·subst e;exact⟨a1,a2,a3,a4⟩
   ·have:=hp.2.2 q q1 J
    rw[ez]at this
    exact⟨this.1,J,this.2.2.1,this.2.2.2⟩
  ·by_cases e:j=1
   ·subst e;exact⟨J,fun q q1 q2=>hp.2.2 q q1 J⟩
   ·exact Mb.2.2 j J
 ·have sx:=sh 2
  have Mb:=hp
  obtain⟨sx,Md⟩:=sx
  simp+contextual (maxSteps:=1000000) (disch:=first|exact dA|fail) [go_sem,int_lt,-Int.not_le,-Int.not_lt,jZ,e1,e3]
  refine⟨fun hq hl=>?_,fun hq=>?_⟩
  ·have:=(hl 2 fX).1;omega
  refine aC (fun R_ env R=>∃(i:Int),env 1= .ptr I.n 0∧env 3= .int .i64 2∧env 4= .int .i64 i∧qW I b pv h0 h1 h2 h3 ov iv ev=R∧R_ (((b.aj 2).length-i).toNat)∧(0≤i∧i≤(b.aj 2).length∧∀q:Int,0≤q→q<i→0≤at_ (b.aj 2) q∧at_ (b.aj 2) q<b.owner.length∧ch (at_ b.ah (at_ (b.aj 2) q/8))=(2:Nat)∧at_ (b.aj 2) q % sz (2:Nat)≤0)) (by rintro R_ env R ⟨i,e1,e3,e4,h_,cz,hp⟩;exact⟨_,cz,i,e1,e3,e4,h_,rfl,hp⟩) ⟨0,aq,aq,aq,rfl,trivial,?_⟩ ?_
  rotate_left
  rintro m_ env R ⟨i,e1,e3,e4,rfl,rfl,hp⟩
  rotate_left
  ·refine⟨J,J,fun q q1 q2=>by omega⟩
  have sxi:=Md i
  have spi:=qP (at_ (b.aj 2) i/8)
  simp+contextual (maxSteps:=1000000) (disch:=first|exact dA|fail) [go_sem,int_lt,-Int.not_le,-Int.not_lt,jZ,e1,e3,e4,Int.tdiv_eq_ediv_of_nonneg,Int.tmod_eq_emod_of_nonneg,HS]
  have ez:sz ((2:Nat):Int)=4:=rfl
  refine⟨fun hi=>Alt.mk (Alt.mk ⟨fun hx hl=>?_,fun a1 a2 a3 a4=>⟨J,J,J,fun q q1 q2=>?_⟩⟩),fun hi j hj=>?_⟩
  ·have hh:=(hl 2 fX).2 i J J
   rw[ez]at hh
   rcases hx with hx|hx|hx|hx<;>omega
  ·by_cases e:q=i
   ·subst e;exact⟨a1,a2,a3,a4⟩
   ·have:=hp.2.2 q q1 J
    rw[ez]at this
    exact⟨this.1,J,this.2.2.1,this.2.2.2⟩
  ·by_cases e:j=2
   ·subst e;exact⟨J,fun q q1 q2=>hp.2.2 q q1 J⟩
   ·exact Mb.2.2 j J
 ·have sx:=sh 3
  have Mb:=hp
  obtain⟨sx,Md⟩:=sx
  simp+contextual (maxSteps:=1000000) (disch:=first|exact dA|fail) [go_sem,int_lt,-Int.not_le,-Int.not_lt,jZ,e1,e3]
  refine⟨fun hq hl=>?_,fun hq=>?_⟩
  ·have:=(hl 3 fX).1;omega
  refine aC (fun R_ env R=>∃(i:Int),env 1= .ptr I.n 0∧env 3= .int .i64 3∧env 4= .int .i64 i∧qW I b pv h0 h1 h2 h3 ov iv ev=R∧R_ (((b.aj 3).length-i).toNat)∧(0≤i∧i≤(b.aj 3).length∧∀q:Int,0≤q→q<i→0≤at_ (b.aj 3) q∧at_ (b.aj 3) q<b.owner.length∧ch (at_ b.ah (at_ (b.aj 3) q/8))=(3:Nat)∧at_ (b.aj 3) q % sz (3:Nat)≤0)) (by rintro R_ env R ⟨i,e1,e3,e4,h_,cz,hp⟩;exact⟨_,cz,i,e1,e3,e4,h_,rfl,hp⟩) ⟨0,aq,aq,aq,rfl,trivial,?_⟩ ?_
  rotate_left
  rintro m_ env R ⟨i,e1,e3,e4,rfl,rfl,hp⟩
  rotate_left
  ·refine⟨J,J,fun q q1 q2=>by omega⟩
  have sxi:=Md i
  have spi:=qP (at_ (b.aj 3) i/8)
  simp+contextual (maxSteps:=1000000) (disch:=first|exact dA|fail) [go_sem,int_lt,-Int.not_le,-Int.not_lt,jZ,e1,e3,e4,Int.tdiv_eq_ediv_of_nonneg,Int.tmod_eq_emod_of_nonneg,HT]
  have ez:sz ((3:Nat):Int)=8:=rfl
  refine⟨fun hi=>Alt.mk (Alt.mk ⟨fun hx hl=>?_,fun a1 a2 a3 a4=>⟨J,J,J,fun q q1 q2=>?_⟩⟩),fun hi j hj=>?_⟩
  ·have hh:=(hl 3 fX).2 i J J
   rw[ez]at hh
   rcases hx with hx|hx|hx|hx<;>omega
  ·by_cases e:q=i
   ·subst e;exact⟨a1,a2,a3,a4⟩
   ·have:=hp.2.2 q q1 J
    rw[ez]at this
    exact⟨this.1,J,this.2.2.1,this.2.2.2⟩
  ·by_cases e:j=3
   ·subst e;exact⟨J,fun q q1 q2=>hp.2.2 q q1 J⟩
   ·exact Mb.2.2 j J
 ·simp+contextual (maxSteps:=1000000) (disch:=first|exact dA|fail) [go_sem,int_lt,-Int.not_le,-Int.not_lt,jZ,e1,e3]
  exact fun j hj=>hp.2.2 j J
@[go_sem] def WN:=fun(I:af) b pv h0 h1 h2 h3 ov iv ev hb hs h (aA:U→af→Prop)=>ar (k:=aA) (wL I b pv h0 h1 h2 h3 ov iv ev hb hs h)
@[go_sem] def WM:=fun(I:af) (b_:Bool) (b:Bk) (pv h0 h1 h2 h3 ov iv ev:U) (hb:b_=true→ fb I b pv h0 h1 h2 h3 ov iv ev) (hs:b_=true→ dW b) (h:b_=true→ b.owner.length=b.ah.length*8) (aA:U→af→Prop)=>aJ (k:=aA) b_ fun aY=>wL I b pv h0 h1 h2 h3 ov iv ev (hb aY) (hs aY) (h aY)
theorem ur(I:af)(b:Bk)(pv h0 h1 h2 h3 ov iv ev:U)(hb:fb I b pv h0 h1 h2 h3 ov iv ev)(hs:dW b):Fn Tryz.prog 73 [bV b pv h0 h1 h2 h3 ov iv ev] I fun x R=>x= .bool (decide (cm b))∧R=I:=by
 refine ay aZ mixed Tryz.func73 (by kernel_rfl) rfl (by kernel_rfl) bE ?_
 have eR:=hb
 have BW:=hs
 obtain⟨vp,v0,v1,v2,v3,vo,_,_⟩:=hb
 obtain⟨_,⟨sp,qP⟩,sh,⟨so,_⟩,_,_⟩:=hs
 by_cases gG:gg b
 rotate_left
 ·have Uz:¬cm b:=fun h=>gG h.1
  simp+contextual (maxSteps:=1000000) (disch:=first|exact dA|fail) [go_sem,int_lt,-Int.not_le,-Int.not_lt,gG,Uz]
 have EG:b.owner.length=b.ah.length*8:=gG.1.2.2.2.2.2.2
 by_cases BS:js b
 rotate_left
 ·have Uz:¬cm b:=fun h=>BS h.2.1
  simp+contextual (maxSteps:=1000000) (disch:=first|exact dA|fail) [go_sem,int_lt,-Int.not_le,-Int.not_lt,gG,BS,Uz]
 simp+contextual (maxSteps:=1000000) (disch:=first|exact dA|fail) [go_sem,int_lt,-Int.not_le,-Int.not_lt,gG,BS]
 refine Alt.mk (Alt.mk ?_)
 refine aC (fun R_ env R=>∃(p:Int),env 1= .ptr I.n 0∧env 3= .int .i64 p∧qW I b pv h0 h1 h2 h3 ov iv ev=R∧R_ ((b.ah.length-p).toNat)∧(0≤p∧p≤b.ah.length∧∀q:Int,0≤q→q<p→ic b q)) (by rintro R_ env R ⟨p,e1,e3,h_,cz,hp⟩;exact⟨_,cz,p,e1,e3,h_,rfl,hp⟩) ⟨0,aq,aq,rfl,trivial,?_⟩ ?_
 rotate_left
 rintro m_ env R ⟨p,e1,e3,rfl,rfl,hp⟩
 rotate_left
 ·refine⟨J,J,fun q q1 q2=>by omega⟩
 simp+contextual (maxSteps:=1000000) (disch:=first|exact dA|fail) [go_sem,int_lt,-Int.not_le,-Int.not_lt,e1,e3]
 refine⟨fun hi=>Alt.mk ⟨fun hx di=>hx (di.2.2 p J J),fun hx=>⟨J,J,J,fun q q1 q2=>?_⟩⟩,fun hi=>⟨gG,BS,fun q q1 q2=>hp.2.2 q q1 J⟩⟩
 by_cases e:q=p
 ·subst e;exact hx
 ·exact hp.2.2 q q1 J
@[go_sem] def S2:=fun(I:af) b pv h0 h1 h2 h3 ov iv ev hb hs (aA:U→af→Prop)=>ar (k:=aA) (ur I b pv h0 h1 h2 h3 ov iv ev hb hs)
@[go_sem] def S1:=fun(I:af) (b_:Bool) (b:Bk) (pv h0 h1 h2 h3 ov iv ev:U) (hb:b_=true→ fb I b pv h0 h1 h2 h3 ov iv ev) (hs:b_=true→ dW b) (aA:U→af→Prop)=>aJ (k:=aA) b_ fun aY=>ur I b pv h0 h1 h2 h3 ov iv ev (hb aY) (hs aY)
end AH
namespace AH
open Go Go.Proofs Ho
set_option maxRecDepth 10000
set_option maxHeartbeats 4000000
theorem io{xs:List Int}{i:Int}(h0:0≤i)(h1:i<xs.length):xs.drop i.toNat=at_ xs i::xs.drop (i+1).toNat:=by
 rw[show(i+1).toNat=i.toNat+1 by omega,List.drop_eq_getElem_cons J]
 simp[at_,show i.toNat<xs.length by omega]
theorem Ew{xs:List Int}{i:Int}(h1:(xs.length:Int)≤i):xs.drop i.toNat=[]:=by
 rw[List.drop_eq_nil_iff];omega
theorem wF(I:af)(aW:Int):Fn Tryz.prog 231 [.int .i64 aW] I fun x R=>x= .int .i64 (bB aW)∧R=I:=by
 refine ay aZ mixed Tryz.func231 (by kernel_rfl) rfl (by kernel_rfl) bE ?_
 simp+contextual (maxSteps:=1000000) (disch:=first|exact dA|fail) [go_sem,int_lt,-Int.not_le,-Int.not_lt]
 refine aC (fun R_ env R=>∃(k:Int),env 0= .int .i64 aW∧env 3= .int .i64 k∧I=R∧R_ ((4-k).toNat)∧(0≤k∧k≤4∧(0<k→¬(1≤aW∧aW≤1))∧(1<k→¬(1≤aW∧aW≤2))∧(2<k→¬(1≤aW∧aW≤4))∧(3<k→¬(1≤aW∧aW≤8)))) (by rintro R_ env R ⟨k,e0,e3,h_,cz,hp⟩;exact⟨_,cz,k,e0,e3,h_,rfl,hp⟩) ⟨0,aq,aq,rfl,trivial,?_⟩ ?_
 rotate_left
 rintro m_ env R ⟨k,e0,e3,rfl,rfl,hp⟩
 rotate_left
 ·omega
 have hk:k=0∨k=1∨k=2∨k=3∨k=4:=J
 unfold bB
 rcases hk with rfl|rfl|rfl|rfl|rfl<;>simp+contextual (maxSteps:=1000000) (disch:=first|exact dA|fail) [go_sem,int_lt,-Int.not_le,-Int.not_lt,e0,e3,HP,HQ,HS,HT]
 all_goals(repeat' (first|refine Alt.mk ?_|refine⟨?_,?_⟩|intro _))
 all_goals(repeat' split)<;>omega
@[go_sem] def WA:=fun(I:af) aW (aA:U→af→Prop)=>ar (k:=aA) (wF I aW)
@[go_sem] def Wz:=fun(I:af) (b_:Bool) (aW:Int) (aA:U→af→Prop)=>aJ (k:=aA) b_ fun aY=>wF I aW
theorem BC(I:af)(b:Bk)(pv h0 h1 h2 h3 ov iv ev:U)(a:Int)(hb:fb I b pv h0 h1 h2 h3 ov iv ev)(hs:dW b)(h:b.owner.length=b.ah.length*8):Fn Tryz.prog 235 [bV b pv h0 h1 h2 h3 ov iv ev,.int .i64 a] I fun x R=>x= .int .i64 (e_ b a)∧R=I:=by
 refine ay aZ mixed Tryz.func235 (by kernel_rfl) rfl (by kernel_rfl) bE ?_
 obtain⟨vp,_,_,_,_,vo,_,_⟩:=hb
 obtain⟨_,⟨sp,qP⟩,_,⟨so,_⟩,_,_⟩:=hs
 have kr:=qP (a/8)
 have hkl:=sm (at_ b.ah (a/8))
 unfold e_
 simp+contextual (maxSteps:=1000000) (disch:=first|exact dA|fail) [go_sem,int_lt,-Int.not_le,-Int.not_lt,Int.tdiv_eq_ediv_of_nonneg]
 intro x1 x2 x3 x4
 rcases x1 with x1|x1|x1
 ·exact absurd x2 x1
 ·exact absurd x1 x3
 ·exact absurd x1 x4
@[go_sem] def Zu:=fun(I:af) b pv h0 h1 h2 h3 ov iv ev a hb hs h (aA:U→af→Prop)=>ar (k:=aA) (BC I b pv h0 h1 h2 h3 ov iv ev a hb hs h)
@[go_sem] def Zt:=fun(I:af) (b_:Bool) (b:Bk) (pv h0 h1 h2 h3 ov iv ev:U) (a:Int) (hb:b_=true→ fb I b pv h0 h1 h2 h3 ov iv ev) (hs:b_=true→ dW b) (h:b_=true→ b.owner.length=b.ah.length*8) (aA:U→af→Prop)=>aJ (k:=aA) b_ fun aY=>BC I b pv h0 h1 h2 h3 ov iv ev a (hb aY) (hs aY) (h aY)
theorem wI(I:af)(b:Bk)(pv h0 h1 h2 h3 ov iv ev:U)(slot:Int)(hb:fb I b pv h0 h1 h2 h3 ov iv ev)(hs:dW b)(h: -1000000≤slot∧slot≤1000000):Fn Tryz.prog 192 [bV b pv h0 h1 h2 h3 ov iv ev,.int .i64 slot] I fun x R=>x= .int .i64 (gO b slot)∧R=I:=by
 refine ay aZ mixed Tryz.func192 (by kernel_rfl) rfl (by kernel_rfl) bE ?_
 obtain⟨vp,_,_,_,_,vo,_,_⟩:=hb
 obtain⟨_,⟨sp,qP⟩,_,⟨so,_⟩,_,_⟩:=hs
 simp+contextual (maxSteps:=1000000) (disch:=first|exact dA|fail) [go_sem,int_lt,-Int.not_le,-Int.not_lt]
 refine aC (fun R_ env R=>∃(u:Int),env 1= .int .i64 slot∧env 2= .ptr I.n 0∧env 5= .int .i64 u∧qW I b pv h0 h1 h2 h3 ov iv ev=R∧R_ ((b.owner.length-u).toNat)∧(0≤u∧u≤b.owner.length∧gO b slot=dk (b.owner.drop u.toNat) (slot+1) u)) (by rintro R_ env R ⟨u,e1,e2,e5,h_,cz,hp⟩;exact⟨_,cz,u,e1,e2,e5,h_,rfl,hp⟩) ⟨0,aq,aq,aq,rfl,trivial,?_⟩ ?_
 rotate_left
 rintro m_ env R ⟨u,e1,e2,e5,rfl,rfl,hp⟩
 rotate_left
 ·exact⟨J,J,rfl⟩
 simp+contextual (maxSteps:=1000000) (disch:=first|exact dA|fail) [go_sem,int_lt,-Int.not_le,-Int.not_lt,e1,e2,e5]
 refine⟨fun hq=>⟨fun hx=>?_,fun hx=>⟨J,J,J,?_⟩⟩,fun hq=>?_⟩
 ·rw[hp.2.2,io hp.1 J];simp[dk,hx]
 ·rw[hp.2.2,io hp.1 J];simp[dk,hx]
 ·rw[hp.2.2,Ew hq];rfl
@[go_sem] def WI:=fun(I:af) b pv h0 h1 h2 h3 ov iv ev slot hb hs h (aA:U→af→Prop)=>ar (k:=aA) (wI I b pv h0 h1 h2 h3 ov iv ev slot hb hs h)
@[go_sem] def WH:=fun(I:af) (b_:Bool) (b:Bk) (pv h0 h1 h2 h3 ov iv ev:U) (slot:Int) (hb:b_=true→ fb I b pv h0 h1 h2 h3 ov iv ev) (hs:b_=true→ dW b) (h:b_=true→ -1000000≤slot∧slot≤1000000) (aA:U→af→Prop)=>aJ (k:=aA) b_ fun aY=>wI I b pv h0 h1 h2 h3 ov iv ev slot (hb aY) (hs aY) (h aY)
theorem EJ{ah:List Int}{n p:Int}(h0:p≤ah.length+1)(h:¬p+n≤ah.length):fv ah n (ah.length+1-p).toNat p= -1:=by
 cases hf:(ah.length+1-p).toNat with
 |zero=>rfl
 |succ f=>unfold fv;rw[if_pos J]
theorem AR{ah:List Int}{n p:Int}(hn:0≤n)(h:p+n≤ah.length):fv ah n (ah.length+1-p).toNat p=if iQ ah p n then p else fv ah n (ah.length+1-(p+1)).toNat (p+1):=by
 obtain⟨f,hf⟩:∃f:Nat,(ah.length+1-p).toNat=f+1:=⟨(ah.length-p).toNat,J⟩
 rw[hf]
 conv=>lhs;unfold fv
 rw[if_neg J,show(ah.length+1-(p+1)).toNat=f by omega]
theorem C0{ah:List Int}{p i:Int}(h:0≤i):iQ ah p (i+1)↔iQ ah p i∧at_ ah (p+i)=0:=by
 unfold iQ
 constructor
 ·intro hh;exact⟨fun q q1 q2=>hh q q1 J,hh i h J⟩
 ·rintro⟨h1,h2⟩ q q1 q2
  by_cases e:q=i
  ·rw[e];exact h2
  ·exact h1 q q1 J
theorem Fh(I:af)(b:Bk)(pv h0 h1 h2 h3 ov iv ev:U)(n:Int)(hb:fb I b pv h0 h1 h2 h3 ov iv ev)(hs:dW b)(h:0≤n∧n≤1000000):Fn Tryz.prog 233 [bV b pv h0 h1 h2 h3 ov iv ev,.int .i64 n] I fun x R=>x= .int .i64 (cf b.ah n)∧R=I:=by
 refine ay aZ mixed Tryz.func233 (by kernel_rfl) rfl (by kernel_rfl) bE ?_
 obtain⟨vp,_,_,_,_,vo,_,_⟩:=hb
 obtain⟨_,⟨sp,qP⟩,_,⟨so,_⟩,_,_⟩:=hs
 simp+contextual (maxSteps:=1000000) (disch:=first|exact dA|fail) [go_sem,int_lt,-Int.not_le,-Int.not_lt]
 refine aC (fun R_ env R=>∃(p:Int),env 1= .int .i64 n∧env 2= .ptr I.n 0∧env 5= .int .i64 p∧qW I b pv h0 h1 h2 h3 ov iv ev=R∧R_ ((b.ah.length+1-p).toNat)∧(0≤p∧p≤b.ah.length+1∧cf b.ah n=fv b.ah n (b.ah.length+1-p).toNat p)) (by rintro R_ env R ⟨p,e1,e2,e5,h_,cz,hp⟩;exact⟨_,cz,p,e1,e2,e5,h_,rfl,hp⟩) ⟨0,aq,aq,aq,rfl,trivial,?_⟩ ?_
 rotate_left
 rintro m_ env R ⟨p,e1,e2,e5,rfl,rfl,hp⟩
 rotate_left
 ·exact⟨J,J,by unfold cf;congr 1⟩
 simp+contextual (maxSteps:=1000000) (disch:=first|exact dA|fail) [go_sem,int_lt,-Int.not_le,-Int.not_lt,e1,e2,e5]
 refine⟨fun hq=>?_,fun hq=>?_⟩
 ·have Mb:=hp
  have HA:iQ b.ah p 0:=fun q q1 q2=>by omega
  refine aC (fun R_ env R=>∃(i:Int),env 1= .int .i64 n∧env 2= .ptr I.n 0∧env 5= .int .i64 p∧env 7= .int .i64 i∧env 6= .bool (decide (iQ b.ah p i))∧qW I b pv h0 h1 h2 h3 ov iv ev=R∧R_ ((n-i).toNat)∧(0≤i∧i≤n)) (by rintro R_ env R ⟨i,e1,e2,e5,e7,e6,h_,cz,hp⟩;exact⟨_,cz,i,e1,e2,e5,e7,e6,h_,rfl,hp⟩) ⟨0,aq,aq,aq,aq,aq,rfl,trivial,?_⟩ ?_
  rotate_left
  rintro m_ env R ⟨i,e1,e2,e5,e7,e6,rfl,rfl,hp⟩
  rotate_left
  ·exact⟨J,J⟩
  simp+contextual (maxSteps:=1000000) (disch:=first|exact dA|fail) [go_sem,int_lt,-Int.not_le,-Int.not_lt,e1,e2,e5,e6,e7]
  have es:= @C0 b.ah p i hp.1
  have rs:=AR (p:=p) h.1 hq
  refine⟨fun hi=>⟨?_,J,J,J⟩,fun hi=>?_⟩
  ·by_cases c1:iQ b.ah p i<;>by_cases c2:at_ b.ah (p+i)=0<;>simp[es,c1,c2]
  ·have ein:i=n:=J
   subst ein
   refine⟨fun he=>?_,fun he=>⟨J,J,J,?_⟩⟩
   ·rw[Mb.2.2,rs,if_pos he]
   ·rw[Mb.2.2,rs,if_neg he]
 ·rw[EJ J hq]at hp
  exact hp.2.2.symm
@[go_sem] def adU:=fun(I:af) b pv h0 h1 h2 h3 ov iv ev n hb hs h (aA:U→af→Prop)=>ar (k:=aA) (Fh I b pv h0 h1 h2 h3 ov iv ev n hb hs h)
@[go_sem] def adT:=fun(I:af) (b_:Bool) (b:Bk) (pv h0 h1 h2 h3 ov iv ev:U) (n:Int) (hb:b_=true→ fb I b pv h0 h1 h2 h3 ov iv ev) (hs:b_=true→ dW b) (h:b_=true→ 0≤n∧n≤1000000) (aA:U→af→Prop)=>aJ (k:=aA) b_ fun aY=>Fh I b pv h0 h1 h2 h3 ov iv ev n (hb aY) (hs aY) (h aY)
theorem wX(I:af)(b:Bk)(pv h0 h1 h2 h3 ov iv ev:U)(slot a:Int)(hb:fb I b pv h0 h1 h2 h3 ov iv ev)(hs:dW b)(h:b.owner.length=b.ah.length*8)(h': -1000000≤slot∧slot≤1000000):Fn Tryz.prog 190 [bV b pv h0 h1 h2 h3 ov iv ev,.int .i64 slot,.int .i64 a] I fun x R=>x= .int .i64 (fU b slot a)∧R=I:=by
 refine ay aZ mixed Tryz.func190 (by kernel_rfl) rfl (by kernel_rfl) bE ?_
 have eR:=hb
 have BW:=hs
 obtain⟨vp,_,_,_,_,vo,_,_⟩:=hb
 have hr:¬e_ b a=0→0≤a∧a<b.owner.length:=fun hh=>by
  unfold e_ at hh
  split at hh
  ·exact absurd rfl hh
  ·omega
 by_cases hz:e_ b a=0
 ·simp+contextual (maxSteps:=1000000) (disch:=first|exact dA|fail) [go_sem,int_lt,-Int.not_le,-Int.not_lt,fU,hz]
 ·have yG:=hr hz
  simp+contextual (maxSteps:=1000000) (disch:=first|exact dA|fail) [go_sem,int_lt,-Int.not_le,-Int.not_lt,fU,hz]
@[go_sem] def Xd:=fun(I:af) b pv h0 h1 h2 h3 ov iv ev slot a hb hs h h' (aA:U→af→Prop)=>ar (k:=aA) (wX I b pv h0 h1 h2 h3 ov iv ev slot a hb hs h h')
@[go_sem] def Xc:=fun(I:af) (b_:Bool) (b:Bk) (pv h0 h1 h2 h3 ov iv ev:U) (slot a:Int) (hb:b_=true→ fb I b pv h0 h1 h2 h3 ov iv ev) (hs:b_=true→ dW b) (h:b_=true→ b.owner.length=b.ah.length*8) (h':b_=true→ -1000000≤slot∧slot≤1000000) (aA:U→af→Prop)=>aJ (k:=aA) b_ fun aY=>wX I b pv h0 h1 h2 h3 ov iv ev slot a (hb aY) (hs aY) (h aY) (h' aY)
end AH
namespace AH
open Ho
set_option maxHeartbeats 1000000
theorem ik(xs:List Int)(a x j:Int):at_ (put xs a x) j=if j.toNat=a.toNat∧a.toNat<xs.length then x else at_ xs j:=by
 unfold at_ put
 rw[List.getD_eq_getElem?_getD,List.getD_eq_getElem?_getD,List.getElem?_set]
 by_cases h:a.toNat=j.toNat
 ·by_cases h2:a.toNat<xs.length
  ·rw[if_pos h,if_pos h2,if_pos ⟨h.symm,h2⟩];rfl
  ·rw[if_pos h,if_neg h2,if_neg (fun hh=>h2 hh.2),List.getElem?_eq_none J]
 ·rw[if_neg h,if_neg (fun hh=>h hh.1.symm)]
theorem aF(xs:List Int)(a x:Int):(put xs a x).length=xs.length:=by simp[put]
theorem eL(xs:List Int)(a x:Int)(n:Nat):(gD xs a x n).length=xs.length:=by
 induction n with
 |zero=>rfl
 |succ n ih=>simp only[gD,aF,ih]
theorem Sm.of{xs:List Int}(h:(xs.length:Int)≤1000000)(hx:∀x∈xs,-1000000000000≤x∧x≤1000000000000):Sm xs:=by
 refine⟨h,fun j=>?_⟩
 unfold at_
 rw[List.getD_eq_getElem?_getD]
 cases hj:xs[j.toNat]? with
 |none=>simp
 |some w=>exact hx w (List.mem_of_getElem? hj)
theorem Sm.mem{xs:List Int}(h:Sm xs):∀x∈xs,-1000000000000≤x∧x≤1000000000000:=by
 intro x hx
 obtain⟨i,hi,rfl⟩:=List.mem_iff_getElem.1 hx
 have:=h.2 i
 simpa[at_,hi]using this
theorem Sm.put{xs:List Int}(h:Sm xs)(a:Int){x:Int}(hx: -1000000000000≤x∧x≤1000000000000):Sm (put xs a x):=by
 refine⟨by rw[aF];exact h.1,fun j=>?_⟩
 rw[ik]
 split
 ·exact hx
 ·exact h.2 j
theorem Sm.fill{xs:List Int}(h:Sm xs)(a:Int){x:Int}(hx: -1000000000000≤x∧x≤1000000000000)(n:Nat):Sm (gD xs a x n):=by
 induction n with
 |zero=>exact h
 |succ n ih=>exact Sm.put ih _ hx
theorem Sm.tail{xs:List Int}(h:Sm xs):Sm xs.tail:=
 .of (by have:=h.1;simp;omega) fun x hx=>h.mem x (List.mem_of_mem_tail hx)
theorem Sm.nil:Sm []:= .of aV aV
theorem AQ(ah:List Int)(n:Int):∀(f:Nat) (p:Int),fv ah n f p= -1∨(p≤fv ah n f p∧fv ah n f p+n≤ah.length):=by
 intro f
 induction f with
 |zero=>intro p;exact .inl rfl
 |succ f ih=>
  intro p
  unfold fv
  split
  ·exact .inl rfl
  ·split
   ·right;omega
   ·rcases ih (p+1)with h|h
    ·exact .inl h
    ·right;omega
theorem ie(ah:List Int)(n:Int):cf ah n= -1∨(0≤cf ah n∧cf ah n+n≤ah.length):=AQ ah n _ 0
theorem kz(l:List Int)(v:Int):∀i:Int,dk l v i= -1∨(i≤dk l v i∧dk l v i<i+l.length):=by
 induction l with
 |nil=>intro i;exact .inl rfl
 |cons x l ih=>
  intro i
  unfold dk
  split
  ·right;simp;omega
  ·rcases ih (i+1)with h|h
   ·exact .inl h
   ·right;simp;omega
theorem ki{b:Bk}{a:Int}(h:¬e_ b a=0):0≤a∧a<b.owner.length:=by
 unfold e_ at h
 split at h
 ·exact absurd rfl h
 ·omega
structure OC(b b':Bk):Prop where
 s:b'.am=b.am
 p:b'.ah.length=b.ah.length
 o:b'.owner.length=b.owner.length
 i:b'.cy.length=b.cy.length
 e:b'.ao.length=b.ao.length
 S:dW b'
theorem OC.refl{b:Bk}(h:dW b):OC b b:=⟨rfl,rfl,rfl,rfl,rfl,h⟩
theorem jJ{h:Nat→List Int}(hh:∀k,Sm (h k)){k:Nat}{l:List Int}(hl:Sm l):∀j,Sm (cE h k l j):=by
 intro j;unfold cE;split
 ·exact hl
 ·exact hh j
theorem f_{b:Bk}(hb:cm b)(hs:dW b)(k:Nat)(hk:k<4):((b.aj k).length:Int)≤48:=by
 have h1:=(hb.2.1 k hk).1
 have h2:=hb.1.1
 omega
theorem vm{b:Bk}(hb:cm b)(hs:dW b){a:Int}(ha:0≤a∧a<b.owner.length):OC b (ej b a):=by
 have hl:=hb.1.1
 have qf:a≤48:=J
 unfold ej
 dsimp only
 split
 ·exact⟨rfl,by simp[eL],ky,rfl,rfl,⟨hs.s,hs.p.fill _ J _,hs.h,hs.o.put _ J,hs.i,hs.e⟩⟩
 ·rename_i hk
  have xJ:=sm (at_ b.ah (a/8))
  have MU:=f_ hb hs (ch (at_ b.ah (a/8))).toNat J
  have mr:Sm (a::b.aj (ch (at_ b.ah (a/8))).toNat):= .of bX (by
   intro x hx
   rcases List.mem_cons.1 hx with rfl|hx
   ·omega
   ·exact(hs.h _).mem x hx)
  split
  ·exact⟨rfl,ky,ky,rfl,rfl,⟨hs.s,hs.p.put _ J,jJ hs.h (.of (by
    have:=List.length_filter_le (fun x=>decide (x/8≠a/8)) (a::b.aj (ch (at_ b.ah (a/8))).toNat)
    have h1:=mr.1
    omega) fun x hx=>mr.mem x (List.mem_filter.1 hx).1),hs.o.put _ J,hs.i,hs.e⟩⟩
  ·exact⟨rfl,rfl,ky,rfl,rfl,⟨hs.s,hs.p,jJ hs.h mr,hs.o.put _ J,hs.i,hs.e⟩⟩
theorem Rs(k:Int)(h:0≤k∧k<4):1≤sz k∧sz k≤8:=by
 have:k=0∨k=1∨k=2∨k=3:=J
 rcases this with rfl|rfl|rfl|rfl<;>exact⟨fX,fX⟩
theorem mT(u:Int):bB u≤4∧ -1≤bB u∧(bB u=4→u≤32∧9≤u):=by
 unfold bB
 repeat' split
 all_goals omega
theorem FO{b:Bk}(hb:cm b)(hs:dW b){p k:Int}(hp:0≤p∧p≤6)(hk:0≤k∧k<4):OC b (bC b p k):=by
 have MU:=f_ hb hs k.toNat J
 have hz:=Rs k hk
 unfold bC
 refine⟨rfl,ky,rfl,rfl,rfl,⟨hs.s,hs.p.put _ J,jJ hs.h (.of ?_ ?_),hs.o,hs.i,hs.e⟩⟩
 ·unfold dj
  have h8:8/(sz k).toNat≤8:=Nat.div_le_self _ _
  simp only[List.length_append,List.length_map,List.length_range]
  generalize 8/(sz k).toNat=q at h8
  omega
 ·intro x hx
  rcases List.mem_append.1 hx with hx|hx
  ·exact(hs.h _).mem x hx
  ·unfold dj at hx
   obtain⟨j,hj,rfl⟩:=List.mem_map.1 hx
   have hj8:j<8:=by
    have:=List.mem_range.1 hj
    have h8:8/(sz k).toNat≤8:=Nat.div_le_self _ _
    omega
   have e:(j:Int)*sz k≤8*8:=Int.mul_le_mul J J J J
   have e0:0≤(j:Int)*sz k:=Int.mul_nonneg J J
   omega
theorem sd{b:Bk}(hb:cm b)(hs:dW b)(op:Op):OC b (kV b op).1:=by
 have hl:=hb.1.1
 have hS:=OC.refl hs
 unfold kV
 split
 ·exact hS
 ·split
  ·split
   ·exact hS
   ·split
    ·exact hS
    ·have he:=hs.e.2 op.slot
     have kX:=(hb.1.2.1 op.slot J J)
     exact⟨rfl,rfl,rfl,ky,ky,⟨hs.s,hs.p,hs.h,hs.o,hs.i.put _ J,hs.e.put _ J⟩⟩
  ·split
   ·exact hS
   ·unfold eH
    split
    ·unfold cI
     have hk:=mT op.a
     dsimp only
     split
     ·exact hS
     ·split
      ·split
       ·exact hS
       ·exact⟨rfl,by simp[aF,eL],ky,rfl,rfl,⟨hs.s,(hs.p.put _ J).fill _ J _,hs.h,hs.o.put _ J,hs.i,hs.e⟩⟩
      ·have go:∀b',OC b b'→OC b {b' with aj:=cE b'.aj (bB op.a).toNat (b'.aj (bB op.a).toNat).tail,owner:=put b'.owner (at_ (b'.aj (bB op.a).toNat) 0) (op.slot+1)}:=by
        rintro b' ⟨c1,c2,c3,c4,c5,c6⟩
        exact⟨c1,c2,by simp[aF,c3],c4,c5,⟨c6.s,c6.p,jJ c6.h (c6.h _).tail,c6.o.put _ J,c6.i,c6.e⟩⟩
       split
       ·split
        ·exact hS
        ·rename_i hp
         have hr:=ie b.ah 1
         exact go _ (FO hb hs J J)
       ·exact go _ hS
    ·split
     ·split
      ·exact hS
      ·rename_i hw
       refine vm hb hs (ki (b:=b) fun hr=>?_)
       unfold fU at hw
       rw[if_pos hr]at hw
       omega
     ·split
      ·split
       ·exact hS
       ·split
        ·exact hS
        ·split
         ·exact hS
         ·exact⟨rfl,rfl,ky,rfl,rfl,⟨hs.s,hs.p,hs.h,hs.o.put _ J,hs.i,hs.e⟩⟩
      ·split
       ·split
        ·exact hS
        ·exact⟨rfl,rfl,rfl,ky,rfl,⟨hs.s,hs.p,hs.h,hs.o,hs.i.put _ J,hs.e⟩⟩
       ·split
        ·unfold dX
         split
         ·exact hS
         ·split
          ·exact hS
          ·split
           ·exact hS
           ·split
            ·exact⟨rfl,rfl,rfl,ky,rfl,⟨hs.s,hs.p,hs.h,hs.o,hs.i.put _ J,hs.e⟩⟩
            ·refine vm hb hs ?_
             have hf:=kz b.owner (op.a+1) 0
             unfold gO at*
             omega
        ·exact hS
end AH
namespace AH
open Go Go.RowKit
structure B0(w:World)(u:Value)(i:Nat)(av:U)(l:List Int)(m:Option Loc):Prop where
 vr:∀ajR:Mu,ajR i=m→VR ajR av u
 lO:∀(ajR:Mu) (loc:Loc),m=some loc→mB ajR w ⟨l.map (.int .u8),false⟩ loc
 av:(av= .al∧l=[])∨av= .sl i 0 l.length 1
 rng:∀x∈l,0≤x∧x≤255
theorem Em{P:Program}{w:World}{base:Nat}{t e:TypeId}{a:Option Addr}{len cap:Nat}{zs:List Int}(i:Nat)(ht:P.underlying t=some (.slice e))(h:Value.okWide P w .any base t (.slice a len cap))
 (hr:(a=none∧len=0∧cap=0∧zs=[])∨∃x,a=some x∧len≤cap∧cap≤maxLen∧zs.length=cap∧(∀i,i<zs.length→w.cell? (x.add i)=some (.int .u8 (zs.getD i 0)))∧∀n∈zs,(Lit.int .u8 n).wf=true):
 ∃(av:U) (l:List Int) (m:Option Loc),B0 w (.slice a len cap) i av l m∧l.length=len:=by
 rcases hr with⟨rfl,rfl,rfl,rfl⟩|⟨x,rfl,hl,hm,hz,hc,hw⟩
 ·exact⟨.al,[],none,⟨fun ajR _=> .al,fun ajR loc h=>(by cases h),.inl ⟨rfl,rfl⟩,fun x hx=>(by cases hx)⟩,rfl⟩
 ·have hs:x.spot=none∧∃row cells,w.shape? x.block=some (row,cells):=by
   simp only[Value.okWide,ht,Cell.okWide,Cell.ok]at h
   obtain⟨_,_,_,h1,row,cells,h2,_⟩:=h
   exact⟨h1,row,cells,h2⟩
  obtain⟨b,o,s⟩:=x
  obtain⟨hs,row,cells,sk⟩:=hs
  simp only at hs sk
  subst hs
  have hx:∃arr el fr,w.heap[b]? =some (.cells arr el fr):=by
   unfold World.shape? at sk
   split at sk
   ·rename_i arr el fr hh
    exact⟨arr,el,fr,hh⟩
   ·cases sk
  obtain⟨arr,el,fr,hh⟩:=hx
  have fy:∀j,j<cap→arr[o+j]? =some (.int .u8 (zs.getD j 0)):=by
   intro j hj
   have:=hc j J
   have ea:(Addr.add ⟨b,o,none⟩ j)=⟨b,o+j,none⟩:=by
    unfold Addr.add
    split
    ·rename_i h0;subst h0;rfl
    ·rfl
   rw[ea]at this
   simp only[World.cell?,hh]at this
   simpa using this
  have hwf:∀n∈zs,0≤n∧n≤255:=by
   intro n hn
   have:=hw n hn
   simp[Lit.wf]at this
   have h1:(IntKind.u8).min=0:=by decide
   have h2:(IntKind.u8).max=255:=by decide
   omega
  have hlen:(zs.take len).length=len:=by simp;omega
  refine⟨.sl i 0 len 1,zs.take len,some ⟨b,if cap=0 then 0 else o,cap⟩,⟨?_,?_,.inr (by rw[hlen]),fun x hx=>hwf x (List.mem_of_mem_take hx)⟩,hlen⟩
  ·intro ajR hμ
   refine .sl i 0 len 1 cap ⟨b,if cap=0 then 0 else o,cap⟩ o hμ ⟨hl,hm⟩ ?_
   by_cases h0:cap=0
   ·exact .inr h0
   ·left
    simp only[if_neg h0]
    omega
  ·intro ajR loc yD
   cases yD
   refine⟨arr,el,fr,hh,?_,?_,fun h=>(by cases h),?_⟩
   ·dsimp only
    by_cases h0:cap=0
    ·rw[if_pos h0];omega
    ·rw[if_neg h0]
     have:=fy (cap-1) J
     have:=(Array.getElem?_eq_some_iff.1 this).1
     omega
   ·simp;omega
   ·intro j v hv
    simp only[List.getElem?_map,Option.map_eq_some_iff]at hv
    obtain⟨n,hn,rfl⟩:=hv
    have hj:j<len:=by
     have:=(List.getElem?_eq_some_iff.1 hn).1
     omega
    have h0:¬cap=0:=J
    dsimp only
    rw[if_neg h0]
    refine⟨_,fy j J,?_⟩
    rw[List.getElem?_take,if_pos hj]at hn
    rw[List.getD_eq_getElem?_getD,hn]
    exact .int _ _
theorem B0.ls{w:World}{u:Value}{i:Nat}{av:U}{l:List Int}{m:Option Loc}(h:B0 w u i av l m){I:af}(hi:i<I.n)(hg:I.get i=some ⟨l.map (.int .u8),false⟩):bu .u8 I av l:=by
 rcases h.av with⟨rfl,rfl⟩|rfl
 ·exact .nil
 ·exact bu.own hi hg
theorem uR{ajR μ':Mu}{I σ':af}{w w':World}(h:Step ajR I w μ' σ' w')(hro:∀i B,I.get i=some B→B.rw=false):Below w.heap.size w w':=by
 refine⟨h.os,h.tape,h.output,h.size,fun k hk=>?_⟩
 have hT:∀b o,¬H4 ajR I b o:=by
  rintro b o ⟨i,B,l,h1,h2,_⟩
  rw[hro i B h1]at h2
  cases h2
 cases hb:w.heap[k]? with
 |none=>rw[Array.getElem?_eq_none_iff]at hb;omega
 |some ob=>
  by_cases hc:∃arr el fr,ob= .cells arr el fr
  ·obtain⟨arr,el,fr,rfl⟩:=hc
   obtain⟨jb,h1,h2,h3⟩:=h.cells k arr el fr hb
   rw[h1]
   congr 2
   exact Array.ext_getElem? fun i=>h3 i (hT k i)
  ·exact h.other k ob hb fun arr el fr he=>hc ⟨arr,el,fr,he⟩
def σ2(l0 l1:List Int):af:=⟨2,fun y=>if y=0 then some ⟨l0.map (.int .u8),false⟩else if y=1 then some ⟨l1.map (.int .u8),false⟩else none⟩
theorem LW(l0 l1:List Int):∀i B,(σ2 l0 l1).get i=some B→B.rw=false:=by
 intro i B h
 unfold σ2 at h
 simp only at h
 split at h
 ·cases h;rfl
 ·split at h
  ·cases h;rfl
  ·cases h
theorem adf{w:World}{u0 u1:Value}{a0 a1:U}{l0 l1:List Int}{m0 m1:Option Loc}(h0:B0 w u0 0 a0 l0 m0)(h1:B0 w u1 1 a1 l1 m1):Rel (fun y=>if y=0 then m0 else if y=1 then m1 else none) (σ2 l0 l1) w:=by
 refine⟨?_,?_,?_⟩
 ·intro i l h
  show i<2
  rcases Nat.lt_or_ge i 2 with h'|h'
  ·exact h'
  ·simp only[show ¬i=0 by omega,show ¬i=1 by omega,if_false]at h
   cases h
 ·intro i B l hB hm
  unfold σ2 at hB
  simp only at hB hm
  by_cases e0:i=0
  ·rw[if_pos e0]at hB hm;cases hB;exact h0.lO _ l hm
  ·rw[if_neg e0]at hB hm
   by_cases e1:i=1
   ·rw[if_pos e1]at hB hm;cases hB;exact h1.lO _ l hm
   ·rw[if_neg e1]at hB;cases hB
 ·intro i j B C l m _ hB _ hr _ _
  rw[LW _ _ _ _ hB]at hr
  cases hr
theorem Iy{P:Program}{f:FuncId}{w:World}{us:Array Value}{avs:List U}{I:af}{ajR:Mu}(hR:Rel ajR I w)(hv:fW ajR avs us.toList)(hro:∀i B,I.get i=some B→B.rw=false)
 (h:Fn P f avs I fun x _=>x= .bool true):Calls P f us w fun e w'=>e= .returned (.bool true)∧Below w.heap.size w w':=by
 obtain⟨v,σ',hc,rfl⟩:=h
 refine(hc.2.2 ajR w us hR hv).mono ?_
 rintro e w' ⟨u,μ',rfl,hu,_,hs⟩
 cases hu
 exact⟨rfl,uR hs hro⟩
theorem Vi{P:Program}{f:FuncId}{w:World}{u0:Value}{a0:U}{l0:List Int}{m0:Option Loc}(h0:B0 w u0 0 a0 l0 m0)
 (h:∀(I:af),bu .u8 I a0 l0→Fn P f [a0] I fun x _=>x= .bool true):Calls P f #[u0] w fun e w'=>e= .returned (.bool true)∧Below w.heap.size w w':=by
 have h1:B0 w (.slice none 0 0) 1 .al [] none:=⟨fun ajR _=> .al,fun ajR loc h=>(by cases h),.inl ⟨rfl,rfl⟩,fun x hx=>(by cases hx)⟩
 exact Iy (adf h0 h1) (fW.cons (h0.vr _ rfl) (fW.nil _)) (LW l0 []) (h _ (h0.ls (by show 0<2;omega) rfl))
end AH
