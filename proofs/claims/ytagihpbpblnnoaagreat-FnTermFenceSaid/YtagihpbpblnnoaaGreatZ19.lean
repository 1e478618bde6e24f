import Derived.Test.YtagihpbpblnnoaaGreatZ13
import Derived.Test.YtagihpbpblnnoaaGreatZ00
set_option linter.all false
namespace AH
open Go Go.Proofs Ho
theorem dw(I:af)(c:Nat):(I.iy c).n=I.n+c:=_root_.id rfl
theorem kC(I:af)(c j:Nat):(I.iy c).get j=if I.n≤j∧j<I.n+c then none else I.get j:=_root_.id rfl
theorem ef{I:af}{c j:Nat}(h:j<I.n):(I.iy c).get j=I.get j:=by rw[kC,if_neg J]
section
variable {P:Program} {env:Env} {I:af}
theorem Fr(ops:Array Oper)(B:List Nat)(HO:List (Nat×Nat))(r:Nat)(rs:List Nat)(k:Env→af→Prop):
 @k_ P ops ⟨B,HO,r::rs⟩ env I ⟨k⟩=cj P ops I.n (r::rs) 0 ops.toList env (I.iy (rs.length+1)) [] fun ce σ' tr=>lS ops.size tr HO∧k ce σ':=_root_.id rfl
theorem Cp(ops:Array Oper)(base r:Nat)(rs:List Nat)(j:Nat)(tr:List dx)(K:Env→af→List dx→Prop):cj P ops base (r::rs) j [] env I tr K=K env I tr:=_root_.id rfl
theorem xg(ops:Array Oper)(base r:Nat)(rs:List Nat)(j:Nat)(dst:Option Tmp)(op:Go.Op)(ty:TypeId)(pos:String)(after:Array Edge)(os:List Oper)(tr:List dx)(K:Env→af→List dx→Prop):
 cj P ops base (r::rs) j (⟨dst,op,ty,pos,after,none⟩::os) env I tr K↔
  jo P ⟨dst,op,ty,pos,after,none⟩ (cg base (r::rs) j) env I fun ce σ'=>cj P ops base (r::rs) (j+1) os ce σ' (⟨xm (cg base (r::rs) j) (de env ⟨dst,op,ty,pos,after,none⟩),I,σ'⟩::tr) K:=by
 simp[cj,c_,cN]
def Vg(base k:Nat):List Nat→Nat→Option Nat
 |[],_=>none
 |r::rs,t=>if r=k then some (base+t)else Vg base k rs (t+1)
theorem J8(base:Nat)(res:List Nat)(k:Nat):cg base res k=Vg base k res 0:=by
 have key:∀(l:List Nat) (t:Nat),(l.findIdx? (·==k)).map (base+t+ ·)=Vg base k l t:=by
  intro l
  induction l with
  |nil=>intro t;rfl
  |cons r rs ih=>
   intro t
   rw[List.findIdx?_cons]
   unfold Vg
   by_cases e:r=k
   ·simp[e]
   ·rw[if_neg (by simpa using e),if_neg e,←ih (t+1),Option.map_map]
    congr 1
    funext x
    simp only[Function.comp]
    omega
 have:=key res 0
 simpa[cg]using this
theorem ze(o:Oper)(K:Env→af→Prop):jo P o none env I K=dM P o env I K:=_root_.id rfl
theorem zf(o:Oper)(i:Nat)(K:Env→af→Prop):jo P o (some i) env I K= @dt (mO P (bq env) o.op i I) ⟨fun v σ'=>K (env.put o.dst v) σ'⟩:=_root_.id rfl
theorem yQ{ajS:Operand→U}(e:TypeId)(i:Nat):mO P ajS (.alloc e) i I=(eJ P e).map fun z=>(.ptr i 0,I.set i ⟨z,true⟩):=by
 have h:db P ajS (.alloc e) ⟨i,fun _=>none⟩=(eJ P e).map fun z=>(.ptr i 0,af.push ⟨i,fun _=>none⟩ ⟨z,true⟩):=rfl
 unfold mO
 rw[h]
 generalize eJ P e=s
 cases s<;>simp[af.cu]
def Pz(s:Option (Nat×Nat×List U))(len:Nat)(parts:List (Nat×U))(i:Nat)(I:af):Option (U×af):=
 match s with
 |some (e,_,z)=>if len*e≤16777216 then(iE (fun i=>some (i*e,e)) (List.replicate len z).flatten parts).map fun cs=>(.sl i 0 len e,I.set i ⟨cs,true⟩)else none
 |none=>none
theorem Il{ajS:Operand→U}(t:TypeId)(len:Nat)(parts:Array (Nat×Operand))(i:Nat):mO P ajS (.buildSlice t len parts) i I=Pz (bR P t) len (parts.toList.map fun(i,x)=>(i,ajS x)) i I:=by
 have h:db P ajS (.buildSlice t len parts) ⟨i,fun _=>none⟩=match bR P t with
  |some (e,_,z)=>if len*e≤16777216 then
    (iE (fun i=>some (i*e,e)) (List.replicate len z).flatten (parts.toList.map fun(i,x)=>(i,ajS x))).map fun cs=>(.sl i 0 len e,af.push ⟨i,fun _=>none⟩ ⟨cs,true⟩)
   else none
  |none=>none:=rfl
 unfold mO Pz
 rw[h]
 generalize bR P t=s
 rcases s with _|⟨e,b,z⟩
 ·rfl
 ·dsimp only
  by_cases hc:len*e≤16777216
  ·rw[if_pos hc,if_pos hc]
   generalize iE _ _ _=f
   cases f<;>simp[af.cu]
  ·rw[if_neg hc,if_neg hc]
def Q8(s:Option (Nat×Nat×List U))(l c:U)(i:Nat)(I:af):Option (U×af):=
 match s,l,c with
 |some (e,vt,z),.int .i64 l,.int .i64 c=>
  if 0≤l∧l≤c∧c<9223372036854775807∧vt*c≤140737488355328 then some (.sl i 0 l.toNat e,I.set i ⟨(List.replicate l.toNat z).flatten,true⟩)else none
 |_,_,_=>none
theorem Im{ajS:Operand→U}(t:TypeId)(l c:Operand)(i:Nat):mO P ajS (.makeSlice t l c) i I=Q8 (bR P t) (ajS l) (ajS c) i I:=by
 have h:db P ajS (.makeSlice t l c) ⟨i,fun _=>none⟩=kw P t (ajS l) (ajS c) ⟨i,fun _=>none⟩:=rfl
 unfold mO Q8
 rw[h]
 unfold kw
 generalize bR P t=s
 generalize ajS l=x
 generalize ajS c=y
 rcases s with _|⟨e,b,z⟩
 ·rfl
 ·cases x<;>(try rfl)
  rename_i k n
  cases k<;>(try rfl)
  cases y<;>(try rfl)
  rename_i k m
  cases k<;>(try rfl)
  dsimp only
  by_cases hc:0≤n∧n≤m∧m<9223372036854775807∧b*m≤140737488355328
  ·rw[if_pos hc,if_pos hc]
   simp[af.cu]
  ·rw[if_neg hc,if_neg hc]
end
theorem FI(t:Option Nat):xm none t=t:=_root_.id rfl
theorem FJ(i:Nat)(t:Option Nat):xm (some i) t=some i:=_root_.id rfl
attribute [go_sem ↓ high] Fr Cp xg
attribute [go_sem] dw ef J8 Vg ze zf yQ Il Im Pz Q8 FI FJ
theorem bu.res{kk:IntKind}{I:af}{v:U}{xs:List Int}{c:Nat}(h:bu kk I v xs):bu kk (I.iy c) v xs:=by
 rcases h.ex with⟨rfl,rfl⟩|⟨i,k,rfl,hl⟩
 ·exact .nil
 ·obtain⟨h1,B,h2,h3⟩:=hl
  exact .mk' ⟨by rw[dw];omega,B,by rw[ef h1];exact h2,h3⟩
theorem bu.ne{kk:IntKind}{I:af}{v:U}{xs:List Int}(h:bu kk I v xs){j:Nat}(hj:I.n≤j):cn v≠j∨v= .al:=by
 rcases h.Mt h.lt with hb|hb
 ·exact .inl J
 ·exact .inr hb
theorem bu.elems{kk:IntKind}{I:af}{v:U}{xs:List Int}(h:bu kk I v xs):fZ 1 v I=some (xs.map (.int kk))∧eC v=some xs.length:=by
 rcases h.ex with⟨rfl,rfl⟩|⟨i,k,rfl,df⟩
 ·exact⟨rfl,rfl⟩
 ·refine⟨?_,rfl⟩
  by_cases h0:xs.length=0
  ·have:xs=[]:=List.eq_nil_of_length_eq_zero h0
   subst this;rfl
  ·obtain⟨B,h1,h2,h3,_⟩:=df.cell
   show(if xs.length=0 then some []else _)=_
   rw[if_neg h0]
   simp only[h1]
   have jT:(xs.map (U.int kk)).all U.one=true:=by
    rw[List.all_eq_true];intro a ha;obtain⟨x,_,rfl⟩:=List.mem_map.1 ha;rfl
   rw[if_pos ⟨by trivial,J,by rw[Nat.mul_one,h3];exact jT⟩,Nat.mul_one,h3]
theorem Cx{P:Program}{t:TypeId}{R:af}{q n:Nat}{kk:IntKind}{v:U}{xs ys:List Int}(hv:bu kk R v ys)(hq:R.get q=some ⟨xs.map (.int kk),true⟩)(hn:xs.length=n)(hl:(ys.length:Int)≤1000000)(df:n≤1000000):
 cJ P t (.sl q 0 n 1) v R= @uL (bR P t) (.sl R.n 0 (n+ys.length) 1,(R.kill q).push ⟨(xs++ys).map (.int kk),true⟩) ⟨cJ P t (.sl q 0 n 1) v R⟩:=by
 unfold uL
 obtain⟨he,hln⟩:=hv.elems
 have key:∀(b:Nat) (z:List U),b≤8→bR P t=some (1,b,z)→cJ P t (.sl q 0 n 1) v R=some (.sl R.n 0 (n+ys.length) 1,(R.kill q).push ⟨(xs++ys).map (.int kk),true⟩):=by
  intro b z hb8 h
  have hm:(n+ys.length)*b≤2000000*8:=Nat.mul_le_mul J hb8
  simp only[cJ,h,he,hln,hq]
  rw[if_pos ⟨trivial,trivial,by simp[hn],J,J⟩]
  simp
 split
 ·rename_i h;exact key 8 _ J h
 ·rename_i h;exact key 1 _ J h
 ·rfl
theorem Mj{P:Program}{t:TypeId}{R:af}{q:Nat}{kk:IntKind}{v:U}{ys:List Int}(hv:bu kk R v ys)(hq:R.get q=some ⟨[],true⟩)(hl:(ys.length:Int)≤1000000):
 cJ P t (.sl q 0 0 1) v R= @uL (bR P t) (.sl R.n 0 ys.length 1,(R.kill q).push ⟨ys.map (.int kk),true⟩) ⟨cJ P t (.sl q 0 0 1) v R⟩:=by
 have:=Cx (P:=P) (t:=t) (xs:=[]) (n:=0) hv hq rfl hl J
 simpa using this
attribute [go_sem] Cx Mj
end AH
