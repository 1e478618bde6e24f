import Derived.Test.YtagihpbpblnnoaaGreatZ03
import Derived.Test.YtagihpbpblnnoaaGreatZ00
set_option linter.all false
namespace AH
open Go
def gv(b:Bool)(v:U):U:=if b=true then v else .cw []
def nt(b:Bool):Bool:= !b
def pk(t:Bool)(a b:U):U:=if t=true then a else b
theorem MI(v:U):gv true v=v:=_root_.id rfl
theorem Ja(v:U):gv false v= .cw []:=_root_.id rfl
theorem Nx:nt true=false:=_root_.id rfl
theorem Kg:nt false=true:=_root_.id rfl
theorem Vo(b:Bool):nt (nt b)=b:=by cases b<;>rfl
theorem mc(b:Bool):(nt b=true)↔b=false:=by cases b<;>simp[nt]
theorem At(b:Bool):(nt b=false)↔b=true:=by cases b<;>simp[nt]
theorem TY(a b:Bool)(v:U):gv a (gv b v)=gv (a&&b) v:=by cases a<;>cases b<;>rfl
theorem NB(a b:U):pk true a b=a:=_root_.id rfl
theorem KC(a b:U):pk false a b=b:=_root_.id rfl
theorem Vs(t q:Bool):pk t (.bool true) (gv (nt t) (.bool q))= .bool (t||q):=by cases t<;>rfl
theorem Rc(t q:Bool):pk t (gv t (.bool q)) (.bool false)= .bool (t&&q):=by cases t<;>rfl
theorem Rf(t q:Bool):pk (nt t) (.bool true) (gv t (.bool q))= .bool (nt t||q):=by cases t<;>rfl
theorem Re(t q:Bool):pk t (.bool true) (.bool q)= .bool (t||q):=by cases t<;>rfl
theorem NA(t q:Bool):pk t (.bool q) (.bool false)= .bool (t&&q):=by cases t<;>rfl
def Pk(c a b:U)(I:af):Option (U×af):=
 match c with
 | .bool t=>some (if t then a else b,I)
 |_=>none
section
variable {P:Program} {ord:Nat→bD} {env:Env} {I:af}
theorem In{ajS:Operand→U}(c a b:Operand):db P ajS (.pick c a b) I=Pk (ajS c) (ajS a) (ajS b) I:=_root_.id rfl
theorem DJ(t:Bool)(a b:U):Pk (.bool t) a b I=some (pk t a b,I):=_root_.id rfl
def vJ(v:U)(want:Bool):Option Bool:=Ey v want
theorem xz(b:Bool):vJ (.bool b) true=some b:=by cases b<;>rfl
theorem xy(b:Bool):vJ (.bool b) false=some (nt b):=by cases b<;>rfl
theorem C6(want:Bool):vJ (.cw []) want=some false:=_root_.id rfl
theorem C5(b q:Bool):vJ (gv b (.bool q)) true=some (b&&q):=by cases b<;>cases q<;>rfl
theorem C4(b q:Bool):vJ (gv b (.bool q)) false=some (b&&nt q):=by cases b<;>cases q<;>rfl
def cU(d:Option Tmp)(want:Bool)(env:Env):Option Bool:=tc d want env
theorem C7(d:Tmp)(want:Bool):cU (some d) want env=vJ (env d) want:=_root_.id rfl
def pS(g:Option Bool)(x:Option (U×af))(I:af)[k:Kt (U→af→Prop)]:Prop:= @cN g ⟨@dt x ⟨k.val⟩⟩ ⟨k.val (.cw []) I⟩
theorem AD{g g':Option Bool}{x x':Option (U×af)}{I σ':af}{k:Kt (U→af→Prop)}{p:Prop}(hg:g=g')(hs:I=σ')(hp:(g'=some true)=p)(hx:p→x=x'): @pS g x I k= @pS g' x' σ' k:=by
 subst hg hs hp
 unfold pS cN
 split
 next b=>cases b with
  |true=>rw[hx rfl]
  |false=>simp
 next=>rfl
attribute [congr] AD
theorem DO(b:Bool)(v:U)(k:U→af→Prop): @pS (some b) (some (v,I)) I ⟨k⟩=k (gv b v) I:=by
 cases b<;>simp[pS,cN,dt,gv]
theorem DQ(x:Option (U×af))(k:U→af→Prop): @pS (some true) x I ⟨k⟩= @dt x ⟨k⟩:=by simp[pS,cN]
theorem AE(x:Option (U×af))(k:U→af→Prop): @pS (some false) x I ⟨k⟩=k (.cw []) I:=by simp[pS,cN]
theorem GQ(b:Bool):(some b=some true)↔b=true:=by simp
def gp(b:Bool)(t:Option Nat):Option Nat:=if b=true then t else none
def cv(x:Option (U×af)):Option U:=x.map (·.1)
theorem G3(v:U)(R:af):cv (some (v,R))=some v:=_root_.id rfl
theorem Li(x:Option U)(R:af):cv (x.map fun v=>(v,R))=x:=by cases x<;>rfl
def dy(g:Option Bool)(x:Option U)(I:af)[k:Kt (U→af→Prop)]:Prop:= @cN g ⟨@dt (x.map fun v=>(v,I)) ⟨k.val⟩⟩ ⟨k.val (.cw []) I⟩
theorem AI{g g':Option Bool}{x x':Option U}{I σ':af}{k:Kt (U→af→Prop)}{p:Prop}(hg:g=g')(hs:I=σ')(hp:(g'=some true)=p)(hx:p→x=x'): @dy g x I k= @dy g' x' σ' k:=by
 subst hg hs hp
 unfold dy cN
 split
 next b=>cases b with
  |true=>rw[hx rfl]
  |false=>simp
 next=>rfl
attribute [congr] AI
theorem DR(b:Bool)(v:U)(k:U→af→Prop): @dy (some b) (some v) I ⟨k⟩=k (gv b v) I:=by
 cases b<;>simp[dy,cN,dt,gv]
theorem DS(x:Option U)(k:U→af→Prop): @dy (some true) x I ⟨k⟩= @dt (x.map fun v=>(v,I)) ⟨k⟩:=by simp[dy,cN]
theorem AJ(x:Option U)(k:U→af→Prop): @dy (some false) x I ⟨k⟩=k (.cw []) I:=by simp[dy,cN]
def cG(g:Option Bool)(x:Option U)(t:Option Nat)(I:af)[k:Kt (U→af→Option Nat→Prop)]:Prop:= @cN g ⟨@dt (x.map fun v=>(v,I)) ⟨fun v σ'=>k.val v σ' t⟩⟩ ⟨k.val (.cw []) I none⟩
theorem yi{g g':Option Bool}{x x':Option U}{t t':Option Nat}{I σ':af}{k:Kt (U→af→Option Nat→Prop)}{p:Prop}(hg:g=g')(hs:I=σ')(hp:(g'=some true)=p)(hx:p→x=x')(ht:p→t=t'): @cG g x t I k= @cG g' x' t' σ' k:=by
 subst hg hs hp
 unfold cG cN
 split
 next b=>cases b with
  |true=>rw[hx rfl,ht rfl]
  |false=>simp
 next=>rfl
attribute [congr] yi
theorem AF(b:Bool)(v:U)(t:Option Nat)(k:U→af→Option Nat→Prop): @cG (some b) (some v) t I ⟨k⟩=k (gv b v) I (gp b t):=by
 cases b<;>simp[cG,cN,dt,gv,gp]
theorem AG(x:Option U)(t:Option Nat)(k:U→af→Option Nat→Prop): @cG (some true) x t I ⟨k⟩= @dt (x.map fun v=>(v,I)) ⟨fun v σ'=>k v σ' t⟩:=by simp[cG,cN]
theorem yj(x:Option U)(t:Option Nat)(k:U→af→Option Nat→Prop): @cG (some false) x t I ⟨k⟩=k (.cw []) I none:=by simp[cG,cN]
def mj(g:Option Bool)(x:Option (U×af))(t:Option Nat)(I:af)[k:Kt (U→af→Option Nat→Prop)]:Prop:= @cN g ⟨@dt x ⟨fun v σ'=>k.val v σ' t⟩⟩ ⟨k.val (.cw []) I none⟩
theorem yg{g g':Option Bool}{x x':Option (U×af)}{t t':Option Nat}{I σ':af}{k:Kt (U→af→Option Nat→Prop)}{p:Prop}(hg:g=g')(hs:I=σ')(hp:(g'=some true)=p)(hx:p→x=x')(ht:p→t=t'): @mj g x t I k= @mj g' x' t' σ' k:=by
 subst hg hs hp
 unfold mj cN
 split
 next b=>cases b with
  |true=>rw[hx rfl,ht rfl]
  |false=>simp
 next=>rfl
attribute [congr] yg
theorem AA(b:Bool)(v:U)(t:Option Nat)(k:U→af→Option Nat→Prop): @mj (some b) (some (v,I)) t I ⟨k⟩=k (gv b v) I (gp b t):=by
 cases b<;>simp[mj,cN,dt,gv,gp]
theorem AB(x:Option (U×af))(t:Option Nat)(k:U→af→Option Nat→Prop): @mj (some true) x t I ⟨k⟩= @dt x ⟨fun v σ'=>k v σ' t⟩:=by simp[mj,cN]
theorem yh(x:Option (U×af))(t:Option Nat)(k:U→af→Option Nat→Prop): @mj (some false) x t I ⟨k⟩=k (.cw []) I none:=by simp[mj,cN]
theorem IC(b:Bool)(t:Option Nat)(p q:af):qZ (gp b t) p q↔(b=true→qZ t p q):=by cases b<;>simp[gp,qZ]
theorem MH(b:Bool):gp b none=none:=by cases b<;>rfl
def gC(P:Program)(b:Bool)(f:U)(args:List U)(I:af)[k:Kt (U→af→Prop)]:Prop:=(b=true→ @dN P f args I ⟨k.val⟩)∧(b=false→k.val (.cw []) I)
def TS(P:Program)(g:Option Bool)(f:U)(args:List U)(I:af)[k:Kt (U→af→Prop)]:Prop:= @cN g ⟨@dN P f args I ⟨k.val⟩⟩ ⟨k.val (.cw []) I⟩
theorem F7{P:Program}{g g':Option Bool}{f:U}{args:List U}{I:af}{k:Kt (U→af→Prop)}(h:g=g'): @TS P g f args I k= @TS P g' f args I k:=by rw[h]
attribute [congr] F7
theorem I9(b:Bool)(f:U)(args:List U)(k:U→af→Prop): @TS P (some b) f args I ⟨k⟩= @gC P b f args I ⟨k⟩:=_root_.id rfl
theorem I7{P:Program}{b b':Bool}{f f':U}{args OF:List U}{I σ':af}{k:Kt (U→af→Prop)}{p:Prop}(hg:b=b')(hs:I=σ')(hp:(b'=true)=p)(hf:p→f=f')(hx:p→args=OF): @gC P b f args I k= @gC P b' f' OF σ' k:=by
 subst hg hs hp
 unfold gC
 cases b with
 |true=>rw[hf rfl,hx rfl]
 |false=>simp
attribute [congr] I7
theorem MG(f:U)(args:List U)(k:U→af→Prop): @gC P true f args I ⟨k⟩= @dN P f args I ⟨k⟩:=by simp[gC]
theorem I8(f:U)(args:List U)(k:U→af→Prop): @gC P false f args I ⟨k⟩=k (.cw []) I:=by simp[gC]
theorem aJ{g:FuncId}{args:List U}{v:U}{k:U→af→Prop}(b:Bool)(h:b=true→Fn P g args I fun x R=>x=v∧R=I):
 @gC P b (.fn g [] []) args I ⟨k⟩= @Alt (k (gv b v) I) ⟨@gC P b (.fn g [] []) args I ⟨k⟩⟩:=by
 refine propext ⟨fun hh=> .inr hh,fun hh=>?_⟩
 rcases hh with hh|hh
 ·cases b with
  |true=>
   refine⟨fun _=>?_,fun e=>CW⟩
   rw[sP];exact(h rfl).eq hh
  |false=>exact⟨fun e=>CW,fun _=>hh⟩
 ·exact hh
theorem wn{ajS:Operand→U}(x:Operand):db P ajS (.move x) I=(cv (db P ajS (.move x) I)).map fun v=>(v,I):=by
 simp only[db]
 repeat' split
 all_goals first|rfl|(generalize(_:Option U)=z;cases z<;>rfl)|(simp only[cv,Option.map_map];rfl)|(simp[cv])|(rename_i h;simp_all[cv])
theorem rv{ajS:Operand→U}(x:Operand):db P ajS (.assign x) I=(cv (db P ajS (.assign x) I)).map fun v=>(v,I):=by
 simp only[db]
 repeat' split
 all_goals first|rfl|(generalize(_:Option U)=z;cases z<;>rfl)|(simp only[cv,Option.map_map];rfl)|(simp[cv])|(rename_i h;simp_all[cv])
theorem wo{ajS:Operand→U}(a b c:Operand):db P ajS (.pick a b c) I=(cv (db P ajS (.pick a b c) I)).map fun v=>(v,I):=by
 simp only[db]
 repeat' split
 all_goals first|rfl|(generalize(_:Option U)=z;cases z<;>rfl)|(simp only[cv,Option.map_map];rfl)|(simp[cv])|(rename_i h;simp_all[cv])
theorem wm{ajS:Operand→U}(t:TypeId)(x:Operand):db P ajS (.load t x) I=(cv (db P ajS (.load t x) I)).map fun v=>(v,I):=by
 simp only[db]
 repeat' split
 all_goals first|rfl|(generalize(_:Option U)=z;cases z<;>rfl)|(simp only[cv,Option.map_map];rfl)|(simp[cv])|(rename_i h;simp_all[cv])
theorem ou{ajS:Operand→U}(x:Operand):db P ajS (.nilCheck x) I=(cv (db P ajS (.nilCheck x) I)).map fun v=>(v,I):=by
 simp only[db]
 repeat' split
 all_goals first|rfl|(generalize(_:Option U)=z;cases z<;>rfl)|(simp only[cv,Option.map_map];rfl)|(simp[cv])|(rename_i h;simp_all[cv])
theorem tY{ajS:Operand→U}(op:BinOp)(t:TypeId)(x y:Operand)(u:TypeId):db P ajS (.binOp op t x y u) I=(cv (db P ajS (.binOp op t x y u) I)).map fun v=>(v,I):=by
 simp only[db]
 repeat' split
 all_goals first|rfl|(generalize(_:Option U)=z;cases z<;>rfl)|(simp only[cv,Option.map_map];rfl)|(simp[cv])|(rename_i h;simp_all[cv])
theorem wq{ajS:Operand→U}(op:UnOp)(t:TypeId)(x:Operand):db P ajS (.unOp op t x) I=(cv (db P ajS (.unOp op t x) I)).map fun v=>(v,I):=by
 simp only[db]
 repeat' split
 all_goals first|rfl|(generalize(_:Option U)=z;cases z<;>rfl)|(simp only[cv,Option.map_map];rfl)|(simp[cv])|(rename_i h;simp_all[cv])
theorem pV{ajS:Operand→U}(s d:TypeId)(x:Operand):db P ajS (.convert s d x) I=(cv (db P ajS (.convert s d x) I)).map fun v=>(v,I):=by
 simp only[db]
 repeat' split
 all_goals first|rfl|(generalize(_:Option U)=z;cases z<;>rfl)|(simp only[cv,Option.map_map];rfl)|(simp[cv])|(rename_i h;simp_all[cv])
theorem ua{ajS:Operand→U}(t:TypeId)(x:Operand)(a b:Option Operand):db P ajS (.slice t x a b none) I=(cv (db P ajS (.slice t x a b none) I)).map fun v=>(v,I):=by
 simp only[db]
 repeat' split
 all_goals first|rfl|(generalize(_:Option U)=z;cases z<;>rfl)|(simp only[cv,Option.map_map];rfl)|(simp[cv])|(rename_i h;simp_all[cv])
theorem nA{ajS:Operand→U}(t:TypeId)(x:Operand)(f:Nat):db P ajS (.fieldAddr t x f) I=(cv (db P ajS (.fieldAddr t x f) I)).map fun v=>(v,I):=by
 simp only[db]
 repeat' split
 all_goals first|rfl|(generalize(_:Option U)=z;cases z<;>rfl)|(simp only[cv,Option.map_map];rfl)|(simp[cv])|(rename_i h;simp_all[cv])
theorem nB{ajS:Operand→U}(t:TypeId)(x y:Operand):db P ajS (.indexAddr t x y) I=(cv (db P ajS (.indexAddr t x y) I)).map fun v=>(v,I):=by
 simp only[db]
 repeat' split
 all_goals first|rfl|(generalize(_:Option U)=z;cases z<;>rfl)|(simp only[cv,Option.map_map];rfl)|(simp[cv])|(rename_i h;simp_all[cv])
theorem t_{ajS:Operand→U}(t:TypeId)(x y:Operand):db P ajS (.index t x y) I=(cv (db P ajS (.index t x y) I)).map fun v=>(v,I):=by
 simp only[db]
 repeat' split
 all_goals first|rfl|(generalize(_:Option U)=z;cases z<;>rfl)|(simp only[cv,Option.map_map];rfl)|(simp[cv])|(rename_i h;simp_all[cv])
theorem pW{ajS:Operand→U}(x:Operand)(i:Nat):db P ajS (.extract x i) I=(cv (db P ajS (.extract x i) I)).map fun v=>(v,I):=by
 simp only[db]
 repeat' split
 all_goals first|rfl|(generalize(_:Option U)=z;cases z<;>rfl)|(simp only[cv,Option.map_map];rfl)|(simp[cv])|(rename_i h;simp_all[cv])
theorem tZ{ajS:Operand→U}(t:TypeId)(ps:Array (Nat×Operand)):db P ajS (.build t ps) I=(cv (db P ajS (.build t ps) I)).map fun v=>(v,I):=by
 simp only[db]
 repeat' split
 all_goals first|rfl|(generalize(_:Option U)=z;cases z<;>rfl)|(simp only[cv,Option.map_map];rfl)|(simp[cv])|(rename_i h;simp_all[cv])
theorem AX{ajS:Operand→U}(x:Operand)(t:TypeId):db P ajS (.call ⟨.builtin .len,#[x],#[t]⟩) I=(cv (db P ajS (.call ⟨.builtin .len,#[x],#[t]⟩) I)).map fun v=>(v,I):=by
 have h:db P ajS (.call ⟨.builtin .len,#[x],#[t]⟩) I=(match P.underlying t,eC (ajS x),ajS x with
  |some (.slice _),some n,.sl .. =>some (.int .i64 n,I)
  |some (.slice _),some n,.al=>some (.int .i64 n,I)
  |some .string,some n,.str _=>some (.int .i64 n,I)
  |_,_,_=>none):=rfl
 rw[h]
 split<;>rfl
theorem Cl(ops:Array Oper)(dst:Option Tmp)(x:Operand)(ty:TypeId)(pos:String)(after:Array Edge)(i_:Nat)(want:Bool)(os:List Oper)(k:Env→af→Prop):
 dL P ops (⟨dst,(.move x),ty,pos,after,some (i_,want)⟩::os) env I k= @dy (cU ((ops[i_]?).bind (·.dst)) want env) (cv (db P (bq env) (.move x) I)) I ⟨fun v σ'=>dL P ops os (env.put dst v) σ' k⟩:=by
 unfold dy
 rw[←wn]
 rfl
theorem yX(ops:Array Oper)(j:Nat)(dst:Option Tmp)(x:Operand)(ty:TypeId)(pos:String)(after:Array Edge)(i_:Nat)(want:Bool)(os:List Oper)(tr:List dx)(k:Env→af→List dx→Prop):
 cj P ops 0 [] j (⟨dst,(.move x),ty,pos,after,some (i_,want)⟩::os) env I tr k= @cG (cU ((ops[i_]?).bind (·.dst)) want env) (cv (db P (bq env) (.move x) I)) none I ⟨fun v σ' a=>cj P ops 0 [] (j+1) os (env.put dst v) σ' (⟨a,I,σ'⟩::tr) k⟩:=by
 unfold cG
 rw[←wn]
 rw[show cU ((ops[i_]?).bind (·.dst)) want env=c_ ops env ⟨dst,(.move x),ty,pos,after,some (i_,want)⟩from rfl]
 rfl
theorem xb(ops:Array Oper)(dst:Option Tmp)(x:Operand)(ty:TypeId)(pos:String)(after:Array Edge)(i_:Nat)(want:Bool)(os:List Oper)(k:Env→af→Prop):
 dL P ops (⟨dst,(.assign x),ty,pos,after,some (i_,want)⟩::os) env I k= @dy (cU ((ops[i_]?).bind (·.dst)) want env) (cv (db P (bq env) (.assign x) I)) I ⟨fun v σ'=>dL P ops os (env.put dst v) σ' k⟩:=by
 unfold dy
 rw[←rv]
 rfl
theorem uK(ops:Array Oper)(j:Nat)(dst:Option Tmp)(x:Operand)(ty:TypeId)(pos:String)(after:Array Edge)(i_:Nat)(want:Bool)(os:List Oper)(tr:List dx)(k:Env→af→List dx→Prop):
 cj P ops 0 [] j (⟨dst,(.assign x),ty,pos,after,some (i_,want)⟩::os) env I tr k= @cG (cU ((ops[i_]?).bind (·.dst)) want env) (cv (db P (bq env) (.assign x) I)) none I ⟨fun v σ' a=>cj P ops 0 [] (j+1) os (env.put dst v) σ' (⟨a,I,σ'⟩::tr) k⟩:=by
 unfold cG
 rw[←rv]
 rw[show cU ((ops[i_]?).bind (·.dst)) want env=c_ ops env ⟨dst,(.assign x),ty,pos,after,some (i_,want)⟩from rfl]
 rfl
theorem Cm(ops:Array Oper)(dst:Option Tmp)(a b c:Operand)(ty:TypeId)(pos:String)(after:Array Edge)(i_:Nat)(want:Bool)(os:List Oper)(k:Env→af→Prop):
 dL P ops (⟨dst,(.pick a b c),ty,pos,after,some (i_,want)⟩::os) env I k= @dy (cU ((ops[i_]?).bind (·.dst)) want env) (cv (db P (bq env) (.pick a b c) I)) I ⟨fun v σ'=>dL P ops os (env.put dst v) σ' k⟩:=by
 unfold dy
 rw[←wo]
 rfl
theorem yY(ops:Array Oper)(j:Nat)(dst:Option Tmp)(a b c:Operand)(ty:TypeId)(pos:String)(after:Array Edge)(i_:Nat)(want:Bool)(os:List Oper)(tr:List dx)(k:Env→af→List dx→Prop):
 cj P ops 0 [] j (⟨dst,(.pick a b c),ty,pos,after,some (i_,want)⟩::os) env I tr k= @cG (cU ((ops[i_]?).bind (·.dst)) want env) (cv (db P (bq env) (.pick a b c) I)) none I ⟨fun v σ' a=>cj P ops 0 [] (j+1) os (env.put dst v) σ' (⟨a,I,σ'⟩::tr) k⟩:=by
 unfold cG
 rw[←wo]
 rw[show cU ((ops[i_]?).bind (·.dst)) want env=c_ ops env ⟨dst,(.pick a b c),ty,pos,after,some (i_,want)⟩from rfl]
 rfl
theorem Ck(ops:Array Oper)(dst:Option Tmp)(t:TypeId)(x:Operand)(ty:TypeId)(pos:String)(after:Array Edge)(i_:Nat)(want:Bool)(os:List Oper)(k:Env→af→Prop):
 dL P ops (⟨dst,(.load t x),ty,pos,after,some (i_,want)⟩::os) env I k= @dy (cU ((ops[i_]?).bind (·.dst)) want env) (cv (db P (bq env) (.load t x) I)) I ⟨fun v σ'=>dL P ops os (env.put dst v) σ' k⟩:=by
 unfold dy
 rw[←wm]
 rfl
theorem yW(ops:Array Oper)(j:Nat)(dst:Option Tmp)(t:TypeId)(x:Operand)(ty:TypeId)(pos:String)(after:Array Edge)(i_:Nat)(want:Bool)(os:List Oper)(tr:List dx)(k:Env→af→List dx→Prop):
 cj P ops 0 [] j (⟨dst,(.load t x),ty,pos,after,some (i_,want)⟩::os) env I tr k= @cG (cU ((ops[i_]?).bind (·.dst)) want env) (cv (db P (bq env) (.load t x) I)) (E4 (bq env x)) I ⟨fun v σ' a=>cj P ops 0 [] (j+1) os (env.put dst v) σ' (⟨a,I,σ'⟩::tr) k⟩:=by
 unfold cG
 rw[←wm]
 rw[show cU ((ops[i_]?).bind (·.dst)) want env=c_ ops env ⟨dst,(.load t x),ty,pos,after,some (i_,want)⟩from rfl]
 rfl
theorem sI(ops:Array Oper)(dst:Option Tmp)(x:Operand)(ty:TypeId)(pos:String)(after:Array Edge)(i_:Nat)(want:Bool)(os:List Oper)(k:Env→af→Prop):
 dL P ops (⟨dst,(.nilCheck x),ty,pos,after,some (i_,want)⟩::os) env I k= @dy (cU ((ops[i_]?).bind (·.dst)) want env) (cv (db P (bq env) (.nilCheck x) I)) I ⟨fun v σ'=>dL P ops os (env.put dst v) σ' k⟩:=by
 unfold dy
 rw[←ou]
 rfl
theorem rK(ops:Array Oper)(j:Nat)(dst:Option Tmp)(x:Operand)(ty:TypeId)(pos:String)(after:Array Edge)(i_:Nat)(want:Bool)(os:List Oper)(tr:List dx)(k:Env→af→List dx→Prop):
 cj P ops 0 [] j (⟨dst,(.nilCheck x),ty,pos,after,some (i_,want)⟩::os) env I tr k= @cG (cU ((ops[i_]?).bind (·.dst)) want env) (cv (db P (bq env) (.nilCheck x) I)) none I ⟨fun v σ' a=>cj P ops 0 [] (j+1) os (env.put dst v) σ' (⟨a,I,σ'⟩::tr) k⟩:=by
 unfold cG
 rw[←ou]
 rw[show cU ((ops[i_]?).bind (·.dst)) want env=c_ ops env ⟨dst,(.nilCheck x),ty,pos,after,some (i_,want)⟩from rfl]
 rfl
theorem yR(ops:Array Oper)(dst:Option Tmp)(op:BinOp)(t:TypeId)(x y:Operand)(u:TypeId)(ty:TypeId)(pos:String)(after:Array Edge)(i_:Nat)(want:Bool)(os:List Oper)(k:Env→af→Prop):
 dL P ops (⟨dst,(.binOp op t x y u),ty,pos,after,some (i_,want)⟩::os) env I k= @dy (cU ((ops[i_]?).bind (·.dst)) want env) (cv (db P (bq env) (.binOp op t x y u) I)) I ⟨fun v σ'=>dL P ops os (env.put dst v) σ' k⟩:=by
 unfold dy
 rw[←tY]
 rfl
theorem xc(ops:Array Oper)(j:Nat)(dst:Option Tmp)(op:BinOp)(t:TypeId)(x y:Operand)(u:TypeId)(ty:TypeId)(pos:String)(after:Array Edge)(i_:Nat)(want:Bool)(os:List Oper)(tr:List dx)(k:Env→af→List dx→Prop):
 cj P ops 0 [] j (⟨dst,(.binOp op t x y u),ty,pos,after,some (i_,want)⟩::os) env I tr k= @cG (cU ((ops[i_]?).bind (·.dst)) want env) (cv (db P (bq env) (.binOp op t x y u) I)) none I ⟨fun v σ' a=>cj P ops 0 [] (j+1) os (env.put dst v) σ' (⟨a,I,σ'⟩::tr) k⟩:=by
 unfold cG
 rw[←tY]
 rw[show cU ((ops[i_]?).bind (·.dst)) want env=c_ ops env ⟨dst,(.binOp op t x y u),ty,pos,after,some (i_,want)⟩from rfl]
 rfl
theorem Cn(ops:Array Oper)(dst:Option Tmp)(op:UnOp)(t:TypeId)(x:Operand)(ty:TypeId)(pos:String)(after:Array Edge)(i_:Nat)(want:Bool)(os:List Oper)(k:Env→af→Prop):
 dL P ops (⟨dst,(.unOp op t x),ty,pos,after,some (i_,want)⟩::os) env I k= @dy (cU ((ops[i_]?).bind (·.dst)) want env) (cv (db P (bq env) (.unOp op t x) I)) I ⟨fun v σ'=>dL P ops os (env.put dst v) σ' k⟩:=by
 unfold dy
 rw[←wq]
 rfl
theorem yZ(ops:Array Oper)(j:Nat)(dst:Option Tmp)(op:UnOp)(t:TypeId)(x:Operand)(ty:TypeId)(pos:String)(after:Array Edge)(i_:Nat)(want:Bool)(os:List Oper)(tr:List dx)(k:Env→af→List dx→Prop):
 cj P ops 0 [] j (⟨dst,(.unOp op t x),ty,pos,after,some (i_,want)⟩::os) env I tr k= @cG (cU ((ops[i_]?).bind (·.dst)) want env) (cv (db P (bq env) (.unOp op t x) I)) none I ⟨fun v σ' a=>cj P ops 0 [] (j+1) os (env.put dst v) σ' (⟨a,I,σ'⟩::tr) k⟩:=by
 unfold cG
 rw[←wq]
 rw[show cU ((ops[i_]?).bind (·.dst)) want env=c_ ops env ⟨dst,(.unOp op t x),ty,pos,after,some (i_,want)⟩from rfl]
 rfl
theorem uI(ops:Array Oper)(dst:Option Tmp)(s d:TypeId)(x:Operand)(ty:TypeId)(pos:String)(after:Array Edge)(i_:Nat)(want:Bool)(os:List Oper)(k:Env→af→Prop):
 dL P ops (⟨dst,(.convert s d x),ty,pos,after,some (i_,want)⟩::os) env I k= @dy (cU ((ops[i_]?).bind (·.dst)) want env) (cv (db P (bq env) (.convert s d x) I)) I ⟨fun v σ'=>dL P ops os (env.put dst v) σ' k⟩:=by
 unfold dy
 rw[←pV]
 rfl
theorem sJ(ops:Array Oper)(j:Nat)(dst:Option Tmp)(s d:TypeId)(x:Operand)(ty:TypeId)(pos:String)(after:Array Edge)(i_:Nat)(want:Bool)(os:List Oper)(tr:List dx)(k:Env→af→List dx→Prop):
 cj P ops 0 [] j (⟨dst,(.convert s d x),ty,pos,after,some (i_,want)⟩::os) env I tr k= @cG (cU ((ops[i_]?).bind (·.dst)) want env) (cv (db P (bq env) (.convert s d x) I)) none I ⟨fun v σ' a=>cj P ops 0 [] (j+1) os (env.put dst v) σ' (⟨a,I,σ'⟩::tr) k⟩:=by
 unfold cG
 rw[←pV]
 rw[show cU ((ops[i_]?).bind (·.dst)) want env=c_ ops env ⟨dst,(.convert s d x),ty,pos,after,some (i_,want)⟩from rfl]
 rfl
theorem yU(ops:Array Oper)(dst:Option Tmp)(t:TypeId)(x:Operand)(a b:Option Operand)(ty:TypeId)(pos:String)(after:Array Edge)(i_:Nat)(want:Bool)(os:List Oper)(k:Env→af→Prop):
 dL P ops (⟨dst,(.slice t x a b none),ty,pos,after,some (i_,want)⟩::os) env I k= @dy (cU ((ops[i_]?).bind (·.dst)) want env) (cv (db P (bq env) (.slice t x a b none) I)) I ⟨fun v σ'=>dL P ops os (env.put dst v) σ' k⟩:=by
 unfold dy
 rw[←ua]
 rfl
theorem xf(ops:Array Oper)(j:Nat)(dst:Option Tmp)(t:TypeId)(x:Operand)(a b:Option Operand)(ty:TypeId)(pos:String)(after:Array Edge)(i_:Nat)(want:Bool)(os:List Oper)(tr:List dx)(k:Env→af→List dx→Prop):
 cj P ops 0 [] j (⟨dst,(.slice t x a b none),ty,pos,after,some (i_,want)⟩::os) env I tr k= @cG (cU ((ops[i_]?).bind (·.dst)) want env) (cv (db P (bq env) (.slice t x a b none) I)) none I ⟨fun v σ' a=>cj P ops 0 [] (j+1) os (env.put dst v) σ' (⟨a,I,σ'⟩::tr) k⟩:=by
 unfold cG
 rw[←ua]
 rw[show cU ((ops[i_]?).bind (·.dst)) want env=c_ ops env ⟨dst,(.slice t x a b none),ty,pos,after,some (i_,want)⟩from rfl]
 rfl
theorem rI(ops:Array Oper)(dst:Option Tmp)(t:TypeId)(x:Operand)(f:Nat)(ty:TypeId)(pos:String)(after:Array Edge)(i_:Nat)(want:Bool)(os:List Oper)(k:Env→af→Prop):
 dL P ops (⟨dst,(.fieldAddr t x f),ty,pos,after,some (i_,want)⟩::os) env I k= @dy (cU ((ops[i_]?).bind (·.dst)) want env) (cv (db P (bq env) (.fieldAddr t x f) I)) I ⟨fun v σ'=>dL P ops os (env.put dst v) σ' k⟩:=by
 unfold dy
 rw[←nA]
 rfl
theorem qr(ops:Array Oper)(j:Nat)(dst:Option Tmp)(t:TypeId)(x:Operand)(f:Nat)(ty:TypeId)(pos:String)(after:Array Edge)(i_:Nat)(want:Bool)(os:List Oper)(tr:List dx)(k:Env→af→List dx→Prop):
 cj P ops 0 [] j (⟨dst,(.fieldAddr t x f),ty,pos,after,some (i_,want)⟩::os) env I tr k= @cG (cU ((ops[i_]?).bind (·.dst)) want env) (cv (db P (bq env) (.fieldAddr t x f) I)) none I ⟨fun v σ' a=>cj P ops 0 [] (j+1) os (env.put dst v) σ' (⟨a,I,σ'⟩::tr) k⟩:=by
 unfold cG
 rw[←nA]
 rw[show cU ((ops[i_]?).bind (·.dst)) want env=c_ ops env ⟨dst,(.fieldAddr t x f),ty,pos,after,some (i_,want)⟩from rfl]
 rfl
theorem rJ(ops:Array Oper)(dst:Option Tmp)(t:TypeId)(x y:Operand)(ty:TypeId)(pos:String)(after:Array Edge)(i_:Nat)(want:Bool)(os:List Oper)(k:Env→af→Prop):
 dL P ops (⟨dst,(.indexAddr t x y),ty,pos,after,some (i_,want)⟩::os) env I k= @dy (cU ((ops[i_]?).bind (·.dst)) want env) (cv (db P (bq env) (.indexAddr t x y) I)) I ⟨fun v σ'=>dL P ops os (env.put dst v) σ' k⟩:=by
 unfold dy
 rw[←nB]
 rfl
theorem qt(ops:Array Oper)(j:Nat)(dst:Option Tmp)(t:TypeId)(x y:Operand)(ty:TypeId)(pos:String)(after:Array Edge)(i_:Nat)(want:Bool)(os:List Oper)(tr:List dx)(k:Env→af→List dx→Prop):
 cj P ops 0 [] j (⟨dst,(.indexAddr t x y),ty,pos,after,some (i_,want)⟩::os) env I tr k= @cG (cU ((ops[i_]?).bind (·.dst)) want env) (cv (db P (bq env) (.indexAddr t x y) I)) none I ⟨fun v σ' a=>cj P ops 0 [] (j+1) os (env.put dst v) σ' (⟨a,I,σ'⟩::tr) k⟩:=by
 unfold cG
 rw[←nB]
 rw[show cU ((ops[i_]?).bind (·.dst)) want env=c_ ops env ⟨dst,(.indexAddr t x y),ty,pos,after,some (i_,want)⟩from rfl]
 rfl
theorem yT(ops:Array Oper)(dst:Option Tmp)(t:TypeId)(x y:Operand)(ty:TypeId)(pos:String)(after:Array Edge)(i_:Nat)(want:Bool)(os:List Oper)(k:Env→af→Prop):
 dL P ops (⟨dst,(.index t x y),ty,pos,after,some (i_,want)⟩::os) env I k= @dy (cU ((ops[i_]?).bind (·.dst)) want env) (cv (db P (bq env) (.index t x y) I)) I ⟨fun v σ'=>dL P ops os (env.put dst v) σ' k⟩:=by
 unfold dy
 rw[←t_]
 rfl
theorem xe(ops:Array Oper)(j:Nat)(dst:Option Tmp)(t:TypeId)(x y:Operand)(ty:TypeId)(pos:String)(after:Array Edge)(i_:Nat)(want:Bool)(os:List Oper)(tr:List dx)(k:Env→af→List dx→Prop):
 cj P ops 0 [] j (⟨dst,(.index t x y),ty,pos,after,some (i_,want)⟩::os) env I tr k= @cG (cU ((ops[i_]?).bind (·.dst)) want env) (cv (db P (bq env) (.index t x y) I)) none I ⟨fun v σ' a=>cj P ops 0 [] (j+1) os (env.put dst v) σ' (⟨a,I,σ'⟩::tr) k⟩:=by
 unfold cG
 rw[←t_]
 rw[show cU ((ops[i_]?).bind (·.dst)) want env=c_ ops env ⟨dst,(.index t x y),ty,pos,after,some (i_,want)⟩from rfl]
 rfl
theorem uJ(ops:Array Oper)(dst:Option Tmp)(x:Operand)(i:Nat)(ty:TypeId)(pos:String)(after:Array Edge)(i_:Nat)(want:Bool)(os:List Oper)(k:Env→af→Prop):
 dL P ops (⟨dst,(.extract x i),ty,pos,after,some (i_,want)⟩::os) env I k= @dy (cU ((ops[i_]?).bind (·.dst)) want env) (cv (db P (bq env) (.extract x i) I)) I ⟨fun v σ'=>dL P ops os (env.put dst v) σ' k⟩:=by
 unfold dy
 rw[←pW]
 rfl
theorem sK(ops:Array Oper)(j:Nat)(dst:Option Tmp)(x:Operand)(i:Nat)(ty:TypeId)(pos:String)(after:Array Edge)(i_:Nat)(want:Bool)(os:List Oper)(tr:List dx)(k:Env→af→List dx→Prop):
 cj P ops 0 [] j (⟨dst,(.extract x i),ty,pos,after,some (i_,want)⟩::os) env I tr k= @cG (cU ((ops[i_]?).bind (·.dst)) want env) (cv (db P (bq env) (.extract x i) I)) none I ⟨fun v σ' a=>cj P ops 0 [] (j+1) os (env.put dst v) σ' (⟨a,I,σ'⟩::tr) k⟩:=by
 unfold cG
 rw[←pW]
 rw[show cU ((ops[i_]?).bind (·.dst)) want env=c_ ops env ⟨dst,(.extract x i),ty,pos,after,some (i_,want)⟩from rfl]
 rfl
theorem yS(ops:Array Oper)(dst:Option Tmp)(t:TypeId)(ps:Array (Nat×Operand))(ty:TypeId)(pos:String)(after:Array Edge)(i_:Nat)(want:Bool)(os:List Oper)(k:Env→af→Prop):
 dL P ops (⟨dst,(.build t ps),ty,pos,after,some (i_,want)⟩::os) env I k= @dy (cU ((ops[i_]?).bind (·.dst)) want env) (cv (db P (bq env) (.build t ps) I)) I ⟨fun v σ'=>dL P ops os (env.put dst v) σ' k⟩:=by
 unfold dy
 rw[←tZ]
 rfl
theorem xd(ops:Array Oper)(j:Nat)(dst:Option Tmp)(t:TypeId)(ps:Array (Nat×Operand))(ty:TypeId)(pos:String)(after:Array Edge)(i_:Nat)(want:Bool)(os:List Oper)(tr:List dx)(k:Env→af→List dx→Prop):
 cj P ops 0 [] j (⟨dst,(.build t ps),ty,pos,after,some (i_,want)⟩::os) env I tr k= @cG (cU ((ops[i_]?).bind (·.dst)) want env) (cv (db P (bq env) (.build t ps) I)) none I ⟨fun v σ' a=>cj P ops 0 [] (j+1) os (env.put dst v) σ' (⟨a,I,σ'⟩::tr) k⟩:=by
 unfold cG
 rw[←tZ]
 rw[show cU ((ops[i_]?).bind (·.dst)) want env=c_ ops env ⟨dst,(.build t ps),ty,pos,after,some (i_,want)⟩from rfl]
 rfl
theorem FC(ops:Array Oper)(dst:Option Tmp)(x:Operand)(t:TypeId)(ty:TypeId)(pos:String)(after:Array Edge)(i_:Nat)(want:Bool)(os:List Oper)(k:Env→af→Prop):
 dL P ops (⟨dst,(.call ⟨.builtin .len,#[x],#[t]⟩),ty,pos,after,some (i_,want)⟩::os) env I k= @dy (cU ((ops[i_]?).bind (·.dst)) want env) (cv (db P (bq env) (.call ⟨.builtin .len,#[x],#[t]⟩) I)) I ⟨fun v σ'=>dL P ops os (env.put dst v) σ' k⟩:=by
 unfold dy
 rw[←AX]
 rfl
theorem Co(ops:Array Oper)(j:Nat)(dst:Option Tmp)(x:Operand)(t:TypeId)(ty:TypeId)(pos:String)(after:Array Edge)(i_:Nat)(want:Bool)(os:List Oper)(tr:List dx)(k:Env→af→List dx→Prop):
 cj P ops 0 [] j (⟨dst,(.call ⟨.builtin .len,#[x],#[t]⟩),ty,pos,after,some (i_,want)⟩::os) env I tr k= @cG (cU ((ops[i_]?).bind (·.dst)) want env) (cv (db P (bq env) (.call ⟨.builtin .len,#[x],#[t]⟩) I)) none I ⟨fun v σ' a=>cj P ops 0 [] (j+1) os (env.put dst v) σ' (⟨a,I,σ'⟩::tr) k⟩:=by
 unfold cG
 rw[←AX]
 rw[show cU ((ops[i_]?).bind (·.dst)) want env=c_ ops env ⟨dst,(.call ⟨.builtin .len,#[x],#[t]⟩),ty,pos,after,some (i_,want)⟩from rfl]
 rfl
theorem Cj(ops:Array Oper)(dst:Option Tmp)(f:Operand)(args:Array Operand)(ts:Array TypeId)(ty:TypeId)(pos:String)(after:Array Edge)(i_:Nat)(want:Bool)(os:List Oper)(k:Env→af→Prop):
 dL P ops (⟨dst,.call ⟨.value f,args,ts⟩,ty,pos,after,some (i_,want)⟩::os) env I k= @TS P (cU ((ops[i_]?).bind (·.dst)) want env) (bq env f) (args.toList.map (bq env)) I ⟨fun v σ'=>dL P ops os (env.put dst v) σ' k⟩:=_root_.id rfl
theorem yV(ops:Array Oper)(j:Nat)(dst:Option Tmp)(f:Operand)(args:Array Operand)(ts:Array TypeId)(ty:TypeId)(pos:String)(after:Array Edge)(i_:Nat)(want:Bool)(os:List Oper)(tr:List dx)(k:Env→af→List dx→Prop):
 cj P ops 0 [] j (⟨dst,.call ⟨.value f,args,ts⟩,ty,pos,after,some (i_,want)⟩::os) env I tr k= @TS P (cU ((ops[i_]?).bind (·.dst)) want env) (bq env f) (args.toList.map (bq env)) I ⟨fun v σ'=>cj P ops 0 [] (j+1) os (env.put dst v) σ' (⟨none,I,σ'⟩::tr) k⟩:=by
 rw[show cU ((ops[i_]?).bind (·.dst)) want env=c_ ops env ⟨dst,.call ⟨.value f,args,ts⟩,ty,pos,after,some (i_,want)⟩from rfl]
 rfl
end
attribute [go_sem] TY MI Ja Nx Kg Vo mc At NB KC Vs Rc Rf Re NA DJ xz xy C6 C5 C4 C7 I9 DR AF G3 Li DO AA IC MH GQ
attribute [go_sem high] MG I8 DS AJ AG yj DQ AE AB yh
attribute [go_sem ↓ high] In Cl xb Cm Ck sI yR Cn uI yU rI rJ yT uJ yS FC yX uK yY yW rK xc yZ sJ xf qr qt xe sK xd Co Cj yV
end AH
