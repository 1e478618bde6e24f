import Derived.Test.YtagihpbpblnnoaaGreatZ01
import Derived.Test.YtagihpbpblnnoaaGreatZ00
set_option linter.all false
namespace AH
open Go
section
variable {P:Program} {N:Nat} {ord:Nat→bD}
theorem qV{o:Oper}{env:Env}{I:af}{K:Env→af→Prop}(h:dM P o env I K):∃ce σ',I.n≤σ'.n∧K ce σ'∧∀K':Env→af→Prop,K' ce σ'→dM P o env I K':=by
 unfold dM at h⊢
 split at h
 next f args ts ho=>
  unfold dN at h⊢
  split at h
  next g first cap hf=>
   obtain⟨v,σ',hc,hK⟩:=h
   exact⟨_,σ',hc.2.1,hK,fun K' jR=>⟨v,σ',hc,jR⟩⟩
  next=>exact h.elim
 next op nc=>
  unfold dt at h⊢
  split at h
  next v σ' he=>exact⟨_,σ',OE he,h,fun K' jR=>jR⟩
  next=>exact h.elim
theorem Cs{ops:Array Oper}:∀(os:List Oper) {env:Env} {I:af} {K:Env→af→Prop},dL P ops os env I K→∃ce σ',I.n≤σ'.n∧K ce σ'∧∀K':Env→af→Prop,K' ce σ'→dL P ops os env I K':=by
 intro os
 induction os with
 |nil=>intro env I K h;exact⟨env,I,Nat.le_refl _,h,fun K' jR=>jR⟩
 |cons o os ih=>
  intro env I K h
  simp only[dL]at h⊢
  unfold cN at h⊢
  cases hg:c_ ops env o with
  |none=>rw[hg]at h;exact h.elim
  |some b=>
   rw[hg]at h
   cases b with
   |true=>
    obtain⟨lW,σ1,jq,h1,h2⟩:=qV (h.1 rfl)
    obtain⟨s8,σ2,fz,h3,h4⟩:=ih h1
    exact⟨s8,σ2,Nat.le_trans jq fz,h3,fun K' jR=>⟨fun _=>h2 _ (h4 K' jR),fun e=>CW⟩⟩
   |false=>
    obtain⟨s8,σ2,fz,h3,h4⟩:=ih (h.2 rfl)
    exact⟨s8,σ2,fz,h3,fun K' jR=>⟨fun e=>CW,fun _=>h4 K' jR⟩⟩
theorem xk{o:Oper}{kept:Option Nat}{env:Env}{I:af}{K:Env→af→Prop}(h:jo P o kept env I K):∃ce σ',I.n≤σ'.n∧K ce σ'∧∀K':Env→af→Prop,K' ce σ'→jo P o kept env I K':=by
 unfold jo at h⊢
 cases kept with
 |none=>exact qV h
 |some i=>
  simp only[dt]at h⊢
  split at h
  next v σ' he=>
   refine⟨_,σ',?_,h,fun K' jR=>jR⟩
   unfold mO at he
   split at he
   ·split at he
    ·cases he;exact Nat.le_refl _
    ·cases he
   ·cases he
  next=>exact h.elim
theorem za{ops:Array Oper}{base:Nat}{res:List Nat}:∀(os:List Oper) {k:Nat} {env:Env} {I:af} {tr:List dx} {K:Env→af→List dx→Prop},cj P ops base res k os env I tr K→
 ∃ce σ' tr',I.n≤σ'.n∧K ce σ' tr'∧∀K':Env→af→List dx→Prop,K' ce σ' tr'→cj P ops base res k os env I tr K':=by
 intro os
 induction os with
 |nil=>intro k env I tr K h;exact⟨env,I,tr,Nat.le_refl _,h,fun K' jR=>jR⟩
 |cons o os ih=>
  intro k env I tr K h
  simp only[cj]at h⊢
  unfold cN at h⊢
  cases hg:c_ ops env o with
  |none=>rw[hg]at h;exact h.elim
  |some b=>
   rw[hg]at h
   cases b with
   |true=>
    obtain⟨lW,σ1,jq,h1,h2⟩:=xk (h.1 rfl)
    obtain⟨s8,σ2,tr2,fz,h3,h4⟩:=ih h1
    exact⟨s8,σ2,tr2,Nat.le_trans jq fz,h3,fun K' jR=>⟨fun _=>h2 _ (h4 K' jR),fun e=>CW⟩⟩
   |false=>
    obtain⟨s8,σ2,tr2,fz,h3,h4⟩:=ih (h.2 rfl)
    exact⟨s8,σ2,tr2,fz,h3,fun K' jR=>⟨fun e=>CW,fun _=>h4 K' jR⟩⟩
def H2(c:(Exit→Env→af→Prop)→Env→af→Prop):Prop:=∀(K:Exit→Env→af→Prop) (env:Env) (I:af),c K env I→
 ∃e ce σ',I.n≤σ'.n∧K e ce σ'∧∀K':Exit→Env→af→Prop,K' e ce σ'→c K' env I
theorem Ch{c:(Exit→Env→af→Prop)→Env→af→Prop}(hc:H2 c):∀n,H2 fun K env I=>pu c K n env I:=by
 intro n
 induction n with
 |zero=>intro K env I h;exact h.elim
 |succ n ih=>
  intro K env I h
  obtain⟨e,lW,σ1,jq,h1,h2⟩:=hc _ _ _ h
  cases e with
  |normal=>
   obtain⟨e2,s8,σ2,fz,h3,h4⟩:=ih K lW σ1 h1
   exact⟨e2,s8,σ2,Nat.le_trans jq fz,h3,fun K' jR=>h2 _ (h4 K' jR)⟩
  |_=>exact⟨_,lW,σ1,jq,h1,fun K' jR=>h2 _ jR⟩
theorem Bb:∀(c:Code),H2 fun K env I=>ko P ord c K env I:=by
 intro c
 induction c with
 |skip=>intro K env I h;exact⟨_,env,I,Nat.le_refl _,h,fun K' jR=>jR⟩
 |region id ops draw=>
  intro K env I h
  cases draw with
  |false=>
   obtain⟨ce,σ',hn,h1,h2⟩:=Cs _ h
   exact⟨_,ce,σ',hn,h1,fun K' jR=>h2 _ jR⟩
  |true=>
   have h: @k_ P ops (ord id) env I ⟨K .normal⟩:=h
   unfold k_ at h
   obtain⟨ce,σ',tr',hn,h1,h2⟩:=za _ h
   refine⟨.normal,ce,σ',Nat.le_trans ?_ hn,h1.2,fun K' jR=>?_⟩
   ·split
    ·exact Nat.le_refl _
    ·exact Nat.le_add_right _ _
   ·show @k_ P ops (ord id) env I ⟨K' .normal⟩
    unfold k_
    exact h2 _ ⟨h1.1,jR⟩
 |seq x y QZ Q0=>
  intro K env I h
  obtain⟨e,lW,σ1,jq,h1,h2⟩:=QZ _ _ _ h
  cases e with
  |normal=>
   obtain⟨e2,s8,σ2,fz,h3,h4⟩:=Q0 K lW σ1 h1
   exact⟨e2,s8,σ2,Nat.le_trans jq fz,h3,fun K' jR=>h2 _ (h4 K' jR)⟩
  |_=>exact⟨_,lW,σ1,jq,h1,fun K' jR=>h2 _ jR⟩
 |cond c x y QZ Q0=>
  intro K env I h
  have h: @mN (bq env c) ⟨ko P ord x K env I⟩ ⟨ko P ord y K env I⟩:=h
  show ∃e ce σ',I.n≤σ'.n∧K e ce σ'∧∀K':Exit→Env→af→Prop,K' e ce σ'→ @mN (bq env c) ⟨ko P ord x K' env I⟩ ⟨ko P ord y K' env I⟩
  unfold mN at h⊢
  split at h
  next b hb=>
   cases b with
   |true=>
    obtain⟨e,ce,σ',hn,h1,h2⟩:=QZ K env I (h.1 rfl)
    exact⟨e,ce,σ',hn,h1,fun K' jR=>⟨fun _=>h2 K' jR,fun e=>CW⟩⟩
   |false=>
    obtain⟨e,ce,σ',hn,h1,h2⟩:=Q0 K env I (h.2 rfl)
    exact⟨e,ce,σ',hn,h1,fun K' jR=>⟨fun e=>CW,fun _=>h2 K' jR⟩⟩
  next=>exact h.elim
 |block id c ih=>
  intro K env I h
  obtain⟨e,lW,σ1,jq,h1,h2⟩:=ih _ _ _ h
  cases e with
  |exit Am=>
   by_cases he:Am=id
   ·have h1:(if Am=id then K .normal lW σ1 else K (.exit Am) lW σ1):=h1
    rw[if_pos he]at h1
    refine⟨_,lW,σ1,jq,h1,fun K' jR=>h2 _ ?_⟩
    show(if Am=id then K' .normal lW σ1 else K' (.exit Am) lW σ1)
    rw[if_pos he];exact jR
   ·have h1:(if Am=id then K .normal lW σ1 else K (.exit Am) lW σ1):=h1
    rw[if_neg he]at h1
    refine⟨_,lW,σ1,jq,h1,fun K' jR=>h2 _ ?_⟩
    show(if Am=id then K' .normal lW σ1 else K' (.exit Am) lW σ1)
    rw[if_neg he];exact jR
  |_=>exact⟨_,lW,σ1,jq,h1,fun K' jR=>h2 _ jR⟩
 |loop c ih=>
  intro K env I h
  obtain⟨n,h⟩:=h
  obtain⟨e,ce,σ',hn,h1,h2⟩:=Ch ih n K env I h
  exact⟨e,ce,σ',hn,h1,fun K' jR=>⟨n,h2 K' jR⟩⟩
 |exit id=>intro K env I h;exact⟨_,env,I,Nat.le_refl _,h,fun K' jR=>jR⟩
 |ret=>intro K env I h;exact⟨_,env,I,Nat.le_refl _,h,fun K' jR=>jR⟩
 |_=>intro K env I h;exact h.elim
theorem BZ.call{f:FuncId}{args:List U}{I σ':af}{v:U}(h:BZ P f args I (fun x R=>x=v∧R=σ'))(hn:I.n≤σ'.n):mq P f args I v σ':=by
 refine⟨h.1,hn,fun ajR w us hR hv=>(h.2 ajR w us hR hv).mono ?_⟩
 rintro e w' ⟨x,R,⟨rfl,rfl⟩,hq⟩
 exact hq
def Fn(P:Program)(f:FuncId)(args:List U)(I:af)(Q:U→af→Prop):Prop:=∃v σ',mq P f args I v σ'∧Q v σ'
theorem Fn.use{f:FuncId}{args:List U}{I:af}{Q Q':U→af→Prop}(h:Fn P f args I Q)(hk:∀v σ',I.n≤σ'.n→Q v σ'→Q' v σ'):Fn P f args I Q':=by
 obtain⟨v,σ',hc,hq⟩:=h
 exact⟨v,σ',hc,hk v σ' hc.2.1 hq⟩
theorem Fn.eq{f:FuncId}{args:List U}{I σ':af}{v:U}{Q:U→af→Prop}(h:Fn P f args I fun x R=>x=v∧R=σ')(hk:Q v σ'):Fn P f args I Q:=by
 obtain⟨x,R,hc,rfl,rfl⟩:=h
 exact⟨x,R,hc,hk⟩
theorem sP{g:FuncId}{args:List U}{I:af}{k:U→af→Prop}: @dN P (.fn g [] []) args I ⟨k⟩=Fn P g args I k:=by
 simp only[dN,Fn,List.nil_append,List.append_nil]
theorem vx{g:FuncId}{first cap:List U}{args:List U}{I:af}{k:U→af→Prop}: @dN P (.fn g first cap) args I ⟨k⟩=Fn P g (first++args++cap) I k:=rfl
theorem bA{f:FuncId}{fn:Func}{c:Code}{args:List U}{I:af}{Q:U→af→Prop}(ord:Nat→bD)(hm:P.follows .mixedOrders=true)
 (hf:P.funcs[f]? =some fn) (hn:(fn.name== "runtime.NumGoroutine")=false) (hb:fn.body=some c) (cq:(codeOk fn.ntmps ord c&&decide (args.length≤fn.ntmps))=true)
 (h:ko P ord c (mP P fn.results.toList Q) (bL args) I):Fn P f args I Q:=by
 obtain⟨e,ce,σ',M1,h1,h2⟩:=Bb c _ _ _ h
 have key:∀(v:U),(∀Q':U→af→Prop,Q' v σ'→mP P fn.results.toList Q' e ce σ')→Q v σ'→Fn P f args I Q:=by
  intro v hv hq
  exact⟨v,σ',(Ii ord hm hf hn hb cq (h2 _ (hv (fun x R=>x=v∧R=σ') ⟨rfl,rfl⟩))).call M1,hq⟩
 have fin: @mS (nV P ce σ' fn.results.toList) ⟨fun v=>Q v σ'⟩→(∀Q':U→af→Prop,@mS (nV P ce σ' fn.results.toList) ⟨fun v=>Q' v σ'⟩→mP P fn.results.toList Q' e ce σ')→Fn P f args I Q:=by
  intro hb Jg
  unfold mS at hb
  split at hb
  next vs xN=>exact key (Iv vs) (fun Q' hq=>Jg Q' (by rw[xN];exact hq)) hb
  next=>exact hb.elim
 cases e with
 |normal=>exact fin h1 fun Q' hq=>hq
 |ret=>exact fin h1 fun Q' hq=>hq
 |_=>exact h1.elim
theorem Fw{step:(Exit→Env→af→Prop)→Env→af→Prop}{K:Exit→Env→af→Prop}(aa:Nat→Env→af→Prop)
 (mono:∀{K K':Exit→Env→af→Prop} {env:Env} {I:af},(∀e env I,K e env I→K' e env I)→step K env I→step K' env I)
 (h:∀m env I,aa m env I→step (mR (fun ce σ'=>∃m',m'<m∧aa m' ce σ') K) env I):∀(m:Nat) (env:Env) (I:af),aa m env I→ @lL ⟨step⟩ ⟨K⟩ env I:=by
 have Gl:∀(n n':Nat) (env:Env) (I:af),n≤n'→pu step K n env I→pu step K n' env I:=by
  intro n
  induction n with
  |zero=>intro n' env I _ h;exact h.elim
  |succ n ih=>
   intro n' env I hn h
   obtain⟨n'',rfl⟩:∃n'',n'=n''+1:=⟨n'-1,J⟩
   refine mono ?_ h
   intro e env I he
   cases e with
   |normal=>exact ih n'' env I J he
   |_=>exact he
 have key:∀(m:Nat) (env:Env) (I:af),aa m env I→pu step K (m+1) env I:=by
  intro m
  induction m using Nat.strongRecOn with
  |_ m ih=>
   intro env I hI
   refine mono ?_ (h m env I hI)
   intro e ce σ' he
   cases e with
   |normal=>
    obtain⟨m',dG,R6⟩:=he
    exact Gl (m'+1) m ce σ' J (ih m' dG ce σ' R6)
   |_=>exact he
 exact fun m env I hI=>⟨m+1,key m env I hI⟩
theorem Ba{c:Code}{K K':Exit→Env→af→Prop}{env:Env}{I:af}(hk:∀e env I,K e env I→K' e env I)(h:ko P ord c K env I):ko P ord c K' env I:=by
 obtain⟨e,ce,σ',_,h1,h2⟩:=Bb c _ _ _ h
 exact h2 K' (hk _ _ _ h1)
theorem Ci{c:Code}{K:Exit→Env→af→Prop}{env:Env}{I:af}(aa:Nat→Env→af→Prop)(m:Nat)(h0:aa m env I)
 (h:∀m env I,aa m env I→ko P ord c (mR (fun ce σ'=>∃m',m'<m∧aa m' ce σ') K) env I): @lL ⟨ko P ord c⟩ ⟨K⟩ env I:=
 Fw (step:=ko P ord c) aa (fun hk hh=>Ba hk hh) h m env I h0
def Alt(a:Prop)[b:Kt Prop]:Prop:=a∨b.val
theorem Alt.mk{a b:Prop}(h:a): @Alt a ⟨b⟩:= .inl h
theorem HU{b:Prop}: @Alt True ⟨b⟩=True:=by simp[Alt]
theorem ar{g:FuncId}{args:List U}{v:U}{I σ':af}{k:U→af→Prop}(h:Fn P g args I fun x R=>x=v∧R=σ'):
 @dN P (.fn g [] []) args I ⟨k⟩= @Alt (k v σ') ⟨@dN P (.fn g [] []) args I ⟨k⟩⟩:=by
 refine propext ⟨fun hh=> .inr hh,fun hh=>?_⟩
 rcases hh with hh|hh
 ·rw[sP];exact h.eq hh
 ·exact hh
theorem aw{g:FuncId}{args:List U}{I:af}{Q k:U→af→Prop}(h:Fn P g args I Q)(hk:∀v σ',I.n≤σ'.n→Q v σ'→k v σ'): @dN P (.fn g [] []) args I ⟨k⟩:=by
 rw[sP];exact h.use hk
theorem H5(t:TypeId)(k:IntKind)(a b:Int):eB P .add t (.int k a) (.int k b)=lJ .add k a b:=by simp[eB]
theorem Ig(t:TypeId)(k:IntKind)(a b:Int):eB P .sub t (.int k a) (.int k b)=lJ .sub k a b:=by simp[eB]
theorem Ib(t:TypeId)(k:IntKind)(a b:Int):eB P .mul t (.int k a) (.int k b)=lJ .mul k a b:=by simp[eB]
theorem Ie(t:TypeId)(k:IntKind)(a b:Int):eB P .quo t (.int k a) (.int k b)=lJ .quo k a b:=by simp[eB]
theorem If(t:TypeId)(k:IntKind)(a b:Int):eB P .rem t (.int k a) (.int k b)=lJ .rem k a b:=by simp[eB]
theorem H6(t:TypeId)(k:IntKind)(a b:Int):eB P .and t (.int k a) (.int k b)=lJ .and k a b:=by simp[eB]
theorem Mg(t:TypeId)(k:IntKind)(a b:Int):eB P .or t (.int k a) (.int k b)=lJ .or k a b:=by simp[eB]
theorem Ih(t:TypeId)(k:IntKind)(a b:Int):eB P .xor t (.int k a) (.int k b)=lJ .xor k a b:=by simp[eB]
theorem H7(t:TypeId)(k:IntKind)(a b:Int):eB P .eql t (.int k a) (.int k b)=lJ .eql k a b:=by simp[eB]
theorem Ic(t:TypeId)(k:IntKind)(a b:Int):eB P .neq t (.int k a) (.int k b)=lJ .neq k a b:=by simp[eB]
theorem Ia(t:TypeId)(k:IntKind)(a b:Int):eB P .lss t (.int k a) (.int k b)=lJ .lss k a b:=by simp[eB]
theorem H'(t:TypeId)(k:IntKind)(a b:Int):eB P .leq t (.int k a) (.int k b)=lJ .leq k a b:=by simp[eB]
theorem H9(t:TypeId)(k:IntKind)(a b:Int):eB P .gtr t (.int k a) (.int k b)=lJ .gtr k a b:=by simp[eB]
theorem H8(t:TypeId)(k:IntKind)(a b:Int):eB P .geq t (.int k a) (.int k b)=lJ .geq k a b:=by simp[eB]
end
attribute [go_sem] HU H5 Ig Ib Ie If H6 Mg Ih H7 Ic Ia H' H9 H8
end AH
namespace AH
open Go
mutual
def U.lt(n:Nat):U→Bool
 | .ptr i _=>decide (i<n)
 | .sl i _ _ _=>decide (i<n)
 | .fn _ a b=>U.HL n a&&U.HL n b
 | .iface _ v=>U.lt n v
 | .agg cs=>U.HL n cs
 | .cw cs=>U.HL n cs
 |_=>true
def U.HL(n:Nat):List U→Bool
 |[]=>true
 |a::as=>U.lt n a&&U.HL n as
end
theorem iZ{n:Nat}:∀{cs:List U},U.HL n cs=true→∀(j:Nat) (a:U),cs[j]? =some a→a.lt n=true
 |[],_,j,a,h=>by simp at h
 |c::cs,h,j,a,ha=>by
  simp only[U.HL,Bool.and_eq_true]at h
  cases j with
  |zero=>simp at ha;subst ha;exact h.1
  |succ j=>exact iZ h.2 j a (by simpa using ha)
theorem VR.restrict{ajR μ':Mu}{n:Nat}(hm:∀i,i<n→μ' i=ajR i){a:U}{u:Value}(h:VR μ' a u):a.lt n=true→VR ajR a u:=by
 induction h with
 |bool b=>exact fun _=> .bool b
 |int k n=>exact fun _=> .int k n
 |str s=>exact fun _=> .str s
 |ptr i k l hl=>intro dG;simp only[U.lt,decide_eq_true_eq]at dG;exact .ptr i k l (hm i dG▸hl)
 |oS=>exact fun _=> .oS
 |sl i k m e cap l off hl hn ho=>intro dG;simp only[U.lt,decide_eq_true_eq]at dG;exact .sl i k m e cap l off (hm i dG▸hl) hn ho
 |al=>exact fun _=> .al
 |fn f xs ys us vs hx hy h h' ih QY=>
  intro dG
  simp only[U.lt,Bool.and_eq_true]at dG
  exact .fn f xs ys us vs hx hy (fun j a u ha hu=>ih j a u ha hu (iZ dG.1 j a ha)) (fun j a u ha hu=>QY j a u ha hu (iZ dG.2 j a ha))
 |lA=>exact fun _=> .lA
 |iface t a u h ih=>intro dG;simp only[U.lt]at dG;exact .iface t a u (ih dG)
 |lB=>exact fun _=> .lB
 |agg cs us hl h ih=>intro dG;simp only[U.lt]at dG;exact .agg cs us hl fun j a u ha hu=>ih j a u ha hu (iZ dG j a ha)
 |cw cs us hl h ih=>intro dG;simp only[U.lt]at dG;exact .cw cs us hl fun j a u ha hu=>ih j a u ha hu (iZ dG j a ha)
 |undef u=>exact fun _=> .undef u
theorem VR.uf{ajR μ':Mu}{n:Nat}(hm:∀i,i<n→μ' i=ajR i)(hd:∀i l,ajR i=some l→i<n){a:U}{u:Value}(h:VR ajR a u):∀{u':Value},VR μ' a u'→VR ajR a u':=by
 induction h with
 |bool b=>intro u' h';cases h';exact .bool b
 |int k n=>intro u' h';cases h';exact .int k n
 |str s=>intro u' h';cases h';exact .str s
 |ptr i k l hl=>intro u' h';cases h' with|ptr _ _ l' df=>rw[hm i (hd i l hl)]at df;exact .ptr i k l' df
 |oS=>intro u' h';cases h';exact .oS
 |sl i k m e cap l off hl hn ho=>intro u' h';cases h' with|sl _ _ _ _ ZO l' acc df M1 na=>rw[hm i (hd i l hl)]at df;exact .sl i k m e ZO l' acc df M1 na
 |al=>intro u' h';cases h';exact .al
 |fn f xs ys us vs hx hy h h' ih QY=>
  intro u' hh
  cases hh with
  |fn _ _ _ Wj Wl Aa Pa h1 h2=>
   refine .fn f xs ys Wj Wl Aa Pa (fun j a u ha hu=>?_) (fun j a u ha hu=>?_)
   ·have hj:j<us.size:=by rw[←hx];exact(List.getElem?_eq_some_iff.1 ha).1
    exact ih j a us[j] ha (Array.getElem?_eq_getElem hj) (h1 j a u ha hu)
   ·have hj:j<vs.size:=by rw[←hy];exact(List.getElem?_eq_some_iff.1 ha).1
    exact QY j a vs[j] ha (Array.getElem?_eq_getElem hj) (h2 j a u ha hu)
 |lA=>intro u' h';cases h';exact .lA
 |iface t a u h ih=>intro u' h';cases h' with|iface _ _ u2 h2=>exact .iface t a u2 (ih h2)
 |lB=>intro u' h';cases h';exact .lB
 |agg cs us hl h ih=>
  intro u' hh
  cases hh with
  |agg _ Wj df h1=>
   refine .agg cs Wj df fun j a u ha hu=>?_
   have hj:j<us.size:=by rw[←hl];exact(List.getElem?_eq_some_iff.1 ha).1
   exact ih j a us[j] ha (Array.getElem?_eq_getElem hj) (h1 j a u ha hu)
 |cw cs us hl h ih=>
  intro u' hh
  cases hh with
  |cw _ Wj df h1=>
   refine .cw cs Wj df fun j a u ha hu=>?_
   have hj:j<us.size:=by rw[←hl];exact(List.getElem?_eq_some_iff.1 ha).1
   exact ih j a us[j] ha (Array.getElem?_eq_getElem hj) (h1 j a u ha hu)
 |undef u=>intro u' _;exact .undef u'
theorem mq.forget{P:Program}{f:FuncId}{args:List U}{I σ' R:af}{v:U}(h:mq P f args I v σ')(hn:R.n=I.n)
 (hg:∀i,i<I.n→R.get i=σ'.get i∧(σ'.get i=I.get i∨∀B,σ'.get i=some B→∃C,I.get i=some C∧∀a∈B.cells,a.lt I.n=true∨a∈C.cells)) (hv:v.lt I.n=true):mq P f args I v R:=by
 refine⟨h.1,Nat.le_of_eq hn.symm,fun ajR w us hR ms=>(h.2.2 ajR w us hR ms).mono ?_⟩
 rintro e w' ⟨u,μ',rfl,O_,ji,hS⟩
 have hm:∀i,i<I.n→μ' i=ajR i:=hS.ext
 refine⟨u,ajR,rfl,O_.restrict hm hv,⟨fun i l hl=>by rw[hn];exact hR.pe i l hl,?_,?_⟩,?_⟩
 ·intro i B l hB hl
  have hi:=hR.pe i l hl
  obtain⟨h1,h2⟩:=hg i hi
  rw[h1]at hB
  obtain⟨arr,el,fr,b1,b2,b3,b4,b5⟩:=(ji.lO i B l hB PG).ex
  refine⟨arr,el,fr,b1,b2,b3,b4,fun j a ha=>?_⟩
  obtain⟨y,hy,Gm⟩:=b5 j a ha
  refine⟨y,hy,?_⟩
  rcases h2 with h2|h2
  ·rw[h2]at hB
   obtain⟨_,_,_,_,_,_,_,c5⟩:=(hR.lO i B l hB hl).ex
   obtain⟨y0,_,pK⟩:=c5 j a ha
   exact pK.uf hm hR.pe Gm
  ·obtain⟨C,hC,h3⟩:=h2 B hB
   rcases h3 a (List.mem_of_getElem? ha)with h4|h4
   ·exact Gm.restrict hm h4
   ·obtain⟨j',So⟩:=List.mem_iff_getElem?.1 h4
    obtain⟨_,_,_,_,_,_,_,c5⟩:=(hR.lO i C l hC hl).ex
    obtain⟨y0,_,pK⟩:=c5 j' a So
    exact pK.uf hm hR.pe Gm
 ·intro i j B C l m gW hB hC iC hl yD
  have hi:=hR.pe i l hl
  have hj:=hR.pe j m yD
  exact ji.sep i j B C l m gW ((hg i hi).1▸hB) ((hg j hj).1▸hC) iC PG (by rw[hm j hj];exact yD)
 ·refine⟨hS.os,hS.tape,hS.output,hS.size,Nat.le_of_eq hn.symm,fun i _=>rfl,?_,hS.cells,?_,?_,hS.other⟩
  ·rintro b o hb ⟨i,B,l,hB,iC,hl,hh⟩
   have hi:=hR.pe i l hl
   exact hS.yq b o hb ⟨i,B,l,(hg i hi).1▸hB,iC,PG,hh⟩
  ·intro i B hi hB hr
   exact hS.ro i B hi ((hg i hi).1▸hB) hr
  ·intro i B h1 h2;omega
def bY(n:Nat)(I R:af):Prop:=∀i,i<n→R.get i=I.get i
theorem bY.refl(n:Nat)(I:af):bY n I I:=fun _ _=>rfl
theorem B4(n:Nat)(I:af):bY n I I↔True:=⟨fun _=>trivial,fun _=>bY.refl n I⟩
theorem bY.trans{n:Nat}{I R ajT:af}(h:bY n I R)(h':bY n R ajT):bY n I ajT:=fun i hi=>(h' i hi).trans (h i hi)
theorem bY.le{n m:Nat}{I R:af}(h:bY n I R)(hm:m≤n):bY m I R:=fun i hi=>h i J
theorem B3{n:Nat}{I R:af}{B:cT}(h:n≤R.n):bY n I (R.push B)↔bY n I R:=by
 constructor
 ·intro hk i hi;have:=hk i hi;rwa[af.cu,if_neg J]at this
 ·intro hk i hi;rw[af.cu,if_neg J];exact hk i hi
theorem Fl{n j:Nat}{I R:af}{B:cT}(h:n≤j):bY n I (R.set j B)↔bY n I R:=by
 constructor
 ·intro hk i hi;have:=hk i hi;rwa[af.cX,if_neg J]at this
 ·intro hk i hi;rw[af.cX,if_neg J];exact hk i hi
theorem B2{n j:Nat}{I R:af}(h:n≤j):bY n I (R.kill j)↔bY n I R:=by
 constructor
 ·intro hk i hi;have:=hk i hi;rwa[af.jW,if_neg J]at this
 ·intro hk i hi;rw[af.jW,if_neg J];exact hk i hi
theorem ay{P:Program}{f:FuncId}{fn:Func}{c:Code}{args:List U}{I:af}{v:U}(ord:Nat→bD)(hm:P.follows .mixedOrders=true)
 (hf:P.funcs[f]? =some fn) (hn:(fn.name== "runtime.NumGoroutine")=false) (hb:fn.body=some c) (cq:(codeOk fn.ntmps ord c&&decide (args.length≤fn.ntmps))=true) (hv:v.lt I.n=true)
 (h:ko P ord c (mP P fn.results.toList fun x R=>x=v∧bY I.n I R) (bL args) I):Fn P f args I fun x R=>x=v∧R=I:=by
 obtain⟨x,R,hc,rfl,hk⟩:=bA ord hm hf hn hb cq h
 exact⟨x,I,hc.forget rfl (fun i hi=>⟨(hk i hi).symm,.inl (hk i hi)⟩) hv,rfl,rfl⟩
theorem Mq(b:Bool):Tp .not (.bool b)=some (.bool !b):=id rfl
theorem Mp(k:IntKind)(n:Int):Tp .neg (.int k n)=some (.int k (k.wrap (0-n))):=id rfl
theorem ec{P:Program}{f:FuncId}{fn:Func}{c:Code}{args:List U}{I ajS:af}{v:U}(ord:Nat→bD)(hm:P.follows .mixedOrders=true)
 (hf:P.funcs[f]? =some fn) (hn:(fn.name== "runtime.NumGoroutine")=false) (hb:fn.body=some c) (cq:(codeOk fn.ntmps ord c&&decide (args.length≤fn.ntmps))=true) (hv:v.lt I.n=true)
 (hr:ajS.n=I.n) (hl:∀i,i<I.n→ajS.get i=I.get i∨∀B,ajS.get i=some B→∃C,I.get i=some C∧∀a∈B.cells,a.lt I.n=true∨a∈C.cells)
 (h:ko P ord c (mP P fn.results.toList fun x R=>x=v∧bY I.n ajS R) (bL args) I):Fn P f args I fun x R=>x=v∧R=ajS:=by
 obtain⟨x,R,hc,rfl,hk⟩:=bA ord hm hf hn hb cq h
 exact⟨x,ajS,hc.forget hr (fun i hi=>⟨(hk i hi).symm,by rw[hk i hi];exact hl i hi⟩) hv,rfl,rfl⟩
theorem dJ{I:af}{j:Nat}{B C:cT}(hC:I.get j=some C)(h:∀a∈B.cells,a.lt I.n=true∨a∈C.cells):
 ∀i,i<I.n→(I.set j B).get i=I.get i∨∀D,(I.set j B).get i=some D→∃C,I.get i=some C∧∀a∈D.cells,a.lt I.n=true∨a∈C.cells:=by
 intro i _
 by_cases e:i=j
 ·right
  intro D hD
  rw[af.cX,if_pos e]at hD
  cases hD;subst e
  exact⟨C,hC,h⟩
 ·left;rw[af.cX,if_neg e]
theorem i9{n k:Nat}{bp cs Tz:List U}(hl:Tz.length=cs.length)(hk:k+cs.length≤bp.length)(h:∀a∈Tz,a.lt n=true∨a∈cs):∀a∈aB bp k Tz,a.lt n=true∨a∈aB bp k cs:=by
 intro a ha
 unfold aB at ha⊢
 simp only[List.mem_append]at ha⊢
 rcases ha with(ha|ha)|ha
 ·exact .inr (.inl (.inl ha))
 ·rcases h a ha with h|h
  ·exact .inl h
  ·exact .inr (.inl (.inr h))
 ·rw[hl]at ha;exact .inr (.inr ha)
theorem GV{α:Type}(c:α)(cs:List α)(j:Nat)(vs:List α):aB (c::cs) (j+1) vs=c::aB cs j vs:=by
 unfold aB;simp[Nat.add_right_comm]
theorem GU{α:Type}(c:α)(cs:List α)(v:α)(vs:List α):aB (c::cs) 0 (v::vs)=v::aB cs 0 vs:=by
 unfold aB;simp
theorem GR{α:Type}(cs:List α):aB cs 0 []=cs:=by
 unfold aB;simp
section
variable {bp cs vs:List U} {k j n:Nat}
theorem Og(h:k+cs.length≤bp.length):(aB bp k cs).length=bp.length:=by
 unfold aB;simp;omega
theorem E9(h:k+cs.length≤bp.length)(hj:j<cs.length):(aB bp k cs)[k+j]? =cs[j]? :=by
 unfold aB
 rw[List.getElem?_append_left bX,List.getElem?_append_right bX]
 congr 1
 simp;omega
theorem Lo(h:k+cs.length≤bp.length)(hj:0<cs.length):(aB bp k cs)[k]? =cs[0]? :=E9 (j:=0) h hj
theorem Fa(h:k+cs.length≤bp.length)(hj:j+n≤cs.length):((aB bp k cs).drop (k+j)).take n=(cs.drop j).take n:=by
 unfold aB
 rw[List.append_assoc,List.drop_append,List.drop_eq_nil_of_le bX,List.nil_append,List.drop_append,List.take_append]
 have e:k+j-(bp.take k).length=j:=by simp;omega
 rw[e]
 have:n-(cs.drop j).length=0:=by simp;omega
 rw[this];simp
theorem Lq(h:k+cs.length≤bp.length)(hj:n≤cs.length):((aB bp k cs).drop k).take n=cs.take n:=by
 have:=Fa (j:=0) (n:=n) h J
 simpa using this
theorem E_(h:k+cs.length≤bp.length)(hj:j+vs.length≤cs.length):aB (aB bp k cs) (k+j) vs=aB bp k (aB cs j vs):=by
 unfold aB
 apply List.ext_getElem?
 intro q
 simp only[List.getElem?_append,List.getElem?_take,List.getElem?_drop,List.length_append,List.length_take,List.length_drop]
 repeat' split
 all_goals first
  |rfl
  |(exfalso;omega)
  |(congr 1;omega)
theorem Lp(h:k+cs.length≤bp.length)(hj:vs.length≤cs.length):aB (aB bp k cs) k vs=aB bp k (aB cs 0 vs):=E_ (j:=0) h J
end
theorem lz(n:Nat)(kk:IntKind)(xs:List Int):U.HL n (xs.map (.int kk))=true:=by
 induction xs with
 |nil=>rfl
 |cons x xs ih=>simp[U.HL,U.lt,ih]
theorem ak{I:af}{B:cT}{i:Nat}(h:i<I.n):(I.push B).get i=I.get i:=by rw[af.cu,if_neg J]
theorem ai{I:af}{B:cT}{i j:Nat}(h:i≠j):(I.set j B).get i=I.get i:=by rw[af.cX,if_neg h]
theorem bg{I:af}{i j:Nat}(h:i≠j):(I.kill j).get i=I.get i:=by rw[af.jW,if_neg h]
theorem nu{R:af}{Y Z:cT}{i:Nat}(h:i<R.n):(R.push Z).set i Y=(R.set i Y).push Z:=by
 unfold af.push af.set
 congr 1
 funext j
 dsimp only
 by_cases e:j=i
 ·subst e;rw[if_pos rfl,if_neg J,if_pos rfl]
 ·rw[if_neg e,if_neg e]
theorem yk{R:af}{Z:cT}{i:Nat}(h:i<R.n):(R.push Z).kill i=(R.kill i).push Z:=by
 unfold af.push af.kill
 congr 1
 funext j
 dsimp only
 by_cases e:j=i
 ·subst e;rw[if_pos rfl,if_neg J,if_pos rfl]
 ·rw[if_neg e,if_neg e]
attribute [go_sem] nu yk
theorem Vd{α:Type}{a b:Nat}(h:a≤b)(x y:α):(if a≤b then x else y)=x:=if_pos h
theorem QX{α:Type}{a n:Int}(h:0≤a)(h':a<n)(x y:α):(if 0≤a∧a<n then x else y)=x:=if_pos ⟨h,h'⟩
theorem Fy(k k':IntKind)(x y:Int):n_ (.int k x) (.int k' y)=some (.int k (min x y)):=by
 unfold n_;simp only[Int.min_def];split<;>split<;>first|rfl|(exfalso;omega)|(congr 2;omega)
theorem Fx(k k':IntKind)(x y:Int):n9 (.int k x) (.int k' y)=some (.int k (max x y)):=by
 unfold n9;simp only[Int.max_def];split<;>split<;>first|rfl|(exfalso;omega)|(congr 2;omega)
theorem Nk{α:Type}{a n:Int}(h:1≤a)(h':a-1<n)(x y:α):(if 1≤a∧a-1<n then x else y)=x:=if_pos ⟨h,h'⟩
attribute [go_sem] Nk Fy Fx Vd QX
attribute [go_sem high] ak ai bg
attribute [go_sem] kH U.one List.all_cons List.all_nil iE GV GU GR E9 Lo Fa Lq E_ Lp Og List.take_succ_cons List.take_zero List.drop_succ_cons List.drop_zero List.nil_append List.cons_append List.append_nil List.length_cons List.length_nil
theorem Nm(a b:Int):(a==b)=decide (a=b):=by by_cases h:a=b<;>simp[h]
theorem Nn(a b:Int):(a != b)= !decide (a=b):=by by_cases h:a=b<;>simp[h,bne]
attribute [go_sem] Nm Nn Mq Mp B4 B3 Fl B2
end AH
namespace AH
open Go
theorem Rel.ii{P:Program}{ajR μ':Mu}{I σ':af}{w w':World}(hR:Rel ajR I w)(ji:Rel μ' σ' w')(hm:∀i,i<I.n→μ' i=ajR i)(hk:bY I.n I σ'){i:Nat}{B:cT}{l:Loc}(hB:I.get i=some B)(hl:ajR i=some l):mB ajR w' B l:=by
 have hi:=hR.pe i l hl
 obtain⟨arr,el,fr,b1,b2,b3,b4,b5⟩:=(ji.lO i B l ((hk i hi).trans hB) PG).ex
 refine⟨arr,el,fr,b1,b2,b3,b4,fun j a ha=>?_⟩
 obtain⟨y,hy,Gm⟩:=b5 j a ha
 obtain⟨_,_,_,_,_,_,_,c5⟩:=(hR.lO i B l hB hl).ex
 obtain⟨y0,_,pK⟩:=c5 j a ha
 exact⟨y,hy,pK.uf hm hR.pe Gm⟩
theorem mq.fresh{P:Program}{f:FuncId}{args:List U}{I σ':af}{j k n:Nat}{B:cT}(h:mq P f args I (.sl j k n 1) σ')(hk:bY I.n I σ')(hj:I.n≤j)(hB:σ'.get j=some B)(iC:B.rw=true)
 (hlen:k+n≤B.cells.length) (dG:U.HL I.n ((B.cells.drop k).take n)=true):mq P f args I (.sl I.n 0 n 1) (I.push ⟨(B.cells.drop k).take n,true⟩):=by
 refine⟨h.1,aV,fun ajR w us hR ms=>(h.2.2 ajR w us hR ms).mono ?_⟩
 rintro e w' ⟨u,μ',rfl,O_,ji,hS⟩
 have hm:∀i,i<I.n→μ' i=ajR i:=hS.ext
 cases O_ with
 |sl _ _ _ _ cap l off hl hn ho=>
  have hbj:=ji.lO j B l hB hl
  obtain⟨arr,el,fr,b1,b2,b3,b4,b5⟩:=hbj.ex
  have dU:∀b o,(⟨l.b,l.o+k,l.c-k⟩:Loc).has b o→l.has b o:=by
   rintro b o ⟨h1,h2,h3⟩
   dsimp only at h1 h2 h3
   exact⟨h1,J,J⟩
  let μ2:Mu:=fun i=>if i=I.n then some ⟨l.b,l.o+k,l.c-k⟩else ajR i
  have mD:μ2 I.n=some ⟨l.b,l.o+k,l.c-k⟩:=if_pos rfl
  have hold:∀i,i≠I.n→μ2 i=ajR i:=fun i hi=>if_neg hi
  have iH:∀i l,ajR i=some l→μ2 i=some l:=fun i l' h'=>by
   have:=hR.pe i l' h'
   rw[hold i J];exact h'
  have EA:Rel μ2 (I.push ⟨(B.cells.drop k).take n,true⟩) w':=by
   refine⟨?_,?_,?_⟩
   ·intro i l' df
    by_cases e:i=I.n
    ·simp[e]
    ·rw[hold i e]at df;have:=hR.pe i l' df;simp;omega
   ·intro i C l' hC df
    by_cases e:i=I.n
    ·subst e
     rw[mD]at df;cases df
     rw[af.cu,if_pos rfl]at hC;cases hC
     refine⟨arr,el,fr,b1,py,bX,fun _=>b4 iC,fun q a ha=>?_⟩
     have ha':=ha
     dsimp only at ha
     rw[List.getElem?_take]at ha
     split at ha
     ·rw[List.getElem?_drop]at ha
      obtain⟨y,hy,Gm⟩:=b5 (k+q) a ha
      refine⟨y,by rw[←hy];congr 1;dsimp only;omega,(Gm.restrict hm (iZ dG q a ha')).mono iH⟩
     ·cases ha
    ·rw[hold i e]at df
     have hi:=hR.pe i l' df
     rw[ak hi]at hC
     exact(Rel.ii (P:=P) hR ji hm hk hC df).mono iH
   ·intro i q C D l1 l2 MX hC hD ML pm pI
    by_cases e:i=I.n
    ·subst e
     rw[mD]at pm;cases pm
     rw[hold q (Ne.symm MX)]at pI
     have hq:=hR.pe q l2 pI
     rw[ak hq]at hD
     have:=ji.sep j q B D l l2 J hB ((hk q hq).trans hD) iC hl (by rw[hm q hq];exact pI)
     exact fun b o h1 h2=>this b o (dU b o h1) h2
    ·rw[hold i e]at pm
     have hi:=hR.pe i l1 pm
     rw[ak hi]at hC
     by_cases e':q=I.n
     ·subst e'
      rw[mD]at pI;cases pI
      have:=ji.sep i j C B l1 l J ((hk i hi).trans hC) hB ML (by rw[hm i hi];exact pm) hl
      exact fun b o h1 h2=>this b o h1 (dU b o h2)
     ·rw[hold q e']at pI
      have hq:=hR.pe q l2 pI
      rw[ak hq]at hD
      exact ji.sep i q C D l1 l2 MX ((hk i hi).trans hC) ((hk q hq).trans hD) ML (by rw[hm i hi];exact pm) (by rw[hm q hq];exact pI)
  refine⟨_,μ2,rfl,VR.sl I.n 0 n 1 cap ⟨l.b,l.o+k,l.c-k⟩ off mD hn ?_,EA,?_⟩
  ·rcases ho with⟨h1,h2⟩|h1
   ·left;constructor<;>simp only[Nat.add_zero,Nat.zero_add]<;>omega
   ·exact .inr h1
  ·refine⟨hS.os,hS.tape,hS.output,hS.size,aV,fun i hi=>hold i J,?_,hS.cells,?_,?_,hS.other⟩
   ·rintro b o hb ⟨i,C,l',hC,ML,df,hh⟩
    by_cases e:i=I.n
    ·subst e
     rw[mD]at df;cases df
     exact hS.yq b o hb ⟨j,B,l,hB,iC,hl,dU b o hh⟩
    ·rw[hold i e]at df
     have hi:=hR.pe i l' df
     rw[ak hi]at hC
     exact hS.yq b o hb ⟨i,C,l',(hk i hi).trans hC,ML,by rw[hm i hi];exact df,hh⟩
   ·intro i C hi hC hr
    rw[ak hi]at hC
    exact⟨C,hC,hr⟩
   ·intro i C h1 h2 hC
    have:i=I.n:=by simp at h2;omega
    rw[af.cu,if_pos this]at hC
    cases hC;rfl
theorem ld{P:Program}{f:FuncId}{fn:Func}{c:Code}{args:List U}{I:af}{xs:List U}(ord:Nat→bD)(hm:P.follows .mixedOrders=true)
 (hf:P.funcs[f]? =some fn) (hn:(fn.name== "runtime.NumGoroutine")=false) (hb:fn.body=some c) (cq:(codeOk fn.ntmps ord c&&decide (args.length≤fn.ntmps))=true) (hx:U.HL I.n xs=true)
 (h:ko P ord c (mP P fn.results.toList fun x R=>bY I.n I R∧∃j k B,x= .sl j k xs.length 1∧I.n≤j∧R.get j=some B∧B.rw=true∧k+xs.length≤B.cells.length∧(B.cells.drop k).take xs.length=xs) (bL args) I):
 Fn P f args I fun x R=>x= .sl I.n 0 xs.length 1∧R=I.push ⟨xs,true⟩:=by
 obtain⟨x,R,hc,hk,j,k,B,rfl,hj,hB,iC,hlen,he⟩:=bA ord hm hf hn hb cq h
 have:=hc.fresh hk hj hB iC hlen (by rw[he];exact hx)
 rw[he]at this
 exact⟨_,_,this,rfl,rfl⟩
end AH
namespace AH
open Go
inductive RV(ps:List (Nat×Nat))(n:Nat):U→U→Prop
 |same (a:U) (h:a.lt n=true):RV ps n a a
 |sl (t j k k' c e:Nat) (h:ps[t]? =some (j,k)):RV ps n (.sl (n+t) k' c e) (.sl j (k+k') c e)
 |ptr (t j k k':Nat) (h:ps[t]? =some (j,k)):RV ps n (.ptr (n+t) k') (.ptr j (k+k'))
 |agg (as bs:List U) (hl:as.length=bs.length) (h:∀(q:Nat) (a b:U),as[q]? =some a→bs[q]? =some b→RV ps n a b):RV ps n (.agg as) (.agg bs)
 |cw (as bs:List U) (hl:as.length=bs.length) (h:∀(q:Nat) (a b:U),as[q]? =some a→bs[q]? =some b→RV ps n a b):RV ps n (.cw as) (.cw bs)
def DD(ajR μ':Mu)(n:Nat)(ps:List (Nat×Nat)):Mu:=fun i=>if i<n then ajR i else
 match ps[i-n]? with
 |some (j,k)=>(μ' j).map fun l=>⟨l.b,l.o+k,l.c-k⟩
 |none=>none
theorem RV.vr{ps:List (Nat×Nat)}{n:Nat}{ajR μ':Mu}(hm:∀i,i<n→μ' i=ajR i)(hk:∀(t j k:Nat) (l:Loc),ps[t]? =some (j,k)→μ' j=some l→k≤l.c){a' a:U}(h:RV ps n a' a):
 ∀{u:Value},VR μ' a u→VR (DD ajR μ' n ps) a' u:=by
 have hold:∀i l,i<n→ajR i=some l→DD ajR μ' n ps i=some l:=fun i l hi hl=>by unfold DD;rw[if_pos hi];exact hl
 have mD:∀(t j k:Nat) (l:Loc),ps[t]? =some (j,k)→μ' j=some l→DD ajR μ' n ps (n+t)=some ⟨l.b,l.o+k,l.c-k⟩:=by
  intro t j k l h1 h2
  unfold DD
  rw[if_neg J,show n+t-n=t by omega,h1]
  simp[h2]
 induction h with
 |same a ha=>
  intro u hu
  have h1:VR ajR a u:=hu.restrict hm ha
  have key:∀{a:U} {u:Value},VR ajR a u→a.lt n=true→VR (DD ajR μ' n ps) a u:=by
   intro a u h
   induction h with
   |bool b=>exact fun _=> .bool b
   |int k n=>exact fun _=> .int k n
   |str s=>exact fun _=> .str s
   |ptr i k l hl=>intro dG;simp only[U.lt,decide_eq_true_eq]at dG;exact .ptr i k l (hold i l dG hl)
   |oS=>exact fun _=> .oS
   |sl i k m e cap l off hl hn ho=>intro dG;simp only[U.lt,decide_eq_true_eq]at dG;exact .sl i k m e cap l off (hold i l dG hl) hn ho
   |al=>exact fun _=> .al
   |fn f xs ys us vs hx hy h h' ih QY=>
    intro dG
    simp only[U.lt,Bool.and_eq_true]at dG
    exact .fn f xs ys us vs hx hy (fun j a u ha hu=>ih j a u ha hu (iZ dG.1 j a ha)) (fun j a u ha hu=>QY j a u ha hu (iZ dG.2 j a ha))
   |lA=>exact fun _=> .lA
   |iface t a u h ih=>intro dG;simp only[U.lt]at dG;exact .iface t a u (ih dG)
   |lB=>exact fun _=> .lB
   |agg cs us hl h ih=>intro dG;simp only[U.lt]at dG;exact .agg cs us hl fun j a u ha hu=>ih j a u ha hu (iZ dG j a ha)
   |cw cs us hl h ih=>intro dG;simp only[U.lt]at dG;exact .cw cs us hl fun j a u ha hu=>ih j a u ha hu (iZ dG j a ha)
   |undef u=>exact fun _=> .undef u
  exact key h1 ha
 |sl t j k k' c e h=>
  intro u hu
  cases hu with
  |sl _ _ _ _ cap l off hl hn ho=>
   have:=hk t j k l h hl
   refine .sl (n+t) k' c e cap ⟨l.b,l.o+k,l.c-k⟩ off (mD t j k l h hl) hn ?_
   rcases ho with⟨h1,h2⟩|h1
   ·left;dsimp only;omega
   ·exact .inr h1
 |ptr t j k k' h=>
  intro u hu
  cases hu with
  |ptr _ _ l hl=>
   have:=VR.ptr (ajR:=DD ajR μ' n ps) (n+t) k' ⟨l.b,l.o+k,l.c-k⟩ (mD t j k l h hl)
   rw[←Nat.add_assoc]
   exact this
 |agg as bs hl h ih=>
  intro u hu
  cases hu with
  |agg _ us df h'=>
   refine .agg as us (hl.trans df) fun q a u ha hu=>?_
   have hq:q<bs.length:=by rw[←hl];exact(List.getElem?_eq_some_iff.1 ha).1
   exact ih q a bs[q] ha (List.getElem?_eq_getElem hq) (h' q bs[q] u (List.getElem?_eq_getElem hq) hu)
 |cw as bs hl h ih=>
  intro u hu
  cases hu with
  |cw _ us df h'=>
   refine .cw as us (hl.trans df) fun q a u ha hu=>?_
   have hq:q<bs.length:=by rw[←hl];exact(List.getElem?_eq_some_iff.1 ha).1
   exact ih q a bs[q] ha (List.getElem?_eq_getElem hq) (h' q bs[q] u (List.getElem?_eq_getElem hq) hu)
def afG(ps:List (Nat×Nat))(n:Nat)(bw now new:Option cT):Prop:=
 (new=bw∧now=bw)∨(new=none)∨∃B C D,now=some B∧new=some C∧bw=some D∧C.rw=B.rw∧C.cells.length=B.cells.length∧
   ∀(q:Nat) (a':U),C.cells[q]? =some a'→∃a,B.cells[q]? =some a∧(RV ps n a' a∨(a'=a∧a∈D.cells))
end AH
