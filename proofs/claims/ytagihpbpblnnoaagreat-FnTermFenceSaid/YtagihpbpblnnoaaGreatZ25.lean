import Derived.Test.YtagihpbpblnnoaaGreatZ02
import Derived.Test.YtagihpbpblnnoaaGreatZ05
import Derived.Shelf.Spec.SlicesInsertGrow
import Derived.Test.YtagihpbpblnnoaaGreatZ00
set_option linter.all false
namespace AH
open Go Go.Proofs
set_option maxRecDepth 10000
theorem kD(b:Nat):∀(vs:List Value) (o:Nat) (w:World) (arr:Array Value) (el:TypeId) (fr:Nat×Nat),w.heap[b]? =some (.cells arr el fr)→o+vs.length≤arr.size→
 ∃jb,(w.setCells b o vs).heap[b]? =some (.cells jb el fr)∧jb.size=arr.size∧(∀q,jb[q]? =if o≤q∧q<o+vs.length then vs[q-o]? else arr[q]?)∧
  (∀c,c≠b→(w.setCells b o vs).heap[c]? =w.heap[c]?)∧(w.setCells b o vs).os=w.os∧(w.setCells b o vs).tape=w.tape∧(w.setCells b o vs).output=w.output∧(w.setCells b o vs).heap.size=w.heap.size:=by
 intro vs
 induction vs with
 |nil=>intro o w arr el fr h _;exact⟨arr,h,rfl,fun q=>by rw[if_neg aV],fun _ _=>rfl,rfl,rfl,rfl,rfl⟩
 |cons v vs ih=>
  intro o w arr el fr h hs
  simp only[List.length_cons]at hs
  have hb:b<w.heap.size:=(Array.getElem?_eq_some_iff.1 h).1
  have h1:(w.setCell ⟨b,o,none⟩ v).heap[b]? =some (.cells (arr.setIfInBounds o v) el fr):=by
   simp only[World.setCell,Array.getElem?_modify,if_true,h]
   rfl
  obtain⟨jb,a1,a2,a3,a4,a5,a6,a7,a8⟩:=ih (o+1) (w.setCell ⟨b,o,none⟩ v) _ el fr h1 (by rw[Array.size_setIfInBounds];omega)
  refine⟨jb,a1,by rw[a2,Array.size_setIfInBounds],fun q=>?_,fun c hc=>(a4 c hc).trans ?_,a5,a6,a7,a8.trans ?_⟩
  ·rw[a3,Array.getElem?_setIfInBounds]
   by_cases c1:q=o
   ·subst c1
    rw[if_neg J,if_pos rfl,if_pos J,if_pos ⟨Nat.le_refl _,aV⟩]
    simp
   ·by_cases c2:o+1≤q∧q<o+1+vs.length
    ·rw[if_pos c2,if_pos bX,show q-o=(q-(o+1))+1 by omega];simp
    ·rw[if_neg c2,if_neg (Ne.symm c1),if_neg bX]
  ·simp only[World.setCell,Array.getElem?_modify]
   rw[if_neg (Ne.symm hc)]
  ·simp[World.setCell]
def Dz:Go.Shelf.Ren:=⟨fun n=>if n=21 then 279 else if n=27 then 284 else if n=28 then 285 else if n=35 then 287 else 288,fun t=>if t=22 then 36 else t,fun g=>g⟩
theorem xU:Lays2.n21 Tryz.prog Dz where
 mixed:=mixed
 f21:=by kernel_rfl
 f27:=by kernel_rfl
 f28:=by kernel_rfl
 f35:=by kernel_rfl
 f39:=by kernel_rfl
 t0:=by kernel_rfl
 a0:=fun w=>by kernel_rfl
 z0:=fun w=>by kernel_rfl
 v0:=fun w=>by kernel_rfl
 t3:=by kernel_rfl
 a3:=fun w=>by kernel_rfl
 z3:=fun w=>by kernel_rfl
 v3:=fun w=>by kernel_rfl
 t4:=by kernel_rfl
 a4:=fun w=>by kernel_rfl
 z4:=fun w=>by kernel_rfl
 v4:=fun w=>by kernel_rfl
 t22:=by kernel_rfl
 a22:=fun w=>by kernel_rfl
 z22:=fun w=>by kernel_rfl
 v22:=fun w=>by kernel_rfl
 i3:=by kernel_rfl
theorem v8:Enters Tryz.prog 279:=⟨_,Tryz.func279,rfl,rfl⟩
theorem tQ{kk:IntKind}(xs:List Int){ajR:Mu}{us:List Value}(h:fW ajR (xs.map (U.int kk)) us):us=xs.map (Value.int kk):=by
 obtain⟨hl,hv⟩:=h
 apply List.ext_getElem?
 intro j
 simp only[List.length_map]at hl
 by_cases hj:j<xs.length
 ·have h1:(xs.map (U.int kk))[j]? =some (.int kk xs[j]):=by simp[hj]
  obtain⟨u,h2⟩:∃u,us[j]? =some u:=⟨us[j],List.getElem?_eq_getElem J⟩
  have:=hv j _ _ h1 h2
  cases this
  rw[h2]
  simp[hj]
 ·rw[List.getElem?_eq_none J,List.getElem?_eq_none bX]
theorem qy{w:World}{b:Nat}{arr:Array Value}{el:TypeId}(h:w.heap[b]? =some (.cells arr el (0,0)))(o:Nat):w.frozen? ⟨b,o,none⟩=false:=by
 simp[World.frozen?,h]
theorem Mv{w:World}{b:Nat}{arr:Array Value}{el:TypeId}{fr:Nat×Nat}(h:w.heap[b]? =some (.cells arr el fr))(o:Nat):w.cell? ⟨b,o,none⟩=arr[o]? :=by
 simp[World.cell?,h]
theorem DY{ajR:Mu}{i k n e:Nat}{u:Value}(h:VR ajR (.sl i k n e) u):∃(cap:Nat) (l:Loc) (off:Nat),u= .slice (some ⟨l.b,off,none⟩) n cap∧ajR i=some l∧(n≤cap∧cap≤9223372036854775807)∧((off=l.o+k∧k+cap*e≤l.c)∨cap=0):=by
 cases h
 exact⟨_,_,_,rfl,bZ,bZ,bZ⟩
theorem Nl{I:af}{q:Nat}{x:Int}(hq:I.get q=some ⟨[.int .i64 x],true⟩):
 mq Tryz.prog 279 [.al,.int .i64 0,.sl q 0 1 1] I (.sl I.n 0 1 1) (I.push ⟨[.int .i64 x],true⟩):=by
 refine⟨v8,aV,?_⟩
 rintro ajR w ⟨us⟩ hR ⟨hlen,hv⟩
 match us,hlen with
 |[u0,u1,u2],_=>
 have a0:VR ajR .al u0:=hv 0 _ _ rfl rfl
 have a1:VR ajR (.int .i64 0) u1:=hv 1 _ _ rfl rfl
 have a2:VR ajR (.sl q 0 1 1) u2:=hv 2 _ _ rfl rfl
 cases a0;cases a1
 obtain⟨cap,l,off,rfl,hl,Dm,ho⟩:=DY a2
 have na:off=l.o:=J
 subst na
 obtain⟨ws,HI,Mc⟩:=(hR.lO q _ l hq hl).rows
 have QM:ws=[Value.int .i64 x]:=tQ [x] HI
 subst QM
 have key:=Any2.slices_Insert_int_end_grow xU none 0 0 l.b l.o 1 cap [] [Value.int .i64 x] w J J J J rfl rfl (fun _=>rfl) (fun a h=>by cases h) Mc (by simp[Value.oneCell'])
 refine Calls.mono key ?_
 rintro e w' ⟨rfl,rfl⟩
 obtain⟨μ',_,hn,hmm,ji,hS⟩:=ku (P:=Tryz.prog) hR.drew [.int .i64 x] [Value.int .i64 x] (Builtin.zeroCells (Value.int .i64 0).cells (grownCap w (0+1) 0 3-(0+1))).toList 3 (by exact HI)
 have rV:([Value.int .i64 x]++(Builtin.zeroCells (Value.int .i64 0).cells (grownCap w (0+1) 0 3-(0+1))).toList).toArray=(([]++[Value.int .i64 x]:List Value).toArray++Builtin.zeroCells (Value.int .i64 0).cells (grownCap w (0+1) 0 3-(0+1))):=by apply Array.ext';simp
 rw[rV]at ji hS
 have Dc:=grownCap_ge w (0+1) 0 3
 have hle:=grownCap_le_maxLen w (0+1) 0 3 fX
 refine⟨_,μ',rfl,?_,ji,(Step.drew ajR I w).trans hS⟩
 refine .sl I.n 0 1 1 _ _ 0 (by simpa using hn) ⟨Dc,hle⟩ (.inl ⟨rfl,?_⟩)
 simp[Builtin.zeroCells,Value.cells]
 omega
theorem Q1{I:af}{i k q:Nat}{pre:List U}{xs:List Int}{x:Int}(hi:I.get i=some ⟨pre++xs.map (.int .i64),true⟩)(hk:pre.length=k)(hx:0<xs.length)(hxl:xs.length≤1000000)(hq:I.get q=some ⟨[.int .i64 x],true⟩)(MX:i≠q):
 mq Tryz.prog 279 [.sl i k xs.length 1,.int .i64 0,.sl q 0 1 1] I (.sl I.n 0 (xs.length+1) 1) ((I.kill i).push ⟨(x::xs).map (.int .i64),true⟩):=by
 refine⟨v8,aV,?_⟩
 rintro ajR w ⟨us⟩ hR ⟨hlen,hv⟩
 match us,hlen with
 |[u0,u1,u2],_=>
 have a0:VR ajR (.sl i k xs.length 1) u0:=hv 0 _ _ rfl rfl
 have a1:VR ajR (.int .i64 0) u1:=hv 1 _ _ rfl rfl
 have a2:VR ajR (.sl q 0 1 1) u2:=hv 2 _ _ rfl rfl
 cases a1
 obtain⟨Wk,lq,adE,rfl,Uu,vhn,vho⟩:=DY a2
 have YI:adE=lq.o:=J
 subst YI
 obtain⟨cap,l,off,rfl,hl,Dm,ho⟩:=DY a0
 have na:off=l.o+k∧k+cap≤l.c:=J
 obtain⟨rfl,Qo⟩:=na
 have gF:lq.b≠l.b:=fun e=>hR.sep i q _ _ l lq MX hi hq rfl hl Uu l.b 0 ⟨rfl,Nat.le_refl _,Nat.le_refl _⟩ ⟨e.symm,Nat.le_refl _,Nat.le_refl _⟩
 obtain⟨arr,el,fr,hb,uB,oh,jn,og⟩:=(hR.lO i _ l hi hl).ex
 obtain rfl:=jn rfl
 obtain⟨arq,elq,frq,Gc,ahE,aeE,aaF,_⟩:=(hR.lO q _ lq hq Uu).ex
 obtain rfl:=aaF rfl
 obtain⟨ws,HI,Mc⟩:=(hR.lO q _ lq hq Uu).rows
 have QM:ws=[Value.int .i64 x]:=tQ [x] HI
 subst QM
 obtain⟨rs,hrs,hrc⟩:=(hR.lO i _ l hi hl).rows
 have Gg:=hrs.drop k
 simp only[hk.symm,List.drop_left]at Gg
 have UG:=tQ xs Gg
 rw[hk]at UG
 have uz:∀(j:Nat) (v:Value),(xs.map (Value.int .i64))[j]? =some v→w.cell? ⟨l.b,l.o+k+j,none⟩=some v:=by
  intro j v hj
  rw[←UG,List.getElem?_drop]at hj
  rw[Nat.add_assoc];exact hrc _ _ hj
 have h1c:∀v∈xs.map (Value.int .i64),v.oneCell'=true:=by
  intro v hv
  obtain⟨y,_,rfl⟩:=List.mem_map.1 hv
  rfl
 have h1v:∀v∈[Value.int .i64 x],v.oneCell'=true:=by
  intro v hv
  obtain rfl:=List.mem_singleton.1 hv
  rfl
 simp only[List.length_append,List.length_map]at oh
 have aeP:∀(jb:Array Value),jb[l.o+k]? =some (.int .i64 x)→True:=fun _ _=>trivial
 by_cases nf:xs.length+1≤cap
 ·have key:=Any2.slices_Insert_int_shift xU l.b (l.o+k) xs.length cap 0 lq.b lq.o 1 Wk (xs.map (Value.int .i64)) [Value.int .i64 x] w hx J nf Dm.2 gF aV rfl uz
   (fun j hj=>by rw[Mv hb,Array.getElem?_eq_getElem J];rfl) (fun j _=>qy hb _) Mc h1c h1v elq el arq.size arr.size (by simp[World.shape?,Gc]) (by simp[World.shape?,hb]) J (qy Gc _) (qy Gc _)
  refine Calls.mono key ?_
  rintro e w' ⟨rfl,rfl⟩
  simp only[Nat.add_zero,Nat.zero_add,List.drop_zero]
  have pG:w.drew.heap[l.b]? =some (.cells arr el (0,0)):=hb
  obtain⟨Mm,b1,b2,b3,b4,b5,b6,b7,b8⟩:=kD l.b (xs.map (Value.int .i64)) (l.o+k+1) w.drew arr el (0,0) pG bX
  obtain⟨ZD,c1,c2,c3,c4,c5,c6,c7,c8⟩:=kD l.b [Value.int .i64 x] (l.o+k) (w.drew.setCells l.b (l.o+k+1) (xs.map (Value.int .i64))) Mm el (0,0) b1 bX
  obtain⟨R9,Sa⟩:=hR.drew.move hi rfl hl k cap Qo bX bX
  have R2:((I.kill i).push ⟨(pre++xs.map (U.int .i64)).drop k,true⟩).get I.n=some ⟨(pre++xs.map (U.int .i64)).drop k,true⟩:=by simp[af.cu]
  have pm:(ajR.gl I.n ⟨l.b,l.o+k,cap⟩) I.n=some ⟨l.b,l.o+k,cap⟩:=by simp[Mu.gl]
  obtain⟨EA,vL⟩:=R9.write R2 rfl pm ((x::xs).map (.int .i64)) pG c1 (by rw[c2,b2]) bX
   (by
     intro j a ha
     simp only[List.map_cons]at ha
     dsimp only
     rw[c3,b3]
     cases j with
     |zero=>
      simp only[List.getElem?_cons_zero,Option.some.injEq]at ha
      subst ha
      exact⟨.int .i64 x,by rw[if_pos aV];simp,.int _ _⟩
     |succ j=>
      simp only[List.getElem?_cons_succ]at ha
      have hj:j<xs.length:=by have:=(List.getElem?_eq_some_iff.1 ha).1;simpa using this
      have:a= .int .i64 xs[j]:=by simpa[hj]using ha.symm
      subst this
      refine⟨.int .i64 xs[j],?_,.int _ _⟩
      rw[if_neg aV,if_pos bX,show l.o+k+(j+1)-(l.o+k+1)=j by omega]
      simp[hj])
   (by
     intro o ho
     dsimp only at ho
     rw[c3,b3,if_neg bX,if_neg bX])
   (fun b eR=>(c4 b eR).trans (b4 b eR)) (c5.trans b5) (c6.trans b6) (c7.trans b7) (c8.trans b8)
  have HD:∀X Y:cT,((I.kill i).push X).set I.n Y=(I.kill i).push Y:=fun X Y=>jI (I:=I.kill i) X Y
  rw[HD]at EA vL
  exact⟨_,_,rfl,.sl I.n 0 (xs.length+1) 1 cap ⟨l.b,l.o+k,cap⟩ (l.o+k) pm ⟨nf,Dm.2⟩ (.inl ⟨rfl,aV⟩),EA,(Step.drew _ _ _).trans (Sa.trans vL)⟩
 ·have key:=Any2.slices_Insert_int_grow xU l.b (l.o+k) xs.length cap 0 lq.b lq.o 1 Wk (xs.map (Value.int .i64)) [Value.int .i64 x] w hx J Dm.1 J J aV rfl uz Mc h1c h1v
  refine Calls.mono key ?_
  rintro e w' ⟨rfl,rfl⟩
  have Dc:=grownCap_ge w (xs.length+1) cap 3
  have hle:=grownCap_le_maxLen w (xs.length+1) cap 3 (by unfold maxLen;omega)
  unfold maxLen at hle
  simp only[Nat.zero_add,List.drop_zero]
  obtain⟨Z8,T2⟩:=hR.kill i
  obtain⟨la,OT⟩:∃la,la=(((xs.map (Value.int .i64)).take 0).toArray++Builtin.zeroCells (Value.int .i64 0).cells (xs.length+1-0)++Builtin.zeroCells (Value.int .i64 0).cells (grownCap w (xs.length+1) cap (Dz.t 3)-(xs.length+1))):=⟨_,rfl⟩
  have UK:la.size=grownCap w (xs.length+1) cap 3:=by
   rw[OT]
   have e3:Dz.t 3=3:=rfl
   rw[e3]
   simp[Builtin.zeroCells,Value.cells]
   omega
  rw[←OT]
  obtain⟨μ1,_,jq,X6,R9,Sa⟩:=ku (P:=Tryz.prog) Z8 [] [] la.toList 3 (fW.nil ajR)
  rw[show(([]:List Value)++la.toList).toArray=la by simp]at R9 Sa
  have pG:((w.alloc (.cells la 3)).drew).heap[w.heap.size]? =some (.cells la 3 (0,0)):=by
   show(w.heap.push (.cells la 3 (0,0)))[w.heap.size]? =_
   simp
  obtain⟨Mm,b1,b2,b3,b4,b5,b6,b7,b8⟩:=kD w.heap.size [Value.int .i64 x] 0 ((w.alloc (.cells la 3)).drew) la 3 (0,0) pG bX
  have b1':((((w.alloc (.cells la 3)).drew).setCells w.heap.size 0 [Value.int .i64 x]).drew).heap[w.heap.size]? =some (.cells Mm 3 (0,0)):=b1
  obtain⟨ZD,c1,c2,c3,c4,c5,c6,c7,c8⟩:=kD w.heap.size (xs.map (Value.int .i64)) 1 ((((w.alloc (.cells la 3)).drew).setCells w.heap.size 0 [Value.int .i64 x]).drew) Mm 3 (0,0) b1' bX
  have R2:((I.kill i).push ⟨[],true⟩).get (I.kill i).n=some ⟨[],true⟩:=by simp[af.cu]
  simp only[List.nil_append,Array.length_toList]at jq
  obtain⟨EA,vL⟩:=R9.drew.write R2 rfl jq ((x::xs).map (.int .i64)) pG c1 (by rw[c2,b2]) bX
   (by
     intro j a ha
     simp only[List.map_cons]at ha
     dsimp only
     rw[c3,b3]
     cases j with
     |zero=>
      simp only[List.getElem?_cons_zero,Option.some.injEq]at ha
      subst ha
      exact⟨.int .i64 x,aV,.int _ _⟩
     |succ j=>
      simp only[List.getElem?_cons_succ]at ha
      have hj:j<xs.length:=by have:=(List.getElem?_eq_some_iff.1 ha).1;simpa using this
      have:a= .int .i64 xs[j]:=by simpa[hj]using ha.symm
      subst this
      refine⟨.int .i64 xs[j],?_,.int _ _⟩
      rw[if_pos bX,show 0+(j+1)-1=j by omega]
      simp[hj])
   (by
     intro o ho
     dsimp only at ho
     rw[c3,b3,if_neg bX,if_neg bX])
   (fun b eR=>(c4 b eR).trans (b4 b eR)) (c5.trans b5) (c6.trans b6) (c7.trans b7) (c8.trans b8)
  rw[jI]at EA vL
  exact⟨_,_,rfl,.sl I.n 0 (xs.length+1) 1 (grownCap w (xs.length+1) cap 3) ⟨w.heap.size,0,la.size⟩ 0 jq ⟨Dc,hle⟩ (.inl ⟨rfl,by show 0+_*1≤la.size;omega⟩),EA,T2.trans (Sa.trans ((Step.drew _ _ _).trans vL))⟩
end AH
