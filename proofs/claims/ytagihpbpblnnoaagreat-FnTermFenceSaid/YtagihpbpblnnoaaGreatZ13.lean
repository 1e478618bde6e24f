import Derived.Test.YtagihpbpblnnoaaGreatZ09
import Derived.Test.YtagihpbpblnnoaaGreatZ00
set_option linter.all false
namespace AH
open Go Go.Proofs Ho
set_option maxRecDepth 10000
set_option maxHeartbeats 4000000
theorem jP{P:Program}{f:FuncId}{fn:Func}{c:Code}{args:List U}{I:af}{α:Type}(V:α→U)(H:α→af)(F:α→Prop)(ord:Nat→bD)(hm:P.follows .mixedOrders=true)
 (hf:P.funcs[f]? =some fn) (hn:(fn.name== "runtime.NumGoroutine")=false) (hb:fn.body=some c) (cq:(codeOk fn.ntmps ord c&&decide (args.length≤fn.ntmps))=true)
 (hv:∀a,F a→(V a).lt I.n=true) (hr:∀a,F a→(H a).n=I.n) (hl:∀a,F a→∀i,i<I.n→(H a).get i=I.get i∨∀B,(H a).get i=some B→∃C,I.get i=some C∧∀a∈B.cells,a.lt I.n=true∨a∈C.cells)
 (h:ko P ord c (mP P fn.results.toList fun x R=>∃a,x=V a∧bY I.n (H a) R∧F a) (bL args) I):Fn P f args I fun x R=>∃a,x=V a∧R=H a∧F a:=by
 obtain⟨x,R,hc,a,rfl,hk,hF⟩:=bA ord hm hf hn hb cq h
 exact⟨V a,H a,hc.forget (hr a hF) (fun i hi=>⟨(hk i hi).symm,by rw[hk i hi];exact hl a hF i hi⟩) (hv a hF),a,rfl,rfl,hF⟩
theorem eK{P:Program}{g:FuncId}{args:List U}{I:af}{α:Type}{V:α→U}{H:α→af}{F:α→Prop}(k:U→af→Prop)(h:Fn P g args I fun x R=>∃a,x=V a∧R=H a∧F a):
 @dN P (.fn g [] []) args I ⟨k⟩= @Alt (∀a,F a→k (V a) (H a)) ⟨@dN P (.fn g [] []) args I ⟨k⟩⟩:=by
 refine propext ⟨fun hh=> .inr hh,fun hh=>?_⟩
 rcases hh with hh|hh
 ·refine aw h ?_
  rintro v σ' _ ⟨a,rfl,rfl,hF⟩
  exact hh a hF
 ·exact hh
theorem pa1(p:Int):p+1+1=p+2:=J
theorem pa2(p:Int):p+2+1=p+3:=J
theorem pa3(p:Int):p+3+1=p+4:=J
theorem pa4(p:Int):p+4+1=p+5:=J
theorem pa5(p:Int):p+5+1=p+6:=J
theorem pa6(p:Int):p+6+1=p+7:=J
theorem pa7(p:Int):p+7+1=p+8:=J
theorem pa8(p:Int):p+8+1=p+9:=J
theorem pa9(p:Int):p+9+1=p+10:=J
theorem acm(p:Int):p+10+1=p+11:=J
theorem acn(p:Int):p+11+1=p+12:=J
theorem aco(p:Int):p+12+1=p+13:=J
theorem acp(p:Int):p+13+1=p+14:=J
theorem acq(p:Int):p+14+1=p+15:=J
theorem acr(p:Int):p+15+1=p+16:=J
theorem acs(p:Int):p+16+1=p+17:=J
theorem act(p:Int):p+17+1=p+18:=J
theorem acu(p:Int):p+18+1=p+19:=J
theorem acv(p:Int):p+19+1=p+20:=J
theorem acw(p:Int):p+20+1=p+21:=J
theorem acx(p:Int):p+21+1=p+22:=J
theorem acy(p:Int):p+22+1=p+23:=J
theorem acz(p:Int):p+23+1=p+24:=J
theorem acA(p:Int):p+24+1=p+25:=J
theorem acB(p:Int):p+25+1=p+26:=J
theorem acC(p:Int):p+26+1=p+27:=J
theorem acD(p:Int):p+27+1=p+28:=J
theorem acE(p:Int):p+28+1=p+29:=J
theorem acF(p:Int):p+29+1=p+30:=J
theorem acG(p:Int):p+30+1=p+31:=J
theorem acH(p:Int):p+31+1=p+32:=J
theorem acI(p:Int):p+32+1=p+33:=J
theorem acJ(p:Int):p+33+1=p+34:=J
theorem acK(p:Int):p+34+1=p+35:=J
theorem acL(p:Int):p+35+1=p+36:=J
theorem acM(p:Int):p+36+1=p+37:=J
theorem acN(p:Int):p+37+1=p+38:=J
theorem acO(p:Int):p+38+1=p+39:=J
theorem acP(p:Int):p+39+1=p+40:=J
theorem acQ(p:Int):p+40+1=p+41:=J
theorem acR(p:Int):p+41+1=p+42:=J
theorem acS(p:Int):p+42+1=p+43:=J
theorem acT(p:Int):p+43+1=p+44:=J
theorem acU(p:Int):p+44+1=p+45:=J
theorem acV(p:Int):p+45+1=p+46:=J
theorem acW(p:Int):p+46+1=p+47:=J
theorem acX(p:Int):p+47+1=p+48:=J
theorem acY(p:Int):p+48+1=p+49:=J
theorem acZ(p:Int):p+49+1=p+50:=J
theorem ac0(p:Int):p+50+1=p+51:=J
theorem ac1(p:Int):p+51+1=p+52:=J
theorem ac2(p:Int):p+52+1=p+53:=J
theorem ac3(p:Int):p+53+1=p+54:=J
theorem ac4(p:Int):p+54+1=p+55:=J
theorem ac5(p:Int):p+55+1=p+56:=J
theorem ac6(p:Int):p+56+1=p+57:=J
theorem ac7(p:Int):p+57+1=p+58:=J
theorem ac8(p:Int):p+58+1=p+59:=J
theorem ac9(p:Int):p+59+1=p+60:=J
theorem ac_(p:Int):p+60+1=p+61:=J
attribute [go_sem] pa1 pa2 pa3 pa4 pa5 pa6 pa7 pa8 pa9 acm acn aco acp acq acr acs act acu acv acw acx acy acz acA acB acC acD acE acF acG acH acI acJ acK acL acM acN acO acP acQ acR acS acT acU acV acW acX acY acZ ac0 ac1 ac2 ac3 ac4 ac5 ac6 ac7 ac8 ac9 ac_
def abQ(bs:List Int)(k:Int):Int:=
 let x:=at_ bs (k % bs.length)*131+at_ bs ((k*7+3) % bs.length)*1117+k*29+k/bs.length*53
 ((x.toNat ^^^ (x/64).toNat:Nat):Int)
def cY(bs:List Int)(k n:Int):Int:=if n<1∨bs=[]then 0 else if k<bs.length then at_ bs k % n else abQ bs k % n
theorem dC{bs:List Int}{k n:Int}(h:1≤n):0≤cY bs k n∧cY bs k n<n:=by
 unfold cY
 split
 ·omega
 ·split
  ·exact⟨Int.emod_nonneg _ J,Int.emod_lt_of_pos _ J⟩
  ·exact⟨Int.emod_nonneg _ J,Int.emod_lt_of_pos _ J⟩
structure Rd(I:af)(i:Nat)(bv:U)(bs:List Int)(p:Int):Prop where
 hi:i<I.n
 hg:I.get i=some ⟨[bv,.int .i64 p],true⟩
 hb:bu .u8 I bv bs
 ne:cn bv≠i∨bv= .al
 vt:∀j:Int,0≤at_ bs j∧at_ bs j≤255
 len:(bs.length:Int)≤2000
 hp:0≤p∧p≤1000000000
theorem Rd.push{I:af}{i:Nat}{bv:U}{bs:List Int}{p:Int}(h:Rd I i bv bs p){B:cT}:Rd (I.push B) i bv bs p:=
 ⟨by have:=h.hi;simp;omega,by rw[ak h.hi];exact h.hg,h.hb.push,h.ne,h.vt,h.len,h.hp⟩
theorem Rd.gl{I:af}{i:Nat}{bv:U}{bs:List Int}{p q:Int}(h:Rd I i bv bs p)(hq:0≤q∧q≤1000000000):Rd (I.set i ⟨[bv,.int .i64 q],true⟩) i bv bs q:=
 ⟨h.hi,by simp[af.cX],h.hb.set h.ne,h.ne,h.vt,h.len,hq⟩
theorem Rd.set{I:af}{i j:Nat}{bv:U}{bs:List Int}{p:Int}(h:Rd I i bv bs p){B:cT}(hj:i≠j)(hb:cn bv≠j∨bv= .al):Rd (I.set j B) i bv bs p:=
 ⟨h.hi,by rw[ai hj];exact h.hg,h.hb.set hb,h.ne,h.vt,h.len,h.hp⟩
theorem Oo{x:Int}(h:0≤x∧x<1000000000000):
 IntKind.i64.wrap ((BitVec.ofInt 64 x ^^^ BitVec.ofInt 64 (x/64)).toNat)=((x.toNat ^^^ (x/64).toNat:Nat):Int):=by
 obtain⟨n,rfl⟩:=Int.eq_ofNat_of_zero_le h.1
 have e:((n:Int)/64)=((n/64:Nat):Int):=J
 rw[e,BitVec.ofInt_natCast,BitVec.ofInt_natCast,BitVec.toNat_xor,BitVec.toNat_ofNat,BitVec.toNat_ofNat,Nat.mod_eq_of_lt J,Nat.mod_eq_of_lt J]
 have dG:n ^^^ n/64<2^40:=Nat.xor_lt_two_pow J J
 rw[wrap_i64 J]
 simp only[Int.toNat_natCast]
theorem LL(I:af)(i:Nat)(n:Int)(bv:U)(bs:List Int)(p:Int)(hr:Rd I i bv bs p)(hn: -1000000000000≤n∧n≤1000000000000)(hp:p≤999999999):Fn Tryz.prog 81 [.ptr i 0,.int .i64 n] I fun x R=>x= .int .i64 (cY bs p n)∧R=I.set i ⟨[bv,.int .i64 (p+1)],true⟩:=by
 refine ec Ay mixed Tryz.func81 (by kernel_rfl) rfl (by kernel_rfl) ?_ ?_ ?_ ?_
 ·rfl
 ·rfl
 ·exact dJ hr.hg (by
   intro a ha
   simp only[List.mem_cons,List.not_mem_nil,or_false]at ha⊢
   rcases ha with rfl|rfl
   ·exact .inr (.inl rfl)
   ·exact .inl rfl)
 obtain⟨hi,hg,hb,ne,BO,hlen,zX⟩:=hr
 have Uz:bs=[]↔(bs.length:Int)=0:=by cases bs<;>simp<;>omega
 by_cases h1:n<1
 ·simp+contextual (maxSteps:=1000000) (disch:=first|exact dA|fail) [go_sem,int_lt,-Int.not_le,-Int.not_lt,Ay,hg,cY,h1]
 by_cases h2:bs=[]
 ·simp+contextual (maxSteps:=1000000) (disch:=first|exact dA|fail) [go_sem,int_lt,-Int.not_le,-Int.not_lt,Ay,hg,cY,h1,h2]
 have h3:¬(bs.length:Int)=0:=fun h=>h2 (Uz.2 h)
 have qB:¬n=0:=J
 have b0:=BO p
 have lp:0<(bs.length:Int):=J
 have c1:0≤p % bs.length:=Int.emod_nonneg _ h3
 have c1':p % bs.length<bs.length:=Int.emod_lt_of_pos _ lp
 have c2:0≤(p*7+3) % bs.length:=Int.emod_nonneg _ h3
 have c2':(p*7+3) % bs.length<bs.length:=Int.emod_lt_of_pos _ lp
 have c3:0≤p/bs.length:=Int.ediv_nonneg zX.1 J
 have c3':p/bs.length≤p:=Int.ediv_le_self _ zX.1
 have b1:=BO (p % bs.length)
 have b2:=BO ((p*7+3) % bs.length)
 by_cases h4:(bs.length:Int)≤p
 ·simp+contextual (maxSteps:=1000000) (disch:=first|exact dA|fail) [go_sem,int_lt,-Int.not_le,-Int.not_lt,Ay,hg,cY,h1,h2,h3,qB,h4,Int.tdiv_eq_ediv_of_nonneg,Int.tmod_eq_emod_of_nonneg]
  have e:=Oo (x:=at_ bs (p % bs.length)*131+at_ bs ((p*7+3) % bs.length)*1117+p*29+p/bs.length*53) J
  exact(congrArg (fun z:Int=>z.tmod n) e).trans (Int.tmod_eq_emod_of_nonneg J)
 ·simp+contextual (maxSteps:=1000000) (disch:=first|exact dA|fail) [go_sem,int_lt,-Int.not_le,-Int.not_lt,Ay,hg,cY,h1,h2,h3,qB,h4,Int.tdiv_eq_ediv_of_nonneg,Int.tmod_eq_emod_of_nonneg]
@[go_sem] def Zq:=fun(I:af) i n bv bs p hr hn hp (aA:U→af→Prop)=>ar (k:=aA) (LL I i n bv bs p hr hn hp)
theorem aU{I:af}{j:Nat}(B:cT)(h:j=I.n):(I.push B).get j=some B:=by subst h;exact xA B
theorem au(I:af)(B:cT):(I.push B).n=I.n+1:=_root_.id rfl
theorem az(I:af)(i:Nat)(B:cT):(I.set i B).n=I.n:=_root_.id rfl
theorem aR(I:af)(i:Nat):(I.kill i).n=I.n:=_root_.id rfl
theorem AK{I:af}{j:Nat}(B C:cT)(h:j=I.n):(I.push B).set j C=I.push C:=by subst h;exact jI B C
attribute [go_sem] AK
def ug:U→Int
 | .int _ n=>n
 |_=>0
theorem nU(k:IntKind)(n:Int):ug (.int k n)=n:=_root_.id rfl
theorem Rd.mut{I:af}{i:Nat}{bv:U}{bs:List Int}{p:Int}(h:Rd I i bv bs p)(q:Int):
 ∀y,y<I.n→(I.set i ⟨[bv,.int .i64 q],true⟩).get y=I.get y∨∀B,(I.set i ⟨[bv,.int .i64 q],true⟩).get y=some B→∃C,I.get y=some C∧∀a∈B.cells,a.lt I.n=true∨a∈C.cells:=by
 refine dJ h.hg ?_
 intro a ha
 simp only[List.mem_cons,List.not_mem_nil,or_false]at ha⊢
 rcases ha with rfl|rfl
 ·exact .inr (.inl rfl)
 ·exact .inl rfl
theorem Ox(I:af)(i j n:Nat)(cs:List U)(bv:U)(bs:List Int)(p:Int)(hg:I.get j=some ⟨cs,true⟩)(hj:i<j∧j<I.n)(hc:(cs.map ug).map (.int .i64)=cs)(hn:cs.length=n)(hr:Rd I i bv bs p)(hp:p≤999999999)(hl:1≤n∧n≤1000):Fn Tryz.prog 109 [.ptr i 0,.sl j 0 n 1] I fun x R=>x= .int .i64 (at_ (cs.map ug) (cY bs p n))∧R=I.set i ⟨[bv,.int .i64 (p+1)],true⟩:=by
 refine ec aZ mixed Tryz.func109 (by kernel_rfl) rfl (by kernel_rfl) ?_ ?_ ?_ ?_
 ·rfl
 ·rfl
 ·exact hr.mut _
 subst hn
 have hx:bu .i64 I (.sl j 0 cs.length 1) (cs.map ug):=by
  have:=bu.own (kk:= .i64) (xs:=cs.map ug) hj.2 (rw:=true) (by rw[hc];exact hg)
  simpa using this
 have hq:=dC (bs:=bs) (k:=p) (n:=cs.length) J
 have qF:cn (.sl j 0 cs.length 1)≠i∨U.sl j 0 cs.length 1= .al:= .inl (by simp[cn];omega)
 have og:((cs.map ug).length:Int)=cs.length:=by simp
 have uW:=fun(R:af) (h:bu .i64 R (.sl j 0 cs.length 1) (cs.map ug)) (k:Int) (h0:0≤k) (h1:k<cs.length)=>ET (P:=Tryz.prog) (t:=3) h h0 J
 simp only[s6,cn,Vh]at uW
 simp+contextual (maxSteps:=1000000) (disch:=first|exact dA|fail) [go_sem,int_lt,-Int.not_le,-Int.not_lt,uW]
@[go_sem] def adP:=fun(I:af) i j n cs bv bs p hg hj hc hn hr hp hl (aA:U→af→Prop)=>ar (k:=aA) (Ox I i j n cs bv bs p hg hj hc hn hr hp hl)
theorem Ou(I:af)(i:Nat)(bv:U)(bs:List Int)(p:Int)(hr:Rd I i bv bs p)(hp:p≤999999000):Fn Tryz.prog 159 [.ptr i 0] I fun x R=>x=cV (1+cY bs p 3) (1+cY bs (p+1) 3) (1+cY bs (p+2) 3)∧R=I.set i ⟨[bv,.int .i64 (p+3)],true⟩:=by
 refine ec aZ mixed Tryz.func159 (by kernel_rfl) rfl (by kernel_rfl) ?_ ?_ ?_ ?_
 ·rfl
 ·rfl
 ·exact hr.mut _
 have q0:=dC (bs:=bs) (k:=p) (n:=3) J
 have q1:=dC (bs:=bs) (k:=p+1) (n:=3) J
 have q2:=dC (bs:=bs) (k:=p+2) (n:=3) J
 have zX:=hr.hp
 have hi:=hr.hi
 simp+contextual (maxSteps:=1000000) (disch:=first|exact dA|fail) [go_sem,int_lt,-Int.not_le,-Int.not_lt]
@[go_sem] def adM:=fun(I:af) i bv bs p hr hp (aA:U→af→Prop)=>ar (k:=aA) (Ou I i bv bs p hr hp)
theorem LK(I:af)(v:U)(xs:List Int)(hv:bu .u8 I v xs)(hl:(xs.length:Int)≤1000000000)(hx:∀j:Int,0≤at_ xs j∧at_ xs j≤255):
 Fn Tryz.prog 63 [v] I fun x R=>∃bv bs,x= .ptr I.n 0∧R=I.push ⟨[bv,.int .i64 0],true⟩∧bu .u8 I bv bs∧(bs.length:Int)≤2000∧∀j:Int,0≤at_ bs j∧at_ bs j≤255:=by
 refine bA aZ mixed Tryz.func63 (by kernel_rfl) rfl (by kernel_rfl) ?_
 have hL:=hv.aQ
 by_cases h:(xs.length:Int)≤2000
 ·simp+contextual (maxSteps:=1000000) (disch:=first|exact dA|fail) [go_sem,int_lt,-Int.not_le,-Int.not_lt,h]
  exact⟨v,rfl,xs,hv,h,hx⟩
 ·rcases hv.ex with⟨rfl,rfl⟩|⟨i,k,rfl,df⟩
  ·simp at h
  ·simp+contextual (maxSteps:=1000000) (disch:=first|exact dA|fail) [go_sem,int_lt,-Int.not_le,-Int.not_lt,h]
   refine⟨_,rfl,xs.take 2000,hv.take 2000 J,bX,fun j=>?_⟩
   have:=hx j
   unfold at_ at this⊢
   rw[List.getD_eq_getElem?_getD]at this⊢
   rw[List.getElem?_take]
   split
   ·exact this
   ·simp
end AH
namespace AH
open Go Go.Proofs Ho
def uL(s:Option (Nat×Nat×List U))(v:U×af)[a:Kt (Option (U×af))]:Option (U×af):=
 match s with
 |some (1,8,_)=>some v
 |some (1,1,_)=>some v
 |_=>a.val
theorem Pt(z:List U)(v:U×af)(a:Option (U×af)): @uL (some (1,8,z)) v ⟨a⟩=some v:=_root_.id rfl
theorem Ps(z:List U)(v:U×af)(a:Option (U×af)): @uL (some (1,1,z)) v ⟨a⟩=some v:=_root_.id rfl
theorem Ml{P:Program}{t:TypeId}{R:af}{q j n:Nat}{kk:IntKind}{x:Int}{xs:List Int}(hj:R.get j=some ⟨[.int kk x],true⟩)(hq:R.get q=some ⟨xs.map (.int kk),true⟩)(hn:xs.length=n)(hb:n≤1000000):
 cJ P t (.sl q 0 n 1) (.sl j 0 1 1) R= @uL (bR P t) (.sl R.n 0 (n+1) 1,(R.kill q).push ⟨(xs++[x]).map (.int kk),true⟩) ⟨cJ P t (.sl q 0 n 1) (.sl j 0 1 1) R⟩:=by
 unfold uL
 have key:∀(b:Nat) (z:List U),b≤8→bR P t=some (1,b,z)→cJ P t (.sl q 0 n 1) (.sl j 0 1 1) R=some (.sl R.n 0 (n+1) 1,(R.kill q).push ⟨(xs++[x]).map (.int kk),true⟩):=by
  intro b z hb8 h
  have e1:fZ 1 (.sl j 0 1 1) R=some [.int kk x]:=by simp[fZ,hj,U.one]
  have hm:(n+1)*b≤1000001*8:=Nat.mul_le_mul J hb8
  simp only[cJ,h,e1,eC,hq]
  rw[if_pos ⟨trivial,trivial,by simp[hn],J,J⟩]
  simp
 split
 ·rename_i h;exact key 8 _ J h
 ·rename_i h;exact key 1 _ J h
 ·rfl
attribute [go_sem] Ml Pt Ps
theorem EU{kk:IntKind}{I:af}{xs:List Int}{n:Nat}(hn:xs.length=n):bu kk (I.push ⟨xs.map (.int kk),true⟩) (.sl I.n 0 n 1) xs:=by
 subst hn
 exact bu.own (rw:=true) aV (by simp[af.cu])
theorem bf{kk:IntKind}{I:af}{q n:Nat}{xs:List Int}(hq:q<I.n)(hg:I.get q=some ⟨xs.map (.int kk),true⟩)(hn:xs.length=n):bu kk I (.sl q 0 n 1) xs:=by
 subst hn
 exact bu.own hq hg
theorem DN(v:U)(i:Int):E4 (s6 v i)=some (cn v):=_root_.id rfl
attribute [go_sem] DN
theorem bu.kill{kk:IntKind}{I:af}{v:U}{xs:List Int}{j:Nat}(h:bu kk I v xs)(hj:cn v≠j∨v= .al):bu kk (I.kill j) v xs:=by
 rcases h.ex with⟨rfl,rfl⟩|⟨i,k,rfl,hl⟩
 ·exact .nil
 ·obtain⟨h1,B,h2,h3⟩:=hl
  refine .mk' ⟨h1,B,?_,h3⟩
  rcases hj with hj|hj
  ·rw[bg (by simpa[cn]using hj)];exact h2
  ·cases hj
theorem bu.Mt{kk:IntKind}{I:af}{v:U}{xs:List Int}{n:Nat}(h:bu kk I v xs)(hl:v.lt n=true):cn v<n∨v= .al:=by
 rcases h.ex with⟨rfl,rfl⟩|⟨i,k,rfl,_⟩
 ·exact .inr rfl
 ·left;simpa[U.lt,cn]using hl
theorem Rd.kill{I:af}{i j:Nat}{bv:U}{bs:List Int}{p:Int}(h:Rd I i bv bs p)(hj:i≠j)(hb:cn bv≠j∨bv= .al):Rd (I.kill j) i bv bs p:=
 ⟨h.hi,by rw[bg hj];exact h.hg,h.hb.kill hb,h.ne,h.vt,h.len,h.hp⟩
theorem Mo{l:List Int}{x:Int}{P:Int→Prop}(h:∀j:Int,0≤j→j<l.length→P (at_ l j))(hx:P x):∀j:Int,0≤j→j<(l++[x]).length→P (at_ (l++[x]) j):=by
 intro j j0 j1
 by_cases e:j<l.length
 ·have:at_ (l++[x]) j=at_ l j:=by
   unfold at_;rw[List.getD_eq_getElem?_getD,List.getD_eq_getElem?_getD,List.getElem?_append_left J]
  rw[this];exact h j j0 e
 ·have:at_ (l++[x]) j=x:=by
   simp at j1
   unfold at_;rw[List.getD_eq_getElem?_getD,List.getElem?_append_right J,show j.toNat-l.length=0 by omega];rfl
  rw[this];exact hx
end AH
namespace AH
open Go Go.Proofs Ho
set_option maxRecDepth 20000
set_option maxHeartbeats 4000000
theorem dE{ws:List Int}(h:∀w∈ws,ci w)(a:Int):ci (bm ws a):=by
 unfold bm
 split
 ·unfold ci;omega
 ·exact bF h a
theorem Bv(I:af)(v:U)(ws:List Int)(a:Int)(hv:bu .u64 I v ws)(hW:∀w∈ws,ci w):Fn Tryz.prog 264 [v,.int .i64 a] I fun x R=>x= .int .i64 (dP ws a)∧R=I:=by
 refine ay aZ mixed Tryz.func264 (by kernel_rfl) rfl (by kernel_rfl) bE ?_
 have h1:=dE hW a
 simp+contextual (maxSteps:=1000000) (disch:=first|exact dA|fail) [go_sem,int_lt,-Int.not_le,-Int.not_lt,dP]
@[go_sem] def Zf:=fun(I:af) v ws a hv hW (aA:U→af→Prop)=>ar (k:=aA) (Bv I v ws a hv hW)
@[go_sem] def Ze:=fun(I:af) (b_:Bool) (v:U) (ws:List Int) (a:Int) (hv:b_=true→ bu .u64 I v ws) (hW:b_=true→ ∀w∈ws,ci w) (aA:U→af→Prop)=>aJ (k:=aA) b_ fun aY=>Bv I v ws a (hv aY) (hW aY)
theorem wG(I:af)(v:U)(ws:List Int)(hv:bu .u64 I v ws)(hW:∀w∈ws,ci w)(hl:(ws.length:Int)≤1000000):Fn Tryz.prog 79 [v] I fun x R=>x= .cw [cV (check ws).1.am (check ws).1.ah (check ws).1.bH,.bool (check ws).2]∧R=I:=by
 refine ay KA mixed Tryz.func79 (by kernel_rfl) rfl (by kernel_rfl) bE ?_
 have h0:=bF hW 0
 have hc:=aO (w:=at_ ws 0)
 have hn:ws=[]↔(ws.length:Int)=0:=by cases ws<;>simp<;>omega
 by_cases hz:ws=[]
 ·subst hz
  simp+contextual (maxSteps:=1000000) (disch:=first|exact dA|fail) [go_sem,int_lt,-Int.not_le,-Int.not_lt,KA,check,whole]
 have UR:¬(ws.length:Int)=0:=fun h=>hz (hn.2 h)
 obtain⟨vv,QL⟩:∃vv,aG (at_ ws 0)=vv:=⟨_,rfl⟩
 rw[QL]at hc
 simp+contextual (maxSteps:=1000000) (disch:=first|exact dA|fail) [go_sem,int_lt,-Int.not_le,-Int.not_lt,KA,hz,UR,QL,Int.tdiv_eq_ediv_of_nonneg,Int.tmod_eq_emod_of_nonneg]
 have uT:check ws=if aM.ok ⟨vv % 8,vv/8 % 8,vv/64⟩∧at_ ws 0=gH ⟨vv % 8,vv/8 % 8,vv/64⟩∧(ws.length:Int)=aM.size ⟨vv % 8,vv/8 % 8,vv/64⟩then(⟨vv % 8,vv/8 % 8,vv/64⟩,true)else(⟨0,0,0⟩,false):=by
  unfold check whole
  rw[if_neg hz]
  simp only[QL]
 refine Alt.mk (Alt.mk (Alt.mk (Alt.mk ⟨fun h=>?_,fun a1 a2 a3=>?_⟩)))
 ·rw[uT,if_neg (by rintro⟨b1,b2,b3⟩;rcases h with h|h|h;exact h b1;exact h b2;exact h b3)];exact⟨rfl,rfl,rfl,rfl⟩
 ·rw[uT,if_pos ⟨a1,a2,a3⟩];exact⟨rfl,rfl,rfl,rfl⟩
@[go_sem] def WC:=fun(I:af) v ws hv hW hl (aA:U→af→Prop)=>ar (k:=aA) (wG I v ws hv hW hl)
@[go_sem] def WB:=fun(I:af) (b_:Bool) (v:U) (ws:List Int) (hv:b_=true→ bu .u64 I v ws) (hW:b_=true→ ∀w∈ws,ci w) (hl:b_=true→ (ws.length:Int)≤1000000) (aA:U→af→Prop)=>aJ (k:=aA) b_ fun aY=>wG I v ws (hv aY) (hW aY) (hl aY)
theorem wW(I:af)(v:U)(ws:List Int)(hv:bu .u64 I v ws)(hW:∀w∈ws,ci w)(hl:(ws.length:Int)≤1000000):Fn Tryz.prog 175 [v] I fun x R=>x= .cw [cV (dh ws).1.am (dh ws).1.ah (dh ws).1.bH,.bool (dh ws).2]∧R=I:=by
 refine ay DG mixed Tryz.func175 (by kernel_rfl) rfl (by kernel_rfl) bE ?_
 have h0:=bF hW 0
 have hc:=aO (w:=at_ ws 0)
 have hn:ws=[]↔(ws.length:Int)=0:=by cases ws<;>simp<;>omega
 by_cases hz:ws=[]
 ·subst hz
  simp+contextual (maxSteps:=1000000) (disch:=first|exact dA|fail) [go_sem,int_lt,-Int.not_le,-Int.not_lt,DG,dh,whole]
 have UR:¬(ws.length:Int)=0:=fun h=>hz (hn.2 h)
 obtain⟨vv,QL⟩:∃vv,aG (at_ ws 0)=vv:=⟨_,rfl⟩
 rw[QL]at hc
 simp+contextual (maxSteps:=1000000) (disch:=first|exact dA|fail) [go_sem,int_lt,-Int.not_le,-Int.not_lt,DG,hz,UR,QL,Int.tdiv_eq_ediv_of_nonneg,Int.tmod_eq_emod_of_nonneg]
 have uT:dh ws=if aM.ok ⟨vv % 8,vv/8 % 8,vv/64⟩∧at_ ws 0=gH ⟨vv % 8,vv/8 % 8,vv/64⟩∧((ws.length:Int)=aM.size ⟨vv % 8,vv/8 % 8,vv/64⟩∨(ws.length:Int)=aP ⟨vv % 8,vv/8 % 8,vv/64⟩)then(⟨vv % 8,vv/8 % 8,vv/64⟩,true)else(⟨0,0,0⟩,false):=by
  unfold dh whole
  rw[if_neg hz]
  simp only[QL]
 refine Alt.mk (Alt.mk (Alt.mk (Alt.mk (Alt.mk ⟨fun h=>?_,fun a1 a2 a3=>?_⟩))))
 ·rw[uT,if_neg (by rintro⟨b1,b2,b3⟩;rcases h with h|h|h;exact h b1;exact h b2;rcases b3 with b3|b3;exact h.1 b3;exact h.2 b3)];exact⟨rfl,rfl,rfl,rfl⟩
 ·rw[uT,if_pos ⟨a1,a2,by by_cases e:(ws.length:Int)=aM.size ⟨vv % 8,vv/8 % 8,vv/64⟩;exact .inl e;exact .inr (a3 e)⟩];exact⟨rfl,rfl,rfl,rfl⟩
@[go_sem] def Xb:=fun(I:af) v ws hv hW hl (aA:U→af→Prop)=>ar (k:=aA) (wW I v ws hv hW hl)
@[go_sem] def Xa:=fun(I:af) (b_:Bool) (v:U) (ws:List Int) (hv:b_=true→ bu .u64 I v ws) (hW:b_=true→ ∀w∈ws,ci w) (hl:b_=true→ (ws.length:Int)≤1000000) (aA:U→af→Prop)=>aJ (k:=aA) b_ fun aY=>wW I v ws (hv aY) (hW aY) (hl aY)
theorem LJ(I:af)(v:U)(ws:List Int)(s p l':Int)(k:Int)(hv:bu .u64 I v ws)(hW:∀w∈ws,ci w)(hs:0≤s∧s≤10)(hp:0≤p∧p≤10):
 Fn Tryz.prog 265 [v,cV s p l',.int .i64 k] I fun x R=>x= .sl I.n 0 (cA ws ⟨s,p,l'⟩ (p*8+1).toNat (dP ws (dv ⟨s,p,l'⟩ k))).length 1∧R=I.push ⟨(cA ws ⟨s,p,l'⟩ (p*8+1).toNat (dP ws (dv ⟨s,p,l'⟩ k))).map (.int .i64),true⟩:=by
 have key:=ld (args:=[v,cV s p l',.int .i64 k]) (I:=I) (xs:=(cA ws ⟨s,p,l'⟩ (p*8+1).toNat (dP ws (dv ⟨s,p,l'⟩ k))).map (.int .i64)) aZ mixed Tryz.func265 (by kernel_rfl) rfl (by kernel_rfl) (lz _ _ _) ?_
 ·simpa using key
 generalize hL:cA ws ⟨s,p,l'⟩ (p*8+1).toNat (dP ws (dv ⟨s,p,l'⟩ k))=L
 simp+contextual (maxSteps:=1000000) (disch:=first|exact dA|fail) [go_sem,int_lt,-Int.not_le,-Int.not_lt]
 refine Alt.mk (Alt.mk ?_)
 refine aC (fun R_ env R=>∃(q:Nat),∃(a:Int),∃(l:List Int),env 7= .sl q 0 l.length 1∧env 8= .int .i64 a∧env 0=v∧env 4= .ptr I.n 0∧R_ ((p*8+1-l.length).toNat)∧(I.n<q∧q<R.n)∧(R.get q=some ⟨l.map (.int .i64),true⟩)∧(R.get I.n=some ⟨[.int .i64 s,.int .i64 p,.int .i64 l'],true⟩)∧(bu .u64 R v ws)∧(bY I.n I R)∧((l.length:Int)≤p*8+1)∧(0≤a∧a<4294967296)∧(L=l++cA ws ⟨s,p,l'⟩ (p*8+1-l.length).toNat a)) (by rintro R_ env R ⟨q,a,l,e7,e8,e0,e4,cz,hq,gq,g0,qF,hk,hl,ha,L5⟩;exact⟨_,cz,q,a,l,e7,e8,e0,e4,rfl,hq,gq,g0,qF,hk,hl,ha,L5⟩) ⟨I.n+1,_,[],aq,aq,aq,aq,trivial,?_,?_,?_,?_,?_,?_,?_,?_⟩ ?_
 rotate_left 8
 rintro m_ env R ⟨q,a,l,e7,e8,e0,e4,rfl,hq,gq,g0,qF,hk,hl,ha,L5⟩
 ·have Gc:cn v≠q∨v= .al:=by rcases hv.Mt hv.lt with h|h;exact .inl J;exact .inr h
  have BU:I.n≠q:=J
  simp+contextual (maxSteps:=1000000) (disch:=first|exact dA|fail) [go_sem,int_lt,-Int.not_le,-Int.not_lt,e0,e4,e7,e8,gq,g0]
  have lr:=aO (w:=bm ws (eV ⟨s,p,l'⟩ (a-1)))
  refine⟨fun b1 b2 b3=>Alt.mk (Alt.mk ⟨_,l++[a-1],aV,rfl,bX,J,aV,(qF.kill Gc).push.push,hk,bX,lr.1,by show ¬4294967296≤aG _;omega,?_⟩),fun hb=>?_⟩
  ·rw[L5,show(p*8+1-(l.length:Int)).toNat=((p*8+1).toNat-(l++[a-1]).length)+1 by simp;omega]
   conv=>lhs;unfold cA
   rw[if_pos ⟨J,b2⟩]
   simp
  ·have pD:L=l:=by
    rw[L5]
    cases hf:(p*8+1-(l.length:Int)).toNat with
    |zero=>simp[cA]
    |succ f=>
     unfold cA
     rw[if_neg (by rintro⟨c1,c2⟩;have:=hb J c2;omega)]
     simp
   rw[pD]
   exact⟨hk,rfl,J,Nat.le_refl _,by rw[List.take_of_length_le aV]⟩
 ·exact⟨J,aV⟩
 ·simp+arith [af.cu]
 ·simp+arith [af.cu]
 ·exact hv.push.push
 ·simp+contextual (maxSteps:=1000000) (disch:=first|exact dA|fail) [go_sem,int_lt,-Int.not_le,-Int.not_lt]
 ·simp;omega
 ·have:=aO (w:=bm ws (dv ⟨s,p,l'⟩ k));exact this
 ·rw[←hL];simp
end AH
namespace AH
open Go Go.Proofs Ho
set_option maxRecDepth 20000
set_option maxHeartbeats 8000000
theorem fb.keeps{I R:af}{b:Bk}{pv h0 h1 h2 h3 ov iv ev:U}(h:fb I b pv h0 h1 h2 h3 ov iv ev)(hk:bY I.n I R)(hn:I.n≤R.n):fb R b pv h0 h1 h2 h3 ov iv ev:=
 ⟨h.p.keeps hk h.p.lt hn,h.h0.keeps hk h.h0.lt hn,h.h1.keeps hk h.h1.lt hn,h.h2.keeps hk h.h2.lt hn,h.h3.keeps hk h.h3.lt hn,h.o.keeps hk h.o.lt hn,h.i.keeps hk h.i.lt hn,h.e.keeps hk h.e.lt hn⟩
theorem Ot(I:af)(b:Bk)(pv h0 h1 h2 h3 ov iv ev:U)(slot:Int)(hb:fb I b pv h0 h1 h2 h3 ov iv ev)(hs:dW b)(h: -1000000≤slot∧slot≤1000000):
 Fn Tryz.prog 167 [bV b pv h0 h1 h2 h3 ov iv ev,.int .i64 slot] I fun x R=>x= .sl I.n 0 (jp b slot).length 1∧R=I.push ⟨(jp b slot).map (.int .i64),true⟩:=by
 have key:=ld (args:=[bV b pv h0 h1 h2 h3 ov iv ev,.int .i64 slot]) (I:=I) (xs:=(jp b slot).map (.int .i64)) aZ mixed Tryz.func167 (by kernel_rfl) rfl (by kernel_rfl) (lz _ _ _) ?_
 ·simpa using key
 generalize hL:jp b slot=L
 have eR:=hb
 have BW:=hs
 obtain⟨vp,_,_,_,_,vo,_,_⟩:=hb
 obtain⟨_,⟨sp,qP⟩,_,⟨so,KR⟩,_,_⟩:=hs
 simp+contextual (maxSteps:=1000000) (disch:=first|exact dA|fail) [go_sem,int_lt,-Int.not_le,-Int.not_lt]
 refine aC (fun R_ env R=>∃(u:Int),∃(q:Nat),∃(l:List Int),env 6= .int .i64 u∧env 5= .sl q 0 l.length 1∧env 1= .int .i64 slot∧env 2= .ptr I.n 0∧R_ ((b.owner.length-u).toNat)∧(I.n<q∧q<R.n)∧(R.get q=some ⟨l.map (.int .i64),true⟩)∧(R.get I.n=some ⟨[.int .i64 b.am,pv,h0,h1,h2,h3,ov,iv,ev],true⟩)∧(fb R b pv h0 h1 h2 h3 ov iv ev)∧(bY I.n I R)∧(0≤u∧u≤b.owner.length)∧((l.length:Int)≤u)∧(cm b→L=l++(if 0≤slot then cB (b.owner.drop u.toNat) (slot+1) u else []))∧(¬cm b→l=[])) (by rintro R_ env R ⟨u,q,l,e6,e5,e1,e2,cz,hq,gq,g0,qF,hk,hu,hl,L5,hn⟩;exact⟨_,cz,u,q,l,e6,e5,e1,e2,rfl,hq,gq,g0,qF,hk,hu,hl,L5,hn⟩) ⟨0,I.n+1,[],aq,aq,aq,aq,trivial,?_,?_,?_,?_,?_,?_,?_,?_,?_⟩ ?_
 rotate_left 9
 rintro m_ env R ⟨u,q,l,e6,e5,e1,e2,rfl,hq,gq,g0,qF,hk,hu,hl,L5,hn⟩
 ·have YI:=qF.o
  have hbo:cn ov≠q∨ov= .al:=by rcases vo.Mt vo.lt with h|h;exact .inl J;exact .inr h
  have HF:=hu.1
  simp+contextual (maxSteps:=1000000) (disch:=first|exact dA|fail) [go_sem,int_lt,-Int.not_le,-Int.not_lt,e1,e2,e5,e6,gq,g0]
  have hT:∀A B,bY I.n I (((R.kill q).push A).push B):=by
   intro A B j hj
   rw[ak bX,ak bX,bg J]
   exact hk j hj
  refine Alt.mk ⟨fun di nL=>⟨fun hx gG=>?_,fun hx=>?_⟩,fun hex=>?_⟩
  ·have Je:=L5 di
   rw[if_pos gG,io hu.1 J]at Je
   simp only[cB,hx,if_true]at Je
   exact⟨l++[u],aV,J,J,aV,eR.keeps (hT _ _) bX,hk,J,J,bX,by rw[Je];simp⟩
  ·have Je:=L5 di
   refine⟨l,rfl,J,hq.1,hq.2,rfl,qF,hk,J,J,J,?_⟩
   rw[Je,io hu.1 J]
   by_cases gG:0≤slot
   ·rw[if_pos gG,if_pos gG]
    simp only[cB]
    rw[if_neg (fun h=>hx h gG)]
   ·rw[if_neg gG,if_neg gG]
  ·have pD:L=l:=by
    by_cases di:cm b
    ·rw[L5 di,Ew (hex di)]
     simp[cB]
    ·rw[hn di,←hL]
     unfold jp
     rw[if_neg (fun h=>di h.1)]
   rw[pD]
   exact⟨hk,rfl,J,Nat.le_refl _,by rw[List.take_of_length_le aV]⟩
 ·exact⟨J,aV⟩
 ·simp+arith [af.cu]
 ·simp+arith [af.cu]
 ·exact eR.push.push
 ·simp+contextual (maxSteps:=1000000) (disch:=first|exact dA|fail) [go_sem,int_lt,-Int.not_le,-Int.not_lt]
 ·exact⟨J,J⟩
 ·simp
 ·intro di
  rw[←hL]
  unfold jp
  by_cases gG:0≤slot
  ·rw[if_pos ⟨di,gG⟩,if_pos gG];simp
  ·rw[if_neg (fun h=>gG h.2),if_neg gG];simp
 ·intro _;rfl
end AH
